/- The abstract evaluator of the model, part 5: its soundness holds for every program whose table of types is the evaluator's. No further condition. -/
import Derived.Test.YtllapohmppeceaaDoorLd

/- Exchange of two operations. Condition: the isolated calls see nothing of the heap and do not panic. -/
namespace Go.Av
variable [Dr]

/-- Two environments that tell the same. -/
structure EqE (e e' : Env) : Prop where
  get : ∀ t, e'.get t = e.get t
  al : ∀ g, aliveG e'.al g = aliveG e.al g
  lb : ∀ B, lbSize e'.lb B = lbSize e.lb B
  lf : ∀ B, locFree e'.sl B = locFree e.sl B
omit [Dr] in
theorem EqE.refl (e : Env) : EqE e e := ⟨fun _ => rfl, fun _ => rfl, fun _ => rfl, fun _ => rfl⟩
omit [Dr] in
theorem EqE.symm {e e' : Env} (h : EqE e e') : EqE e' e := ⟨fun t => (h.get t).symm, fun t => (h.al t).symm, fun t => (h.lb t).symm, fun t => (h.lf t).symm⟩
omit [Dr] in
theorem EqE.trans {a b c : Env} (h : EqE a b) (g : EqE b c) : EqE a c :=
  ⟨fun t => (g.get t).trans (h.get t), fun t => (g.al t).trans (h.al t), fun t => (g.lb t).trans (h.lb t), fun t => (g.lf t).trans (h.lf t)⟩

def RE : R Env → R Env → Prop
  | .fail, _ => True
  | .ok e h, r => ∃ e', r = .ok e' h ∧ EqE e e'
  | .pan v h, r => r = .pan v h
omit [Dr] in
theorem RE.refl (r : R Env) : RE r r := by
  cases r with
  | ok e h => exact ⟨e, rfl, .refl e⟩
  | pan v h => exact rfl
  | fail => trivial
omit [Dr] in
theorem RE.trans {a b c : R Env} (h : RE a b) (g : RE b c) : RE a c := by
  cases a with
  | ok e x =>
    obtain ⟨e', rfl, h⟩ := h
    obtain ⟨e2, rfl, g⟩ := g
    exact ⟨e2, rfl, h.trans g⟩
  | pan v x => cases h; exact g
  | fail => trivial

omit [Dr] in
theorem lookE_app (l r : List (Nat × Ent)) (t : Nat) : lookE (l ++ r) t = if (∃ x ∈ l, x.1 = t) then lookE l t else lookE r t := by
  induction l with
  | nil => simp
  | cons x l ih =>
    obtain ⟨k, y⟩ := x
    rw [List.cons_append, lookE_cons, lookE_cons]
    by_cases hk : k = t
    · subst hk; simp
    · rw [if_neg hk, if_neg hk, ih]
      have : (∃ x ∈ (k, y) :: l, x.1 = t) ↔ (∃ x ∈ l, x.1 = t) := by
        simp only [List.mem_cons, exists_eq_or_imp]
        constructor
        · rintro (h | h)
          · exact absurd h hk
          · exact h
        · exact .inr
      simp only [this]
omit [Dr] in
theorem lookE_miss {l : List (Nat × Ent)} (r : List (Nat × Ent)) {t : Nat} (h : ∀ x ∈ l, x.1 ≠ t) : lookE (l ++ r) t = lookE r t := by
  rw [lookE_app, if_neg]
  rintro ⟨x, hx, ht⟩
  exact h x hx ht
omit [Dr] in
theorem lookE_slD (d : Option Tmp) (x : Ent) (r : List (Nat × Ent)) (t : Nat) : lookE (slD d x r) t = if d = some t then x else lookE r t := by
  cases d with
  | none => simp [slD]
  | some s => simp only [slD, lookE_cons, Option.some.injEq]
omit [Dr] in
theorem lookE_congr {l r s : List (Nat × Ent)} {t : Nat} (h : lookE r t = lookE s t) : lookE (l ++ r) t = lookE (l ++ s) t := by
  rw [lookE_app, lookE_app, h]
omit [Dr] in
theorem locFree_app (l r : List (Nat × Ent)) (B : Nat) : locFree (l ++ r) B = (locFree l B && locFree r B) := by
  unfold locFree; rw [List.all_append]
def entFree (x : Ent) (B : Nat) : Bool := match x.v with
  | .loc C _ => !(Nat.beq C B)
  | .val _ => true
omit [Dr] in
theorem locFree_slD (d : Option Tmp) (x : Ent) (r : List (Nat × Ent)) (B : Nat) : locFree (slD d x r) B = ((d.isNone || entFree x B) && locFree r B) := by
  cases d with
  | none => simp [slD]
  | some t => rfl
omit [Dr] in
theorem locFree_look {l : List (Nat × Ent)} {B t C off : Nat} (h : locFree l B = true) (ht : (lookE l t).v = .loc C off) : C ≠ B := by
  induction l with
  | nil => simp [lookE, Ent.none] at ht
  | cons x l ih =>
    obtain ⟨k, y⟩ := x
    rw [lookE_cons] at ht
    simp only [locFree, List.all_cons, Bool.and_eq_true] at h
    split at ht
    · rw [ht] at h
      have h1 := h.1
      simp only [Bool.not_eq_true'] at h1
      intro hc
      rw [hc, Nat.beq_refl] at h1
      cases h1
    · exact ih (by unfold locFree; exact h.2) ht
omit [Dr] in
theorem aliveG_app (l r : List (Nat × Option Nat)) (g : Nat) : aliveG (l ++ r) g = (match aliveG l g with | some z => some z | none => aliveG r g) := by
  induction l with
  | nil => rfl
  | cons x l ih =>
    obtain ⟨k, y⟩ := x
    rw [List.cons_append, aliveG_cons, aliveG_cons]
    split
    · rfl
    · exact ih
omit [Dr] in
theorem aliveG_none {l : List (Nat × Option Nat)} {k g : Nat} (h : ∀ x ∈ l, x.1 = k) (hg : g ≠ k) : aliveG l g = none := by
  induction l with
  | nil => rfl
  | cons x l ih =>
    obtain ⟨j, y⟩ := x
    rw [aliveG_cons, if_neg]
    · exact ih fun x hx => h x (by simp [hx])
    · have := h (j, y) (by simp)
      simp at this
      omega
omit [Dr] in
theorem lbSize_dropB (r : List (Nat × Nat)) (k B : Nat) : lbSize (dropB r k) B = if k = B then none else lbSize r B := by
  induction r with
  | nil => simp [dropB, lbSize]
  | cons x r ih =>
    obtain ⟨j, y⟩ := x
    simp only [dropB]
    by_cases hj : j = k
    · subst hj
      simp only [Nat.beq_refl, cond_true, ih, lbSize_cons]
      split <;> rfl
    · have : Nat.beq j k = false := by rw [Bool.eq_false_iff]; intro hh; exact hj (Nat.eq_of_beq_eq_true hh)
      simp only [this, cond_false, lbSize_cons, ih]
      by_cases hg : j = B
      · subst hg; rw [if_pos rfl, if_neg (fun h => hj h.symm), if_pos rfl]
      · rw [if_neg hg, if_neg hg]

omit [Dr] in
theorem EqE.upd {e e' : Env} (h : EqE e e') (d : Option Tmp) (u : Upd) : EqE (e.upd d u) (e'.upd d u) := by
  refine ⟨fun t => ?_, fun g => ?_, fun B => ?_, fun B => ?_⟩
  · show lookE (slD d u.ent (u.ls ++ e'.sl)) t = lookE (slD d u.ent (u.ls ++ e.sl)) t
    rw [lookE_slD, lookE_slD, lookE_congr (h.get t)]
  · show aliveG (u.add ++ dropO e'.al u.drop) g = aliveG (u.add ++ dropO e.al u.drop) g
    have : aliveG (dropO e'.al u.drop) g = aliveG (dropO e.al u.drop) g := by
      cases u.drop with
      | none => exact h.al g
      | some k => simp only [dropO, aliveG_drop, h.al g]
    rw [aliveG_app, aliveG_app, this]
  · show lbSize (addO (dropLb e'.lb u.unlb) u.lb) B = lbSize (addO (dropLb e.lb u.unlb) u.lb) B
    have : lbSize (dropLb e'.lb u.unlb) B = lbSize (dropLb e.lb u.unlb) B := by
      cases u.unlb with
      | none => exact h.lb B
      | some k => simp only [dropLb, lbSize_dropB, h.lb B]
    cases u.lb with
    | none => exact this
    | some x =>
      obtain ⟨k, n⟩ := x
      simp only [addO, lbSize_cons, this]
  · show locFree (slD d u.ent (u.ls ++ e'.sl)) B = locFree (slD d u.ent (u.ls ++ e.sl)) B
    rw [locFree_slD, locFree_slD, locFree_app, locFree_app, h.lf B]

section
variable {cx : Cx} {ops : Array Oper} {base : Nat}

/-- The slots that operation i's guard asks. -/
def guardTmps (ops : Array Oper) (o : Oper) : List Nat := match o.guard with
  | some (j, _) => (match (ops[j]?).bind (·.dst) with | some t => [t] | none => [])
  | none => []
omit [Dr] in
theorem readsOf_eq {i : Nat} {o : Oper} (ho : ops[i]? = some o) : readsOf ops i = guardTmps ops o ++ opTmps o := by
  unfold readsOf guardTmps
  rw [ho]
  rfl

omit [Dr] in
theorem actG_agree {e e' : Env} {i : Nat} {o : Oper} (ho : ops[i]? = some o) (hg : ∀ t ∈ guardTmps ops o, e'.get t = e.get t) (A : Agree cx o e e') {h : Hp} (hr : actG cx base ops i e h ≠ .fail) : actG cx base ops i e' h = actG cx base ops i e h := by
  unfold actG at hr ⊢
  rw [ho] at hr
  rw [ho]
  simp only at hr ⊢
  have key : ∀ {A' : Act1 → Act1} , (∀ h, actOf (A' .bad) h = .fail) → actOf (A' (opD cx e ((base + i) * 1000) o)) h ≠ .fail → actOf (A' (opD cx e' ((base + i) * 1000) o)) h = actOf (A' (opD cx e ((base + i) * 1000) o)) h := by
    intro A' h1 h2
    rw [opD_agree A]
    intro hb
    rw [hb] at h2
    exact h2 (h1 h)
  cases hgd : o.guard with
  | none =>
    rw [hgd] at hr
    exact key (A' := id) (fun _ => rfl) hr
  | some g =>
    obtain ⟨j, want⟩ := g
    rw [hgd] at hr
    simp only at hr ⊢
    cases hdj : dstOf ops j with
    | none => rfl
    | some t =>
      rw [hdj] at hr
      simp only at hr ⊢
      cases hpl : plainOp cx o with
      | false => rfl
      | true =>
        rw [hpl] at hr
        simp only [cond_true] at hr ⊢
        have ht : e'.get t = e.get t := hg t (by unfold guardTmps; rw [hgd]; simp only; rw [show (ops[j]?).bind (·.dst) = some t from hdj]; simp)
        have hav : e'.av t = e.av t := by simp only [Env.av, ht]
        rw [hav]
        cases hq : e.av t with
        | bool b =>
          rw [hq] at hr
          simp only [gLook] at hr ⊢
          cases hb : (b == want) with
          | false => rfl
          | true =>
            rw [hb] at hr
            exact key (A' := stripA) (fun _ => rfl) hr
        | tup vs => cases vs <;> rfl
        | _ => rfl

omit [Dr] in
theorem EqE.agree {e e' : Env} (h : EqE e e') (o : Oper) : Agree cx o e e' :=
  ⟨fun t _ => h.get t, fun _ => ⟨fun t _ => h.get t, h.lb⟩, fun _ => h.al, fun _ s _ hl => by rw [h.lf]; exact hl⟩

omit [Dr] in
theorem stepG_congr {e e' : Env} (h : EqE e e') (i : Nat) (x : Hp) : RE (stepG cx base ops i e x) (stepG cx base ops i e' x) := by
  unfold stepG
  simp only [bnd, M.pure]
  cases hr : actG cx base ops i e x with
  | fail => trivial
  | _ =>
    have ho : ∃ o, ops[i]? = some o := by
      cases ho : ops[i]? with
      | none => unfold actG at hr; rw [ho] at hr; cases hr
      | some o => exact ⟨o, rfl⟩
    obtain ⟨o, ho⟩ := ho
    rw [actG_agree ho (fun t _ => h.get t) (h.agree o) (by rw [hr]; simp), hr]
    first
      | exact ⟨_, rfl, h.upd _ _⟩
      | exact rfl

omit [Dr] in
theorem RE.bind {m m' : M Env} {x x' : Hp} (h : RE (m x) (m' x')) {f f' : Env → M Env} (hf : ∀ e e' x, EqE e e' → RE (f e x) (f' e' x)) : RE (bnd m f x) (bnd m' f' x') := by
  simp only [bnd]
  revert h
  generalize m x = r
  generalize m' x' = r'
  intro h
  cases r with
  | ok e x => obtain ⟨e', rfl, h⟩ := h; exact hf e e' x h
  | pan v x => cases h; exact rfl
  | fail => trivial

omit [Dr] in
theorem runSeq_congr : ∀ (l : List Nat) {e e' : Env} (_ : EqE e e') (x : Hp), RE (runSeq cx base ops l e x) (runSeq cx base ops l e' x)
  | [], e, e', h, x => ⟨e', rfl, h⟩
  | i :: l, e, e', h, x => by
    exact RE.bind (stepG_congr h i x) fun e e' x h => runSeq_congr l h x
end
end Go.Av

/- Exchange of two operations. Condition: the isolated calls see nothing of the heap and do not panic. -/
namespace Go.Av
variable [Dr]

omit [Dr] in
theorem memN_of_mem {l : List Nat} {t : Nat} (h : t ∈ l) : memN l t = true := (memN_iff l t).2 h
omit [Dr] in
theorem not_memO {l : List Nat} {d : Option Nat} (h : memO l d = false) : ∀ t ∈ l, d ≠ some t := by
  intro t ht hd
  rw [hd] at h
  simp only [memO] at h
  rw [memN_of_mem ht] at h
  cases h
omit [Dr] in
theorem not_clash {a b : Option Nat} (h : clash a b = false) : ∀ t, a = some t → b ≠ some t := by
  intro t ha hb
  rw [ha, hb] at h
  simp [clash] at h

section
variable {cx : Cx} {ops : Array Oper} {base : Nat} {e : Env}

omit [Dr] in
theorem stripU_shape {gid : Nat} {f : Foot} {ss : Option Nat} {u : Upd} (h : Shape e gid f ss u) : Shape e gid f ss (stripU u) :=
  ⟨fun _ => rfl, fun _ => rfl, fun _ => rfl, fun _ x h => by simp [stripU] at h, fun _ => rfl, fun _ => rfl, fun hw C off hh => h.loc hw C off hh, fun x h => by simp [stripU] at h⟩
omit [Dr] in
theorem stripA_all {p q : Upd → Prop} (hpq : ∀ u, p u → q (stripU u)) {A : Act1} (h : ActAll p A) : ActAll q (stripA A) := by
  cases A with
  | bad => trivial
  | stat u => exact hpq _ h
  | dyn m sh => exact fun v => hpq _ (h v)
  | thr v => trivial
omit [Dr] in
theorem stripA_M {p : ∀ {α : Type}, M α → Prop} {A : Act1} (h : ActM p A) : ActM p (stripA A) := by
  cases A <;> exact h

omit [Dr] in
theorem actG_shape {i : Nat} {o : Oper} (ho : ops[i]? = some o) {h h' : Hp} {u : Upd} (hr : actG cx base ops i e h = .ok u h') : Shape e ((base + i) * 1000) (footOf cx o) (storeSlot o) u := by
  unfold actG at hr
  rw [ho] at hr
  simp only at hr
  cases hgd : o.guard with
  | none => rw [hgd] at hr; exact actOf_all (opD_shape _ _ _ _) hr
  | some g =>
    obtain ⟨j, want⟩ := g
    rw [hgd] at hr
    simp only at hr
    cases hdj : dstOf ops j with
    | none => rw [hdj] at hr; cases hr
    | some t =>
      rw [hdj] at hr
      simp only at hr
      cases hpl : plainOp cx o with
      | false => rw [hpl] at hr; cases hr
      | true =>
        rw [hpl] at hr
        simp only [cond_true] at hr
        have h0 : ∀ {h h' : Hp}, (M.pure (Upd.ofV (.tup [])) : M Upd) h = .ok u h' → Shape e ((base + i) * 1000) (footOf cx o) (storeSlot o) u := by
          intro h h' hh
          cases hh
          exact Shape.ofV ..
        generalize e.av t = q at hr
        cases q with
        | bool b =>
          simp only [gLook] at hr
          cases hb : (b == want) with
          | false => rw [hb] at hr; exact h0 hr
          | true => rw [hb] at hr; exact actOf_all (stripA_all (fun u => stripU_shape) (opD_shape _ _ _ _)) hr
        | tup vs =>
          cases vs with
          | nil => exact h0 hr
          | cons v vs => cases hr
        | _ => cases hr

omit [Dr] in
theorem actOf_M {p : ∀ {α : Type}, M α → Prop} (h1 : ∀ {α : Type} (m : M α), PureM m → p m) (h2 : ∀ {α β : Type} (m : M α) (f : α → β), p m → p (bnd m fun v => M.pure (f v))) {A : Act1} (h : ActM p A) : p (actOf A) := by
  cases A with
  | bad => exact h1 _ PureM.fail
  | stat u => exact h1 _ (PureM.pure u)
  | dyn m sh => exact h2 _ _ h
  | thr v => exact h.elim

omit [Dr] in
theorem actG_M {p : ∀ {α : Type}, M α → Prop} (h1 : ∀ {α : Type} (m : M α), PureM m → p m) (h2 : ∀ {α β : Type} (m : M α) (f : α → β), p m → p (bnd m fun v => M.pure (f v)))
    {i : Nat} {o : Oper} (ho : ops[i]? = some o) (h : ActM p (opD cx e ((base + i) * 1000) o)) : p (actG cx base ops i e) := by
  unfold actG
  rw [ho]
  simp only
  cases hgd : o.guard with
  | none => exact actOf_M h1 h2 h
  | some g =>
    obtain ⟨j, want⟩ := g
    simp only
    cases hdj : dstOf ops j with
    | none => exact h1 _ PureM.fail
    | some t =>
      simp only
      cases hpl : plainOp cx o with
      | false => exact h1 _ PureM.fail
      | true =>
        simp only [cond_true]
        unfold gLook
        split
        · rename_i b _
          cases hb : (b == want) with
          | false => exact h1 _ (PureM.pure _)
          | true => exact actOf_M h1 h2 (stripA_M h)
        · exact h1 _ (PureM.pure _)
        · exact h1 _ PureM.fail

/-- What stands of the operations' slots. -/
structure Small (ops : Array Oper) : Prop where
  dst : ∀ (i : Nat) (o : Oper), ops[i]? = some o → ∀ t, o.dst = some t → t < 1000
  src : ∀ (i : Nat) (o : Oper), ops[i]? = some o → ∀ t ∈ opTmps o, t < 1000
omit [Dr] in
theorem Small.reads (hS : Small ops) {i : Nat} {o : Oper} (ho : ops[i]? = some o) : ∀ t ∈ readsOf ops i, t < 1000 := by
  intro t ht
  rw [readsOf_eq ho, List.mem_append] at ht
  rcases ht with ht | ht
  · unfold guardTmps at ht
    split at ht
    · rename_i j _ _
      cases hj : ops[j]? with
      | none => rw [hj] at ht; simp at ht
      | some oj =>
        rw [hj] at ht
        simp only [Option.bind_some] at ht
        cases hd : oj.dst with
        | none => rw [hd] at ht; simp at ht
        | some s => rw [hd] at ht; simp at ht; rw [ht]; exact hS.dst j oj hj s hd
    · simp at ht
  · exact hS.src i o ho t ht

omit [Dr] in
/-- After an update that another operation made. -/
theorem get_other {gid : Nat} {x : Foot} {ss : Option Nat} {u : Upd} {d : Option Tmp} (hsh : Shape e gid x ss u) {t : Nat} (h1 : d ≠ some t) (h2 : ss ≠ some t) (h3 : t < 1000) : (e.upd d u).get t = e.get t := by
  rw [get_upd, if_neg h1]
  refine lookE_miss _ fun y hy hyt => ?_
  rcases hsh.keys y hy with h | h
  · omega
  · exact h2 (by rw [h, hyt])
omit [Dr] in
theorem get_noLs {gid : Nat} {x : Foot} {ss : Option Nat} {u : Upd} {d : Option Tmp} (hsh : Shape e gid x ss u) (hw : x.wl = false) {t : Nat} (h1 : d ≠ some t) : (e.upd d u).get t = e.get t := by
  rw [get_upd, if_neg h1, hsh.ls hw]; rfl

omit [Dr] in
theorem agree_fwd {gid : Nat} {x : Foot} {ss : Option Nat} {u : Upd} {d : Option Tmp} {o : Oper} (hsh : Shape e gid x ss u) (hd : ∀ t, d = some t → t < 1000) (hops : ∀ t ∈ opTmps o, d ≠ some t ∧ ss ≠ some t ∧ t < 1000)
    (hloc : ((footOf cx o).rl || (footOf cx o).wl) = true → x.wl = false) (hal : (footOf cx o).dr = true → x.ad = false ∧ x.dr = false) : Agree cx o e (e.upd d u) := by
  refine ⟨fun t ht => get_other hsh (hops t ht).1 (hops t ht).2.1 (hops t ht).2.2, fun h => ⟨fun t ht => get_noLs hsh (hloc h) (fun hh => Nat.not_lt.2 ht (hd t hh)), fun B => ?_⟩, fun h g => ?_, fun h s _ hl => ?_⟩
  · show lbSize (addO (dropLb e.lb u.unlb) u.lb) B = lbSize e.lb B
    rw [hsh.lb (hloc h), hsh.unlb (hloc h)]; rfl
  · show aliveG (u.add ++ dropO e.al u.drop) g = aliveG e.al g
    rw [hsh.noad (hal h).1, hsh.nodr (hal h).2]; rfl
  · have hw := hloc (by rw [h]; simp)
    show locFree (slD d u.ent (u.ls ++ e.sl)) (lbase s) = true
    rw [hsh.ls hw, locFree_slD, List.nil_append, hl, Bool.and_true]
    have : entFree u.ent (lbase s) = true := by
      unfold entFree
      split
      · rename_i C off hv
        obtain ⟨t, off', ht⟩ := hsh.loc hw C off hv
        have := locFree_look hl ht
        rw [Bool.not_eq_true', Bool.eq_false_iff]
        intro hh
        exact this (Nat.eq_of_beq_eq_true hh)
      · rfl
    rw [this, Bool.or_true]
omit [Dr] in
theorem agree_bwd {gid : Nat} {x : Foot} {ss : Option Nat} {u : Upd} {d : Option Tmp} {o : Oper} (hsh : Shape e gid x ss u) (hd : ∀ t, d = some t → t < 1000) (hops : ∀ t ∈ opTmps o, d ≠ some t ∧ ss ≠ some t ∧ t < 1000)
    (hloc : ((footOf cx o).rl || (footOf cx o).wl) = true → x.wl = false) (hal : (footOf cx o).dr = true → x.ad = false ∧ x.dr = false) : Agree cx o (e.upd d u) e := by
  have A := agree_fwd (cx := cx) hsh hd hops hloc hal
  refine ⟨fun t ht => (A.ops t ht).symm, fun h => ⟨fun t ht => ((A.loc h).1 t ht).symm, fun B => ((A.loc h).2 B).symm⟩, fun h g => (A.al h g).symm, fun _ s _ hl => ?_⟩
  have hl' : locFree (slD d u.ent (u.ls ++ e.sl)) (lbase s) = true := hl
  rw [locFree_slD, locFree_app] at hl'
  simp only [Bool.and_eq_true] at hl'
  exact hl'.2.2

omit [Dr] in
/-- Two updates that touch different things, one of them no local memory. -/
theorem upd_comm {gi gj : Nat} {x y : Foot} {si sj : Option Nat} {u v : Upd} {d f : Option Tmp} (hu : Shape e gi x si u) (hv : Shape e gj y sj v) (hy : y.wl = false)
    (hf : ∀ t, f = some t → t < 1000) (hdf : ∀ t, d = some t → f ≠ some t) (hsf : ∀ t, si = some t → f ≠ some t)
    (hg : gi ≠ gj) (h1 : x.dr = true → y.dr = false ∧ y.ad = false) (h2 : x.ad = true → y.dr = false) (h3 : x.ad = true → y.ad = true → x.wl = false) : EqE ((e.upd d u).upd f v) ((e.upd f v).upd d u) := by
  have e1 := hv.ls hy
  have e2 := hv.lb hy
  have e3 := hv.unlb hy
  refine ⟨fun t => ?_, fun g => ?_, fun B => ?_, fun B => ?_⟩
  · rw [get_upd, get_upd, e1]
    show (if d = some t then u.ent else lookE (u.ls ++ slD f v.ent (v.ls ++ e.sl)) t) = if f = some t then v.ent else lookE (slD d u.ent (u.ls ++ e.sl)) t
    rw [e1, lookE_slD, List.nil_append]
    by_cases hft : f = some t
    · rw [if_pos hft, if_neg (fun h => hdf t h hft), lookE_miss, lookE_slD, if_pos hft]
      intro z hz hzt
      rcases hu.keys z hz with h | h
      · exact Nat.not_lt.2 h (by rw [hzt]; exact hf t hft)
      · exact hsf z.1 h (by rw [hzt]; exact hft)
    · rw [if_neg hft]
      split
      · rfl
      · exact lookE_congr (by rw [lookE_slD, if_neg hft])
  · show aliveG (u.add ++ dropO (v.add ++ dropO e.al v.drop) u.drop) g = aliveG (v.add ++ dropO (u.add ++ dropO e.al u.drop) v.drop) g
    cases hxd : x.dr with
    | true =>
      obtain ⟨h4, h5⟩ := h1 hxd
      rw [hv.noad h5, hv.nodr h4]
      rfl
    | false =>
      rw [hu.nodr hxd]
      cases hxa : x.ad with
      | false => rw [hu.noad hxa]; rfl
      | true =>
        rw [hv.nodr (h2 hxa)]
        cases hya : y.ad with
        | false => rw [hv.noad hya]; rfl
        | true =>
          have k1 := hu.add (h3 hxa hya)
          have k2 := hv.add hy
          show aliveG (u.add ++ (v.add ++ e.al)) g = aliveG (v.add ++ (u.add ++ e.al)) g
          rw [aliveG_app, aliveG_app, aliveG_app, aliveG_app]
          by_cases hgi : g = gi
          · rw [aliveG_none k2 (by omega)]
          · rw [aliveG_none k1 hgi]
  · show lbSize (addO (dropLb (addO (dropLb e.lb v.unlb) v.lb) u.unlb) u.lb) B = lbSize (addO (dropLb (addO (dropLb e.lb u.unlb) u.lb) v.unlb) v.lb) B
    rw [e2, e3]; rfl
  · show locFree (slD d u.ent (u.ls ++ slD f v.ent (v.ls ++ e.sl))) B = locFree (slD f v.ent (v.ls ++ slD d u.ent (u.ls ++ e.sl))) B
    simp only [locFree_slD, locFree_app]
    ac_rfl
end
end Go.Av

/- Any order of a region. Condition: the isolated calls see nothing of the heap and do not panic. -/
namespace Go.Av
variable [Dr]

section
variable {cx : Cx} {ops : Array Oper} {base : Nat}

structure Ind (cx : Cx) (ops : Array Oper) (i j : Nat) (a b : Oper) : Prop where
  ha : ops[i]? = some a
  hb : ops[j]? = some b
  piv : (footOf cx a).piv = false
  l1 : (footOf cx a).wl = true → (footOf cx b).rl = false ∧ (footOf cx b).wl = false
  l2 : (footOf cx a).rl = true → (footOf cx b).wl = false
  h1 : (footOf cx a).wh = true → (footOf cx b).rh = false ∧ (footOf cx b).wh = false
  h2 : (footOf cx a).rh = true → (footOf cx b).wh = false ∨ (footOf cx b).nw = true
  g1 : (footOf cx a).dr = true → (footOf cx b).dr = false ∧ (footOf cx b).ad = false
  g2 : (footOf cx a).ad = true → (footOf cx b).dr = false
  g3 : (footOf cx a).ad = true → (footOf cx b).ad = true → (footOf cx a).wl = false ∧ (footOf cx b).wl = false
  r1 : ∀ t ∈ readsOf ops j, a.dst ≠ some t
  r2 : ∀ t ∈ readsOf ops i, b.dst ≠ some t
  s1 : ∀ t ∈ readsOf ops j, storeSlot a ≠ some t
  s2 : ∀ t ∈ readsOf ops i, storeSlot b ≠ some t
  c1 : ∀ t, storeSlot a = some t → b.dst ≠ some t
  c2 : ∀ t, a.dst = some t → storeSlot b ≠ some t
  c3 : ∀ t, a.dst = some t → b.dst ≠ some t

omit [Dr] in
theorem indep_inv {i j : Nat} (h : indep cx ops i j = true) : ∃ a b, Ind cx ops i j a b := by
  unfold indep at h
  split at h
  · rename_i a b ha hb
    refine ⟨a, b, ?_⟩
    simp only [Bool.and_eq_true, Bool.not_eq_true'] at h
    obtain ⟨⟨⟨⟨⟨⟨⟨⟨⟨⟨⟨⟨⟨⟨k1, k2⟩, k3⟩, k4⟩, k5⟩, k6⟩, k7⟩, k8⟩, k9⟩, k10⟩, k11⟩, k12⟩, k13⟩, k14⟩, k15⟩ := h
    refine ⟨ha, hb, k1, fun q => ?_, fun q => ?_, fun q => ?_, fun q => ?_, fun q => ?_, fun q => ?_, fun q q' => ?_, not_memO k9, not_memO k10, not_memO k11, not_memO k12, not_clash k13, not_clash k14, not_clash k15⟩
    · rw [q] at k2; simpa using k2
    · rw [q] at k3; simpa using k3
    · rw [q] at k4; simpa using k4
    · rw [q] at k5; simp only [Bool.true_and] at k5; cases hb : (footOf cx b).wh <;> simp_all
    · rw [q] at k6; simpa using k6
    · rw [q] at k7; simpa using k7
    · rw [q, q'] at k8; simpa using k8
  · cases h

omit [Dr] in
theorem swap (hI : IsoPure cx) (hS : Small ops) {i j : Nat} (hij : indep cx ops i j = true) (hne : i ≠ j) (e : Env) (h : Hp) :
    RE (bnd (stepG cx base ops i e) (stepG cx base ops j) h) (bnd (stepG cx base ops j e) (stepG cx base ops i) h) := by
  obtain ⟨a, b, I⟩ := indep_inv hij
  have hda : dstOf ops i = a.dst := by simp [dstOf, I.ha]
  have hdb : dstOf ops j = b.dst := by simp [dstOf, I.hb]
  unfold stepG
  rw [hda, hdb]
  simp only [bnd, M.pure]
  cases hri : actG cx base ops i e h with
  | fail => trivial
  | pan v h' => exact absurd hri (actG_M (p := @StayM) (fun _ g => g.read.stay) (fun _ f g => g.bnd f) I.ha ((opD_class hI e _ a).stay I.piv) h v h')
  | ok u h1 =>
    simp only
    have shu := actG_shape I.ha hri
    have hra := readsOf_eq (ops := ops) I.ha
    have hrb := readsOf_eq (ops := ops) I.hb
    have hbo : ∀ t ∈ opTmps b, a.dst ≠ some t ∧ storeSlot a ≠ some t ∧ t < 1000 := fun t ht => ⟨I.r1 t (by rw [hrb]; simp [ht]), I.s1 t (by rw [hrb]; simp [ht]), hS.src j b I.hb t ht⟩
    have hao : ∀ t ∈ opTmps a, b.dst ≠ some t ∧ storeSlot b ≠ some t ∧ t < 1000 := fun t ht => ⟨I.r2 t (by rw [hra]; simp [ht]), I.s2 t (by rw [hra]; simp [ht]), hS.src i a I.ha t ht⟩
    have Abwd : Agree cx b (e.upd a.dst u) e := agree_bwd shu (hS.dst i a I.ha) hbo (fun q => by
      cases hw : (footOf cx a).wl with
      | false => rfl
      | true => obtain ⟨q1, q2⟩ := I.l1 hw; rw [q1, q2] at q; cases q) (fun q => by
      constructor
      · cases hw : (footOf cx a).ad with
        | false => rfl
        | true => have := I.g2 hw; rw [this] at q; cases q
      · cases hw : (footOf cx a).dr with
        | false => rfl
        | true => have := (I.g1 hw).1; rw [this] at q; cases q)
    have hgb : ∀ t ∈ guardTmps ops b, e.get t = (e.upd a.dst u).get t := fun t ht => by
      have htr : t ∈ readsOf ops j := by rw [hrb]; simp [ht]
      exact (get_other shu (I.r1 t htr) (I.s1 t htr) (hS.reads I.hb t htr)).symm
    -- the second, after the first
    cases hrj : actG cx base ops j (e.upd a.dst u) h1 with
    | fail => trivial
    | pan v h2 =>
      have hj := actG_agree (base := base) I.hb hgb Abwd (h := h1) (by rw [hrj]; simp)
      rw [hrj] at hj
      -- j leaves: so it may write, and i did not touch the heap
      have hwb : (footOf cx b).wh = true := by
        cases hw : (footOf cx b).wh with
        | true => rfl
        | false => exact absurd hj ((actG_M (p := @ReadM) (fun _ g => g.read) (fun _ f g => g.bnd f) I.hb ((opD_class hI e _ b).read hw)).stay _ _ _)
      have hwa : (footOf cx a).wh = false := by
        cases hw : (footOf cx a).wh with
        | false => rfl
        | true => have := (I.h1 hw).2; rw [this] at hwb; cases hwb
      have hh : h1 = h := by
        have hR : ReadM (actG cx base ops i e) := actG_M (p := @ReadM) (fun _ g => g.read) (fun _ f g => g.bnd f) I.ha ((opD_class hI e _ a).read hwa)
        rcases hR h with hx | ⟨u', hx⟩ <;> rw [hri] at hx <;> cases hx
        rfl
      subst hh
      rw [hj]
      exact rfl
    | ok v h2 =>
      have hj := actG_agree (base := base) I.hb hgb Abwd (h := h1) (by rw [hrj]; simp)
      rw [hrj] at hj
      have shv := actG_shape I.hb hj
      have Afwd : Agree cx a e (e.upd b.dst v) := agree_fwd shv (hS.dst j b I.hb) hao (fun q => by
        cases hw : (footOf cx b).wl with
        | false => rfl
        | true =>
          exfalso
          cases hrl : (footOf cx a).rl with
          | true => have := I.l2 hrl; rw [this] at hw; cases hw
          | false =>
            rw [hrl] at q
            have hwl : (footOf cx a).wl = true := by simpa using q
            have := (I.l1 hwl).2
            rw [this] at hw; cases hw) (fun q => ⟨(I.g1 q).2, (I.g1 q).1⟩)
      have hga : ∀ t ∈ guardTmps ops a, (e.upd b.dst v).get t = e.get t := fun t ht => by
        have htr : t ∈ readsOf ops i := by rw [hra]; simp [ht]
        exact get_other shv (I.r2 t htr) (I.s2 t htr) (hS.reads I.ha t htr)
      have hcomm : EqE ((e.upd a.dst u).upd b.dst v) ((e.upd b.dst v).upd a.dst u) := by
        have hgij : (base + i) * 1000 ≠ (base + j) * 1000 := by omega
        cases hwb : (footOf cx b).wl with
        | false =>
          exact upd_comm shu shv hwb (hS.dst j b I.hb) I.c3 I.c1 hgij I.g1 I.g2 (fun q q' => (I.g3 q q').1)
        | true =>
          have hwa : (footOf cx a).wl = false := by
            cases hw : (footOf cx a).wl with
            | false => rfl
            | true => have := (I.l1 hw).2; rw [this] at hwb; cases hwb
          refine (upd_comm shv shu hwa (hS.dst i a I.ha) (fun t ht hh => I.c3 t hh ht) (fun t ht hh => I.c2 t hh ht) (Ne.symm hgij) (fun q => ⟨?_, ?_⟩) (fun q => ?_) (fun q q' => ?_)).symm
          · cases hw : (footOf cx a).dr with
            | false => rfl
            | true => have := (I.g1 hw).1; rw [this] at q; cases q
          · cases hw : (footOf cx a).ad with
            | false => rfl
            | true => have := I.g2 hw; rw [this] at q; cases q
          · cases hw : (footOf cx a).dr with
            | false => rfl
            | true => have := (I.g1 hw).2; rw [this] at q; cases q
          · have := (I.g3 q' q).2; rw [this] at hwb; cases hwb
      cases hwa : (footOf cx a).wh with
      | false =>
        have hR : ReadM (actG cx base ops i e) := actG_M (p := @ReadM) (fun _ g => g.read) (fun _ f g => g.bnd f) I.ha ((opD_class hI e _ a).read hwa)
        have hh : h1 = h := by
          rcases hR h with hx | ⟨u', hx⟩ <;> rw [hri] at hx <;> cases hx
          rfl
        subst hh
        rw [hj]
        simp only
        have hi2 : actG cx base ops i e h2 = .ok u h2 := by
          cases hra' : (footOf cx a).rh with
          | false =>
            obtain ⟨q, hq⟩ : PureM (actG cx base ops i e) := actG_M (p := @PureM) (fun _ g => g) (fun _ f g => g.bnd f) I.ha ((opD_class hI e _ a).pure hwa hra')
            rw [hq] at hri ⊢
            cases q with
            | none => cases hri
            | some u' => cases hri; rfl
          | true =>
            rcases I.h2 hra' with hwb | hnw
            case inr =>
              have hNw : NwM (actG cx base ops j e) := actG_M (p := @NwM) (fun _ g => g.nw) (fun _ f g => g.bnd f) I.hb ((opD_class hI e _ b).nw hnw)
              have hAp : AppM (actG cx base ops i e) ∧ ReadM (actG cx base ops i e) := actG_M (p := fun m => AppM m ∧ ReadM m) (fun _ g => ⟨g.app, g.read⟩) (fun _ f g => AppM.bnd g f) I.ha ((opD_class hI e _ a).app hwa)
              obtain ⟨t, rfl⟩ := hNw _ _ _ hj
              exact hAp.1 _ t _ hri
            have hRb : ReadM (actG cx base ops j e) := actG_M (p := @ReadM) (fun _ g => g.read) (fun _ f g => g.bnd f) I.hb ((opD_class hI e _ b).read hwb)
            rcases hRb h1 with hx | ⟨u', hx⟩ <;> rw [hj] at hx <;> cases hx
            exact hri
        rw [actG_agree I.ha hga Afwd (by rw [hi2]; simp), hi2]
        exact ⟨_, rfl, hcomm⟩
      | true =>
        obtain ⟨hrb', hwb⟩ := I.h1 hwa
        obtain ⟨q, hq⟩ : PureM (actG cx base ops j e) := actG_M (p := @PureM) (fun _ g => g) (fun _ f g => g.bnd f) I.hb ((opD_class hI e _ b).pure hwb hrb')
        rw [hq] at hj ⊢
        cases q with
        | none => cases hj
        | some u' =>
          cases hj
          simp only [lft]
          rw [actG_agree I.ha hga Afwd (by rw [hri]; simp), hri]
          exact ⟨_, rfl, hcomm⟩

omit [Dr] in
/-- An operation that all earlier ones may be exchanged with, first. -/
theorem front (hI : IsoPure cx) (hS : Small ops) {i : Nat} (q : List Nat) : ∀ (p : List Nat), (∀ x ∈ p, indep cx ops x i = true ∧ x ≠ i) → ∀ (e : Env) (h : Hp), RE (runSeq cx base ops (p ++ i :: q) e h) (runSeq cx base ops (i :: (p ++ q)) e h)
  | [], _, e, h => RE.refl _
  | x :: p, hp, e, h => by
    have ih := fun e h => front hI hS q p (fun y hy => hp y (by simp [hy])) e h
    have h1 : RE (runSeq cx base ops (x :: (p ++ i :: q)) e h) (runSeq cx base ops (x :: i :: (p ++ q)) e h) := by
      simp only [runSeq, bnd] at ih ⊢
      cases stepG cx base ops x e h with
      | ok e' h' => exact ih e' h'
      | pan v h' => exact rfl
      | fail => trivial
    refine h1.trans ?_
    have e1 : runSeq cx base ops (x :: i :: (p ++ q)) e = bnd (bnd (stepG cx base ops x e) (stepG cx base ops i)) (runSeq cx base ops (p ++ q)) := by rw [bnd_bnd]; rfl
    have e2 : runSeq cx base ops (i :: x :: (p ++ q)) e = bnd (bnd (stepG cx base ops i e) (stepG cx base ops x)) (runSeq cx base ops (p ++ q)) := by rw [bnd_bnd]; rfl
    show RE (runSeq cx base ops (x :: i :: (p ++ q)) e h) (runSeq cx base ops (i :: x :: (p ++ q)) e h)
    rw [e1, e2]
    exact RE.bind (swap hI hS (hp x (by simp)).1 (hp x (by simp)).2 e h) fun e e' x h => runSeq_congr _ h x
end
end Go.Av

/- Groups of one guard, as operations one after another. No condition. -/
namespace Go.Av
variable [Dr]

omit [Dr] in
theorem sameG_eq {a b : Option (Nat × Bool)} (h : sameG a b = true) : a = b := by
  unfold sameG at h
  split at h
  · rfl
  · simp only [Bool.and_eq_true, beq_iff_eq] at h
    rw [Nat.eq_of_beq_eq_true h.1, h.2]
  · cases h

def flatG (gs : List (Option (Nat × Bool) × List Nat)) : List Nat := gs.flatMap (·.2)
omit [Dr] in
theorem groupsOf_spec (ops : Array Oper) : ∀ l : List Nat, flatG (groupsOf ops l) = l ∧ ∀ g ∈ groupsOf ops l, ∀ i ∈ g.2, guardOf ops i = g.1
  | [] => ⟨rfl, by simp [groupsOf]⟩
  | i :: is => by
    obtain ⟨h1, h2⟩ := groupsOf_spec ops is
    simp only [groupsOf]
    cases hg : groupsOf ops is with
    | nil =>
      rw [hg] at h1
      have : is = [] := by simpa [flatG] using h1.symm
      subst this
      exact ⟨rfl, by simp⟩
    | cons x r =>
      obtain ⟨g, js⟩ := x
      rw [hg] at h1 h2
      simp only
      cases hs : sameG (guardOf ops i) g with
      | true =>
        refine ⟨?_, fun y hy => ?_⟩
        · simp only [cond_true, flatG, List.flatMap_cons, List.cons_append] at h1 ⊢
          rw [h1]
        · simp only [cond_true, List.mem_cons] at hy
          rcases hy with rfl | hy
          · intro k hk
            simp only [List.mem_cons] at hk
            rcases hk with rfl | hk
            · exact sameG_eq hs
            · exact h2 (g, js) (by simp) k hk
          · exact h2 y (by simp [hy])
      | false =>
        refine ⟨?_, fun y hy => ?_⟩
        · simp only [cond_false, flatG, List.flatMap_cons, List.cons_append, List.nil_append] at h1 ⊢
          rw [h1]
        · simp only [cond_false, List.mem_cons] at hy
          rcases hy with rfl | rfl | hy
          · intro k hk
            simp only [List.mem_singleton] at hk
            subst hk; rfl
          · exact h2 (g, js) (by simp)
          · exact h2 y (by simp [hy])

omit [Dr] in
theorem evAct_eq {ρ : Type} (e : Env) (d : Option Tmp) (A : Act1) (k : Env → M ρ) : evAct e d A k = bnd (actOf A) fun u => k (e.upd d u) := by
  cases A with
  | bad => rfl
  | stat u => rfl
  | dyn m sh => simp only [evAct, actOf, bnd_bnd, bnd_pure]
  | thr v => rfl
omit [Dr] in
theorem bnd_congr {α β : Type} {m : M α} {f g : α → M β} {h : Hp} (hfg : ∀ u h', m h = .ok u h' → f u h' = g u h') : bnd m f h = bnd m g h := by
  simp only [bnd]
  cases hm : m h with
  | ok u h' => exact hfg u h' hm
  | pan v h' => rfl
  | fail => rfl

section
variable {cx : Cx} {ops : Array Oper} {base : Nat}

omit [Dr] in
theorem actG_none {i : Nat} {o : Oper} (ho : ops[i]? = some o) (hg : guardOf ops i = none) (e : Env) : actG cx base ops i e = actOf (opD cx e ((base + i) * 1000) o) := by
  have : o.guard = none := by simpa [guardOf, ho] using hg
  unfold actG
  rw [ho]
  simp only
  rw [this]
omit [Dr] in
theorem actG_some {i j t : Nat} {want : Bool} {o : Oper} (ho : ops[i]? = some o) (hg : guardOf ops i = some (j, want)) (hj : dstOf ops j = some t) (hp : plainOp cx o = true) (e : Env) :
    actG cx base ops i e = gLook (e.av t) want (actOf (stripA (opD cx e ((base + i) * 1000) o))) := by
  have : o.guard = some (j, want) := by simpa [guardOf, ho] using hg
  unfold actG
  rw [ho]
  simp only
  rw [this]
  simp only
  rw [hj]
  simp only
  rw [hp]
  rfl

omit [Dr] in
theorem run_none {ρ : Type} : ∀ (is : List Nat) (e : Env) (k : Env → M ρ) (_ : ∀ i ∈ is, guardOf ops i = none), evRun cx base ops false is e k = bnd (runSeq cx base ops is e) k
  | [], e, k, _ => rfl
  | i :: is, e, k, hg => by
    simp only [evRun, runSeq]
    unfold stepG
    cases ho : ops[i]? with
    | none => unfold actG; rw [ho]; rfl
    | some o =>
      simp only
      rw [evAct_eq, actG_none ho (hg i (by simp)), bnd_bnd, bnd_bnd]
      have hd : dstOf ops i = o.dst := by simp [dstOf, ho]
      rw [hd]
      congr 1
      funext u
      simp only [bnd_pure, cond_false]
      exact run_none is _ k fun j hj => hg j (by simp [hj])

/-- What is left of an environment where only some slots have turned. -/
structure Turned (ds : List Nat) (e e' : Env) : Prop where
  get : ∀ t, t ∉ ds → e'.get t = e.get t
  al : e'.al = e.al
  lb : e'.lb = e.lb
  lf : ∀ B, locFree e.sl B = true → locFree e'.sl B = true
  ng : ∀ t ∈ ds, (e'.get t).g = none

omit [Dr] in
theorem Turned.step {ds : List Nat} {e e' : Env} (H : Turned ds e e') {u : Upd} {d : Option Nat} (hls : u.ls = []) (hadd : u.add = []) (hdrop : u.drop = none) (hlb : u.lb = none) (hunlb : u.unlb = none) (hg : u.ent.g = none)
    (hloc : ∀ C off, u.ent.v = .loc C off → ∃ t off', (e'.get t).v = .loc C off') : Turned (d.toList ++ ds) e (e'.upd d u) := by
  have hget : ∀ t, (e'.upd d u).get t = if d = some t then u.ent else e'.get t := fun t => by rw [get_upd, hls]; rfl
  refine ⟨fun t ht => ?_, ?_, ?_, fun B hB => ?_, fun t ht => ?_⟩
  · simp only [List.mem_append, not_or, Option.mem_toList] at ht
    rw [hget, if_neg ht.1]
    exact H.get t ht.2
  · show u.add ++ dropO e'.al u.drop = e.al
    rw [hadd, hdrop]; exact H.al
  · show addO (dropLb e'.lb u.unlb) u.lb = e.lb
    rw [hlb, hunlb]; exact H.lb
  · have h1 := H.lf B hB
    show locFree (slD d u.ent (u.ls ++ e'.sl)) B = true
    rw [hls, locFree_slD, List.nil_append, h1, Bool.and_true]
    have : entFree u.ent B = true := by
      unfold entFree
      split
      · rename_i C off hv
        obtain ⟨t, off', ht⟩ := hloc C off hv
        have := locFree_look h1 ht
        rw [Bool.not_eq_true', Bool.eq_false_iff]
        intro hh
        exact this (Nat.eq_of_beq_eq_true hh)
      · rfl
    rw [this, Bool.or_true]
  · rw [hget]
    split
    · exact hg
    · rename_i hd
      simp only [List.mem_append, Option.mem_toList] at ht
      rcases ht with ht | ht
      · exact absurd ht hd
      · exact H.ng t ht
omit [Dr] in
theorem Turned.refl (e : Env) : Turned [] e e := ⟨fun _ _ => rfl, rfl, rfl, fun _ h => h, fun t h => by simp at h⟩
omit [Dr] in
theorem Turned.sub {ds ds' : List Nat} {e e' : Env} (H : Turned ds e e') (h : ∀ t, t ∈ ds ↔ t ∈ ds') : Turned ds' e e' :=
  ⟨fun t ht => H.get t fun hh => ht ((h t).1 hh), H.al, H.lb, H.lf, fun t ht => H.ng t ((h t).2 ht)⟩

/-- The operations of a guarded group. -/
structure GroupOk (cx : Cx) (ops : Array Oper) (j : Nat) (want : Bool) (t : Nat) (is : List Nat) : Prop where
  hj : dstOf ops j = some t
  each : ∀ i ∈ is, ∃ o, ops[i]? = some o ∧ guardOf ops i = some (j, want) ∧ plainOp cx o = true
  nt : t ∉ dstsOf ops is

omit [Dr] in
theorem dstsOf_cons (i : Nat) (is : List Nat) : ∀ t, t ∈ dstsOf ops (i :: is) ↔ dstOf ops i = some t ∨ t ∈ dstsOf ops is := by
  intro t
  unfold dstsOf
  simp only [List.mem_filterMap, List.mem_cons, exists_eq_or_imp]

omit [Dr] in
theorem GroupOk.tail {j : Nat} {want : Bool} {t i : Nat} {is : List Nat} (G : GroupOk cx ops j want t (i :: is)) : GroupOk cx ops j want t is :=
  ⟨G.hj, fun k hk => G.each k (by simp [hk]), fun h => G.nt ((dstsOf_cons i is t).2 (.inr h))⟩
omit [Dr] in
theorem GroupOk.ne {j : Nat} {want : Bool} {t i : Nat} {is : List Nat} (G : GroupOk cx ops j want t (i :: is)) : dstOf ops i ≠ some t := fun h => G.nt ((dstsOf_cons i is t).2 (.inl h))

omit [Dr] in
theorem actOf_strip_inv {A : Act1} {h h' : Hp} {u : Upd} (hr : actOf (stripA A) h = .ok u h') : ∃ u0, actOf A h = .ok u0 h' ∧ u = stripU u0 := by
  rw [actOf_strip] at hr
  cases hx : actOf A h <;> rw [hx] at hr <;> simp at hr
  exact ⟨_, by rw [hr.2], hr.1.symm⟩

omit [Dr] in
theorem run_taken {ρ : Type} {j : Nat} {want : Bool} {t : Nat} : ∀ (is : List Nat) (e : Env) (k : Env → M ρ) (h : Hp), GroupOk cx ops j want t is → e.av t = .bool want → evRun cx base ops true is e k h = bnd (runSeq cx base ops is e) k h
  | [], e, k, h, _, _ => rfl
  | i :: is, e, k, h, G, hc => by
    obtain ⟨o, ho, hg, hp⟩ := G.each i (by simp)
    have hd : dstOf ops i = o.dst := by simp [dstOf, ho]
    simp only [evRun, runSeq, ho, cond_true]
    rw [evAct_eq]
    unfold stepG
    rw [actG_some ho hg G.hj hp, hc, bnd_bnd, bnd_bnd]
    simp only [gLook, beq_self_eq_true, cond_true, bnd_pure, hd]
    refine bnd_congr fun u h' hu => ?_
    obtain ⟨u0, hu0, rfl⟩ := actOf_strip_inv hu
    refine run_taken is _ k h' G.tail ?_
    have : (e.upd o.dst (stripU u0)).get t = e.get t := by rw [get_upd, if_neg (by rw [← hd]; exact G.ne)]; rfl
    simp only [Env.av, this]
    exact hc

omit [Dr] in
theorem taken_turned {j : Nat} {want : Bool} {t : Nat} : ∀ (is : List Nat) (e e' : Env) (h h' : Hp), GroupOk cx ops j want t is → e.av t = .bool want → runSeq cx base ops is e h = .ok e' h' → Turned (dstsOf ops is) e e' := by
  have key : ∀ (is : List Nat) (e0 e e' : Env) (ds : List Nat) (h h' : Hp), GroupOk cx ops j want t is → e.av t = .bool want → Turned ds e0 e → runSeq cx base ops is e h = .ok e' h' → Turned (dstsOf ops is ++ ds) e0 e' := by
    intro is
    induction is with
    | nil =>
      intro e0 e e' ds h h' _ _ H hr
      cases hr
      exact H
    | cons i is ih =>
      intro e0 e e' ds h h' G hc H hr
      obtain ⟨o, ho, hg, hp⟩ := G.each i (by simp)
      have hd : dstOf ops i = o.dst := by simp [dstOf, ho]
      simp only [runSeq] at hr
      unfold stepG at hr
      rw [actG_some ho hg G.hj hp, hc, bnd_bnd] at hr
      simp only [gLook, beq_self_eq_true, cond_true, bnd_pure, hd, bnd] at hr
      cases hx : actOf (stripA (opD cx e ((base + i) * 1000) o)) h with
      | fail => rw [hx] at hr; cases hr
      | pan v hh => rw [hx] at hr; cases hr
      | ok u hh =>
        rw [hx] at hr
        simp only at hr
        obtain ⟨u0, hu0, rfl⟩ := actOf_strip_inv hx
        have hsh := actOf_all (opD_shape cx e ((base + i) * 1000) o) hu0
        simp only [plainOp, Bool.and_eq_true, Bool.not_eq_true'] at hp
        have H2 := H.step (u := stripU u0) (d := o.dst) rfl rfl rfl rfl rfl rfl (hsh.loc hp.1)
        refine (ih e0 _ e' _ hh h' G.tail ?_ H2 hr).sub fun s => ?_
        · have : (e.upd o.dst (stripU u0)).get t = e.get t := by rw [get_upd, if_neg (by rw [← hd]; exact G.ne)]; rfl
          simp only [Env.av, this]
          exact hc
        · simp only [List.mem_append, dstsOf_cons, Option.mem_toList, hd]
          constructor
          · rintro (h | h | h)
            · exact .inl (.inr h)
            · exact .inl (.inl h)
            · exact .inr h
          · rintro ((h | h) | h)
            · exact .inr (.inl h)
            · exact .inl h
            · exact .inr (.inr h)
  intro is e e' h h' G hc hr
  exact (key is e e e' [] h h' G hc (.refl e) hr).sub (by simp)

/-- The guard says no. -/
def Off (c : AV) (want : Bool) : Prop := c = .tup [] ∨ ∃ b, c = .bool b ∧ (b == want) = false
omit [Dr] in
theorem Off.look {c : AV} {want : Bool} (h : Off c want) (m : M Upd) : gLook c want m = M.pure (.ofV (.tup [])) := by
  rcases h with rfl | ⟨b, rfl, hb⟩
  · rfl
  · simp only [gLook, hb, cond_false]

omit [Dr] in
theorem off_run {j : Nat} {want : Bool} {t : Nat} : ∀ (is : List Nat) (e : Env) (h : Hp), GroupOk cx ops j want t is → Off (e.av t) want → ∃ e', runSeq cx base ops is e h = .ok e' h ∧ Turned (dstsOf ops is) e e' ∧ ∀ s ∈ dstsOf ops is, e'.get s = ⟨.val (.tup []), none⟩ := by
  have key : ∀ (is : List Nat) (e0 e : Env) (ds : List Nat) (h : Hp), GroupOk cx ops j want t is → Off (e.av t) want → Turned ds e0 e → (∀ s ∈ ds, e.get s = ⟨.val (.tup []), none⟩) →
      ∃ e', runSeq cx base ops is e h = .ok e' h ∧ Turned (dstsOf ops is ++ ds) e0 e' ∧ ∀ s ∈ dstsOf ops is ++ ds, e'.get s = ⟨.val (.tup []), none⟩ := by
    intro is
    induction is with
    | nil => exact fun e0 e ds h _ _ H hds => ⟨e, rfl, H, hds⟩
    | cons i is ih =>
      intro e0 e ds h G hc H hds
      obtain ⟨o, ho, hg, hp⟩ := G.each i (by simp)
      have hd : dstOf ops i = o.dst := by simp [dstOf, ho]
      have hget : ∀ s, (e.upd o.dst (.ofV (.tup []))).get s = if o.dst = some s then ⟨.val (.tup []), none⟩ else e.get s := fun s => by rw [get_upd]; rfl
      have H2 := H.step (u := .ofV (.tup [])) (d := o.dst) rfl rfl rfl rfl rfl rfl (fun C off hh => by cases hh)
      have hav : (e.upd o.dst (.ofV (.tup []))).av t = e.av t := by
        have : (e.upd o.dst (.ofV (.tup []))).get t = e.get t := by rw [hget, if_neg (by rw [← hd]; exact G.ne)]
        simp only [Env.av, this]
      obtain ⟨e', h1, h2, h3⟩ := ih e0 (e.upd o.dst (.ofV (.tup []))) (o.dst.toList ++ ds) h G.tail (by rw [hav]; exact hc) H2 (fun s hs => by
        rw [hget]
        split
        · rfl
        · rename_i hn
          simp only [List.mem_append, Option.mem_toList] at hs
          rcases hs with hs | hs
          · exact absurd hs hn
          · exact hds s hs)
      have hiff : ∀ s, s ∈ dstsOf ops is ++ (o.dst.toList ++ ds) ↔ s ∈ dstsOf ops (i :: is) ++ ds := fun s => by
        simp only [List.mem_append, dstsOf_cons, Option.mem_toList, hd]
        constructor
        · rintro (h | h | h)
          · exact .inl (.inr h)
          · exact .inl (.inl h)
          · exact .inr h
        · rintro ((h | h) | h)
          · exact .inr (.inl h)
          · exact .inl h
          · exact .inr (.inr h)
      refine ⟨e', ?_, h2.sub hiff, fun s hs => h3 s ((hiff s).2 hs)⟩
      simp only [runSeq]
      unfold stepG
      rw [actG_some ho hg G.hj hp, hc.look, hd]
      exact h1
  intro is e h G hc
  obtain ⟨e', h1, h2, h3⟩ := key is e e [] h G hc (.refl e) (by simp)
  exact ⟨e', h1, h2.sub (by simp), fun s hs => h3 s (by simp [hs])⟩
end
end Go.Av

/- A region as operations one after another. No condition. -/
namespace Go.Av
variable [Dr]

section
variable {cx : Cx} {ops : Array Oper} {base : Nat}

/-- e2 tells no more than e, and all that the operations of L read. -/
structure Rel (ops : Array Oper) (L : List Nat) (e2 e : Env) : Prop where
  get : ∀ t, e2.get t = e.get t ∨ (e2.get t = Ent.none ∧ t < 1000 ∧ ∀ i ∈ L, t ∉ readsOf ops i)
  al : ∀ g, aliveG e2.al g = aliveG e.al g
  lb : ∀ B, lbSize e2.lb B = lbSize e.lb B
  lf : ∀ B, locFree e2.sl B = true → locFree e.sl B = true
omit [Dr] in
theorem Rel.refl (ops : Array Oper) (L : List Nat) (e : Env) : Rel ops L e e := ⟨fun _ => .inl rfl, fun _ => rfl, fun _ => rfl, fun _ h => h⟩
omit [Dr] in
theorem Rel.sub {L L' : List Nat} {e2 e : Env} (H : Rel ops L e2 e) (h : ∀ i ∈ L', i ∈ L) : Rel ops L' e2 e :=
  ⟨fun t => (H.get t).imp id fun ⟨h1, h2, h3⟩ => ⟨h1, h2, fun i hi => h3 i (h i hi)⟩, H.al, H.lb, H.lf⟩
omit [Dr] in
theorem Rel.read {L : List Nat} {e2 e : Env} (H : Rel ops L e2 e) {i t : Nat} (hi : i ∈ L) (ht : t ∈ readsOf ops i) : e.get t = e2.get t := by
  rcases H.get t with h | ⟨_, _, h⟩
  · exact h.symm
  · exact absurd ht (h i hi)
omit [Dr] in
theorem Rel.agree {L : List Nat} {e2 e : Env} (H : Rel ops L e2 e) {i : Nat} {o : Oper} (hi : i ∈ L) (ho : ops[i]? = some o) : Agree cx o e2 e := by
  refine ⟨fun t ht => H.read hi (by rw [readsOf_eq ho]; simp [ht]), fun _ => ⟨fun t ht => ?_, fun B => (H.lb B).symm⟩, fun _ g => (H.al g).symm, fun _ s _ hl => H.lf _ hl⟩
  rcases H.get t with h | ⟨_, h, _⟩
  · exact h.symm
  · omega
omit [Dr] in
theorem Rel.upd {L : List Nat} {e2 e : Env} (H : Rel ops L e2 e) (d : Option Tmp) (u : Upd) : Rel ops L (e2.upd d u) (e.upd d u) := by
  refine ⟨fun t => ?_, fun g => ?_, fun B => ?_, fun B hB => ?_⟩
  · rw [get_upd, get_upd]
    split
    · exact .inl rfl
    · rw [lookE_app, lookE_app]
      split
      · exact .inl rfl
      · exact H.get t
  · show aliveG (u.add ++ dropO e2.al u.drop) g = aliveG (u.add ++ dropO e.al u.drop) g
    have : aliveG (dropO e2.al u.drop) g = aliveG (dropO e.al u.drop) g := by
      cases u.drop with
      | none => exact H.al g
      | some k => simp only [dropO, aliveG_drop, H.al g]
    rw [aliveG_app, aliveG_app, this]
  · show lbSize (addO (dropLb e2.lb u.unlb) u.lb) B = lbSize (addO (dropLb e.lb u.unlb) u.lb) B
    have : lbSize (dropLb e2.lb u.unlb) B = lbSize (dropLb e.lb u.unlb) B := by
      cases u.unlb with
      | none => exact H.lb B
      | some k => simp only [dropLb, lbSize_dropB, H.lb B]
    cases u.lb with
    | none => exact this
    | some x =>
      obtain ⟨k, n⟩ := x
      simp only [addO, lbSize_cons, this]
  · have hB' : locFree (slD d u.ent (u.ls ++ e2.sl)) B = true := hB
    show locFree (slD d u.ent (u.ls ++ e.sl)) B = true
    rw [locFree_slD, locFree_app] at hB' ⊢
    simp only [Bool.and_eq_true] at hB' ⊢
    exact ⟨hB'.1, hB'.2.1, H.lf B hB'.2.2⟩

omit [Dr] in
/-- The stronger environment does the same. -/
theorem Rel.run : ∀ (is : List Nat) {L : List Nat} {e2 e : Env} (_ : Rel ops L e2 e) (_ : ∀ i ∈ is, i ∈ L) (h : Hp), runSeq cx base ops is e2 h ≠ .fail →
    (∃ e2' e' h', runSeq cx base ops is e2 h = .ok e2' h' ∧ runSeq cx base ops is e h = .ok e' h' ∧ Rel ops L e2' e') ∨ ∃ v h', runSeq cx base ops is e2 h = .pan v h' ∧ runSeq cx base ops is e h = .pan v h'
  | [], L, e2, e, H, _, h, _ => .inl ⟨e2, e, h, rfl, rfl, H⟩
  | i :: is, L, e2, e, H, hL, h, hr => by
    simp only [runSeq] at hr ⊢
    unfold stepG at hr ⊢
    simp only [bnd, M.pure] at hr ⊢
    cases hx : actG cx base ops i e2 h with
    | fail => rw [hx] at hr; exact absurd rfl hr
    | _ =>
      have ho : ∃ o, ops[i]? = some o := by
        cases ho : ops[i]? with
        | none => unfold actG at hx; rw [ho] at hx; cases hx
        | some o => exact ⟨o, rfl⟩
      obtain ⟨o, ho⟩ := ho
      have hi := hL i (by simp)
      have hy : actG cx base ops i e h = actG cx base ops i e2 h := actG_agree ho (fun t ht => H.read hi (by rw [readsOf_eq ho]; simp [ht])) (H.agree hi ho) (by rw [hx]; simp)
      rw [hy, hx]
      first
        | rw [hx] at hr
          exact Rel.run is (H.upd _ _) (fun k hk => hL k (by simp [hk])) _ hr
        | exact .inr ⟨_, _, rfl, rfl⟩

omit [Dr] in
theorem forget_get (e : Env) : ∀ (ds : List Nat) (t : Nat), (forget e ds).get t = if t ∈ ds then Ent.none else e.get t
  | [], t => by simp [forget]
  | d :: ds, t => by
    show lookE ((d, Ent.none) :: (forget e ds).sl) t = _
    rw [lookE_cons]
    by_cases hd : d = t
    · subst hd; simp
    · rw [if_neg hd]
      have := forget_get e ds t
      simp only [Env.get] at this
      rw [this]
      have hd' : ¬ t = d := fun h => hd h.symm
      simp [hd', Env.get]
omit [Dr] in
theorem forget_rest (e : Env) : ∀ (ds : List Nat), (forget e ds).al = e.al ∧ (forget e ds).lb = e.lb ∧ ∀ B, locFree (forget e ds).sl B = locFree e.sl B
  | [] => ⟨rfl, rfl, fun _ => rfl⟩
  | d :: ds => forget_rest e ds
omit [Dr] in
theorem setOuts_get (e : Env) (f : Nat → AV) : ∀ (outs : List Nat) (pre : List AV) (t : Nat), (setOuts e (pre ++ outs.map f) pre.length outs).get t = if t ∈ outs then ⟨.val (f t), none⟩ else e.get t
  | [], pre, t => by simp [setOuts]
  | d :: ds, pre, t => by
    show lookE ((d, ⟨.val (nth (pre ++ (d :: ds).map f) pre.length), none⟩) :: (setOuts e (pre ++ (d :: ds).map f) (pre.length + 1) ds).sl) t = _
    rw [lookE_cons]
    have hn : nth (pre ++ (d :: ds).map f) pre.length = f d := by simp [nth]
    by_cases hd : d = t
    · subst hd; rw [hn]; simp
    · rw [if_neg hd]
      have := setOuts_get e f ds (pre ++ [f d]) t
      simp only [List.append_assoc, List.length_append, List.length_cons, List.length_nil, List.singleton_append] at this
      simp only [Env.get, List.map_cons] at this ⊢
      rw [this]
      have hd' : ¬ t = d := fun h => hd h.symm
      simp [hd', Env.get]
omit [Dr] in
theorem setOuts_rest (e : Env) (vs : List AV) : ∀ (outs : List Nat) (i : Nat), (setOuts e vs i outs).al = e.al ∧ (setOuts e vs i outs).lb = e.lb ∧ ∀ B, locFree (setOuts e vs i outs).sl B = locFree e.sl B
  | [], i => ⟨rfl, rfl, fun _ => rfl⟩
  | d :: ds, i => setOuts_rest e vs ds (i + 1)

omit [Dr] in
theorem usedIn_iff (gs : List (Option (Nat × Bool) × List Nat)) (t : Nat) : usedIn ops gs t = true ↔ ∃ i ∈ flatG gs, t ∈ readsOf ops i := by
  unfold usedIn flatG
  simp only [List.any_eq_true, List.mem_flatMap, memN_iff]
  constructor
  · rintro ⟨g, hg, i, hi, ht⟩; exact ⟨i, ⟨g, hg, hi⟩, ht⟩
  · rintro ⟨i, ⟨g, hg, hi⟩, ht⟩; exact ⟨g, hg, i, hi, ht⟩

omit [Dr] in
/-- After a group: the values that are used later. -/
theorem Rel.close {is : List Nat} {gs : List (Option (Nat × Bool) × List Nat)} {e2 e e' : Env} (H : Rel ops (is ++ flatG gs) e2 e) (hS : Small ops) (T : Turned (dstsOf ops is) e e') {vs : List AV} {f : Nat → AV}
    (hvs : vs = (outsOf ops is gs).map f) (hf : ∀ t ∈ outsOf ops is gs, e'.get t = ⟨.val (f t), none⟩ ∨ (f t = .any ∧ t < 1000 ∧ ∀ i ∈ flatG gs, t ∉ readsOf ops i)) : Rel ops (flatG gs) (setOuts (forget e2 (dstsOf ops is)) vs 0 (outsOf ops is gs)) e' := by
  have hr := setOuts_rest (forget e2 (dstsOf ops is)) vs (outsOf ops is gs) 0
  have hr2 := forget_rest e2 (dstsOf ops is)
  refine ⟨fun t => ?_, fun g => ?_, fun B => ?_, fun B hB => ?_⟩
  · have hg := setOuts_get (forget e2 (dstsOf ops is)) f (outsOf ops is gs) [] t
    simp only [List.nil_append, List.length_nil] at hg
    rw [hvs, hg]
    split
    · rename_i ht
      rcases hf t ht with h | ⟨h1, h2, h3⟩
      · exact .inl h.symm
      · exact .inr ⟨by rw [h1]; rfl, h2, h3⟩
    · rename_i ht
      rw [forget_get]
      split
      · rename_i hd
        refine .inr ⟨rfl, ?_, fun i hi hti => ht ?_⟩
        · unfold dstsOf at hd
          simp only [List.mem_filterMap] at hd
          obtain ⟨i, hi, hd⟩ := hd
          unfold dstOf at hd
          cases hoi : ops[i]? with
          | none => rw [hoi] at hd; simp at hd
          | some o => rw [hoi] at hd; exact hS.dst i o hoi t hd
        · unfold outsOf
          rw [List.mem_filter]
          exact ⟨hd, (usedIn_iff gs t).2 ⟨i, hi, hti⟩⟩
      · rename_i hd
        rw [T.get t hd]
        rcases H.get t with h | ⟨h1, h2, h3⟩
        · exact .inl h
        · exact .inr ⟨h1, h2, fun i hi => h3 i (by simp [hi])⟩
  · rw [hr.1, hr2.1, T.al]; exact H.al g
  · rw [hr.2.1, hr2.2.1, T.lb]; exact H.lb B
  · rw [hr.2.2, hr2.2.2] at hB
    exact T.lf B (H.lf B hB)

omit [Dr] in
theorem runSeq_app (l m : List Nat) : ∀ e : Env, runSeq cx base ops (l ++ m) e = bnd (runSeq cx base ops l e) (runSeq cx base ops m) := by
  induction l with
  | nil => intro e; rfl
  | cons i l ih =>
    intro e
    show bnd (stepG cx base ops i e) (runSeq cx base ops (l ++ m)) = bnd (bnd (stepG cx base ops i e) (runSeq cx base ops l)) (runSeq cx base ops m)
    rw [bnd_bnd]
    congr 1
    funext e'
    exact ih e'

omit [Dr] in
theorem ent_val {x : Ent} (h1 : isValE x = true) (h2 : x.g = none) : x = ⟨.val x.av, none⟩ := by
  obtain ⟨v, g⟩ := x
  cases v with
  | val a => simp only at h2; subst h2; rfl
  | loc B off => cases h1

omit [Dr] in
/-- A region's groups do what its operations do, one after another. -/
theorem grps_seq {ρ : Type} (hS : Small ops) : ∀ (gs : List (Option (Nat × Bool) × List Nat)) (e2 e : Env) (k : Env → M ρ) (h : Hp), (∀ g ∈ gs, ∀ i ∈ g.2, guardOf ops i = g.1) → Rel ops (flatG gs) e2 e → evGrps cx base ops gs e2 k h ≠ .fail →
    (∃ e2' e' h', evGrps cx base ops gs e2 k h = k e2' h' ∧ runSeq cx base ops (flatG gs) e h = .ok e' h' ∧ Rel ops [] e2' e') ∨ ∃ v h', evGrps cx base ops gs e2 k h = .pan v h' ∧ runSeq cx base ops (flatG gs) e h = .pan v h'
  | [], e2, e, k, h, _, H, _ => .inl ⟨e2, e, h, rfl, rfl, H⟩
  | (none, is) :: gs, e2, e, k, h, hg, H, hr => by
    have hg0 : ∀ i ∈ is, guardOf ops i = none := hg (none, is) (by simp)
    have hfl : flatG ((none, is) :: gs) = is ++ flatG gs := rfl
    rw [hfl] at H ⊢
    rw [runSeq_app]
    simp only [evGrps] at hr ⊢
    rw [run_none is e2 _ hg0] at hr ⊢
    simp only [bnd] at hr ⊢
    have hr2 : runSeq cx base ops is e2 h ≠ .fail := fun hf => by rw [hf] at hr; exact hr rfl
    rcases H.run (base := base) (cx := cx) is (fun i hi => by simp [hi]) h hr2 with ⟨e2', e', h', h1, h2, H'⟩ | ⟨v, h', h1, h2⟩
    · rw [h1] at hr ⊢
      rw [h2]
      exact grps_seq hS gs e2' e' k h' (fun g hgg => hg g (by simp [hgg])) (H'.sub fun i hi => by simp [hi]) hr
    · rw [h1, h2]
      exact .inr ⟨v, h', rfl, rfl⟩
  | (some (j, want), is) :: gs, e2, e, k, h, hg, H, hr => by
    have hg0 : ∀ i ∈ is, guardOf ops i = some (j, want) := hg (some (j, want), is) (by simp)
    have hfl : flatG ((some (j, want), is) :: gs) = is ++ flatG gs := rfl
    rw [hfl] at H ⊢
    rw [runSeq_app]
    simp only [evGrps] at hr ⊢
    cases hdj : dstOf ops j with
    | none => rw [hdj] at hr; exact absurd rfl hr
    | some t =>
      rw [hdj] at hr
      simp only at hr ⊢
      revert hr
      cases hc : ((is.all fun i => match ops[i]? with | some o => plainOp cx o && o.dst.isSome | none => false) && !(memN (dstsOf ops is) t)) with
      | false => intro hr; exact absurd rfl hr
      | true =>
        intro hr
        simp only [cond_true] at hr ⊢
        simp only [Bool.and_eq_true, Bool.not_eq_true', List.all_eq_true] at hc
        have G : GroupOk cx ops j want t is := by
          refine ⟨hdj, fun i hi => ?_, fun ht => ?_⟩
          · have := hc.1 i hi
            cases hoi : ops[i]? with
            | none => rw [hoi] at this; cases this
            | some o =>
              rw [hoi] at this
              simp only [Bool.and_eq_true] at this
              exact ⟨o, rfl, hg0 i hi, this.1⟩
          · rw [(memN_iff _ _).2 ht] at hc
            exact Bool.noConfusion hc.2
        have htr : ∀ i ∈ is, t ∈ readsOf ops i := fun i hi => by
          obtain ⟨o, ho, hgi, _⟩ := G.each i hi
          rw [readsOf_eq ho]
          have : o.guard = some (j, want) := by simpa [guardOf, ho] using hgi
          have : t ∈ guardTmps ops o := by
            unfold guardTmps
            rw [this]
            simp only
            rw [show (ops[j]?).bind (·.dst) = some t from hdj]
            simp
          simp [this]
        -- the guard says yes
        cases is with
        | nil =>
          have hrn : ∀ e, runSeq cx base ops [] e = M.pure e := fun _ => rfl
          rw [hrn, bnd_pure]
          have ho : outsOf ops [] gs = [] := rfl
          have hd : dstsOf ops [] = [] := rfl
          rw [ho, hd] at hr ⊢
          have hpure : ∀ {q : AV} {m : M (List AV)}, m h = .ok [] h → guardM q want ([] : List Nat).length m h ≠ .fail → guardM q want ([] : List Nat).length m h = .ok [] h := by
            intro q m hm hne
            cases q with
            | bool b =>
              simp only [guardM]
              cases b == want with
              | true => exact hm
              | false => rfl
            | tup vs =>
              cases vs with
              | nil => rfl
              | cons v vs => exact absurd rfl hne
            | _ => exact absurd rfl hne
          simp only [bnd] at hr ⊢
          have hp := hpure (q := e2.av t) (m := evRun cx base ops true [] e2 fun e' => bif ([] : List Nat).all (fun t => isValE (e'.get t)) then M.pure (([] : List Nat).map e'.av) else M.fail) rfl (fun hf => by rw [hf] at hr; exact hr rfl)
          rw [hp] at hr ⊢
          exact grps_seq hS gs e2 e k h (fun g hgg => hg g (by simp [hgg])) (H.sub fun i hi => by simp [hi]) hr
        | cons i0 is0 =>
        have hav : e.av t = e2.av t := by
          have := H.read (i := i0) (by simp) (htr i0 (by simp))
          simp only [Env.av, this]
        generalize hiseq : i0 :: is0 = is at *
        have hoff : Off (e2.av t) want → (guardM (e2.av t) want (outsOf ops is gs).length (evRun cx base ops true is e2 fun e' => bif (outsOf ops is gs).all (fun t => isValE (e'.get t)) then M.pure ((outsOf ops is gs).map e'.av) else M.fail)) = M.pure (List.replicate (outsOf ops is gs).length (.tup [])) := by
          rintro (hq | ⟨b, hq, hb⟩)
          · rw [hq]; rfl
          · rw [hq]; simp only [guardM, hb, cond_false]
        have hcase : Off (e2.av t) want ∨ e2.av t = .bool want := by
          cases hq : e2.av t with
          | bool b =>
            cases hb : (b == want) with
            | true => right; simp at hb; rw [hb]
            | false => exact .inl (.inr ⟨b, rfl, hb⟩)
          | tup vs =>
            cases vs with
            | nil => exact .inl (.inl rfl)
            | cons v vs => rw [hq] at hr; exact absurd rfl hr
          | _ => rw [hq] at hr; exact absurd rfl hr
        rcases hcase with ho | hy
        · rw [hoff ho, bnd_pure] at hr ⊢
          obtain ⟨e', h1, T, h2⟩ := off_run (base := base) is e h G (by rw [hav]; exact ho)
          simp only [bnd]
          rw [h1]
          refine grps_seq hS gs _ e' k h (fun g hgg => hg g (by simp [hgg])) (H.close hS T (f := fun _ => .tup []) ?_ fun s hs => .inl ?_) hr
          · exact (List.map_const' ..).symm
          · refine h2 s ?_
            unfold outsOf at hs
            exact (List.mem_filter.1 hs).1
        · rw [hy] at hr ⊢
          simp only [guardM, beq_self_eq_true, cond_true, bnd] at hr ⊢
          rw [run_taken is e2 _ h G hy] at hr ⊢
          simp only [bnd] at hr ⊢
          have hr2 : runSeq cx base ops is e2 h ≠ .fail := fun hf => by rw [hf] at hr; exact hr rfl
          rcases H.run (base := base) (cx := cx) is (fun i hi => by simp [hi]) h hr2 with ⟨e2', e', h', h1, h2, H'⟩ | ⟨v, h', h1, h2⟩
          · rw [h1] at hr ⊢
            rw [h2]
            simp only at hr ⊢
            have T2 := taken_turned is e2 e2' h h' G hy h1
            have T := taken_turned is e e' h h' G (by rw [hav]; exact hy) h2
            cases hv : (outsOf ops is gs).all (fun t => isValE (e2'.get t)) with
            | false => rw [hv] at hr; exact absurd rfl hr
            | true =>
              rw [hv] at hr
              simp only [cond_true, M.pure] at hr ⊢
              refine grps_seq hS gs _ e' k h' (fun g hgg => hg g (by simp [hgg])) (H.close hS T (f := e2'.av) rfl fun s hs => ?_) hr
              have hsd : s ∈ dstsOf ops is := by unfold outsOf at hs; exact (List.mem_filter.1 hs).1
              have hval := ent_val (List.all_eq_true.1 hv s hs) (T2.ng s hsd)
              rcases H'.get s with h3 | ⟨h3, h4, h5⟩
              · left; rw [← h3]; exact hval
              · right; exact ⟨by simp only [Env.av, h3]; rfl, h4, fun i hi => h5 i (by simp [hi])⟩
          · rw [h1, h2]
            exact .inr ⟨v, h', rfl, rfl⟩
end
end Go.Av

/- A region. Conditions: the table of types is the program's; the calls are right; isolated calls see nothing of the heap. -/
namespace Go.Av
variable [Dr]

/-! ### What stands before an operation -/
omit [Dr] in
theorem maskOf_bit (acc : List Nat) : ∀ (es : List Edge) (x : Nat), (maskOf acc es).testBit x = true ↔ ∃ e ∈ es, Region.binds .any e = true ∧ (e.on = x ∨ (acc.getD e.on 0).testBit x = true)
  | [], x => by simp [maskOf]
  | e :: es, x => by
    simp only [maskOf]
    cases hb : Region.binds .any e with
    | false =>
      simp only [cond_false, maskOf_bit acc es x, List.mem_cons]
      constructor
      · rintro ⟨e', he, h⟩; exact ⟨e', .inr he, h⟩
      · rintro ⟨e', rfl | he, h⟩
        · rw [hb] at h; exact absurd h.1 (by simp)
        · exact ⟨e', he, h⟩
    | true =>
      simp only [cond_true, Nat.testBit_or, Bool.or_eq_true, maskOf_bit acc es x, List.mem_cons, Nat.testBit_two_pow, decide_eq_true_eq]
      constructor
      · rintro ((⟨e', he, h⟩ | h) | h)
        · exact ⟨e', .inr he, h⟩
        · exact ⟨e, .inl rfl, hb, .inl h⟩
        · exact ⟨e, .inl rfl, hb, .inr h⟩
      · rintro ⟨e', rfl | he, h1, h2⟩
        · rcases h2 with h2 | h2
          · exact .inl (.inr h2)
          · exact .inr h2
        · exact .inl (.inl ⟨e', he, h1, h2⟩)

omit [Dr] in
theorem befs_spec : ∀ (os : List Oper) (acc : List Nat), ∃ r : List Nat, befs os acc = acc ++ r ∧ r.length = os.length ∧ ∀ (k : Nat) (o : Oper), os[k]? = some o → r[k]? = some (maskOf (acc ++ r.take k) o.after.toList)
  | [], acc => ⟨[], by simp [befs], rfl, by simp⟩
  | o :: os, acc => by
    obtain ⟨r, h1, h2, h3⟩ := befs_spec os (acc ++ [maskOf acc o.after.toList])
    refine ⟨maskOf acc o.after.toList :: r, by simp [befs, h1], by simp [h2], fun k o' ho => ?_⟩
    cases k with
    | zero => simp at ho; subst ho; simp
    | succ k =>
      simp only [List.getElem?_cons_succ, List.take_succ_cons] at ho ⊢
      rw [h3 k o' ho]
      simp

section
variable {ops : Array Oper}

def bfOf (ops : Array Oper) : List Nat := befs ops.toList []
omit [Dr] in
theorem bf_get {j : Nat} {o : Oper} (ho : ops[j]? = some o) : (bfOf ops).length = ops.size ∧ (bfOf ops).getD j 0 = maskOf ((bfOf ops).take j) o.after.toList := by
  obtain ⟨r, h1, h2, h3⟩ := befs_spec ops.toList []
  have h4 : bfOf ops = r := by unfold bfOf; rw [h1]; simp
  rw [h4]
  refine ⟨by simp [h2], ?_⟩
  have := h3 j o (by simpa using ho)
  rw [List.getD_eq_getElem?_getD, this]
  simp
omit [Dr] in
/-- All that stands before an operation whose edges are done is done. -/
theorem bf_closed {listed : Nat → Prop} (hcl : ∀ (j : Nat) (o : Oper), ops[j]? = some o → listed j → ∀ e ∈ o.after.toList, Region.binds .any e = true → listed e.on) :
    ∀ (j : Nat) (o : Oper), ops[j]? = some o → (∀ e ∈ o.after.toList, Region.binds .any e = true → listed e.on) → ∀ x, ((bfOf ops).getD j 0).testBit x = true → listed x := by
  intro j
  induction j using Nat.strongRecOn with
  | _ j ih =>
    intro o ho hl x hx
    obtain ⟨hlen, hget⟩ := bf_get ho
    rw [hget, maskOf_bit] at hx
    obtain ⟨e, he, hb, hx | hx⟩ := hx
    · rw [← hx]; exact hl e he hb
    · by_cases hj : e.on < j
      · have hjs : j < ops.size := (Array.getElem?_eq_some_iff.1 ho).1
        have hos : ops[e.on]? = some ops[e.on] := Array.getElem?_eq_getElem (by omega)
        have h1 : ((bfOf ops).take j).getD e.on 0 = (bfOf ops).getD e.on 0 := by
          rw [List.getD_eq_getElem?_getD, List.getD_eq_getElem?_getD, List.getElem?_take, if_pos hj]
        rw [h1] at hx
        exact ih e.on hj _ hos (hcl e.on _ hos (hl e he hb)) x hx
      · rw [List.getD_eq_getElem?_getD, List.getElem?_take, if_neg hj] at hx
        simp at hx

/-- Two operations in the order: the later one does not stand before the earlier one, and is behind it or may be exchanged with it. -/
def PairR (cx : Cx) (ops : Array Oper) (i j : Nat) : Prop := ((bfOf ops).getD i 0).testBit j = false ∧ (((bfOf ops).getD j 0).testBit i = true ∨ indep cx ops i j = true)
omit [Dr] in
theorem pairsOk_inv {cx : Cx} : ∀ {l : List Nat}, pairsOk cx ops (bfOf ops) l = true → l.Pairwise (PairR cx ops) ∧ ∀ i ∈ l, ((bfOf ops).getD i 0).testBit i = false
  | [], _ => ⟨.nil, by simp⟩
  | i :: l, h => by
    simp only [pairsOk, Bool.and_eq_true, Bool.not_eq_true', List.all_eq_true, Bool.or_eq_true] at h
    obtain ⟨⟨h1, h2⟩, h3⟩ := h
    obtain ⟨h4, h5⟩ := pairsOk_inv h3
    refine ⟨.cons (fun j hj => h2 j hj) h4, fun k hk => ?_⟩
    simp only [List.mem_cons] at hk
    rcases hk with rfl | hk
    · exact h1
    · exact h5 k hk
omit [Dr] in
theorem distinct_nodup : ∀ {l : List Nat}, distinct l = true → l.Nodup
  | [], _ => .nil
  | i :: l, h => by
    simp only [distinct, Bool.and_eq_true, Bool.not_eq_true'] at h
    refine List.nodup_cons.2 ⟨fun hi => ?_, distinct_nodup h.2⟩
    rw [(memN_iff _ _).2 hi] at h
    exact Bool.noConfusion h.1

variable {P : Program} {cx : Cx} {c : Entry} {N base : Nat}

theorem draw_any (hT : TOK P cx.T) (hC : CallsOK P cx.own cx.call) (hI : IsoPure cx) (hO : OpsOk N cx ops) (hS : Small ops) (hbit : ∀ i x, ((bfOf ops).getD i 0).testBit x = true → x < ops.size) (hself : ∀ i, i < ops.size → ((bfOf ops).getD i 0).testBit i = false)
    {Q : Exit → Act → World → Prop} : ∀ (n : Nat) (rest : List Nat) (listed : Array Bool) (D : List Nat) (e : Env) (h : Hp) (a : Act) (w : World), rest.length = n → listed.size = ops.size → rest.Nodup →
    (∀ i, i ∈ rest ↔ i < ops.size ∧ listed.getD i true = false) → (∀ i ∈ rest, i ∉ D) → (∀ i ∈ D, i < ops.size) →
    (∀ (j : Nat) (o : Oper), ops[j]? = some o → listed.getD j false = true → ∀ e ∈ o.after.toList, Region.binds .any e = true → listed.getD e.on false = true) → rest.Pairwise (PairR cx ops) →
    Sat c N (UD base D) e h a w → runSeq cx base ops rest e h ≠ .fail →
    (∀ e0 e' h' a' w', runSeq cx base ops rest e h = .ok e0 h' → EqE e0 e' → Sat c N (UR base ops.size) e' h' a' w' → a'.defers = a.defers → Q .normal a' w') →
    (∀ pv h' v w' a', runSeq cx base ops rest e h = .pan pv h' → PanSat c pv h' v w' → a'.defers = a.defers → Q (.panic [{ v, recovered := false }]) a' w') → wpAny P .any ops Q n listed a w
  | 0, rest, listed, D, e, h, a, w, hlen, hsz, hnd, hmem, hdis, hD, hcl, hpw, H, hr, hn, hp => by
    have : rest = [] := List.eq_nil_of_length_eq_zero hlen
    subst this
    refine ⟨?_, hn e e h a w rfl (.refl e) (H.wider (UD_UR hD)) rfl⟩
    refine List.eq_nil_iff_forall_not_mem.2 fun i hi => ?_
    obtain ⟨h0, o, ho, _⟩ := mem_ready.1 hi
    have := (hmem i).2 ⟨(Array.getElem?_eq_some_iff.1 ho).1, h0⟩
    simp at this
  | n + 1, rest, listed, D, e, h, a, w, hlen, hsz, hnd, hmem, hdis, hD, hcl, hpw, H, hr, hn, hp => by
    have hgd : ∀ i, i < ops.size → listed.getD i true = listed.getD i false := fun i hi => by
      rw [Array.getD_eq_getD_getElem?, Array.getD_eq_getD_getElem?, Array.getElem?_eq_getElem (by omega)]
      rfl
    refine ⟨fun hemp => ?_, fun i hi => ?_⟩
    · exfalso
      cases rest with
      | nil => simp at hlen
      | cons r0 tl =>
        have hr0 := (hmem r0).1 (by simp)
        have hor : ops[r0]? = some ops[r0] := Array.getElem?_eq_getElem hr0.1
        have : r0 ∈ Region.ready .any ops listed := by
          refine mem_ready.2 ⟨hr0.2, _, hor, fun ed hed hb => ?_⟩
          have hbt : ((bfOf ops).getD r0 0).testBit ed.on = true := by
            rw [(bf_get hor).2, maskOf_bit]
            exact ⟨ed, by simpa using hed, hb, .inl rfl⟩
          have hlt := hbit r0 ed.on hbt
          cases hl : listed.getD ed.on false with
          | true => rfl
          | false =>
            have hin := (hmem ed.on).2 ⟨hlt, by rw [hgd _ hlt]; exact hl⟩
            simp only [List.mem_cons] at hin
            rcases hin with hin | hin
            · rw [hin] at hbt
              rw [hself r0 hr0.1] at hbt
              cases hbt
            · have := (List.pairwise_cons.1 hpw).1 ed.on hin
              rw [this.1] at hbt
              cases hbt
        rw [hemp] at this
        simp at this
    · obtain ⟨h0, o, ho, hall⟩ := mem_ready.1 hi
      have hlt : i < ops.size := (Array.getElem?_eq_some_iff.1 ho).1
      have hin := (hmem i).2 ⟨hlt, h0⟩
      obtain ⟨p, q, rfl⟩ := List.append_of_mem hin
      have hnd' := hnd
      rw [List.nodup_append] at hnd'
      have hni : i ∉ p ++ q := by
        intro hm
        rw [List.mem_append] at hm
        rcases hm with hm | hm
        · exact hnd'.2.2 i hm i (by simp) rfl
        · exact (List.nodup_cons.1 hnd'.2.1).1 hm
      have hclo := bf_closed (ops := ops) (listed := fun j => listed.getD j false = true) (fun j o ho hj ed hed hb => hcl j o ho hj ed hed hb) i o ho (fun ed hed hb => hall ed (by simpa using hed) hb)
      have hfront : ∀ x ∈ p, indep cx ops x i = true ∧ x ≠ i := by
        intro x hx
        have hpr := (List.pairwise_append.1 hpw).2.2 x hx i (by simp)
        refine ⟨?_, fun hxi => hni (by rw [← hxi]; simp [hx])⟩
        rcases hpr.2 with h1 | h1
        · have hxl := hclo x h1
          have hxr := (hmem x).1 (by simp [hx])
          rw [hgd x hxr.1] at hxr
          rw [hxr.2] at hxl
          cases hxl
        · exact h1
      have hRE := front (base := base) hI hS q p hfront e h
      have hr' : runSeq cx base ops (i :: (p ++ q)) e h ≠ .fail := by
        intro hf
        rw [hf] at hRE
        cases hx : runSeq cx base ops (p ++ i :: q) e h with
        | fail => exact hr hx
        | ok e0 h0 => rw [hx] at hRE; obtain ⟨_, h1, _⟩ := hRE; cases h1
        | pan v h0 => rw [hx] at hRE; cases hRE
      simp only [runSeq, bnd] at hr'
      have hstep : ∀ {r : R Env}, runSeq cx base ops (i :: (p ++ q)) e h = r → runSeq cx base ops (i :: (p ++ q)) e h = r := fun h => h
      simp only [runSeq, bnd] at hRE
      refine step_sound hT hC hO (hdis i hin) H (fun hf => by rw [hf] at hr'; exact hr' rfl) (fun e1 h1 a1 w1 hst hs hdf => ?_) (fun pv h1 v w1 hst hps => ?_)
      · rw [hst] at hr' hRE
        simp only at hr' hRE
        refine draw_any hT hC hI hO hS hbit hself n (p ++ q) (listed.setIfInBounds i true) (i :: D) e1 h1 a1 w1 ?_ (by simp [hsz]) ?_ (fun k => ?_) (fun k hk => ?_) (fun k hk => ?_) (fun k o' ho' hk ed hed hb => ?_) ?_ hs hr' (fun e0 e' h' a' w' hok heq hsat hdf' => ?_) (fun pv h' v w' a' hok hps hdf' => ?_)
        · simp only [List.length_append, List.length_cons] at hlen ⊢; omega
        · exact hnd.sublist (List.Sublist.append (List.Sublist.refl p) (List.sublist_cons_self i q))
        · have hset : k ≠ i → (listed.setIfInBounds i true).getD k true = listed.getD k true := fun hk => by
            rw [Array.getD_eq_getD_getElem?, Array.getD_eq_getD_getElem?, Array.getElem?_setIfInBounds_ne (Ne.symm hk)]
          constructor
          · intro hk
            have hki : k ≠ i := fun h => hni (h ▸ hk)
            rw [hset hki]
            exact (hmem k).1 (by
              simp only [List.mem_append, List.mem_cons] at hk ⊢
              rcases hk with hk | hk
              · exact .inl hk
              · exact .inr (.inr hk))
          · rintro ⟨h1, h2⟩
            have hki : k ≠ i := by
              rintro rfl
              rw [Array.getD_eq_getD_getElem?, Array.getElem?_setIfInBounds_self] at h2
              rw [if_pos (by omega)] at h2
              simp at h2
            rw [hset hki] at h2
            have := (hmem k).2 ⟨h1, h2⟩
            simp only [List.mem_append, List.mem_cons] at this ⊢
            rcases this with h | h | h
            · exact .inl h
            · exact absurd h hki
            · exact .inr h
        · simp only [List.mem_cons, not_or]
          refine ⟨fun hki => hni (hki ▸ hk), hdis k ?_⟩
          simp only [List.mem_append, List.mem_cons] at hk ⊢
          rcases hk with hk | hk
          · exact .inl hk
          · exact .inr (.inr hk)
        · simp only [List.mem_cons] at hk
          rcases hk with rfl | hk
          · exact hlt
          · exact hD k hk
        · have hmono : ∀ x, listed.getD x false = true → (listed.setIfInBounds i true).getD x false = true := fun x hx => getD_set_true hx
          by_cases hki : k = i
          · subst hki
            rw [ho] at ho'
            cases ho'
            exact hmono _ (hall ed (by simpa using hed) hb)
          · refine hmono _ (hcl k o' ho' ?_ ed hed hb)
            rw [Array.getD_eq_getD_getElem?, Array.getElem?_setIfInBounds_ne (Ne.symm hki), ← Array.getD_eq_getD_getElem?] at hk
            exact hk
        · exact hpw.sublist (List.Sublist.append (List.Sublist.refl p) (List.sublist_cons_self i q))
        · rw [hok] at hRE
          cases hx : runSeq cx base ops (p ++ i :: q) e h with
          | fail => exact absurd hx hr
          | ok ex hx' =>
            rw [hx] at hRE
            obtain ⟨e0', h2, h3⟩ := hRE
            cases h2
            exact hn ex e' _ a' w' hx (h3.trans heq) hsat (hdf'.trans hdf)
          | pan v h0 => rw [hx] at hRE; cases hRE
        · rw [hok] at hRE
          cases hx : runSeq cx base ops (p ++ i :: q) e h with
          | fail => exact absurd hx hr
          | ok ex hx' => rw [hx] at hRE; obtain ⟨_, h1, _⟩ := hRE; cases h1
          | pan v0 h0 =>
            rw [hx] at hRE
            cases hRE
            exact hp _ _ v w' a' hx hps (hdf'.trans hdf)
      · rw [hst] at hRE
        cases hx : runSeq cx base ops (p ++ i :: q) e h with
        | fail => exact absurd hx hr
        | ok ex hx' => rw [hx] at hRE; obtain ⟨_, h1, _⟩ := hRE; cases h1
        | pan v0 h0 =>
          rw [hx] at hRE
          cases hRE
          exact hp _ _ v w1 a hx hps rfl
end
end Go.Av

/- A region. Conditions: the table of types is the program's; the calls are right; isolated calls see nothing of the heap. -/
namespace Go.Av
variable [Dr]

/-- An isolated call: what it gives does not hang on the heap, and it leaves the heap. -/
structure IsoCall (cx : Cx) : Prop where
  iso : ∀ f args, cx.iso f = true → ∃ x : Option (Bool × AV), ∀ h, cx.call f args h = (match x with | none => .fail | some (true, v) => .ok v h | some (false, v) => .pan v h)
  nw : ∀ f args, cx.nw f = true → NwM (cx.call f args)

omit [Dr] in
theorem IsoCall.draw {cx : Cx} (h : IsoCall cx) : IsoPure (cxDraw cx) := by
  refine ⟨?_, fun f args hf => ?_⟩
  case refine_2 =>
    have hn := h.nw f args hf
    show NwM (bif cx.iso f then noPan (cx.call f args) else cx.call f args)
    cases cx.iso f with
    | false => exact hn
    | true =>
      intro hp v h' hh
      simp only [cond_true, noPan] at hh
      cases hq : cx.call f args hp with
      | ok a b => rw [hq] at hh; cases hh; exact hn _ _ _ hq
      | pan a b => rw [hq] at hh; cases hh
      | fail => rw [hq] at hh; cases hh
  intro f args hf
  have hf' : cx.iso f = true := hf
  obtain ⟨x, hx⟩ := h.iso f args hf'
  refine ⟨match x with | some (true, v) => some v | _ => none, ?_⟩
  show (bif cx.iso f then noPan (cx.call f args) else cx.call f args) = _
  rw [hf']
  funext hp
  simp only [cond_true, noPan, hx]
  rcases x with _ | ⟨b, v⟩
  · rfl
  · cases b <;> rfl

theorem CallsOK.draw {P : Program} {cx : Cx} (h : CallsOK P cx.own cx.call) : CallsOK P (cxDraw cx).own (cxDraw cx).call := by
  intro f args hp S β w vs hr hg hw hh hv
  have hcall : (cxDraw cx).call f args hp = (bif cx.iso f then noPan (cx.call f args) hp else cx.call f args hp) := by
    show (bif cx.iso f then noPan (cx.call f args) else cx.call f args) hp = _
    cases cx.iso f <;> rfl
  rw [hcall] at hr ⊢
  have key : ∀ r, r = cx.call f args hp → r ≠ .fail → Calls P f vs.toArray w (CPost ((cxDraw cx).own f) S β hp w r) ∧ (P.funcs[f]?).any (fun fn => fn.body.isSome && !(fn.name == "runtime.NumGoroutine")) = true := by
    intro r hr1 hr2
    subst hr1
    exact h f args hp S β w vs hr2 hg hw hh hv
  cases hi : cx.iso f with
  | false => rw [hi] at hr; exact key _ rfl hr
  | true =>
    rw [hi] at hr
    simp only [cond_true, noPan] at hr ⊢
    cases hx : cx.call f args hp with
    | ok v hq => rw [hx] at hr; exact key _ hx.symm (by simp)
    | pan v hq => rw [hx] at hr; exact absurd rfl hr
    | fail => rw [hx] at hr; exact absurd rfl hr

/-- A state between two pieces of code. -/
def SatE (c : Entry) (N : Nat) (e : Env) (h : Hp) (a : Act) (w : World) : Prop := Sat c N (fun g => g < e.nx * 1000) e h a w

theorem Sat.rel {c : Entry} {N : Nat} {U : Nat → Prop} {e2 e : Env} {h : Hp} {a : Act} {w : World} {ops : Array Oper} (H : Sat c N U e h a w) (R : Rel ops [] e2 e) : Sat c N U e2 h a w := by
  obtain ⟨S, β, γ, lam, ω, F⟩ := H
  refine ⟨S, β, γ, lam, ω, F.weak (fun t => ?_) (fun t g hg => ?_) (fun g z hz => by rw [R.al] at hz; exact hz) (fun B n hB => by rw [R.lb] at hB; exact hB)⟩
  · rcases R.get t with h | ⟨h1, h2, _⟩
    · exact .inl (by rw [h])
    · exact .inr ⟨by rw [h1]; rfl, h2⟩
  · rcases R.get t with h | ⟨h1, _⟩
    · rw [h] at hg; exact hg
    · rw [h1] at hg; cases hg
theorem Sat.eqE {c : Entry} {N : Nat} {U : Nat → Prop} {e2 e : Env} {h : Hp} {a : Act} {w : World} (H : Sat c N U e h a w) (R : EqE e e2) : Sat c N U e2 h a w := by
  obtain ⟨S, β, γ, lam, ω, F⟩ := H
  exact ⟨S, β, γ, lam, ω, F.weak (fun t => .inl (by rw [R.get])) (fun t g hg => by rw [R.get] at hg; exact hg) (fun g z hz => by rw [R.al] at hz; exact hz) (fun B n hB => by rw [R.lb] at hB; exact hB)⟩
theorem Sat.nx {c : Entry} {N : Nat} {U : Nat → Prop} {e : Env} {h : Hp} {a : Act} {w : World} (n : Nat) (H : Sat c N U e h a w) : Sat c N U { e with nx := n } h a w := by
  obtain ⟨S, β, γ, lam, ω, F⟩ := H
  exact ⟨S, β, γ, lam, ω, F.weak (fun t => .inl rfl) (fun t g hg => hg) (fun g z hz => hz) (fun B n hB => hB)⟩

section
variable {P : Program} {cx : Cx} {c : Entry} {e : Env} {h : Hp} {a : Act} {w : World} {ops : Array Oper} {id : Nat}

omit [Dr] in
theorem dstsSmall_inv {n : Nat} (hn : n ≤ 1000) (hd : dstsSmall n ops = true) (hk : ∀ p, isS (findK cx.ann.kinds p .L) = true → p < n) : OpsOk n cx ops ∧ Small ops := by
  unfold dstsSmall at hd
  rw [Array.all_eq_true_iff_forall_mem] at hd
  have h1 : ∀ (i : Nat) (o : Oper), ops[i]? = some o → (∀ t, o.dst = some t → t < n) ∧ ∀ t ∈ opTmps o, t < 1000 := by
    intro i o ho
    have := hd o (Array.mem_of_getElem? ho)
    simp only [Bool.and_eq_true, List.all_eq_true, decide_eq_true_eq] at this
    refine ⟨fun t ht => ?_, this.2⟩
    have h2 := this.1
    rw [ht] at h2
    simpa using h2
  refine ⟨⟨fun i o ho => (h1 i o ho).1, fun i o ho x hx t hxt => (h1 i o ho).2 t ?_, hk⟩, ⟨fun i o ho t ht => Nat.lt_of_lt_of_le ((h1 i o ho).1 t ht) hn, fun i o ho => (h1 i o ho).2⟩⟩
  subst hxt
  exact List.mem_filterMap.2 ⟨_, hx, rfl⟩

theorem reg_sound {ρ : Type} (hT : TOK P cx.T) (hC : CallsOK P cx.own cx.call) (hI : IsoCall cx) (hk : ∀ p, isS (findK cx.ann.kinds p .L) = true → p < cx.nt) {draw : Bool} {k : Env → M ρ}
    (H : SatE c cx.nt e h a w) (hr : evReg cx id ops draw e k h ≠ .fail) {Q : Exit → Act → World → Prop}
    (hn : ∀ e' h' a' w', evReg cx id ops draw e k h = k e' h' → SatE c cx.nt e' h' a' w' → a'.defers = a.defers → Q .normal a' w')
    (hp : ∀ pv h' v w' a', evReg cx id ops draw e k h = .pan pv h' → PanSat c pv h' v w' → a'.defers = a.defers → Q (.panic [{ v, recovered := false }]) a' w') :
    (Code.region id ops draw).wp P Q a w := by
  have hN : cx.nt ≤ 1000 := by obtain ⟨S, β, γ, lam, ω, F⟩ := H; exact F.tsz.2
  have H0 : Sat c cx.nt (UD e.nx []) e h a w := H.wider fun g hg => .inl hg
  unfold evReg at hr hn hp
  cases hds : dstsSmall cx.nt ops with
  | false => rw [hds] at hr; exact absurd rfl hr
  | true =>
    obtain ⟨hO, hS⟩ := dstsSmall_inv (cx := cx) hN hds hk
    rw [hds] at hr hn hp
    simp only [cond_true] at hr hn hp
    cases draw with
    | false =>
      simp only [cond_false] at hr hn hp
      obtain ⟨hfl, hgs⟩ := groupsOf_spec ops (List.range ops.size)
      refine wp_region (seq_sound hT hC hO (List.range ops.size) [] e h a w List.nodup_range (by simp) H0 ?_ ?_ ?_)
      all_goals
        have hseq := grps_seq (cx := cx) (base := e.nx) hS (groupsOf ops (List.range ops.size)) e e _ h hgs (.refl ops _ e) hr
        rw [hfl] at hseq
      · rcases hseq with ⟨_, _, _, _, h2, _⟩ | ⟨_, _, _, h2⟩ <;> rw [h2] <;> simp
      · intro e' h' a' w' hok hsat hdf
        rcases hseq with ⟨e2', e'', h'', h1, h2, hR⟩ | ⟨_, _, _, h2⟩
        · rw [h2] at hok
          cases hok
          refine hn _ _ a' w' h1 (Sat.nx _ ((hsat.wider (UD_UR ?_)).rel hR)) hdf
          intro i hi
          simpa using hi
        · rw [h2] at hok; cases hok
      · intro pv h' v w' a' hok hps hdf
        rcases hseq with ⟨e2', e'', h'', h1, h2, hR⟩ | ⟨_, _, h1, h2⟩
        · rw [h2] at hok; cases hok
        · rw [h2] at hok
          cases hok
          exact hp _ _ v w' a' h1 hps hdf
    | true =>
      simp only [cond_true] at hr hn hp
      generalize ordOf cx id ops.size = ord at hr hn hp
      cases hdo : drawOk cx ops ord with
      | false => rw [hdo] at hr; exact absurd rfl hr
      | true =>
        rw [hdo] at hr hn hp
        simp only [cond_true] at hr hn hp
        simp only [drawOk, permOk, Bool.and_eq_true, Bool.not_eq_true', List.all_eq_true, decide_eq_true_eq] at hdo
        obtain ⟨⟨⟨⟨⟨hlen, hmem⟩, hdist⟩, hlt⟩, hbits⟩, hpairs⟩ := hdo
        have hlen' : ord.length = ops.size := Nat.eq_of_beq_eq_true hlen
        obtain ⟨hpw, hself⟩ := pairsOk_inv (cx := cx) (ops := ops) hpairs
        have hpw' : ord.Pairwise (PairR (cxDraw cx) ops) := hpw
        have hO' : OpsOk cx.nt (cxDraw cx) ops := ⟨hO.dst, hO.src, hO.kin⟩
        obtain ⟨hfl, hgs⟩ := groupsOf_spec ops ord
        have hseq := grps_seq (cx := cxDraw cx) (base := e.nx) hS (groupsOf ops ord) e e _ h hgs (.refl ops _ e) hr
        rw [hfl] at hseq
        refine wp_region_draw fun t => ?_
        have hsch : Region.schedule (P.follows .mixedOrders) ops t = Region.linearise .any ops t := by
          simp only [Region.schedule, hT.mix, Bool.true_or, if_true]
        rw [hsch]
        have hmem' : ∀ i, i ∈ ord ↔ i < ops.size := fun i => ⟨fun hi => hlt i hi, fun hi => (memN_iff _ _).1 (hmem i (by simpa using hi))⟩
        refine wpAny_sound ops.size t _ a _ (draw_any (cx := cxDraw cx) (c := c) (N := cx.nt) (base := e.nx) hT hC.draw hI.draw hO' hS ?_ ?_ ops.size ord (Array.replicate ops.size false) [] e h a w.drew hlen' (by simp) (distinct_nodup hdist) ?_ (by simp) (by simp) ?_ hpw' ?_ ?_ ?_ ?_)
        · intro i x hx
          rcases Nat.lt_or_ge x ops.size with h' | h'
          · exact h'
          · have hm : (bfOf ops).getD i 0 < 2 ^ ops.size := by
              rw [List.getD_eq_getElem?_getD]
              cases hi : (bfOf ops)[i]? with
              | none => simp; exact Nat.pow_pos (by omega)
              | some m => exact hbits m (List.mem_of_getElem? hi)
            rw [Nat.testBit_lt_two_pow (Nat.lt_of_lt_of_le hm (Nat.pow_le_pow_right (by omega) h'))] at hx
            cases hx
        · exact fun i hi => hself i ((hmem' i).2 hi)
        · intro i
          rw [hmem']
          constructor
          · intro hi
            refine ⟨hi, ?_⟩
            rw [Array.getD_eq_getD_getElem?, Array.getElem?_replicate, if_pos hi]
            rfl
          · exact fun hi => hi.1
        · intro j o ho hj
          exfalso
          rw [Array.getD_eq_getD_getElem?, Array.getElem?_replicate] at hj
          split at hj <;> simp at hj
        · obtain ⟨S, β, γ, lam, ω, F⟩ := H0
          exact ⟨S, β, γ, lam, ω, F.drew⟩
        · rcases hseq with ⟨_, _, _, _, h2, _⟩ | ⟨_, _, _, h2⟩ <;> rw [h2] <;> simp
        · intro e0 e' h' a' w' hok heq hsat hdf
          rcases hseq with ⟨e2', e'', h'', h1, h2, hR⟩ | ⟨_, _, _, h2⟩
          · rw [h2] at hok
            cases hok
            exact hn _ _ a' w' h1 (Sat.nx _ ((hsat.eqE heq.symm).rel hR)) hdf
          · rw [h2] at hok; cases hok
        · intro pv h' v w' a' hok hps hdf
          rcases hseq with ⟨e2', e'', h'', h1, h2, hR⟩ | ⟨_, _, h1, h2⟩
          · rw [h2] at hok; cases hok
          · rw [h2] at hok
            cases hok
            exact hp _ _ v w' a' h1 hps hdf
end
end Go.Av

/- What is carried into a loop or a join. No condition. -/
namespace Go.Av
variable [Dr]

omit [Dr] in
theorem packVals_inv {e : Env} : ∀ (l : List (Nat × Option Nat)) (used : List Nat) (vs : List AV), packVals e l used = some vs → vs.length = l.length ∧
    (∀ (i : Nat) (t : Nat) (z : Option Nat), l[i]? = some (t, z) → ∃ a, vs[i]? = some a ∧ (e.get t).v = .val a ∧ ∀ sz, z = some sz → ∃ g z0, (e.get t).g = some g ∧ aliveG e.al g = some z0 ∧ (z0 = none ∨ z0 = some sz) ∧ g ∉ used) ∧
    ∀ (i j : Nat) (t t' sz sz' : Nat), i < j → l[i]? = some (t, some sz) → l[j]? = some (t', some sz') → (e.get t).g ≠ (e.get t').g
  | [], used, vs, h => by
    simp only [packVals, Option.some.injEq] at h
    subst h
    exact ⟨rfl, by simp, by simp⟩
  | (t, none) :: r, used, vs, h => by
    simp only [packVals] at h
    split at h
    · rename_i a ha
      split at h
      · rename_i vs' hvs
        simp only [Option.some.injEq] at h
        subst h
        obtain ⟨h1, h2, h3⟩ := packVals_inv r used vs' hvs
        refine ⟨by simp [h1], fun i t' z hi => ?_, fun i j t1 t2 sz1 sz2 hij hi hj => ?_⟩
        · cases i with
          | zero =>
            simp only [List.getElem?_cons_zero, Option.some.injEq, Prod.mk.injEq] at hi
            obtain ⟨rfl, rfl⟩ := hi
            exact ⟨a, rfl, ha, fun sz hsz => by cases hsz⟩
          | succ i => simpa using h2 i t' z (by simpa using hi)
        · cases i with
          | zero => simp at hi
          | succ i =>
            cases j with
            | zero => omega
            | succ j => exact h3 i j t1 t2 sz1 sz2 (by omega) (by simpa using hi) (by simpa using hj)
      · cases h
    · cases h
  | (t, some sz) :: r, used, vs, h => by
    simp only [packVals] at h
    split at h
    · rename_i a g ha hg
      split at h
      · cases h
      · rename_i z0 hz0
        have hcond : szOk z0 (some sz) = true ∧ memN used g = false ∧ (match packVals e r (g :: used) with | some vs => some (a :: vs) | none => none) = some vs := by
          cases hm : memN used g with
          | true =>
            rw [hm] at h
            cases z0 with
            | none => cases h
            | some n =>
              simp only at h
              cases hb : Nat.beq n sz <;> rw [hb] at h <;> cases h
          | false =>
            rw [hm] at h
            cases z0 with
            | none => exact ⟨rfl, rfl, h⟩
            | some n =>
              simp only at h
              cases hb : Nat.beq n sz with
              | true => rw [hb] at h; exact ⟨hb, rfl, h⟩
              | false => rw [hb] at h; cases h
        obtain ⟨hc1, hc2, h⟩ := hcond
        have hc := And.intro hc1 hc2
        · split at h
          · rename_i vs' hvs
            simp only [Option.some.injEq] at h
            subst h
            have hgu : g ∉ used := fun hm => by
              rw [(memN_iff _ _).2 hm] at hc
              exact Bool.noConfusion hc.2
            have hz : z0 = none ∨ z0 = some sz := by
              cases z0 with
              | none => exact .inl rfl
              | some n => exact .inr (by rw [Nat.eq_of_beq_eq_true hc.1])
            obtain ⟨h1, h2, h3⟩ := packVals_inv r (g :: used) vs' hvs
            refine ⟨by simp [h1], fun i t' z hi => ?_, fun i j t1 t2 sz1 sz2 hij hi hj => ?_⟩
            · cases i with
              | zero =>
                simp only [List.getElem?_cons_zero, Option.some.injEq, Prod.mk.injEq] at hi
                obtain ⟨rfl, rfl⟩ := hi
                exact ⟨a, rfl, ha, fun sz' hsz => by cases hsz; exact ⟨g, z0, hg, hz0, hz, hgu⟩⟩
              | succ i =>
                obtain ⟨a', k1, k2, k3⟩ := h2 i t' z (by simpa using hi)
                refine ⟨a', by simpa using k1, k2, fun sz' hsz => ?_⟩
                obtain ⟨g', z', m1, m2, m3, m4⟩ := k3 sz' hsz
                exact ⟨g', z', m1, m2, m3, fun hm => m4 (by simp [hm])⟩
            · cases i with
              | zero =>
                cases j with
                | zero => omega
                | succ j =>
                  simp only [List.getElem?_cons_zero, Option.some.injEq, Prod.mk.injEq] at hi
                  obtain ⟨rfl, _⟩ := hi
                  obtain ⟨a', k1, k2, k3⟩ := h2 j t2 (some sz2) (by simpa using hj)
                  obtain ⟨g', z', m1, m2, m3, m4⟩ := k3 sz2 rfl
                  rw [hg, m1]
                  intro hh
                  simp only [Option.some.injEq] at hh
                  exact m4 (by simp [hh])
              | succ i =>
                cases j with
                | zero => omega
                | succ j => exact h3 i j t1 t2 sz1 sz2 (by omega) (by simpa using hi) (by simpa using hj)
          · cases h
    · cases h

omit [Dr] in
theorem unpackVals_look (vs : List AV) (r : List (Nat × Ent)) (t : Nat) : ∀ (l : List (Nat × Option Nat)) (k : Nat),
    (∃ (i : Nat) (z : Option Nat), l[i]? = some (t, z) ∧ lookE (unpackVals vs k l ++ r) t = ⟨.val (nth vs (k + i)), z.map fun _ => k + i⟩) ∨
    ((∀ (i : Nat) (z : Option Nat), l[i]? ≠ some (t, z)) ∧ lookE (unpackVals vs k l ++ r) t = lookE r t)
  | [], k => .inr ⟨by simp, rfl⟩
  | (s, z) :: l, k => by
    have hh : unpackVals vs k ((s, z) :: l) = (s, ⟨.val (nth vs k), z.map fun _ => k⟩) :: unpackVals vs (k + 1) l := by cases z <;> rfl
    rw [hh, List.cons_append, lookE_cons]
    by_cases hs : s = t
    · subst hs
      rw [if_pos rfl]
      exact .inl ⟨0, z, rfl, rfl⟩
    · rw [if_neg hs]
      rcases unpackVals_look vs r t l (k + 1) with ⟨i, z', h1, h2⟩ | ⟨h1, h2⟩
      · refine .inl ⟨i + 1, z', by simpa using h1, ?_⟩
        rw [h2, show k + 1 + i = k + (i + 1) by omega]
      · refine .inr ⟨fun i z' hi => ?_, h2⟩
        cases i with
        | zero => simp at hi; exact hs hi.1
        | succ i => exact h1 i z' (by simpa using hi)

omit [Dr] in
theorem unpackAl_look : ∀ (l : List (Nat × Option Nat)) (k g : Nat) (y : Option Nat), aliveG (unpackAl k l) g = some y → ∃ (i t sz : Nat), l[i]? = some (t, some sz) ∧ g = k + i ∧ y = some sz
  | [], k, g, y, h => by simp [unpackAl, aliveG] at h
  | (s, none) :: l, k, g, y, h => by
    obtain ⟨i, t, sz, h1, h2, h3⟩ := unpackAl_look l (k + 1) g y h
    exact ⟨i + 1, t, sz, by simpa using h1, by omega, h3⟩
  | (s, some n) :: l, k, g, y, h => by
    simp only [unpackAl, aliveG_cons] at h
    split at h
    · rename_i hk
      simp only [Option.some.injEq] at h
      exact ⟨0, s, n, rfl, by omega, h.symm⟩
    · obtain ⟨i, t, sz, h1, h2, h3⟩ := unpackAl_look l (k + 1) g y h
      exact ⟨i + 1, t, sz, by simpa using h1, by omega, h3⟩

omit [Dr] in
theorem locs_look (t : Nat) : ∀ (l : List (Nat × Nat × Nat)), (∃ B off, (t, B, off) ∈ l ∧ lookE (l.map fun x => (x.1, (⟨.loc x.2.1 x.2.2, none⟩ : Ent))) t = ⟨.loc B off, none⟩) ∨ lookE (l.map fun x => (x.1, (⟨.loc x.2.1 x.2.2, none⟩ : Ent))) t = Ent.none
  | [] => .inr rfl
  | (s, B, off) :: l => by
    rw [List.map_cons, lookE_cons]
    by_cases hs : s = t
    · subst hs
      rw [if_pos rfl]
      exact .inl ⟨B, off, by simp, rfl⟩
    · rw [if_neg hs]
      rcases locs_look t l with ⟨B', off', h1, h2⟩ | h
      · exact .inl ⟨B', off', by simp [h1], h2⟩
      · exact .inr h
omit [Dr] in
theorem locsOk_inv {e : Env} : ∀ {l : List (Nat × Nat × Nat)}, locsOk e l = true → ∀ t B off, (t, B, off) ∈ l → (e.get t).v = .loc B off
  | [], _, t, B, off, h => by simp at h
  | (s, B0, off0) :: l, h, t, B, off, hm => by
    simp only [locsOk, Bool.and_eq_true] at h
    simp only [List.mem_cons, Prod.mk.injEq] at hm
    rcases hm with ⟨rfl, rfl, rfl⟩ | hm
    · have h1 := h.1
      split at h1
      · rename_i B' off' hv
        simp only [Bool.and_eq_true] at h1
        rw [hv, Nat.eq_of_beq_eq_true h1.1, Nat.eq_of_beq_eq_true h1.2]
      · cases h1
    · exact locsOk_inv h.2 t B off hm
omit [Dr] in
theorem lbsOk_inv {e : Env} : ∀ {l : List (Nat × Nat)}, lbsOk e l = true → ∀ B n, lbSize l B = some n → lbSize e.lb B = some n
  | [], _, B, n, h => by simp [lbSize] at h
  | (B0, n0) :: l, h, B, n, hm => by
    simp only [lbsOk, Bool.and_eq_true] at h
    rw [lbSize_cons] at hm
    split at hm
    · rename_i hB
      subst hB
      simp only [Option.some.injEq] at hm
      subst hm
      have h1 := h.1
      split at h1
      · rename_i m hv
        rw [hv, Nat.eq_of_beq_eq_true h1]
      · cases h1
    · exact lbsOk_inv h.2 B n hm

section
variable {c : Entry} {N : Nat} {e : Env} {h : Hp} {a : Act} {w : World}

open Classical in
theorem unpack_sound {ja : JA} {vs : List AV} (H : SatE c N e h a w) (hp : pack ja e = some vs) : SatE c N (unpack ja vs) h a w := by
  obtain ⟨S, β, γ, lam, ω, F⟩ := H
  unfold pack at hp
  cases hlo : (locsOk e ja.locs && lbsOk e ja.lbs) with
  | false => rw [hlo] at hp; cases hp
  | true =>
    rw [hlo] at hp
    simp only [cond_true] at hp
    simp only [Bool.and_eq_true] at hlo
    obtain ⟨hlen, hval, hdis⟩ := packVals_inv ja.vals [] vs hp
    -- the groups carried
    let gOf : Nat → Option Nat := fun i => match ja.vals[i]? with | some (t, some _) => (e.get t).g | _ => none
    have hg1 : ∀ i t sz, ja.vals[i]? = some (t, some sz) → ∃ g z0, gOf i = some g ∧ (e.get t).g = some g ∧ aliveG e.al g = some z0 ∧ (z0 = none ∨ z0 = some sz) := by
      intro i t sz hi
      obtain ⟨a', _, _, h3⟩ := hval i t (some sz) hi
      obtain ⟨g, z0, k1, k2, k3, _⟩ := h3 sz rfl
      refine ⟨g, z0, ?_, k1, k2, k3⟩
      show (match ja.vals[i]? with | some (t, some _) => (e.get t).g | _ => none) = some g
      rw [hi]
      exact k1
    have hg2 : ∀ i j g, gOf i = some g → gOf j = some g → i = j := by
      have hex : ∀ i g, gOf i = some g → ∃ t sz, ja.vals[i]? = some (t, some sz) ∧ (e.get t).g = some g := by
        intro i g hi
        have hi' : (match ja.vals[i]? with | some (t, some _) => (e.get t).g | _ => none) = some g := hi
        split at hi'
        · rename_i t sz ht; exact ⟨t, sz, ht, hi'⟩
        · cases hi'
      intro i j g hi hj
      obtain ⟨t, sz, k1, k2⟩ := hex i g hi
      obtain ⟨t', sz', m1, m2⟩ := hex j g hj
      rcases Nat.lt_trichotomy i j with hlt | heq | hlt
      · exact absurd (k2.trans m2.symm) (hdis i j t t' sz sz' hlt k1 m1)
      · exact heq
      · exact absurd (m2.trans k2.symm) (hdis j i t' t sz' sz hlt m1 k1)
    let γ' : Nat → Value := fun i => match gOf i with | some g => γ g | none => undef
    let ω' : Nat → Owner := fun b => match ω b with
      | .grp g => if hx : ∃ i, gOf i = some g then .grp (Classical.choose hx) else .no
      | o => o
    have hωg : ∀ b g i, ω b = .grp g → gOf i = some g → ω' b = .grp i := by
      intro b g i hb hi
      show (match ω b with | .grp g => if hx : ∃ i, gOf i = some g then Owner.grp (Classical.choose hx) else .no | o => o) = .grp i
      rw [hb]
      simp only
      have hx : ∃ i, gOf i = some g := ⟨i, hi⟩
      rw [dif_pos hx, hg2 _ _ g (Classical.choose_spec hx) hi]
    have hωo : ∀ b, (∀ g, ω b ≠ .grp g) → ω' b = ω b := by
      intro b hb
      show (match ω b with | .grp g => if hx : ∃ i, gOf i = some g then Owner.grp (Classical.choose hx) else .no | o => o) = ω b
      cases ho : ω b with
      | grp g => exact absurd ho (hb g)
      | _ => rfl
    have hωn : ∀ b, ω' b ≠ .no → ω b ≠ .no := by
      intro b hb ho
      refine hb ?_
      rw [hωo b (fun g hg => by rw [ho] at hg; cases hg), ho]
    have hωx : ∀ b g, ω' b = .grp g → ∃ g', ω b = .grp g' := by
      intro b g hg
      cases ho : ω b with
      | grp g' => exact ⟨g', rfl⟩
      | _ => rw [hωo b (fun g' h' => by rw [ho] at h'; cases h'), ho] at hg; cases hg
    -- the slots
    have hget : ∀ t, (∃ (i : Nat) (z : Option Nat) (a' : AV), ja.vals[i]? = some (t, z) ∧ (e.get t).v = .val a' ∧ (unpack ja vs).get t = ⟨.val a', z.map fun _ => i⟩) ∨ (∃ B off, (e.get t).v = .loc B off ∧ (unpack ja vs).get t = ⟨.loc B off, none⟩) ∨ (unpack ja vs).get t = Ent.none := by
      intro t
      have hu : (unpack ja vs).get t = lookE (unpackVals vs 0 ja.vals ++ ja.locs.map fun x => (x.1, (⟨.loc x.2.1 x.2.2, none⟩ : Ent))) t := rfl
      rcases unpackVals_look vs (ja.locs.map fun x => (x.1, (⟨.loc x.2.1 x.2.2, none⟩ : Ent))) t ja.vals 0 with ⟨i, z, h1, h2⟩ | ⟨h1, h2⟩
      · obtain ⟨a', k1, k2, _⟩ := hval i t z h1
        refine .inl ⟨i, z, a', h1, k2, ?_⟩
        rw [hu, h2, Nat.zero_add]
        have : nth vs i = a' := by simp [nth, k1]
        rw [this]
      · rcases locs_look t ja.locs with ⟨B, off, k1, k2⟩ | k
        · exact .inr (.inl ⟨B, off, locsOk_inv hlo.1 t B off k1, by rw [hu, h2, k2]⟩)
        · exact .inr (.inr (by rw [hu, h2, k]))
    have hgg : ∀ t g, ((unpack ja vs).get t).g = some g → ∃ sz, ja.vals[g]? = some (t, some sz) := by
      intro t g hg
      rcases hget t with ⟨i, z, a', h1, _, h3⟩ | ⟨_, _, _, h3⟩ | h3
      · rw [h3] at hg
        cases z with
        | none => simp at hg
        | some sz => simp at hg; subst hg; exact ⟨sz, h1⟩
      · rw [h3] at hg; cases hg
      · rw [h3] at hg; cases hg
    have hγ : ∀ t g, ((unpack ja vs).get t).g = some g → ∃ g0 z0, (e.get t).g = some g0 ∧ aliveG e.al g0 = some z0 ∧ γ' g = γ g0 := by
      intro t g hg
      obtain ⟨sz, h1⟩ := hgg t g hg
      obtain ⟨g0, z0, k1, k2, k3, _⟩ := hg1 g t sz h1
      refine ⟨g0, z0, k2, k3, ?_⟩
      show (match gOf g with | some g => γ g | none => undef) = γ g0
      rw [k1]
    refine ⟨S, β, γ', lam, ω', ⟨F.wf, F.gro, F.keep, F.le, F.ext, F.hlen, fun l cs hl hcs => ?_, F.tsz, fun t ht => ?_, fun t g z ht hg hz => ?_, fun B n hB => ?_, fun g z hz => ?_, fun b hb => ⟨(F.mine b (hωn b hb)).1.imp (fun hE => ⟨hE.1, fun g hg => by obtain ⟨g', h'⟩ := hωx b g hg; exact hE.2 g' h'⟩) id, (F.mine b (hωn b hb)).2⟩, fun t g hg => ?_, fun g z hz => ?_⟩⟩
    · obtain ⟨b, x, h1, h2, h3, h4⟩ := F.heap l cs hl hcs
      exact ⟨b, x, h1, h2, by rw [hωo b (fun g hg => by rw [h3] at hg; cases hg)]; exact h3, h4⟩
    · have hs := F.slots t ht
      rcases hget t with ⟨i, z, a', _, h2, h3⟩ | ⟨B, off, h2, h3⟩ | h3
      · rw [h3]; rw [h2] at hs; exact hs
      · rw [h3]; rw [h2] at hs; exact hs
      · rw [h3]; simp [Ent.none, SlotR, VR]
    · obtain ⟨g0, z0, k1, k2, k3⟩ := hγ t g hg
      rw [k3]
      exact F.grps t g0 z0 ht k1 k2
    · obtain ⟨k1, k2, k3, b, x, k4, k5, k6, k7, k8⟩ := F.lblk B n (lbsOk_inv hlo.2 B n hB)
      refine ⟨k1, k2, k3, b, x, k4, k5, by rw [hωo b (fun g hg => by rw [k6] at hg; cases hg)]; exact k6, k7, fun i hi => ?_⟩
      obtain ⟨v, a', m1, m2, m3, m4⟩ := k8 i hi
      have hgr : ∀ g z, ((unpack ja vs).get (B + i)).g = some g → aliveG (unpack ja vs).al g = some z → v = γ' g := by
        intro g z hg _
        obtain ⟨g0, z0, p1, p2, p3⟩ := hγ _ g hg
        rw [p3]
        exact m4 g0 z0 p1 p2
      rcases hget (B + i) with ⟨j, z, a2, _, h2, h3⟩ | ⟨B', off, h2, h3⟩ | h3
      · refine ⟨v, a2, m1, by rw [h3], ?_, hgr⟩
        rw [m2] at h2
        cases h2
        exact m3
      · rw [m2] at h2; cases h2
      · exact ⟨v, .any, m1, by rw [h3]; rfl, by simp [VR], hgr⟩
    · obtain ⟨i, t, sz, h1, h2, h3⟩ := unpackAl_look ja.vals 0 g z hz
      rw [Nat.zero_add] at h2
      subst h2
      obtain ⟨g0, z0, k1, k2, k3, k4⟩ := hg1 g t sz h1
      have hγ' : γ' g = γ g0 := by
        show (match gOf g with | some g => γ g | none => undef) = γ g0
        rw [k1]
      rw [hγ']
      obtain ⟨ad, len, cap, m1, m2, m3, m4⟩ := F.free g0 z0 k3
      refine ⟨ad, len, cap, m1, m2, m3, m4.imp id ?_⟩
      rintro ⟨sz', b, off, x, p1, p2, p3, p4, p5, p6⟩
      have : sz' = sz := by
        rcases k4 with k4 | k4 <;> rw [k4] at p1 <;> cases p1
        rfl
      subst this
      exact ⟨sz', b, off, x, h3, p2, p3, p4, hωg b g0 g p5 k1, p6⟩
    · obtain ⟨sz, h1⟩ := hgg t g hg
      have : g < ja.vals.length := by
        rcases Nat.lt_or_ge g ja.vals.length with h | h
        · exact h
        · rw [List.getElem?_eq_none h] at h1; cases h1
      show g < ja.vals.length * 1000
      omega
    · obtain ⟨i, t, sz, h1, h2, h3⟩ := unpackAl_look ja.vals 0 g z hz
      have : i < ja.vals.length := by
        rcases Nat.lt_or_ge i ja.vals.length with h | h
        · exact h
        · rw [List.getElem?_eq_none h] at h1; cases h1
      show g < ja.vals.length * 1000
      omega

omit [Dr] in
theorem frz_any (d : Nat) (h : Hp) : frz d h .any = .any := by cases d <;> rfl

omit [Dr] in
theorem nth_map (g : AV → AV) (hg : g .any = .any) (vs : List AV) (i : Nat) : nth (vs.map g) i = g (nth vs i) := by
  unfold nth
  rw [List.getD_eq_getElem?_getD, List.getD_eq_getElem?_getD, List.getElem?_map]
  cases vs[i]? with
  | none => simp [hg]
  | some v => rfl

/-- The same slots, their values seen otherwise. -/
structure Reval (g : AV → AV) (x y : Ent) : Prop where
  gr : y.g = x.g
  v : (∃ a, x.v = .val a ∧ y.v = .val (g a)) ∨ (∃ B off, x.v = .loc B off ∧ y.v = .loc B off)

omit [Dr] in
theorem unpackVals_reval (g : AV → AV) (hg : g .any = .any) (vs : List AV) (r : List (Nat × Ent)) (hr : ∀ t, Reval g (lookE r t) (lookE r t)) (t : Nat) : ∀ (l : List (Nat × Option Nat)) (k : Nat),
    Reval g (lookE (unpackVals vs k l ++ r) t) (lookE (unpackVals (vs.map g) k l ++ r) t)
  | [], k => by simpa [unpackVals] using hr t
  | (s, none) :: l, k => by
    simp only [unpackVals, List.cons_append, lookE]
    cases Nat.beq s t with
    | true => exact ⟨rfl, .inl ⟨_, rfl, by simp only [cond_true]; rw [nth_map g hg]⟩⟩
    | false => exact unpackVals_reval g hg vs r hr t l (k + 1)
  | (s, some z) :: l, k => by
    simp only [unpackVals, List.cons_append, lookE]
    cases Nat.beq s t with
    | true => exact ⟨rfl, .inl ⟨_, rfl, by simp only [cond_true]; rw [nth_map g hg]⟩⟩
    | false => exact unpackVals_reval g hg vs r hr t l (k + 1)

omit [Dr] in
theorem unpack_reval (g : AV → AV) (hg : g .any = .any) (ja : JA) (vs : List AV) (t : Nat) : Reval g ((unpack ja vs).get t) ((unpack ja (vs.map g)).get t) := by
  refine unpackVals_reval g hg vs _ (fun t => ?_) t ja.vals 0
  rcases locs_look t ja.locs with ⟨B, off, _, k2⟩ | k
  · rw [k2]; exact ⟨rfl, .inr ⟨B, off, rfl, rfl⟩⟩
  · rw [k]; exact ⟨rfl, .inl ⟨.any, rfl, by simp [Ent.none, hg]⟩⟩

theorem FR.reval {U : Nat → Prop} {S : Stab} {β : List Blk} {γ : Nat → Value} {lam : Nat → Option Nat} {ω : Nat → Owner} {e2 : Env} {h2 : Hp} {S2 : Stab} {ω2 : Nat → Owner} {g : AV → AV} (F : FR c N U e h a w S β γ lam ω) (F2 : FR c N U e h2 a w S2 β γ lam ω2) (hg : ∀ x v, VR S β x v → VR S2 β (g x) v)
    (hr : ∀ t, Reval g (e.get t) (e2.get t)) (hal : e2.al = e.al) (hlb : e2.lb = e.lb) : FR c N U e2 h2 a w S2 β γ lam ω2 := by
  refine ⟨F2.wf, F2.gro, F2.keep, F2.le, F2.ext, F2.hlen, F2.heap, F2.tsz, fun t ht => ?_, fun t k z ht hk hz => ?_, fun B n hB => ?_, fun k z hz => F2.free k z (by rw [← hal]; exact hz), F2.mine, fun t k hk => ?_, fun k z hz => F2.used.2 k z (by rw [← hal]; exact hz)⟩
  · have h1 := F.slots t ht
    rcases (hr t).v with ⟨x, q1, q2⟩ | ⟨B, off, q1, q2⟩
    · rw [q1] at h1; rw [q2]; exact hg _ _ h1
    · rw [q1] at h1; rw [q2]; exact h1
  · rw [(hr t).gr] at hk
    rw [hal] at hz
    exact F2.grps t k z ht hk hz
  · rw [hlb] at hB
    obtain ⟨k1, k2, k3, b, x, k4, k5, k6, k7, k8⟩ := F2.lblk B n hB
    obtain ⟨_, _, _, b', x', j4, j5, j6, j7, j8⟩ := F.lblk B n hB
    rw [k4] at j4
    cases j4
    cases k5.inj j5
    refine ⟨k1, k2, k3, b, x, k4, k5, k6, k7, fun i hi => ?_⟩
    obtain ⟨v, a', m1, m2, m3, m4⟩ := k8 i hi
    obtain ⟨v', a'', n1, n2, n3, _⟩ := j8 i hi
    rw [m1] at n1
    cases n1
    rcases (hr (B + i)).v with ⟨y, q1, q2⟩ | ⟨B', off, q1, q2⟩
    · rw [n2] at q1
      cases q1
      refine ⟨v, g a'', m1, q2, hg _ _ n3, fun k z hk hz => ?_⟩
      rw [(hr (B + i)).gr] at hk
      rw [hal] at hz
      exact m4 k z hk hz
    · rw [n2] at q1; cases q1
  · rw [(hr t).gr] at hk
    exact F2.used.1 t k hk

theorem freeze_unpack {ja : JA} {vs : List AV} (H : SatE c N (unpack ja vs) h a w) : SatE c N (unpack ja (vs.map (frz 6 h))) (h.map fun _ => []) a w := by
  obtain ⟨S, β, γ, lam, ω, F⟩ := H
  obtain ⟨S2, ω2, F2, hf⟩ := F.freeze
  have F3 := F.reval F2 (g := frz 6 h) (fun x v hx => hf _ _ hx) (unpack_reval _ (frz_any 6 h) ja vs) (e2 := unpack ja (vs.map (frz 6 h))) rfl rfl
  exact ⟨S2, β, γ, lam, ω2, F3⟩
end
end Go.Av
