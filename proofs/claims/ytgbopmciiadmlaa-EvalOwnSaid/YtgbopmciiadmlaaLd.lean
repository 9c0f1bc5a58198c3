/- The abstract evaluator of the model and plain laws, part 4: its soundness holds for every program whose table of types is the evaluator's. No further condition. -/
import Derived.Test.YtgbopmciiadmlaaLc

/- Laws of evaluation: whose variables turn, right values. No condition. -/
namespace Go.Av.Ap
def nameAt (p : List Mod) (i : Nat) : Str := (p[i]?.getD default).name
def OwnQ (p : List Mod) (o : Int) (α : Type) (x : X α) : Prop := ∀ m, ∃ cs : List Call, (x m).st.calls = m.calls ++ cs ∧ (x m).st.state.length = m.state.length ∧
  ∀ i : Nat, (i : Int) ≠ o → (∀ c ∈ cs, c.module ≠ nameAt p i) → (x m).st.state[i]? = m.state[i]?
theorem own_none {p : List Mod} {o : Int} {α : Type} {x : X α} (h : ∀ m, (x m).st.calls = m.calls ∧ (x m).st.state = m.state) : OwnQ p o α x := fun m =>
  ⟨[], by simp [(h m).1], by rw [(h m).2], fun _ _ _ => by rw [(h m).2]⟩
theorem own_bind {p : List Mod} {o : Int} {α β : Type} {x : X α} {f : α → X β} (hx : OwnQ p o α x) (hf : ∀ a, OwnQ p o β (f a)) : OwnQ p o β (x.bind f) := by
  intro m
  obtain ⟨cs, h1, h2, h3⟩ := hx m
  cases hr : x m with
  | er e s =>
    rw [hr] at h1 h2 h3
    refine ⟨cs, ?_, ?_, ?_⟩ <;> simp only [X.bind, hr] <;> assumption
  | ok a s =>
    rw [hr] at h1 h2 h3
    simp only [Rs.st] at h1 h2 h3
    obtain ⟨ds, g1, g2, g3⟩ := hf a s
    refine ⟨cs ++ ds, ?_, ?_, fun i hi hc => ?_⟩
    · simp only [X.bind, hr, g1, h1, List.append_assoc]
    · simp only [X.bind, hr, g2, h2]
    · simp only [X.bind, hr]
      rw [g3 i hi fun c hc' => hc c (List.mem_append_right _ hc'), h3 i hi fun c hc' => hc c (List.mem_append_left _ hc')]
theorem setSt_other {st : List (List Val)} {i k j : Nat} {v : Val} (h : j ≠ i) : (setSt st i k v)[j]? = st[j]? := by
  unfold setSt
  rw [List.getElem?_modify]
  have : ¬ i = j := fun e => h e.symm
  simp [this]
theorem own_closed {p : List Mod} (hp : ∀ m ∈ p, ∀ f ∈ m.funcs, f.pub = true) : Closed p (OwnQ p) where
  ok := fun _ _ a => own_none fun m => ⟨rfl, rfl⟩
  er := fun _ _ a _ => own_none fun m => ⟨rfl, rfl⟩
  bind := fun _ _ _ x f hx hf => own_bind hx hf
  tick := fun o _ y hy m => by
    unfold tickX X.get
    by_cases h : m.fuel ≤ 0
    · simp only [h, if_true]
      exact own_none (x := X.er 16) (fun m => ⟨rfl, rfl⟩) m
    · simp only [h, if_false]
      exact hy { m with fuel := m.fuel - 1 }
  act := fun o n a => own_none fun m => ⟨rfl, rfl⟩
  set := fun o k v ho m => ⟨[], by simp [X.upd, X.ok, Rs.st], by simp [X.upd, X.ok, Rs.st, setSt], fun i hi _ => by
    show (setSt m.state o.toNat k v)[i]? = _
    exact setSt_other (by omega)⟩
  get := fun o k => own_none fun m => ⟨rfl, rfl⟩
  enter := fun o a r f l ha hl hf hr => by
    have e0 : ∀ m, enterX p r a f l m = if m.frames < 60 then ((r a (f.params.map (·.1)) l f.body).bind fun v => .upd (fun m => { m with frames := m.frames - 1 }) (.ok v)) (entM p a f l m) else .er 6 m := fun m => by
      unfold enterX X.get
      by_cases h : m.frames < 60
      · simp only [h, if_true]; rfl
      · simp only [h, if_false]; rfl
    intro m
    rw [e0]
    split
    · have hb : OwnQ p a Val ((r a (f.params.map (·.1)) l f.body).bind fun v => .upd (fun m => { m with frames := m.frames - 1 }) (.ok v)) := own_bind (hr _ _ _ _) fun v => own_none fun m => ⟨rfl, rfl⟩
      obtain ⟨cs, h1, h2, h3⟩ := hb (entM p a f l m)
      have hpub : f.pub = true := by
        rw [List.getElem?_eq_getElem hl] at hf
        exact hp _ (List.getElem_mem hl) f hf
      refine ⟨⟨nameAt p a.toNat, f.name, l⟩ :: cs, ?_, h2, fun i hi hc => ?_⟩
      · rw [h1]
        simp [entM, hpub, nameAt]
      · have hia : (i : Int) ≠ a := by
          intro e
          have := hc _ List.mem_cons_self
          simp only [nameAt, ← e, Int.toNat_natCast, ne_eq, not_true_eq_false] at this
        exact h3 i hia fun c hc' => hc c (List.mem_cons_of_mem _ hc')
    · exact own_none (x := X.er 6) (fun m => ⟨rfl, rfl⟩) m
def RightM (m : Ms) : Prop := (∀ l ∈ m.state, ∀ v ∈ l, fitsP 4 v = true) ∧ (∀ c ∈ m.calls, ∀ v ∈ c.args, fitsP 4 v = true)
def shapeM (m : Ms) : List Nat := m.state.map List.length
def RQ {α : Type} (x : X α) (Q : α → Prop) : Prop := ∀ m, RightM m → RightM (x m).st ∧ shapeM (x m).st = shapeM m ∧ ∀ a s, x m = .ok a s → Q a
theorem rq_ok {α : Type} {a : α} {Q : α → Prop} (h : Q a) : RQ (.ok a) Q := fun m hm => ⟨hm, rfl, fun b s e => by cases e; exact h⟩
theorem rq_er {α : Type} {e : Int} {Q : α → Prop} : RQ (.er e) Q := fun m hm => ⟨hm, rfl, fun b s e => by cases e⟩
theorem rq_bind {α β : Type} {x : X α} {f : α → X β} {Q : α → Prop} {R : β → Prop} (hx : RQ x Q) (hf : ∀ a, Q a → RQ (f a) R) : RQ (x.bind f) R := by
  intro m hm
  obtain ⟨h1, h2, h3⟩ := hx m hm
  cases hr : x m with
  | er e s =>
    rw [hr] at h1 h2
    simp only [X.bind, hr]
    exact ⟨h1, h2, fun b s e => by cases e⟩
  | ok a s =>
    rw [hr] at h1 h2
    obtain ⟨g1, g2, g3⟩ := hf a (h3 a s hr) s h1
    simp only [X.bind, hr]
    exact ⟨g1, g2.trans h2, g3⟩
theorem rq_mono {α : Type} {x : X α} {Q R : α → Prop} (h : RQ x Q) (hq : ∀ a, Q a → R a) : RQ x R := fun m hm => ⟨(h m hm).1, (h m hm).2.1, fun a s e => hq a ((h m hm).2.2 a s e)⟩
theorem rq_ite {α : Type} {c : Prop} [Decidable c] {x y : X α} {Q : α → Prop} (h1 : c → RQ x Q) (h2 : ¬ c → RQ y Q) : RQ (if c then x else y) Q := by
  split
  · exact h1 ‹_›
  · exact h2 ‹_›
abbrev Rv (v : Val) : Prop := fitsP 4 v = true
theorem right_num (n : Int) : Rv (numV n) := by simp [Rv, numV, fitsP, Val.names, Val.values, Val.kind]
theorem right_truth (b : Bool) : Rv (truthV b) := by cases b <;> rfl
theorem levelsV_le : (l : List Val) → (d : Nat) → (levelsV l ≤ d ↔ ∀ v ∈ l, levelV v ≤ d)
  | [], d => by simp [levelsV]
  | v :: l, d => by
    simp only [levelsV, List.mem_cons, forall_eq_or_imp]
    rw [← levelsV_le l d]
    omega
theorem levelV_eq (v : Val) : levelV v = levelsV v.values + 1 := by cases v; rfl
theorem fits_level : ∀ (d : Nat) (v : Val), fitsP d v = true → levelV v ≤ d
  | 0, v, h => by simp [fitsP] at h
  | d + 1, v, h => by
    rw [levelV_eq]
    unfold fitsP at h
    split at h
    · simp only [Bool.and_eq_true, beq_iff_eq] at h
      have : v.values = [] := List.eq_nil_of_length_eq_zero h.1.2
      rw [this]
      simp [levelsV]
    · simp only [Bool.and_eq_true, List.all_eq_true] at h
      have := (levelsV_le v.values d).2 fun x hx => fits_level d x (h.2 x hx)
      omega
theorem fits_down : ∀ (d : Nat) (v : Val), fitsP (d + 1) v = true → levelV v ≤ d → fitsP d v = true
  | 0, v, _, hl => by rw [levelV_eq] at hl; omega
  | d + 1, v, h, hl => by
    rw [levelV_eq] at hl
    unfold fitsP at h ⊢
    split at h
    · rename_i hk
      rw [if_pos hk]; exact h
    · rename_i hk
      rw [if_neg hk]
      simp only [Bool.and_eq_true, List.all_eq_true] at h ⊢
      exact ⟨h.1, fun x hx => fits_down d x (h.2 x hx) ((levelsV_le v.values d).1 (by omega) x hx)⟩
theorem right_rec {ns : List Str} {vs : List Val} (hl : ns.length = vs.length) (ha : asc ns = true) (h8 : ns.length ≤ 8) (hv : ∀ v ∈ vs, Rv v) (h4 : levelV (.mk 2 0 ns vs) ≤ 4) : Rv (.mk 2 0 ns vs) := by
  have h3 : levelsV vs ≤ 3 := by
    rw [levelV_eq] at h4
    have : (Val.mk 2 0 ns vs).values = vs := rfl
    rw [this] at h4
    omega
  have h5 := (levelsV_le vs 3).1 h3
  unfold Rv fitsP
  rw [if_neg (show ¬ (((Val.mk 2 0 ns vs).kind == 0 || (Val.mk 2 0 ns vs).kind == 1) = true) by simp [Val.kind])]
  simp only [Val.kind_mk, Val.n_mk, Val.names_mk, Val.values_mk, Bool.and_eq_true, List.all_eq_true, beq_iff_eq]
  exact ⟨⟨⟨⟨⟨trivial, trivial⟩, hl⟩, decide_eq_true h8⟩, ha⟩, fun x hx => fits_down 3 x (hv x hx) (h5 x hx)⟩
theorem fits_up : ∀ (d : Nat) (v : Val), fitsP d v = true → fitsP (d + 1) v = true
  | 0, v, h => by simp [fitsP] at h
  | d + 1, v, h => by
    unfold fitsP at h ⊢
    split at h
    · rename_i hk
      rw [if_pos hk]; exact h
    · rename_i hk
      rw [if_neg hk]
      simp only [Bool.and_eq_true, List.all_eq_true] at h ⊢
      exact ⟨h.1, fun x hx => fits_up d x (h.2 x hx)⟩
theorem right_field {v x : Val} (h : Rv v) (hx : x ∈ v.values) : Rv x := by
  unfold Rv fitsP at h
  split at h
  · simp only [Bool.and_eq_true, beq_iff_eq] at h
    have : v.values = [] := List.eq_nil_of_length_eq_zero h.1.2
    rw [this] at hx
    cases hx
  · simp only [Bool.and_eq_true, List.all_eq_true] at h
    exact fits_up 3 x (h.2 x hx)
theorem right_lens {v : Val} (h : Rv v) : v.names.length = v.values.length := by
  unfold Rv fitsP at h
  split at h
  · simp only [Bool.and_eq_true, beq_iff_eq] at h
    rw [h.1.1, h.1.2]
  · simp only [Bool.and_eq_true, beq_iff_eq] at h
    exact h.1.1.1.2
theorem look_mem : ∀ (ns : List Str) (vs : List Val) (s : Str) (v : Val), lookV ns vs s = some v → v ∈ vs
  | n :: ns, w :: vs, s, v, h => by
    unfold lookV at h
    split at h
    · rename_i x hx
      cases h
      exact List.mem_cons_of_mem _ (look_mem ns vs s v hx)
    · split at h
      · cases h; exact List.mem_cons_self
      · cases h
  | [], _, _, _, h => by simp [lookV] at h
  | _ :: _, [], _, _, h => by simp [lookV] at h
theorem fieldV_mem : ∀ (ns : List Str) (vs : List Val) (s : Str) (v : Val), fieldV ns vs s = some v → v ∈ vs
  | n :: ns, w :: vs, s, v, h => by
    unfold fieldV at h
    split at h
    · cases h; exact List.mem_cons_self
    · exact List.mem_cons_of_mem _ (fieldV_mem ns vs s v h)
  | [], _, _, _, h => by simp [fieldV] at h
  | _ :: _, [], _, _, h => by simp [fieldV] at h
def RightS (ns : List Str) (vs : List Val) : Prop := ns.length = vs.length ∧ ∀ v ∈ vs, Rv v
theorem rq_bool {r : X Val} (h : RQ r Rv) : RQ (boolX r) fun _ => True := rq_bind h fun _ _ => rq_ite (fun _ => rq_ok trivial) (fun _ => rq_er)
theorem rq_list {r : Exp → X Val} (h : ∀ e, RQ (r e) Rv) : ∀ l, RQ (listX r l) fun vs => vs.length = l.length ∧ ∀ v ∈ vs, Rv v
  | [] => rq_ok ⟨rfl, fun v hv => by cases hv⟩
  | e :: l => rq_bind (h e) fun v hv => rq_bind (rq_list h l) fun vs hvs => rq_ok ⟨by simp [hvs.1], fun w hw => by
    rcases List.mem_cons.1 hw with rfl | hw
    · exact hv
    · exact hvs.2 w hw⟩
theorem getSt_right {st : List (List Val)} (h : ∀ l ∈ st, ∀ v ∈ l, Rv v) (i k : Nat) (hd : Rv default) : Rv (getSt st i k) := by
  unfold getSt
  rw [List.getD_eq_getElem?_getD, List.getD_eq_getElem?_getD]
  cases h1 : st[i]? with
  | none => simpa using hd
  | some l =>
    simp only [Option.getD_some]
    cases h2 : l[k]? with
    | none => simpa using hd
    | some v => exact h l (List.mem_of_getElem? h1) v (List.mem_of_getElem? h2)
theorem rq_enter {p : List Mod} {r : Ev} {a : Int} {f : Fun} {l : List Val} (hr : ∀ o ns vs e, RightS ns vs → RQ (r o ns vs e) Rv) (hl : l.length = f.params.length) (hv : ∀ v ∈ l, Rv v) : RQ (enterX p r a f l) Rv := by
  have e0 : ∀ m, enterX p r a f l m = if m.frames < 60 then ((r a (f.params.map (·.1)) l f.body).bind fun v => .upd (fun m => { m with frames := m.frames - 1 }) (.ok v)) (entM p a f l m) else .er 6 m := fun m => by
    unfold enterX X.get
    by_cases h : m.frames < 60
    · simp only [h, if_true]; rfl
    · simp only [h, if_false]; rfl
  intro m hm
  rw [e0]
  split
  · have hb : RQ ((r a (f.params.map (·.1)) l f.body).bind fun v => .upd (fun m => { m with frames := m.frames - 1 }) (.ok v)) Rv :=
      rq_bind (hr _ _ _ _ ⟨by simp [hl], hv⟩) fun _ hv m hm => ⟨hm, rfl, fun a s e => by cases e; exact hv⟩
    have hm' : RightM (entM p a f l m) := by
      refine ⟨hm.1, fun c hc => ?_⟩
      simp only [entM] at hc
      split at hc
      · rcases List.mem_append.1 hc with h | h
        · exact hm.2 c h
        · simp only [List.mem_singleton] at h
          subst h
          exact hv
      · exact hm.2 c hc
    exact hb _ hm'
  · exact ⟨hm, rfl, fun _ _ e => by cases e⟩
theorem right_step {p : List Mod} {r : Ev} (hr : ∀ o ns vs e, RightS ns vs → RQ (r o ns vs e) Rv) (o : Int) (ns : List Str) (vs : List Val) (e : Exp) (hs : RightS ns vs) : RQ (stepX p r o ns vs e) Rv := by
  have tick : ∀ y : X Val, RQ y Rv → RQ (tickX y) Rv := fun y hy m hm => by
    unfold tickX X.get
    by_cases h : m.fuel ≤ 0
    · simp only [h, if_true]; exact ⟨hm, rfl, fun _ _ e => by cases e⟩
    · simp only [h, if_false]; exact hy { m with fuel := m.fuel - 1 } hm
  have H := fun e => hr o ns vs e hs
  refine tick _ ?_
  refine rq_ite (fun _ => rq_er) fun _ => rq_ite (fun _ => rq_ok (right_num _)) fun _ => rq_ite (fun _ => rq_ite (fun _ => rq_ok (right_truth _)) fun _ => rq_er) fun _ => rq_ite (fun _ => ?_) fun _ =>
    rq_ite (fun _ => ?_) fun _ => rq_ite (fun _ => ?_) fun _ => rq_ite (fun _ => ?_) fun _ => rq_ite (fun _ => ?_) fun _ => rq_ite (fun _ => ?_) fun _ => rq_ite (fun _ => ?_) fun _ => rq_ite (fun _ => ?_) fun _ =>
    rq_ite (fun _ => ?_) fun _ => rq_ite (fun _ => ?_) fun _ => ?_
  · split
    · rename_i v hv
      exact rq_ok (hs.2 v (look_mem _ _ _ _ hv))
    · exact rq_er
  · refine rq_bind (H _) fun a ha => rq_bind (H _) fun b hb => ?_
    unfold binX
    exact rq_ite (fun _ => rq_ite (fun _ => rq_ok (right_truth _)) fun _ => rq_er) fun _ => rq_ite (fun _ => rq_ite (fun _ => rq_ok (right_num _)) fun _ => rq_ite (fun _ => rq_ok (right_num _)) fun _ => rq_ite (fun _ => rq_ok (right_num _)) fun _ => rq_ok (right_truth _)) fun _ => rq_er
  · exact rq_bind (rq_bool (H _)) fun a _ => rq_ite (fun _ => rq_ok (right_truth _)) fun _ => rq_bind (rq_bool (H _)) fun b _ => rq_ok (right_truth _)
  · exact rq_bind (rq_bool (H _)) fun a _ => rq_ok (right_truth _)
  · exact rq_bind (rq_bool (H _)) fun a _ => rq_ite (fun _ => H _) fun _ => H _
  · exact rq_bind (H _) fun v hv => hr _ _ _ _ ⟨by simp [hs.1], fun w hw => by
      rcases List.mem_append.1 hw with h | h
      · exact hs.2 w h
      · simp only [List.mem_singleton] at h; subst h; exact hv⟩
  · unfold recordX
    exact rq_ite (fun h1 => rq_ite (fun h2 => rq_bind (rq_list H _) fun vs hvs => rq_ite (fun h3 => rq_ok (right_rec (by rw [hvs.1]; exact h1.1) h1.2 h2 hvs.2 h3)) fun _ => rq_er) fun _ => rq_er) fun _ => rq_er
  · refine rq_bind (H _) fun v hv => ?_
    split
    · rename_i x hx
      exact rq_ite (fun _ => rq_ok (right_field hv (fieldV_mem _ _ _ _ hx))) fun _ => rq_er
    · exact rq_er
  · unfold callX
    simp only
    split
    · exact rq_er
    · rename_i f hf
      exact rq_ite (fun _ => rq_ite (fun h2 => rq_bind (rq_list H _) fun l hl => rq_enter hr (by rw [hl.1, h2]) hl.2) fun _ => rq_er) fun _ => rq_er
  · unfold actX
    exact rq_bind (H _) fun v hv => rq_ite (fun _ => rq_ite (fun _ m hm => ⟨hm, rfl, fun a s e => by cases e; exact right_num _⟩) fun _ => rq_er) fun _ => rq_er
  · unfold varX
    refine rq_ite (fun _ => rq_er) fun ho => ?_
    simp only
    refine rq_ite (fun _ => rq_er) fun hi => rq_ite (fun _ => rq_bind (H _) fun v hv m hm => ⟨⟨?_, hm.2⟩, ?_, fun a s e => by cases e; exact hv⟩) fun _ m hm => ⟨hm, rfl, fun a s e => by cases e; exact getSt_right hm.1 _ _ (right_num 0)⟩
    · intro l hl w hw
      simp only [X.upd, X.ok, Rs.st, setSt] at hl
      obtain ⟨j, hj⟩ := List.mem_iff_getElem?.1 hl
      rw [List.getElem?_modify] at hj
      cases h1 : m.state[j]? with
      | none => simp [h1] at hj
      | some l0 =>
        rw [h1] at hj
        simp only [Option.map_eq_map, Option.map_some, Option.some.injEq] at hj
        have hold := hm.1 l0 (List.mem_of_getElem? h1)
        split at hj
        · subst hj
          rcases List.mem_or_eq_of_mem_set hw with h | h
          · exact hold w h
          · subst h; exact hv
        · subst hj
          exact hold w hw
    · simp only [X.upd, X.ok, Rs.st, shapeM, setSt]
      apply List.ext_getElem?
      intro j
      rw [List.getElem?_map, List.getElem?_map, List.getElem?_modify]
      cases m.state[j]? with
      | none => rfl
      | some l0 =>
        simp only [Option.map_some]
        split <;> simp
theorem right_eval {p : List Mod} : ∀ (n : Nat) (o : Int) (ns : List Str) (vs : List Val) (e : Exp), RightS ns vs → RQ (evalX p n o ns vs e) Rv
  | 0, _, _, _, _, _ => rq_er
  | n + 1, o, ns, vs, e, hs => right_step (fun o ns vs e h => right_eval n o ns vs e h) o ns vs e hs
end Go.Av.Ap

/- How the state of an evaluation lies in the abstract heap. No condition. -/
namespace Go.Av.Ap
theorem bnd_ok {α β : Type} {m : M α} {f : α → M β} {h h' : Hp} {a : α} (e : m h = .ok a h') : bnd m f h = f a h' := by simp only [bnd, e]
theorem bnd_pan {α β : Type} {m : M α} {f : α → M β} {h h' : Hp} {v : AV} (e : m h = .pan v h') : bnd m f h = .pan v h' := by simp only [bnd, e]
def valCells (l : List Val) : List AV := l.flatMap fun v => acells v.av
theorem valCells_len (l : List Val) : (valCells l).length = l.length * 4 := by
  induction l with
  | nil => rfl
  | cons v l ih => simp only [valCells, List.flatMap_cons, List.length_append] at ih ⊢; rw [ih]; simp; omega
theorem valCells_app (a b : List Val) : valCells (a ++ b) = valCells a ++ valCells b := by simp [valCells]
theorem valCells_get {l : List Val} {k : Nat} (h : k < l.length) : ((valCells l).drop (k * 4)).take 4 = acells (l[k]).av := by
  induction l generalizing k with
  | nil => simp at h
  | cons v l ih =>
    cases k with
    | zero => simp [valCells]
    | succ k =>
      have := ih (k := k) (by simpa using h)
      simp only [valCells, List.flatMap_cons] at this ⊢
      have e : (k + 1) * 4 = (acells v.av).length + k * 4 := by simp; omega
      rw [e, List.drop_append, List.getElem_cons_succ]
      simp only [Nat.add_sub_cancel_left]
      rw [List.drop_of_length_le (by omega), List.nil_append]
      exact this
theorem valCells_set {l : List Val} {k : Nat} (h : k < l.length) (v : Val) : setCells (valCells l) (k * 4) (acells v.av) = valCells (l.set k v) := by
  induction l generalizing k with
  | nil => simp at h
  | cons w l ih =>
    cases k with
    | zero =>
      simp only [setCells, valCells, List.flatMap_cons, Nat.zero_mul, List.take_zero, List.nil_append, List.set_cons_zero]
      congr 1
      have : 0 + (acells v.av).length = (acells w.av).length := by simp
      rw [this, List.drop_left]
    | succ k =>
      have := ih (k := k) (by simpa using h)
      simp only [setCells, valCells, List.flatMap_cons, List.set_cons_succ] at this ⊢
      have e : (k + 1) * 4 = (acells w.av).length + k * 4 := by simp; omega
      have e2 : (acells w.av).length + k * 4 + (acells v.av).length - (acells w.av).length = k * 4 + (acells v.av).length := by omega
      have e3 : (acells w.av).length + k * 4 - (acells w.av).length = k * 4 := by omega
      rw [e, List.take_append, List.drop_append, e2, e3, List.take_of_length_le (by omega), List.drop_of_length_le (by omega)]
      simp only [List.nil_append, List.append_assoc]
      congr 1
      rw [← List.append_assoc]
      exact this
def deedCells (l : List Deed) : List AV := l.flatMap fun d => [.int .i64 d.effect, .int .i64 d.arg, .int .i64 d.answer]
theorem deedCells_len (l : List Deed) : (deedCells l).length = l.length * 3 := by
  induction l with
  | nil => rfl
  | cons v l ih => simp only [deedCells, List.flatMap_cons, List.length_append] at ih ⊢; rw [ih]; simp; omega
def ArgR (tag : Nat → Nat) (k : Nat) (h : Hp) (l : List Val) (v : AV) : Prop := v = vals l ∨ ∃ r, v = .hs r 0 l.length 4 true ∧ tag r = k ∧ h[r]? = some (valCells l)
def CallsR (tag : Nat → Nat) (h : Hp) : List Call → List AV → Prop
  | [], cs => cs = []
  | c :: l, cs => ∃ av rest, cs = .str c.module :: .str c.func :: av :: rest ∧ ArgR tag 4 h c.args av ∧ CallsR tag h l rest
def StatesR (tag : Nat → Nat) (h : Hp) : Nat → List Str → List (List Val) → List AV → Prop
  | _, [], [], cs => cs = []
  | i, n :: ns, l :: st, cs => ∃ av rest, cs = .str n :: av :: rest ∧ ((l = [] ∧ av = .sl []) ∨ ∃ r, av = .hs r 0 l.length 4 true ∧ tag r = 6 + i ∧ h[r]? = some (valCells l)) ∧ StatesR tag h (i + 1) ns st rest
  | _, _, _, _ => False
def SlR (tag : Nat → Nat) (k sz n : Nat) (cells : List AV → Prop) (v : AV) (h : Hp) : Prop := (n = 0 ∧ v = .hn) ∨ ∃ q cs, v = .hs q 0 n sz true ∧ 0 < n ∧ tag q = k ∧ h[q]? = some cs ∧ cs.length = n * sz ∧ cells cs
structure SNm where
  names : List Str
  sv : AV
  cells : List AV
  told : Bool
structure RepT (row : Ms → AV → AV → AV → List AV) (nm : SNm) (tag : Nat → Nat) (dv cv sv : AV) (m : Ms) (h : Hp) : Prop where
  r0 : h[0]? = some (row m dv cv sv)
  t0 : tag 0 = 0
  ds : SlR tag 2 3 m.deeds.length (fun cs => cs = deedCells m.deeds) dv h
  cs : SlR tag 3 3 m.calls.length (fun cs => CallsR tag h m.calls cs) cv h
  st : SlR tag 5 2 m.state.length (fun cs => cs = nm.cells ∧ StatesR tag h 0 nm.names m.state cs) sv h
  sve : sv = nm.sv
  wok : nm.told = true → m.world = []
def Rep (row : Ms → AV → AV → AV → List AV) (nm : SNm) (m : Ms) (h : Hp) : Prop := ∃ tag dv cv sv, RepT row nm tag dv cv sv m h
def Kp (tag tag' : Nat → Nat) (ks : Nat → Prop) (h h' : Hp) : Prop := ∀ r cs, h[r]? = some cs → ¬ ks (tag r) → h'[r]? = some cs ∧ tag' r = tag r
theorem ArgR.keep {tag tag' : Nat → Nat} {ks : Nat → Prop} {h h' : Hp} (K : Kp tag tag' ks h h') {k : Nat} (hk : ¬ ks k) {l : List Val} {v : AV} (H : ArgR tag k h l v) : ArgR tag' k h' l v := by
  rcases H with H | ⟨r, h1, h2, h3⟩
  · exact .inl H
  · have := K r _ h3 (by rw [h2]; exact hk)
    exact .inr ⟨r, h1, this.2.trans h2, this.1⟩
theorem CallsR.keep {tag tag' : Nat → Nat} {ks : Nat → Prop} {h h' : Hp} (K : Kp tag tag' ks h h') (hk : ¬ ks 4) : {l : List Call} → {cs : List AV} → CallsR tag h l cs → CallsR tag' h' l cs
  | [], _, H => H
  | _ :: _, _, ⟨av, rest, h1, h2, h3⟩ => ⟨av, rest, h1, h2.keep K hk, h3.keep K hk⟩
theorem StatesR.keep {tag tag' : Nat → Nat} {ks : Nat → Prop} {h h' : Hp} (K : Kp tag tag' ks h h') (hk : ∀ i, ¬ ks (6 + i)) : {i : Nat} → {nm : List Str} → {st : List (List Val)} → {cs : List AV} → StatesR tag h i nm st cs → StatesR tag' h' i nm st cs
  | _, [], [], _, H => H
  | i, _ :: _, _ :: _, _, ⟨av, rest, h1, h2, h3⟩ => ⟨av, rest, h1, by
      rcases h2 with h2 | ⟨r, g1, g2, g3⟩
      · exact .inl h2
      · have := K r _ g3 (by rw [g2]; exact hk i)
        exact .inr ⟨r, g1, this.2.trans g2, this.1⟩, StatesR.keep K hk h3⟩
  | _, [], _ :: _, _, H => H.elim
  | _, _ :: _, [], _, H => H.elim
theorem SlR.keep {tag tag' : Nat → Nat} {ks : Nat → Prop} {h h' : Hp} (K : Kp tag tag' ks h h') {k sz n : Nat} {c c' : List AV → Prop} {v : AV} (hk : ¬ ks k) (hc : ∀ cs, c cs → c' cs) (H : SlR tag k sz n c v h) : SlR tag' k sz n c' v h' := by
  rcases H with H | ⟨q, cs, h1, h2, h3, h4, h5, h6⟩
  · exact .inl H
  · have := K q _ h4 (by rw [h3]; exact hk)
    exact .inr ⟨q, cs, h1, h2, this.2.trans h3, this.1, h5, hc _ h6⟩
theorem RepT.set0 {row : Ms → AV → AV → AV → List AV} {nm : SNm} {tag : Nat → Nat} {dv cv sv : AV} {m m' : Ms} {h : Hp} (R : RepT row nm tag dv cv sv m h) (h1 : m'.deeds = m.deeds) (h2 : m'.calls = m.calls) (h3 : m'.state = m.state) (h4 : m.world = [] → m'.world = []) :
    RepT row nm tag dv cv sv m' (h.set 0 (row m' dv cv sv)) := by
  have hlt : 0 < h.length := (List.getElem?_eq_some_iff.1 R.r0).1
  have K : Kp tag tag (fun k => k = 0) h (h.set 0 (row m' dv cv sv)) := fun r cs hr hk => by
    have : r ≠ 0 := fun e => hk (by rw [e]; exact R.t0)
    exact ⟨by rw [List.getElem?_set_ne (Ne.symm this)]; exact hr, rfl⟩
  refine ⟨by rw [List.getElem?_set_self hlt], R.t0, ?_, ?_, ?_, R.sve, fun t => h4 (R.wok t)⟩
  · rw [h1]; exact R.ds.keep K (by decide) fun _ h => h
  · rw [h2]; exact R.cs.keep K (by decide) fun _ h => h.keep K (by decide)
  · rw [h3]; exact R.st.keep K (by decide) fun _ h => ⟨h.1, h.2.keep K (by omega)⟩
theorem RepT.more {row : Ms → AV → AV → AV → List AV} {nm : SNm} {tag : Nat → Nat} {dv cv sv : AV} {m : Ms} {h : Hp} (R : RepT row nm tag dv cv sv m h) (x : List AV) (k : Nat) :
    RepT row nm (fun i => if i = h.length then k else tag i) dv cv sv m (h ++ [x]) ∧ Kp tag (fun i => if i = h.length then k else tag i) (fun _ => False) h (h ++ [x]) := by
  have K : Kp tag (fun i => if i = h.length then k else tag i) (fun _ => False) h (h ++ [x]) := fun r cs hr _ => by
    have hlt : r < h.length := (List.getElem?_eq_some_iff.1 hr).1
    exact ⟨by rw [List.getElem?_append_left hlt]; exact hr, by simp only; rw [if_neg (by omega)]⟩
  exact ⟨⟨(K 0 _ R.r0 id).1, (K 0 _ R.r0 id).2.trans R.t0, R.ds.keep K id fun _ h => h, R.cs.keep K id fun _ h => h.keep K id, R.st.keep K id fun _ h => ⟨h.1, h.2.keep K (fun _ => id)⟩, R.sve, R.wok⟩, K⟩
theorem Kp.kill {tag : Nat → Nat} {h : Hp} {q : Nat} {k : Nat} (hq : tag q = k) (x : List AV) : Kp tag tag (fun j => j = k) h (h.set q x) := fun r cs hr hk => by
  have : r ≠ q := fun e => hk (by rw [e]; exact hq)
  exact ⟨by rw [List.getElem?_set_ne (Ne.symm this)]; exact hr, rfl⟩
theorem loadH_one {T : TT} {t : Nat} {ti : TI} (ht : T t = some ti) (ha : ti.agg = false) {h : Hp} {l k : Nat} {cs : List AV} {v : AV} (h0 : h[l]? = some cs) (h1 : cs[k]? = some v) : loadH T t (.hp l k) h = .ok v h := by
  simp [loadH, ht, h0, ha, h1]
theorem loadH_agg {T : TT} {t : Nat} {ti : TI} (ht : T t = some ti) (ha : ti.agg = true) {h : Hp} {l k : Nat} {cs : List AV} (h0 : h[l]? = some cs) (hle : k + ti.size ≤ cs.length) : loadH T t (.hp l k) h = .ok (.agg ((cs.drop k).take ti.size)) h := by
  simp [loadH, ht, h0, ha, hle]
theorem storeH_ok {T : TT} {t : Nat} {ti : TI} (ht : T t = some ti) {h : Hp} {l k : Nat} {cs : List AV} {v : AV} (h0 : h[l]? = some cs) (hv : okEl ti.size v = true) (hle : k + ti.size ≤ cs.length) (hp : 0 < ti.size) :
    storeH T t (.hp l k) v h = .ok (.tup []) (h.set l (setCells cs k (acells v))) := by
  simp [storeH, ht, h0, hv, hle, hp]
theorem appH_nil {T : TT} {t e : Nat} {ti ei : TI} (ht : T t = some ti) (hk : ti.kind = .slice e) (he : T e = some ei) {x : AV} (hx : okEl ei.size x = true) (hb : 0 < ei.bytes) (hs : 0 < ei.size) (hc : ei.bytes ≤ 140737488355328) (h : Hp) :
    appH T t false .hn (.sl [x]) h = .ok (.hs h.length 0 1 ei.size ei.agg) (h ++ [acells x]) := by
  have : okSz ei.size [x] = true := by simp [okSz, hx]
  simp [appH, ht, hk, he, elsOf, this, hb, hs, strOk, hc]
theorem appH_row {T : TT} {t e : Nat} {ti ei : TI} (ht : T t = some ti) (hk : ti.kind = .slice e) (he : T e = some ei) {x : AV} (hx : okEl ei.size x = true) (hb : 0 < ei.bytes) (hs : 0 < ei.size) {h : Hp} {q n : Nat} {cs : List AV} (h0 : h[q]? = some cs) (hok : cs.all okCell = true)
    (hl : cs.length = n * ei.size) (hn : 0 < n) (hc : (n + 1) * ei.bytes ≤ 140737488355328) : appH T t false (.hs q 0 n ei.size ei.agg) (.sl [x]) h = .ok (.hs h.length 0 (n + 1) ei.size ei.agg) ((h.set q []) ++ [cs ++ acells x]) := by
  have h1 : okSz ei.size [x] = true := by simp [okSz, hx]
  have h2 : List.all cs okCell = true := hok
  simp only [appH, ht, hk, he, elsOf, h1, hb, hs, strOk, h0, h2, hl, hn, decide_true, Bool.and_self, cond_true, beq_self_eq_true, List.length_singleton, List.isEmpty_cons, cond_false, List.flatMap_cons, List.flatMap_nil, List.append_nil]
  rw [decide_eq_true hc]
  simp
theorem cloneH_vals {T : TT} {t e : Nat} {ti ei : TI} (ht : T t = some ti) (hk : ti.kind = .slice e) (he : T e = some ei) (h4 : ei.size = 4) (hag : ei.agg = true) (hb : 0 < ei.bytes) (call : FuncId → List AV → M AV) (l : List Val) (hc : l.length * ei.bytes ≤ 140737488355328) (h : Hp) :
    cloneH T t call [vals l] h = if l = [] then .ok (vals []) h else .ok (.hs h.length 0 l.length 4 true) (h ++ [valCells l]) := by
  have h1 : okSz 4 (valsAv l) = true := okSz_vals l
  have hlen : (valsAv l).length = l.length := by simp [valsAv_map]
  have hfl : (valsAv l).flatMap acells = valCells l := by simp [valsAv_map, valCells, List.flatMap_map]
  cases l with
  | nil => simp [cloneH, appH, ht, hk, he, elsOf, hb, h4, strOk, vals, valsAv, okSz]
  | cons v l =>
    have hne : (valsAv (v :: l)).isEmpty = false := rfl
    unfold cloneH vals appH
    simp only [ht, hk, he, elsOf, h4, h1, hb, strOk, decide_true, Bool.and_self, Bool.and_true, cond_true, hne, cond_false, hlen, hfl, hag]
    rw [decide_eq_true hc]
    simp
theorem CallsR.ok {tag : Nat → Nat} {h : Hp} : {l : List Call} → {cs : List AV} → CallsR tag h l cs → cs.all okCell = true ∧ cs.length = l.length * 3
  | [], cs, H => by cases H; exact ⟨rfl, rfl⟩
  | c :: l, _, ⟨av, rest, h1, h2, h3⟩ => by
    subst h1
    obtain ⟨g1, g2⟩ := h3.ok
    have : okCell av = true := by
      rcases h2 with rfl | ⟨r, rfl, _⟩ <;> rfl
    refine ⟨?_, by simp [g2]; omega⟩
    rw [List.all_cons, List.all_cons, List.all_cons, this, g1]
    rfl
theorem CallsR.snoc {tag : Nat → Nat} {h : Hp} {c : Call} {av : AV} (ha : ArgR tag 4 h c.args av) : {l : List Call} → {cs : List AV} → CallsR tag h l cs → CallsR tag h (l ++ [c]) (cs ++ [.str c.module, .str c.func, av])
  | [], cs, H => by cases H; exact ⟨av, [], rfl, ha, rfl⟩
  | d :: l, _, ⟨av', rest, h1, h2, h3⟩ => ⟨av', rest ++ [.str c.module, .str c.func, av], by rw [h1]; rfl, h2, CallsR.snoc ha h3⟩
theorem deedCells_ok (l : List Deed) : (deedCells l).all okCell = true := by simp [deedCells, okCell]
theorem StatesR.at {tag : Nat → Nat} {h : Hp} : {i : Nat} → {nm : List Str} → {st : List (List Val)} → {cs : List AV} → StatesR tag h i nm st cs → ∀ (j : Nat) (l : List Val), st[j]? = some l →
    ∃ av, cs[j * 2 + 1]? = some av ∧ ((l = [] ∧ av = .sl []) ∨ ∃ r, av = .hs r 0 l.length 4 true ∧ tag r = 6 + (i + j) ∧ h[r]? = some (valCells l))
  | _, [], [], _, _, j, l, hj => by simp at hj
  | i, _ :: _, _ :: _, _, ⟨av, rest, h1, h2, h3⟩, j, l, hj => by
    subst h1
    cases j with
    | zero => simp at hj; subst hj; exact ⟨av, rfl, h2⟩
    | succ j =>
      obtain ⟨av', g1, g2⟩ := h3.at j l (by simpa using hj)
      refine ⟨av', ?_, ?_⟩
      · rw [show (j + 1) * 2 + 1 = j * 2 + 1 + 2 by omega]; simpa using g1
      · rw [show i + (j + 1) = i + 1 + j by omega]; exact g2
  | _, [], _ :: _, _, H, _, _, _ => H.elim
  | _, _ :: _, [], _, H, _, _, _ => H.elim
theorem StatesR.len {tag : Nat → Nat} {h : Hp} : {i : Nat} → {nm : List Str} → {st : List (List Val)} → {cs : List AV} → StatesR tag h i nm st cs → nm.length = st.length
  | _, [], [], _, _ => rfl
  | _, _ :: _, _ :: _, _, ⟨_, _, _, _, h3⟩ => by simp [h3.len]
  | _, [], _ :: _, _, H => H.elim
  | _, _ :: _, [], _, H => H.elim
theorem StatesR.set {tag : Nat → Nat} {h : Hp} {r k : Nat} {v : Val} : {i : Nat} → {nm : List Str} → {st : List (List Val)} → {cs : List AV} → StatesR tag h i nm st cs → ∀ (j : Nat) (l : List Val), st[j]? = some l → tag r = 6 + (i + j) → h[r]? = some (valCells l) → cs[j * 2 + 1]? = some (.hs r 0 l.length 4 true) →
    k < l.length → StatesR tag (h.set r (valCells (l.set k v))) i nm (setSt st j k v) cs
  | _, [], [], _, _, j, l, hj, _, _, _, _ => by simp at hj
  | i, n :: ns, l0 :: st, _, ⟨av, rest, h1, h2, h3⟩, j, l, hj, ht, hr, hc, hk => by
    subst h1
    have hlt : r < h.length := (List.getElem?_eq_some_iff.1 hr).1
    cases j with
    | zero =>
      simp only [List.getElem?_cons_zero, Option.some.injEq] at hj
      subst hj
      simp only [Nat.zero_mul, Nat.zero_add, List.getElem?_cons_succ, List.getElem?_cons_zero, Option.some.injEq] at hc
      have e : setSt (l0 :: st) 0 k v = l0.set k v :: st := by simp [setSt]
      rw [e]
      refine ⟨av, rest, rfl, .inr ⟨r, by rw [hc, List.length_set], ht, List.getElem?_set_self hlt⟩, ?_⟩
      have K : Kp tag tag (fun t => t = 6 + i) h (h.set r (valCells (l0.set k v))) := Kp.kill (by rw [ht]; rfl) _
      have key : ∀ {i' : Nat} {nm' : List Str} {st' : List (List Val)} {cs' : List AV}, i < i' → StatesR tag h i' nm' st' cs' → StatesR tag (h.set r (valCells (l0.set k v))) i' nm' st' cs' := by
        intro i' nm' st'
        induction st' generalizing i' nm' with
        | nil => intro cs' hi H; cases nm' with
          | nil => exact H
          | cons _ _ => exact H.elim
        | cons a st' ih => intro cs' hi H; cases nm' with
          | nil => exact H.elim
          | cons b nm' =>
            obtain ⟨av2, rest2, k1, k2, k3⟩ := H
            refine ⟨av2, rest2, k1, ?_, ih (by omega) k3⟩
            rcases k2 with k2 | ⟨r2, g1, g2, g3⟩
            · exact .inl k2
            · have := K r2 _ g3 (by rw [g2]; omega)
              exact .inr ⟨r2, g1, g2, this.1⟩
      exact key (Nat.lt_succ_self i) h3
    | succ j =>
      have e : setSt (l0 :: st) (j + 1) k v = l0 :: setSt st j k v := by simp [setSt]
      rw [e]
      have hc' : rest[j * 2 + 1]? = some (.hs r 0 l.length 4 true) := by
        rw [show (j + 1) * 2 + 1 = j * 2 + 1 + 2 by omega] at hc
        simpa using hc
      refine ⟨av, rest, rfl, ?_, h3.set j l (by simpa using hj) (by rw [ht]; omega) hr hc' hk⟩
      rcases h2 with h2 | ⟨r2, g1, g2, g3⟩
      · exact .inl h2
      · have : r2 ≠ r := fun e => by rw [e, ht] at g2; omega
        exact .inr ⟨r2, g1, g2, by rw [List.getElem?_set_ne (Ne.symm this)]; exact g3⟩
  | _, [], _ :: _, _, H, _, _, _, _, _, _, _ => H.elim
  | _, _ :: _, [], _, H, _, _, _, _, _, _, _ => H.elim
theorem Kp.trans {a b c : Nat → Nat} {ks js : Nat → Prop} {h h1 h2 : Hp} (K : Kp a b ks h h1) (J : Kp b c js h1 h2) : Kp a c (fun k => ks k ∨ js k) h h2 := fun r cs hr hk => by
  obtain ⟨k1, k2⟩ := K r cs hr fun h => hk (.inl h)
  obtain ⟨j1, j2⟩ := J r cs k1 fun h => hk (.inr (by rwa [k2] at h))
  exact ⟨j1, j2.trans k2⟩
theorem Kp.new (tag : Nat → Nat) (h : Hp) (x : List AV) (k : Nat) : Kp tag (fun i => if i = h.length then k else tag i) (fun _ => False) h (h ++ [x]) := fun r cs hr _ => by
  have hlt : r < h.length := (List.getElem?_eq_some_iff.1 hr).1
  exact ⟨by rw [List.getElem?_append_left hlt]; exact hr, by simp only; rw [if_neg (by omega)]⟩
theorem Kp.mono {a b : Nat → Nat} {ks js : Nat → Prop} {h h1 : Hp} (K : Kp a b ks h h1) (hj : ∀ k, ks k → js k) : Kp a b js h h1 := fun r cs hr hk => K r cs hr fun h => hk (hj _ h)
theorem push_row {T : TT} {t e : Nat} {ti ei : TI} (ht : T t = some ti) (hk : ti.kind = .slice e) (he : T e = some ei) {sz : Nat} (h3 : ei.size = sz) (hsz : 0 < sz) (hag : ei.agg = true) (hb : 0 < ei.bytes) {tag : Nat → Nat} {k n : Nat} {P : List AV → Prop} {v x : AV} {h : Hp}
    (H : SlR tag k sz n P v h) (hP0 : n = 0 → P []) (hok : ∀ cs, P cs → cs.all okCell = true) (hx : okEl sz x = true) (hc : (n + 1) * ei.bytes ≤ 140737488355328) :
    ∃ h1 v' tag', appH T t false v (.sl [x]) h = .ok v' h1 ∧ Kp tag tag' (fun j => j = k) h h1 ∧ SlR tag' k sz (n + 1) (fun cs' => ∃ cs, P cs ∧ cs' = cs ++ acells x) v' h1 ∧ okCell v' = true := by
  have hxl : (acells x).length = sz := by
    unfold okEl at hx
    simp only [Bool.and_eq_true, beq_iff_eq] at hx
    have h1 := hx.1
    cases x <;> simp only [sizeA, Option.some.injEq, reduceCtorEq] at h1 <;> simp only [acells, List.length_singleton] <;> exact h1
  have hx' : okEl ei.size x = true := by rw [h3]; exact hx
  rcases H with ⟨hn, rfl⟩ | ⟨q, cs, rfl, hn, hq, hcs, hl, hp⟩
  · subst hn
    refine ⟨_, _, _, appH_nil ht hk he hx' hb (by omega) (by omega) h, (Kp.new tag h (acells x) k).mono fun _ h => h.elim, .inr ⟨h.length, acells x, by rw [h3, hag], by omega, by simp, by simp, by simpa using hxl, [], hP0 rfl, rfl⟩, rfl⟩
  · have e1 := appH_row ht hk he hx' hb (by omega) hcs (hok cs hp) (by rw [h3]; exact hl) hn hc
    rw [h3, hag] at e1
    have K1 : Kp tag tag (fun j => j = k) h (h.set q []) := Kp.kill hq []
    have K2 := Kp.new tag (h.set q []) (cs ++ acells x) k
    refine ⟨_, _, _, e1, (K1.trans K2).mono fun j h => h.elim id False.elim, .inr ⟨h.length, cs ++ acells x, rfl, by omega, by simp, ?_, by rw [List.length_append, hl, hxl, Nat.add_mul, Nat.one_mul], cs, hp, rfl⟩, rfl⟩
    have : (h.set q []).length = h.length := by simp
    rw [← this]
    simp
theorem RepT.pushDeed {row : Ms → AV → AV → AV → List AV} {nm : SNm} {tag tag' : Nat → Nat} {dv dv' cv sv : AV} {m m' : Ms} {h h1 : Hp} {d : Deed} (R : RepT row nm tag dv cv sv m h) (K : Kp tag tag' (fun j => j = 2) h h1)
    (H : SlR tag' 2 3 (m.deeds.length + 1) (fun cs' => ∃ cs, cs = deedCells m.deeds ∧ cs' = cs ++ acells d.av) dv' h1) (hd : m'.deeds = m.deeds ++ [d]) (hc : m'.calls = m.calls) (hs : m'.state = m.state) (h4 : m.world = [] → m'.world = []) : RepT row nm tag' dv' cv sv m' (h1.set 0 (row m' dv' cv sv)) := by
  obtain ⟨k1, k2⟩ := K 0 _ R.r0 (by rw [R.t0]; decide)
  have hlt : 0 < h1.length := (List.getElem?_eq_some_iff.1 k1).1
  have t0 := k2.trans R.t0
  have K0 : Kp tag' tag' (fun j => j = 0) h1 (h1.set 0 (row m' dv' cv sv)) := Kp.kill t0 _
  refine ⟨List.getElem?_set_self hlt, t0, ?_, ?_, ?_, R.sve, fun t => h4 (R.wok t)⟩
  · rw [hd, List.length_append]
    refine H.keep K0 (by decide) ?_
    rintro cs' ⟨cs, rfl, rfl⟩
    show deedCells m.deeds ++ [AV.int .i64 d.effect, .int .i64 d.arg, .int .i64 d.answer] = _
    simp [deedCells]
  · rw [hc]
    exact (R.cs.keep K (c' := CallsR tag' h1 m.calls) (by decide) fun _ h => h.keep K (by decide)).keep K0 (by decide) fun _ h => h.keep K0 (by decide)
  · rw [hs]
    exact (R.st.keep K (c' := fun cs => cs = nm.cells ∧ StatesR tag' h1 0 nm.names m.state cs) (by decide) fun _ h => ⟨h.1, h.2.keep K (by omega)⟩).keep K0 (by decide) fun _ h => ⟨h.1, h.2.keep K0 (by omega)⟩
theorem RepT.pushCall {row : Ms → AV → AV → AV → List AV} {nm : SNm} {tag tag' : Nat → Nat} {dv cv cv' sv : AV} {m m' : Ms} {h h1 : Hp} {c : Call} {av : AV} (R : RepT row nm tag dv cv sv m h) (K : Kp tag tag' (fun j => j = 3) h h1) (ha : ArgR tag 4 h c.args av)
    (H : SlR tag' 3 3 (m.calls.length + 1) (fun cs' => ∃ cs, CallsR tag h m.calls cs ∧ cs' = cs ++ [.str c.module, .str c.func, av]) cv' h1) (hd : m'.deeds = m.deeds) (hc : m'.calls = m.calls ++ [c]) (hs : m'.state = m.state) (h4 : m.world = [] → m'.world = []) : RepT row nm tag' dv cv' sv m' (h1.set 0 (row m' dv cv' sv)) := by
  obtain ⟨k1, k2⟩ := K 0 _ R.r0 (by rw [R.t0]; decide)
  have hlt : 0 < h1.length := (List.getElem?_eq_some_iff.1 k1).1
  have t0 := k2.trans R.t0
  have K0 : Kp tag' tag' (fun j => j = 0) h1 (h1.set 0 (row m' dv cv' sv)) := Kp.kill t0 _
  refine ⟨List.getElem?_set_self hlt, t0, ?_, ?_, ?_, R.sve, fun t => h4 (R.wok t)⟩
  · rw [hd]
    exact (R.ds.keep K (c' := fun cs => cs = deedCells m.deeds) (by decide) fun _ h => h).keep K0 (by decide) fun _ h => h
  · rw [hc, List.length_append]
    refine H.keep K0 (by decide) ?_
    rintro cs' ⟨cs, hcs, rfl⟩
    exact ((hcs.keep K (by decide)).snoc (ha.keep K (by decide))).keep K0 (by decide)
  · rw [hs]
    exact (R.st.keep K (c' := fun cs => cs = nm.cells ∧ StatesR tag' h1 0 nm.names m.state cs) (by decide) fun _ h => ⟨h.1, h.2.keep K (by omega)⟩).keep K0 (by decide) fun _ h => ⟨h.1, h.2.keep K0 (by omega)⟩
theorem RepT.var {row : Ms → AV → AV → AV → List AV} {nm : SNm} {tag : Nat → Nat} {dv cv sv : AV} {m : Ms} {h : Hp} (R : RepT row nm tag dv cv sv m h) (hrow : ∀ st, row { m with state := st } dv cv sv = row m dv cv sv) {i : Nat} {l : List Val} (hl : m.state[i]? = some l) (hne : l ≠ []) :
    ∃ q r, nm.sv = .hs q 0 m.state.length 2 true ∧ h[q]? = some nm.cells ∧ nm.cells[i * 2 + 1]? = some (.hs r 0 l.length 4 true) ∧ nm.cells.length = m.state.length * 2 ∧ h[r]? = some (valCells l) ∧
      ∀ (k : Nat) (v : Val), k < l.length → RepT row nm tag dv cv sv { m with state := setSt m.state i k v } (h.set r (valCells (l.set k v))) := by
  have hi : i < m.state.length := (List.getElem?_eq_some_iff.1 hl).1
  rcases R.st with ⟨h0, _⟩ | ⟨q, cs, h1, h2, h3, h4, h5, rfl, h6⟩
  · omega
  · obtain ⟨av, g1, g2⟩ := h6.at i l hl
    rcases g2 with ⟨g2, _⟩ | ⟨r, rfl, g3, g4⟩
    · exact absurd g2 hne
    · rw [Nat.zero_add] at g3
      refine ⟨q, r, by rw [← R.sve, h1], h4, g1, h5, g4, fun k v hk => ?_⟩
      have K : Kp tag tag (fun j => j = 6 + i) h (h.set r (valCells (l.set k v))) := Kp.kill g3 _
      refine ⟨?_, R.t0, ?_, ?_, ?_, R.sve, R.wok⟩
      · rw [hrow]; exact (K 0 _ R.r0 (by rw [R.t0]; omega)).1
      · exact R.ds.keep K (by omega) fun _ h => h
      · exact R.cs.keep K (by omega) fun _ h => h.keep K (by omega)
      · right
        have hq : r ≠ q := fun e => by rw [e, h3] at g3; omega
        refine ⟨q, nm.cells, by rw [h1]; simp [setSt], by simpa [setSt] using h2, h3, by rw [List.getElem?_set_ne hq]; exact h4, by simpa [setSt] using h5, rfl, ?_⟩
        exact h6.set i l hl (by rw [Nat.zero_add]; exact g3) g4 g1 hk
theorem StatesR.snoc {tag : Nat → Nat} {h : Hp} {n : Str} {l : List Val} {av : AV} : {i : Nat} → {nm : List Str} → {st : List (List Val)} → {cs : List AV} → StatesR tag h i nm st cs →
    ((l = [] ∧ av = .sl []) ∨ ∃ r, av = .hs r 0 l.length 4 true ∧ tag r = 6 + (i + st.length) ∧ h[r]? = some (valCells l)) → StatesR tag h i (nm ++ [n]) (st ++ [l]) (cs ++ [.str n, av])
  | i, [], [], cs, H, ha => by
    have H' : cs = [] := H
    subst H'
    exact ⟨av, [], rfl, ha, rfl⟩
  | i, _ :: _, l0 :: st, _, ⟨av', rest, h1, h2, h3⟩, ha => by
    refine ⟨av', rest ++ [.str n, av], by rw [h1]; rfl, h2, h3.snoc ?_⟩
    rcases ha with ha | ⟨r, g1, g2, g3⟩
    · exact .inl ha
    · exact .inr ⟨r, g1, by rw [g2]; simp; omega, g3⟩
  | _, [], _ :: _, _, H, _ => H.elim
  | _, _ :: _, [], _, H, _ => H.elim
theorem StatesR.ok {tag : Nat → Nat} {h : Hp} : {i : Nat} → {nm : List Str} → {st : List (List Val)} → {cs : List AV} → StatesR tag h i nm st cs → cs.all okCell = true
  | _, [], [], cs, H => by
    have H' : cs = [] := H
    subst H'
    rfl
  | _, _ :: _, _ :: _, _, ⟨av, rest, h1, h2, h3⟩ => by
    subst h1
    have : okCell av = true := by
      rcases h2 with ⟨_, rfl⟩ | ⟨r, rfl, _⟩ <;> rfl
    rw [List.all_cons, List.all_cons, this, h3.ok]
    rfl
  | _, [], _ :: _, _, H => H.elim
  | _, _ :: _, [], _, H => H.elim
theorem RepT.pushState {row : Ms → AV → AV → AV → List AV} {nm : SNm} {tag tag' : Nat → Nat} {dv cv sv sv' : AV} {m : Ms} {h h1 : Hp} {n : Str} {l : List Val} {av : AV} (R : RepT row nm tag dv cv sv m h) (K : Kp tag tag' (fun j => j = 5) h h1)
    (ha : (l = [] ∧ av = .sl []) ∨ ∃ r, av = .hs r 0 l.length 4 true ∧ tag r = 6 + m.state.length ∧ h[r]? = some (valCells l))
    (H : SlR tag' 5 2 (m.state.length + 1) (fun cs' => ∃ cs, (cs = nm.cells ∧ StatesR tag h 0 nm.names m.state cs) ∧ cs' = cs ++ [.str n, av]) sv' h1) :
    RepT row ⟨nm.names ++ [n], sv', nm.cells ++ [.str n, av], nm.told⟩ tag' dv cv sv' { m with state := m.state ++ [l] } (h1.set 0 (row { m with state := m.state ++ [l] } dv cv sv')) := by
  obtain ⟨k1, k2⟩ := K 0 _ R.r0 (by rw [R.t0]; decide)
  have hlt : 0 < h1.length := (List.getElem?_eq_some_iff.1 k1).1
  have t0 := k2.trans R.t0
  have K0 : Kp tag' tag' (fun j => j = 0) h1 (h1.set 0 (row { m with state := m.state ++ [l] } dv cv sv')) := Kp.kill t0 _
  refine ⟨List.getElem?_set_self hlt, t0, ?_, ?_, ?_, rfl, R.wok⟩
  · exact (R.ds.keep K (c' := fun cs => cs = deedCells m.deeds) (by decide) fun _ h => h).keep K0 (by decide) fun _ h => h
  · exact (R.cs.keep K (c' := CallsR tag' h1 m.calls) (by decide) fun _ h => h.keep K (by decide)).keep K0 (by decide) fun _ h => h.keep K0 (by decide)
  · simp only [List.length_append, List.length_singleton]
    refine H.keep K0 (by decide) ?_
    rintro cs' ⟨cs, ⟨rfl, hcs⟩, rfl⟩
    refine ⟨rfl, ?_⟩
    have h2 := hcs.snoc (n := n) (l := l) (av := av) (by rw [Nat.zero_add]; exact ha)
    exact (h2.keep K (by omega)).keep K0 (by omega)
def frG (d : Nat) (h : Hp) : Nat → Nat → Nat → Nat → Bool → AV := fun l off len sz ag => match h[l]? with
  | some cs => bif decide (off + len * sz ≤ cs.length) && decide (0 < sz) && (ag || (Nat.beq sz 1 && cs.all okCell)) then
      .sl ((List.range len).map fun i => frz d h (bif ag then .agg ((cs.drop (off + i * sz)).take sz) else nth cs (off + i * sz))) else .any
  | none => .any
theorem frz_succ (d : Nat) (h : Hp) (a : AV) : frz (d + 1) h a = cl (frG d h) a := rfl
theorem range_map {α β : Type} {l : List α} {f : Nat → β} {g : α → β} (h : ∀ i x, l[i]? = some x → f i = g x) : (List.range l.length).map f = l.map g := by
  apply List.ext_getElem?
  intro i
  rw [List.getElem?_map, List.getElem?_map]
  by_cases hi : i < l.length
  · rw [List.getElem?_range hi, List.getElem?_eq_getElem hi]
    simp only [Option.map_some, Option.some.injEq]
    exact h i _ (List.getElem?_eq_getElem hi)
  · rw [List.getElem?_eq_none (by simp; omega), List.getElem?_eq_none (by omega)]
    rfl
theorem frG_row {d : Nat} {h : Hp} {q n sz : Nat} {cs : List AV} (h0 : h[q]? = some cs) (hl : cs.length = n * sz) (hz : 0 < sz) : frG d h q 0 n sz true = .sl ((List.range n).map fun i => frz d h (.agg ((cs.drop (i * sz)).take sz))) := by
  unfold frG
  rw [h0]
  simp only [hl, Nat.zero_add, Nat.le_refl, decide_true, hz, Bool.true_or, Bool.and_self, cond_true]
theorem frz_val (d : Nat) (h : Hp) (v : Val) : frz d h v.av = v.av := by
  cases d with
  | zero => exact cl_val _ v
  | succ d => exact cl_val _ v
theorem frG_vals {d : Nat} {h : Hp} {r : Nat} {l : List Val} (h0 : h[r]? = some (valCells l)) : frG d h r 0 l.length 4 true = vals l := by
  rw [frG_row h0 (valCells_len l) (by decide)]
  unfold vals
  rw [valsAv_map]
  congr 1
  refine range_map fun i v hv => ?_
  have hi := (List.getElem?_eq_some_iff.1 hv).1
  rw [valCells_get hi, (List.getElem?_eq_some_iff.1 hv).2]
  have : AV.agg (acells v.av) = v.av := by simp
  rw [this, frz_val]
theorem cl_arg {d : Nat} {tag : Nat → Nat} {k : Nat} {h : Hp} {l : List Val} {av : AV} (H : ArgR tag k h l av) : cl (frG d h) av = vals l := by
  rcases H with rfl | ⟨r, rfl, _, h0⟩
  · exact cl_vals _ l
  · exact frG_vals h0
theorem CallsR.at {tag : Nat → Nat} {h : Hp} : {l : List Call} → {cs : List AV} → CallsR tag h l cs → ∀ (i : Nat) (c : Call), l[i]? = some c → ∃ av, (cs.drop (i * 3)).take 3 = [.str c.module, .str c.func, av] ∧ ArgR tag 4 h c.args av
  | [], _, _, i, c, hc => by simp at hc
  | d :: l, _, ⟨av, rest, h1, h2, h3⟩, i, c, hc => by
    subst h1
    cases i with
    | zero => simp at hc; subst hc; exact ⟨av, by simp, h2⟩
    | succ i =>
      obtain ⟨av', g1, g2⟩ := h3.at i c (by simpa using hc)
      refine ⟨av', ?_, g2⟩
      rw [show (i + 1) * 3 = i * 3 + 3 by omega]
      simpa using g1
theorem frz_calls {d : Nat} {tag : Nat → Nat} {h : Hp} {l : List Call} {v : AV} (H : SlR tag 3 3 l.length (fun cs => CallsR tag h l cs) v h) : cl (frG (d + 1) h) v = calls l := by
  rcases H with ⟨h0, rfl⟩ | ⟨q, cs, rfl, _, _, h4, h5, h6⟩
  · have : l = [] := List.eq_nil_of_length_eq_zero h0
    subst this
    rfl
  · show frG (d + 1) h q 0 l.length 3 true = _
    rw [frG_row h4 h5 (by decide)]
    unfold calls
    congr 1
    refine range_map fun i c hc => ?_
    obtain ⟨av, g1, g2⟩ := h6.at i c hc
    rw [g1, frz_succ]
    show AV.agg [.str c.module, .str c.func, cl (frG d h) av] = _
    rw [cl_arg g2]
    rfl
theorem deedCells_at {l : List Deed} {i : Nat} {d : Deed} (h : l[i]? = some d) : ((deedCells l).drop (i * 3)).take 3 = [.int .i64 d.effect, .int .i64 d.arg, .int .i64 d.answer] := by
  induction l generalizing i with
  | nil => simp at h
  | cons x l ih =>
    cases i with
    | zero => simp at h; subst h; simp [deedCells]
    | succ i =>
      have := ih (i := i) (by simpa using h)
      rw [show (i + 1) * 3 = i * 3 + 3 by omega]
      simpa [deedCells] using this
theorem frz_deeds {d : Nat} {tag : Nat → Nat} {h : Hp} {l : List Deed} {v : AV} (H : SlR tag 2 3 l.length (fun cs => cs = deedCells l) v h) : cl (frG (d + 1) h) v = deeds l := by
  rcases H with ⟨h0, rfl⟩ | ⟨q, cs, rfl, _, _, h4, h5, rfl⟩
  · have : l = [] := List.eq_nil_of_length_eq_zero h0
    subst this
    rfl
  · show frG (d + 1) h q 0 l.length 3 true = _
    rw [frG_row h4 h5 (by decide)]
    unfold deeds
    congr 1
    refine range_map fun i c hc => ?_
    rw [deedCells_at hc, frz_succ]
    rfl
theorem StatesR.at2 {tag : Nat → Nat} {h : Hp} : {i : Nat} → {nm : List Str} → {st : List (List Val)} → {cs : List AV} → StatesR tag h i nm st cs → ∀ (j : Nat) (x : Vars), (List.zipWith Vars.mk nm st)[j]? = some x →
    ∃ av, (cs.drop (j * 2)).take 2 = [.str x.module, av] ∧ ((x.values = [] ∧ av = .sl []) ∨ ∃ r, av = .hs r 0 x.values.length 4 true ∧ h[r]? = some (valCells x.values))
  | _, [], [], _, _, j, x, hx => by simp at hx
  | i, n :: ns, l :: st, _, ⟨av, rest, h1, h2, h3⟩, j, x, hx => by
    subst h1
    cases j with
    | zero =>
      simp at hx
      subst hx
      refine ⟨av, by simp, ?_⟩
      rcases h2 with h2 | ⟨r, g1, _, g3⟩
      · exact .inl h2
      · exact .inr ⟨r, g1, g3⟩
    | succ j =>
      obtain ⟨av', g1, g2⟩ := h3.at2 j x (by simpa using hx)
      refine ⟨av', ?_, g2⟩
      rw [show (j + 1) * 2 = j * 2 + 2 by omega]
      simpa using g1
  | _, [], _ :: _, _, H, _, _, _ => H.elim
  | _, _ :: _, [], _, H, _, _, _ => H.elim
theorem frz_states {d : Nat} {tag : Nat → Nat} {h : Hp} {nm : List Str} {c0 : List AV} {st : List (List Val)} {v : AV} (H : SlR tag 5 2 st.length (fun cs => cs = c0 ∧ StatesR tag h 0 nm st cs) v h) : cl (frG (d + 1) h) v = varss (List.zipWith Vars.mk nm st) := by
  rcases H with ⟨h0, rfl⟩ | ⟨q, cs, rfl, _, _, h4, h5, _, h6⟩
  · have : st = [] := List.eq_nil_of_length_eq_zero h0
    subst this
    cases nm <;> rfl
  · have hl : (List.zipWith Vars.mk nm st).length = st.length := by simp [h6.len]
    show frG (d + 1) h q 0 st.length 2 true = _
    rw [frG_row h4 h5 (by decide), ← hl]
    unfold varss
    congr 1
    refine range_map fun i c hc => ?_
    obtain ⟨av, g1, g2⟩ := h6.at2 i c hc
    rw [g1, frz_succ]
    have : cl (frG d h) av = vals c.values := by
      rcases g2 with ⟨e1, rfl⟩ | ⟨r, rfl, g3⟩
      · rw [e1]; rfl
      · exact frG_vals g3
    show AV.agg [.str c.module, cl (frG d h) av] = _
    rw [this]
    rfl
theorem okCell_one {v : AV} (h : okCell v = true) : okEl 1 v = true ∧ acells v = [v] ∧ sizeA v = some 1 := by
  cases v with
  | any => cases h
  | agg _ => cases h
  | tup _ => cases h
  | _ => exact ⟨rfl, rfl, rfl⟩
end Go.Av.Ap

/- Laws of evaluation: how much is recorded, frames. No condition. -/
namespace Go.Av.Ap
def mu (m : Ms) : Int := m.deeds.length + m.calls.length + m.fuel
def TQ (k : Int) {α : Type} (x : X α) : Prop := ∀ m a s, 0 ≤ m.fuel → x m = .ok a s → mu s ≤ mu m + k ∧ s.fuel ≤ m.fuel ∧ 0 ≤ s.fuel ∧ s.frames = m.frames
theorem tq_ok {k : Int} {α : Type} {a : α} (hk : 0 ≤ k) : TQ k (.ok a) := fun m b s h0 h => by cases h; exact ⟨by omega, Int.le_refl _, h0, rfl⟩
theorem tq_er {k : Int} {α : Type} {e : Int} : TQ k (α := α) (.er e) := fun m b s _ h => by cases h
theorem tq_bind {j k : Int} {α β : Type} {x : X α} {f : α → X β} (hx : TQ j x) (hf : ∀ a, TQ k (f a)) : TQ (j + k) (x.bind f) := by
  intro m b s h0 h
  unfold X.bind at h
  cases hr : x m with
  | er e t => rw [hr] at h; cases h
  | ok a t =>
    rw [hr] at h
    obtain ⟨h1, h2, h3, h4⟩ := hx m a t h0 hr
    obtain ⟨g1, g2, g3, g4⟩ := hf a t b s h3 h
    exact ⟨by omega, by omega, g3, g4.trans h4⟩
theorem tq_bind0 {k : Int} {α β : Type} {x : X α} {f : α → X β} (hx : TQ 0 x) (hf : ∀ a, TQ k (f a)) : TQ k (x.bind f) := by
  have := tq_bind hx hf
  rwa [Int.zero_add] at this
theorem tq_mono {j k : Int} {α : Type} {x : X α} (h : TQ j x) (hk : j ≤ k) : TQ k x := fun m a s h0 e => by
  obtain ⟨h1, h2⟩ := h m a s h0 e
  exact ⟨by omega, h2⟩
theorem tq_ite {k : Int} {α : Type} {c : Prop} [Decidable c] {x y : X α} (h1 : TQ k x) (h2 : TQ k y) : TQ k (if c then x else y) := by
  split
  · exact h1
  · exact h2
theorem tq_bool {r : X Val} (h : TQ 0 r) : TQ 0 (boolX r) := tq_bind0 h fun _ => tq_ite (tq_ok (Int.le_refl _)) tq_er
theorem tq_list {r : Exp → X Val} (h : ∀ e, TQ 0 (r e)) : ∀ l, TQ 0 (listX r l)
  | [] => tq_ok (Int.le_refl _)
  | e :: l => tq_bind0 (h e) fun _ => tq_bind0 (tq_list h l) fun _ => tq_ok (Int.le_refl _)
theorem enterX_eq (p : List Mod) (r : Ev) (a : Int) (f : Fun) (l : List Val) (m : Ms) : enterX p r a f l m = if m.frames < 60 then ((r a (f.params.map (·.1)) l f.body).bind fun v => .upd (fun m => { m with frames := m.frames - 1 }) (.ok v)) (entM p a f l m) else .er 6 m := by
  unfold enterX X.get
  by_cases h : m.frames < 60
  · simp only [h, if_true]; rfl
  · simp only [h, if_false]; rfl
theorem tq_enter {p : List Mod} {r : Ev} {a : Int} {f : Fun} {l : List Val} (hr : ∀ o ns vs e, TQ 0 (r o ns vs e)) : TQ 1 (enterX p r a f l) := by
  intro m v s h0 h
  rw [enterX_eq] at h
  split at h
  · unfold X.bind at h
    cases hr' : r a (f.params.map (·.1)) l f.body (entM p a f l m) with
    | er e t => rw [hr'] at h; cases h
    | ok b t =>
      rw [hr'] at h
      cases h
      obtain ⟨h1, h2, h3, h4⟩ := hr _ _ _ _ (entM p a f l m) v t h0 hr'
      have hm : mu (entM p a f l m) ≤ mu m + 1 := by
        simp only [mu, entM]
        split
        · simp; omega
        · omega
      have h4' : t.frames = m.frames + 1 := h4
      have h2' : t.fuel ≤ m.fuel := h2
      simp only [mu] at h1 hm ⊢
      exact ⟨by omega, h2', h3, by omega⟩
  · cases h
theorem tq_step {p : List Mod} {r : Ev} (hr : ∀ o ns vs e, TQ 0 (r o ns vs e)) (o : Int) (ns : List Str) (vs : List Val) (e : Exp) : TQ 0 (stepX p r o ns vs e) := by
  have tick : ∀ y : X Val, TQ 1 y → TQ 0 (tickX y) := fun y hy m a s h0 h => by
    unfold tickX X.get at h
    by_cases hf : m.fuel ≤ 0
    · simp only [hf, if_true] at h; cases h
    · simp only [hf, if_false] at h
      obtain ⟨h1, h2, h3, h4⟩ := hy { m with fuel := m.fuel - 1 } a s (by simp only; omega) h
      simp only [mu] at h1 h2 ⊢
      exact ⟨by omega, by omega, h3, h4⟩
  have H := fun e => hr o ns vs e
  have ok1 : ∀ (α : Type) (a : α), TQ 1 (.ok a) := fun _ _ => tq_ok (by omega)
  have er1 : ∀ (α : Type) e, TQ 1 (α := α) (.er e) := fun _ _ => tq_er
  have H1 := fun e => tq_mono (H e) (show (0 : Int) ≤ 1 by omega)
  refine tick _ ?_
  refine tq_ite (er1 _ _) (tq_ite (ok1 _ _) (tq_ite (tq_ite (ok1 _ _) (er1 _ _)) (tq_ite ?_ (tq_ite ?_ (tq_ite ?_ (tq_ite ?_ (tq_ite ?_ (tq_ite ?_ (tq_ite ?_ (tq_ite ?_ (tq_ite ?_ (tq_ite ?_ ?_))))))))))))
  · split
    · exact ok1 _ _
    · exact er1 _ _
  · refine tq_bind0 (H _) fun a => tq_bind0 (H _) fun b => ?_
    unfold binX
    exact tq_ite (tq_ite (ok1 _ _) (er1 _ _)) (tq_ite (tq_ite (ok1 _ _) (tq_ite (ok1 _ _) (tq_ite (ok1 _ _) (ok1 _ _)))) (er1 _ _))
  · exact tq_bind0 (tq_bool (H _)) fun a => tq_ite (ok1 _ _) (tq_bind0 (tq_bool (H _)) fun b => ok1 _ _)
  · exact tq_bind0 (tq_bool (H _)) fun a => ok1 _ _
  · exact tq_bind0 (tq_bool (H _)) fun a => tq_ite (H1 _) (H1 _)
  · exact tq_bind0 (H _) fun v => tq_mono (hr _ _ _ _) (by omega)
  · unfold recordX
    exact tq_ite (tq_ite (tq_bind0 (tq_list H _) fun vs => tq_ite (ok1 _ _) (er1 _ _)) (er1 _ _)) (er1 _ _)
  · refine tq_bind0 (H _) fun v => ?_
    split
    · exact tq_ite (ok1 _ _) (er1 _ _)
    · exact er1 _ _
  · unfold callX
    simp only
    split
    · exact er1 _ _
    · exact tq_ite (tq_ite (tq_bind0 (tq_list H _) fun l => tq_enter hr) (er1 _ _)) (er1 _ _)
  · unfold actX
    refine tq_bind0 (H _) fun v => tq_ite (tq_ite (fun m a s h0 h => ?_) (er1 _ _)) (er1 _ _)
    cases h
    simp only [mu]
    exact ⟨by simp; omega, Int.le_refl _, h0, trivial⟩
  · unfold varX
    refine tq_ite (er1 _ _) ?_
    simp only
    refine tq_ite (er1 _ _) (tq_ite (tq_bind0 (H _) fun v m a s h0 h => ?_) fun m a s h0 h => ?_)
    · cases h
      exact ⟨by simp only [mu]; omega, Int.le_refl _, h0, rfl⟩
    · cases h
      exact ⟨by omega, Int.le_refl _, h0, rfl⟩
theorem tq_eval {p : List Mod} : ∀ (n : Nat) (o : Int) (ns : List Str) (vs : List Val) (e : Exp), TQ 0 (evalX p n o ns vs e)
  | 0, _, _, _, _ => tq_er
  | n + 1, o, ns, vs, e => tq_step (fun o ns vs e => tq_eval n o ns vs e) o ns vs e
structure GoodM (p : List Mod) (m : Ms) : Prop where
  right : RightM m
  bud : mu m ≤ 1000000
  fr : 0 ≤ m.frames ∧ m.frames ≤ 60
  fuel : 0 ≤ m.fuel
  shape : ∀ (i : Nat) (x : Mod), p[i]? = some x → ∃ l, m.state[i]? = some l ∧ l.length = x.vars.length
theorem GoodM.eval {p : List Mod} {n : Nat} {o : Int} {ns : List Str} {vs : List Val} {e : Exp} {m s : Ms} {v : Val} (G : GoodM p m) (hs : RightS ns vs) (h : evalX p n o ns vs e m = .ok v s) : GoodM p s ∧ Rv v ∧ s.fuel ≤ m.fuel := by
  obtain ⟨h1, h2, h3, h4⟩ := tq_eval n o ns vs e m v s G.fuel h
  obtain ⟨g1, g2, g3⟩ := right_eval (p := p) n o ns vs e hs m G.right
  rw [h] at g1 g2
  refine ⟨⟨g1, by have := G.bud; omega, by rw [h4]; exact G.fr, h3, fun i x hx => ?_⟩, g3 v s h, h2⟩
  obtain ⟨l, k1, k2⟩ := G.shape i x hx
  have : (shapeM s)[i]? = (shapeM m)[i]? := by rw [show shapeM s = shapeM m from g2]
  simp only [shapeM, List.getElem?_map, k1, Option.map_some] at this
  cases hi : s.state[i]? with
  | none => rw [hi] at this; cases this
  | some l' =>
    rw [hi] at this
    simp only [Option.map_some, Option.some.injEq] at this
    exact ⟨l', rfl, by omega⟩
theorem GoodM.bool {p : List Mod} {n : Nat} {o : Int} {ns : List Str} {vs : List Val} {e : Exp} {m s : Ms} {b : Bool} (G : GoodM p m) (hs : RightS ns vs) (h : boolX (evalX p n o ns vs e) m = .ok b s) : GoodM p s ∧ s.fuel ≤ m.fuel := by
  unfold boolX X.bind at h
  cases hr : evalX p n o ns vs e m with
  | er c t => rw [hr] at h; cases h
  | ok v t =>
    rw [hr] at h
    simp only at h
    split at h
    · cases h
      exact ⟨(G.eval hs hr).1, (G.eval hs hr).2.2⟩
    · cases h
theorem right_len8 {v : Val} (h : Rv v) : v.names.length ≤ 8 := by
  unfold Rv fitsP at h
  split at h
  · simp only [Bool.and_eq_true, beq_iff_eq] at h
    omega
  · simp only [Bool.and_eq_true, decide_eq_true_eq] at h
    exact h.1.1.2
theorem fits_sz : ∀ (d : Nat) (v : Val), fitsP d v = true → v.sz ≤ 17 * 9 ^ d
  | 0, v, h => by simp [fitsP] at h
  | d + 1, v, h => by
    have hp : 1 ≤ 9 ^ d := Nat.one_le_pow _ _ (by decide)
    obtain ⟨k, n, ns, vs⟩ := v
    unfold fitsP at h
    simp only [Val.sz]
    split at h
    · simp only [Bool.and_eq_true, beq_iff_eq, Val.names_mk, Val.values_mk] at h
      have h1 := h.1.1
      have h2 : vs = [] := List.eq_nil_of_length_eq_zero h.1.2
      subst h2
      simp only [valsSz]
      rw [Nat.pow_succ]
      omega
    · simp only [Bool.and_eq_true, beq_iff_eq, List.all_eq_true, Val.names_mk, Val.values_mk] at h
      have h8 := of_decide_eq_true h.1.1.2
      have hl := h.1.1.1.2
      have hv := h.2
      have key : ∀ l : List Val, (∀ v ∈ l, fitsP d v = true) → valsSz l ≤ l.length * (17 * 9 ^ d) := by
        intro l
        induction l with
        | nil => intro _; simp [valsSz]
        | cons v l ih =>
          intro h
          have h1 := fits_sz d v (h v List.mem_cons_self)
          have h2 := ih fun w hw => h w (List.mem_cons_of_mem _ hw)
          simp only [valsSz, List.length_cons]
          rw [Nat.add_mul]
          omega
      have h3 := key vs hv
      have h4 : vs.length * (17 * 9 ^ d) ≤ 8 * (17 * 9 ^ d) := Nat.mul_le_mul_right _ (by omega)
      rw [Nat.pow_succ]
      omega
theorem right_sz {v : Val} (h : Rv v) : v.sz ≤ 200000 := Nat.le_trans (fits_sz 4 v h) (by decide)
end Go.Av.Ap

/- Runs of programs, in plain terms, and their laws. No condition. -/
namespace Go.Av.Ap
def twice (p : List Mod) : Bool := (List.range p.length).any fun i => (p.take i).any fun m => m.name == (p[i]?.getD default).name
def namesX (p : List Mod) : Int := if 20 < p.length then 6 else if twice p = true then 5 else 0
def startM (world : List Int) (fuel : Int) (st : List (List Val)) : Ms := ⟨fuel, 0, world, [], [], st⟩
def expX (e : Exp) (ns : List Str) (vs : List Val) : Rs Val :=
  if ns.length = vs.length ∧ vs.all (fitsP 4) = true then evalX [] 100000 (-1) ns vs e (startM [] 100000 []) else .er 1 (startM [] 100000 [])
def initL : List Exp → Except Int (List Val)
  | [] => .ok []
  | e :: es => match expX e [] [] with
    | .er c _ => .error c
    | .ok v _ => match initL es with
      | .error c => .error c
      | .ok vs => .ok (v :: vs)
def freshL : List Mod → Except Int (List Vars)
  | [] => .ok []
  | m :: ms => if m.init.length = m.vars.length then (match initL m.init with
      | .error c => .error c
      | .ok vs => match freshL ms with
        | .error c => .error c
        | .ok r => .ok (⟨m.name, vs⟩ :: r))
    else .error 13
def freshX (p : List Mod) : Except Int (List Vars) := if namesX p = 0 then freshL p else .error (namesX p)
def belongs (p : List Mod) (st : List Vars) : Bool := all2 (fun (m : Mod) (v : Vars) => v.module == m.name && (v.values.length == m.vars.length && v.values.all (fitsP 4))) p st
def errO (e : Int) : Out := ⟨e, default, [], [], []⟩
def outOf (ns : List Str) : Rs Val → Out
  | .ok v m => ⟨0, v, m.deeds, m.calls, List.zipWith Vars.mk ns m.state⟩
  | .er e m => ⟨e, default, m.deeds, m.calls, List.zipWith Vars.mk ns m.state⟩
def fromX (p : List Mod) (st : List Vars) (module fn : Str) (args : List Val) (world : List Int) (fuel : Int) : Out :=
  if namesX p ≠ 0 then errO (namesX p)
  else if fuel < 0 ∨ 100000 < fuel ∨ belongs p st = false then errO 1
  else match funcX p (modAt p module) fn with
    | none => errO 4
    | some f => if args.length = f.params.length ∧ args.all (fitsP 4) = true then
        outOf (st.map (·.module)) (enterX p (evalX p 100000) (modAt p module) f args (startM world fuel (st.map (·.values))))
      else errO 13
def runX (p : List Mod) (module fn : Str) (args : List Val) (world : List Int) (fuel : Int) : Out :=
  match freshX p with
  | .error e => errO e
  | .ok st => fromX p st module fn args world fuel
theorem all2_true {α β : Type} {F : α → β → Bool} : {a : List α} → {b : List β} → all2 F a b = true → a.length = b.length ∧ ∀ (i : Nat) (x : α) (y : β), a[i]? = some x → b[i]? = some y → F x y = true
  | [], [], _ => ⟨rfl, fun i x y h => by simp at h⟩
  | [], _ :: _, h => by simp [all2] at h
  | _ :: _, [], h => by simp [all2] at h
  | x :: a, y :: b, h => by
    simp only [all2, Bool.and_eq_true] at h
    obtain ⟨h1, h2⟩ := all2_true h.2
    refine ⟨by simp [h1], fun i u v hu hv => ?_⟩
    cases i with
    | zero => simp at hu hv; subst hu hv; exact h.1
    | succ i => exact h2 i u v (by simpa using hu) (by simpa using hv)
inductive Runs (p : List Mod) (st : List Vars) (args : List Val) (world : List Int) (fuel : Int) (o : Out) : Prop where
  | bad (e : Int) (h : o = errO e) (hall : e ≠ 16)
  | go (a : Int) (f : Fun) (hf : f ∈ (p[a.toNat]?.getD default).funcs) (ha : ¬ a < 0) (hl : a.toNat < p.length) (hargs : args.length = f.params.length) (hv : ∀ v ∈ args, Rv v) (hb : belongs p st = true) (hfu : 0 ≤ fuel ∧ fuel ≤ 100000)
    (h : o = outOf (st.map (·.module)) (enterX p (evalX p 100000) a f args (startM world fuel (st.map (·.values)))))
theorem namesX_ne (p : List Mod) : namesX p ≠ 16 := by
  unfold namesX
  split
  · decide
  · split <;> decide
theorem from_cases (p : List Mod) (st : List Vars) (module fn : Str) (args : List Val) :
    (∃ e, (e ≠ 16 ∧ e ≠ 0) ∧ ∀ (world : List Int) (fuel : Int), 0 ≤ fuel → fuel ≤ 100000 → fromX p st module fn args world fuel = errO e) ∨
    (∃ (a : Int) (f : Fun), f ∈ (p[a.toNat]?.getD default).funcs ∧ ¬ a < 0 ∧ a.toNat < p.length ∧ args.length = f.params.length ∧ (∀ v ∈ args, Rv v) ∧ belongs p st = true ∧
      ∀ (world : List Int) (fuel : Int), 0 ≤ fuel → fuel ≤ 100000 → fromX p st module fn args world fuel = outOf (st.map (·.module)) (enterX p (evalX p 100000) a f args (startM world fuel (st.map (·.values))))) := by
  by_cases hn : namesX p = 0
  · by_cases hb : belongs p st = true
    · cases hf : funcX p (modAt p module) fn with
      | none =>
        left
        refine ⟨4, ⟨by decide, by decide⟩, fun w fu g0 g1 => ?_⟩
        unfold fromX
        rw [if_neg (by simp [hn]), if_neg (by simp [hb]; omega), hf]
      | some f =>
        obtain ⟨f1, f2, f3⟩ := funcX_some hf
        by_cases ha : args.length = f.params.length ∧ args.all (fitsP 4) = true
        · right
          refine ⟨modAt p module, f, f3, f1, f2, ha.1, fun v hv => (List.all_eq_true.1 ha.2) v hv, hb, fun w fu g0 g1 => ?_⟩
          unfold fromX
          rw [if_neg (by simp [hn]), if_neg (by simp [hb]; omega), hf]
          simp only
          rw [if_pos ha]
        · left
          refine ⟨13, ⟨by decide, by decide⟩, fun w fu g0 g1 => ?_⟩
          unfold fromX
          rw [if_neg (by simp [hn]), if_neg (by simp [hb]; omega), hf]
          simp only
          rw [if_neg ha]
    · left
      refine ⟨1, ⟨by decide, by decide⟩, fun w fu g0 g1 => ?_⟩
      unfold fromX
      rw [if_neg (by simp [hn]), if_pos (by simp [hb])]
  · left
    refine ⟨namesX p, ⟨namesX_ne p, hn⟩, fun w fu _ _ => ?_⟩
    unfold fromX
    rw [if_pos hn]
theorem enter_world {p : List Mod} {a : Int} {f : Fun} {l : List Val} {n : Nat} : ¬ a < 0 → a.toNat < p.length → f ∈ (p[a.toNat]?.getD default).funcs → WorldQ Val (enterX p (evalX p n) a f l) := fun h1 h2 h3 =>
  (world_closed p).enter 0 a _ f l h1 h2 h3 fun o ns vs e => (world_closed p).eval n o ns vs e
theorem enter_fuel {p : List Mod} {a : Int} {f : Fun} {l : List Val} {n : Nat} : ¬ a < 0 → a.toNat < p.length → f ∈ (p[a.toNat]?.getD default).funcs → FuelQ Val (enterX p (evalX p n) a f l) := fun h1 h2 h3 =>
  (fuel_closed p).enter 0 a _ f l h1 h2 h3 fun o ns vs e => (fuel_closed p).eval n o ns vs e
theorem enter_own {p : List Mod} (hp : ∀ m ∈ p, ∀ f ∈ m.funcs, f.pub = true) {a : Int} {f : Fun} {l : List Val} {n : Nat} : ¬ a < 0 → a.toNat < p.length → f ∈ (p[a.toNat]?.getD default).funcs → OwnQ p (-1) Val (enterX p (evalX p n) a f l) := fun h1 h2 h3 =>
  (own_closed hp).enter (-1) a _ f l h1 h2 h3 fun o ns vs e => (own_closed hp).eval n o ns vs e
theorem enter_right {p : List Mod} {a : Int} {f : Fun} {l : List Val} {n : Nat} (hl : l.length = f.params.length) (hv : ∀ v ∈ l, Rv v) : RQ (enterX p (evalX p n) a f l) Rv := rq_enter (fun o ns vs e h => right_eval n o ns vs e h) hl hv
theorem outOf_on (ns : List Str) (r : Rs Val) (w : List Int) : outOf ns (r.on fun s => { s with world := w }) = outOf ns r := by cases r <;> rfl
theorem outOf_more (ns : List Str) (r : Rs Val) (d : Int) : outOf ns (r.on (moreF d)) = outOf ns r := by cases r <;> rfl
theorem outOf_deeds (ns : List Str) (r : Rs Val) : (outOf ns r).deeds = r.st.deeds := by cases r <;> rfl
theorem outOf_calls (ns : List Str) (r : Rs Val) : (outOf ns r).calls = r.st.calls := by cases r <;> rfl
theorem outOf_state (ns : List Str) (r : Rs Val) : (outOf ns r).state = List.zipWith Vars.mk ns r.st.state := by cases r <;> rfl
theorem from_worlds0 (p : List Mod) (st : List Vars) (module fn : Str) (args : List Val) (world : List Int) (fuel : Int) (h0 : 0 ≤ fuel) (h1 : fuel ≤ 100000) :
    (∀ i, i < (fromX p st module fn args world fuel).deeds.length → ((fromX p st module fn args world fuel).deeds[i]?.getD default).answer = world.getD i 0) ∧
    ∀ w2 : List Int, (∀ i, i < (fromX p st module fn args world fuel).deeds.length → w2.getD i 0 = world.getD i 0) → fromX p st module fn args w2 fuel = fromX p st module fn args world fuel := by
  rcases from_cases p st module fn args with ⟨e, _, h⟩ | ⟨a, f, hf, ha, hl, hargs, hv, hb, h⟩
  · rw [h world fuel h0 h1]
    exact ⟨fun i hi => by simp [errO] at hi, fun w2 _ => h w2 fuel h0 h1⟩
  · rw [h world fuel h0 h1, outOf_deeds]
    obtain ⟨ds, d1, d2, d3, d4⟩ := enter_world (n := 100000) (l := args) ha hl hf (startM world fuel (st.map (·.values)))
    have d1' : (enterX p (evalX p 100000) a f args (startM world fuel (st.map (·.values)))).st.deeds = ds := d1
    rw [d1']
    refine ⟨d3, fun w2 hw => ?_⟩
    rw [h w2 fuel h0 h1]
    have : startM w2 fuel (st.map (·.values)) = { startM world fuel (st.map (·.values)) with world := w2 } := rfl
    rw [this, d4 w2 hw, outOf_on]
theorem from_off (p : List Mod) (st : List Vars) (module fn : Str) (args : List Val) (fuel : Int) (h : ¬ (0 ≤ fuel ∧ fuel ≤ 100000)) : ∃ e, e ≠ 0 ∧ ∀ world, fromX p st module fn args world fuel = errO e := by
  by_cases hn : namesX p = 0
  · refine ⟨1, by decide, fun w => ?_⟩
    unfold fromX
    rw [if_neg (by simp [hn]), if_pos (by omega)]
  · refine ⟨_, hn, fun w => ?_⟩
    unfold fromX
    rw [if_pos hn]
theorem from_worlds (p : List Mod) (st : List Vars) (module fn : Str) (args : List Val) (world : List Int) (fuel : Int) :
    (∀ i, i < (fromX p st module fn args world fuel).deeds.length → ((fromX p st module fn args world fuel).deeds[i]?.getD default).answer = world.getD i 0) ∧
    ∀ w2 : List Int, (∀ i, i < (fromX p st module fn args world fuel).deeds.length → w2.getD i 0 = world.getD i 0) → fromX p st module fn args w2 fuel = fromX p st module fn args world fuel := by
  by_cases h0 : 0 ≤ fuel ∧ fuel ≤ 100000
  · exact from_worlds0 p st module fn args world fuel h0.1 h0.2
  · obtain ⟨e, _, h⟩ := from_off p st module fn args fuel h0
    rw [h world]
    exact ⟨fun i hi => by simp [errO] at hi, fun w2 _ => h w2⟩
theorem from_fuel (p : List Mod) (st : List Vars) (module fn : Str) (args : List Val) (world : List Int) (fuel d : Int) (h0 : 0 ≤ fuel) (hd : 0 ≤ d) (h1 : fuel + d ≤ 100000) :
    if (fromX p st module fn args world fuel).err = 16 then (fromX p st module fn args world fuel).deeds <+: (fromX p st module fn args world (fuel + d)).deeds ∧ (fromX p st module fn args world fuel).calls <+: (fromX p st module fn args world (fuel + d)).calls
    else fromX p st module fn args world (fuel + d) = fromX p st module fn args world fuel := by
  rcases from_cases p st module fn args with ⟨e, he, h⟩ | ⟨a, f, hf, ha, hl, hargs, hv, hb, h⟩
  · rw [h world fuel h0 (by omega), h world (fuel + d) (by omega) h1]
    have : (errO e).err = e := rfl
    rw [this, if_neg he.1]
  · rw [h world fuel h0 (by omega), h world (fuel + d) (by omega) h1]
    have q := (enter_fuel (n := 100000) (l := args) ha hl hf).2 (startM world fuel (st.map (·.values))) d hd
    have e1 : startM world (fuel + d) (st.map (·.values)) = moreF d (startM world fuel (st.map (·.values))) := rfl
    rw [e1]
    cases hr : enterX p (evalX p 100000) a f args (startM world fuel (st.map (·.values))) with
    | ok v s =>
      rw [hr] at q
      simp only at q
      rw [q]
      rfl
    | er e s =>
      rw [hr] at q
      simp only at q
      have e2 : (outOf (st.map (·.module)) (.er e s)).err = e := rfl
      rw [e2]
      by_cases he : e = 16
      · rw [if_pos he] at q ⊢
        rw [outOf_deeds, outOf_calls, outOf_deeds, outOf_calls]
        exact q
      · rw [if_neg he] at q ⊢
        rw [q]
        rfl
def RightO (o : Out) : Prop := Rv o.value ∧ (∀ c ∈ o.calls, ∀ v ∈ c.args, Rv v) ∧ ∀ x ∈ o.state, ∀ v ∈ x.values, Rv v
theorem right_errO (e : Int) : RightO (errO e) := ⟨right_num 0, fun c hc => by simp [errO] at hc, fun c hc => by simp [errO] at hc⟩
theorem belongs_right {p : List Mod} {st : List Vars} (h : belongs p st = true) : st.length = p.length ∧ (∀ x ∈ st, ∀ v ∈ x.values, Rv v) ∧ ∀ (i : Nat) (m : Mod) (x : Vars), p[i]? = some m → st[i]? = some x → x.module = m.name ∧ x.values.length = m.vars.length := by
  obtain ⟨h1, h2⟩ := all2_true h
  refine ⟨h1.symm, fun x hx v hv => ?_, fun i m x hm hx => ?_⟩
  · obtain ⟨i, hi⟩ := List.mem_iff_getElem?.1 hx
    have hlt : i < st.length := (List.getElem?_eq_some_iff.1 hi).1
    have := h2 i (p[i]'(by omega)) x (List.getElem?_eq_getElem _) hi
    simp only [Bool.and_eq_true, List.all_eq_true] at this
    exact this.2.2 v hv
  · have := h2 i m x hm hx
    simp only [Bool.and_eq_true, beq_iff_eq] at this
    exact ⟨this.1, this.2.1⟩
theorem zip_state_mem {ns : List Str} {st : List (List Val)} {x : Vars} (h : x ∈ List.zipWith Vars.mk ns st) : x.values ∈ st := by
  obtain ⟨i, hi⟩ := List.mem_iff_getElem?.1 h
  rw [List.getElem?_zipWith] at hi
  cases h1 : ns[i]? with
  | none => rw [h1] at hi; cases hi
  | some a => cases h2 : st[i]? with
    | none => rw [h1, h2] at hi; cases hi
    | some b =>
      rw [h1, h2] at hi
      cases hi
      exact List.mem_of_getElem? h2
theorem from_right (p : List Mod) (st : List Vars) (module fn : Str) (args : List Val) (world : List Int) (fuel : Int) : RightO (fromX p st module fn args world fuel) := by
  by_cases h0 : 0 ≤ fuel ∧ fuel ≤ 100000
  · rcases from_cases p st module fn args with ⟨e, he, h⟩ | ⟨a, f, hf, ha, hl, hargs, hv, hb, h⟩
    · rw [h world fuel h0.1 h0.2]; exact right_errO e
    · rw [h world fuel h0.1 h0.2]
      obtain ⟨_, b2, _⟩ := belongs_right hb
      obtain ⟨q1, _, q3⟩ := enter_right (p := p) (a := a) (n := 100000) hargs hv (startM world fuel (st.map (·.values))) ⟨fun l hl v hv => by
        simp only [startM, List.mem_map] at hl
        obtain ⟨x, hx, rfl⟩ := hl
        exact b2 x hx v hv, fun c hc => by simp [startM] at hc⟩
      refine ⟨?_, by rw [outOf_calls]; exact q1.2, fun x hx v hv => ?_⟩
      · cases hr : enterX p (evalX p 100000) a f args (startM world fuel (st.map (·.values))) with
        | ok v s => exact q3 v s hr
        | er e s => exact right_num 0
      · rw [outOf_state] at hx
        exact q1.1 _ (zip_state_mem hx) v hv
  · unfold fromX
    split
    · exact right_errO _
    · rw [if_pos (by omega)]
      exact right_errO _
theorem run_right (p : List Mod) (module fn : Str) (args : List Val) (world : List Int) (fuel : Int) : RightO (runX p module fn args world fuel) := by
  unfold runX
  split
  · exact right_errO _
  · exact from_right _ _ _ _ _ _ _
theorem run_worlds (p : List Mod) (module fn : Str) (args : List Val) (world : List Int) (fuel : Int) :
    (∀ i, i < (runX p module fn args world fuel).deeds.length → ((runX p module fn args world fuel).deeds[i]?.getD default).answer = world.getD i 0) ∧
    ∀ w2 : List Int, (∀ i, i < (runX p module fn args world fuel).deeds.length → w2.getD i 0 = world.getD i 0) → runX p module fn args w2 fuel = runX p module fn args world fuel := by
  unfold runX
  split
  · exact ⟨fun i hi => by simp [errO] at hi, fun w2 _ => rfl⟩
  · exact from_worlds _ _ _ _ _ _ _
theorem run_fuel (p : List Mod) (module fn : Str) (args : List Val) (world : List Int) (fuel d : Int) (h0 : 0 ≤ fuel) (hd : 0 ≤ d) (h1 : fuel + d ≤ 100000) :
    if (runX p module fn args world fuel).err = 16 then (runX p module fn args world fuel).deeds <+: (runX p module fn args world (fuel + d)).deeds ∧ (runX p module fn args world fuel).calls <+: (runX p module fn args world (fuel + d)).calls
    else runX p module fn args world (fuel + d) = runX p module fn args world fuel := by
  unfold runX
  split
  · split
    · exact ⟨List.prefix_refl _, List.prefix_refl _⟩
    · rfl
  · exact from_fuel _ _ _ _ _ _ _ _ h0 hd h1
theorem right_default : Rv default := right_num 0
theorem initL_right : (l : List Exp) → (vs : List Val) → initL l = .ok vs → vs.length = l.length ∧ ∀ v ∈ vs, Rv v
  | [], vs, h => by cases h; exact ⟨rfl, fun v hv => by cases hv⟩
  | e :: es, vs, h => by
    unfold initL at h
    split at h
    · cases h
    · rename_i v s hv
      split at h
      · cases h
      · rename_i ws hws
        cases h
        obtain ⟨h1, h2⟩ := initL_right es ws hws
        refine ⟨by simp [h1], fun w hw => ?_⟩
        rcases List.mem_cons.1 hw with rfl | hw
        · unfold expX at hv
          rw [if_pos (by simp)] at hv
          exact (right_eval 100000 (-1) [] [] e ⟨rfl, fun v hv => by cases hv⟩ (startM [] 100000 []) ⟨fun l hl => by simp [startM] at hl, fun l hl => by simp [startM] at hl⟩).2.2 _ _ hv
        · exact h2 w hw
theorem freshL_belongs : (p : List Mod) → (st : List Vars) → freshL p = .ok st → belongs p st = true
  | [], st, h => by cases h; rfl
  | m :: ms, st, h => by
    unfold freshL at h
    split at h
    · rename_i hl
      split at h
      · cases h
      · rename_i vs hvs
        split at h
        · cases h
        · rename_i r hr
          cases h
          obtain ⟨h1, h2⟩ := initL_right _ _ hvs
          have := freshL_belongs ms r hr
          unfold belongs at this ⊢
          simp only [all2, this, Bool.and_true, Bool.and_eq_true, beq_iff_eq, List.all_eq_true]
          exact ⟨trivial, by omega, h2⟩
    · cases h
theorem freshX_belongs {p : List Mod} {st : List Vars} (h : freshX p = .ok st) : belongs p st = true := by
  unfold freshX at h
  split at h
  · exact freshL_belongs p st h
  · cases h
theorem from_own {p : List Mod} (hp : ∀ m ∈ p, ∀ f ∈ m.funcs, f.pub = true) {st : List Vars} (hb : belongs p st = true) (module fn : Str) (args : List Val) (world : List Int) (fuel : Int) (o : Out) (ho : o = fromX p st module fn args world fuel) :
    (o.state = [] ∧ (o.err ≠ 0 ∨ p = [])) ∨ (o.state.length = p.length ∧ ∀ i, (∀ c ∈ o.calls, c.module ≠ nameAt p i) → o.state[i]? = st[i]?) := by
  subst ho
  by_cases h0 : 0 ≤ fuel ∧ fuel ≤ 100000
  · rcases from_cases p st module fn args with ⟨e, he, h⟩ | ⟨a, f, hf, ha, hl, hargs, hv, _, h⟩
    · rw [h world fuel h0.1 h0.2]; exact .inl ⟨rfl, .inl he.2⟩
    · right
      obtain ⟨b1, b2, b3⟩ := belongs_right hb
      rw [h world fuel h0.1 h0.2, outOf_state, outOf_calls]
      obtain ⟨cs, c1, c2, c3⟩ := enter_own hp (n := 100000) (l := args) ha hl hf (startM world fuel (st.map (·.values)))
      have c2' : (enterX p (evalX p 100000) a f args (startM world fuel (st.map (·.values)))).st.state.length = st.length := by rw [c2]; simp [startM]
      refine ⟨by simp [c2', b1], fun i hi => ?_⟩
      have c1' : (enterX p (evalX p 100000) a f args (startM world fuel (st.map (·.values)))).st.calls = cs := by rw [c1]; rfl
      rw [c1'] at hi
      have := c3 i (by omega) hi
      rw [List.getElem?_zipWith, this]
      simp only [startM, List.getElem?_map]
      cases st[i]? <;> rfl
  · obtain ⟨e, he, h⟩ := from_off p st module fn args fuel h0
    rw [h]
    exact .inl ⟨rfl, .inl he⟩
theorem initL_err : (l : List Exp) → (c : Int) → initL l = .error c → c ≠ 0
  | [], c, h => by cases h
  | e :: es, c, h => by
    unfold initL at h
    split at h
    · rename_i c' s hc
      cases h
      unfold expX at hc
      split at hc
      · exact eval_err hc
      · cases hc; decide
    · split at h
      · rename_i c' hc
        cases h
        exact initL_err es _ hc
      · cases h
theorem freshL_err : (p : List Mod) → (c : Int) → freshL p = .error c → c ≠ 0
  | [], c, h => by cases h
  | m :: ms, c, h => by
    unfold freshL at h
    split at h
    · split at h
      · rename_i c' hc
        cases h
        exact initL_err _ _ hc
      · split at h
        · rename_i c' hc
          cases h
          exact freshL_err ms _ hc
        · cases h
    · cases h; decide
theorem freshX_err {p : List Mod} {c : Int} (h : freshX p = .error c) : c ≠ 0 := by
  unfold freshX at h
  split at h
  · exact freshL_err p c h
  · cases h; assumption
end Go.Av.Ap

/- Laws of evaluation: how much is recorded where it ends with an error. No condition. -/
namespace Go.Av.Ap
def TE (k : Int) {α : Type} (x : X α) : Prop := ∀ m e s, 0 ≤ m.fuel → x m = .er e s → mu s ≤ mu m + k ∧ 0 ≤ s.fuel
theorem te_ok {k : Int} {α : Type} {a : α} : TE k (.ok a) := fun m e s _ h => by cases h
theorem te_er {k : Int} {α : Type} {e : Int} (hk : 0 ≤ k) : TE k (α := α) (.er e) := fun m b s h0 h => by cases h; exact ⟨by omega, h0⟩
theorem te_mono {j k : Int} {α : Type} {x : X α} (h : TE j x) (hk : j ≤ k) : TE k x := fun m a s h0 e => by
  have := h m a s h0 e
  exact ⟨by omega, this.2⟩
theorem te_bind {k : Int} {α β : Type} {x : X α} {f : α → X β} (hx : TE k x) (tx : TQ 0 x) (hf : ∀ a, TE k (f a)) : TE k (x.bind f) := by
  intro m b s h0 h
  unfold X.bind at h
  cases hr : x m with
  | er e t => rw [hr] at h; cases h; exact hx m _ _ h0 hr
  | ok a t =>
    rw [hr] at h
    obtain ⟨h1, h2, h3, h4⟩ := tx m a t h0 hr
    have := hf a t b s h3 h
    exact ⟨by omega, this.2⟩
theorem te_ite {k : Int} {α : Type} {c : Prop} [Decidable c] {x y : X α} (h1 : TE k x) (h2 : TE k y) : TE k (if c then x else y) := by
  split
  · exact h1
  · exact h2
theorem te_bool {k : Int} (hk : 0 ≤ k) {r : X Val} (h : TE k r) (t : TQ 0 r) : TE k (boolX r) := te_bind h t fun _ => te_ite te_ok (te_er hk)
theorem te_list {k : Int} {r : Exp → X Val} (h : ∀ e, TE k (r e)) (t : ∀ e, TQ 0 (r e)) : ∀ l, TE k (listX r l)
  | [] => te_ok
  | e :: l => te_bind (h e) (t e) fun _ => te_bind (te_list h t l) (tq_list t l) fun _ => te_ok
theorem te_enter {p : List Mod} {r : Ev} {a : Int} {f : Fun} {l : List Val} (hr : ∀ o ns vs e, TE 0 (r o ns vs e)) : TE 1 (enterX p r a f l) := by
  intro m v s h0 h
  rw [enterX_eq] at h
  have hm : mu (entM p a f l m) ≤ mu m + 1 := by
    simp only [mu, entM]
    split
    · simp; omega
    · omega
  split at h
  · unfold X.bind at h
    cases hr' : r a (f.params.map (·.1)) l f.body (entM p a f l m) with
    | er e t =>
      rw [hr'] at h
      cases h
      have := hr _ _ _ _ (entM p a f l m) _ _ h0 hr'
      exact ⟨by omega, this.2⟩
    | ok b t =>
      rw [hr'] at h
      cases h
  · cases h
    exact ⟨by omega, h0⟩
theorem te_step {p : List Mod} {r : Ev} (hr : ∀ o ns vs e, TE 0 (r o ns vs e)) (tr : ∀ o ns vs e, TQ 0 (r o ns vs e)) (o : Int) (ns : List Str) (vs : List Val) (e : Exp) : TE 0 (stepX p r o ns vs e) := by
  have tick : ∀ y : X Val, TE 1 y → TE 0 (tickX y) := fun y hy m a s h0 h => by
    unfold tickX X.get at h
    by_cases hf : m.fuel ≤ 0
    · simp only [hf, if_true] at h; cases h; exact ⟨by omega, h0⟩
    · simp only [hf, if_false] at h
      have h1 := hy { m with fuel := m.fuel - 1 } a s (by simp only; omega) h
      simp only [mu] at h1 ⊢
      exact ⟨by omega, h1.2⟩
  have H := fun e => te_mono (hr o ns vs e) (show (0 : Int) ≤ 1 by omega)
  have T := fun e => tr o ns vs e
  have ok1 : ∀ (α : Type) (a : α), TE 1 (.ok a) := fun _ _ => te_ok
  have er1 : ∀ (α : Type) e, TE 1 (α := α) (.er e) := fun _ _ => te_er (by omega)
  have B := fun e => te_bool (by omega) (H e) (T e)
  refine tick _ ?_
  refine te_ite (er1 _ _) (te_ite (ok1 _ _) (te_ite (te_ite (ok1 _ _) (er1 _ _)) (te_ite ?_ (te_ite ?_ (te_ite ?_ (te_ite ?_ (te_ite ?_ (te_ite ?_ (te_ite ?_ (te_ite ?_ (te_ite ?_ (te_ite ?_ ?_))))))))))))
  · split
    · exact ok1 _ _
    · exact er1 _ _
  · refine te_bind (H _) (T _) fun a => te_bind (H _) (T _) fun b => ?_
    unfold binX
    exact te_ite (te_ite (ok1 _ _) (er1 _ _)) (te_ite (te_ite (ok1 _ _) (te_ite (ok1 _ _) (te_ite (ok1 _ _) (ok1 _ _)))) (er1 _ _))
  · exact te_bind (B _) (tq_bool (T _)) fun a => te_ite (ok1 _ _) (te_bind (B _) (tq_bool (T _)) fun b => ok1 _ _)
  · exact te_bind (B _) (tq_bool (T _)) fun a => ok1 _ _
  · exact te_bind (B _) (tq_bool (T _)) fun a => te_ite (H _) (H _)
  · exact te_bind (H _) (T _) fun v => te_mono (hr _ _ _ _) (by omega)
  · unfold recordX
    exact te_ite (te_ite (te_bind (te_list H T _) (tq_list T _) fun vs => te_ite (ok1 _ _) (er1 _ _)) (er1 _ _)) (er1 _ _)
  · refine te_bind (H _) (T _) fun v => ?_
    split
    · exact te_ite (ok1 _ _) (er1 _ _)
    · exact er1 _ _
  · unfold callX
    simp only
    split
    · exact er1 _ _
    · exact te_ite (te_ite (te_bind (te_list H T _) (tq_list T _) fun l => te_enter hr) (er1 _ _)) (er1 _ _)
  · unfold actX
    refine te_bind (H _) (T _) fun v => te_ite (te_ite (fun m a s h0 h => ?_) (er1 _ _)) (er1 _ _)
    cases h
  · unfold varX
    refine te_ite (er1 _ _) ?_
    simp only
    refine te_ite (er1 _ _) (te_ite (te_bind (H _) (T _) fun v m a s h0 h => ?_) fun m a s h0 h => ?_)
    · cases h
    · cases h
theorem te_eval {p : List Mod} : ∀ (n : Nat) (o : Int) (ns : List Str) (vs : List Val) (e : Exp), TE 0 (evalX p n o ns vs e)
  | 0, _, _, _, _ => te_er (by omega)
  | n + 1, o, ns, vs, e => te_step (fun o ns vs e => te_eval n o ns vs e) (fun o ns vs e => tq_eval n o ns vs e) o ns vs e
end Go.Av.Ap

/- Laws of evaluation: recorded calls have as many arguments as their functions parameters. No condition. -/
namespace Go.Av.Ap
def CallsB (B : Nat) (m : Ms) : Prop := ∀ c ∈ m.calls, c.args.length ≤ B
def CQ (B : Nat) {α : Type} (x : X α) (Q : α → Prop) : Prop := ∀ m, CallsB B m → CallsB B (x m).st ∧ ∀ a s, x m = .ok a s → Q a
variable {B : Nat}
theorem cq_ok {α : Type} {a : α} {Q : α → Prop} (h : Q a) : CQ B (.ok a) Q := fun m hm => ⟨hm, fun b s e => by cases e; exact h⟩
theorem cq_er {α : Type} {e : Int} {Q : α → Prop} : CQ B (.er e) Q := fun m hm => ⟨hm, fun b s e => by cases e⟩
theorem cq_bind {α β : Type} {x : X α} {f : α → X β} {Q : α → Prop} {R : β → Prop} (hx : CQ B x Q) (hf : ∀ a, Q a → CQ B (f a) R) : CQ B (x.bind f) R := by
  intro m hm
  obtain ⟨h1, h3⟩ := hx m hm
  cases hr : x m with
  | er e s =>
    rw [hr] at h1
    simp only [X.bind, hr]
    exact ⟨h1, fun b s e => by cases e⟩
  | ok a s =>
    rw [hr] at h1
    obtain ⟨g1, g3⟩ := hf a (h3 a s hr) s h1
    simp only [X.bind, hr]
    exact ⟨g1, g3⟩
theorem cq_ite {α : Type} {c : Prop} [Decidable c] {x y : X α} {Q : α → Prop} (h1 : c → CQ B x Q) (h2 : ¬ c → CQ B y Q) : CQ B (if c then x else y) Q := by
  split
  · exact h1 ‹_›
  · exact h2 ‹_›
abbrev Tr {α : Type} : α → Prop := fun _ => True
theorem cq_bool {r : X Val} (h : CQ B r Tr) : CQ B (boolX r) Tr := cq_bind h fun _ _ => cq_ite (fun _ => cq_ok trivial) (fun _ => cq_er)
theorem cq_list {r : Exp → X Val} (h : ∀ e, CQ B (r e) Tr) : ∀ l, CQ B (listX r l) fun vs => vs.length = l.length
  | [] => cq_ok rfl
  | e :: l => cq_bind (h e) fun v _ => cq_bind (cq_list h l) fun vs hvs => cq_ok (by simp [hvs])
theorem cq_enter {p : List Mod} {r : Ev} {a : Int} {f : Fun} {l : List Val} (hr : ∀ o ns vs e, CQ B (r o ns vs e) Tr) (hl : l.length ≤ B) : CQ B (enterX p r a f l) Tr := by
  intro m hm
  rw [enterX_eq]
  split
  · have hb : CQ B ((r a (f.params.map (·.1)) l f.body).bind fun v => .upd (fun m => { m with frames := m.frames - 1 }) (.ok v)) Tr :=
      cq_bind (hr _ _ _ _) fun _ _ m hm => ⟨hm, fun a s e => trivial⟩
    have hm' : CallsB B (entM p a f l m) := by
      intro c hc
      simp only [entM] at hc
      split at hc
      · rcases List.mem_append.1 hc with h | h
        · exact hm c h
        · simp only [List.mem_singleton] at h
          subst h
          exact hl
      · exact hm c hc
    exact hb _ hm'
  · exact ⟨hm, fun _ _ e => by cases e⟩
theorem cq_step {p : List Mod} (hp : ∀ m ∈ p, ∀ f ∈ m.funcs, f.params.length ≤ B) {r : Ev} (hr : ∀ o ns vs e, CQ B (r o ns vs e) Tr) (o : Int) (ns : List Str) (vs : List Val) (e : Exp) : CQ B (stepX p r o ns vs e) Tr := by
  have tick : ∀ y : X Val, CQ B y Tr → CQ B (tickX y) Tr := fun y hy m hm => by
    unfold tickX X.get
    by_cases h : m.fuel ≤ 0
    · simp only [h, if_true]; exact ⟨hm, fun _ _ e => by cases e⟩
    · simp only [h, if_false]; exact hy { m with fuel := m.fuel - 1 } hm
  have H := fun e => hr o ns vs e
  have ok1 : ∀ (α : Type) (a : α), CQ B (.ok a) Tr := fun _ _ => cq_ok trivial
  refine tick _ ?_
  refine cq_ite (fun _ => cq_er) fun _ => cq_ite (fun _ => ok1 _ _) fun _ => cq_ite (fun _ => cq_ite (fun _ => ok1 _ _) fun _ => cq_er) fun _ => cq_ite (fun _ => ?_) fun _ =>
    cq_ite (fun _ => ?_) fun _ => cq_ite (fun _ => ?_) fun _ => cq_ite (fun _ => ?_) fun _ => cq_ite (fun _ => ?_) fun _ => cq_ite (fun _ => ?_) fun _ => cq_ite (fun _ => ?_) fun _ => cq_ite (fun _ => ?_) fun _ =>
    cq_ite (fun _ => ?_) fun _ => cq_ite (fun _ => ?_) fun _ => ?_
  · split
    · exact ok1 _ _
    · exact cq_er
  · refine cq_bind (H _) fun a ha => cq_bind (H _) fun b hb => ?_
    unfold binX
    exact cq_ite (fun _ => cq_ite (fun _ => ok1 _ _) fun _ => cq_er) fun _ => cq_ite (fun _ => cq_ite (fun _ => ok1 _ _) fun _ => cq_ite (fun _ => ok1 _ _) fun _ => cq_ite (fun _ => ok1 _ _) fun _ => ok1 _ _) fun _ => cq_er
  · exact cq_bind (cq_bool (H _)) fun a _ => cq_ite (fun _ => ok1 _ _) fun _ => cq_bind (cq_bool (H _)) fun b _ => ok1 _ _
  · exact cq_bind (cq_bool (H _)) fun a _ => ok1 _ _
  · exact cq_bind (cq_bool (H _)) fun a _ => cq_ite (fun _ => H _) fun _ => H _
  · exact cq_bind (H _) fun v hv => hr _ _ _ _
  · unfold recordX
    exact cq_ite (fun h1 => cq_ite (fun h2 => cq_bind (cq_list H _) fun vs hvs => cq_ite (fun h3 => ok1 _ _) fun _ => cq_er) fun _ => cq_er) fun _ => cq_er
  · refine cq_bind (H _) fun v hv => ?_
    split
    · exact cq_ite (fun _ => ok1 _ _) fun _ => cq_er
    · exact cq_er
  · unfold callX
    simp only
    split
    · exact cq_er
    · rename_i f hf
      obtain ⟨h1, h2, h3⟩ := funcX_some hf
      refine cq_ite (fun _ => cq_ite (fun h4 => cq_bind (cq_list H _) fun l hl => cq_enter hr ?_) fun _ => cq_er) fun _ => cq_er
      rw [List.getElem?_eq_getElem h2] at h3
      have := hp _ (List.getElem_mem h2) f h3
      omega
  · unfold actX
    exact cq_bind (H _) fun v hv => cq_ite (fun _ => cq_ite (fun _ m hm => ⟨hm, fun a s e => trivial⟩) fun _ => cq_er) fun _ => cq_er
  · unfold varX
    refine cq_ite (fun _ => cq_er) fun ho => ?_
    simp only
    exact cq_ite (fun _ => cq_er) fun hi => cq_ite (fun _ => cq_bind (H _) fun v hv m hm => ⟨hm, fun a s e => trivial⟩) fun _ m hm => ⟨hm, fun a s e => trivial⟩
theorem cq_eval {p : List Mod} (hp : ∀ m ∈ p, ∀ f ∈ m.funcs, f.params.length ≤ B) : ∀ (n : Nat) (o : Int) (ns : List Str) (vs : List Val) (e : Exp), CQ B (evalX p n o ns vs e) Tr
  | 0, _, _, _, _ => cq_er
  | n + 1, o, ns, vs, e => cq_step hp (fun o ns vs e => cq_eval hp n o ns vs e) o ns vs e
end Go.Av.Ap

/- How much an outcome holds. No condition. -/
namespace Go.Av.Ap
structure OutB (B n : Nat) (o : Out) : Prop where
  deeds : o.deeds.length ≤ 100002
  calls : o.calls.length ≤ 100002
  args : ∀ c ∈ o.calls, c.args.length ≤ B
  state : o.state.length ≤ n
  vals : ∀ x ∈ o.state, x.values.length ≤ B
theorem outB_errO (B n : Nat) (e : Int) : OutB B n (errO e) := ⟨Nat.zero_le _, Nat.zero_le _, fun c hc => (by cases hc), Nat.zero_le _, fun c hc => (by cases hc)⟩
theorem from_lim {B : Nat} (p : List Mod) (st : List Vars) (module fn : Str) (args : List Val) (world : List Int) (fuel : Int) (hp : ∀ m ∈ p, m.vars.length ≤ B ∧ ∀ f ∈ m.funcs, f.params.length ≤ B) : OutB B p.length (fromX p st module fn args world fuel) := by
  by_cases h0 : 0 ≤ fuel ∧ fuel ≤ 100000
  · rcases from_cases p st module fn args with ⟨e, he, h⟩ | ⟨a, f, hf, ha, hl, hargs, hv, hb, h⟩
    · rw [h world fuel h0.1 h0.2]; exact outB_errO _ _ e
    · rw [h world fuel h0.1 h0.2]
      obtain ⟨b1, b2, b3⟩ := belongs_right hb
      have hfp : f.params.length ≤ B := by
        rw [List.getElem?_eq_getElem hl] at hf
        exact (hp _ (List.getElem_mem hl)).2 f hf
      obtain ⟨_, q2, _⟩ := enter_right (p := p) (a := a) (n := 100000) hargs hv (startM world fuel (st.map (·.values))) ⟨fun l hl v hv => by
        simp only [startM, List.mem_map] at hl
        obtain ⟨x, hx, rfl⟩ := hl
        exact b2 x hx v hv, fun c hc => by simp [startM] at hc⟩
      have hmu : mu (enterX p (evalX p 100000) a f args (startM world fuel (st.map (·.values)))).st ≤ fuel + 1 ∧ 0 ≤ fuel := by
        refine ⟨?_, h0.1⟩
        have e0 : mu (startM world fuel (st.map (·.values))) = fuel := by simp [mu, startM]
        cases hr : enterX p (evalX p 100000) a f args (startM world fuel (st.map (·.values))) with
        | ok v s =>
          have := (tq_enter (fun o ns vs e => tq_eval 100000 o ns vs e) _ v s h0.1 hr).1
          rw [e0] at this
          exact this
        | er e s =>
          have := (te_enter (fun o ns vs e => te_eval 100000 o ns vs e) _ e s h0.1 hr).1
          rw [e0] at this
          exact this
      have hfu : 0 ≤ (enterX p (evalX p 100000) a f args (startM world fuel (st.map (·.values)))).st.fuel := by
        cases hr : enterX p (evalX p 100000) a f args (startM world fuel (st.map (·.values))) with
        | ok v s => exact (tq_enter (fun o ns vs e => tq_eval 100000 o ns vs e) _ v s h0.1 hr).2.2.1
        | er e s => exact (te_enter (fun o ns vs e => te_eval 100000 o ns vs e) _ e s h0.1 hr).2
      have hc := (cq_enter (p := p) (B := B) (a := a) (f := f) (l := args) (cq_eval (p := p) (fun m hm => (hp m hm).2) 100000) (by omega) (startM world fuel (st.map (·.values))) (fun c hc => by simp [startM] at hc)).1
      generalize enterX p (evalX p 100000) a f args (startM world fuel (st.map (·.values))) = r at *
      simp only [mu] at hmu
      refine ⟨by rw [outOf_deeds]; omega, by rw [outOf_calls]; omega, by rw [outOf_calls]; exact hc, ?_, fun x hx => ?_⟩
      · rw [outOf_state, List.length_zipWith]
        simp
        omega
      · rw [outOf_state] at hx
        have := zip_state_mem hx
        have hs : shapeM r.st = p.map (fun m => m.vars.length) := by
          rw [q2]
          refine List.ext_getElem? fun i => ?_
          simp only [shapeM, startM, List.getElem?_map, Option.map_map]
          cases hi : st[i]? with
          | none =>
            have : p[i]? = none := by
              rw [List.getElem?_eq_none_iff] at hi ⊢
              omega
            rw [this]; rfl
          | some x =>
            have hlt := (List.getElem?_eq_some_iff.1 hi).1
            have hpi : p[i]? = some (p[i]'(by omega)) := List.getElem?_eq_getElem _
            rw [hpi]
            have := (b3 i _ x hpi hi).2
            simp [this]
        have h1 : x.values.length ∈ shapeM r.st := List.mem_map.2 ⟨_, this, rfl⟩
        rw [hs] at h1
        obtain ⟨m, hm, he⟩ := List.mem_map.1 h1
        have := (hp m hm).1
        omega
  · unfold fromX
    split
    · exact outB_errO _ _ _
    · rw [if_pos (by omega)]
      exact outB_errO _ _ _
theorem run_lim {B : Nat} (p : List Mod) (module fn : Str) (args : List Val) (world : List Int) (fuel : Int) (hp : ∀ m ∈ p, m.vars.length ≤ B ∧ ∀ f ∈ m.funcs, f.params.length ≤ B) : OutB B p.length (runX p module fn args world fuel) := by
  unfold runX
  split
  · exact outB_errO _ _ _
  · exact from_lim _ _ _ _ _ _ _ hp
end Go.Av.Ap

/- What the counts grant. No condition. -/
namespace Go.Av.Ap
open Go Go.Av
theorem capS_ge {α : Type} {most : Int} {g : α → Int → Int} : (l : List α) → (∀ x ∈ l, ∀ m, 0 ≤ m → m ≤ most → 1 ≤ g x m) → ∀ n, 1 ≤ n → n ≤ capS most g n l
  | [], _, n, _ => Int.le_refl _
  | x :: l, hg, n, h1 => by
    by_cases h : n ≤ most
    · rw [capS_cons x l h]
      have := hg x List.mem_cons_self (most - n) (by omega) (by omega)
      have ih := capS_ge l (fun y hy => hg y (List.mem_cons_of_mem _ hy)) (n + g x (most - n)) (by omega)
      omega
    · rw [capS_stop (by omega)]
      exact Int.le_refl _
theorem capS_fit {α : Type} {most : Int} {g : α → Int → Int} (w : α → Nat) (W : Nat) : (l : List α) → (∀ x ∈ l, ∀ m, 0 ≤ m → m ≤ most → 1 ≤ g x m) → (∀ x ∈ l, ∀ m, 0 ≤ m → m ≤ most → g x m ≤ m → (w x : Int) ≤ g x m * W) → ∀ n, 1 ≤ n → capS most g n l ≤ most →
    (l.length : Int) ≤ capS most g n l - n ∧ (∀ x ∈ l, ∃ m, 0 ≤ m ∧ m ≤ most ∧ g x m ≤ m) ∧ ((l.map w).sum : Int) ≤ (capS most g n l - n) * W
  | [], _, _, n, _, h2 => ⟨by simp [capS], (fun x hx => (by cases hx)), by simp [capS]⟩
  | x :: l, hg, hw, n, h1, h2 => by
    have hn : n ≤ most := by
      rcases Int.lt_or_le most n with h | h
      · rw [capS_stop h] at h2; omega
      · exact h
    rw [capS_cons x l hn] at h2 ⊢
    have a1 := hg x List.mem_cons_self (most - n) (by omega) (by omega)
    have hg' : ∀ y ∈ l, ∀ m, 0 ≤ m → m ≤ most → 1 ≤ g y m := fun y hy => hg y (List.mem_cons_of_mem _ hy)
    have a2 := capS_ge l hg' (n + g x (most - n)) (by omega)
    obtain ⟨b1, b2, b3⟩ := capS_fit w W l hg' (fun y hy => hw y (List.mem_cons_of_mem _ hy)) (n + g x (most - n)) (by omega) h2
    have a3 : g x (most - n) ≤ most - n := by omega
    have a4 := hw x List.mem_cons_self (most - n) (by omega) (by omega) a3
    refine ⟨by simp only [List.length_cons]; omega, fun y hy => ?_, ?_⟩
    · rcases List.mem_cons.1 hy with rfl | hy
      · exact ⟨most - n, by omega, by omega, a3⟩
      · exact b2 y hy
    · simp only [List.map_cons, List.sum_cons, Int.natCast_add]
      have : (capS most g (n + g x (most - n)) l - n) * (W : Int) = g x (most - n) * W + (capS most g (n + g x (most - n)) l - (n + g x (most - n))) * W := by
        rw [← Int.add_mul]
        congr 1
        omega
      rw [this]
      omega
theorem valsSz_sum : (l : List Val) → valsSz l = (l.map Val.sz).sum
  | [] => rfl
  | v :: l => by simp [valsSz, valsSz_sum l]
theorem parts_sz : ∀ (d : Nat) (v : Val), v.Lim → ∀ most : Int, 0 ≤ most → partsX d v most ≤ most → (v.sz : Int) ≤ partsX d v most * (281474976710656 : Nat)
  | 0, v, _, most, _, h => by simp only [partsX] at h; omega
  | d + 1, v, hv, most, h0, h => by
    have hl := hv.len
    have hn := hv.names
    have h1 : ∀ x ∈ v.values, ∀ m, 0 ≤ m → m ≤ most → 1 ≤ partsX d x m := fun x _ m h0 _ => (partsX_bounds d x m h0).1
    have h' : capS most (partsX d) 1 v.values ≤ most := h
    obtain ⟨_, _, h3⟩ := capS_fit Val.sz 281474976710656 v.values h1 (fun x hx m h0 _ h => parts_sz d x (hv.kid hx) m h0 h) 1 (by omega) h'
    have e : partsX (d + 1) v most = capS most (partsX d) 1 v.values := rfl
    rw [e]
    have hs : v.sz = 1 + v.names.length + valsSz v.values := by cases v; rfl
    rw [hs, valsSz_sum]
    have := capS_ge v.values h1 1 (by omega)
    rw [Int.sub_mul] at h3
    omega
theorem fewX_args {p : List Mod} {args : List Val} {world : List Int} {fuel : Int} (h : fewX p args world fuel = true) (ha : ∀ v ∈ args, v.Lim) : args.length ≤ 8 ∧ valsSz args ≤ 90071992547409920 := by
  unfold fewX at h
  simp only [Bool.and_eq_true, decide_eq_true_eq, List.all_eq_true] at h
  have hl := h.1.1.1.2
  refine ⟨hl, ?_⟩
  have key : ∀ l : List Val, (∀ v ∈ l, v ∈ args) → valsSz l ≤ l.length * 11258999068426240 := by
    intro l
    induction l with
    | nil => intro _; simp [valsSz]
    | cons v l ih =>
      intro hm
      have h1 := parts_sz 8 v (ha v (hm v List.mem_cons_self)) 40 (by omega) (h.2.2 v (hm v List.mem_cons_self))
      have h2 := h.2.2 v (hm v List.mem_cons_self)
      have h3 := ih fun w hw => hm w (List.mem_cons_of_mem _ hw)
      simp only [valsSz, List.length_cons]
      omega
  have := key args fun v hv => hv
  omega
end Go.Av.Ap
