/- The abstract evaluator of the model and plain laws, part 3: its soundness holds for every program whose table of types is the evaluator's. No further condition. -/
import Derived.Test.YtgbopmciiadmlaaLb
import Derived.Test.YtgbopmciiadmlaaLa
import Derived.KernelRfl
import Derived.Below
import Derived.ChangeSame
import Derived.OpenShut
import Derived.ChangeReads
import Derived.ReadAgain
import Derived.Deep.Slices
import Derived.WideShapes
import Derived.SizedLaws
import Derived.IntWalk

/- A region. Conditions: the table of types is the program's; the calls are right; isolated calls see nothing of the heap. -/
namespace Go.Av
variable [Dr]
omit [Dr] in
theorem maskOf_bit (acc : List Nat) : ∀ (es : List Edge) (x : Nat), (maskOf acc es).testBit x = true ↔ ∃ e ∈ es, Region.binds .any e = true ∧ (e.on = x ∨ (acc.getD e.on 0).testBit x = true)
 | [], x => by simp [maskOf]
 | e :: es, x => by
  simp only [maskOf]
  cases hb : Region.binds .any e with
  | false =>
   simp only [cond_false, maskOf_bit acc es x, List.mem_cons]
   constructor
   ·rintro ⟨e', he, h⟩; exact ⟨e', .inr he, h⟩
   ·rintro ⟨e', rfl | he, h⟩
    ·rw [hb] at h; exact absurd h.1 (by simp)
    ·exact ⟨e', he, h⟩
  | true =>
   simp only [cond_true, Nat.testBit_or, Bool.or_eq_true, maskOf_bit acc es x, List.mem_cons, Nat.testBit_two_pow, decide_eq_true_eq]
   constructor
   ·rintro ((⟨e', he, h⟩ | h) | h)
    ·exact ⟨e', .inr he, h⟩
    ·exact ⟨e, .inl rfl, hb, .inl h⟩
    ·exact ⟨e, .inl rfl, hb, .inr h⟩
   ·rintro ⟨e', rfl | he, h1, h2⟩
    ·rcases h2 with h2 | h2
     ·exact .inl (.inr h2)
     ·exact .inr h2
    ·exact .inl (.inl ⟨e', he, h1, h2⟩)
omit [Dr] in
theorem befs_spec : ∀ (os : List Oper) (acc : List Nat), ∃ r : List Nat, befs os acc = acc ++ r ∧ r.length = os.length ∧ ∀ (k : Nat) (o : Oper), os[k]? = some o → r[k]? = some (maskOf (acc ++ r.take k) o.after.toList)
 | [], acc => ⟨[], by simp [befs], rfl, by simp⟩
 | o :: os, acc => by
  obtain ⟨r, h1, h2, h3⟩ := befs_spec os (acc ++ [maskOf acc o.after.toList])
  refine ⟨maskOf acc o.after.toList :: r, by simp [befs, h1], by simp [h2], fun k o' ho => ?_⟩
  cases k with
  | zero => simp at ho; subst ho; simp
  | succ k =>
   simp only [List.getElem?_cons_succ, List.take_succ_cons] at ho ⊢
   rw [h3 k o' ho]
   simp
section
variable {ops : Array Oper}
def bfOf (ops : Array Oper) : List Nat := befs ops.toList []
omit [Dr] in
theorem bf_get {j : Nat} {o : Oper} (ho : ops[j]? = some o) : (bfOf ops).length = ops.size ∧ (bfOf ops).getD j 0 = maskOf ((bfOf ops).take j) o.after.toList := by
 obtain ⟨r, h1, h2, h3⟩ := befs_spec ops.toList []
 have h4 : bfOf ops = r := by unfold bfOf; rw [h1]; simp
 rw [h4]
 refine ⟨by simp [h2], ?_⟩
 have := h3 j o (by simpa using ho)
 rw [List.getD_eq_getElem?_getD, this]
 simp
omit [Dr] in
theorem bf_closed {listed : Nat → Prop} (hcl : ∀ (j : Nat) (o : Oper), ops[j]? = some o → listed j → ∀ e ∈ o.after.toList, Region.binds .any e = true → listed e.on) :
  ∀ (j : Nat) (o : Oper), ops[j]? = some o → (∀ e ∈ o.after.toList, Region.binds .any e = true → listed e.on) → ∀ x, ((bfOf ops).getD j 0).testBit x = true → listed x := by
 intro j
 induction j using Nat.strongRecOn with
 | _ j ih =>
  intro o ho hl x hx
  obtain ⟨hlen, hget⟩ := bf_get ho
  rw [hget, maskOf_bit] at hx
  obtain ⟨e, he, hb, hx | hx⟩ := hx
  ·rw [← hx]; exact hl e he hb
  ·by_cases hj : e.on < j
   ·have hjs : j < ops.size := (Array.getElem?_eq_some_iff.1 ho).1
    have hos : ops[e.on]? = some ops[e.on] := Array.getElem?_eq_getElem (by omega)
    have h1 : ((bfOf ops).take j).getD e.on 0 = (bfOf ops).getD e.on 0 := by
     rw [List.getD_eq_getElem?_getD, List.getD_eq_getElem?_getD, List.getElem?_take, if_pos hj]
    rw [h1] at hx
    exact ih e.on hj _ hos (hcl e.on _ hos (hl e he hb)) x hx
   ·rw [List.getD_eq_getElem?_getD, List.getElem?_take, if_neg hj] at hx
    simp at hx
def PairR (cx : Cx) (ops : Array Oper) (i j : Nat) : Prop := ((bfOf ops).getD i 0).testBit j = false ∧ (((bfOf ops).getD j 0).testBit i = true ∨ indep cx ops i j = true)
omit [Dr] in
theorem pairsOk_inv {cx : Cx} : ∀ {l : List Nat}, pairsOk cx ops (bfOf ops) l = true → l.Pairwise (PairR cx ops) ∧ ∀ i ∈ l, ((bfOf ops).getD i 0).testBit i = false
 | [], _ => ⟨.nil, by simp⟩
 | i :: l, h => by
  simp only [pairsOk, Bool.and_eq_true, Bool.not_eq_true', List.all_eq_true, Bool.or_eq_true] at h
  obtain ⟨⟨h1, h2⟩, h3⟩ := h
  obtain ⟨h4, h5⟩ := pairsOk_inv h3
  refine ⟨.cons (fun j hj => h2 j hj) h4, fun k hk => ?_⟩
  simp only [List.mem_cons] at hk
  rcases hk with rfl | hk
  ·exact h1
  ·exact h5 k hk
omit [Dr] in
theorem distinct_nodup : ∀ {l : List Nat}, distinct l = true → l.Nodup
 | [], _ => .nil
 | i :: l, h => by
  simp only [distinct, Bool.and_eq_true, Bool.not_eq_true'] at h
  refine List.nodup_cons.2 ⟨fun hi => ?_, distinct_nodup h.2⟩
  rw [(memN_iff _ _).2 hi] at h
  exact Bool.noConfusion h.1
variable {P : Program} {cx : Cx} {c : Entry} {N base : Nat}
theorem draw_any (hT : TOK P cx.T) (hC : CallsOK P cx.own cx.call) (hI : IsoPure cx) (hO : OpsOk N cx ops) (hS : Small ops) (hbit : ∀ i x, ((bfOf ops).getD i 0).testBit x = true → x < ops.size) (hself : ∀ i, i < ops.size → ((bfOf ops).getD i 0).testBit i = false)
  {Q : Exit → Act → World → Prop} : ∀ (n : Nat) (rest : List Nat) (listed : Array Bool) (D : List Nat) (e : Env) (h : Hp) (a : Act) (w : World), rest.length = n → listed.size = ops.size → rest.Nodup →
  (∀ i, i ∈ rest ↔ i < ops.size ∧ listed.getD i true = false) → (∀ i ∈ rest, i ∉ D) → (∀ i ∈ D, i < ops.size) →
  (∀ (j : Nat) (o : Oper), ops[j]? = some o → listed.getD j false = true → ∀ e ∈ o.after.toList, Region.binds .any e = true → listed.getD e.on false = true) → rest.Pairwise (PairR cx ops) →
  Sat c N (UD base D) e h a w → runSeq cx base ops rest e h ≠ .fail →
  (∀ e0 e' h' a' w', runSeq cx base ops rest e h = .ok e0 h' → EqE e0 e' → Sat c N (UR base ops.size) e' h' a' w' → a'.defers = a.defers → Q .normal a' w') →
  (∀ pv h' v w' a', runSeq cx base ops rest e h = .pan pv h' → PanSat c pv h' v w' → a'.defers = a.defers → Q (.panic [{ v, recovered := false }]) a' w') → wpAny P .any ops Q n listed a w
 | 0, rest, listed, D, e, h, a, w, hlen, hsz, hnd, hmem, hdis, hD, hcl, hpw, H, hr, hn, hp => by
  have : rest = [] := List.eq_nil_of_length_eq_zero hlen
  subst this
  refine ⟨?_, hn e e h a w rfl (.refl e) (H.wider (UD_UR hD)) rfl⟩
  refine List.eq_nil_iff_forall_not_mem.2 fun i hi => ?_
  obtain ⟨h0, o, ho, _⟩ := mem_ready.1 hi
  have := (hmem i).2 ⟨(Array.getElem?_eq_some_iff.1 ho).1, h0⟩
  simp at this
 | n + 1, rest, listed, D, e, h, a, w, hlen, hsz, hnd, hmem, hdis, hD, hcl, hpw, H, hr, hn, hp => by
  have hgd : ∀ i, i < ops.size → listed.getD i true = listed.getD i false := fun i hi => by
   rw [Array.getD_eq_getD_getElem?, Array.getD_eq_getD_getElem?, Array.getElem?_eq_getElem (by omega)]
   rfl
  refine ⟨fun hemp => ?_, fun i hi => ?_⟩
  ·exfalso
   cases rest with
   | nil => simp at hlen
   | cons r0 tl =>
    have hr0 := (hmem r0).1 (by simp)
    have hor : ops[r0]? = some ops[r0] := Array.getElem?_eq_getElem hr0.1
    have : r0 ∈ Region.ready .any ops listed := by
     refine mem_ready.2 ⟨hr0.2, _, hor, fun ed hed hb => ?_⟩
     have hbt : ((bfOf ops).getD r0 0).testBit ed.on = true := by
      rw [(bf_get hor).2, maskOf_bit]
      exact ⟨ed, by simpa using hed, hb, .inl rfl⟩
     have hlt := hbit r0 ed.on hbt
     cases hl : listed.getD ed.on false with
     | true => rfl
     | false =>
      have hin := (hmem ed.on).2 ⟨hlt, by rw [hgd _ hlt]; exact hl⟩
      simp only [List.mem_cons] at hin
      rcases hin with hin | hin
      ·rw [hin] at hbt
       rw [hself r0 hr0.1] at hbt
       cases hbt
      ·have := (List.pairwise_cons.1 hpw).1 ed.on hin
       rw [this.1] at hbt
       cases hbt
    rw [hemp] at this
    simp at this
  ·obtain ⟨h0, o, ho, hall⟩ := mem_ready.1 hi
   have hlt : i < ops.size := (Array.getElem?_eq_some_iff.1 ho).1
   have hin := (hmem i).2 ⟨hlt, h0⟩
   obtain ⟨p, q, rfl⟩ := List.append_of_mem hin
   have hnd' := hnd
   rw [List.nodup_append] at hnd'
   have hni : i ∉ p ++ q := by
    intro hm
    rw [List.mem_append] at hm
    rcases hm with hm | hm
    ·exact hnd'.2.2 i hm i (by simp) rfl
    ·exact (List.nodup_cons.1 hnd'.2.1).1 hm
   have hclo := bf_closed (ops := ops) (listed := fun j => listed.getD j false = true) (fun j o ho hj ed hed hb => hcl j o ho hj ed hed hb) i o ho (fun ed hed hb => hall ed (by simpa using hed) hb)
   have hfront : ∀ x ∈ p, indep cx ops x i = true ∧ x ≠ i := by
    intro x hx
    have hpr := (List.pairwise_append.1 hpw).2.2 x hx i (by simp)
    refine ⟨?_, fun hxi => hni (by rw [← hxi]; simp [hx])⟩
    rcases hpr.2 with h1 | h1
    ·have hxl := hclo x h1
     have hxr := (hmem x).1 (by simp [hx])
     rw [hgd x hxr.1] at hxr
     rw [hxr.2] at hxl
     cases hxl
    ·exact h1
   have hRE := front (base := base) hI hS q p hfront e h
   have hr' : runSeq cx base ops (i :: (p ++ q)) e h ≠ .fail := by
    intro hf
    rw [hf] at hRE
    cases hx : runSeq cx base ops (p ++ i :: q) e h with
    | fail => exact hr hx
    | ok e0 h0 => rw [hx] at hRE; obtain ⟨_, h1, _⟩ := hRE; cases h1
    | pan v h0 => rw [hx] at hRE; cases hRE
   simp only [runSeq, bnd] at hr'
   have hstep : ∀ {r : R Env}, runSeq cx base ops (i :: (p ++ q)) e h = r → runSeq cx base ops (i :: (p ++ q)) e h = r := fun h => h
   simp only [runSeq, bnd] at hRE
   refine step_sound hT hC hO (hdis i hin) H (fun hf => by rw [hf] at hr'; exact hr' rfl) (fun e1 h1 a1 w1 hst hs hdf => ?_) (fun pv h1 v w1 hst hps => ?_)
   ·rw [hst] at hr' hRE
    simp only at hr' hRE
    refine draw_any hT hC hI hO hS hbit hself n (p ++ q) (listed.setIfInBounds i true) (i :: D) e1 h1 a1 w1 ?_ (by simp [hsz]) ?_ (fun k => ?_) (fun k hk => ?_) (fun k hk => ?_) (fun k o' ho' hk ed hed hb => ?_) ?_ hs hr' (fun e0 e' h' a' w' hok heq hsat hdf' => ?_) (fun pv h' v w' a' hok hps hdf' => ?_)
    ·simp only [List.length_append, List.length_cons] at hlen ⊢; omega
    ·exact hnd.sublist (List.Sublist.append (List.Sublist.refl p) (List.sublist_cons_self i q))
    ·have hset : k ≠ i → (listed.setIfInBounds i true).getD k true = listed.getD k true := fun hk => by
      rw [Array.getD_eq_getD_getElem?, Array.getD_eq_getD_getElem?, Array.getElem?_setIfInBounds_ne (Ne.symm hk)]
     constructor
     ·intro hk
      have hki : k ≠ i := fun h => hni (h ▸ hk)
      rw [hset hki]
      exact (hmem k).1 (by
       simp only [List.mem_append, List.mem_cons] at hk ⊢
       rcases hk with hk | hk
       ·exact .inl hk
       ·exact .inr (.inr hk))
     ·rintro ⟨h1, h2⟩
      have hki : k ≠ i := by
       rintro rfl
       rw [Array.getD_eq_getD_getElem?, Array.getElem?_setIfInBounds_self] at h2
       rw [if_pos (by omega)] at h2
       simp at h2
      rw [hset hki] at h2
      have := (hmem k).2 ⟨h1, h2⟩
      simp only [List.mem_append, List.mem_cons] at this ⊢
      rcases this with h | h | h
      ·exact .inl h
      ·exact absurd h hki
      ·exact .inr h
    ·simp only [List.mem_cons, not_or]
     refine ⟨fun hki => hni (hki ▸ hk), hdis k ?_⟩
     simp only [List.mem_append, List.mem_cons] at hk ⊢
     rcases hk with hk | hk
     ·exact .inl hk
     ·exact .inr (.inr hk)
    ·simp only [List.mem_cons] at hk
     rcases hk with rfl | hk
     ·exact hlt
     ·exact hD k hk
    ·have hmono : ∀ x, listed.getD x false = true → (listed.setIfInBounds i true).getD x false = true := fun x hx => getD_set_true hx
     by_cases hki : k = i
     ·subst hki
      rw [ho] at ho'
      cases ho'
      exact hmono _ (hall ed (by simpa using hed) hb)
     ·refine hmono _ (hcl k o' ho' ?_ ed hed hb)
      rw [Array.getD_eq_getD_getElem?, Array.getElem?_setIfInBounds_ne (Ne.symm hki), ← Array.getD_eq_getD_getElem?] at hk
      exact hk
    ·exact hpw.sublist (List.Sublist.append (List.Sublist.refl p) (List.sublist_cons_self i q))
    ·rw [hok] at hRE
     cases hx : runSeq cx base ops (p ++ i :: q) e h with
     | fail => exact absurd hx hr
     | ok ex hx' =>
      rw [hx] at hRE
      obtain ⟨e0', h2, h3⟩ := hRE
      cases h2
      exact hn ex e' _ a' w' hx (h3.trans heq) hsat (hdf'.trans hdf)
     | pan v h0 => rw [hx] at hRE; cases hRE
    ·rw [hok] at hRE
     cases hx : runSeq cx base ops (p ++ i :: q) e h with
     | fail => exact absurd hx hr
     | ok ex hx' => rw [hx] at hRE; obtain ⟨_, h1, _⟩ := hRE; cases h1
     | pan v0 h0 =>
      rw [hx] at hRE
      cases hRE
      exact hp _ _ v w' a' hx hps (hdf'.trans hdf)
   ·rw [hst] at hRE
    cases hx : runSeq cx base ops (p ++ i :: q) e h with
    | fail => exact absurd hx hr
    | ok ex hx' => rw [hx] at hRE; obtain ⟨_, h1, _⟩ := hRE; cases h1
    | pan v0 h0 =>
     rw [hx] at hRE
     cases hRE
     exact hp _ _ v w1 a hx hps rfl
end
end Go.Av

/- A region. Conditions: the table of types is the program's; the calls are right; isolated calls see nothing of the heap. -/
namespace Go.Av
variable [Dr]
structure IsoCall (cx : Cx) : Prop where
 iso : ∀ f args, cx.iso f = true → ∃ x : Option (Bool × AV), ∀ h, cx.call f args h = (match x with | none => .fail | some (true, v) => .ok v h | some (false, v) => .pan v h)
 nw : ∀ f args, cx.nw f = true → NwM (cx.call f args)
omit [Dr] in
theorem IsoCall.draw {cx : Cx} (h : IsoCall cx) : IsoPure (cxDraw cx) := by
 refine ⟨?_, fun f args hf => ?_⟩
 case refine_2 =>
  have hn := h.nw f args hf
  show NwM (bif cx.iso f then noPan (cx.call f args) else cx.call f args)
  cases cx.iso f with
  | false => exact hn
  | true =>
   intro hp v h' hh
   simp only [cond_true, noPan] at hh
   cases hq : cx.call f args hp with
   | ok a b => rw [hq] at hh; cases hh; exact hn _ _ _ hq
   | pan a b => rw [hq] at hh; cases hh
   | fail => rw [hq] at hh; cases hh
 intro f args hf
 have hf' : cx.iso f = true := hf
 obtain ⟨x, hx⟩ := h.iso f args hf'
 refine ⟨match x with | some (true, v) => some v | _ => none, ?_⟩
 show (bif cx.iso f then noPan (cx.call f args) else cx.call f args) = _
 rw [hf']
 funext hp
 simp only [cond_true, noPan, hx]
 rcases x with _ | ⟨b, v⟩
 ·rfl
 ·cases b <;> rfl
theorem CallsOK.draw {P : Program} {cx : Cx} (h : CallsOK P cx.own cx.call) : CallsOK P (cxDraw cx).own (cxDraw cx).call := by
 intro f args hp S β w vs hr hg hw hh hv
 have hcall : (cxDraw cx).call f args hp = (bif cx.iso f then noPan (cx.call f args) hp else cx.call f args hp) := by
  show (bif cx.iso f then noPan (cx.call f args) else cx.call f args) hp = _
  cases cx.iso f <;> rfl
 rw [hcall] at hr ⊢
 have key : ∀ r, r = cx.call f args hp → r ≠ .fail → Calls P f vs.toArray w (CPost ((cxDraw cx).own f) S β hp w r) ∧ (P.funcs[f]?).any (fun fn => fn.body.isSome && !(fn.name == "runtime.NumGoroutine")) = true := by
  intro r hr1 hr2
  subst hr1
  exact h f args hp S β w vs hr2 hg hw hh hv
 cases hi : cx.iso f with
 | false => rw [hi] at hr; exact key _ rfl hr
 | true =>
  rw [hi] at hr
  simp only [cond_true, noPan] at hr ⊢
  cases hx : cx.call f args hp with
  | ok v hq => rw [hx] at hr; exact key _ hx.symm (by simp)
  | pan v hq => rw [hx] at hr; exact absurd rfl hr
  | fail => rw [hx] at hr; exact absurd rfl hr
def SatE (c : Entry) (N : Nat) (e : Env) (h : Hp) (a : Act) (w : World) : Prop := Sat c N (fun g => g < e.nx * 1000) e h a w
theorem Sat.rel {c : Entry} {N : Nat} {U : Nat → Prop} {e2 e : Env} {h : Hp} {a : Act} {w : World} {ops : Array Oper} (H : Sat c N U e h a w) (R : Rel ops [] e2 e) : Sat c N U e2 h a w := by
 obtain ⟨S, β, γ, lam, ω, F⟩ := H
 refine ⟨S, β, γ, lam, ω, F.weak (fun t => ?_) (fun t g hg => ?_) (fun g z hz => by rw [R.al] at hz; exact hz) (fun B n hB => by rw [R.lb] at hB; exact hB)⟩
 ·rcases R.get t with h | ⟨h1, h2, _⟩
  ·exact .inl (by rw [h])
  ·exact .inr ⟨by rw [h1]; rfl, h2⟩
 ·rcases R.get t with h | ⟨h1, _⟩
  ·rw [h] at hg; exact hg
  ·rw [h1] at hg; cases hg
theorem Sat.eqE {c : Entry} {N : Nat} {U : Nat → Prop} {e2 e : Env} {h : Hp} {a : Act} {w : World} (H : Sat c N U e h a w) (R : EqE e e2) : Sat c N U e2 h a w := by
 obtain ⟨S, β, γ, lam, ω, F⟩ := H
 exact ⟨S, β, γ, lam, ω, F.weak (fun t => .inl (by rw [R.get])) (fun t g hg => by rw [R.get] at hg; exact hg) (fun g z hz => by rw [R.al] at hz; exact hz) (fun B n hB => by rw [R.lb] at hB; exact hB)⟩
theorem Sat.nx {c : Entry} {N : Nat} {U : Nat → Prop} {e : Env} {h : Hp} {a : Act} {w : World} (n : Nat) (H : Sat c N U e h a w) : Sat c N U { e with nx := n } h a w := by
 obtain ⟨S, β, γ, lam, ω, F⟩ := H
 exact ⟨S, β, γ, lam, ω, F.weak (fun t => .inl rfl) (fun t g hg => hg) (fun g z hz => hz) (fun B n hB => hB)⟩
section
variable {P : Program} {cx : Cx} {c : Entry} {e : Env} {h : Hp} {a : Act} {w : World} {ops : Array Oper} {id : Nat}
omit [Dr] in
theorem dstsSmall_inv {n : Nat} (hn : n ≤ 1000) (hd : dstsSmall n ops = true) (hk : ∀ p, isS (findK cx.ann.kinds p .L) = true → p < n) : OpsOk n cx ops ∧ Small ops := by
 unfold dstsSmall at hd
 rw [Array.all_eq_true_iff_forall_mem] at hd
 have h1 : ∀ (i : Nat) (o : Oper), ops[i]? = some o → (∀ t, o.dst = some t → t < n) ∧ ∀ t ∈ opTmps o, t < 1000 := by
  intro i o ho
  have := hd o (Array.mem_of_getElem? ho)
  simp only [Bool.and_eq_true, List.all_eq_true, decide_eq_true_eq] at this
  refine ⟨fun t ht => ?_, this.2⟩
  have h2 := this.1
  rw [ht] at h2
  simpa using h2
 refine ⟨⟨fun i o ho => (h1 i o ho).1, fun i o ho x hx t hxt => (h1 i o ho).2 t ?_, hk⟩, ⟨fun i o ho t ht => Nat.lt_of_lt_of_le ((h1 i o ho).1 t ht) hn, fun i o ho => (h1 i o ho).2⟩⟩
 subst hxt
 exact List.mem_filterMap.2 ⟨_, hx, rfl⟩
theorem reg_sound {ρ : Type} (hT : TOK P cx.T) (hC : CallsOK P cx.own cx.call) (hI : IsoCall cx) (hk : ∀ p, isS (findK cx.ann.kinds p .L) = true → p < cx.nt) {draw : Bool} {k : Env → M ρ}
  (H : SatE c cx.nt e h a w) (hr : evReg cx id ops draw e k h ≠ .fail) {Q : Exit → Act → World → Prop}
  (hn : ∀ e' h' a' w', evReg cx id ops draw e k h = k e' h' → SatE c cx.nt e' h' a' w' → a'.defers = a.defers → Q .normal a' w')
  (hp : ∀ pv h' v w' a', evReg cx id ops draw e k h = .pan pv h' → PanSat c pv h' v w' → a'.defers = a.defers → Q (.panic [{ v, recovered := false }]) a' w') :
  (Code.region id ops draw).wp P Q a w := by
 have hN : cx.nt ≤ 1000 := by obtain ⟨S, β, γ, lam, ω, F⟩ := H; exact F.tsz.2
 have H0 : Sat c cx.nt (UD e.nx []) e h a w := H.wider fun g hg => .inl hg
 unfold evReg at hr hn hp
 cases hds : dstsSmall cx.nt ops with
 | false => rw [hds] at hr; exact absurd rfl hr
 | true =>
  obtain ⟨hO, hS⟩ := dstsSmall_inv (cx := cx) hN hds hk
  rw [hds] at hr hn hp
  simp only [cond_true] at hr hn hp
  cases draw with
  | false =>
   simp only [cond_false] at hr hn hp
   obtain ⟨hfl, hgs⟩ := groupsOf_spec ops (List.range ops.size)
   refine wp_region (seq_sound hT hC hO (List.range ops.size) [] e h a w List.nodup_range (by simp) H0 ?_ ?_ ?_)
   all_goals
    have hseq := grps_seq (cx := cx) (base := e.nx) hS (groupsOf ops (List.range ops.size)) e e _ h hgs (.refl ops _ e) hr
    rw [hfl] at hseq
   ·rcases hseq with ⟨_, _, _, _, h2, _⟩ | ⟨_, _, _, h2⟩ <;> rw [h2] <;> simp
   ·intro e' h' a' w' hok hsat hdf
    rcases hseq with ⟨e2', e'', h'', h1, h2, hR⟩ | ⟨_, _, _, h2⟩
    ·rw [h2] at hok
     cases hok
     refine hn _ _ a' w' h1 (Sat.nx _ ((hsat.wider (UD_UR ?_)).rel hR)) hdf
     intro i hi
     simpa using hi
    ·rw [h2] at hok; cases hok
   ·intro pv h' v w' a' hok hps hdf
    rcases hseq with ⟨e2', e'', h'', h1, h2, hR⟩ | ⟨_, _, h1, h2⟩
    ·rw [h2] at hok; cases hok
    ·rw [h2] at hok
     cases hok
     exact hp _ _ v w' a' h1 hps hdf
  | true =>
   simp only [cond_true] at hr hn hp
   generalize ordOf cx id ops.size = ord at hr hn hp
   cases hdo : drawOk cx ops ord with
   | false => rw [hdo] at hr; exact absurd rfl hr
   | true =>
    rw [hdo] at hr hn hp
    simp only [cond_true] at hr hn hp
    simp only [drawOk, permOk, Bool.and_eq_true, List.all_eq_true, decide_eq_true_eq] at hdo
    obtain ⟨⟨⟨⟨⟨hlen, hmem⟩, hdist⟩, hlt⟩, hbits⟩, hpairs⟩ := hdo
    have hlen' : ord.length = ops.size := Nat.eq_of_beq_eq_true hlen
    obtain ⟨hpw, hself⟩ := pairsOk_inv (cx := cx) (ops := ops) hpairs
    have hpw' : ord.Pairwise (PairR (cxDraw cx) ops) := hpw
    have hO' : OpsOk cx.nt (cxDraw cx) ops := ⟨hO.dst, hO.src, hO.kin⟩
    obtain ⟨hfl, hgs⟩ := groupsOf_spec ops ord
    have hseq := grps_seq (cx := cxDraw cx) (base := e.nx) hS (groupsOf ops ord) e e _ h hgs (.refl ops _ e) hr
    rw [hfl] at hseq
    refine wp_region_draw fun t => ?_
    have hsch : Region.schedule (P.follows .mixedOrders) ops t = Region.linearise .any ops t := by
     simp only [Region.schedule, hT.mix, Bool.true_or, if_true]
    rw [hsch]
    have hmem' : ∀ i, i ∈ ord ↔ i < ops.size := fun i => ⟨fun hi => hlt i hi, fun hi => (memN_iff _ _).1 (hmem i (by simpa using hi))⟩
    refine wpAny_sound ops.size t _ a _ (draw_any (cx := cxDraw cx) (c := c) (N := cx.nt) (base := e.nx) hT hC.draw hI.draw hO' hS ?_ ?_ ops.size ord (Array.replicate ops.size false) [] e h a w.drew hlen' (by simp) (distinct_nodup hdist) ?_ (by simp) (by simp) ?_ hpw' ?_ ?_ ?_ ?_)
    ·intro i x hx
     rcases Nat.lt_or_ge x ops.size with h' | h'
     ·exact h'
     ·have hm : (bfOf ops).getD i 0 < 2 ^ ops.size := by
       rw [List.getD_eq_getElem?_getD]
       cases hi : (bfOf ops)[i]? with
       | none => simp; exact Nat.pow_pos (by omega)
       | some m => exact hbits m (List.mem_of_getElem? hi)
      rw [Nat.testBit_lt_two_pow (Nat.lt_of_lt_of_le hm (Nat.pow_le_pow_right (by omega) h'))] at hx
      cases hx
    ·exact fun i hi => hself i ((hmem' i).2 hi)
    ·intro i
     rw [hmem']
     constructor
     ·intro hi
      refine ⟨hi, ?_⟩
      rw [Array.getD_eq_getD_getElem?, Array.getElem?_replicate, if_pos hi]
      rfl
     ·exact fun hi => hi.1
    ·intro j o ho hj
     exfalso
     rw [Array.getD_eq_getD_getElem?, Array.getElem?_replicate] at hj
     split at hj <;> simp at hj
    ·obtain ⟨S, β, γ, lam, ω, F⟩ := H0
     exact ⟨S, β, γ, lam, ω, F.drew⟩
    ·rcases hseq with ⟨_, _, _, _, h2, _⟩ | ⟨_, _, _, h2⟩ <;> rw [h2] <;> simp
    ·intro e0 e' h' a' w' hok heq hsat hdf
     rcases hseq with ⟨e2', e'', h'', h1, h2, hR⟩ | ⟨_, _, _, h2⟩
     ·rw [h2] at hok
      cases hok
      exact hn _ _ a' w' h1 (Sat.nx _ ((hsat.eqE heq.symm).rel hR)) hdf
     ·rw [h2] at hok; cases hok
    ·intro pv h' v w' a' hok hps hdf
     rcases hseq with ⟨e2', e'', h'', h1, h2, hR⟩ | ⟨_, _, h1, h2⟩
     ·rw [h2] at hok; cases hok
     ·rw [h2] at hok
      cases hok
      exact hp _ _ v w' a' h1 hps hdf
end
end Go.Av

/- What is carried into a loop or a join. No condition. -/
namespace Go.Av
variable [Dr]
omit [Dr] in
theorem packVals_inv {e : Env} : ∀ (l : List (Nat × Option Nat)) (used : List Nat) (vs : List AV), packVals e l used = some vs → vs.length = l.length ∧
  (∀ (i : Nat) (t : Nat) (z : Option Nat), l[i]? = some (t, z) → ∃ a, vs[i]? = some a ∧ (e.get t).v = .val a ∧ ∀ sz, z = some sz → ∃ g z0, (e.get t).g = some g ∧ aliveG e.al g = some z0 ∧ (z0 = none ∨ z0 = some sz) ∧ g ∉ used) ∧
  ∀ (i j : Nat) (t t' sz sz' : Nat), i < j → l[i]? = some (t, some sz) → l[j]? = some (t', some sz') → (e.get t).g ≠ (e.get t').g
 | [], used, vs, h => by
  simp only [packVals, Option.some.injEq] at h
  subst h
  exact ⟨rfl, by simp, by simp⟩
 | (t, none) :: r, used, vs, h => by
  simp only [packVals] at h
  split at h
  ·rename_i a ha
   split at h
   ·rename_i vs' hvs
    simp only [Option.some.injEq] at h
    subst h
    obtain ⟨h1, h2, h3⟩ := packVals_inv r used vs' hvs
    refine ⟨by simp [h1], fun i t' z hi => ?_, fun i j t1 t2 sz1 sz2 hij hi hj => ?_⟩
    ·cases i with
     | zero =>
      simp only [List.getElem?_cons_zero, Option.some.injEq, Prod.mk.injEq] at hi
      obtain ⟨rfl, rfl⟩ := hi
      exact ⟨a, rfl, ha, fun sz hsz => by cases hsz⟩
     | succ i => simpa using h2 i t' z (by simpa using hi)
    ·cases i with
     | zero => simp at hi
     | succ i =>
      cases j with
      | zero => omega
      | succ j => exact h3 i j t1 t2 sz1 sz2 (by omega) (by simpa using hi) (by simpa using hj)
   ·cases h
  ·cases h
 | (t, some sz) :: r, used, vs, h => by
  simp only [packVals] at h
  split at h
  ·rename_i a g ha hg
   split at h
   ·cases h
   ·rename_i z0 hz0
    have hcond : szOk z0 (some sz) = true ∧ memN used g = false ∧ (match packVals e r (g :: used) with | some vs => some (a :: vs) | none => none) = some vs := by
     cases hm : memN used g with
     | true =>
      rw [hm] at h
      cases z0 with
      | none => cases h
      | some n =>
       simp only at h
       cases hb : Nat.beq n sz <;> rw [hb] at h <;> cases h
     | false =>
      rw [hm] at h
      cases z0 with
      | none => exact ⟨rfl, rfl, h⟩
      | some n =>
       simp only at h
       cases hb : Nat.beq n sz with
       | true => rw [hb] at h; exact ⟨hb, rfl, h⟩
       | false => rw [hb] at h; cases h
    obtain ⟨hc1, hc2, h⟩ := hcond
    have hc := And.intro hc1 hc2
    ·split at h
     ·rename_i vs' hvs
      simp only [Option.some.injEq] at h
      subst h
      have hgu : g ∉ used := fun hm => by
       rw [(memN_iff _ _).2 hm] at hc
       exact Bool.noConfusion hc.2
      have hz : z0 = none ∨ z0 = some sz := by
       cases z0 with
       | none => exact .inl rfl
       | some n => exact .inr (by rw [Nat.eq_of_beq_eq_true hc.1])
      obtain ⟨h1, h2, h3⟩ := packVals_inv r (g :: used) vs' hvs
      refine ⟨by simp [h1], fun i t' z hi => ?_, fun i j t1 t2 sz1 sz2 hij hi hj => ?_⟩
      ·cases i with
       | zero =>
        simp only [List.getElem?_cons_zero, Option.some.injEq, Prod.mk.injEq] at hi
        obtain ⟨rfl, rfl⟩ := hi
        exact ⟨a, rfl, ha, fun sz' hsz => by cases hsz; exact ⟨g, z0, hg, hz0, hz, hgu⟩⟩
       | succ i =>
        obtain ⟨a', k1, k2, k3⟩ := h2 i t' z (by simpa using hi)
        refine ⟨a', by simpa using k1, k2, fun sz' hsz => ?_⟩
        obtain ⟨g', z', m1, m2, m3, m4⟩ := k3 sz' hsz
        exact ⟨g', z', m1, m2, m3, fun hm => m4 (by simp [hm])⟩
      ·cases i with
       | zero =>
        cases j with
        | zero => omega
        | succ j =>
         simp only [List.getElem?_cons_zero, Option.some.injEq, Prod.mk.injEq] at hi
         obtain ⟨rfl, _⟩ := hi
         obtain ⟨a', k1, k2, k3⟩ := h2 j t2 (some sz2) (by simpa using hj)
         obtain ⟨g', z', m1, m2, m3, m4⟩ := k3 sz2 rfl
         rw [hg, m1]
         intro hh
         simp only [Option.some.injEq] at hh
         exact m4 (by simp [hh])
       | succ i =>
        cases j with
        | zero => omega
        | succ j => exact h3 i j t1 t2 sz1 sz2 (by omega) (by simpa using hi) (by simpa using hj)
     ·cases h
  ·cases h
omit [Dr] in
theorem unpackVals_look (vs : List AV) (r : List (Nat × Ent)) (t : Nat) : ∀ (l : List (Nat × Option Nat)) (k : Nat),
  (∃ (i : Nat) (z : Option Nat), l[i]? = some (t, z) ∧ lookE (unpackVals vs k l ++ r) t = ⟨.val (nth vs (k + i)), z.map fun _ => k + i⟩) ∨
  ((∀ (i : Nat) (z : Option Nat), l[i]? ≠ some (t, z)) ∧ lookE (unpackVals vs k l ++ r) t = lookE r t)
 | [], k => .inr ⟨by simp, rfl⟩
 | (s, z) :: l, k => by
  have hh : unpackVals vs k ((s, z) :: l) = (s, ⟨.val (nth vs k), z.map fun _ => k⟩) :: unpackVals vs (k + 1) l := by cases z <;> rfl
  rw [hh, List.cons_append, lookE_cons]
  by_cases hs : s = t
  ·subst hs
   rw [if_pos rfl]
   exact .inl ⟨0, z, rfl, rfl⟩
  ·rw [if_neg hs]
   rcases unpackVals_look vs r t l (k + 1) with ⟨i, z', h1, h2⟩ | ⟨h1, h2⟩
   ·refine .inl ⟨i + 1, z', by simpa using h1, ?_⟩
    rw [h2, show k + 1 + i = k + (i + 1) by omega]
   ·refine .inr ⟨fun i z' hi => ?_, h2⟩
    cases i with
    | zero => simp at hi; exact hs hi.1
    | succ i => exact h1 i z' (by simpa using hi)
omit [Dr] in
theorem unpackAl_look : ∀ (l : List (Nat × Option Nat)) (k g : Nat) (y : Option Nat), aliveG (unpackAl k l) g = some y → ∃ (i t sz : Nat), l[i]? = some (t, some sz) ∧ g = k + i ∧ y = some sz
 | [], k, g, y, h => by simp [unpackAl, aliveG] at h
 | (s, none) :: l, k, g, y, h => by
  obtain ⟨i, t, sz, h1, h2, h3⟩ := unpackAl_look l (k + 1) g y h
  exact ⟨i + 1, t, sz, by simpa using h1, by omega, h3⟩
 | (s, some n) :: l, k, g, y, h => by
  simp only [unpackAl, aliveG_cons] at h
  split at h
  ·rename_i hk
   simp only [Option.some.injEq] at h
   exact ⟨0, s, n, rfl, by omega, h.symm⟩
  ·obtain ⟨i, t, sz, h1, h2, h3⟩ := unpackAl_look l (k + 1) g y h
   exact ⟨i + 1, t, sz, by simpa using h1, by omega, h3⟩
omit [Dr] in
theorem locs_look (t : Nat) : ∀ (l : List (Nat × Nat × Nat)), (∃ B off, (t, B, off) ∈ l ∧ lookE (l.map fun x => (x.1, (⟨.loc x.2.1 x.2.2, none⟩ : Ent))) t = ⟨.loc B off, none⟩) ∨ lookE (l.map fun x => (x.1, (⟨.loc x.2.1 x.2.2, none⟩ : Ent))) t = Ent.none
 | [] => .inr rfl
 | (s, B, off) :: l => by
  rw [List.map_cons, lookE_cons]
  by_cases hs : s = t
  ·subst hs
   rw [if_pos rfl]
   exact .inl ⟨B, off, by simp, rfl⟩
  ·rw [if_neg hs]
   rcases locs_look t l with ⟨B', off', h1, h2⟩ | h
   ·exact .inl ⟨B', off', by simp [h1], h2⟩
   ·exact .inr h
omit [Dr] in
theorem locsOk_inv {e : Env} : ∀ {l : List (Nat × Nat × Nat)}, locsOk e l = true → ∀ t B off, (t, B, off) ∈ l → (e.get t).v = .loc B off
 | [], _, t, B, off, h => by simp at h
 | (s, B0, off0) :: l, h, t, B, off, hm => by
  simp only [locsOk, Bool.and_eq_true] at h
  simp only [List.mem_cons, Prod.mk.injEq] at hm
  rcases hm with ⟨rfl, rfl, rfl⟩ | hm
  ·have h1 := h.1
   split at h1
   ·rename_i B' off' hv
    simp only [Bool.and_eq_true] at h1
    rw [hv, Nat.eq_of_beq_eq_true h1.1, Nat.eq_of_beq_eq_true h1.2]
   ·cases h1
  ·exact locsOk_inv h.2 t B off hm
omit [Dr] in
theorem lbsOk_inv {e : Env} : ∀ {l : List (Nat × Nat)}, lbsOk e l = true → ∀ B n, lbSize l B = some n → lbSize e.lb B = some n
 | [], _, B, n, h => by simp [lbSize] at h
 | (B0, n0) :: l, h, B, n, hm => by
  simp only [lbsOk, Bool.and_eq_true] at h
  rw [lbSize_cons] at hm
  split at hm
  ·rename_i hB
   subst hB
   simp only [Option.some.injEq] at hm
   subst hm
   have h1 := h.1
   split at h1
   ·rename_i m hv
    rw [hv, Nat.eq_of_beq_eq_true h1]
   ·cases h1
  ·exact lbsOk_inv h.2 B n hm
section
variable {c : Entry} {N : Nat} {e : Env} {h : Hp} {a : Act} {w : World}
open Classical in
theorem unpack_sound {ja : JA} {vs : List AV} (H : SatE c N e h a w) (hp : pack ja e = some vs) : SatE c N (unpack ja vs) h a w := by
 obtain ⟨S, β, γ, lam, ω, F⟩ := H
 unfold pack at hp
 cases hlo : (locsOk e ja.locs && lbsOk e ja.lbs) with
 | false => rw [hlo] at hp; cases hp
 | true =>
  rw [hlo] at hp
  simp only [cond_true] at hp
  simp only [Bool.and_eq_true] at hlo
  obtain ⟨hlen, hval, hdis⟩ := packVals_inv ja.vals [] vs hp
  -- the groups carried
  let gOf : Nat → Option Nat := fun i => match ja.vals[i]? with | some (t, some _) => (e.get t).g | _ => none
  have hg1 : ∀ i t sz, ja.vals[i]? = some (t, some sz) → ∃ g z0, gOf i = some g ∧ (e.get t).g = some g ∧ aliveG e.al g = some z0 ∧ (z0 = none ∨ z0 = some sz) := by
   intro i t sz hi
   obtain ⟨a', _, _, h3⟩ := hval i t (some sz) hi
   obtain ⟨g, z0, k1, k2, k3, _⟩ := h3 sz rfl
   refine ⟨g, z0, ?_, k1, k2, k3⟩
   show (match ja.vals[i]? with | some (t, some _) => (e.get t).g | _ => none) = some g
   rw [hi]
   exact k1
  have hg2 : ∀ i j g, gOf i = some g → gOf j = some g → i = j := by
   have hex : ∀ i g, gOf i = some g → ∃ t sz, ja.vals[i]? = some (t, some sz) ∧ (e.get t).g = some g := by
    intro i g hi
    have hi' : (match ja.vals[i]? with | some (t, some _) => (e.get t).g | _ => none) = some g := hi
    split at hi'
    ·rename_i t sz ht; exact ⟨t, sz, ht, hi'⟩
    ·cases hi'
   intro i j g hi hj
   obtain ⟨t, sz, k1, k2⟩ := hex i g hi
   obtain ⟨t', sz', m1, m2⟩ := hex j g hj
   rcases Nat.lt_trichotomy i j with hlt | heq | hlt
   ·exact absurd (k2.trans m2.symm) (hdis i j t t' sz sz' hlt k1 m1)
   ·exact heq
   ·exact absurd (m2.trans k2.symm) (hdis j i t' t sz' sz hlt m1 k1)
  let γ' : Nat → Value := fun i => match gOf i with | some g => γ g | none => undef
  let ω' : Nat → Owner := fun b => match ω b with
   | .grp g => if hx : ∃ i, gOf i = some g then .grp (Classical.choose hx) else .no
   | o => o
  have hωg : ∀ b g i, ω b = .grp g → gOf i = some g → ω' b = .grp i := by
   intro b g i hb hi
   show (match ω b with | .grp g => if hx : ∃ i, gOf i = some g then Owner.grp (Classical.choose hx) else .no | o => o) = .grp i
   rw [hb]
   simp only
   have hx : ∃ i, gOf i = some g := ⟨i, hi⟩
   rw [dif_pos hx, hg2 _ _ g (Classical.choose_spec hx) hi]
  have hωo : ∀ b, (∀ g, ω b ≠ .grp g) → ω' b = ω b := by
   intro b hb
   show (match ω b with | .grp g => if hx : ∃ i, gOf i = some g then Owner.grp (Classical.choose hx) else .no | o => o) = ω b
   cases ho : ω b with
   | grp g => exact absurd ho (hb g)
   | _ => rfl
  have hωn : ∀ b, ω' b ≠ .no → ω b ≠ .no := by
   intro b hb ho
   refine hb ?_
   rw [hωo b (fun g hg => by rw [ho] at hg; cases hg), ho]
  have hωx : ∀ b g, ω' b = .grp g → ∃ g', ω b = .grp g' := by
   intro b g hg
   cases ho : ω b with
   | grp g' => exact ⟨g', rfl⟩
   | _ => rw [hωo b (fun g' h' => by rw [ho] at h'; cases h'), ho] at hg; cases hg
  -- the slots
  have hget : ∀ t, (∃ (i : Nat) (z : Option Nat) (a' : AV), ja.vals[i]? = some (t, z) ∧ (e.get t).v = .val a' ∧ (unpack ja vs).get t = ⟨.val a', z.map fun _ => i⟩) ∨ (∃ B off, (e.get t).v = .loc B off ∧ (unpack ja vs).get t = ⟨.loc B off, none⟩) ∨ (unpack ja vs).get t = Ent.none := by
   intro t
   have hu : (unpack ja vs).get t = lookE (unpackVals vs 0 ja.vals ++ ja.locs.map fun x => (x.1, (⟨.loc x.2.1 x.2.2, none⟩ : Ent))) t := rfl
   rcases unpackVals_look vs (ja.locs.map fun x => (x.1, (⟨.loc x.2.1 x.2.2, none⟩ : Ent))) t ja.vals 0 with ⟨i, z, h1, h2⟩ | ⟨h1, h2⟩
   ·obtain ⟨a', k1, k2, _⟩ := hval i t z h1
    refine .inl ⟨i, z, a', h1, k2, ?_⟩
    rw [hu, h2, Nat.zero_add]
    have : nth vs i = a' := by simp [nth, k1]
    rw [this]
   ·rcases locs_look t ja.locs with ⟨B, off, k1, k2⟩ | k
    ·exact .inr (.inl ⟨B, off, locsOk_inv hlo.1 t B off k1, by rw [hu, h2, k2]⟩)
    ·exact .inr (.inr (by rw [hu, h2, k]))
  have hgg : ∀ t g, ((unpack ja vs).get t).g = some g → ∃ sz, ja.vals[g]? = some (t, some sz) := by
   intro t g hg
   rcases hget t with ⟨i, z, a', h1, _, h3⟩ | ⟨_, _, _, h3⟩ | h3
   ·rw [h3] at hg
    cases z with
    | none => simp at hg
    | some sz => simp at hg; subst hg; exact ⟨sz, h1⟩
   ·rw [h3] at hg; cases hg
   ·rw [h3] at hg; cases hg
  have hγ : ∀ t g, ((unpack ja vs).get t).g = some g → ∃ g0 z0, (e.get t).g = some g0 ∧ aliveG e.al g0 = some z0 ∧ γ' g = γ g0 := by
   intro t g hg
   obtain ⟨sz, h1⟩ := hgg t g hg
   obtain ⟨g0, z0, k1, k2, k3, _⟩ := hg1 g t sz h1
   refine ⟨g0, z0, k2, k3, ?_⟩
   show (match gOf g with | some g => γ g | none => undef) = γ g0
   rw [k1]
  refine ⟨S, β, γ', lam, ω', ⟨F.wf, F.gro, F.keep, F.le, F.ext, F.hlen, fun l cs hl hcs => ?_, F.tsz, fun t ht => ?_, fun t g z ht hg hz => ?_, fun B n hB => ?_, fun g z hz => ?_, fun b hb => ⟨(F.mine b (hωn b hb)).1.imp (fun hE => ⟨hE.1, fun g hg => by obtain ⟨g', h'⟩ := hωx b g hg; exact hE.2 g' h'⟩) id, (F.mine b (hωn b hb)).2⟩, fun t g hg => ?_, fun g z hz => ?_⟩⟩
  ·obtain ⟨b, x, h1, h2, h3, h4⟩ := F.heap l cs hl hcs
   exact ⟨b, x, h1, h2, by rw [hωo b (fun g hg => by rw [h3] at hg; cases hg)]; exact h3, h4⟩
  ·have hs := F.slots t ht
   rcases hget t with ⟨i, z, a', _, h2, h3⟩ | ⟨B, off, h2, h3⟩ | h3
   ·rw [h3]; rw [h2] at hs; exact hs
   ·rw [h3]; rw [h2] at hs; exact hs
   ·rw [h3]; simp [Ent.none, SlotR, VR]
  ·obtain ⟨g0, z0, k1, k2, k3⟩ := hγ t g hg
   rw [k3]
   exact F.grps t g0 z0 ht k1 k2
  ·obtain ⟨k1, k2, k3, b, x, k4, k5, k6, k7, k8⟩ := F.lblk B n (lbsOk_inv hlo.2 B n hB)
   refine ⟨k1, k2, k3, b, x, k4, k5, by rw [hωo b (fun g hg => by rw [k6] at hg; cases hg)]; exact k6, k7, fun i hi => ?_⟩
   obtain ⟨v, a', m1, m2, m3, m4⟩ := k8 i hi
   have hgr : ∀ g z, ((unpack ja vs).get (B + i)).g = some g → aliveG (unpack ja vs).al g = some z → v = γ' g := by
    intro g z hg _
    obtain ⟨g0, z0, p1, p2, p3⟩ := hγ _ g hg
    rw [p3]
    exact m4 g0 z0 p1 p2
   rcases hget (B + i) with ⟨j, z, a2, _, h2, h3⟩ | ⟨B', off, h2, h3⟩ | h3
   ·refine ⟨v, a2, m1, by rw [h3], ?_, hgr⟩
    rw [m2] at h2
    cases h2
    exact m3
   ·rw [m2] at h2; cases h2
   ·exact ⟨v, .any, m1, by rw [h3]; rfl, by simp [VR], hgr⟩
  ·obtain ⟨i, t, sz, h1, h2, h3⟩ := unpackAl_look ja.vals 0 g z hz
   rw [Nat.zero_add] at h2
   subst h2
   obtain ⟨g0, z0, k1, k2, k3, k4⟩ := hg1 g t sz h1
   have hγ' : γ' g = γ g0 := by
    show (match gOf g with | some g => γ g | none => undef) = γ g0
    rw [k1]
   rw [hγ']
   obtain ⟨ad, len, cap, m1, m2, m3, m4⟩ := F.free g0 z0 k3
   refine ⟨ad, len, cap, m1, m2, m3, m4.imp id ?_⟩
   rintro ⟨sz', b, off, x, p1, p2, p3, p4, p5, p6⟩
   have : sz' = sz := by
    rcases k4 with k4 | k4 <;> rw [k4] at p1 <;> cases p1
    rfl
   subst this
   exact ⟨sz', b, off, x, h3, p2, p3, p4, hωg b g0 g p5 k1, p6⟩
  ·obtain ⟨sz, h1⟩ := hgg t g hg
   have : g < ja.vals.length := by
    rcases Nat.lt_or_ge g ja.vals.length with h | h
    ·exact h
    ·rw [List.getElem?_eq_none h] at h1; cases h1
   show g < ja.vals.length * 1000
   omega
  ·obtain ⟨i, t, sz, h1, h2, h3⟩ := unpackAl_look ja.vals 0 g z hz
   have : i < ja.vals.length := by
    rcases Nat.lt_or_ge i ja.vals.length with h | h
    ·exact h
    ·rw [List.getElem?_eq_none h] at h1; cases h1
   show g < ja.vals.length * 1000
   omega
omit [Dr] in
theorem frz_any (d : Nat) (h : Hp) : frz d h .any = .any := by cases d <;> rfl
omit [Dr] in
theorem nth_map (g : AV → AV) (hg : g .any = .any) (vs : List AV) (i : Nat) : nth (vs.map g) i = g (nth vs i) := by
 unfold nth
 rw [List.getD_eq_getElem?_getD, List.getD_eq_getElem?_getD, List.getElem?_map]
 cases vs[i]? with
 | none => simp [hg]
 | some v => rfl
structure Reval (g : AV → AV) (x y : Ent) : Prop where
 gr : y.g = x.g
 v : (∃ a, x.v = .val a ∧ y.v = .val (g a)) ∨ (∃ B off, x.v = .loc B off ∧ y.v = .loc B off)
omit [Dr] in
theorem unpackVals_reval (g : AV → AV) (hg : g .any = .any) (vs : List AV) (r : List (Nat × Ent)) (hr : ∀ t, Reval g (lookE r t) (lookE r t)) (t : Nat) : ∀ (l : List (Nat × Option Nat)) (k : Nat),
  Reval g (lookE (unpackVals vs k l ++ r) t) (lookE (unpackVals (vs.map g) k l ++ r) t)
 | [], k => by simpa [unpackVals] using hr t
 | (s, none) :: l, k => by
  simp only [unpackVals, List.cons_append, lookE]
  cases Nat.beq s t with
  | true => exact ⟨rfl, .inl ⟨_, rfl, by simp only [cond_true]; rw [nth_map g hg]⟩⟩
  | false => exact unpackVals_reval g hg vs r hr t l (k + 1)
 | (s, some z) :: l, k => by
  simp only [unpackVals, List.cons_append, lookE]
  cases Nat.beq s t with
  | true => exact ⟨rfl, .inl ⟨_, rfl, by simp only [cond_true]; rw [nth_map g hg]⟩⟩
  | false => exact unpackVals_reval g hg vs r hr t l (k + 1)
omit [Dr] in
theorem unpack_reval (g : AV → AV) (hg : g .any = .any) (ja : JA) (vs : List AV) (t : Nat) : Reval g ((unpack ja vs).get t) ((unpack ja (vs.map g)).get t) := by
 refine unpackVals_reval g hg vs _ (fun t => ?_) t ja.vals 0
 rcases locs_look t ja.locs with ⟨B, off, _, k2⟩ | k
 ·rw [k2]; exact ⟨rfl, .inr ⟨B, off, rfl, rfl⟩⟩
 ·rw [k]; exact ⟨rfl, .inl ⟨.any, rfl, by simp [Ent.none, hg]⟩⟩
theorem FR.reval {U : Nat → Prop} {S : Stab} {β : List Blk} {γ : Nat → Value} {lam : Nat → Option Nat} {ω : Nat → Owner} {e2 : Env} {h2 : Hp} {S2 : Stab} {ω2 : Nat → Owner} {g : AV → AV} (F : FR c N U e h a w S β γ lam ω) (F2 : FR c N U e h2 a w S2 β γ lam ω2) (hg : ∀ x v, VR S β x v → VR S2 β (g x) v)
  (hr : ∀ t, Reval g (e.get t) (e2.get t)) (hal : e2.al = e.al) (hlb : e2.lb = e.lb) : FR c N U e2 h2 a w S2 β γ lam ω2 := by
 refine ⟨F2.wf, F2.gro, F2.keep, F2.le, F2.ext, F2.hlen, F2.heap, F2.tsz, fun t ht => ?_, fun t k z ht hk hz => ?_, fun B n hB => ?_, fun k z hz => F2.free k z (by rw [← hal]; exact hz), F2.mine, fun t k hk => ?_, fun k z hz => F2.used.2 k z (by rw [← hal]; exact hz)⟩
 ·have h1 := F.slots t ht
  rcases (hr t).v with ⟨x, q1, q2⟩ | ⟨B, off, q1, q2⟩
  ·rw [q1] at h1; rw [q2]; exact hg _ _ h1
  ·rw [q1] at h1; rw [q2]; exact h1
 ·rw [(hr t).gr] at hk
  rw [hal] at hz
  exact F2.grps t k z ht hk hz
 ·rw [hlb] at hB
  obtain ⟨k1, k2, k3, b, x, k4, k5, k6, k7, k8⟩ := F2.lblk B n hB
  obtain ⟨_, _, _, b', x', j4, j5, j6, j7, j8⟩ := F.lblk B n hB
  rw [k4] at j4
  cases j4
  cases k5.inj j5
  refine ⟨k1, k2, k3, b, x, k4, k5, k6, k7, fun i hi => ?_⟩
  obtain ⟨v, a', m1, m2, m3, m4⟩ := k8 i hi
  obtain ⟨v', a'', n1, n2, n3, _⟩ := j8 i hi
  rw [m1] at n1
  cases n1
  rcases (hr (B + i)).v with ⟨y, q1, q2⟩ | ⟨B', off, q1, q2⟩
  ·rw [n2] at q1
   cases q1
   refine ⟨v, g a'', m1, q2, hg _ _ n3, fun k z hk hz => ?_⟩
   rw [(hr (B + i)).gr] at hk
   rw [hal] at hz
   exact m4 k z hk hz
  ·rw [n2] at q1; cases q1
 ·rw [(hr t).gr] at hk
  exact F2.used.1 t k hk
theorem freeze_unpack {ja : JA} {vs : List AV} (H : SatE c N (unpack ja vs) h a w) : SatE c N (unpack ja (vs.map (frz 6 h))) (h.map fun _ => []) a w := by
 obtain ⟨S, β, γ, lam, ω, F⟩ := H
 obtain ⟨S2, ω2, F2, hf⟩ := F.freeze
 have F3 := F.reval F2 (g := frz 6 h) (fun x v hx => hf _ _ hx) (unpack_reval _ (frz_any 6 h) ja vs) (e2 := unpack ja (vs.map (frz 6 h))) rfl rfl
 exact ⟨S2, β, γ, lam, ω2, F3⟩
end
end Go.Av

/- A piece of code. Conditions: the table of types is the program's; the calls are right; isolated calls see nothing of the heap. -/
namespace Go.Av
variable [Dr]
section
variable {P : Program} {Q : Exit → Act → World → Prop} {b : Code}
def LoopAt (P : Program) (c : Code) (Q : Exit → Act → World → Prop) (a : Act) (w : World) : Prop :=
 ∀ (b : Frame) (k : List Item) (cs : List Frame), ∃ e a' w', Q e a' w' ∧ Arrives P (lone (b.at a (.code c :: .inLoop c :: k)) cs w) b k cs e a' w'
omit [Dr] in
theorem LoopAt.loop {a : Act} {w : World} (h : LoopAt P b Q a w) : (Code.loop b).wp P Q a w :=
 fun f k cs => let ⟨e, a', w', q, r⟩ := h f k cs; ⟨e, a', w', q, .of_steps (.one step_loop) r⟩
omit [Dr] in
theorem LoopAt.round {a : Act} {w : World} (h : b.wp P (Exit.then (LoopAt P b Q) Q) a w) : LoopAt P b Q a w := by
 intro f k cs
 obtain ⟨e, a₁, w₁, hq, harr⟩ := h f (.inLoop b :: k) cs
 cases e with
 | normal =>
  obtain ⟨e₂, a₂, w₂, hq₂, harr₂⟩ := hq f k cs
  exact ⟨e₂, a₂, w₂, hq₂, .of_steps (Steps.trans harr (.one step_inLoop)) harr₂⟩
 | exit id => exact ⟨_, a₁, w₁, hq, .pass (x := .inLoop b) rfl (fun _ _ => .inl (by simp)) harr⟩
 | goto l => exact ⟨_, a₁, w₁, hq, .pass (x := .inLoop b) rfl (fun _ _ => .inl (by simp)) harr⟩
 | ret => exact ⟨_, a₁, w₁, hq, .pass (x := .inLoop b) rfl (fun _ _ => .inl (by simp)) harr⟩
 | panic ch => exact ⟨_, a₁, w₁, hq, .pass (x := .inLoop b) rfl (fun _ _ => .inl (by simp)) harr⟩
 | outgrown => exact ⟨_, a₁, w₁, hq, .pass (x := .inLoop b) rfl (fun _ _ => .inl (by simp)) harr⟩
end
section
variable {P : Program} {cx : Cx} {c : Entry} {ρ : Type}
omit [Dr] in
theorem ev_block {fx : Fix ρ} {id : Nat} {code : Code} {e : Env} {kn kr : Env → M ρ} {kx : Nat → Env → M ρ} (hc : ∀ b, code ≠ .loop b) :
  ev cx fx (.block id code) e kn kx kr = ev cx fx code e kn (fun i e' => bif Nat.beq i id then kn e' else kx i e') kr := by
 cases code <;> first | rfl | exact absurd rfl (hc _)
def joinAt (cx : Cx) (x : Code) : Option JA := match condKey x with
 | some t => findJ cx.ann.joins t
 | none => none
omit [Dr] in
theorem ev_seq {fx : Fix ρ} {x y : Code} {e : Env} {kn kr : Env → M ρ} {kx : Nat → Env → M ρ} : ev cx fx (.seq x y) e kn kx kr = (match joinAt cx x with
  | some ja => jn (fun vs => ev cx fx y (unpack ja vs) kn kx kr) fun j => ev cx fx x e (toJ ja j) kx kr
  | none => ev cx fx x e (fun e' => ev cx fx y e' kn kx kr) kx kr) := by
 unfold joinAt
 simp only [ev]
 cases condKey x with
 | none => rfl
 | some t =>
  simp only
  cases findJ cx.ann.joins t <;> rfl
structure Posts (c : Entry) (N : Nat) (r : R ρ) (a : Act) (kn : Env → M ρ) (kx : Nat → Env → M ρ) (kr : Env → M ρ) (Q : Exit → Act → World → Prop) : Prop where
 nrm : ∀ e' h' a' w', r = kn e' h' → SatE c N e' h' a' w' → a'.defers = a.defers → Q .normal a' w'
 ext : ∀ i e' h' a' w', r = kx i e' h' → SatE c N e' h' a' w' → a'.defers = a.defers → Q (.exit i) a' w'
 ret : ∀ e' h' a' w', r = kr e' h' → SatE c N e' h' a' w' → a'.defers = a.defers → Q .ret a' w'
 pan : ∀ pv h' v w' a', r = .pan pv h' → PanSat c pv h' v w' → a'.defers = a.defers → Q (.panic [{ v, recovered := false }]) a' w'
theorem toJ_inv {ja : JA} {j : List AV → M ρ} {e : Env} {h : Hp} {N : Nat} {a : Act} {w : World} (H : SatE c N e h a w) (hr : toJ ja j e h ≠ .fail) : ∃ vs h', toJ ja j e h = j vs h' ∧ SatE c N (unpack ja vs) h' a w := by
 unfold toJ at hr ⊢
 cases hp : pack ja e with
 | none => rw [hp] at hr; exact absurd rfl hr
 | some vs =>
  have hs := unpack_sound H hp
  simp only
  cases ja.fz with
  | false => exact ⟨vs, h, rfl, hs⟩
  | true => exact ⟨_, _, rfl, freeze_unpack hs⟩
theorem ev_sound (hT : TOK P cx.T) (hC : CallsOK P cx.own cx.call) (hI : IsoCall cx) (hk : ∀ p, isS (findK cx.ann.kinds p .L) = true → p < cx.nt) (m : Nat) : ∀ (n : Nat) (code : Code), SizeOf.sizeOf code < n →
  ∀ (e : Env) (h : Hp) (a : Act) (w : World) (kn : Env → M ρ) (kx : Nat → Env → M ρ) (kr : Env → M ρ) (Q : Exit → Act → World → Prop), SatE c cx.nt e h a w → ev cx (fixM m) code e kn kx kr h ≠ .fail →
  Posts c cx.nt (ev cx (fixM m) code e kn kx kr h) a kn kx kr Q → code.wp P Q a w := by
 intro n
 induction n with
 | zero => intro code hn; omega
 | succ n ih =>
  intro code hn e h a w kn kx kr Q H hr hp
  cases code <;> (try exact absurd rfl hr)
  case skip => exact wp_skip (hp.nrm e h a w rfl H rfl)
  case exit id => exact wp_exit (hp.ext id e h a w rfl H rfl)
  case ret => exact wp_ret (hp.ret e h a w rfl H rfl)
  case region id ops draw => exact reg_sound hT hC hI hk H hr hp.nrm hp.pan
  case seq x y =>
   have hx : SizeOf.sizeOf x < n := by simp at hn; omega
   have hy : SizeOf.sizeOf y < n := by simp at hn; omega
   refine wp_seq ?_
   rw [ev_seq] at hr hp
   generalize joinAt cx x = oj at hr hp
   cases oj with
   | none =>
    simp only at hr hp
    refine ih x hx e h a w _ kx kr _ H hr ⟨fun e' h' a' w' hok hs hd => ?_, fun i e' h' a' w' hok hs hd => hp.ext i e' h' a' w' hok hs hd, fun e' h' a' w' hok hs hd => hp.ret e' h' a' w' hok hs hd, fun pv h' v w' a' hok hs hd => hp.pan pv h' v w' a' hok hs hd⟩
    rw [hok] at hr hp
    exact ih y hy e' h' a' w' kn kx kr Q hs hr ⟨fun e2 h2 a2 w2 k1 k2 k3 => hp.nrm e2 h2 a2 w2 k1 k2 (k3.trans hd), fun i e2 h2 a2 w2 k1 k2 k3 => hp.ext i e2 h2 a2 w2 k1 k2 (k3.trans hd), fun e2 h2 a2 w2 k1 k2 k3 => hp.ret e2 h2 a2 w2 k1 k2 (k3.trans hd), fun pv h2 v w2 a2 k1 k2 k3 => hp.pan pv h2 v w2 a2 k1 k2 (k3.trans hd)⟩
   | some ja =>
    simp only [jn] at hr hp
    refine ih x hx e h a w _ kx kr _ H hr ⟨fun e' h' a' w' hok hs hd => ?_, fun i e' h' a' w' hok hs hd => hp.ext i e' h' a' w' hok hs hd, fun e' h' a' w' hok hs hd => hp.ret e' h' a' w' hok hs hd, fun pv h' v w' a' hok hs hd => hp.pan pv h' v w' a' hok hs hd⟩
    rw [hok] at hr hp
    obtain ⟨vs, h3, hj, hs3⟩ := toJ_inv hs hr
    rw [hj] at hr hp
    exact ih y hy (unpack ja vs) h3 a' w' kn kx kr Q hs3 hr ⟨fun e2 h2 a2 w2 k1 k2 k3 => hp.nrm e2 h2 a2 w2 k1 k2 (k3.trans hd), fun i e2 h2 a2 w2 k1 k2 k3 => hp.ext i e2 h2 a2 w2 k1 k2 (k3.trans hd), fun e2 h2 a2 w2 k1 k2 k3 => hp.ret e2 h2 a2 w2 k1 k2 (k3.trans hd), fun pv h2 v w2 a2 k1 k2 k3 => hp.pan pv h2 v w2 a2 k1 k2 (k3.trans hd)⟩
  case cond o x y =>
   have hx : SizeOf.sizeOf x < n := by simp at hn; omega
   have hy : SizeOf.sizeOf y < n := by simp at hn; omega
   cases o <;> (try exact absurd rfl hr)
   case const v =>
    simp only [ev] at hr hp
    have hav : ∀ b, cA v = .bool b → a.eval (.const v) = .bool b := by
     intro b hb
     show v = .bool b
     cases v with
     | bool c => simp only [cA, cA1, AV.bool.injEq] at hb; rw [hb]
     | tuple vs => simp only [cA] at hb; cases hvs : vs.isEmpty <;> rw [hvs] at hb <;> cases hb
     | pointer p => cases p <;> (simp only [cA, cA1] at hb; cases hb)
     | slice p n m =>
      have hs : cA1 (.slice p n m) = .sl [] ∨ cA1 (.slice p n m) = .any := by
       cases p with
       | some q => exact .inr rfl
       | none => cases n with
        | succ n => exact .inr rfl
        | zero => cases m with
         | succ m => exact .inr rfl
         | zero => exact .inl rfl
      simp only [cA] at hb
      rcases hs with hs | hs <;> rw [hs] at hb <;> cases hb
     | _ => simp only [cA, cA1] at hb; cases hb
    cases hq : cA v <;> rw [hq] at hr hp <;> (try exact absurd rfl hr)
    rename_i b
    cases b with
    | true => exact wp_cond (hav true hq) (ih x hx e h a w kn kx kr Q H hr hp)
    | false => exact wp_cond (hav false hq) (ih y hy e h a w kn kx kr Q H hr hp)
   rename_i t
   simp only [ev] at hr hp
   cases ht : decide (t < 1000) with
   | false => rw [ht] at hr; exact absurd rfl hr
   | true =>
    rw [ht] at hr hp
    simp only [cond_true] at hr hp
    have htl : t < 1000 := by simpa using ht
    have hav : ∀ b, e.av t = .bool b → a.eval (.tmp t) = .bool b := by
     intro b hb
     obtain ⟨S, β, γ, lam, ω, F⟩ := H
     have hs := F.slots t htl
     simp only [Env.av, Ent.av] at hb
     cases hv : (e.get t).v with
     | val av =>
      rw [hv] at hs hb
      simp only at hb
      subst hb
      simp only [SlotR, VR] at hs
      exact hs
     | loc B off => rw [hv] at hb; cases hb
    cases hq : e.av t <;> rw [hq] at hr hp <;> (try exact absurd rfl hr)
    rename_i b
    cases b with
    | true => exact wp_cond (hav true hq) (ih x hx e h a w kn kx kr Q H hr hp)
    | false => exact wp_cond (hav false hq) (ih y hy e h a w kn kx kr Q H hr hp)
  case block id code =>
   refine wp_block ?_
   by_cases hc : ∃ b, code = .loop b
   ·obtain ⟨b, rfl⟩ := hc
    have hb : SizeOf.sizeOf b < n := by simp at hn; omega
    simp only [ev] at hr hp
    cases hja : findJ cx.ann.loops id with
    | none => rw [hja] at hr; exact absurd rfl hr
    | some ja =>
     rw [hja] at hr hp
     simp only at hr hp
     refine LoopAt.loop ?_
     obtain ⟨vs, h3, hj, hs3⟩ := toJ_inv H hr
     rw [hj] at hr hp
     have key : ∀ (k : Nat) (vs : List AV) (h : Hp) (a1 : Act) (w : World), SatE c cx.nt (unpack ja vs) h a1 w → a1.defers = a.defers →
       fixM k (fun self vs => ev cx (fixM m) b (unpack ja vs) (toJ ja self) (fun i e' => bif Nat.beq i id then kn e' else kx i e') kr) vs h ≠ .fail →
       Posts c cx.nt (fixM k (fun self vs => ev cx (fixM m) b (unpack ja vs) (toJ ja self) (fun i e' => bif Nat.beq i id then kn e' else kx i e') kr) vs h) a kn kx kr Q → LoopAt P b (Exit.inBlock id Q) a1 w := by
      intro k
      induction k with
      | zero => intro vs h a1 w _ _ hr _; exact absurd rfl hr
      | succ k ihk =>
       intro vs h a1 w hs hd hr hp
       simp only [fixM] at hr hp
       refine LoopAt.round (ih b hb (unpack ja vs) h a1 w _ _ kr _ hs hr ⟨fun e' h' a' w' hok hs' hd' => ?_, fun i e' h' a' w' hok hs' hd' => ?_, fun e' h' a' w' hok hs' hd' => hp.ret e' h' a' w' hok hs' (hd'.trans hd), fun pv h' v w' a' hok hs' hd' => hp.pan pv h' v w' a' hok hs' (hd'.trans hd)⟩)
       ·rw [hok] at hr hp
        obtain ⟨vs', h4, hj', hs4⟩ := toJ_inv hs' hr
        rw [hj'] at hr hp
        exact ihk vs' h4 a' w' hs4 (hd'.trans hd) hr hp
       ·cases hi : Nat.beq i id with
        | true =>
         rw [hi] at hok
         have := Nat.eq_of_beq_eq_true hi
         subst this
         show Exit.inBlock i Q (.exit i) a' w'
         simp only [Exit.inBlock, if_true]
         exact hp.nrm e' h' a' w' hok hs' (hd'.trans hd)
        | false =>
         rw [hi] at hok
         have hne : i ≠ id := fun hh => by subst hh; simp at hi
         show Exit.inBlock id Q (.exit i) a' w'
         simp only [Exit.inBlock, if_neg hne]
         exact hp.ext i e' h' a' w' hok hs' (hd'.trans hd)
     exact key m vs h3 a w hs3 rfl hr hp
   ·have hc' : ∀ b, code ≠ .loop b := fun b hb => hc ⟨b, hb⟩
    rw [ev_block hc'] at hr hp
    have hs : SizeOf.sizeOf code < n := by simp at hn; omega
    refine ih code hs e h a w kn _ kr _ H hr ⟨fun e' h' a' w' hok hs' hd' => hp.nrm e' h' a' w' hok hs' hd', fun i e' h' a' w' hok hs' hd' => ?_, fun e' h' a' w' hok hs' hd' => hp.ret e' h' a' w' hok hs' hd', fun pv h' v w' a' hok hs' hd' => hp.pan pv h' v w' a' hok hs' hd'⟩
    cases hi : Nat.beq i id with
    | true =>
     rw [hi] at hok
     have := Nat.eq_of_beq_eq_true hi
     subst this
     show Exit.inBlock i Q (.exit i) a' w'
     simp only [Exit.inBlock, if_true]
     exact hp.nrm e' h' a' w' hok hs' hd'
    | false =>
     rw [hi] at hok
     have hne : i ≠ id := fun hh => by subst hh; simp at hi
     show Exit.inBlock id Q (.exit i) a' w'
     simp only [Exit.inBlock, if_neg hne]
     exact hp.ext i e' h' a' w' hok hs' hd'
end
end Go.Av

/- A function's body. Conditions: the table of types is the program's; the calls are right; isolated calls see nothing of the heap. -/
namespace Go.Av
variable [Dr]
omit [Dr] in
theorem argSl_look : ∀ (args : List AV) (i t : Nat), lookE (argSl i args) t = if i ≤ t ∧ t < i + args.length then ⟨.val (nth args (t - i)), none⟩ else Ent.none
 | [], i, t => by
  simp only [argSl, lookE, List.length_nil, Nat.add_zero]
  rw [if_neg (by omega)]
 | a :: as, i, t => by
  simp only [argSl, lookE_cons, List.length_cons]
  by_cases h : i = t
  ·subst h
   rw [if_pos rfl, if_pos (by omega)]
   simp [nth]
  ·rw [if_neg h, argSl_look as (i + 1) t]
   by_cases h2 : i + 1 ≤ t ∧ t < i + 1 + as.length
   ·rw [if_pos h2, if_pos (by omega)]
    have : t - i = (t - (i + 1)) + 1 := by omega
    simp [nth, this]
   ·rw [if_neg h2, if_neg (by omega)]
section
variable {P : Program} {cx : Cx}
open Classical in
theorem start {w : World} {S : Stab} {β : List Blk} {h : Hp} {args : List AV} {vs : List Value} {n : Nat} (hg : GOK β h w) (hw : Wf S w) (hh : HeapX S β w h) (hv : VRs S β args vs) (hn : args.length ≤ n) (hn2 : n ≤ 1000) :
  SatE { w, S, β, E := HOwn β h, gok := hg } n (env0 args) h { tmps := vs.toArray ++ Array.replicate (n - vs.toArray.size) undef, defers := [] } w := by
 obtain ⟨hlen, ω0, hr⟩ := hh
 have hvl := hv.length
 have hget : ∀ t, (env0 args).get t = if t < args.length then ⟨.val (nth args t), none⟩ else Ent.none := fun t => by
  have := argSl_look args 0 t
  simp only [Nat.zero_le, true_and, Nat.zero_add, Nat.sub_zero] at this
  exact this
 let ω : Nat → Owner := fun b => if HOwn β h b then ω0 b else .no
 refine ⟨S, β, fun _ => undef, fun _ => none, ω, ⟨hw, Gro.refl _, fun b _ _ => ⟨rfl, fun _ => rfl⟩, Stab.le_refl S, Ext.refl β, hlen, fun l cs hl hcs => ?_, ⟨?_, hn2⟩, fun t ht => ?_, fun t g z ht hg => ?_, fun B m hB => ?_, fun g z hz => ?_, fun b hb => ?_, fun t g hg => ?_, fun g z hz => ?_⟩⟩
 ·obtain ⟨b, x, h1, h2, h3, h4⟩ := hr l cs hl hcs
  refine ⟨b, x, h1, h2, ?_, h4⟩
  show (if HOwn β h b then ω0 b else .no) = _
  rw [if_pos ⟨l, cs, _, hl, hcs, h1⟩]
  exact h3
 ·simp; omega
 ·rw [hget]
  split
  ·rename_i hlt
   have hx : args[t]? = some (nth args t) := by simp [nth, hlt]
   obtain ⟨v, h1, h2⟩ := hv.get hx
   have : (vs.toArray ++ Array.replicate (n - vs.toArray.size) undef).getD t undef = v := by
    rw [Array.getD_eq_getD_getElem?, Array.getElem?_append_left (by simp; omega)]
    simp [h1]
   rw [this]
   exact h2
  ·simp [Ent.none, SlotR, VR]
 ·rw [hget] at hg
  split at hg <;> cases hg
 ·cases hB
 ·cases hz
 ·have hb' : HOwn β h b := by
   by_cases ho : HOwn β h b
   ·exact ho
   ·exact absurd (show ω b = .no from if_neg ho) hb
  obtain ⟨l, cs, m, h1, h2, h3⟩ := hb'
  obtain ⟨b', x, k1, k2, k3, _⟩ := hr l cs h1 h2
  rw [h3] at k1
  cases k1
  have hω : ω b = .heap l := by
   show (if HOwn β h b then ω0 b else .no) = _
   rw [if_pos ⟨l, cs, _, h1, h2, h3⟩]
   exact k3
  exact ⟨.inl ⟨⟨l, cs, _, h1, h2, h3⟩, fun g => by rw [hω]; simp⟩, k2.lt⟩
 ·rw [hget] at hg
  split at hg <;> cases hg
 ·cases hz
def readRes (tmps : Array Value) : ResultVar → Sem Value
 | .tmp t => pure (tmps.getD t undef)
 | .cell p t => do loadVar t (← asAddr (tmps.getD p undef))
omit [Dr] in
theorem results_eq (fn : Func) (tmps : Array Value) : results fn tmps = (do let vs ← fn.results.mapM (readRes tmps); pure (if h : vs.size = 1 then vs[0] else .tuple vs)) := by
 unfold results
 congr 1
theorem res_ok {c : Entry} {N : Nat} {U : Nat → Prop} {e : Env} {h : Hp} {a : Act} {w : World} {S : Stab} {β : List Blk} {γ : Nat → Value} {lam : Nat → Option Nat} {ω : Nat → Owner} (hT : TOK P cx.T) (F : FR c N U e h a w S β γ lam ω)
  {r : ResultVar} {v : AV} (hr : resOf cx.T e r = some v) : ∃ u, (readRes a.tmps r).run P w = .ok u w ∧ VR S β v u := by
 cases r with
 | tmp t =>
  simp only [resOf] at hr
  cases ht : decide (t < 1000) with
  | false => rw [ht] at hr; cases hr
  | true =>
   rw [ht] at hr
   simp only [cond_true] at hr
   have hs := F.slots t (by simpa using ht)
   cases hv : (e.get t).v with
   | loc B off => rw [hv] at hr; cases hr
   | val av =>
    rw [hv] at hr hs
    simp only [Option.some.injEq] at hr
    subst hr
    exact ⟨_, by simp only [readRes, Sem.run_pure], hs⟩
 | cell p t =>
  simp only [resOf] at hr
  cases hp : decide (p < 1000) with
  | false => rw [hp] at hr; cases hr
  | true =>
   rw [hp] at hr
   simp only [cond_true] at hr
   have hs := F.slots p (by simpa using hp)
   cases hv : (e.get p).v with
   | loc B off =>
    rw [hv] at hr hs
    cases ht : cx.T t with
    | none => rw [ht] at hr; cases hr
    | some ti =>
     rw [ht] at hr
     simp only at hr
     cases hin : inLb e B off ti.size with
     | false => rw [hin] at hr; cases hr
     | true =>
      rw [hin] at hr
      simp only [cond_true] at hr
      simp only [SlotR] at hs
      obtain ⟨b, hlam, hpv⟩ := hs
      obtain ⟨b', x, m, hm, hle, hlam', hrow, hms, hcells⟩ := F.locals hin
      rw [hlam] at hlam'; cases hlam'
      let f : Nat → Value := fun i => (x[off + i]?).getD undef
      have hf : ∀ i, i < ti.size → x[off + i]? = some (f i) := fun i hi => by
       obtain ⟨v, _, hv', _⟩ := hcells i hi
       show _ = some ((x[off + i]?).getD undef)
       rw [hv']; rfl
      have hload := loadVar_row hT ht hrow f hf
      have hexec : ∀ v, (loadVar t ⟨b, off, none⟩).run P w = .ok v w → (readRes a.tmps (.cell p t)).run P w = .ok v w := fun v hv' => by
       simp only [readRes]; rw [hpv]; simpa [asAddr] using hv'
      cases hag : ti.agg with
      | true =>
       rw [hag] at hr
       simp only [cond_true, Option.some.injEq] at hr
       subst hr
       refine ⟨_, hexec _ (hload.1 hag), ?_⟩
       simp only [VR]
       refine ⟨_, rfl, getLs_ok ti.size fun i hi => ?_⟩
       obtain ⟨v, a', g1, g2, g3, _⟩ := hcells i hi
       have : f i = v := by show (x[off + i]?).getD undef = v; rw [g1]; rfl
       rw [this]
       simp only [Env.av, Ent.av, g2]
       exact g3
      | false =>
       rw [hag] at hr
       simp only [cond_false] at hr
       cases hone : decide (ti.size = 1) with
       | false => rw [hone] at hr; cases hr
       | true =>
        rw [hone] at hr
        simp only [cond_true, Option.some.injEq] at hr
        subst hr
        have hone' : ti.size = 1 := by simpa using hone
        obtain ⟨v, a', g1, g2, g3, g4⟩ := hcells 0 (by omega)
        simp only [Nat.add_zero] at g1 g2 g4
        have hfv : f 0 = v := by show (x[off + 0]?).getD undef = v; rw [Nat.add_zero, g1]; rfl
        refine ⟨v, hexec _ (hfv ▸ hload.2 hag hone'), ?_⟩
        simp only [Env.av, Ent.av, g2]
        exact g3
   | val av =>
    rw [hv] at hr hs
    cases ht : cx.T t with
    | none => rw [ht] at hr; cases hr
    | some ti =>
     rw [ht] at hr
     simp only at hr
     obtain ⟨v, h1, h2⟩ := load_ok hT F.wf hr hs
     refine ⟨v, ?_, h2⟩
     unfold loadA at hr
     rw [ht] at hr
     cases av <;> simp only [reduceCtorEq] at hr
     simp only [SlotR, VR] at hs
     obtain ⟨b, off, vs, hpv, _, _⟩ := hs
     simp only [readRes]
     rw [hpv] at h1 ⊢
     simpa [Instr.loadAt, Instr.sureAddr, asAddr] using h1
theorem results_ok {c : Entry} {N : Nat} {U : Nat → Prop} {e : Env} {h : Hp} {a : Act} {w : World} {S : Stab} {β : List Blk} {γ : Nat → Value} {lam : Nat → Option Nat} {ω : Nat → Owner} (hT : TOK P cx.T) (F : FR c N U e h a w S β γ lam ω)
  {fn : Func} {vs : List AV} (hr : resAll cx.T e fn.results.toList = some vs) : ∃ u, (results fn a.tmps).run P w = .ok u w ∧ VR S β (tupOf vs) u := by
 have key : ∀ (l : List ResultVar) (vs : List AV), resAll cx.T e l = some vs → ∃ us : List Value, (l.mapM (readRes a.tmps)).run P w = .ok us w ∧ VRs S β vs us := by
  intro l
  induction l with
  | nil => intro vs h; simp only [resAll, Option.some.injEq] at h; subst h; exact ⟨[], by simp, by simp [VRs]⟩
  | cons r rs ih =>
   intro vs h
   simp only [resAll] at h
   cases h1 : resOf cx.T e r with
   | none => rw [h1] at h; cases h
   | some v =>
    cases h2 : resAll cx.T e rs with
    | none => rw [h1, h2] at h; cases h
    | some vs' =>
     rw [h1, h2] at h
     simp only [Option.some.injEq] at h
     subst h
     obtain ⟨u, k1, k2⟩ := res_ok hT F h1
     obtain ⟨us, m1, m2⟩ := ih vs' h2
     refine ⟨u :: us, ?_, by simp only [VRs]; exact ⟨u, us, rfl, k2, m2⟩⟩
     rw [List.mapM_cons, Sem.run_bind, k1, Result.andThen_ok, Sem.run_bind, m1, Result.andThen_ok, Sem.run_pure]
 obtain ⟨us, k1, k2⟩ := key _ _ hr
 have hlen := k2.length
 have hrun : (fn.results.mapM (readRes a.tmps)).run P w = .ok us.toArray w := by
  rw [Array.mapM_eq_mapM_toList]
  rw [map_eq_pure_bind, Sem.run_bind, k1, Result.andThen_ok, Sem.run_pure]
 refine ⟨if h : us.toArray.size = 1 then us.toArray[0] else .tuple us.toArray, ?_, ?_⟩
 ·rw [results_eq, Sem.run_bind, hrun, Result.andThen_ok, Sem.run_pure]
 ·unfold tupOf
  split
  ·rename_i v
   cases us with
   | nil => simp at hlen
   | cons u us =>
    cases us with
    | nil => simp only [VRs] at k2; obtain ⟨x, xs, hx, hy, _⟩ := k2; simp at hx; simp [hx.1, hy]
    | cons u2 us => simp at hlen
  ·rename_i hne
   rw [dif_neg]
   ·simp only [VR]; exact ⟨us, rfl, k2⟩
   ·intro h1
    have : vs.length = 1 := by rw [← hlen]; simpa using h1
    match vs, this with
    | [v], _ => exact hne v rfl
end
end Go.Av

/- A function. Conditions: the table of types is the program's; the calls are right; isolated calls see nothing of the heap. -/
namespace Go.Av
variable [Dr]
omit [Dr] in
theorem kindsOk_inv {n : Nat} {ks : List (Nat × Kind)} (h : kindsOk n ks = true) : ∀ p, isS (findK ks p .L) = true → p < n := by
 intro p hp
 induction ks with
 | nil => simp [findK, isS] at hp
 | cons x ks ih =>
  obtain ⟨k, y⟩ := x
  unfold kindsOk at h
  simp only [List.all_cons, Bool.and_eq_true] at h
  simp only [findK] at hp
  cases hk : Nat.beq k p with
  | true =>
   rw [hk] at hp
   simp only [cond_true] at hp
   have := h.1
   rw [hp] at this
   have hk' := Nat.eq_of_beq_eq_true hk
   subst hk'
   simpa using this
  | false =>
   rw [hk] at hp
   exact ih h.2 hp
section
variable {P : Program} {cx : Cx}
theorem own_ok {c : Entry} {N : Nat} {U : Nat → Prop} {e : Env} {h : Hp} {a : Act} {w : World} {S : Stab} {β : List Blk} {γ : Nat → Value} {lam : Nat → Option Nat} {ω : Nat → Owner} (F : FR c N U e h a w S β γ lam ω)
  {fn : Func} {sz : Nat} (ho : ownRes fn e sz = true) {u : Value} (hu : (results fn a.tmps).run P w = .ok u w) : OwnedR c.w.heap.size S β w h sz u := by
 unfold ownRes at ho
 split at ho
 ·rename_i t hres
  cases ht : decide (t < 1000) with
  | false => rw [ht] at ho; cases ho
  | true =>
   rw [ht] at ho
   simp only [Bool.true_and] at ho
   split at ho
   ·rename_i g hg
    split at ho
    ·rename_i z hz
     have hgr := F.grps t g z (by simpa using ht) hg hz
     obtain ⟨ad, len, cap, h1, h2, h3, h4⟩ := F.free g z hz
     have hue : u = a.tmps.getD t undef := by
      have hr : fn.results = #[.tmp t] := by apply Array.ext'; simpa using hres
      rw [results_eq, hr] at hu
      simp [readRes] at hu
      simpa using hu.symm
     rw [hue, hgr]
     refine ⟨ad, len, cap, h1, h2, h3, h4.imp id ?_⟩
     rintro ⟨sz', b, off, x, k1, k2, k3, k4, k5, k6⟩
     have hsz : sz' = sz := by
      rw [k1] at ho
      simp only [szOk] at ho
      exact Nat.eq_of_beq_eq_true ho
     subst hsz
     refine ⟨b, off, x, k2, k3, k4, (F.mine b (by rw [k5]; simp)).1.grp k5, fun hb => ?_, k6⟩
     obtain ⟨l, _, hl, _⟩ := F.hown hb
     rw [k5] at hl
     cases hl
    ·cases ho
   ·cases ho
 ·cases ho
omit [Dr] in
theorem retK_inv {fn : Func} {own : Option Nat} {e : Env} {h : Hp} (hr : retK cx fn own e h ≠ .fail) : ∃ rs, resAll cx.T e fn.results.toList = some rs ∧ retK cx fn own e h = .ok (tupOf rs) h ∧ ∀ sz, own = some sz → ownRes fn e sz = true := by
 have key : ∀ b : Bool, (bif b then bnd (lft ((resAll cx.T e fn.results.toList).map tupOf)) M.pure else M.fail : M AV) h ≠ .fail → b = true ∧ ∃ rs, resAll cx.T e fn.results.toList = some rs ∧ (bif b then bnd (lft ((resAll cx.T e fn.results.toList).map tupOf)) M.pure else M.fail : M AV) h = .ok (tupOf rs) h := by
  intro b hr
  cases b with
  | false => exact absurd rfl hr
  | true =>
   refine ⟨rfl, ?_⟩
   cases hres : resAll cx.T e fn.results.toList with
   | none => rw [hres] at hr; exact absurd rfl hr
   | some rs => exact ⟨rs, rfl, rfl⟩
 unfold retK at hr ⊢
 cases own with
 | none =>
  obtain ⟨_, rs, h1, h2⟩ := key true hr
  exact ⟨rs, h1, h2, fun sz hsz => by cases hsz⟩
 | some sz =>
  obtain ⟨h0, rs, h1, h2⟩ := key _ hr
  exact ⟨rs, h1, h2, fun sz' hsz => by cases hsz; exact h0⟩
theorem body_sound (hT : TOK P cx.T) (hC : CallsOK P cx.own cx.call) (hI : IsoCall cx) (m : Nat) {f : FuncId} {fn : Func} (hf : P.funcs[f]? = some fn) (hnt : cx.nt = fn.ntmps) {own : Option Nat} {args : List AV} {h : Hp} {S : Stab} {β : List Blk} {w : World} {vs : List Value}
  (hr : evBody cx (fixM m) fn own args h ≠ .fail) (hg : GOK β h w) (hw : Wf S w) (hh : HeapX S β w h) (hv : VRs S β args vs) : Calls P f vs.toArray w (CPost own S β h w (evBody cx (fixM m) fn own args h)) ∧ fn.body.isSome = true := by
 unfold evBody at hr ⊢
 cases hb : fn.body with
 | none => rw [hb] at hr; exact absurd rfl hr
 | some code =>
  rw [hb] at hr
  simp only at hr ⊢
  refine ⟨?_, rfl⟩
  cases hc : (decide (args.length ≤ fn.ntmps) && decide (fn.ntmps ≤ 1000) && kindsOk cx.nt cx.ann.kinds) with
  | false => rw [hc] at hr; exact absurd rfl hr
  | true =>
   rw [hc] at hr
   simp only [cond_true] at hr ⊢
   simp only [Bool.and_eq_true, decide_eq_true_eq] at hc
   obtain ⟨⟨hc1, hc2⟩, hc3⟩ := hc
   have H : SatE { w, S, β, E := HOwn β h, gok := hg } cx.nt (env0 args) h { tmps := vs.toArray ++ Array.replicate (fn.ntmps - vs.toArray.size) undef, defers := [] } w := by
    rw [hnt]
    exact start hg hw hh hv hc1 hc2
   have hret : ∀ (e' : Env) (h' : Hp) (a' : Act) (w' : World), ev cx (fixM m) code (env0 args) (retK cx fn own) (fun _ _ => M.fail) (retK cx fn own) h = retK cx fn own e' h' →
     SatE { w, S, β, E := HOwn β h, gok := hg } cx.nt e' h' a' w' → ∃ v, (results fn a'.tmps).run P w' = .ok v w' ∧ CPost own S β h w (ev cx (fixM m) code (env0 args) (retK cx fn own) (fun _ _ => M.fail) (retK cx fn own) h) (.returned v) w' := by
    intro e' h' a' w' hok hs
    rw [hok] at hr ⊢
    obtain ⟨rs, hres, hret, hown⟩ := retK_inv hr
    rw [hret]
    obtain ⟨S', β', γ, lam, ω, F⟩ := hs
    obtain ⟨u, hu1, hu2⟩ := results_ok (P := P) hT F hres
    exact ⟨u, hu1, S', β', u, rfl, hu2, F.out, fun sz hsz => own_ok F (hown sz hsz) hu1⟩
   refine calls_of_wp hf hb (ev_sound hT hC hI (kindsOk_inv hc3) m _ code (Nat.lt_succ_self _) (env0 args) h _ w _ _ _ _ H hr ⟨fun e' h' a' w' hok hs hd => ?_, fun i e' h' a' w' hok hs hd => ?_, fun e' h' a' w' hok hs hd => ?_, fun pv h' v w' a' hok hs hd => ?_⟩)
   ·exact ⟨hd, hret e' h' a' w' hok hs⟩
   ·rw [hok] at hr; exact absurd rfl hr
   ·exact ⟨hd, hret e' h' a' w' hok hs⟩
   ·refine ⟨hd, ?_⟩
    rw [hok]
    obtain ⟨S', β', hout, hvr⟩ := hs
    exact ⟨S', β', v, rfl, hvr, hout⟩
end
open Classical in
theorem iso_key {S : Stab} {β : List Blk} {w w' : World} {h : Hp} (_hw : Wf S w) (hh : HeapX S β w h) {β0 : List Blk} {h0 : Hp} (hE : ∀ b, ¬ HOwn β0 h0 b) {S' : Stab} {β' : List Blk} {h' : Hp} (L : Left (HOwn β0 h0) S β0 w S' β' w' h') : ∃ S2, Left (HOwn β h) S β w S2 β w' h ∧ (∀ a v, VR S' β' a v → VR S2 β (frz 6 h' a) v) ∧ ∀ sz v, OwnedR w.heap.size S' β' w' h' sz v → OwnedR w.heap.size S2 β w' h sz v := by
 obtain ⟨hlen, ω, hH⟩ := L.heap
 have hnew : ∀ b, HOwn β' h' b → w.heap.size ≤ b := fun b hb => (L.owned b hb).resolve_left (hE b)
 let S2 : Stab := fun b o => if HOwn β' h' b then w'.cell? ⟨b, o, none⟩ else S' b o
 have hS2n : ∀ b, ¬ HOwn β' h' b → ∀ o, S2 b o = S' b o := fun b hb o => if_neg hb
 have hS2y : ∀ b, HOwn β' h' b → ∀ o, S2 b o = w'.cell? ⟨b, o, none⟩ := fun b hb o => if_pos hb
 have hle : S'.le S2 := by
  intro b o v hv
  by_cases hb : HOwn β' h' b
  ·obtain ⟨l, cs, n, h1, h2, h3⟩ := hb
   obtain ⟨b', x, k1, k2, k3, k4, k5⟩ := hH l cs h1 h2
   rw [h3] at k1; cases k1
   rw [k5] at hv
   cases hv
  ·rw [hS2n b hb]; exact hv
 have hrow : ∀ b, b < w.heap.size → w'.heap[b]? = w.heap[b]? ∧ ∀ o, S2 b o = S b o := by
  intro b hb
  have hk := L.keep b hb (hE b)
  refine ⟨hk.1, fun o => ?_⟩
  rw [hS2n b (fun ho => by have := hnew b ho; omega)]
  exact hk.2 o
 have hwf : Wf S2 w' := by
  intro b o v hv
  by_cases hb : HOwn β' h' b
  ·rw [hS2y b hb] at hv; exact hv
  ·rw [hS2n b hb] at hv; exact L.wf b o v hv
 obtain ⟨hlen0, ω0, hH0⟩ := hh
 have hlt0 : ∀ b, HOwn β h b → b < w.heap.size := by
  rintro b ⟨l, cs, n, h1, h2, h3⟩
  obtain ⟨b', x, k1, k2, _⟩ := hH0 l cs h1 h2
  rw [h3] at k1; cases k1
  exact k2.lt
 have hle0 : S.le S2 := Stab.le_trans L.le hle
 refine ⟨S2, ⟨hle0, Ext.refl β, hwf, L.gro, fun b hb _ => hrow b hb, ⟨hlen0, ω0, fun l cs hl hcs => ?_⟩, fun b hb => .inl hb⟩, fun a v hv => frz_ok hH hle (fun b o x hb hr => ?_) 6 a v hv, fun sz v => ?_⟩
 ·obtain ⟨b, x, k1, k2, k3, k4, k5⟩ := hH0 l cs hl hcs
  have hk := hrow b k2.lt
  exact ⟨b, x, k1, k2.of_eq hk.1, k3, VRs.mono hle0 (Ext.refl β) _ _ k4, fun o => by rw [hk.2]; exact k5 o⟩
 ·rw [hS2y b hb, hr.cell]
 ·rintro ⟨ad, len, cap, k1, k2, k3, k4⟩
  refine ⟨ad, len, cap, k1, k2, k3, k4.imp id ?_⟩
  rintro ⟨b, off, x, p1, p2, p3, p4, p5, p6⟩
  refine ⟨b, off, x, p1, p2, p3, p4, fun hb => ?_, fun o ho => by rw [hS2n b p5]; exact p6 o ho⟩
  have := hlt0 b hb
  omega
theorem iso_post {S : Stab} {β : List Blk} {w w' : World} {h : Hp} {own : Option Nat} {m : List AV → M AV} {args : List AV} {en : Ending} (hw : Wf S w) (hh : HeapX S β w h) (hp : CPost own S [] [] w (m (cls noHs args) []) en w') : CPost own S β h w (isoM m args h) en w' := by
 have key := fun {S' : Stab} {β' : List Blk} {h' : Hp} (L : Left (HOwn [] []) S [] w S' β' w' h') => iso_key hw hh (by rintro b ⟨l, cs, n, h1, _⟩; simp at h1) L
 unfold isoM
 cases hm : m (cls noHs args) [] with
 | fail => rw [hm] at hp; exact hp.elim
 | ok r h' =>
  rw [hm] at hp
  obtain ⟨S', β', v, h1, h2, h3, h4⟩ := hp
  obtain ⟨S2, k1, k2, k3⟩ := key h3
  exact ⟨S2, β, v, h1, k2 r v h2, k1, fun sz hsz => k3 sz v (h4 sz hsz)⟩
 | pan r h' =>
  rw [hm] at hp
  obtain ⟨S', β', v, h1, h2, h3⟩ := hp
  obtain ⟨S2, k1, k2, k3⟩ := key h3
  exact ⟨S2, β, v, h1, k2 r v h2, k1⟩
structure GoodPg (P : Program) (p : Pg) : Prop where
 tok : TOK P p.T
 funcs : ∀ f fn a, p.funcs f = some (fn, a) → P.funcs[f]? = some fn ∧ (fn.name == "runtime.NumGoroutine") = false
 other : ∀ f E, p.other f = some E → ∀ call, CallsOK P p.own call → ∀ (args : List AV) (h : Hp) (S : Stab) (β : List Blk) (w : World) (vs : List Value), E call args h ≠ .fail → GOK β h w → Wf S w → HeapX S β w h → VRs S β args vs →
  Calls P f vs.toArray w (CPost (p.own f) S β h w (E call args h)) ∧ (P.funcs[f]?).any (fun fn => fn.body.isSome && !(fn.name == "runtime.NumGoroutine")) = true
 nw : ∀ f, p.nw f = true → ∃ E, p.other f = some E ∧ ∀ call args, NwM (E call args)
omit [Dr] in
theorem HeapX.nil {S : Stab} {w : World} : HeapX S [] w [] := ⟨rfl, fun _ => .no, fun l cs hl => by simp at hl⟩
theorem evFun_sound {P : Program} {p : Pg} (G : GoodPg P p) (m : Nat) {call : FuncId → List AV → M AV} (hC : CallsOK P p.own call) (hI : ∀ n a, IsoCall (p.cx call n a)) : CallsOK P p.own (evFun p call (fixM m)) := by
 intro f args h S β w vs hr hg hw hh hv
 unfold evFun at hr ⊢
 cases ho : p.other f with
 | some E => rw [ho] at hr; exact G.other f E ho call hC args h S β w vs hr hg hw hh hv
 | none =>
  rw [ho] at hr
  simp only at hr ⊢
  cases hf : p.funcs f with
  | none => rw [hf] at hr; exact absurd rfl hr
  | some x =>
   obtain ⟨fn, a⟩ := x
   rw [hf] at hr
   simp only at hr ⊢
   obtain ⟨hf1, hf2⟩ := G.funcs f fn a hf
   have hany : fn.body.isSome = true → (P.funcs[f]?).any (fun fn => fn.body.isSome && !(fn.name == "runtime.NumGoroutine")) = true := by
    intro hb
    rw [hf1]
    simp only [Option.any_some, hb, hf2, Bool.not_false, Bool.and_self]
   cases hi : a.iso with
   | false =>
    rw [hi] at hr
    simp only [cond_false] at hr ⊢
    obtain ⟨h1, h2⟩ := body_sound (cx := p.cx call fn.ntmps a) G.tok hC (hI _ _) m hf1 rfl hr hg hw hh hv
    exact ⟨h1, hany h2⟩
   | true =>
    rw [hi] at hr
    simp only [cond_true] at hr ⊢
    have hr' : evBody (p.cx call fn.ntmps a) (fixM m) fn (p.own f) (cls noHs args) [] ≠ .fail := by
     intro hf
     unfold isoM at hr
     rw [hf] at hr
     exact hr rfl
    obtain ⟨h1, h2⟩ := body_sound (cx := p.cx call fn.ntmps a) G.tok hC (hI _ _) m hf1 rfl hr' ⟨hg.1, fun b _ hb => by obtain ⟨l, _, _, h1, _⟩ := hb; simp at h1⟩ hw HeapX.nil (clean_ok hv)
    exact ⟨h1.mono fun en w' hp => iso_post hw hh hp, hany h2⟩
omit [Dr] in
theorem evCall_iso (p : Pg) (hN : ∀ f, p.nw f = true → ∃ E, p.other f = some E ∧ ∀ call args, NwM (E call args)) : ∀ n k a, IsoCall (p.cx (evCall p n) k a)
 | 0, k, a => ⟨fun f args _ => ⟨none, fun _ => rfl⟩, fun f args _ h v h' hh => by cases hh⟩
 | n + 1, k, a => by
  refine ⟨?_, fun f args hf => ?_⟩
  case refine_2 =>
   obtain ⟨E, hE, hn⟩ := hN f hf
   have : (p.cx (evCall p (n + 1)) k a).call f args = E (evCall p n) args := by
    show evFun p (evCall p n) (fixM n) f args = _
    unfold evFun
    rw [hE]
   rw [this]
   exact hn _ _
  intro f args hi
  have hi' : p.iso f = true := hi
  unfold Pg.iso at hi'
  cases ho : p.other f with
  | some E => rw [ho] at hi'; cases hi'
  | none =>
   rw [ho] at hi'
   simp only at hi'
   cases hf : p.funcs f with
   | none => rw [hf] at hi'; cases hi'
   | some x =>
    obtain ⟨fn, b⟩ := x
    rw [hf] at hi'
    simp only at hi'
    refine ⟨match evBody (p.cx (evCall p n) fn.ntmps b) (fixM n) fn (p.own f) (cls noHs args) [] with | .ok r h' => some (true, frz 6 h' r) | .pan v h' => some (false, frz 6 h' v) | .fail => none, fun h => ?_⟩
    show evFun p (evCall p n) (fixM n) f args h = _
    unfold evFun
    rw [ho]
    simp only
    rw [hf]
    simp only [hi', cond_true, isoM]
    cases evBody (p.cx (evCall p n) fn.ntmps b) (fixM n) fn (p.own f) (cls noHs args) [] <;> rfl
theorem evCall_sound {P : Program} {p : Pg} (G : GoodPg P p) : ∀ n, CallsOK P p.own (evCall p n)
 | 0 => fun _f _args _h _S _β _w _vs hr => absurd rfl hr
 | n + 1 => evFun_sound G n (evCall_sound G n) fun k a => evCall_iso p G.nw n k a
end Go.Av

/- Calls without fuel. Conditions: the program is good; the functions that are known by other means are continuous. -/
namespace Go.Av
theorem isoM_lim {m : List AV → M AV} {ms : Nat → List AV → M AV} (h : LimF m ms) (args : List AV) : LimM (isoM m args) fun n => isoM (ms n) args := by
 intro x
 obtain ⟨h1, h2⟩ := h (cls noHs args) []
 (try dsimp only at h1 h2)
 refine ⟨fun hne => ?_, fun n hne => ?_⟩
 ·have hne' : m (cls noHs args) [] ≠ .fail := fun hf => hne (by simp only [isoM, hf])
  obtain ⟨N, hN⟩ := h1 hne'
  refine ⟨N, fun n hn => ?_⟩
  (try dsimp only)
  simp only [isoM, hN n hn]
 ·(try dsimp only at hne ⊢)
  have hne' : ms n (cls noHs args) [] ≠ .fail := fun hf => hne (by simp only [isoM, hf])
  simp only [isoM, h2 n hne']
def OtherLim (p : Pg) : Prop := ∀ f E, p.other f = some E → ∀ (call : FuncId → List AV → M AV) (calls : Nat → FuncId → List AV → M AV), (∀ f, LimF (call f) fun n => calls n f) → LimF (E call) fun n => E (calls n)
section
variable {cx : Cx} {call : FuncId → List AV → M AV} {calls : Nat → FuncId → List AV → M AV} {fx : Fix AV} {fxs : Nat → Fix AV}
theorem evBody_lim (hc : ∀ f, LimF (call f) fun n => calls n f) (hfx : FixRel fx fxs) (hfc : FixC fx) (hfcs : ∀ n, FixC (fxs n)) (fn : Func) (own : Option Nat) :
  LimF (evBody (cx.wc call) fx fn own) fun n => evBody (cx.wc (calls n)) (fxs n) fn own := by
 intro args
 unfold evBody
 cases fn.body with
 | none => exact LimM.const _
 | some c =>
  have key : ∀ b : Bool, LimM (bif b then ev (cx.wc call) fx c (env0 args) (retK (cx.wc call) fn own) (fun _ _ => M.fail) (retK (cx.wc call) fn own) else M.fail) fun n => (bif b then ev (cx.wc (calls n)) (fxs n) c (env0 args) (retK (cx.wc (calls n)) fn own) (fun _ _ => M.fail) (retK (cx.wc (calls n)) fn own) else M.fail) := by
   intro b
   cases b with
   | false => exact LimM.const _
   | true =>
    have hr : LimF (retK (cx.wc call) fn own) fun n => retK (cx.wc (calls n)) fn own := LimF.const (retK cx fn own)
    exact ev_lim _ c (Nat.lt_succ_self _) call calls fx fxs hc hfx hfc hfcs (env0 args) _ (fun n => retK (cx.wc (calls n)) fn own) _ (fun _ _ _ => M.fail) _ (fun n => retK (cx.wc (calls n)) fn own) hr (fun i => LimF.const _) hr
  exact key (decide (args.length ≤ fn.ntmps) && decide (fn.ntmps ≤ 1000) && kindsOk cx.nt cx.ann.kinds)
theorem evFun_lim {p : Pg} (hO : OtherLim p) (hc : ∀ f, LimF (call f) fun n => calls n f) (hfx : FixRel fx fxs) (hfc : FixC fx) (hfcs : ∀ n, FixC (fxs n)) (f : FuncId) : LimF (evFun p call fx f) fun n => evFun p (calls n) (fxs n) f := by
 intro args
 unfold evFun
 cases ho : p.other f with
 | some E => exact hO f E ho call calls hc args
 | none =>
  simp only
  cases p.funcs f with
  | none => exact LimM.const _
  | some x =>
   obtain ⟨fn, a⟩ := x
   simp only
   have hb := evBody_lim (cx := p.cx call fn.ntmps a) hc hfx hfc hfcs fn (p.own f)
   cases a.iso with
   | true => exact isoM_lim hb args
   | false => exact hb args
end
theorem evCall_mono {p : Pg} (hO : OtherLim p) : ∀ n f args, LeM (evCall p n f args) (evCall p (n + 1) f args)
 | 0, f, args => fun x hne => absurd rfl hne
 | n + 1, f, args => by
  have hc : ∀ f, LimF (evCall p (n + 1) f) fun m => (if m = 0 then evCall p n else evCall p (n + 1)) f := by
   intro f args x
   refine ⟨fun _ => ⟨1, fun m hm => ?_⟩, fun m hne => ?_⟩
   ·(try dsimp only)
    rw [if_neg (by omega)]
   ·(try dsimp only at hne ⊢)
    by_cases h0 : m = 0
    ·rw [if_pos h0] at hne ⊢; exact evCall_mono hO n f args x hne
    ·rw [if_neg h0]
  have h := evFun_lim hO hc (fixRel_step n) (fixC_M (n + 1)) (fun m => by
   by_cases h0 : m = 0
   ·rw [if_pos h0]; exact fixC_M n
   ·rw [if_neg h0]; exact fixC_M (n + 1)) f args
  intro x hne
  have := (h x).2 0
  (try dsimp only at this)
  rw [if_pos rfl, if_pos rfl] at this
  exact this hne
theorem evCall_mono' {p : Pg} (hO : OtherLim p) {n m : Nat} (h : n ≤ m) (f : FuncId) (args : List AV) : LeM (evCall p n f args) (evCall p m f args) := by
 induction m with
 | zero => have : n = 0 := by omega
           subst this; exact .refl _
 | succ m ih =>
  by_cases hn : n = m + 1
  ·subst hn; exact .refl _
  ·exact (ih (by omega)).trans (evCall_mono hO m f args)
open Classical in
noncomputable def callW (p : Pg) (f : FuncId) (args : List AV) : M AV := fun h => if hx : ∃ n, evCall p n f args h ≠ .fail then evCall p (Classical.choose hx) f args h else .fail
theorem callW_lim {p : Pg} (hO : OtherLim p) (f : FuncId) : LimF (callW p f) fun n => evCall p n f := by
 intro args h
 refine chain_lim (fun n m hnm hne => evCall_mono' hO hnm f args h hne) ?_
 unfold callW
 by_cases hx : ∃ n, evCall p n f args h ≠ .fail
 ·left
  simp only [dif_pos hx]
  exact ⟨_, Classical.choose_spec hx, rfl⟩
 ·right
  simp only [dif_neg hx]
  exact ⟨fun n => Classical.byContradiction fun h => hx ⟨n, h⟩, trivial⟩
theorem IsLim.uniq {α : Type} {a a' : R α} {b : Nat → R α} (h : IsLim a b) (g : IsLim a' fun n => b (n + 1)) : a = a' := by
 by_cases ha : a = .fail
 ·by_cases ha' : a' = .fail
  ·rw [ha, ha']
  ·obtain ⟨N, hN⟩ := g.1 ha'
   have h1 := hN N (Nat.le_refl _)
   (try dsimp only at h1)
   exact (h.2 (N + 1) (by rw [h1]; exact ha')).symm.trans h1
 ·obtain ⟨N, hN⟩ := h.1 ha
  have h1 := hN (N + 1) (by omega)
  have h2 := g.2 N
  (try dsimp only at h2)
  exact h1.symm.trans (h2 (by rw [h1]; exact ha))
theorem callW_eq {p : Pg} (hO : OtherLim p) (f : FuncId) (args : List AV) : callW p f args = evFun p (callW p) fixW f args := by
 funext h
 have h1 := callW_lim hO f args h
 have h2 := evFun_lim hO (fun f => callW_lim hO f) fixRel_fuel fixC_W (fun n => fixC_M n) f args h
 exact h1.uniq h2
theorem callW_sound [Dr] {P : Program} {p : Pg} (G : GoodPg P p) (hO : OtherLim p) : CallsOK P p.own (callW p) := by
 intro f args h S β w vs hr hg hw hh hv
 obtain ⟨N, hN⟩ := (callW_lim hO f args h).1 hr
 have h1 := hN N (Nat.le_refl _)
 (try dsimp only at h1)
 rw [← h1] at hr ⊢
 exact evCall_sound G N f args h S β w vs hr hg hw hh hv
theorem callW_of {p : Pg} (hO : OtherLim p) {n : Nat} {f : FuncId} {args : List AV} {h : Hp} {r : R AV} (hr : evCall p n f args h = r) (hne : r ≠ .fail) : callW p f args h = r := by
 have := (callW_lim hO f args h).2 n (by (try dsimp only); rw [hr]; exact hne)
 (try dsimp only at this)
 rw [← this, hr]
end Go.Av

/- Loops without fuel. No condition. -/
namespace Go.Av
section
variable {ρ : Type}
theorem fixW_eq {F : (List AV → M ρ) → List AV → M ρ} (hF : ContC F) (vs : List AV) : fixW F vs = F (fixW F) vs := by
 funext h
 exact (fixW_lim hF vs h).uniq (hF _ _ (fixW_lim hF) vs h)
theorem condM_lim {c : AV} {x y : M ρ} {xs ys : Nat → M ρ} (hx : LimM x xs) (hy : LimM y ys) : LimM (condM c x y) fun n => condM c (xs n) (ys n) := by
 unfold condM
 cases c with
 | bool b => cases b <;> first | exact hx | exact hy
 | _ => exact LimM.const _
theorem fixW_limF {F : (List AV → M ρ) → List AV → M ρ} {Fs : Nat → (List AV → M ρ) → List AV → M ρ} (h1 : Cont1 F Fs) (h2 : ContC F) (h3 : ∀ n, ContC (Fs n)) : LimF (fixW F) fun n => fixW (Fs n) := fixC_W F Fs h1 h2 h3
end
end Go.Av

/- Shallow programs: what a call is, once the evaluator has gone over the code. No condition. -/
namespace Go.Av
def isoP (m : M AV) : M AV := fun h => match m [] with
 | .ok r h' => .ok (frz 6 h' r) h
 | .pan v h' => .pan (frz 6 h' v) h
 | .fail => .fail
theorem callW_iso {p : Pg} (hO : OtherLim p) {f : FuncId} {fn : Func} {a : Ann} (h1 : p.other f = none) (h2 : p.funcs f = some (fn, a)) (h3 : a.iso = true) (args : List AV) :
  callW p f args = isoP (evBody (p.cx (callW p) fn.ntmps a) fixW fn (p.own f) (cls noHs args)) := by
 rw [callW_eq hO]
 unfold evFun
 rw [h1]
 simp only
 rw [h2]
 simp only [h3, cond_true]
 rfl
theorem callW_heap {p : Pg} (hO : OtherLim p) {f : FuncId} {fn : Func} {a : Ann} (h1 : p.other f = none) (h2 : p.funcs f = some (fn, a)) (h3 : a.iso = false) (args : List AV) :
  callW p f args = evBody (p.cx (callW p) fn.ntmps a) fixW fn (p.own f) args := by
 rw [callW_eq hO]
 unfold evFun
 rw [h1]
 simp only
 rw [h2]
 simp only [h3, cond_false]
theorem callW_other {p : Pg} (hO : OtherLim p) {f : FuncId} {E : (FuncId → List AV → M AV) → List AV → M AV} (h1 : p.other f = some E) (args : List AV) : callW p f args = E (callW p) args := by
 rw [callW_eq hO]
 unfold evFun
 rw [h1]
def cloneV (T : TT) (t : TypeId) : (FuncId → List AV → M AV) → List AV → M AV := fun _ args => match args with
 | [.sl es] => lft (appA T t (.sl []) (.sl es))
 | _ => M.fail
def cloneH (T : TT) (t : TypeId) : (FuncId → List AV → M AV) → List AV → M AV := fun _ args => match args with
 | [.sl es] => appH T t true (.sl []) (.sl es)
 | _ => M.fail
def tryP (t : TypeId) (k : IntKind) (zero : AV) : R AV → R AV
 | .ok v h' => bif okEl 4 v then .ok (.tup [.agg (acells v), .int k 0]) h' else .fail
 | .pan (.iface t' (.int k' n)) h' => bif Nat.beq t' t && decide (k' = k) then .ok (.tup [zero, .int k n]) h' else .fail
 | _ => .fail
def tryE (t : TypeId) (k : IntKind) (zero : AV) : (FuncId → List AV → M AV) → List AV → M AV := fun call args => match args with
 | [f] => fun h => tryP t k zero (callV call f [] h)
 | _ => M.fail
theorem post_lim {m : M AV} {ms : Nat → M AV} (p : R AV → R AV) (hp : p .fail = .fail) (h : LimM m ms) : LimM (fun x => p (m x)) fun n => fun x => p (ms n x) := by
 intro x
 obtain ⟨h1, h2⟩ := h x
 constructor
 ·intro hne
  obtain ⟨N, hN⟩ := h1 (fun hh => hne (by simp only [hh, hp]))
  exact ⟨N, fun n hn => congrArg p (hN n hn)⟩
 ·intro n hne
  exact congrArg p (h2 n (fun hh => hne (by have := congrArg p hh; simpa [hp] using this)))
theorem cloneV_lim (T : TT) (t : TypeId) (call : FuncId → List AV → M AV) (calls : Nat → FuncId → List AV → M AV) : LimF (cloneV T t call) fun n => cloneV T t (calls n) := LimF.const _
theorem cloneH_lim (T : TT) (t : TypeId) (call : FuncId → List AV → M AV) (calls : Nat → FuncId → List AV → M AV) : LimF (cloneH T t call) fun n => cloneH T t (calls n) := LimF.const _
theorem tryE_lim (t : TypeId) (k : IntKind) (zero : AV) (call : FuncId → List AV → M AV) (calls : Nat → FuncId → List AV → M AV) (hc : ∀ f, LimF (call f) fun n => calls n f) : LimF (tryE t k zero call) fun n => tryE t k zero (calls n) := by
 have hv : ∀ f, LimM (callV call f []) fun n => callV (calls n) f [] := by
  intro f
  unfold callV
  split
  ·exact hc _ _
  ·exact LimM.const _
 intro args
 cases args with
 | nil => exact LimM.const _
 | cons f r =>
  cases r with
  | nil => exact post_lim (tryP t k zero) rfl (hv f)
  | cons _ _ => exact LimM.const _
theorem other_bif {α : Type} {b : Bool} {x : α} {o : Option α} {y : α} (h : (bif b then some x else o) = some y) : x = y ∨ o = some y := by
 cases b with
 | true => exact .inl (by simpa using h)
 | false => exact .inr h
theorem cloneH_nw (T : TT) (t : TypeId) (call : FuncId → List AV → M AV) (args : List AV) : NwM (cloneH T t call args) := by
 unfold cloneH
 split
 ·rename_i y
  intro h v h' hh
  unfold appH at hh
  split at hh
  ·cases hh
  ·split at hh
   ·split at hh
    ·cases hh
    ·split at hh
     ·cases hh
     ·rename_i bs _
      revert hh
      generalize (_ && _ : Bool) = b1
      cases b1 with
      | false => intro hh; cases hh
      | true =>
       simp only [cond_true]
       cases bs.isEmpty with
       | true => intro hh; cases hh; exact ⟨[], by simp⟩
       | false =>
        simp only [cond_false]
        generalize decide (_ ≤ 140737488355328) = b2
        cases b2 with
        | false => intro hh; cases hh
        | true => intro hh; cases hh; exact ⟨_, rfl⟩
   ·cases hh
 ·intro h v h' hh; cases hh
end Go.Av

/- A function that copies a slice, told of its argument's three forms. Conditions: what the evaluator gives for each form. -/
namespace Go.Av
variable [Dr]
theorem clone_sound {P : Program} {cx : Cx} (hT : TOK P cx.T) (hC : CallsOK P cx.own cx.call) (hI : IsoCall cx) {f : FuncId} {fn : Func} (hf : P.funcs[f]? = some fn) (hnt : cx.nt = fn.ntmps) {E : List AV → Hp → R AV}
  (h0 : ∀ h, E [] h = .ok (.sl []) h) (h1 : ∀ e es h, evBody cx (fixM 0) fn none [.sl (e :: es)] h = E (e :: es) h) (h2 : ∀ h, evBody cx (fixM 0) fn none [.hn] h = .ok (.sl []) h)
  (h3 : ∀ l off h, evBody cx (fixM 0) fn none [.hs l off 0 1 false] h = .ok (.sl []) h) {es : List AV} {h : Hp} {S : Stab} {β : List Blk} {w : World} {vs : List Value}
  (hr : E es h ≠ .fail) (hg : GOK β h w) (hw : Wf S w) (hh : HeapX S β w h) (hv : VRs S β [.sl es] vs) : Calls P f vs.toArray w (CPost none S β h w (E es h)) ∧ fn.body.isSome = true := by
 cases es with
 | cons e es =>
  rw [← h1] at hr ⊢
  exact body_sound hT hC hI 0 hf hnt hr hg hw hh hv
 | nil =>
  rw [h0]
  simp only [VRs] at hv
  obtain ⟨v, _, rfl, hv, rfl⟩ := hv
  have hv0 := hv
  simp only [VR] at hv
  obtain ⟨a, cap, rfl, hc, hn, hq⟩ := hv
  cases a with
  | none =>
   have hcap := hn rfl
   subst hcap
   have hv2 : VRs S β [.hn] [.slice none ([] : List AV).length 0] := by simp [VRs, VR]
   have := body_sound (own := none) hT hC hI 0 hf hnt (args := [.hn]) (h := h) (by rw [h2]; simp) hg hw hh hv2
   rw [h2] at this
   exact this
  | some q =>
   obtain ⟨hs, _⟩ := hq q rfl
   have hX : HeapX S [(q.block, q.off + cap)] w [[]] := ⟨rfl, fun _ => .no, fun l cs hl hne => by
    cases l with
    | zero => simp at hl; exact absurd hl hne
    | succ l => simp at hl⟩
   have hE : ∀ b, ¬ HOwn [(q.block, q.off + cap)] [[]] b := by
    rintro b ⟨l, cs, n, k1, k2, _⟩
    cases l with
    | zero => simp at k1; exact k2 k1
    | succ l => simp at k1
   have hv2 : VRs S [(q.block, q.off + cap)] [.hs 0 q.off 0 1 false] [.slice (some q) ([] : List AV).length cap] := by
    simp only [VRs, VR]
    rcases Nat.eq_zero_or_pos cap with h0 | h0
    ·subst h0
     exact ⟨_, _, rfl, .inr ⟨trivial, q, rfl⟩, rfl⟩
    ·have hq' : q = ⟨q.block, q.off, none⟩ := by
      have := hs h0
      cases q; simp_all
     exact ⟨_, _, rfl, .inl ⟨(q.block, q.off + cap), cap, rfl, by rw [← hq']; rfl, by omega, by simp⟩, rfl⟩
   have := body_sound (own := none) hT hC hI 0 hf hnt (args := [.hs 0 q.off 0 1 false]) (h := [[]]) (by rw [h3]; simp) ⟨hg.1, fun b _ => hE b⟩ hw hX hv2
   rw [h3] at this
   refine ⟨this.1.mono fun en w' hp => ?_, this.2⟩
   obtain ⟨S', β', v, k1, k2, k3, _⟩ := hp
   obtain ⟨S2, j1, j2, _⟩ := iso_key hw hh hE k3
   exact ⟨S2, β, v, k1, j2 (.sl []) v k2, j1, fun sz hsz => by cases hsz⟩
end Go.Av

/- A call between new rows and stores to them. No condition. -/
namespace Go.Av
variable [Dr]
omit [Dr] in
theorem HeapX.grow {S : Stab} {β : List Blk} {w w' : World} {h : Hp} (hh : HeapX S β w h) (hb : ∀ b, b < w.heap.size → w'.heap[b]? = w.heap[b]?) : HeapX S β w' h := by
 obtain ⟨hlen, ω, hr⟩ := hh
 refine ⟨hlen, ω, fun l cs hl hne => ?_⟩
 obtain ⟨b, x, h1, h2, h3, h4, h5⟩ := hr l cs hl hne
 exact ⟨b, x, h1, h2.of_eq (hb b h2.lt), h3, h4, h5⟩
omit [Dr] in
theorem HeapX.low {S : Stab} {β : List Blk} {w : World} {h : Hp} (hh : HeapX S β w h) {b : Nat} (hb : HOwn β h b) : b < w.heap.size := by
 obtain ⟨_, ω, hr⟩ := hh
 obtain ⟨l, cs, n, h1, h2, h3⟩ := hb
 obtain ⟨b', x, k1, k2, _⟩ := hr l cs h1 h2
 rw [h3] at k1
 cases k1
 exact k2.lt
omit [Dr] in
theorem Wf.grow {S : Stab} {w w' : World} (hw : Wf S w) (hb : ∀ b, b < w.heap.size → w'.heap[b]? = w.heap[b]?) : Wf S w' :=
 fun b o v hv => by rw [cell_of_heap (hb b (hw.lt hv))]; exact hw b o v hv
theorem left_wrap {S S' : Stab} {β β' : List Blk} {w w2 w' w'' : World} {h h' : Hp} (hg : Gro w w2) (hold : ∀ b, b < w.heap.size → w2.heap[b]? = w.heap[b]?) (L : Left (HOwn β h) S β w2 S' β' w' h') (hg' : Gro w' w'')
  (hsame : ∀ b, ¬ (w.heap.size ≤ b ∧ b < w2.heap.size) → w''.heap[b]? = w'.heap[b]?) (hw : Wf S w) (hh : HeapX S β w h) : Left (HOwn β h) S β w S' β' w'' h' := by
 have hs := hg.size
 refine ⟨L.le, L.ext, fun b o v hv => ?_, (hg.trans L.gro).trans hg', fun b hb hE => ?_, ?_, fun b hb => ?_⟩
 ·by_cases hb : w.heap.size ≤ b ∧ b < w2.heap.size
  ·have hE : ¬ HOwn β h b := fun ho => by have := hh.low ho; omega
   have := (L.keep b hb.2 hE).2 o
   rw [this, hw.none hb.1] at hv
   cases hv
  ·rw [cell_of_heap (hsame b hb)]
   exact L.wf b o v hv
 ·have h1 := L.keep b (by omega) hE
  exact ⟨by rw [hsame b (by omega), h1.1, hold b hb], h1.2⟩
 ·obtain ⟨hlen, ω, hr⟩ := L.heap
  refine ⟨hlen, ω, fun l cs hl hne => ?_⟩
  obtain ⟨b, x, h1, h2, h3, h4, h5⟩ := hr l cs hl hne
  have hb : ¬ (w.heap.size ≤ b ∧ b < w2.heap.size) := fun hb => by
   rcases L.owned b ⟨l, cs, _, hl, hne, h1⟩ with ho | ho
   ·have := hh.low ho; omega
   ·omega
  exact ⟨b, x, h1, h2.of_eq (hsame b hb), h3, h4, h5⟩
 ·rcases L.owned b hb with ho | ho
  ·exact .inl ho
  ·exact .inr (by omega)
theorem Gro.setCell (w : World) (a : Addr) (v : Value) : Gro w (w.setCell a v) := ⟨by simp, rfl, rfl, rfl, fun _ => Nat.le_refl _⟩
omit [Dr] in
theorem setCell_heap {w : World} {a : Addr} {v : Value} {b : Nat} (h : b ≠ a.block) : (w.setCell a v).heap[b]? = w.heap[b]? := by
 simp only [World.setCell, Array.getElem?_modify]
 rw [if_neg (fun e => h e.symm)]
end Go.Av

/- From a call of the evaluator to the form's words. Conditions: the program is good; the package variables hold what they are said to hold. -/
namespace Go.Av
variable [Dr]
open Go.RowKit Go.WideShapes Go.ChangeShapes
theorem Left.below {S S' : Stab} {β β' : List Blk} {w w' : World} {h' : Hp} (L : Left (HOwn [] []) S β w S' β' w' h') : Below w.heap.size w w' :=
 ⟨L.gro.os, L.gro.tape, L.gro.out, L.gro.size, fun k hk => (L.keep k hk (by rintro ⟨l, _, _, h1, _⟩; simp at h1)).1⟩
def allS (W : World) : Stab := fun b o => W.cell? ⟨b, o, none⟩
omit [Dr] in
theorem allS_wf (W : World) : Wf (allS W) W := fun _ _ _ h => h
omit [Dr] in
theorem gok_start {W : World} (h : GOKw W) : GOK [] [] W := ⟨h, fun b _ ho => by obtain ⟨l, _, _, h1, _⟩ := ho; simp at h1⟩
theorem law_calls {P : Program} {p : Pg} (G : GoodPg P p) (hO : OtherLim p) {f : FuncId} {args : List AV} {vs : List Value} {W : World} (hg : GOKw W) (hv : VRs (allS W) [] args vs)
  (ht : callW p f args [] = .ok (.bool true) []) : Calls P f vs.toArray W fun e W' => e = .returned (.bool true) ∧ Below W.heap.size W W' := by
 have h := (callW_sound G hO f args [] (allS W) [] W vs (by rw [ht]; simp) (gok_start hg) (allS_wf W) ⟨rfl, fun _ => .no, fun l cs hl => by simp at hl⟩ hv).1
 rw [ht] at h
 refine h.mono fun e W' hp => ?_
 obtain ⟨S', β', v, rfl, hv, L, _⟩ := hp
 simp only [VR] at hv
 subst hv
 exact ⟨rfl, L.below⟩
section
variable {H : Type} {enc : TypeId × Value → H} {P : Program}
omit [Dr] in
theorem post_of_below {f : Func} {s : ChangeSpec} {apart fresh handsOn again : Bool} {W W' : World} {args : Array Value} {v : Value} {ds gs : List (DataW H)} {before pa pv : List MemPlace}
  (hW : DataW.Whole enc P f.params.toList s.vars apart W args.toList ds gs before)
  (hres : ∀ (b : Nat) (sp : Nat → Bool) (hd : Bool), DataW.TrodAll enc P W' b sp hd f.resultTypes.toList (v.resultList f.resultTypes.size) (s.fn H (ds ++ gs)).results [])
  (hargs : ∀ sp : Nat → Bool, (∀ p ∈ before, sp p.block = true) → DataW.TrodAll enc P W' 0 sp true f.params.toList args.toList (s.fn H (ds ++ gs)).args pa)
  (hvars : ∀ sp : Nat → Bool, (∀ p ∈ before, sp p.block = true) → DataW.TrodVars enc P W' sp s.vars (s.fn H (ds ++ gs)).vars pv)
  (hps : before = pa ++ pv) (hb : Below W.heap.size W W')
  (hok : ∀ (j : Nat) (t : TypeId) (r : Value), f.resultTypes[j]? = some t → (v.resultList f.resultTypes.size)[j]? = some r → Value.okWide P W' .any 0 t r) :
  s.post enc P f apart fresh handsOn again W args v W' := by
 have hlt : ∀ p ∈ before, p.block < W.heap.size := fun p hp => hW.lt p hp
 have hold : ∀ p ∈ before, (fun b => decide (b < W.heap.size)) p.block = true := fun p hp => by simpa using hlt p hp
 refine ⟨ds, gs, before, [], pa, pv, hW, hres _ _ _, hargs _ hold, hvars _ hold, World.keptBut_mono (fun p hp => ⟨hp, ?_⟩) (hb.frame (· ∈ before)), fun _ => ?_⟩
 ·rw [hps, List.mem_append] at hp
  exact Or.inr hp
 ·obtain ⟨_, _, _, _, _, hz, hn⟩ := hW
  refine ⟨hok, _, _, ([] ++ pa) ++ pv, ⟨[] ++ pa, pv, trodAll_append (hargs _ (fun _ _ => rfl)) (hres _ _ _), hvars _ (fun _ _ => rfl), rfl, ?_, ?_⟩, ?_⟩
  ·intro b off hp
   have hin : MemPlace.cell b off ∈ before := by rw [hps]; simpa using hp
   rw [hb.frozen (hlt _ hin)]
   exact hz b off hin
  ·intro ha
   have := hn ha
   rw [hps] at this
   simpa using this
  ·intro p hp _
   rw [hps]
   simpa using hp
end
end Go.Av

/- Arguments that a call leaves as they were are read again behind it. Conditions: the program's table of types. -/
namespace Go.Av
open Go.RowKit
section
variable {H : Type} {enc : TypeId × Value → H} {P : Program} {w w' : World}
theorem trodAll_carry {base : Nat} {spare : Nat → Bool} {held : Bool} : ∀ {ts : List TypeId} {vs : List Value} {ds : List (DataW H)} {ps : List MemPlace}, DataW.TrodAll enc P w base spare held ts vs ds ps → (∀ p ∈ ps, w.sameAt w' p) → DataW.TrodAll enc P w' base spare held ts vs ds ps
 | [], [], [], _, h, _ => h
 | _ :: _, _ :: _, _ :: _, _, ⟨p, q, ⟨n, h1⟩, h2, e⟩, hs => ⟨p, q, ⟨n, DataW.trod_carry n _ _ _ h1 (fun x hx => hs x (by rw [e]; exact List.mem_append_left _ hx))⟩, trodAll_carry h2 (fun x hx => hs x (by rw [e]; exact List.mem_append_right _ hx)), e⟩
theorem sameAt_below (hb : Below w.heap.size w w') {p : MemPlace} (hp : p.block < w.heap.size) : w.sameAt w' p := by
 cases p with
 | cell b off =>
  have := hb.block b hp
  show w'.cell? ⟨b, off, none⟩ = w.cell? ⟨b, off, none⟩
  simp only [World.cell?, this]
 | map b => exact hb.block b hp
theorem args_again {T : TypeId → Prop} (K : Kids P T) (hz : ∀ t e, T t → P.underlying t = some (.slice e) → 0 < P.cellsOf e) {ts : List TypeId} {vs : List Value} {ds : List (DataW H)} {ps : List MemPlace} (hT : ∀ t ∈ ts, T t)
  (h : DataW.TrodAll enc P w 0 (fun _ => true) true ts vs ds ps) (hlt : ∀ p ∈ ps, p.block < w.heap.size) (hb : Below w.heap.size w w') (sp : Nat → Bool) (hsp : ∀ p ∈ ps, sp p.block = true) : DataW.TrodAll enc P w' 0 sp true ts vs ds ps :=
 (trodAll_carry h fun p hp => sameAt_below hb (hlt p hp)).respare K hz hT hsp
end
theorem list_of {α : Type} (Q : Nat → α → Prop) : ∀ n, (∀ i, i < n → ∃ x, Q i x) → ∃ l : List α, l.length = n ∧ ∀ i x, l[i]? = some x → Q i x
 | 0, _ => ⟨[], rfl, fun i x h => by simp at h⟩
 | n + 1, h => by
  obtain ⟨l, h1, h2⟩ := list_of Q n fun i hi => h i (by omega)
  obtain ⟨y, hy⟩ := h n (by omega)
  refine ⟨l ++ [y], by simp [h1], fun i x hx => ?_⟩
  by_cases hi : i < n
  ·rw [List.getElem?_append_left (by omega)] at hx
   exact h2 i x hx
  ·rw [List.getElem?_append_right (by omega)] at hx
   have hin : i - l.length = 0 := by
    rcases Nat.eq_zero_or_pos (i - l.length) with h | h
    ·exact h
    ·rw [List.getElem?_eq_none (by simp; omega)] at hx; cases hx
   rw [hin] at hx
   simp only [List.getElem?_cons_zero, Option.some.injEq] at hx
   subst hx
   obtain rfl : i = n := by omega
   exact hy
end Go.Av

/- Arguments of any shape, read as typed values. Conditions: the program's types, as each rule names them. -/
namespace Go.Av
open Go.RowKit Go.WideShapes Go.ChangeShapes
section
variable {H : Type} (enc : TypeId × Value → H) (P : Program) (W : World)
def Rd {α : Type} (N : Nat) (t : TypeId) (cells : α → List AV) (Ok : α → Prop) : Prop := ∀ (base : Nat) (held : Bool) (n : Nat), n < N → ∀ (cs : List Value) (x : DataW H × List MemPlace), DataW.trod enc P W base (fun _ => true) held n t cs = some x → (∀ k ∈ x.1.weights P t, k ≤ reachBytes) → ∃ a : α, VRs (allS W) [] (cells a) cs ∧ Ok a
def RdFs {α : Type} (N : Nat) (tot : Nat) (o : Nat) (fs : List Field) (cells : α → List AV) (Ok : α → Prop) : Prop := ∀ (base : Nat) (held : Bool) (n : Nat), n < N → ∀ (cs : List Value) (xs : List (DataW H × List MemPlace)), cs.length = tot →
 xs.length = fs.length → (∀ (i : Nat) (f : Field), fs[i]? = some f → DataW.trod enc P W base (fun _ => true) held n f.type ((cs.drop f.offset).take (P.cellsOf f.type)) = xs[i]?) → (∀ k ∈ DataW.weightsEach P (fs.map (·.type)) (xs.map (·.1)), k ≤ reachBytes) → ∃ a : α, VRs (allS W) [] (cells a) (cs.drop o) ∧ Ok a
variable {enc P W} {α β : Type} {N : Nat} {t : TypeId}
theorem Rd.zero {cells : α → List AV} {Ok : α → Prop} : Rd enc P W 0 t cells Ok := fun _ _ n hn => absurd hn (by omega)
theorem Rd.le {cells : α → List AV} {Ok : α → Prop} (h : Rd enc P W N t cells Ok) {M : Nat} (hm : M ≤ N) : Rd enc P W M t cells Ok := fun b hd n hn => h b hd n (by omega)
theorem Rd.map {cells : α → List AV} {Ok : α → Prop} (h : Rd enc P W N t cells Ok) (g : α → β) {cells' : β → List AV} {Ok' : β → Prop} (hc : ∀ a, cells' (g a) = cells a) (ho : ∀ a, Ok a → Ok' (g a)) : Rd enc P W N t cells' Ok' := by
 intro b hd n hn cs x hx hw
 obtain ⟨a, h1, h2⟩ := h b hd n hn cs x hx hw
 exact ⟨g a, by rw [hc]; exact h1, ho a h2⟩
theorem rd_bool (ht : P.underlying t = some .bool) : Rd enc P W N t (fun b : Bool => [.bool b]) (fun _ => True) := by
 intro b hd n hn cs x hx hw
 obtain ⟨b, rfl, _⟩ := DataW.trod_bool ht hx
 exact ⟨b, by simp [VRs, VR], trivial⟩
theorem rd_int {k : IntKind} (ht : P.underlying t = some (.int k)) : Rd enc P W N t (fun n : Int => [.int k n]) (fun n => (Lit.int k n).wf = true) := by
 intro b hd n hn cs x hx hw
 obtain ⟨b, rfl, _, hwf⟩ := DataW.trod_int ht hx
 exact ⟨b, by simp [VRs, VR], hwf⟩
theorem rd_str (ht : P.underlying t = some .string) : Rd enc P W N t (fun s : List UInt8 => [.str s]) (fun s => s.length ≤ reachBytes) := by
 intro b hd n hn cs x hx hw
 obtain ⟨s, rfl, rfl, _⟩ := DataW.trod_string ht hx
 exact ⟨s.data.toList, by simp [VRs, VR], hw _ (by simp [DataW.weights])⟩
def ElOf (cells : α → List AV) (ev : α → AV) (sz : Nat) : Prop := ∀ (a : α) (S : Stab) (β : List Blk) (vs : List Value), VRs S β (cells a) vs → vs.length = sz → ∃ v, VR S β (ev a) v ∧ v.cells.toList = vs
theorem elOf_agg' {cells : α → List AV} {ev : α → AV} {sz : Nat} (he : ∀ a, ev a = .agg (cells a)) : ElOf cells ev sz := fun a S β vs h hl => ⟨.agg vs.toArray, by rw [he]; simp only [VR]; exact ⟨vs, rfl, h⟩, by simp [Value.cells]⟩
theorem elOf_one {ev : α → AV} (ho : ∀ a, okCell (ev a) = true) : ElOf (fun a => [ev a]) ev 1 := fun a S β vs h hl => by
 simp only [VRs] at h
 obtain ⟨v, _, rfl, h, rfl⟩ := h
 exact ⟨v, h, by rw [(okCell_ok (ho a) h).1]⟩
theorem weightsAll_mem {e : TypeId} : ∀ {l : List (DataW H)} {d : DataW H}, d ∈ l → ∀ k ∈ d.weights P e, k ∈ DataW.weightsAll P e l
 | x :: l, d, hd, k, hk => by
  simp only [DataW.weightsAll, List.mem_append]
  rcases List.mem_cons.1 hd with rfl | hd
  ·exact .inl hk
  ·exact .inr (weightsAll_mem hd k hk)
theorem rd_slice {e : TypeId} {cells : α → List AV} {Ok : α → Prop} (h : Rd enc P W N e cells Ok) (ht : P.underlying t = some (.slice e)) {sz by_ : Nat} (hsz : P.cellsOf e = sz) (h0 : 0 < sz) (hby : P.bytesOf e = by_) {ev : α → AV} (hev : ElOf cells ev sz) :
  Rd enc P W N t (fun l : List α => [.sl (l.map ev)]) (fun l => l.length * by_ ≤ reachBytes ∧ ∀ a ∈ l, Ok a) := by
 intro base hd n hn cs x hx hw
 rcases DataW.trod_slice ht hx with ⟨rfl, rfl⟩ | ⟨a, len, cap, elems, rest, m, rfl, rfl, rfl, hb, hle, hm, hlen, hel, hsp, _⟩
 ·exact ⟨[], by simp only [VRs, List.map_nil, VR]; exact ⟨_, _, rfl, ⟨none, 0, rfl, Nat.le_refl _, fun _ => rfl, fun q hq => by cases hq⟩, rfl⟩, by simp, fun a ha => by cases ha⟩
 obtain ⟨hrl, hre⟩ := hsp rfl
 rw [hsz] at hel hre
 simp only [DataW.weights, ht, List.mem_cons, List.mem_append, hby] at hw
 have hspot : 0 < cap → a.spot = none := by
  intro hc
  have : ∃ y, (W.cells? base (a.add 0) sz).bind (DataW.trod enc P W base (fun _ => true) hd m e) = some y := by
   by_cases h1 : 0 < len
   ·have := hel 0 h1
    rw [List.getElem?_eq_getElem (by omega)] at this
    exact ⟨_, by simpa using this⟩
   ·have := hre 0 (by omega)
    rw [List.getElem?_eq_getElem (by omega)] at this
    obtain rfl : len = 0 := by omega
    exact ⟨_, by simpa using this⟩
  obtain ⟨y, hy⟩ := this
  obtain ⟨cs, hcs, _⟩ := Option.bind_eq_some_iff.1 hy
  obtain ⟨_, hl, hc⟩ := World.cells?_some hcs
  have h2 := hc 0 h0
  rw [List.getElem?_eq_getElem (by omega)] at h2
  have h3 := World.cell?_spot h2
  have e : (a.add 0).add 0 = a := by unfold Addr.add; simp
  rwa [e] at h3
 have hx : ∀ i, i < len → ∃ y : α, (∃ v, VR (allS W) [] (ev y) v ∧ v.cells.size = sz ∧ cellsAt (allS W) a.block (a.off + i * sz) v.cells.toList) ∧ Ok y := by
  intro i hi
  have h1 := hel i hi
  rw [List.getElem?_eq_getElem (by omega)] at h1
  obtain ⟨cs, hcs, htr⟩ := Option.bind_eq_some_iff.1 h1
  obtain ⟨y, hy, hok⟩ := h base hd m (by omega) cs _ htr (fun k hk => hw k (.inr (.inl (weightsAll_mem (List.mem_map.2 ⟨_, List.getElem_mem _, rfl⟩) k hk))))
  obtain ⟨_, hl, hc⟩ := World.cells?_some hcs
  obtain ⟨v, hv, hvc⟩ := hev y _ _ cs hy hl
  refine ⟨y, ⟨v, hv, by rw [← Array.length_toList, hvc, hl], fun j u hj => ?_⟩, hok⟩
  rw [hvc] at hj
  have hjl : j < sz := by
   rcases Nat.lt_or_ge j cs.length with h | h
   ·omega
   ·rw [List.getElem?_eq_none h] at hj; cases hj
  have h2 := hc j hjl
  rw [hj] at h2
  unfold allS
  have hs := hspot (by omega)
  have e : (a.add (i * sz)).add j = ⟨a.block, a.off + i * sz + j, none⟩ := by
   obtain ⟨b, o, s⟩ := a
   simp only at hs
   subst hs
   rw [add_plain, add_plain]
  rw [← e]
  exact h2
 obtain ⟨l, hl1, hl2⟩ := list_of (fun i y => (∃ v, VR (allS W) [] (ev y) v ∧ v.cells.size = sz ∧ cellsAt (allS W) a.block (a.off + i * sz) v.cells.toList) ∧ Ok y) len hx
 refine ⟨l, ?_, ?_, fun y hy => ?_⟩
 ·simp only [VRs, VR, List.length_map]
  refine ⟨_, _, rfl, ⟨some a, cap, by rw [hl1], by omega, (fun e => by cases e), fun q hq => ?_⟩, rfl⟩
  cases hq
  refine ⟨hspot, sz, .of_get fun i e he => ?_⟩
  rw [List.getElem?_map, Option.map_eq_some_iff] at he
  obtain ⟨y, hy, rfl⟩ := he
  exact (hl2 i y hy).1
 ·have := hw _ (.inl rfl)
  simp only [List.length_map] at this
  have h3 := Nat.mul_le_mul_right by_ (show l.length ≤ elems.length + rest.length by omega)
  omega
 ·obtain ⟨i, hi, e⟩ := List.getElem_of_mem hy
  exact (hl2 i y (by rw [List.getElem?_eq_getElem hi, e])).2
theorem rdFs_nil {tot : Nat} : RdFs enc P W N tot tot [] (fun _ : Unit => []) (fun _ => True) := fun base hd n hn cs xs hl _ _ _ => ⟨(), by simp [VRs, ← hl], trivial⟩
theorem rdFs_cons {tot o k : Nat} {f : Field} {fs : List Field} {c1 : α → List AV} {Ok1 : α → Prop} {c2 : β → List AV} {Ok2 : β → Prop} (h1 : Rd enc P W N f.type c1 Ok1) (ho : f.offset = o) (hk : P.cellsOf f.type = k) (h2 : RdFs enc P W N tot (o + k) fs c2 Ok2) :
  RdFs enc P W N tot o (f :: fs) (fun x : α × β => c1 x.1 ++ c2 x.2) (fun x => Ok1 x.1 ∧ Ok2 x.2) := by
 intro base hd n hn cs xs hl hx hf hw
 match xs, hx with
 | x :: xs, hx =>
  have hf0 := hf 0 f rfl
  rw [ho, hk] at hf0
  simp only [List.map_cons, DataW.weightsEach, List.mem_append] at hw
  obtain ⟨a, ha, oa⟩ := h1 base hd n hn _ x hf0 fun k hk => hw k (.inl hk)
  obtain ⟨b, hb, ob⟩ := h2 base hd n hn cs xs hl (by simpa using hx) (fun i g hg => by simpa using hf (i + 1) g (by simpa using hg)) fun k hk => hw k (.inr hk)
  refine ⟨(a, b), ?_, oa, ob⟩
  have := ha.append hb
  rwa [← List.drop_drop, List.take_append_drop] at this
theorem rd_struct {fs : Array Field} {tot : Nat} {cells : α → List AV} {Ok : α → Prop} (ht : P.underlying t = some (.struct fs)) (hc : P.cellsOf t = tot) (h : RdFs enc P W N tot 0 fs.toList cells Ok) : Rd enc P W (N + 1) t cells Ok := by
 intro base hd n hn cs x hx hw
 obtain ⟨xs, m, rfl, rfl, hl, hxs, hf⟩ := DataW.trod_struct ht hx
 simp only [DataW.weights, ht] at hw
 obtain ⟨a, h1, h2⟩ := h base hd m (by omega) cs xs (by rw [hl, hc]) (by simpa using hxs) (fun i f hi => hf i f (by simpa using hi)) hw
 exact ⟨a, by simpa using h1, h2⟩
theorem rd_arg {cells : α → List AV} {Ok : α → Prop} (h : ∀ N, Rd enc P W N t cells Ok) {base : Nat} {held : Bool} {v : Value} {d : DataW H} {p : List MemPlace} (hd : DataW.Trod enc P W base (fun _ => true) held t v d p) (hw : ∀ k ∈ d.weights P t, k ≤ reachBytes) :
  ∃ a : α, VRs (allS W) [] (cells a) v.cells.toList ∧ Ok a := by
 obtain ⟨n, hn⟩ := hd
 exact h (n + 1) base held n (by omega) _ _ hn hw
theorem rd_arg1 {f : α → AV} {Ok : α → Prop} (h : ∀ N, Rd enc P W N t (fun a => [f a]) Ok) {base : Nat} {held : Bool} {v : Value} {d : DataW H} {p : List MemPlace} (hv : v.cells.toList = [v]) (hd : DataW.Trod enc P W base (fun _ => true) held t v d p) (hw : ∀ k ∈ d.weights P t, k ≤ reachBytes) :
  ∃ a : α, VR (allS W) [] (f a) v ∧ Ok a := by
 obtain ⟨a, h1, h2⟩ := rd_arg h hd hw
 rw [hv] at h1
 simp only [VRs] at h1
 obtain ⟨y, ys, e, h1, rfl⟩ := h1
 cases e
 exact ⟨a, h1, h2⟩
theorem arg_slice {e : TypeId} {r : Reach} {b0 : Nat} {f : α → AV} {Ok : α → Prop} (h : ∀ N, Rd enc P W N t (fun a => [f a]) Ok) (ht : P.underlying t = some (.slice e)) {base : Nat} {held : Bool} {v : Value} {d : DataW H} {p : List MemPlace} (hok : Value.okWide P W r b0 t v)
  (hd : DataW.Trod enc P W base (fun _ => true) held t v d p) (hw : ∀ k ∈ d.weights P t, k ≤ reachBytes) : ∃ a : α, VR (allS W) [] (f a) v ∧ Ok a := by
 obtain ⟨a, len, cap, rfl⟩ := okWide_slice ht hok
 exact rd_arg1 h rfl hd hw
theorem arg_str {r : Reach} {b0 : Nat} {f : α → AV} {Ok : α → Prop} (h : ∀ N, Rd enc P W N t (fun a => [f a]) Ok) (ht : P.underlying t = some .string) {base : Nat} {held : Bool} {v : Value} {d : DataW H} {p : List MemPlace} (hok : Value.okWide P W r b0 t v)
  (hd : DataW.Trod enc P W base (fun _ => true) held t v d p) (hw : ∀ k ∈ d.weights P t, k ≤ reachBytes) : ∃ a : α, VR (allS W) [] (f a) v ∧ Ok a := by
 obtain ⟨a, rfl⟩ := okWide_string ht hok
 exact rd_arg1 h rfl hd hw
theorem arg_int {k : IntKind} {r : Reach} {b0 : Nat} {f : α → AV} {Ok : α → Prop} (h : ∀ N, Rd enc P W N t (fun a => [f a]) Ok) (ht : P.underlying t = some (.int k)) {base : Nat} {held : Bool} {v : Value} {d : DataW H} {p : List MemPlace} (hok : Value.okWide P W r b0 t v)
  (hd : DataW.Trod enc P W base (fun _ => true) held t v d p) (hw : ∀ k ∈ d.weights P t, k ≤ reachBytes) : ∃ a : α, VR (allS W) [] (f a) v ∧ Ok a := by
 obtain ⟨a, rfl⟩ := okWide_int ht hok
 exact rd_arg1 h rfl hd hw
theorem arg_struct {fs : Array Field} {r : Reach} {b0 : Nat} {f : α → AV} {Ok : α → Prop} {cells : α → List AV} (h : ∀ N, Rd enc P W N t cells Ok) (hf : ∀ a, f a = .agg (cells a)) (ht : P.underlying t = some (.struct fs)) {base : Nat} {held : Bool} {v : Value} {d : DataW H} {p : List MemPlace} (hok : Value.okWide P W r b0 t v)
  (hd : DataW.Trod enc P W base (fun _ => true) held t v d p) (hw : ∀ k ∈ d.weights P t, k ≤ reachBytes) : ∃ a : α, VR (allS W) [] (f a) v ∧ Ok a := by
 obtain ⟨cs, rfl, _⟩ := okWide_struct ht hok
 obtain ⟨a, h1, h2⟩ := rd_arg h hd hw
 refine ⟨a, ?_, h2⟩
 rw [hf]
 simp only [VR]
 exact ⟨cs.toList, by simp, h1⟩
theorem each_light {ts : List TypeId} {ds : List (DataW H)} (h : (DataW.weightsEach P ts ds).all (· ≤ reachBytes) = true) {j : Nat} {u : TypeId} {d : DataW H} (ht : ts[j]? = some u) (hd : ds[j]? = some d) : ∀ k ∈ d.weights P u, k ≤ reachBytes := fun k hk => by
 have := List.all_eq_true.1 h _ (DataW.weights_mem_each ht hd k hk)
 simpa using this
end
end Go.Av

/- The types of the package api, and how their values stand as abstract values. No condition. -/
namespace Go.Av.Ap
abbrev Str := List UInt8
inductive Val where
 | mk (kind n : Int) (names : List Str) (values : List Val)
instance : Inhabited Val := ⟨.mk 0 0 [] []⟩
inductive Exp where
 | mk (op n : Int) (s m : Str) (names : List Str) (args : List Exp)
instance : Inhabited Exp := ⟨.mk 0 0 [] [] [] []⟩
inductive Ty where
 | mk (kind : Int) (fields : List (Str × Ty))
instance : Inhabited Ty := ⟨.mk 0 []⟩
abbrev Fld := Str × Ty
structure Fun where
 name : Str
 pub : Bool
 params : List Fld
 result : Ty
 effects : Int
 body : Exp
 deriving Inhabited
structure Mod where
 name : Str
 uses : List Str
 vars : List Fld
 init : List Exp
 funcs : List Fun
 moves : Bool
 old : List Fld
 forward : List Exp
 back : List Exp
 deriving Inhabited
def Val.kind : Val → Int | .mk k _ _ _ => k
def Val.n : Val → Int | .mk _ n _ _ => n
def Val.names : Val → List Str | .mk _ _ ns _ => ns
def Val.values : Val → List Val | .mk _ _ _ vs => vs
def Exp.op : Exp → Int | .mk o _ _ _ _ _ => o
def Exp.n : Exp → Int | .mk _ n _ _ _ _ => n
def Exp.s : Exp → Str | .mk _ _ s _ _ _ => s
def Exp.m : Exp → Str | .mk _ _ _ m _ _ => m
def Exp.names : Exp → List Str | .mk _ _ _ _ ns _ => ns
def Exp.args : Exp → List Exp | .mk _ _ _ _ _ es => es
def Ty.kind : Ty → Int | .mk k _ => k
def Ty.fields : Ty → List Fld | .mk _ fs => fs
@[simp] theorem Val.kind_mk (a b c d) : (Val.mk a b c d).kind = a := rfl
@[simp] theorem Val.n_mk (a b c d) : (Val.mk a b c d).n = b := rfl
@[simp] theorem Val.names_mk (a b c d) : (Val.mk a b c d).names = c := rfl
@[simp] theorem Val.values_mk (a b c d) : (Val.mk a b c d).values = d := rfl
def strs (l : List Str) : AV := .sl (l.map .str)
mutual
def Val.av : Val → AV
 | .mk k n ns vs => .agg [.int .i64 k, .int .i64 n, strs ns, .sl (valsAv vs)]
def valsAv : List Val → List AV
 | [] => []
 | v :: vs => v.av :: valsAv vs
end
mutual
def Exp.cells : Exp → List AV
 | .mk o n s m ns es => [.int .i64 o, .int .i64 n, .str s, .str m, strs ns, .sl (expsAv es)]
def expsAv : List Exp → List AV
 | [] => []
 | e :: es => .agg e.cells :: expsAv es
end
def Exp.av (e : Exp) : AV := .agg e.cells
mutual
def Ty.cells : Ty → List AV
 | .mk k fs => [.int .i64 k, .sl (fldsAv fs)]
def fldsAv : List (Str × Ty) → List AV
 | [] => []
 | f :: fs => fldAv f :: fldsAv fs
def fldAv : Str × Ty → AV
 | (n, t) => .agg (.str n :: t.cells)
end
def Ty.av (t : Ty) : AV := .agg t.cells
def Fun.av (f : Fun) : AV := .agg ([.str f.name, .bool f.pub, .sl (fldsAv f.params)] ++ f.result.cells ++ [.int .i64 f.effects] ++ f.body.cells)
def funs (l : List Fun) : AV := .sl (l.map Fun.av)
def Mod.av (m : Mod) : AV := .agg [.str m.name, strs m.uses, .sl (fldsAv m.vars), .sl (expsAv m.init), funs m.funcs, .bool m.moves, .sl (fldsAv m.old), .sl (expsAv m.forward), .sl (expsAv m.back)]
def vals (l : List Val) : AV := .sl (valsAv l)
def exps (l : List Exp) : AV := .sl (expsAv l)
def flds (l : List Fld) : AV := .sl (fldsAv l)
def mods (l : List Mod) : AV := .sl (l.map Mod.av)
def ints (l : List Int) : AV := .sl (l.map (.int .i64))
structure Vars where
 module : Str
 values : List Val
 deriving Inhabited
structure Deed where
 effect : Int
 arg : Int
 answer : Int
 deriving DecidableEq, Inhabited
structure Call where
 module : Str
 func : Str
 args : List Val
 deriving Inhabited
def Vars.av (v : Vars) : AV := .agg [.str v.module, vals v.values]
def Deed.av (d : Deed) : AV := .agg [.int .i64 d.effect, .int .i64 d.arg, .int .i64 d.answer]
def Call.av (c : Call) : AV := .agg [.str c.module, .str c.func, vals c.args]
def varss (l : List Vars) : AV := .sl (l.map Vars.av)
def deeds (l : List Deed) : AV := .sl (l.map Deed.av)
def calls (l : List Call) : AV := .sl (l.map Call.av)
structure Out where
 err : Int
 value : Val
 deeds : List Deed
 calls : List Call
 state : List Vars
def Out.av (o : Out) : AV := .agg [.int .i64 o.err, .int .i64 o.value.kind, .int .i64 o.value.n, strs o.value.names, vals o.value.values, Ap.deeds o.deeds, Ap.calls o.calls, varss o.state]
theorem valsAv_map : (l : List Val) → valsAv l = l.map Val.av
 | [] => rfl
 | v :: l => by simp [valsAv, valsAv_map l]
theorem expsAv_map : (l : List Exp) → expsAv l = l.map Exp.av
 | [] => rfl
 | v :: l => by simp [expsAv, expsAv_map l, Exp.av]
theorem fldsAv_map : (l : List Fld) → fldsAv l = l.map fldAv
 | [] => rfl
 | v :: l => by simp [fldsAv, fldsAv_map l]
theorem Val.av_eq (v : Val) : v.av = .agg [.int .i64 v.kind, .int .i64 v.n, strs v.names, vals v.values] := by cases v; rfl
theorem Exp.cells_eq (e : Exp) : e.cells = [.int .i64 e.op, .int .i64 e.n, .str e.s, .str e.m, strs e.names, exps e.args] := by cases e; rfl
theorem Ty.cells_eq (t : Ty) : t.cells = [.int .i64 t.kind, flds t.fields] := by cases t; simp [Ty.cells, flds, Ty.kind, Ty.fields]
theorem fldAv_eq (f : Fld) : fldAv f = .agg [.str f.1, .int .i64 f.2.kind, flds f.2.fields] := by obtain ⟨n, t⟩ := f; simp [fldAv, Ty.cells_eq]
@[simp] theorem acells_val (v : Val) : acells v.av = [.int .i64 v.kind, .int .i64 v.n, strs v.names, vals v.values] := by rw [v.av_eq]; rfl
@[simp] theorem acells_exp (e : Exp) : acells e.av = [.int .i64 e.op, .int .i64 e.n, .str e.s, .str e.m, strs e.names, exps e.args] := by rw [Exp.av, e.cells_eq]; rfl
@[simp] theorem acells_fld (f : Fld) : acells (fldAv f) = [.str f.1, .int .i64 f.2.kind, flds f.2.fields] := by rw [fldAv_eq]; rfl
@[simp] theorem acells_ty (t : Ty) : acells t.av = [.int .i64 t.kind, flds t.fields] := by rw [Ty.av, t.cells_eq]; rfl
@[simp] theorem acells_fun (f : Fun) : acells f.av = [.str f.name, .bool f.pub, flds f.params, .int .i64 f.result.kind, flds f.result.fields, .int .i64 f.effects, .int .i64 f.body.op, .int .i64 f.body.n, .str f.body.s, .str f.body.m, strs f.body.names, exps f.body.args] := by
 simp [Fun.av, acells, Ty.cells_eq, Exp.cells_eq, flds]
@[simp] theorem acells_mod (m : Mod) : acells m.av = [.str m.name, strs m.uses, flds m.vars, exps m.init, funs m.funcs, .bool m.moves, flds m.old, exps m.forward, exps m.back] := rfl
@[simp] theorem fold_val (v : Val) : AV.agg [.int .i64 v.kind, .int .i64 v.n, strs v.names, vals v.values] = v.av := (v.av_eq).symm
@[simp] theorem fold_exp (e : Exp) : AV.agg [.int .i64 e.op, .int .i64 e.n, .str e.s, .str e.m, strs e.names, exps e.args] = e.av := by rw [Exp.av, e.cells_eq]
@[simp] theorem fold_ty (t : Ty) : AV.agg [.int .i64 t.kind, flds t.fields] = t.av := by rw [Ty.av, t.cells_eq]
@[simp] theorem fold_fld (f : Fld) : AV.agg [.str f.1, .int .i64 f.2.kind, flds f.2.fields] = fldAv f := (fldAv_eq f).symm
@[simp] theorem fold_fun (f : Fun) : AV.agg [.str f.name, .bool f.pub, flds f.params, .int .i64 f.result.kind, flds f.result.fields, .int .i64 f.effects, .int .i64 f.body.op, .int .i64 f.body.n, .str f.body.s, .str f.body.m, strs f.body.names, exps f.body.args] = f.av := by
 simp [Fun.av, Ty.cells_eq, Exp.cells_eq, flds]
@[simp] theorem fold_mod (m : Mod) : AV.agg [.str m.name, strs m.uses, flds m.vars, exps m.init, funs m.funcs, .bool m.moves, flds m.old, exps m.forward, exps m.back] = m.av := rfl
theorem cls_map {α : Type} (g : Nat → Nat → Nat → Nat → Bool → AV) (f : α → AV) (h : ∀ x, cl g (f x) = f x) : (l : List α) → cls g (l.map f) = l.map f
 | [] => rfl
 | x :: l => by simp [cls, h x, cls_map g f h l]
@[simp] theorem cl_strs (g : Nat → Nat → Nat → Nat → Bool → AV) (l : List Str) : cl g (strs l) = strs l := by
 simp [strs, cl, cls_map g AV.str (fun _ => rfl) l]
@[simp] theorem cl_ints (g : Nat → Nat → Nat → Nat → Bool → AV) (l : List Int) : cl g (ints l) = ints l := by
 simp [ints, cl, cls_map g (AV.int .i64) (fun _ => rfl) l]
mutual
theorem Val.cl_av (g : Nat → Nat → Nat → Nat → Bool → AV) : (v : Val) → cl g v.av = v.av
 | .mk k n ns vs => by simp [Val.av, cl, cls, vals_cl g vs]
theorem vals_cl (g : Nat → Nat → Nat → Nat → Bool → AV) : (l : List Val) → cls g (valsAv l) = valsAv l
 | [] => rfl
 | v :: l => by simp [valsAv, cls, Val.cl_av g v, vals_cl g l]
end
mutual
theorem Exp.cl_cells (g : Nat → Nat → Nat → Nat → Bool → AV) : (e : Exp) → cls g e.cells = e.cells
 | .mk o n s m ns es => by simp [Exp.cells, cl, cls, exps_cl g es]
theorem exps_cl (g : Nat → Nat → Nat → Nat → Bool → AV) : (l : List Exp) → cls g (expsAv l) = expsAv l
 | [] => rfl
 | e :: l => by simp [expsAv, cls, cl, Exp.cl_cells g e, exps_cl g l]
end
mutual
theorem Ty.cl_cells (g : Nat → Nat → Nat → Nat → Bool → AV) : (t : Ty) → cls g t.cells = t.cells
 | .mk k fs => by simp [Ty.cells, cl, cls, flds_cl g fs]
theorem flds_cl (g : Nat → Nat → Nat → Nat → Bool → AV) : (l : List (Str × Ty)) → cls g (fldsAv l) = fldsAv l
 | [] => rfl
 | f :: l => by simp [fldsAv, cls, fld_cl g f, flds_cl g l]
theorem fld_cl (g : Nat → Nat → Nat → Nat → Bool → AV) : (f : Str × Ty) → cl g (fldAv f) = fldAv f
 | (n, t) => by simp [fldAv, cl, cls, Ty.cl_cells g t]
end
@[simp] theorem cl_val (g : Nat → Nat → Nat → Nat → Bool → AV) (v : Val) : cl g v.av = v.av := v.cl_av g
@[simp] theorem cl_vals (g : Nat → Nat → Nat → Nat → Bool → AV) (l : List Val) : cl g (vals l) = vals l := by simp [vals, cl, vals_cl]
@[simp] theorem cl_exp (g : Nat → Nat → Nat → Nat → Bool → AV) (e : Exp) : cl g e.av = e.av := by simp [Exp.av, cl, Exp.cl_cells]
@[simp] theorem cl_exps (g : Nat → Nat → Nat → Nat → Bool → AV) (l : List Exp) : cl g (exps l) = exps l := by simp [exps, cl, exps_cl]
@[simp] theorem cl_ty (g : Nat → Nat → Nat → Nat → Bool → AV) (t : Ty) : cl g t.av = t.av := by simp [Ty.av, cl, Ty.cl_cells]
@[simp] theorem cl_fld (g : Nat → Nat → Nat → Nat → Bool → AV) (f : Fld) : cl g (fldAv f) = fldAv f := fld_cl g f
@[simp] theorem cl_flds (g : Nat → Nat → Nat → Nat → Bool → AV) (l : List Fld) : cl g (flds l) = flds l := by simp [flds, cl, flds_cl]
theorem cls_append (g : Nat → Nat → Nat → Nat → Bool → AV) : (a b : List AV) → cls g (a ++ b) = cls g a ++ cls g b
 | [], b => rfl
 | x :: a, b => by simp [cls, cls_append g a b]
@[simp] theorem cl_fun (g : Nat → Nat → Nat → Nat → Bool → AV) (f : Fun) : cl g f.av = f.av := by
 simp [Fun.av, cl, cls, cls_append, flds_cl, Ty.cl_cells, Exp.cl_cells]
@[simp] theorem cl_funs (g : Nat → Nat → Nat → Nat → Bool → AV) (l : List Fun) : cl g (funs l) = funs l := by simp [funs, cl, cls_map g Fun.av (cl_fun g)]
@[simp] theorem cl_mod (g : Nat → Nat → Nat → Nat → Bool → AV) (m : Mod) : cl g m.av = m.av := by
 simp [Mod.av, cl, cls, flds_cl, exps_cl, cl_funs]
@[simp] theorem cl_mods (g : Nat → Nat → Nat → Nat → Bool → AV) (l : List Mod) : cl g (mods l) = mods l := by simp [mods, cl, cls_map g Mod.av (cl_mod g)]
@[simp] theorem cl_int (g : Nat → Nat → Nat → Nat → Bool → AV) (k : IntKind) (n : Int) : cl g (.int k n) = .int k n := rfl
@[simp] theorem cl_bool (g : Nat → Nat → Nat → Nat → Bool → AV) (b : Bool) : cl g (.bool b) = .bool b := rfl
@[simp] theorem cl_str (g : Nat → Nat → Nat → Nat → Bool → AV) (s : Str) : cl g (.str s) = .str s := rfl
@[simp] theorem cl_vars (g : Nat → Nat → Nat → Nat → Bool → AV) (v : Vars) : cl g v.av = v.av := by simp [Vars.av, cl, cls]
@[simp] theorem cl_deed (g : Nat → Nat → Nat → Nat → Bool → AV) (v : Deed) : cl g v.av = v.av := by simp [Deed.av, cl, cls]
@[simp] theorem cl_call (g : Nat → Nat → Nat → Nat → Bool → AV) (v : Call) : cl g v.av = v.av := by simp [Call.av, cl, cls]
@[simp] theorem cl_varss (g : Nat → Nat → Nat → Nat → Bool → AV) (l : List Vars) : cl g (varss l) = varss l := by simp [varss, cl, cls_map g Vars.av (cl_vars g)]
@[simp] theorem cl_deeds (g : Nat → Nat → Nat → Nat → Bool → AV) (l : List Deed) : cl g (deeds l) = deeds l := by simp [deeds, cl, cls_map g Deed.av (cl_deed g)]
@[simp] theorem cl_calls (g : Nat → Nat → Nat → Nat → Bool → AV) (l : List Call) : cl g (calls l) = calls l := by simp [calls, cl, cls_map g Call.av (cl_call g)]
@[simp] theorem cl_out (g : Nat → Nat → Nat → Nat → Bool → AV) (o : Out) : cl g o.av = o.av := by simp [Out.av, cl, cls]
@[simp] theorem acells_vars (v : Vars) : acells v.av = [.str v.module, vals v.values] := rfl
@[simp] theorem acells_deed (v : Deed) : acells v.av = [.int .i64 v.effect, .int .i64 v.arg, .int .i64 v.answer] := rfl
@[simp] theorem acells_call (v : Call) : acells v.av = [.str v.module, .str v.func, vals v.args] := rfl
@[simp] theorem acells_out (o : Out) : acells o.av = [.int .i64 o.err, .int .i64 o.value.kind, .int .i64 o.value.n, strs o.value.names, vals o.value.values, deeds o.deeds, calls o.calls, varss o.state] := rfl
@[simp] theorem fold_vars (v : Vars) : AV.agg [.str v.module, vals v.values] = v.av := rfl
@[simp] theorem fold_deed (v : Deed) : AV.agg [.int .i64 v.effect, .int .i64 v.arg, .int .i64 v.answer] = v.av := rfl
@[simp] theorem fold_call (v : Call) : AV.agg [.str v.module, .str v.func, vals v.args] = v.av := rfl
@[simp] theorem fold_out (o : Out) : AV.agg [.int .i64 o.err, .int .i64 o.value.kind, .int .i64 o.value.n, strs o.value.names, vals o.value.values, deeds o.deeds, calls o.calls, varss o.state] = o.av := rfl
@[simp] theorem size_vars (v : Vars) : sizeA v.av = some 2 := rfl
@[simp] theorem size_deed (v : Deed) : sizeA v.av = some 3 := rfl
@[simp] theorem size_call (v : Call) : sizeA v.av = some 3 := rfl
@[simp] theorem size_out (v : Out) : sizeA v.av = some 8 := rfl
@[simp] theorem okEl_vars (v : Vars) : okEl 2 v.av = true := by simp [okEl, okCell, vals]
@[simp] theorem okEl_deed (v : Deed) : okEl 3 v.av = true := by simp [okEl, okCell]
@[simp] theorem okEl_call (v : Call) : okEl 3 v.av = true := by simp [okEl, okCell, vals]
@[simp] theorem okEl_out (v : Out) : okEl 8 v.av = true := by simp [okEl, okCell, vals, strs, deeds, calls, varss]
def Clean (a : AV) : Prop := ∀ g, cl g a = a
theorem Clean.frz {a : AV} (h : Clean a) (d : Nat) (hp : Hp) : frz d hp a = a := by
 cases d with
 | zero => exact h _
 | succ d => exact h _
theorem isoP_pure {a : AV} (h : Clean a) : isoP (M.pure a) = M.pure a := by
 funext hp
 simp only [isoP, M.pure, h.frz]
@[simp] theorem isoP_bool (b : Bool) : isoP (M.pure (.bool b)) = M.pure (.bool b) := isoP_pure fun _ => rfl
@[simp] theorem isoP_int (k : IntKind) (n : Int) : isoP (M.pure (.int k n)) = M.pure (.int k n) := isoP_pure fun _ => rfl
@[simp] theorem isoP_str (s : Str) : isoP (M.pure (.str s)) = M.pure (.str s) := isoP_pure fun _ => rfl
@[simp] theorem isoP_val (v : Val) : isoP (M.pure v.av) = M.pure v.av := isoP_pure fun g => cl_val g v
@[simp] theorem isoP_vals (v : List Val) : isoP (M.pure (vals v)) = M.pure (vals v) := isoP_pure fun g => cl_vals g v
@[simp] theorem isoP_exp (v : Exp) : isoP (M.pure v.av) = M.pure v.av := isoP_pure fun g => cl_exp g v
@[simp] theorem isoP_fun (v : Fun) : isoP (M.pure v.av) = M.pure v.av := isoP_pure fun g => cl_fun g v
@[simp] theorem size_val (v : Val) : sizeA v.av = some 4 := by rw [v.av_eq]; rfl
@[simp] theorem size_exp (e : Exp) : sizeA e.av = some 6 := by rw [Exp.av, e.cells_eq]; rfl
@[simp] theorem size_fld (f : Fld) : sizeA (fldAv f) = some 3 := by rw [fldAv_eq]; rfl
@[simp] theorem size_ty (t : Ty) : sizeA t.av = some 2 := by rw [Ty.av, t.cells_eq]; rfl
@[simp] theorem size_fun (f : Fun) : sizeA f.av = some 12 := by simp [Fun.av, sizeA, Ty.cells_eq, Exp.cells_eq]
@[simp] theorem size_mod (m : Mod) : sizeA m.av = some 9 := rfl
@[simp] theorem okEl_val (v : Val) : okEl 4 v.av = true := by simp [okEl, okCell, strs, vals]
@[simp] theorem okEl_exp (e : Exp) : okEl 6 e.av = true := by simp [okEl, okCell, strs, exps]
@[simp] theorem okEl_fld (f : Fld) : okEl 3 (fldAv f) = true := by simp [okEl, okCell, flds]
@[simp] theorem okEl_fun (f : Fun) : okEl 12 f.av = true := by simp [okEl, okCell, flds, strs, exps]
@[simp] theorem okEl_mod (m : Mod) : okEl 9 m.av = true := by simp [okEl, okCell, flds, strs, exps, funs]
@[simp] theorem okEl_str (s : Str) : okEl 1 (.str s) = true := rfl
@[simp] theorem okEl_int (k : IntKind) (n : Int) : okEl 1 (.int k n) = true := rfl
theorem okSz_map {α : Type} {sz : Nat} {f : α → AV} (h : ∀ x, okEl sz (f x) = true) (l : List α) : okSz sz (l.map f) = true := by simp [okSz, h]
@[simp] theorem okSz_strs (l : List Str) : okSz 1 (l.map AV.str) = true := okSz_map okEl_str l
@[simp] theorem okSz_ints (l : List Int) : okSz 1 (l.map (AV.int .i64)) = true := okSz_map (okEl_int .i64) l
@[simp] theorem okSz_vals (l : List Val) : okSz 4 (valsAv l) = true := by rw [valsAv_map]; exact okSz_map okEl_val l
@[simp] theorem okSz_exps (l : List Exp) : okSz 6 (expsAv l) = true := by rw [expsAv_map]; exact okSz_map okEl_exp l
@[simp] theorem okSz_flds (l : List Fld) : okSz 3 (fldsAv l) = true := by rw [fldsAv_map]; exact okSz_map okEl_fld l
@[simp] theorem okSz_funs (l : List Fun) : okSz 12 (l.map Fun.av) = true := okSz_map okEl_fun l
@[simp] theorem okSz_mods (l : List Mod) : okSz 9 (l.map Mod.av) = true := okSz_map okEl_mod l
theorem indexAddrA_map {T : TT} {t e : Nat} {ti ei : TI} (ht : T t = some ti) (hk : ti.kind = .slice e) (he : T e = some ei) {α : Type} {f : α → AV} (hs : ∀ x, sizeA (f x) = some ei.size) {l : List α} {i : Nat} {x : α} (h : l[i]? = some x) :
  indexAddrA T t (.sl (l.map f)) (.int .i64 (i : Int)) = some (.ip (acells (f x))) := by
 unfold indexAddrA
 rw [ht]
 simp only [hk, he]
 rw [if_neg (by omega)]
 have : (l.map f)[(i : Int).toNat]? = some (f x) := by rw [Int.toNat_natCast, List.getElem?_map, h]; rfl
 rw [this]
 simp only
 rw [if_pos (hs x)]
theorem indexAddrA_int {T : TT} {t e : Nat} {ti ei : TI} (ht : T t = some ti) (hk : ti.kind = .slice e) (he : T e = some ei) {α : Type} [Inhabited α] {f : α → AV} (hs : ∀ x, sizeA (f x) = some ei.size) {l : List α} {n : Int} (h0 : 0 ≤ n) (h : n < (l.length : Int)) :
  indexAddrA T t (.sl (l.map f)) (.int .i64 n) = some (.ip (acells (f l[n.toNat]!))) := by
 have hlt : n.toNat < l.length := by omega
 have := indexAddrA_map ht hk he hs (l := l) (i := n.toNat) (x := l[n.toNat]!) (by rw [List.getElem!_eq_getElem?_getD, List.getElem?_eq_getElem hlt]; rfl)
 rw [show ((n.toNat : Nat) : Int) = n by omega] at this
 exact this
theorem appA_map {T : TT} {t e : Nat} {ti ei : TI} (ht : T t = some ti) (hk : ti.kind = .slice e) (he : T e = some ei) {α : Type} {f : α → AV} (hs : ∀ x, okEl ei.size (f x) = true) {a b : List α} (h : (a.length + b.length) * ei.bytes ≤ 140737488355328) (h0 : 0 < ei.bytes) :
  appA T t (.sl (a.map f)) (.sl (b.map f)) = some (.sl ((a ++ b).map f)) := by
 unfold appA
 rw [ht]
 simp only [hk, he, elsOf]
 rw [okSz_map hs, okSz_map hs]
 simp [h, h0, strOk]
end Go.Av.Ap

/- Rules by which shallow programs are simplified. No condition. -/
namespace Go.Av
attribute [simp] bnd_pure bnd_some bnd_fail bnd_throw
@[simp] theorem condM_bool {α : Type} (b : Bool) (x y : M α) : condM (.bool b) x y = if b = true then x else y := by cases b <;> rfl
def gv (b w : Bool) (y : AV) : AV := bif b == w then y else .tup []
@[simp] theorem gv_ff (y : AV) : gv false false y = y := rfl
@[simp] theorem gv_tt (y : AV) : gv true true y = y := rfl
@[simp] theorem gv_ft (y : AV) : gv false true y = .tup [] := rfl
@[simp] theorem gv_tf (y : AV) : gv true false y = .tup [] := rfl
@[simp high] theorem guardM_pure1 (b w : Bool) (y : AV) : guardM (.bool b) w 1 (M.pure [y]) = M.pure [gv b w y] := by cases b <;> cases w <;> rfl
@[simp high] theorem guardM_gv (b w c w2 : Bool) (y : AV) : guardM (gv b w (.bool c)) w2 1 (M.pure [y]) = M.pure [gv b w (gv c w2 y)] := by cases b <;> cases w <;> cases c <;> cases w2 <;> rfl
@[simp high] theorem guardM_or (b w c e : Bool) : guardM (.bool b) w 1 (bnd (lft (pickA (gv b w (.bool c)) (.bool true) (gv b w (gv c false (.bool e))))) fun v => M.pure [v]) = M.pure [gv b w (.bool (c || e))] := by
 cases b <;> cases w <;> cases c <;> rfl
@[simp high] theorem guardM_and (b w c e : Bool) : guardM (.bool b) w 1 (bnd (lft (pickA (gv b w (.bool c)) (gv b w (gv c true (.bool e))) (.bool false))) fun v => M.pure [v]) = M.pure [gv b w (.bool (c && e))] := by
 cases b <;> cases w <;> cases c <;> rfl
@[simp high] theorem pickA_and (b c : Bool) : pickA (.bool b) (gv b true (.bool c)) (.bool false) = some (.bool (b && c)) := by cases b <;> rfl
@[simp high] theorem pickA_or (b c : Bool) : pickA (.bool b) (.bool true) (gv b false (.bool c)) = some (.bool (b || c)) := by cases b <;> rfl
@[simp] theorem guardM_skip1 (w : Bool) (n : Nat) (m : M (List AV)) : guardM (.bool !w) w n m = M.pure (List.replicate n (.tup [])) := by cases w <;> rfl
@[simp] theorem guardM_take1 (w : Bool) (n : Nat) (m : M (List AV)) : guardM (.bool w) w n m = m := by cases w <;> rfl
@[simp] theorem guardM_ft (n : Nat) (m : M (List AV)) : guardM (.bool false) true n m = M.pure (List.replicate n (.tup [])) := rfl
@[simp] theorem guardM_tf (n : Nat) (m : M (List AV)) : guardM (.bool true) false n m = M.pure (List.replicate n (.tup [])) := rfl
@[simp] theorem guardM_tup (w : Bool) (n : Nat) (m : M (List AV)) : guardM (.tup []) w n m = M.pure (List.replicate n (.tup [])) := rfl
@[simp] theorem pickA_true (x y : AV) : pickA (.bool true) x y = some x := rfl
@[simp] theorem pickA_false (x y : AV) : pickA (.bool false) x y = some y := rfl
@[simp] theorem nth_zero (x : AV) (l : List AV) : nth (x :: l) 0 = x := rfl
@[simp] theorem nth_succ (x : AV) (l : List AV) (n : Nat) : nth (x :: l) (n + 1) = nth l n := rfl
@[simp] theorem jn_def {α : Type} (k : List AV → M α) (m : (List AV → M α) → M α) : jn k m = m k := rfl
@[simp] theorem noPan_pure {α : Type} (a : α) : noPan (M.pure a) = M.pure a := rfl
@[simp] theorem unA_not (b : Bool) : unA .not (.bool b) = some (.bool !b) := rfl
@[simp] theorem extractA_tup (l : List AV) (i : Nat) : extractA (.tup l) i = l[i]? := rfl
@[simp] theorem mkIface_nil : True := trivial
@[simp] theorem nilChkA_hp (l k : Nat) : nilChkA (.hp l k) = some (.hp l k) := rfl
@[simp] theorem nilChkA_ip (cs : List AV) : nilChkA (.ip cs) = some (.ip cs) := rfl
@[simp] theorem acells_str (s : List UInt8) : acells (.str s) = [.str s] := rfl
@[simp] theorem acells_int (k : IntKind) (n : Int) : acells (.int k n) = [.int k n] := rfl
@[simp] theorem acells_agg (cs : List AV) : acells (.agg cs) = cs := rfl
@[simp] theorem bin_add (T : TT) (t : Nat) (a b : Int) : binA T .add t (.int .i64 a) (.int .i64 b) = some (.int .i64 (IntKind.i64.wrap (a + b))) := rfl
@[simp] theorem bin_sub (T : TT) (t : Nat) (a b : Int) : binA T .sub t (.int .i64 a) (.int .i64 b) = some (.int .i64 (IntKind.i64.wrap (a - b))) := rfl
@[simp] theorem bin_mul (T : TT) (t : Nat) (a b : Int) : binA T .mul t (.int .i64 a) (.int .i64 b) = some (.int .i64 (IntKind.i64.wrap (a * b))) := rfl
@[simp] theorem bin_lss (T : TT) (t : Nat) (a b : Int) : binA T .lss t (.int .i64 a) (.int .i64 b) = some (.bool (decide (a < b))) := rfl
@[simp] theorem bin_leq (T : TT) (t : Nat) (a b : Int) : binA T .leq t (.int .i64 a) (.int .i64 b) = some (.bool (decide (a ≤ b))) := rfl
@[simp] theorem bin_gtr (T : TT) (t : Nat) (a b : Int) : binA T .gtr t (.int .i64 a) (.int .i64 b) = some (.bool (decide (b < a))) := rfl
@[simp] theorem bin_geq (T : TT) (t : Nat) (a b : Int) : binA T .geq t (.int .i64 a) (.int .i64 b) = some (.bool (decide (b ≤ a))) := rfl
@[simp] theorem bin_eql (T : TT) (t : Nat) (a b : Int) : binA T .eql t (.int .i64 a) (.int .i64 b) = some (.bool (a == b)) := rfl
@[simp] theorem bin_neq (T : TT) (t : Nat) (a b : Int) : binA T .neq t (.int .i64 a) (.int .i64 b) = some (.bool (a != b)) := rfl
@[simp] theorem str_eql (T : TT) (t : Nat) (a b : List UInt8) : binA T .eql t (.str a) (.str b) = some (.bool (a == b)) := rfl
@[simp] theorem str_neq (T : TT) (t : Nat) (a b : List UInt8) : binA T .neq t (.str a) (.str b) = some (.bool !(a == b)) := rfl
@[simp] theorem str_lss (T : TT) (t : Nat) (a b : List UInt8) : binA T .lss t (.str a) (.str b) = some (.bool (strLess a b)) := rfl
@[simp] theorem str_geq (T : TT) (t : Nat) (a b : List UInt8) : binA T .geq t (.str a) (.str b) = some (.bool !(strLess a b)) := rfl
@[simp] theorem cellsM_of {n : Nat} {x : AV} (h : okEl n x = true) : cellsM n x = M.pure (.agg (acells x)) := by
 unfold cellsM cellsN
 rw [h]
 rfl
@[simp] theorem cellsNil_of {n : Nat} {x : AV} (h : okEl n x = true) : cellsNil n [] x = M.pure (.agg (acells x)) := by
 unfold cellsNil cellsN
 rw [h]
 rfl
@[simp] theorem minsA_one (b : Bool) (x : AV) : minsA b [x] = some x := by simp [minsA]
@[simp] theorem minsA_two (b : Bool) (a c : Int) : minsA b [.int .i64 a, .int .i64 c] = some (.int .i64 (if b = true then max a c else min a c)) := by
 cases b
 ·simp only [minsA, minA, cond_false]
  congr 2
  simp only [Int.min_def]
  split <;> split <;> simp_all <;> omega
 ·simp only [minsA, minA, cond_true]
  congr 2
  simp only [Int.max_def]
  split <;> split <;> simp_all <;> omega
theorem wrap_in {x : Int} (h1 : -9223372036854775808 ≤ x) (h2 : x ≤ 9223372036854775807) : IntKind.i64.wrap x = x := IntWalk.i64_in _ ⟨h1, h2⟩
theorem wrap_add1 {n : Nat} (h : n ≤ 4611686018427387904) : IntKind.i64.wrap ((n : Int) + 1) = ((n + 1 : Nat) : Int) := by
 rw [IntWalk.i64_in _ (by omega)]; omega
namespace Ap
mutual
def Val.sz : Val → Nat
 | .mk _ _ ns vs => 1 + ns.length + valsSz vs
def valsSz : List Val → Nat
 | [] => 0
 | v :: vs => v.sz + valsSz vs
end
theorem valsSz_mem : {l : List Val} → {v : Val} → v ∈ l → v.sz ≤ valsSz l
 | w :: l, v, h => by
  simp only [valsSz]
  rcases List.mem_cons.1 h with rfl | h
  ·omega
  ·have := valsSz_mem h; omega
theorem Val.sz_pos (v : Val) : 1 ≤ v.sz := by cases v; simp [Val.sz]; omega
theorem valsSz_len : (l : List Val) → l.length ≤ valsSz l
 | [] => by simp
 | v :: l => by have := valsSz_len l; have := v.sz_pos; simp only [valsSz, List.length_cons]; omega
theorem Val.sz_names (v : Val) : v.names.length ≤ v.sz := by cases v; simp [Val.sz, Val.names]; omega
theorem Val.sz_values (v : Val) : valsSz v.values < v.sz := by cases v; simp [Val.sz, Val.values]; omega
theorem Val.sz_len (v : Val) : v.values.length < v.sz := Nat.lt_of_le_of_lt (valsSz_len _) v.sz_values
theorem Val.sz_mem {v x : Val} (h : x ∈ v.values) : x.sz < v.sz := Nat.lt_of_le_of_lt (valsSz_mem h) v.sz_values
end Ap
end Go.Av
namespace Go.Av
def idxAt {α : Type} (F : α → Bool) : List α → Int → Int
 | [], _ => -1
 | x :: l, i => if F x = true then i else idxAt F l (i + 1)
theorem idxAt_ge {α : Type} (F : α → Bool) : (l : List α) → (i : Int) → 0 ≤ i → (0 ≤ idxAt F l i ↔ l.any F = true)
 | [], i, _ => by simp [idxAt]
 | x :: l, i, h => by
  simp only [idxAt]
  split
  ·rename_i hx; simp [hx, h]
  ·rename_i hx; rw [idxAt_ge F l (i + 1) (by omega)]; simp [hx]
theorem idxAt_any {α : Type} (F : α → Bool) (l : List α) : decide (0 ≤ idxAt F l 0) = l.any F := by
 have := idxAt_ge F l 0 (by omega)
 cases h : l.any F with
 | true => simp [this.2 h]
 | false => simp only [decide_eq_false_iff_not]; intro hh; rw [this.1 hh] at h; cases h
end Go.Av
namespace Go.Av
@[simp] theorem natCast_beq (a b : Nat) : ((a : Int) == (b : Int)) = (a == b) := by rw [Bool.eq_iff_iff]; simp; omega
@[simp] theorem natCast_beq0 (a : Nat) : ((a : Int) == 0) = (a == 0) := by rw [Bool.eq_iff_iff]; simp
@[simp] theorem natCast_bne (a b : Nat) : ((a : Int) != (b : Int)) = (a != b) := by rw [Bool.eq_iff_iff]; simp; omega
end Go.Av
namespace Go.Av
def all2 {α β : Type} (F : α → β → Bool) : List α → List β → Bool
 | x :: l, y :: r => F x y && all2 F l r
 | [], [] => true
 | _, _ => false
theorem all2_drop {α β : Type} (F : α → β → Bool) (a : List α) (b : List β) (i : Nat) (h1 : i < a.length) (h2 : i < b.length) : all2 F (a.drop i) (b.drop i) = (F a[i] b[i] && all2 F (a.drop (i + 1)) (b.drop (i + 1))) := by
 rw [List.drop_eq_getElem_cons h1, List.drop_eq_getElem_cons h2]
 rfl
theorem all2_length {α β : Type} (F : α → β → Bool) : (a : List α) → (b : List β) → a.length ≠ b.length → all2 F a b = false
 | [], [], h => absurd rfl h
 | [], _ :: _, _ => rfl
 | _ :: _, [], _ => rfl
 | x :: a, y :: b, h => by
  have := all2_length F a b (by simpa using h)
  simp [all2, this]
end Go.Av
namespace Go.Av
open Ap
@[simp high] theorem cellsM_val (x : Val) : cellsM 4 (Val.av x) = M.pure (Val.av x) := by rw [cellsM_of (okEl_val x), acells_val, fold_val]
@[simp high] theorem cellsNil_val (x : Val) : cellsNil 4 [] (Val.av x) = M.pure (Val.av x) := by rw [cellsNil_of (okEl_val x), acells_val, fold_val]
@[simp high] theorem cellsM_exp (x : Exp) : cellsM 6 (Exp.av x) = M.pure (Exp.av x) := by rw [cellsM_of (okEl_exp x), acells_exp, fold_exp]
@[simp high] theorem cellsNil_exp (x : Exp) : cellsNil 6 [] (Exp.av x) = M.pure (Exp.av x) := by rw [cellsNil_of (okEl_exp x), acells_exp, fold_exp]
@[simp high] theorem cellsM_fld (x : Fld) : cellsM 3 (fldAv x) = M.pure (fldAv x) := by rw [cellsM_of (okEl_fld x), acells_fld, fold_fld]
@[simp high] theorem cellsNil_fld (x : Fld) : cellsNil 3 [] (fldAv x) = M.pure (fldAv x) := by rw [cellsNil_of (okEl_fld x), acells_fld, fold_fld]
@[simp high] theorem cellsM_fun (x : Fun) : cellsM 12 (Fun.av x) = M.pure (Fun.av x) := by rw [cellsM_of (okEl_fun x), acells_fun, fold_fun]
@[simp high] theorem cellsNil_fun (x : Fun) : cellsNil 12 [] (Fun.av x) = M.pure (Fun.av x) := by rw [cellsNil_of (okEl_fun x), acells_fun, fold_fun]
@[simp high] theorem cellsM_mod (x : Mod) : cellsM 9 (Mod.av x) = M.pure (Mod.av x) := by rw [cellsM_of (okEl_mod x), acells_mod, fold_mod]
@[simp high] theorem cellsNil_mod (x : Mod) : cellsNil 9 [] (Mod.av x) = M.pure (Mod.av x) := by rw [cellsNil_of (okEl_mod x), acells_mod, fold_mod]
@[simp high] theorem cellsM_vars (x : Vars) : cellsM 2 (Vars.av x) = M.pure (Vars.av x) := by rw [cellsM_of (okEl_vars x), acells_vars, fold_vars]
@[simp high] theorem cellsNil_vars (x : Vars) : cellsNil 2 [] (Vars.av x) = M.pure (Vars.av x) := by rw [cellsNil_of (okEl_vars x), acells_vars, fold_vars]
@[simp high] theorem cellsM_deed (x : Deed) : cellsM 3 (Deed.av x) = M.pure (Deed.av x) := by rw [cellsM_of (okEl_deed x), acells_deed, fold_deed]
@[simp high] theorem cellsNil_deed (x : Deed) : cellsNil 3 [] (Deed.av x) = M.pure (Deed.av x) := by rw [cellsNil_of (okEl_deed x), acells_deed, fold_deed]
@[simp high] theorem cellsM_call (x : Ap.Call) : cellsM 3 (Ap.Call.av x) = M.pure (Ap.Call.av x) := by rw [cellsM_of (okEl_call x), acells_call, fold_call]
@[simp high] theorem cellsNil_call (x : Ap.Call) : cellsNil 3 [] (Ap.Call.av x) = M.pure (Ap.Call.av x) := by rw [cellsNil_of (okEl_call x), acells_call, fold_call]
@[simp high] theorem cellsM_out (x : Ap.Out) : cellsM 8 (Ap.Out.av x) = M.pure (Ap.Out.av x) := by rw [cellsM_of (okEl_out x), acells_out, fold_out]
@[simp high] theorem cellsNil_out (x : Ap.Out) : cellsNil 8 [] (Ap.Out.av x) = M.pure (Ap.Out.av x) := by rw [cellsNil_of (okEl_out x), acells_out, fold_out]
@[simp] theorem okEl_ty (t : Ty) : okEl 2 t.av = true := by simp [okEl, okCell, flds]
@[simp high] theorem cellsM_ty (x : Ty) : cellsM 2 (Ty.av x) = M.pure (Ty.av x) := by rw [cellsM_of (okEl_ty x), acells_ty, fold_ty]
@[simp high] theorem cellsNil_ty (x : Ty) : cellsNil 2 [] (Ty.av x) = M.pure (Ty.av x) := by rw [cellsNil_of (okEl_ty x), acells_ty, fold_ty]
end Go.Av
namespace Go.Av
@[simp] theorem ite_pure_bool (c : Prop) [Decidable c] (a b : Bool) : (if c then (M.pure (.bool a) : M AV) else M.pure (.bool b)) = M.pure (.bool (if c then a else b)) := by split <;> rfl
@[simp] theorem ite_pure_int (c : Prop) [Decidable c] (a b : Int) : (if c then (M.pure (.int .i64 a) : M AV) else M.pure (.int .i64 b)) = M.pure (.int .i64 (if c then a else b)) := by split <;> rfl
end Go.Av

/- Counting loops of shallow programs as plain recursions. No condition. -/
namespace Go.Av
theorem fix_all {F : (List AV → M AV) → List AV → M AV} (hF : ∀ vs, fixW F vs = F (fixW F) vs) (st : Nat → List AV) (n : Nat) (G : Nat → Bool)
  (hend : F (fixW F) (st n) = M.pure (.bool true)) (hstep : ∀ k, k < n → F (fixW F) (st k) = if G k = true then fixW F (st (k + 1)) else M.pure (.bool false)) :
  ∀ k, k ≤ n → fixW F (st k) = M.pure (.bool ((List.range' k (n - k)).all G)) := by
 have key : ∀ r k, n - k = r → k ≤ n → fixW F (st k) = M.pure (.bool ((List.range' k r).all G)) := by
  intro r
  induction r with
  | zero =>
   intro k hr hk
   obtain rfl : k = n := by omega
   rw [hF, hend]
   rfl
  | succ r ih =>
   intro k hr hk
   rw [hF, hstep k (by omega), ih (k + 1) (by omega) (by omega)]
   simp only [List.range'_succ, List.all_cons]
   cases G k <;> rfl
 exact fun k hk => key (n - k) k rfl hk
theorem all_range' {α : Type} [Inhabited α] (P : α → Bool) (l : List α) : (List.range' 0 l.length).all (fun k => P l[k]!) = l.all P := by
 rw [Bool.eq_iff_iff]
 simp only [List.all_eq_true, List.mem_range'_1]
 constructor
 ·intro h x hx
  obtain ⟨i, hi, rfl⟩ := List.getElem_of_mem hx
  have := h i ⟨Nat.zero_le _, by omega⟩
  rwa [getElem!_pos l i hi] at this
 ·intro h k hk
  have hk' : k < l.length := by omega
  rw [getElem!_pos l k hk']
  exact h _ (List.getElem_mem hk')
theorem all_range2 {α β : Type} [Inhabited α] [Inhabited β] (P : α → β → Bool) : (a : List α) → (b : List β) → a.length = b.length → (List.range' 0 a.length).all (fun k => P a[k]! b[k]!) = all2 P a b
 | [], [], _ => rfl
 | x :: a, y :: b, h => by
  have ih := all_range2 P a b (by simpa using h)
  simp only [List.length_cons, List.range'_succ, List.all_cons, all2]
  congr 1
  rw [← ih]
  rw [Bool.eq_iff_iff]
  simp only [List.all_eq_true, List.mem_range'_1]
  constructor
  ·intro h k hk
   have := h (k + 1) (by omega)
   simpa using this
  ·intro h k hk
   obtain ⟨j, rfl⟩ : ∃ j, k = j + 1 := ⟨k - 1, by omega⟩
   simpa using h j (by omega)
 | [], _ :: _, h => by simp at h
 | _ :: _, [], h => by simp at h
theorem all2_beq {α : Type} [BEq α] : (a b : List α) → (a == b) = all2 (fun x y => x == y) a b
 | [], [] => rfl
 | [], _ :: _ => rfl
 | _ :: _, [] => rfl
 | x :: a, y :: b => by
  show (x == y && (a == b)) = _
  rw [all2_beq a b]
  rfl
theorem sliceA_hi {T : TT} {t e : Nat} {ti ei : TI} (ht : T t = some ti) (hk : ti.kind = .slice e) (he : T e = some ei) (es : List AV) {n : Int} (h0 : 0 ≤ n) (h1 : n ≤ es.length) : sliceA T t (.sl es) none (some (.int .i64 n)) none = some (.sl (es.take n.toNat)) := by
 unfold sliceA
 rw [ht]
 simp [hk, he, boundA, h0, h1]
theorem sliceA_clip {T : TT} {t e : Nat} {ti ei : TI} (ht : T t = some ti) (hk : ti.kind = .slice e) (he : T e = some ei) (es : List AV) : sliceA T t (.sl es) none (some (.int .i64 es.length)) (some (.int .i64 es.length)) = some (.sl es) := by
 unfold sliceA
 rw [ht]
 simp [hk, he, boundA]
theorem sliceA_lo {T : TT} {t e : Nat} {ti ei : TI} (ht : T t = some ti) (hk : ti.kind = .slice e) (he : T e = some ei) (es : List AV) (hok : okSz ei.size es = true) {n : Int} (h0 : 0 ≤ n) (h1 : n ≤ es.length) : sliceA T t (.sl es) (some (.int .i64 n)) none none = some (.sl (es.drop n.toNat)) := by
 unfold sliceA
 rw [ht]
 simp [hk, he, boundA, h0, h1, hok]
end Go.Av

/- The law's guards on sizes, as pure functions. No condition. -/
namespace Go.Av.Ap
open Go Go.Av
def capS {α : Type} (most : Int) (g : α → Int → Int) (n : Int) (l : List α) : Int := l.foldl (fun n x => if n ≤ most then n + g x (most - n) else n) n
theorem capS_stop {α : Type} {most : Int} {g : α → Int → Int} {n : Int} (h : most < n) : (l : List α) → capS most g n l = n
 | [] => rfl
 | x :: l => by
  show capS most g (if n ≤ most then n + g x (most - n) else n) l = n
  rw [if_neg (by omega)]
  exact capS_stop h l
theorem capS_cons {α : Type} {most : Int} {g : α → Int → Int} {n : Int} (x : α) (l : List α) (h : n ≤ most) : capS most g n (x :: l) = capS most g (n + g x (most - n)) l := by
 show capS most g (if n ≤ most then n + g x (most - n) else n) l = _
 rw [if_pos h]
theorem capS_bounds {α : Type} {most : Int} {g : α → Int → Int} : (l : List α) → (∀ x ∈ l, ∀ m, 0 ≤ m → m ≤ most → 1 ≤ g x m ∧ g x m ≤ m + 1) → ∀ n, 1 ≤ n → n ≤ most + 1 → n ≤ capS most g n l ∧ capS most g n l ≤ most + 1
 | [], _, n, h1, h2 => ⟨Int.le_refl _, h2⟩
 | x :: l, hg, n, h1, h2 => by
  by_cases h : n ≤ most
  ·rw [capS_cons x l h]
   have := hg x List.mem_cons_self (most - n) (by omega) (by omega)
   have ih := capS_bounds l (fun y hy => hg y (List.mem_cons_of_mem _ hy)) (n + g x (most - n)) (by omega) (by omega)
   exact ⟨by omega, ih.2⟩
  ·rw [capS_stop (by omega)]
   exact ⟨Int.le_refl _, h2⟩
theorem fix_cap {α : Type} {F : (List AV → M AV) → List AV → M AV} (hF : ∀ vs, fixW F vs = F (fixW F) vs) (st : Int → Nat → List AV) (most : Int) (g : α → Int → Int) (l : List α)
  (hg : ∀ x ∈ l, ∀ m, 0 ≤ m → m ≤ most → 1 ≤ g x m ∧ g x m ≤ m + 1)
  (hend : ∀ n, F (fixW F) (st n l.length) = M.pure (.int .i64 n))
  (hstop : ∀ n k, k < l.length → most < n → F (fixW F) (st n k) = M.pure (.int .i64 n))
  (hstep : ∀ n k, (hk : k < l.length) → 1 ≤ n → n ≤ most → F (fixW F) (st n k) = fixW F (st (n + g l[k] (most - n)) (k + 1))) :
  ∀ r n k, l.length - k = r → k ≤ l.length → 1 ≤ n → n ≤ most + 1 → fixW F (st n k) = M.pure (.int .i64 (capS most g n (l.drop k))) := by
 intro r
 induction r with
 | zero =>
  intro n k hr hk _ _
  obtain rfl : k = l.length := by omega
  rw [hF, hend, List.drop_length]
  rfl
 | succ r ih =>
  intro n k hr hk h1 h2
  have hk' : k < l.length := by omega
  rw [hF, List.drop_eq_getElem_cons hk']
  by_cases h : n ≤ most
  ·have hb := hg l[k] (List.getElem_mem hk') (most - n) (by omega) (by omega)
   rw [hstep n k hk' h1 h, capS_cons _ _ h, ih _ _ (by omega) (by omega) (by omega) (by omega)]
  ·rw [hstop n k hk' (by omega), capS_stop (by omega)]
def partsX : Nat → Val → Int → Int
 | 0, _, most => most + 1
 | d + 1, v, most => capS most (partsX d) 1 v.values
def nodesX : Nat → Exp → Int → Int
 | 0, _, most => most + 1
 | d + 1, e, most => capS most (nodesX d) 1 e.args
def kindsX : Nat → Ty → Int → Int
 | 0, _, most => most + 1
 | d + 1, t, most => capS most (fun f => kindsX d f.2) 1 t.fields
theorem partsX_bounds : ∀ (d : Nat) (v : Val) (most : Int), 0 ≤ most → 1 ≤ partsX d v most ∧ partsX d v most ≤ most + 1
 | 0, v, most, h => ⟨by simp only [partsX]; omega, Int.le_refl _⟩
 | d + 1, v, most, h => capS_bounds v.values (fun x _ m h0 _ => partsX_bounds d x m h0) 1 (by omega) (by omega)
theorem nodesX_bounds : ∀ (d : Nat) (v : Exp) (most : Int), 0 ≤ most → 1 ≤ nodesX d v most ∧ nodesX d v most ≤ most + 1
 | 0, v, most, h => ⟨by simp only [nodesX]; omega, Int.le_refl _⟩
 | d + 1, v, most, h => capS_bounds v.args (fun x _ m h0 _ => nodesX_bounds d x m h0) 1 (by omega) (by omega)
theorem kindsX_bounds : ∀ (d : Nat) (v : Ty) (most : Int), 0 ≤ most → 1 ≤ kindsX d v most ∧ kindsX d v most ≤ most + 1
 | 0, v, most, h => ⟨by simp only [kindsX]; omega, Int.le_refl _⟩
 | d + 1, v, most, h => capS_bounds v.fields (fun x _ m h0 _ => kindsX_bounds d x.2 m h0) 1 (by omega) (by omega)
def Val.limN : Nat → Val → Prop
 | 0, _ => True
 | n + 1, v => v.names.length ≤ 140737488355328 ∧ v.values.length ≤ 140737488355328 ∧ ∀ x ∈ v.values, x.limN n
def Val.Lim (v : Val) : Prop := ∀ n, v.limN n
def Exp.limN : Nat → Exp → Prop
 | 0, _ => True
 | n + 1, v => v.names.length ≤ 8796093022208 ∧ v.args.length ≤ 140737488355328 ∧ ∀ x ∈ v.args, x.limN n
def Exp.Lim (v : Exp) : Prop := ∀ n, v.limN n
def Ty.limN : Nat → Ty → Prop
 | 0, _ => True
 | n + 1, v => v.fields.length ≤ 140737488355328 ∧ ∀ x ∈ v.fields, x.2.limN n
def Ty.Lim (v : Ty) : Prop := ∀ n, v.limN n
theorem Val.Lim.names {v : Val} (h : v.Lim) : v.names.length ≤ 140737488355328 := (h 1).1
theorem Val.Lim.len {v : Val} (h : v.Lim) : v.values.length ≤ 140737488355328 := (h 1).2.1
theorem Val.Lim.kid {v : Val} (h : v.Lim) {x : Val} (hx : x ∈ v.values) : x.Lim := fun n => (h (n + 1)).2.2 x hx
theorem Exp.Lim.names {v : Exp} (h : v.Lim) : v.names.length ≤ 8796093022208 := (h 1).1
theorem Exp.Lim.len {v : Exp} (h : v.Lim) : v.args.length ≤ 140737488355328 := (h 1).2.1
theorem Exp.Lim.kid {v : Exp} (h : v.Lim) {x : Exp} (hx : x ∈ v.args) : x.Lim := fun n => (h (n + 1)).2.2 x hx
theorem Ty.Lim.len {v : Ty} (h : v.Lim) : v.fields.length ≤ 140737488355328 := (h 1).1
theorem Ty.Lim.kid {v : Ty} (h : v.Lim) {x : Fld} (hx : x ∈ v.fields) : x.2.Lim := fun n => (h (n + 1)).2 x hx
structure Fun.Lim (f : Fun) : Prop where
 params : f.params.length ≤ 140737488355328
 pty : ∀ x ∈ f.params, x.2.Lim
 result : f.result.Lim
 body : f.body.Lim
structure Mod.Lim (m : Mod) : Prop where
 uses : m.uses.length ≤ 140737488355328
 vars : m.vars.length ≤ 140737488355328
 vty : ∀ x ∈ m.vars, x.2.Lim
 init : m.init.length ≤ 140737488355328
 ies : ∀ e ∈ m.init, e.Lim
 funcs : m.funcs.length ≤ 140737488355328
 fns : ∀ f ∈ m.funcs, f.Lim
 old : m.old.length ≤ 140737488355328
 oty : ∀ x ∈ m.old, x.2.Lim
 forward : m.forward.length ≤ 140737488355328
 fes : ∀ e ∈ m.forward, e.Lim
 back : m.back.length ≤ 140737488355328
 bes : ∀ e ∈ m.back, e.Lim
def plainlyX (l : List Fld) : Bool := (l.take 9).all (fun f => decide (kindsX 8 f.2 20 ≤ 20)) && decide (l.length ≤ 8)
def nodesOk (e : Exp) : Bool := decide (nodesX 16 e 40 ≤ 40)
def modestX (m : Mod) : Bool := (m.funcs.take 9).all (fun f => plainlyX f.params && decide (kindsX 8 f.result 20 ≤ 20)) && ((m.forward.take 7 ++ m.back.take 7).all nodesOk && (decide (m.uses.length ≤ 12) && plainlyX m.vars && plainlyX m.old && decide (m.forward.length ≤ 6) && decide (m.back.length ≤ 6)))
def fewM (m : Mod) : Bool := (decide (m.vars.length ≤ 4) && decide (m.init.length ≤ 6) && decide (m.funcs.length ≤ 4) && modestX m) && (m.init.all nodesOk && m.funcs.all (fun f => nodesOk f.body && decide (f.params.length ≤ 8)))
def fewX (p : List Mod) (args : List Val) (world : List Int) (fuel : Int) : Bool :=
 (decide (p.length ≤ 4) && decide (args.length ≤ 8) && decide (world.length ≤ 30) && decide (fuel ≤ 2000)) && (p.all fewM && args.all (fun v => decide (partsX 8 v 40 ≤ 40)))
end Go.Av.Ap

/- The meaning of expressions, in plain terms. No condition. -/
namespace Go.Av.Ap
def asc : List Str → Bool
 | [] => true
 | [_] => true
 | x :: y :: l => strLess x y && asc (y :: l)
def fitsP : Nat → Val → Bool
 | 0, _ => false
 | d + 1, v => if (v.kind == 0 || v.kind == 1) = true then v.names.length == 0 && v.values.length == 0 && (v.kind == 0 || v.n == 0 || v.n == 1)
  else v.kind == 2 && v.n == 0 && v.names.length == v.values.length && decide (v.names.length ≤ 8) && asc v.names && v.values.all (fitsP d)
def truthV (b : Bool) : Val := .mk 1 (if b then 1 else 0) [] []
def numV (n : Int) : Val := .mk 0 n [] []
def modAt (p : List Mod) (s : Str) : Int := idxAt (fun m => m.name == s) p 0
def funAt (l : List Fun) (s : Str) : Int := idxAt (fun f => f.name == s) l 0
def fldAt (l : List Fld) (s : Str) : Int := idxAt (fun f => f.1 == s) l 0
structure Ms where
 fuel : Int
 frames : Int
 world : List Int
 deeds : List Deed
 calls : List Call
 state : List (List Val)
inductive Rs (α : Type) where
 | ok (a : α) (m : Ms)
 | er (e : Int) (m : Ms)
def X (α : Type) := Ms → Rs α
def X.ok {α : Type} (a : α) : X α := fun m => .ok a m
def X.er {α : Type} (e : Int) : X α := fun m => .er e m
def X.bind {α β : Type} (x : X α) (f : α → X β) : X β := fun m => match x m with
 | .ok a m' => f a m'
 | .er e m' => .er e m'
def X.upd {α : Type} (f : Ms → Ms) (x : X α) : X α := fun m => x (f m)
def X.get {α : Type} (f : Ms → X α) : X α := fun m => f m m
def argsN (op : Int) : Int :=
 if op = 0 ∨ op = 1 ∨ op = 2 ∨ op = 17 then 0
 else if op = 10 ∨ op = 14 ∨ op = 16 ∨ op = 18 then 1
 else if op = 3 ∨ op = 4 ∨ op = 5 ∨ op = 6 ∨ op = 7 ∨ op = 8 ∨ op = 9 ∨ op = 12 then 2
 else if op = 11 then 3
 else if op = 13 ∨ op = 15 then -1
 else -2
def lookV : List Str → List Val → Str → Option Val
 | n :: ns, v :: vs, s => match lookV ns vs s with
  | some x => some x
  | none => if n = s then some v else none
 | _, _, _ => none
def fieldV : List Str → List Val → Str → Option Val
 | n :: ns, v :: vs, s => if n = s then some v else fieldV ns vs s
 | _, _, _ => none
def wr (n : Int) : Int := IntKind.i64.wrap n
def binX (op : Int) (a b : Val) : X Val :=
 if op = 7 then (if a.kind = b.kind ∧ a.kind ≠ 2 then .ok (truthV (a.n == b.n)) else .er 13)
 else if a.kind = 0 ∧ b.kind = 0 then
  (if op = 3 then .ok (numV (wr (a.n + b.n))) else if op = 4 then .ok (numV (wr (a.n - b.n))) else if op = 5 then .ok (numV (wr (a.n * b.n))) else .ok (truthV (decide (a.n < b.n))))
 else .er 13
mutual
def levelV : Val → Nat
 | .mk _ _ _ vs => levelsV vs + 1
def levelsV : List Val → Nat
 | [] => 0
 | v :: vs => max (levelV v) (levelsV vs)
end
abbrev Ev := Int → List Str → List Val → Exp → X Val
def boolX (r : X Val) : X Bool := r.bind fun v => if v.kind = 1 then .ok (v.n == 1) else .er 13
def listX (r : Exp → X Val) : List Exp → X (List Val)
 | [] => .ok []
 | e :: es => (r e).bind fun v => (listX r es).bind fun vs => .ok (v :: vs)
def recordX (r : Exp → X Val) (e : Exp) : X Val :=
 if e.names.length = e.args.length ∧ asc e.names = true then
  (if e.names.length ≤ 8 then (listX r e.args).bind fun vs => if levelV (.mk 2 0 e.names vs) ≤ 4 then .ok (.mk 2 0 e.names vs) else .er 6 else .er 6)
 else .er 13
def funcX (p : List Mod) (at_ : Int) (s : Str) : Option Fun :=
 if at_ < 0 then none else (let l := (p[at_.toNat]?.getD default).funcs; let i := funAt l s; if i < 0 then none else l[i.toNat]?)
def enterX (p : List Mod) (r : Ev) (at_ : Int) (f : Fun) (l : List Val) : X Val :=
 .get fun m => if m.frames < 60 then
  .upd (fun m => { m with calls := if f.pub = true then m.calls ++ [⟨(p[at_.toNat]?.getD default).name, f.name, l⟩] else m.calls, frames := m.frames + 1 })
   ((r at_ (f.params.map (·.1)) l f.body).bind fun v => .upd (fun m => { m with frames := m.frames - 1 }) (.ok v))
 else .er 6
def callX (p : List Mod) (r : Ev) (own : Int) (ns : List Str) (vs : List Val) (e : Exp) : X Val :=
 let at_ := if e.m = [] then own else modAt p e.m
 match funcX p at_ e.s with
 | none => .er 12
 | some f => if e.m = [] ∨ f.pub = true then
   (if e.args.length = f.params.length then (listX (r own ns vs) e.args).bind fun l => enterX p r at_ f l else .er 13)
  else .er 12
def actX (r : X Val) (e : Exp) : X Val :=
 r.bind fun v => if v.kind = 0 then
  (if e.n = 1 ∨ e.n = 2 ∨ e.n = 4 ∨ e.n = 8 then
   .get fun m => .upd (fun m => { m with world := m.world.tail, deeds := m.deeds ++ [⟨e.n, v.n, m.world.headD 0⟩] }) (.ok (numV (m.world.headD 0)))
  else .er 14)
 else .er 13
def setSt (st : List (List Val)) (i k : Nat) (v : Val) : List (List Val) := st.modify i fun l => l.set k v
def getSt (st : List (List Val)) (i k : Nat) : Val := (st.getD i []).getD k default
def varX (p : List Mod) (r : Exp → X Val) (own : Int) (e : Exp) : X Val :=
 if own < 0 then .er 12 else
 let i := fldAt (p[own.toNat]?.getD default).vars e.s
 if i < 0 then .er 12 else
 if e.op = 18 then (r e.args[0]!).bind fun v => .upd (fun m => { m with state := setSt m.state own.toNat i.toNat v }) (.ok v)
 else .get fun m => .ok (getSt m.state own.toNat i.toNat)
def stepX (p : List Mod) (r : Ev) : Ev := fun own ns vs e => .get fun m =>
 if m.fuel ≤ 0 then .er 16 else .upd (fun m => { m with fuel := m.fuel - 1 }) <|
 let n := argsN e.op
 if n = -2 ∨ (n ≠ -1 ∧ n ≠ e.args.length) then .er 13
 else if e.op = 0 then .ok (numV e.n)
 else if e.op = 1 then (if e.n = 0 ∨ e.n = 1 then .ok (truthV (e.n == 1)) else .er 13)
 else if e.op = 2 then (match lookV ns vs e.s with | some v => .ok v | none => .er 12)
 else if e.op = 3 ∨ e.op = 4 ∨ e.op = 5 ∨ e.op = 6 ∨ e.op = 7 then (r own ns vs e.args[0]!).bind fun a => (r own ns vs e.args[1]!).bind fun b => binX e.op a b
 else if e.op = 8 ∨ e.op = 9 then (boolX (r own ns vs e.args[0]!)).bind fun x => if x = (e.op == 9) then .ok (truthV (e.op == 9)) else (boolX (r own ns vs e.args[1]!)).bind fun y => .ok (truthV y)
 else if e.op = 10 then (boolX (r own ns vs e.args[0]!)).bind fun x => .ok (truthV !x)
 else if e.op = 11 then (boolX (r own ns vs e.args[0]!)).bind fun x => if x = true then r own ns vs e.args[1]! else r own ns vs e.args[2]!
 else if e.op = 12 then (r own ns vs e.args[0]!).bind fun v => r own (ns ++ [e.s]) (vs ++ [v]) e.args[1]!
 else if e.op = 13 then recordX (r own ns vs) e
 else if e.op = 14 then (r own ns vs e.args[0]!).bind fun v => (match fieldV v.names v.values e.s with | some x => if v.kind = 2 then .ok x else .er 13 | none => .er 13)
 else if e.op = 15 then callX p r own ns vs e
 else if e.op = 16 then actX (r own ns vs e.args[0]!) e
 else varX p (r own ns vs) own e
def evalX (p : List Mod) : Nat → Ev
 | 0 => fun _ _ _ _ => .er 16
 | n + 1 => stepX p (evalX p n)
end Go.Av.Ap

/- Laws of evaluation: worlds, fuel, whose variables turn. No condition. -/
namespace Go.Av.Ap
def Rs.st {α : Type} : Rs α → Ms
 | .ok _ m => m
 | .er _ m => m
def Rs.on {α : Type} (f : Ms → Ms) : Rs α → Rs α
 | .ok a m => .ok a (f m)
 | .er e m => .er e (f m)
def tickX {α : Type} (y : X α) : X α := .get fun m => if m.fuel ≤ 0 then .er 16 else .upd (fun m => { m with fuel := m.fuel - 1 }) y
def act1 (n a : Int) : X Val := .get fun m => .upd (fun m => { m with world := m.world.tail, deeds := m.deeds ++ [⟨n, a, m.world.headD 0⟩] }) (.ok (numV (m.world.headD 0)))
structure Closed (p : List Mod) (Q : Int → (α : Type) → X α → Prop) : Prop where
 ok : ∀ (o : Int) (α : Type) (a : α), Q o α (.ok a)
 er : ∀ (o : Int) (α : Type) (e : Int), e ≠ 0 → Q o α (.er e)
 bind : ∀ (o : Int) (α β : Type) (x : X α) (f : α → X β), Q o α x → (∀ a, Q o β (f a)) → Q o β (x.bind f)
 tick : ∀ (o : Int) (α : Type) (y : X α), Q o α y → Q o α (tickX y)
 act : ∀ (o n a : Int), Q o Val (act1 n a)
 set : ∀ (o : Int) (k : Nat) (v : Val), ¬ o < 0 → Q o Val (.upd (fun m => { m with state := setSt m.state o.toNat k v }) (.ok v))
 get : ∀ (o : Int) (k : Nat), Q o Val (.get fun m => .ok (getSt m.state o.toNat k))
 enter : ∀ (o a : Int) (r : Ev) (f : Fun) (l : List Val), ¬ a < 0 → a.toNat < p.length → f ∈ (p[a.toNat]?.getD default).funcs → (∀ o ns vs e, Q o Val (r o ns vs e)) → Q o Val (enterX p r a f l)
theorem funcX_some {p : List Mod} {a : Int} {s : Str} {f : Fun} (h : funcX p a s = some f) : ¬ a < 0 ∧ a.toNat < p.length ∧ f ∈ (p[a.toNat]?.getD default).funcs := by
 unfold funcX at h
 by_cases h1 : a < 0
 ·simp [h1] at h
 ·rw [if_neg h1] at h
  simp only at h
  split at h
  ·cases h
  ·have hm := List.mem_of_getElem? h
   refine ⟨h1, ?_, hm⟩
   rcases Nat.lt_or_ge a.toNat p.length with k | k
   ·exact k
   ·rw [List.getElem?_eq_none k] at hm
    cases hm
theorem ite_q {Q : Int → (α : Type) → X α → Prop} {o : Int} {α : Type} {c : Prop} [Decidable c] (x y : X α) (h1 : Q o α x) (h2 : Q o α y) : Q o α (if c then x else y) := by
 split
 ·exact h1
 ·exact h2
section
variable {p : List Mod} {Q : Int → (α : Type) → X α → Prop} (C : Closed p Q)
include C
theorem Closed.boolX {o : Int} {r : X Val} (h : Q o Val r) : Q o Bool (boolX r) := by
 refine C.bind _ _ _ _ _ h fun v => ?_
 split
 ·exact C.ok _ _ _
 ·exact C.er _ _ _ (by decide)
theorem Closed.listX {o : Int} {r : Exp → X Val} (h : ∀ e, Q o Val (r e)) : ∀ l, Q o (List Val) (listX r l)
 | [] => C.ok _ _ _
 | e :: l => C.bind _ _ _ _ _ (h e) fun _ => C.bind _ _ _ _ _ (Closed.listX h l) fun _ => C.ok _ _ _
theorem Closed.step {r : Ev} (h : ∀ o ns vs e, Q o Val (r o ns vs e)) (o : Int) (ns : List Str) (vs : List Val) (e : Exp) : Q o Val (stepX p r o ns vs e) := by
 unfold stepX
 refine C.tick _ _ _ ?_
 have B := fun {α β : Type} {x : X α} {f : α → X β} => C.bind o α β x f
 have I := @ite_q Q o
 have er := fun (α : Type) n (h : n ≠ 0) => C.er o α n h
 have ok := fun (α : Type) (a : α) => C.ok o α a
 refine I _ _ (er _ _ (by decide)) (I _ _ (ok _ _) (I _ _ (I _ _ (ok _ _) (er _ _ (by decide))) (I _ _ ?_ (I _ _ ?_ (I _ _ ?_ (I _ _ ?_ (I _ _ ?_ (I _ _ ?_ (I _ _ ?_ (I _ _ ?_ (I _ _ ?_ (I _ _ ?_ ?_))))))))))))
 ·split
  ·exact ok _ _
  ·exact er _ _ (by decide)
 ·refine B (h _ _ _ _) fun a => B (h _ _ _ _) fun b => ?_
  unfold binX
  exact I _ _ (I _ _ (ok _ _) (er _ _ (by decide))) (I _ _ (I _ _ (ok _ _) (I _ _ (ok _ _) (I _ _ (ok _ _) (ok _ _)))) (er _ _ (by decide)))
 ·exact B (C.boolX (h _ _ _ _)) fun a => I _ _ (ok _ _) (B (C.boolX (h _ _ _ _)) fun b => ok _ _)
 ·exact B (C.boolX (h _ _ _ _)) fun a => ok _ _
 ·exact B (C.boolX (h _ _ _ _)) fun a => I _ _ (h _ _ _ _) (h _ _ _ _)
 ·exact B (h _ _ _ _) fun v => h _ _ _ _
 ·unfold recordX
  exact I _ _ (I _ _ (B (C.listX (fun e => h _ _ _ e) _) fun vs => I _ _ (ok _ _) (er _ _ (by decide))) (er _ _ (by decide))) (er _ _ (by decide))
 ·refine B (h _ _ _ _) fun v => ?_
  split
  ·exact I _ _ (ok _ _) (er _ _ (by decide))
  ·exact er _ _ (by decide)
 ·unfold callX
  simp only
  split
  ·exact er _ _ (by decide)
  ·rename_i f hf
   obtain ⟨h1, h2, h3⟩ := funcX_some hf
   exact I _ _ (I _ _ (B (C.listX (fun e => h _ _ _ e) _) fun l => C.enter _ _ _ _ _ h1 h2 h3 h) (er _ _ (by decide))) (er _ _ (by decide))
 ·unfold actX
  exact B (h _ _ _ _) fun v => I _ _ (I _ _ (C.act _ _ _) (er _ _ (by decide))) (er _ _ (by decide))
 ·unfold varX
  split
  ·exact er _ _ (by decide)
  ·rename_i ho
   exact I _ _ (er _ _ (by decide)) (I _ _ (B (h _ _ _ _) fun v => C.set _ _ _ ho) (C.get _ _))
theorem Closed.eval : ∀ (n : Nat) (o : Int) (ns : List Str) (vs : List Val) (e : Exp), Q o Val (evalX p n o ns vs e)
 | 0, _, _, _, _ => C.er _ _ _ (by decide)
 | n + 1, o, ns, vs, e => C.step (fun o ns vs e => Closed.eval n o ns vs e) o ns vs e
end
def ErrQ (α : Type) (x : X α) : Prop := ∀ m e s, x m = .er e s → e ≠ 0
def entM (p : List Mod) (a : Int) (f : Fun) (l : List Val) (m : Ms) : Ms := { m with calls := if f.pub = true then m.calls ++ [⟨(p[a.toNat]?.getD default).name, f.name, l⟩] else m.calls, frames := m.frames + 1 }
theorem err_closed (p : List Mod) : Closed p fun _ => ErrQ where
 ok := fun _ _ a m e s h => by cases h
 er := fun _ _ a h m e s h2 => by cases h2; exact h
 bind := fun _ _ _ x f hx hf m e s h => by
  unfold X.bind at h
  cases hr : x m with
  | er c t => rw [hr] at h; cases h; exact hx m _ _ hr
  | ok a t => rw [hr] at h; exact hf a t e s h
 tick := fun _ _ y hy m e s h => by
  unfold tickX X.get at h
  by_cases hf : m.fuel ≤ 0
  ·simp only [hf, if_true] at h; cases h; decide
  ·simp only [hf, if_false] at h; exact hy _ e s h
 act := fun _ n a m e s h => by cases h
 set := fun _ k v _ m e s h => by cases h
 get := fun _ k m e s h => by cases h
 enter := fun _ a r f l _ _ _ hr m e s h => by
  unfold enterX X.get at h
  by_cases hf : m.frames < 60
  ·simp only [hf, if_true, X.upd, X.bind] at h
   cases hq : r a (f.params.map (·.1)) l f.body { m with calls := if f.pub = true then m.calls ++ [⟨(p[a.toNat]?.getD default).name, f.name, l⟩] else m.calls, frames := m.frames + 1 } with
   | ok b t => rw [hq] at h; cases h
   | er c t => rw [hq] at h; cases h; exact hr _ _ _ _ _ _ _ hq
  ·simp only [hf, if_false] at h; cases h; decide
theorem eval_err {p : List Mod} {n : Nat} {o : Int} {ns : List Str} {vs : List Val} {e : Exp} {m s : Ms} {c : Int} (h : evalX p n o ns vs e m = .er c s) : c ≠ 0 := (err_closed p).eval n o ns vs e m c s h
end Go.Av.Ap

/- Laws of evaluation: whose variables turn, right values. No condition. -/
namespace Go.Av.Ap
def RightM (m : Ms) : Prop := (∀ l ∈ m.state, ∀ v ∈ l, fitsP 4 v = true) ∧ (∀ c ∈ m.calls, ∀ v ∈ c.args, fitsP 4 v = true)
def shapeM (m : Ms) : List Nat := m.state.map List.length
def RQ {α : Type} (x : X α) (Q : α → Prop) : Prop := ∀ m, RightM m → RightM (x m).st ∧ shapeM (x m).st = shapeM m ∧ ∀ a s, x m = .ok a s → Q a
theorem rq_ok {α : Type} {a : α} {Q : α → Prop} (h : Q a) : RQ (.ok a) Q := fun m hm => ⟨hm, rfl, fun b s e => by cases e; exact h⟩
theorem rq_er {α : Type} {e : Int} {Q : α → Prop} : RQ (.er e) Q := fun m hm => ⟨hm, rfl, fun b s e => by cases e⟩
theorem rq_bind {α β : Type} {x : X α} {f : α → X β} {Q : α → Prop} {R : β → Prop} (hx : RQ x Q) (hf : ∀ a, Q a → RQ (f a) R) : RQ (x.bind f) R := by
 intro m hm
 obtain ⟨h1, h2, h3⟩ := hx m hm
 cases hr : x m with
 | er e s =>
  rw [hr] at h1 h2
  simp only [X.bind, hr]
  exact ⟨h1, h2, fun b s e => by cases e⟩
 | ok a s =>
  rw [hr] at h1 h2
  obtain ⟨g1, g2, g3⟩ := hf a (h3 a s hr) s h1
  simp only [X.bind, hr]
  exact ⟨g1, g2.trans h2, g3⟩
theorem rq_ite {α : Type} {c : Prop} [Decidable c] {x y : X α} {Q : α → Prop} (h1 : c → RQ x Q) (h2 : ¬ c → RQ y Q) : RQ (if c then x else y) Q := by
 split
 ·exact h1 ‹_›
 ·exact h2 ‹_›
abbrev Rv (v : Val) : Prop := fitsP 4 v = true
theorem right_num (n : Int) : Rv (numV n) := by simp [Rv, numV, fitsP, Val.names, Val.values, Val.kind]
theorem right_truth (b : Bool) : Rv (truthV b) := by cases b <;> rfl
theorem levelsV_le : (l : List Val) → (d : Nat) → (levelsV l ≤ d ↔ ∀ v ∈ l, levelV v ≤ d)
 | [], d => by simp [levelsV]
 | v :: l, d => by
  simp only [levelsV, List.mem_cons, forall_eq_or_imp]
  rw [← levelsV_le l d]
  omega
theorem levelV_eq (v : Val) : levelV v = levelsV v.values + 1 := by cases v; rfl
theorem fits_down : ∀ (d : Nat) (v : Val), fitsP (d + 1) v = true → levelV v ≤ d → fitsP d v = true
 | 0, v, _, hl => by rw [levelV_eq] at hl; omega
 | d + 1, v, h, hl => by
  rw [levelV_eq] at hl
  unfold fitsP at h ⊢
  split at h
  ·rename_i hk
   rw [if_pos hk]; exact h
  ·rename_i hk
   rw [if_neg hk]
   simp only [Bool.and_eq_true, List.all_eq_true] at h ⊢
   exact ⟨h.1, fun x hx => fits_down d x (h.2 x hx) ((levelsV_le v.values d).1 (by omega) x hx)⟩
theorem right_rec {ns : List Str} {vs : List Val} (hl : ns.length = vs.length) (ha : asc ns = true) (h8 : ns.length ≤ 8) (hv : ∀ v ∈ vs, Rv v) (h4 : levelV (.mk 2 0 ns vs) ≤ 4) : Rv (.mk 2 0 ns vs) := by
 have h3 : levelsV vs ≤ 3 := by
  rw [levelV_eq] at h4
  have : (Val.mk 2 0 ns vs).values = vs := rfl
  rw [this] at h4
  omega
 have h5 := (levelsV_le vs 3).1 h3
 unfold Rv fitsP
 rw [if_neg (show ¬ (((Val.mk 2 0 ns vs).kind == 0 || (Val.mk 2 0 ns vs).kind == 1) = true) by simp [Val.kind])]
 simp only [Val.kind_mk, Val.n_mk, Val.names_mk, Val.values_mk, Bool.and_eq_true, List.all_eq_true, beq_iff_eq]
 exact ⟨⟨⟨⟨⟨trivial, trivial⟩, hl⟩, decide_eq_true h8⟩, ha⟩, fun x hx => fits_down 3 x (hv x hx) (h5 x hx)⟩
theorem fits_up : ∀ (d : Nat) (v : Val), fitsP d v = true → fitsP (d + 1) v = true
 | 0, v, h => by simp [fitsP] at h
 | d + 1, v, h => by
  unfold fitsP at h ⊢
  split at h
  ·rename_i hk
   rw [if_pos hk]; exact h
  ·rename_i hk
   rw [if_neg hk]
   simp only [Bool.and_eq_true, List.all_eq_true] at h ⊢
   exact ⟨h.1, fun x hx => fits_up d x (h.2 x hx)⟩
theorem right_field {v x : Val} (h : Rv v) (hx : x ∈ v.values) : Rv x := by
 unfold Rv fitsP at h
 split at h
 ·simp only [Bool.and_eq_true, beq_iff_eq] at h
  have : v.values = [] := List.eq_nil_of_length_eq_zero h.1.2
  rw [this] at hx
  cases hx
 ·simp only [Bool.and_eq_true, List.all_eq_true] at h
  exact fits_up 3 x (h.2 x hx)
theorem right_lens {v : Val} (h : Rv v) : v.names.length = v.values.length := by
 unfold Rv fitsP at h
 split at h
 ·simp only [Bool.and_eq_true, beq_iff_eq] at h
  rw [h.1.1, h.1.2]
 ·simp only [Bool.and_eq_true, beq_iff_eq] at h
  exact h.1.1.1.2
theorem look_mem : ∀ (ns : List Str) (vs : List Val) (s : Str) (v : Val), lookV ns vs s = some v → v ∈ vs
 | n :: ns, w :: vs, s, v, h => by
  unfold lookV at h
  split at h
  ·rename_i x hx
   cases h
   exact List.mem_cons_of_mem _ (look_mem ns vs s v hx)
  ·split at h
   ·cases h; exact List.mem_cons_self
   ·cases h
 | [], _, _, _, h => by simp [lookV] at h
 | _ :: _, [], _, _, h => by simp [lookV] at h
theorem fieldV_mem : ∀ (ns : List Str) (vs : List Val) (s : Str) (v : Val), fieldV ns vs s = some v → v ∈ vs
 | n :: ns, w :: vs, s, v, h => by
  unfold fieldV at h
  split at h
  ·cases h; exact List.mem_cons_self
  ·exact List.mem_cons_of_mem _ (fieldV_mem ns vs s v h)
 | [], _, _, _, h => by simp [fieldV] at h
 | _ :: _, [], _, _, h => by simp [fieldV] at h
def RightS (ns : List Str) (vs : List Val) : Prop := ns.length = vs.length ∧ ∀ v ∈ vs, Rv v
theorem rq_bool {r : X Val} (h : RQ r Rv) : RQ (boolX r) fun _ => True := rq_bind h fun _ _ => rq_ite (fun _ => rq_ok trivial) (fun _ => rq_er)
theorem rq_list {r : Exp → X Val} (h : ∀ e, RQ (r e) Rv) : ∀ l, RQ (listX r l) fun vs => vs.length = l.length ∧ ∀ v ∈ vs, Rv v
 | [] => rq_ok ⟨rfl, fun v hv => by cases hv⟩
 | e :: l => rq_bind (h e) fun v hv => rq_bind (rq_list h l) fun vs hvs => rq_ok ⟨by simp [hvs.1], fun w hw => by
  rcases List.mem_cons.1 hw with rfl | hw
  ·exact hv
  ·exact hvs.2 w hw⟩
theorem getSt_right {st : List (List Val)} (h : ∀ l ∈ st, ∀ v ∈ l, Rv v) (i k : Nat) (hd : Rv default) : Rv (getSt st i k) := by
 unfold getSt
 rw [List.getD_eq_getElem?_getD, List.getD_eq_getElem?_getD]
 cases h1 : st[i]? with
 | none => simpa using hd
 | some l =>
  simp only [Option.getD_some]
  cases h2 : l[k]? with
  | none => simpa using hd
  | some v => exact h l (List.mem_of_getElem? h1) v (List.mem_of_getElem? h2)
theorem rq_enter {p : List Mod} {r : Ev} {a : Int} {f : Fun} {l : List Val} (hr : ∀ o ns vs e, RightS ns vs → RQ (r o ns vs e) Rv) (hl : l.length = f.params.length) (hv : ∀ v ∈ l, Rv v) : RQ (enterX p r a f l) Rv := by
 have e0 : ∀ m, enterX p r a f l m = if m.frames < 60 then ((r a (f.params.map (·.1)) l f.body).bind fun v => .upd (fun m => { m with frames := m.frames - 1 }) (.ok v)) (entM p a f l m) else .er 6 m := fun m => by
  unfold enterX X.get
  by_cases h : m.frames < 60
  ·simp only [h, if_true]; rfl
  ·simp only [h, if_false]; rfl
 intro m hm
 rw [e0]
 split
 ·have hb : RQ ((r a (f.params.map (·.1)) l f.body).bind fun v => .upd (fun m => { m with frames := m.frames - 1 }) (.ok v)) Rv :=
   rq_bind (hr _ _ _ _ ⟨by simp [hl], hv⟩) fun _ hv m hm => ⟨hm, rfl, fun a s e => by cases e; exact hv⟩
  have hm' : RightM (entM p a f l m) := by
   refine ⟨hm.1, fun c hc => ?_⟩
   simp only [entM] at hc
   split at hc
   ·rcases List.mem_append.1 hc with h | h
    ·exact hm.2 c h
    ·simp only [List.mem_singleton] at h
     subst h
     exact hv
   ·exact hm.2 c hc
  exact hb _ hm'
 ·exact ⟨hm, rfl, fun _ _ e => by cases e⟩
theorem right_step {p : List Mod} {r : Ev} (hr : ∀ o ns vs e, RightS ns vs → RQ (r o ns vs e) Rv) (o : Int) (ns : List Str) (vs : List Val) (e : Exp) (hs : RightS ns vs) : RQ (stepX p r o ns vs e) Rv := by
 have tick : ∀ y : X Val, RQ y Rv → RQ (tickX y) Rv := fun y hy m hm => by
  unfold tickX X.get
  by_cases h : m.fuel ≤ 0
  ·simp only [h, if_true]; exact ⟨hm, rfl, fun _ _ e => by cases e⟩
  ·simp only [h, if_false]; exact hy { m with fuel := m.fuel - 1 } hm
 have H := fun e => hr o ns vs e hs
 refine tick _ ?_
 refine rq_ite (fun _ => rq_er) fun _ => rq_ite (fun _ => rq_ok (right_num _)) fun _ => rq_ite (fun _ => rq_ite (fun _ => rq_ok (right_truth _)) fun _ => rq_er) fun _ => rq_ite (fun _ => ?_) fun _ =>
  rq_ite (fun _ => ?_) fun _ => rq_ite (fun _ => ?_) fun _ => rq_ite (fun _ => ?_) fun _ => rq_ite (fun _ => ?_) fun _ => rq_ite (fun _ => ?_) fun _ => rq_ite (fun _ => ?_) fun _ => rq_ite (fun _ => ?_) fun _ =>
  rq_ite (fun _ => ?_) fun _ => rq_ite (fun _ => ?_) fun _ => ?_
 ·split
  ·rename_i v hv
   exact rq_ok (hs.2 v (look_mem _ _ _ _ hv))
  ·exact rq_er
 ·refine rq_bind (H _) fun a ha => rq_bind (H _) fun b hb => ?_
  unfold binX
  exact rq_ite (fun _ => rq_ite (fun _ => rq_ok (right_truth _)) fun _ => rq_er) fun _ => rq_ite (fun _ => rq_ite (fun _ => rq_ok (right_num _)) fun _ => rq_ite (fun _ => rq_ok (right_num _)) fun _ => rq_ite (fun _ => rq_ok (right_num _)) fun _ => rq_ok (right_truth _)) fun _ => rq_er
 ·exact rq_bind (rq_bool (H _)) fun a _ => rq_ite (fun _ => rq_ok (right_truth _)) fun _ => rq_bind (rq_bool (H _)) fun b _ => rq_ok (right_truth _)
 ·exact rq_bind (rq_bool (H _)) fun a _ => rq_ok (right_truth _)
 ·exact rq_bind (rq_bool (H _)) fun a _ => rq_ite (fun _ => H _) fun _ => H _
 ·exact rq_bind (H _) fun v hv => hr _ _ _ _ ⟨by simp [hs.1], fun w hw => by
   rcases List.mem_append.1 hw with h | h
   ·exact hs.2 w h
   ·simp only [List.mem_singleton] at h; subst h; exact hv⟩
 ·unfold recordX
  exact rq_ite (fun h1 => rq_ite (fun h2 => rq_bind (rq_list H _) fun vs hvs => rq_ite (fun h3 => rq_ok (right_rec (by rw [hvs.1]; exact h1.1) h1.2 h2 hvs.2 h3)) fun _ => rq_er) fun _ => rq_er) fun _ => rq_er
 ·refine rq_bind (H _) fun v hv => ?_
  split
  ·rename_i x hx
   exact rq_ite (fun _ => rq_ok (right_field hv (fieldV_mem _ _ _ _ hx))) fun _ => rq_er
  ·exact rq_er
 ·unfold callX
  simp only
  split
  ·exact rq_er
  ·rename_i f hf
   exact rq_ite (fun _ => rq_ite (fun h2 => rq_bind (rq_list H _) fun l hl => rq_enter hr (by rw [hl.1, h2]) hl.2) fun _ => rq_er) fun _ => rq_er
 ·unfold actX
  exact rq_bind (H _) fun v hv => rq_ite (fun _ => rq_ite (fun _ m hm => ⟨hm, rfl, fun a s e => by cases e; exact right_num _⟩) fun _ => rq_er) fun _ => rq_er
 ·unfold varX
  refine rq_ite (fun _ => rq_er) fun ho => ?_
  simp only
  refine rq_ite (fun _ => rq_er) fun hi => rq_ite (fun _ => rq_bind (H _) fun v hv m hm => ⟨⟨?_, hm.2⟩, ?_, fun a s e => by cases e; exact hv⟩) fun _ m hm => ⟨hm, rfl, fun a s e => by cases e; exact getSt_right hm.1 _ _ (right_num 0)⟩
  ·intro l hl w hw
   simp only [X.upd, X.ok, Rs.st, setSt] at hl
   obtain ⟨j, hj⟩ := List.mem_iff_getElem?.1 hl
   rw [List.getElem?_modify] at hj
   cases h1 : m.state[j]? with
   | none => simp [h1] at hj
   | some l0 =>
    rw [h1] at hj
    simp only [Option.map_eq_map, Option.map_some, Option.some.injEq] at hj
    have hold := hm.1 l0 (List.mem_of_getElem? h1)
    split at hj
    ·subst hj
     rcases List.mem_or_eq_of_mem_set hw with h | h
     ·exact hold w h
     ·subst h; exact hv
    ·subst hj
     exact hold w hw
  ·simp only [X.upd, X.ok, Rs.st, shapeM, setSt]
   apply List.ext_getElem?
   intro j
   rw [List.getElem?_map, List.getElem?_map, List.getElem?_modify]
   cases m.state[j]? with
   | none => rfl
   | some l0 =>
    simp only [Option.map_some]
    split <;> simp
theorem right_eval {p : List Mod} : ∀ (n : Nat) (o : Int) (ns : List Str) (vs : List Val) (e : Exp), RightS ns vs → RQ (evalX p n o ns vs e) Rv
 | 0, _, _, _, _, _ => rq_er
 | n + 1, o, ns, vs, e, hs => right_step (fun o ns vs e h => right_eval n o ns vs e h) o ns vs e hs
end Go.Av.Ap

/- How the state of an evaluation lies in the abstract heap. No condition. -/
namespace Go.Av.Ap
theorem bnd_ok {α β : Type} {m : M α} {f : α → M β} {h h' : Hp} {a : α} (e : m h = .ok a h') : bnd m f h = f a h' := by simp only [bnd, e]
theorem bnd_pan {α β : Type} {m : M α} {f : α → M β} {h h' : Hp} {v : AV} (e : m h = .pan v h') : bnd m f h = .pan v h' := by simp only [bnd, e]
def valCells (l : List Val) : List AV := l.flatMap fun v => acells v.av
theorem valCells_len (l : List Val) : (valCells l).length = l.length * 4 := by
 induction l with
 | nil => rfl
 | cons v l ih => simp only [valCells, List.flatMap_cons, List.length_append] at ih ⊢; rw [ih]; simp; omega
theorem valCells_get {l : List Val} {k : Nat} (h : k < l.length) : ((valCells l).drop (k * 4)).take 4 = acells (l[k]).av := by
 induction l generalizing k with
 | nil => simp at h
 | cons v l ih =>
  cases k with
  | zero => simp [valCells]
  | succ k =>
   have := ih (k := k) (by simpa using h)
   simp only [valCells, List.flatMap_cons] at this ⊢
   have e : (k + 1) * 4 = (acells v.av).length + k * 4 := by simp; omega
   rw [e, List.drop_append, List.getElem_cons_succ]
   simp only [Nat.add_sub_cancel_left]
   rw [List.drop_of_length_le (by omega), List.nil_append]
   exact this
theorem valCells_set {l : List Val} {k : Nat} (h : k < l.length) (v : Val) : setCells (valCells l) (k * 4) (acells v.av) = valCells (l.set k v) := by
 induction l generalizing k with
 | nil => simp at h
 | cons w l ih =>
  cases k with
  | zero =>
   simp only [setCells, valCells, List.flatMap_cons, Nat.zero_mul, List.take_zero, List.nil_append, List.set_cons_zero]
   congr 1
   have : 0 + (acells v.av).length = (acells w.av).length := by simp
   rw [this, List.drop_left]
  | succ k =>
   have := ih (k := k) (by simpa using h)
   simp only [setCells, valCells, List.flatMap_cons, List.set_cons_succ] at this ⊢
   have e : (k + 1) * 4 = (acells w.av).length + k * 4 := by simp; omega
   have e2 : (acells w.av).length + k * 4 + (acells v.av).length - (acells w.av).length = k * 4 + (acells v.av).length := by omega
   have e3 : (acells w.av).length + k * 4 - (acells w.av).length = k * 4 := by omega
   rw [e, List.take_append, List.drop_append, e2, e3, List.take_of_length_le (by omega), List.drop_of_length_le (by omega)]
   simp only [List.nil_append, List.append_assoc]
   congr 1
   rw [← List.append_assoc]
   exact this
def deedCells (l : List Deed) : List AV := l.flatMap fun d => [.int .i64 d.effect, .int .i64 d.arg, .int .i64 d.answer]
def ArgR (tag : Nat → Nat) (k : Nat) (h : Hp) (l : List Val) (v : AV) : Prop := v = vals l ∨ ∃ r, v = .hs r 0 l.length 4 true ∧ tag r = k ∧ h[r]? = some (valCells l)
def CallsR (tag : Nat → Nat) (h : Hp) : List Call → List AV → Prop
 | [], cs => cs = []
 | c :: l, cs => ∃ av rest, cs = .str c.module :: .str c.func :: av :: rest ∧ ArgR tag 4 h c.args av ∧ CallsR tag h l rest
def StatesR (tag : Nat → Nat) (h : Hp) : Nat → List Str → List (List Val) → List AV → Prop
 | _, [], [], cs => cs = []
 | i, n :: ns, l :: st, cs => ∃ av rest, cs = .str n :: av :: rest ∧ ((l = [] ∧ av = .sl []) ∨ ∃ r, av = .hs r 0 l.length 4 true ∧ tag r = 6 + i ∧ h[r]? = some (valCells l)) ∧ StatesR tag h (i + 1) ns st rest
 | _, _, _, _ => False
def SlR (tag : Nat → Nat) (k sz n : Nat) (cells : List AV → Prop) (v : AV) (h : Hp) : Prop := (n = 0 ∧ v = .hn) ∨ ∃ q cs, v = .hs q 0 n sz true ∧ 0 < n ∧ tag q = k ∧ h[q]? = some cs ∧ cs.length = n * sz ∧ cells cs
structure SNm where
 names : List Str
 sv : AV
 cells : List AV
 told : Bool
structure RepT (row : Ms → AV → AV → AV → List AV) (nm : SNm) (tag : Nat → Nat) (dv cv sv : AV) (m : Ms) (h : Hp) : Prop where
 r0 : h[0]? = some (row m dv cv sv)
 t0 : tag 0 = 0
 ds : SlR tag 2 3 m.deeds.length (fun cs => cs = deedCells m.deeds) dv h
 cs : SlR tag 3 3 m.calls.length (fun cs => CallsR tag h m.calls cs) cv h
 st : SlR tag 5 2 m.state.length (fun cs => cs = nm.cells ∧ StatesR tag h 0 nm.names m.state cs) sv h
 sve : sv = nm.sv
 wok : nm.told = true → m.world = []
def Rep (row : Ms → AV → AV → AV → List AV) (nm : SNm) (m : Ms) (h : Hp) : Prop := ∃ tag dv cv sv, RepT row nm tag dv cv sv m h
def Kp (tag tag' : Nat → Nat) (ks : Nat → Prop) (h h' : Hp) : Prop := ∀ r cs, h[r]? = some cs → ¬ ks (tag r) → h'[r]? = some cs ∧ tag' r = tag r
theorem ArgR.keep {tag tag' : Nat → Nat} {ks : Nat → Prop} {h h' : Hp} (K : Kp tag tag' ks h h') {k : Nat} (hk : ¬ ks k) {l : List Val} {v : AV} (H : ArgR tag k h l v) : ArgR tag' k h' l v := by
 rcases H with H | ⟨r, h1, h2, h3⟩
 ·exact .inl H
 ·have := K r _ h3 (by rw [h2]; exact hk)
  exact .inr ⟨r, h1, this.2.trans h2, this.1⟩
theorem CallsR.keep {tag tag' : Nat → Nat} {ks : Nat → Prop} {h h' : Hp} (K : Kp tag tag' ks h h') (hk : ¬ ks 4) : {l : List Call} → {cs : List AV} → CallsR tag h l cs → CallsR tag' h' l cs
 | [], _, H => H
 | _ :: _, _, ⟨av, rest, h1, h2, h3⟩ => ⟨av, rest, h1, h2.keep K hk, h3.keep K hk⟩
theorem StatesR.keep {tag tag' : Nat → Nat} {ks : Nat → Prop} {h h' : Hp} (K : Kp tag tag' ks h h') (hk : ∀ i, ¬ ks (6 + i)) : {i : Nat} → {nm : List Str} → {st : List (List Val)} → {cs : List AV} → StatesR tag h i nm st cs → StatesR tag' h' i nm st cs
 | _, [], [], _, H => H
 | i, _ :: _, _ :: _, _, ⟨av, rest, h1, h2, h3⟩ => ⟨av, rest, h1, by
   rcases h2 with h2 | ⟨r, g1, g2, g3⟩
   ·exact .inl h2
   ·have := K r _ g3 (by rw [g2]; exact hk i)
    exact .inr ⟨r, g1, this.2.trans g2, this.1⟩, StatesR.keep K hk h3⟩
 | _, [], _ :: _, _, H => H.elim
 | _, _ :: _, [], _, H => H.elim
theorem SlR.keep {tag tag' : Nat → Nat} {ks : Nat → Prop} {h h' : Hp} (K : Kp tag tag' ks h h') {k sz n : Nat} {c c' : List AV → Prop} {v : AV} (hk : ¬ ks k) (hc : ∀ cs, c cs → c' cs) (H : SlR tag k sz n c v h) : SlR tag' k sz n c' v h' := by
 rcases H with H | ⟨q, cs, h1, h2, h3, h4, h5, h6⟩
 ·exact .inl H
 ·have := K q _ h4 (by rw [h3]; exact hk)
  exact .inr ⟨q, cs, h1, h2, this.2.trans h3, this.1, h5, hc _ h6⟩
theorem RepT.set0 {row : Ms → AV → AV → AV → List AV} {nm : SNm} {tag : Nat → Nat} {dv cv sv : AV} {m m' : Ms} {h : Hp} (R : RepT row nm tag dv cv sv m h) (h1 : m'.deeds = m.deeds) (h2 : m'.calls = m.calls) (h3 : m'.state = m.state) (h4 : m.world = [] → m'.world = []) :
  RepT row nm tag dv cv sv m' (h.set 0 (row m' dv cv sv)) := by
 have hlt : 0 < h.length := (List.getElem?_eq_some_iff.1 R.r0).1
 have K : Kp tag tag (fun k => k = 0) h (h.set 0 (row m' dv cv sv)) := fun r cs hr hk => by
  have : r ≠ 0 := fun e => hk (by rw [e]; exact R.t0)
  exact ⟨by rw [List.getElem?_set_ne (Ne.symm this)]; exact hr, rfl⟩
 refine ⟨by rw [List.getElem?_set_self hlt], R.t0, ?_, ?_, ?_, R.sve, fun t => h4 (R.wok t)⟩
 ·rw [h1]; exact R.ds.keep K (by decide) fun _ h => h
 ·rw [h2]; exact R.cs.keep K (by decide) fun _ h => h.keep K (by decide)
 ·rw [h3]; exact R.st.keep K (by decide) fun _ h => ⟨h.1, h.2.keep K (by omega)⟩
theorem RepT.more {row : Ms → AV → AV → AV → List AV} {nm : SNm} {tag : Nat → Nat} {dv cv sv : AV} {m : Ms} {h : Hp} (R : RepT row nm tag dv cv sv m h) (x : List AV) (k : Nat) :
  RepT row nm (fun i => if i = h.length then k else tag i) dv cv sv m (h ++ [x]) ∧ Kp tag (fun i => if i = h.length then k else tag i) (fun _ => False) h (h ++ [x]) := by
 have K : Kp tag (fun i => if i = h.length then k else tag i) (fun _ => False) h (h ++ [x]) := fun r cs hr _ => by
  have hlt : r < h.length := (List.getElem?_eq_some_iff.1 hr).1
  exact ⟨by rw [List.getElem?_append_left hlt]; exact hr, by simp only; rw [if_neg (by omega)]⟩
 exact ⟨⟨(K 0 _ R.r0 id).1, (K 0 _ R.r0 id).2.trans R.t0, R.ds.keep K id fun _ h => h, R.cs.keep K id fun _ h => h.keep K id, R.st.keep K id fun _ h => ⟨h.1, h.2.keep K (fun _ => id)⟩, R.sve, R.wok⟩, K⟩
theorem Kp.kill {tag : Nat → Nat} {h : Hp} {q : Nat} {k : Nat} (hq : tag q = k) (x : List AV) : Kp tag tag (fun j => j = k) h (h.set q x) := fun r cs hr hk => by
 have : r ≠ q := fun e => hk (by rw [e]; exact hq)
 exact ⟨by rw [List.getElem?_set_ne (Ne.symm this)]; exact hr, rfl⟩
theorem loadH_one {T : TT} {t : Nat} {ti : TI} (ht : T t = some ti) (ha : ti.agg = false) {h : Hp} {l k : Nat} {cs : List AV} {v : AV} (h0 : h[l]? = some cs) (h1 : cs[k]? = some v) : loadH T t (.hp l k) h = .ok v h := by
 simp [loadH, ht, h0, ha, h1]
theorem loadH_agg {T : TT} {t : Nat} {ti : TI} (ht : T t = some ti) (ha : ti.agg = true) {h : Hp} {l k : Nat} {cs : List AV} (h0 : h[l]? = some cs) (hle : k + ti.size ≤ cs.length) : loadH T t (.hp l k) h = .ok (.agg ((cs.drop k).take ti.size)) h := by
 simp [loadH, ht, h0, ha, hle]
theorem storeH_ok {T : TT} {t : Nat} {ti : TI} (ht : T t = some ti) {h : Hp} {l k : Nat} {cs : List AV} {v : AV} (h0 : h[l]? = some cs) (hv : okEl ti.size v = true) (hle : k + ti.size ≤ cs.length) (hp : 0 < ti.size) :
  storeH T t (.hp l k) v h = .ok (.tup []) (h.set l (setCells cs k (acells v))) := by
 simp [storeH, ht, h0, hv, hle, hp]
theorem appH_nil {T : TT} {t e : Nat} {ti ei : TI} (ht : T t = some ti) (hk : ti.kind = .slice e) (he : T e = some ei) {x : AV} (hx : okEl ei.size x = true) (hb : 0 < ei.bytes) (hs : 0 < ei.size) (hc : ei.bytes ≤ 140737488355328) (h : Hp) :
  appH T t false .hn (.sl [x]) h = .ok (.hs h.length 0 1 ei.size ei.agg) (h ++ [acells x]) := by
 have : okSz ei.size [x] = true := by simp [okSz, hx]
 simp [appH, ht, hk, he, elsOf, this, hb, hs, strOk, hc]
theorem appH_row {T : TT} {t e : Nat} {ti ei : TI} (ht : T t = some ti) (hk : ti.kind = .slice e) (he : T e = some ei) {x : AV} (hx : okEl ei.size x = true) (hb : 0 < ei.bytes) (hs : 0 < ei.size) {h : Hp} {q n : Nat} {cs : List AV} (h0 : h[q]? = some cs) (hok : cs.all okCell = true)
  (hl : cs.length = n * ei.size) (hn : 0 < n) (hc : (n + 1) * ei.bytes ≤ 140737488355328) : appH T t false (.hs q 0 n ei.size ei.agg) (.sl [x]) h = .ok (.hs h.length 0 (n + 1) ei.size ei.agg) ((h.set q []) ++ [cs ++ acells x]) := by
 have h1 : okSz ei.size [x] = true := by simp [okSz, hx]
 have h2 : List.all cs okCell = true := hok
 simp only [appH, ht, hk, he, elsOf, h1, hb, hs, strOk, h0, h2, hl, hn, decide_true, Bool.and_self, cond_true, beq_self_eq_true, List.length_singleton, List.isEmpty_cons, cond_false, List.flatMap_cons, List.flatMap_nil, List.append_nil]
 rw [decide_eq_true hc]
 simp
theorem cloneH_vals {T : TT} {t e : Nat} {ti ei : TI} (ht : T t = some ti) (hk : ti.kind = .slice e) (he : T e = some ei) (h4 : ei.size = 4) (hag : ei.agg = true) (hb : 0 < ei.bytes) (call : FuncId → List AV → M AV) (l : List Val) (hc : l.length * ei.bytes ≤ 140737488355328) (h : Hp) :
  cloneH T t call [vals l] h = if l = [] then .ok (vals []) h else .ok (.hs h.length 0 l.length 4 true) (h ++ [valCells l]) := by
 have h1 : okSz 4 (valsAv l) = true := okSz_vals l
 have hlen : (valsAv l).length = l.length := by simp [valsAv_map]
 have hfl : (valsAv l).flatMap acells = valCells l := by simp [valsAv_map, valCells, List.flatMap_map]
 cases l with
 | nil => simp [cloneH, appH, ht, hk, he, elsOf, hb, h4, strOk, vals, valsAv, okSz]
 | cons v l =>
  have hne : (valsAv (v :: l)).isEmpty = false := rfl
  unfold cloneH vals appH
  simp only [ht, hk, he, elsOf, h4, h1, hb, strOk, decide_true, Bool.and_self, Bool.and_true, cond_true, hne, cond_false, hlen, hfl, hag]
  rw [decide_eq_true hc]
  simp
theorem CallsR.ok {tag : Nat → Nat} {h : Hp} : {l : List Call} → {cs : List AV} → CallsR tag h l cs → cs.all okCell = true ∧ cs.length = l.length * 3
 | [], cs, H => by cases H; exact ⟨rfl, rfl⟩
 | c :: l, _, ⟨av, rest, h1, h2, h3⟩ => by
  subst h1
  obtain ⟨g1, g2⟩ := h3.ok
  have : okCell av = true := by
   rcases h2 with rfl | ⟨r, rfl, _⟩ <;> rfl
  refine ⟨?_, by simp [g2]; omega⟩
  rw [List.all_cons, List.all_cons, List.all_cons, this, g1]
  rfl
theorem CallsR.snoc {tag : Nat → Nat} {h : Hp} {c : Call} {av : AV} (ha : ArgR tag 4 h c.args av) : {l : List Call} → {cs : List AV} → CallsR tag h l cs → CallsR tag h (l ++ [c]) (cs ++ [.str c.module, .str c.func, av])
 | [], cs, H => by cases H; exact ⟨av, [], rfl, ha, rfl⟩
 | d :: l, _, ⟨av', rest, h1, h2, h3⟩ => ⟨av', rest ++ [.str c.module, .str c.func, av], by rw [h1]; rfl, h2, CallsR.snoc ha h3⟩
theorem deedCells_ok (l : List Deed) : (deedCells l).all okCell = true := by simp [deedCells, okCell]
theorem StatesR.at {tag : Nat → Nat} {h : Hp} : {i : Nat} → {nm : List Str} → {st : List (List Val)} → {cs : List AV} → StatesR tag h i nm st cs → ∀ (j : Nat) (l : List Val), st[j]? = some l →
  ∃ av, cs[j * 2 + 1]? = some av ∧ ((l = [] ∧ av = .sl []) ∨ ∃ r, av = .hs r 0 l.length 4 true ∧ tag r = 6 + (i + j) ∧ h[r]? = some (valCells l))
 | _, [], [], _, _, j, l, hj => by simp at hj
 | i, _ :: _, _ :: _, _, ⟨av, rest, h1, h2, h3⟩, j, l, hj => by
  subst h1
  cases j with
  | zero => simp at hj; subst hj; exact ⟨av, rfl, h2⟩
  | succ j =>
   obtain ⟨av', g1, g2⟩ := h3.at j l (by simpa using hj)
   refine ⟨av', ?_, ?_⟩
   ·rw [show (j + 1) * 2 + 1 = j * 2 + 1 + 2 by omega]; simpa using g1
   ·rw [show i + (j + 1) = i + 1 + j by omega]; exact g2
 | _, [], _ :: _, _, H, _, _, _ => H.elim
 | _, _ :: _, [], _, H, _, _, _ => H.elim
theorem StatesR.len {tag : Nat → Nat} {h : Hp} : {i : Nat} → {nm : List Str} → {st : List (List Val)} → {cs : List AV} → StatesR tag h i nm st cs → nm.length = st.length
 | _, [], [], _, _ => rfl
 | _, _ :: _, _ :: _, _, ⟨_, _, _, _, h3⟩ => by simp [h3.len]
 | _, [], _ :: _, _, H => H.elim
 | _, _ :: _, [], _, H => H.elim
theorem StatesR.set {tag : Nat → Nat} {h : Hp} {r k : Nat} {v : Val} : {i : Nat} → {nm : List Str} → {st : List (List Val)} → {cs : List AV} → StatesR tag h i nm st cs → ∀ (j : Nat) (l : List Val), st[j]? = some l → tag r = 6 + (i + j) → h[r]? = some (valCells l) → cs[j * 2 + 1]? = some (.hs r 0 l.length 4 true) →
  k < l.length → StatesR tag (h.set r (valCells (l.set k v))) i nm (setSt st j k v) cs
 | _, [], [], _, _, j, l, hj, _, _, _, _ => by simp at hj
 | i, n :: ns, l0 :: st, _, ⟨av, rest, h1, h2, h3⟩, j, l, hj, ht, hr, hc, hk => by
  subst h1
  have hlt : r < h.length := (List.getElem?_eq_some_iff.1 hr).1
  cases j with
  | zero =>
   simp only [List.getElem?_cons_zero, Option.some.injEq] at hj
   subst hj
   simp only [Nat.zero_mul, Nat.zero_add, List.getElem?_cons_succ, List.getElem?_cons_zero, Option.some.injEq] at hc
   have e : setSt (l0 :: st) 0 k v = l0.set k v :: st := by simp [setSt]
   rw [e]
   refine ⟨av, rest, rfl, .inr ⟨r, by rw [hc, List.length_set], ht, List.getElem?_set_self hlt⟩, ?_⟩
   have K : Kp tag tag (fun t => t = 6 + i) h (h.set r (valCells (l0.set k v))) := Kp.kill (by rw [ht]; rfl) _
   have key : ∀ {i' : Nat} {nm' : List Str} {st' : List (List Val)} {cs' : List AV}, i < i' → StatesR tag h i' nm' st' cs' → StatesR tag (h.set r (valCells (l0.set k v))) i' nm' st' cs' := by
    intro i' nm' st'
    induction st' generalizing i' nm' with
    | nil => intro cs' hi H; cases nm' with
     | nil => exact H
     | cons _ _ => exact H.elim
    | cons a st' ih => intro cs' hi H; cases nm' with
     | nil => exact H.elim
     | cons b nm' =>
      obtain ⟨av2, rest2, k1, k2, k3⟩ := H
      refine ⟨av2, rest2, k1, ?_, ih (by omega) k3⟩
      rcases k2 with k2 | ⟨r2, g1, g2, g3⟩
      ·exact .inl k2
      ·have := K r2 _ g3 (by rw [g2]; omega)
       exact .inr ⟨r2, g1, g2, this.1⟩
   exact key (Nat.lt_succ_self i) h3
  | succ j =>
   have e : setSt (l0 :: st) (j + 1) k v = l0 :: setSt st j k v := by simp [setSt]
   rw [e]
   have hc' : rest[j * 2 + 1]? = some (.hs r 0 l.length 4 true) := by
    rw [show (j + 1) * 2 + 1 = j * 2 + 1 + 2 by omega] at hc
    simpa using hc
   refine ⟨av, rest, rfl, ?_, h3.set j l (by simpa using hj) (by rw [ht]; omega) hr hc' hk⟩
   rcases h2 with h2 | ⟨r2, g1, g2, g3⟩
   ·exact .inl h2
   ·have : r2 ≠ r := fun e => by rw [e, ht] at g2; omega
    exact .inr ⟨r2, g1, g2, by rw [List.getElem?_set_ne (Ne.symm this)]; exact g3⟩
 | _, [], _ :: _, _, H, _, _, _, _, _, _, _ => H.elim
 | _, _ :: _, [], _, H, _, _, _, _, _, _, _ => H.elim
theorem Kp.trans {a b c : Nat → Nat} {ks js : Nat → Prop} {h h1 h2 : Hp} (K : Kp a b ks h h1) (J : Kp b c js h1 h2) : Kp a c (fun k => ks k ∨ js k) h h2 := fun r cs hr hk => by
 obtain ⟨k1, k2⟩ := K r cs hr fun h => hk (.inl h)
 obtain ⟨j1, j2⟩ := J r cs k1 fun h => hk (.inr (by rwa [k2] at h))
 exact ⟨j1, j2.trans k2⟩
theorem Kp.new (tag : Nat → Nat) (h : Hp) (x : List AV) (k : Nat) : Kp tag (fun i => if i = h.length then k else tag i) (fun _ => False) h (h ++ [x]) := fun r cs hr _ => by
 have hlt : r < h.length := (List.getElem?_eq_some_iff.1 hr).1
 exact ⟨by rw [List.getElem?_append_left hlt]; exact hr, by simp only; rw [if_neg (by omega)]⟩
theorem Kp.mono {a b : Nat → Nat} {ks js : Nat → Prop} {h h1 : Hp} (K : Kp a b ks h h1) (hj : ∀ k, ks k → js k) : Kp a b js h h1 := fun r cs hr hk => K r cs hr fun h => hk (hj _ h)
theorem push_row {T : TT} {t e : Nat} {ti ei : TI} (ht : T t = some ti) (hk : ti.kind = .slice e) (he : T e = some ei) {sz : Nat} (h3 : ei.size = sz) (hsz : 0 < sz) (hag : ei.agg = true) (hb : 0 < ei.bytes) {tag : Nat → Nat} {k n : Nat} {P : List AV → Prop} {v x : AV} {h : Hp}
  (H : SlR tag k sz n P v h) (hP0 : n = 0 → P []) (hok : ∀ cs, P cs → cs.all okCell = true) (hx : okEl sz x = true) (hc : (n + 1) * ei.bytes ≤ 140737488355328) :
  ∃ h1 v' tag', appH T t false v (.sl [x]) h = .ok v' h1 ∧ Kp tag tag' (fun j => j = k) h h1 ∧ SlR tag' k sz (n + 1) (fun cs' => ∃ cs, P cs ∧ cs' = cs ++ acells x) v' h1 ∧ okCell v' = true := by
 have hxl : (acells x).length = sz := by
  unfold okEl at hx
  simp only [Bool.and_eq_true, beq_iff_eq] at hx
  have h1 := hx.1
  cases x <;> simp only [sizeA, Option.some.injEq, reduceCtorEq] at h1 <;> simp only [acells, List.length_singleton] <;> exact h1
 have hx' : okEl ei.size x = true := by rw [h3]; exact hx
 rcases H with ⟨hn, rfl⟩ | ⟨q, cs, rfl, hn, hq, hcs, hl, hp⟩
 ·subst hn
  refine ⟨_, _, _, appH_nil ht hk he hx' hb (by omega) (by omega) h, (Kp.new tag h (acells x) k).mono fun _ h => h.elim, .inr ⟨h.length, acells x, by rw [h3, hag], by omega, by simp, by simp, by simpa using hxl, [], hP0 rfl, rfl⟩, rfl⟩
 ·have e1 := appH_row ht hk he hx' hb (by omega) hcs (hok cs hp) (by rw [h3]; exact hl) hn hc
  rw [h3, hag] at e1
  have K1 : Kp tag tag (fun j => j = k) h (h.set q []) := Kp.kill hq []
  have K2 := Kp.new tag (h.set q []) (cs ++ acells x) k
  refine ⟨_, _, _, e1, (K1.trans K2).mono fun j h => h.elim id False.elim, .inr ⟨h.length, cs ++ acells x, rfl, by omega, by simp, ?_, by rw [List.length_append, hl, hxl, Nat.add_mul, Nat.one_mul], cs, hp, rfl⟩, rfl⟩
  have : (h.set q []).length = h.length := by simp
  rw [← this]
  simp
theorem RepT.pushDeed {row : Ms → AV → AV → AV → List AV} {nm : SNm} {tag tag' : Nat → Nat} {dv dv' cv sv : AV} {m m' : Ms} {h h1 : Hp} {d : Deed} (R : RepT row nm tag dv cv sv m h) (K : Kp tag tag' (fun j => j = 2) h h1)
  (H : SlR tag' 2 3 (m.deeds.length + 1) (fun cs' => ∃ cs, cs = deedCells m.deeds ∧ cs' = cs ++ acells d.av) dv' h1) (hd : m'.deeds = m.deeds ++ [d]) (hc : m'.calls = m.calls) (hs : m'.state = m.state) (h4 : m.world = [] → m'.world = []) : RepT row nm tag' dv' cv sv m' (h1.set 0 (row m' dv' cv sv)) := by
 obtain ⟨k1, k2⟩ := K 0 _ R.r0 (by rw [R.t0]; decide)
 have hlt : 0 < h1.length := (List.getElem?_eq_some_iff.1 k1).1
 have t0 := k2.trans R.t0
 have K0 : Kp tag' tag' (fun j => j = 0) h1 (h1.set 0 (row m' dv' cv sv)) := Kp.kill t0 _
 refine ⟨List.getElem?_set_self hlt, t0, ?_, ?_, ?_, R.sve, fun t => h4 (R.wok t)⟩
 ·rw [hd, List.length_append]
  refine H.keep K0 (by decide) ?_
  rintro cs' ⟨cs, rfl, rfl⟩
  show deedCells m.deeds ++ [AV.int .i64 d.effect, .int .i64 d.arg, .int .i64 d.answer] = _
  simp [deedCells]
 ·rw [hc]
  exact (R.cs.keep K (c' := CallsR tag' h1 m.calls) (by decide) fun _ h => h.keep K (by decide)).keep K0 (by decide) fun _ h => h.keep K0 (by decide)
 ·rw [hs]
  exact (R.st.keep K (c' := fun cs => cs = nm.cells ∧ StatesR tag' h1 0 nm.names m.state cs) (by decide) fun _ h => ⟨h.1, h.2.keep K (by omega)⟩).keep K0 (by decide) fun _ h => ⟨h.1, h.2.keep K0 (by omega)⟩
theorem RepT.pushCall {row : Ms → AV → AV → AV → List AV} {nm : SNm} {tag tag' : Nat → Nat} {dv cv cv' sv : AV} {m m' : Ms} {h h1 : Hp} {c : Call} {av : AV} (R : RepT row nm tag dv cv sv m h) (K : Kp tag tag' (fun j => j = 3) h h1) (ha : ArgR tag 4 h c.args av)
  (H : SlR tag' 3 3 (m.calls.length + 1) (fun cs' => ∃ cs, CallsR tag h m.calls cs ∧ cs' = cs ++ [.str c.module, .str c.func, av]) cv' h1) (hd : m'.deeds = m.deeds) (hc : m'.calls = m.calls ++ [c]) (hs : m'.state = m.state) (h4 : m.world = [] → m'.world = []) : RepT row nm tag' dv cv' sv m' (h1.set 0 (row m' dv cv' sv)) := by
 obtain ⟨k1, k2⟩ := K 0 _ R.r0 (by rw [R.t0]; decide)
 have hlt : 0 < h1.length := (List.getElem?_eq_some_iff.1 k1).1
 have t0 := k2.trans R.t0
 have K0 : Kp tag' tag' (fun j => j = 0) h1 (h1.set 0 (row m' dv cv' sv)) := Kp.kill t0 _
 refine ⟨List.getElem?_set_self hlt, t0, ?_, ?_, ?_, R.sve, fun t => h4 (R.wok t)⟩
 ·rw [hd]
  exact (R.ds.keep K (c' := fun cs => cs = deedCells m.deeds) (by decide) fun _ h => h).keep K0 (by decide) fun _ h => h
 ·rw [hc, List.length_append]
  refine H.keep K0 (by decide) ?_
  rintro cs' ⟨cs, hcs, rfl⟩
  exact ((hcs.keep K (by decide)).snoc (ha.keep K (by decide))).keep K0 (by decide)
 ·rw [hs]
  exact (R.st.keep K (c' := fun cs => cs = nm.cells ∧ StatesR tag' h1 0 nm.names m.state cs) (by decide) fun _ h => ⟨h.1, h.2.keep K (by omega)⟩).keep K0 (by decide) fun _ h => ⟨h.1, h.2.keep K0 (by omega)⟩
theorem RepT.var {row : Ms → AV → AV → AV → List AV} {nm : SNm} {tag : Nat → Nat} {dv cv sv : AV} {m : Ms} {h : Hp} (R : RepT row nm tag dv cv sv m h) (hrow : ∀ st, row { m with state := st } dv cv sv = row m dv cv sv) {i : Nat} {l : List Val} (hl : m.state[i]? = some l) (hne : l ≠ []) :
  ∃ q r, nm.sv = .hs q 0 m.state.length 2 true ∧ h[q]? = some nm.cells ∧ nm.cells[i * 2 + 1]? = some (.hs r 0 l.length 4 true) ∧ nm.cells.length = m.state.length * 2 ∧ h[r]? = some (valCells l) ∧
   ∀ (k : Nat) (v : Val), k < l.length → RepT row nm tag dv cv sv { m with state := setSt m.state i k v } (h.set r (valCells (l.set k v))) := by
 have hi : i < m.state.length := (List.getElem?_eq_some_iff.1 hl).1
 rcases R.st with ⟨h0, _⟩ | ⟨q, cs, h1, h2, h3, h4, h5, rfl, h6⟩
 ·omega
 ·obtain ⟨av, g1, g2⟩ := h6.at i l hl
  rcases g2 with ⟨g2, _⟩ | ⟨r, rfl, g3, g4⟩
  ·exact absurd g2 hne
  ·rw [Nat.zero_add] at g3
   refine ⟨q, r, by rw [← R.sve, h1], h4, g1, h5, g4, fun k v hk => ?_⟩
   have K : Kp tag tag (fun j => j = 6 + i) h (h.set r (valCells (l.set k v))) := Kp.kill g3 _
   refine ⟨?_, R.t0, ?_, ?_, ?_, R.sve, R.wok⟩
   ·rw [hrow]; exact (K 0 _ R.r0 (by rw [R.t0]; omega)).1
   ·exact R.ds.keep K (by omega) fun _ h => h
   ·exact R.cs.keep K (by omega) fun _ h => h.keep K (by omega)
   ·right
    have hq : r ≠ q := fun e => by rw [e, h3] at g3; omega
    refine ⟨q, nm.cells, by rw [h1]; simp [setSt], by simpa [setSt] using h2, h3, by rw [List.getElem?_set_ne hq]; exact h4, by simpa [setSt] using h5, rfl, ?_⟩
    exact h6.set i l hl (by rw [Nat.zero_add]; exact g3) g4 g1 hk
theorem StatesR.snoc {tag : Nat → Nat} {h : Hp} {n : Str} {l : List Val} {av : AV} : {i : Nat} → {nm : List Str} → {st : List (List Val)} → {cs : List AV} → StatesR tag h i nm st cs →
  ((l = [] ∧ av = .sl []) ∨ ∃ r, av = .hs r 0 l.length 4 true ∧ tag r = 6 + (i + st.length) ∧ h[r]? = some (valCells l)) → StatesR tag h i (nm ++ [n]) (st ++ [l]) (cs ++ [.str n, av])
 | i, [], [], cs, H, ha => by
  have H' : cs = [] := H
  subst H'
  exact ⟨av, [], rfl, ha, rfl⟩
 | i, _ :: _, l0 :: st, _, ⟨av', rest, h1, h2, h3⟩, ha => by
  refine ⟨av', rest ++ [.str n, av], by rw [h1]; rfl, h2, h3.snoc ?_⟩
  rcases ha with ha | ⟨r, g1, g2, g3⟩
  ·exact .inl ha
  ·exact .inr ⟨r, g1, by rw [g2]; simp; omega, g3⟩
 | _, [], _ :: _, _, H, _ => H.elim
 | _, _ :: _, [], _, H, _ => H.elim
theorem StatesR.ok {tag : Nat → Nat} {h : Hp} : {i : Nat} → {nm : List Str} → {st : List (List Val)} → {cs : List AV} → StatesR tag h i nm st cs → cs.all okCell = true
 | _, [], [], cs, H => by
  have H' : cs = [] := H
  subst H'
  rfl
 | _, _ :: _, _ :: _, _, ⟨av, rest, h1, h2, h3⟩ => by
  subst h1
  have : okCell av = true := by
   rcases h2 with ⟨_, rfl⟩ | ⟨r, rfl, _⟩ <;> rfl
  rw [List.all_cons, List.all_cons, this, h3.ok]
  rfl
 | _, [], _ :: _, _, H => H.elim
 | _, _ :: _, [], _, H => H.elim
theorem RepT.pushState {row : Ms → AV → AV → AV → List AV} {nm : SNm} {tag tag' : Nat → Nat} {dv cv sv sv' : AV} {m : Ms} {h h1 : Hp} {n : Str} {l : List Val} {av : AV} (R : RepT row nm tag dv cv sv m h) (K : Kp tag tag' (fun j => j = 5) h h1)
  (ha : (l = [] ∧ av = .sl []) ∨ ∃ r, av = .hs r 0 l.length 4 true ∧ tag r = 6 + m.state.length ∧ h[r]? = some (valCells l))
  (H : SlR tag' 5 2 (m.state.length + 1) (fun cs' => ∃ cs, (cs = nm.cells ∧ StatesR tag h 0 nm.names m.state cs) ∧ cs' = cs ++ [.str n, av]) sv' h1) :
  RepT row ⟨nm.names ++ [n], sv', nm.cells ++ [.str n, av], nm.told⟩ tag' dv cv sv' { m with state := m.state ++ [l] } (h1.set 0 (row { m with state := m.state ++ [l] } dv cv sv')) := by
 obtain ⟨k1, k2⟩ := K 0 _ R.r0 (by rw [R.t0]; decide)
 have hlt : 0 < h1.length := (List.getElem?_eq_some_iff.1 k1).1
 have t0 := k2.trans R.t0
 have K0 : Kp tag' tag' (fun j => j = 0) h1 (h1.set 0 (row { m with state := m.state ++ [l] } dv cv sv')) := Kp.kill t0 _
 refine ⟨List.getElem?_set_self hlt, t0, ?_, ?_, ?_, rfl, R.wok⟩
 ·exact (R.ds.keep K (c' := fun cs => cs = deedCells m.deeds) (by decide) fun _ h => h).keep K0 (by decide) fun _ h => h
 ·exact (R.cs.keep K (c' := CallsR tag' h1 m.calls) (by decide) fun _ h => h.keep K (by decide)).keep K0 (by decide) fun _ h => h.keep K0 (by decide)
 ·simp only [List.length_append, List.length_singleton]
  refine H.keep K0 (by decide) ?_
  rintro cs' ⟨cs, ⟨rfl, hcs⟩, rfl⟩
  refine ⟨rfl, ?_⟩
  have h2 := hcs.snoc (n := n) (l := l) (av := av) (by rw [Nat.zero_add]; exact ha)
  exact (h2.keep K (by omega)).keep K0 (by omega)
def frG (d : Nat) (h : Hp) : Nat → Nat → Nat → Nat → Bool → AV := fun l off len sz ag => match h[l]? with
 | some cs => bif decide (off + len * sz ≤ cs.length) && decide (0 < sz) && (ag || (Nat.beq sz 1 && cs.all okCell)) then
   .sl ((List.range len).map fun i => frz d h (bif ag then .agg ((cs.drop (off + i * sz)).take sz) else nth cs (off + i * sz))) else .any
 | none => .any
theorem frz_succ (d : Nat) (h : Hp) (a : AV) : frz (d + 1) h a = cl (frG d h) a := rfl
theorem range_map {α β : Type} {l : List α} {f : Nat → β} {g : α → β} (h : ∀ i x, l[i]? = some x → f i = g x) : (List.range l.length).map f = l.map g := by
 apply List.ext_getElem?
 intro i
 rw [List.getElem?_map, List.getElem?_map]
 by_cases hi : i < l.length
 ·rw [List.getElem?_range hi, List.getElem?_eq_getElem hi]
  simp only [Option.map_some, Option.some.injEq]
  exact h i _ (List.getElem?_eq_getElem hi)
 ·rw [List.getElem?_eq_none (by simp; omega), List.getElem?_eq_none (by omega)]
  rfl
theorem frG_row {d : Nat} {h : Hp} {q n sz : Nat} {cs : List AV} (h0 : h[q]? = some cs) (hl : cs.length = n * sz) (hz : 0 < sz) : frG d h q 0 n sz true = .sl ((List.range n).map fun i => frz d h (.agg ((cs.drop (i * sz)).take sz))) := by
 unfold frG
 rw [h0]
 simp only [hl, Nat.zero_add, Nat.le_refl, decide_true, hz, Bool.true_or, Bool.and_self, cond_true]
theorem frz_val (d : Nat) (h : Hp) (v : Val) : frz d h v.av = v.av := by
 cases d with
 | zero => exact cl_val _ v
 | succ d => exact cl_val _ v
theorem frG_vals {d : Nat} {h : Hp} {r : Nat} {l : List Val} (h0 : h[r]? = some (valCells l)) : frG d h r 0 l.length 4 true = vals l := by
 rw [frG_row h0 (valCells_len l) (by decide)]
 unfold vals
 rw [valsAv_map]
 congr 1
 refine range_map fun i v hv => ?_
 have hi := (List.getElem?_eq_some_iff.1 hv).1
 rw [valCells_get hi, (List.getElem?_eq_some_iff.1 hv).2]
 have : AV.agg (acells v.av) = v.av := by simp
 rw [this, frz_val]
theorem cl_arg {d : Nat} {tag : Nat → Nat} {k : Nat} {h : Hp} {l : List Val} {av : AV} (H : ArgR tag k h l av) : cl (frG d h) av = vals l := by
 rcases H with rfl | ⟨r, rfl, _, h0⟩
 ·exact cl_vals _ l
 ·exact frG_vals h0
theorem CallsR.at {tag : Nat → Nat} {h : Hp} : {l : List Call} → {cs : List AV} → CallsR tag h l cs → ∀ (i : Nat) (c : Call), l[i]? = some c → ∃ av, (cs.drop (i * 3)).take 3 = [.str c.module, .str c.func, av] ∧ ArgR tag 4 h c.args av
 | [], _, _, i, c, hc => by simp at hc
 | d :: l, _, ⟨av, rest, h1, h2, h3⟩, i, c, hc => by
  subst h1
  cases i with
  | zero => simp at hc; subst hc; exact ⟨av, by simp, h2⟩
  | succ i =>
   obtain ⟨av', g1, g2⟩ := h3.at i c (by simpa using hc)
   refine ⟨av', ?_, g2⟩
   rw [show (i + 1) * 3 = i * 3 + 3 by omega]
   simpa using g1
theorem frz_calls {d : Nat} {tag : Nat → Nat} {h : Hp} {l : List Call} {v : AV} (H : SlR tag 3 3 l.length (fun cs => CallsR tag h l cs) v h) : cl (frG (d + 1) h) v = calls l := by
 rcases H with ⟨h0, rfl⟩ | ⟨q, cs, rfl, _, _, h4, h5, h6⟩
 ·have : l = [] := List.eq_nil_of_length_eq_zero h0
  subst this
  rfl
 ·show frG (d + 1) h q 0 l.length 3 true = _
  rw [frG_row h4 h5 (by decide)]
  unfold calls
  congr 1
  refine range_map fun i c hc => ?_
  obtain ⟨av, g1, g2⟩ := h6.at i c hc
  rw [g1, frz_succ]
  show AV.agg [.str c.module, .str c.func, cl (frG d h) av] = _
  rw [cl_arg g2]
  rfl
theorem deedCells_at {l : List Deed} {i : Nat} {d : Deed} (h : l[i]? = some d) : ((deedCells l).drop (i * 3)).take 3 = [.int .i64 d.effect, .int .i64 d.arg, .int .i64 d.answer] := by
 induction l generalizing i with
 | nil => simp at h
 | cons x l ih =>
  cases i with
  | zero => simp at h; subst h; simp [deedCells]
  | succ i =>
   have := ih (i := i) (by simpa using h)
   rw [show (i + 1) * 3 = i * 3 + 3 by omega]
   simpa [deedCells] using this
theorem frz_deeds {d : Nat} {tag : Nat → Nat} {h : Hp} {l : List Deed} {v : AV} (H : SlR tag 2 3 l.length (fun cs => cs = deedCells l) v h) : cl (frG (d + 1) h) v = deeds l := by
 rcases H with ⟨h0, rfl⟩ | ⟨q, cs, rfl, _, _, h4, h5, rfl⟩
 ·have : l = [] := List.eq_nil_of_length_eq_zero h0
  subst this
  rfl
 ·show frG (d + 1) h q 0 l.length 3 true = _
  rw [frG_row h4 h5 (by decide)]
  unfold deeds
  congr 1
  refine range_map fun i c hc => ?_
  rw [deedCells_at hc, frz_succ]
  rfl
theorem StatesR.at2 {tag : Nat → Nat} {h : Hp} : {i : Nat} → {nm : List Str} → {st : List (List Val)} → {cs : List AV} → StatesR tag h i nm st cs → ∀ (j : Nat) (x : Vars), (List.zipWith Vars.mk nm st)[j]? = some x →
  ∃ av, (cs.drop (j * 2)).take 2 = [.str x.module, av] ∧ ((x.values = [] ∧ av = .sl []) ∨ ∃ r, av = .hs r 0 x.values.length 4 true ∧ h[r]? = some (valCells x.values))
 | _, [], [], _, _, j, x, hx => by simp at hx
 | i, n :: ns, l :: st, _, ⟨av, rest, h1, h2, h3⟩, j, x, hx => by
  subst h1
  cases j with
  | zero =>
   simp at hx
   subst hx
   refine ⟨av, by simp, ?_⟩
   rcases h2 with h2 | ⟨r, g1, _, g3⟩
   ·exact .inl h2
   ·exact .inr ⟨r, g1, g3⟩
  | succ j =>
   obtain ⟨av', g1, g2⟩ := h3.at2 j x (by simpa using hx)
   refine ⟨av', ?_, g2⟩
   rw [show (j + 1) * 2 = j * 2 + 2 by omega]
   simpa using g1
 | _, [], _ :: _, _, H, _, _, _ => H.elim
 | _, _ :: _, [], _, H, _, _, _ => H.elim
theorem frz_states {d : Nat} {tag : Nat → Nat} {h : Hp} {nm : List Str} {c0 : List AV} {st : List (List Val)} {v : AV} (H : SlR tag 5 2 st.length (fun cs => cs = c0 ∧ StatesR tag h 0 nm st cs) v h) : cl (frG (d + 1) h) v = varss (List.zipWith Vars.mk nm st) := by
 rcases H with ⟨h0, rfl⟩ | ⟨q, cs, rfl, _, _, h4, h5, _, h6⟩
 ·have : st = [] := List.eq_nil_of_length_eq_zero h0
  subst this
  cases nm <;> rfl
 ·have hl : (List.zipWith Vars.mk nm st).length = st.length := by simp [h6.len]
  show frG (d + 1) h q 0 st.length 2 true = _
  rw [frG_row h4 h5 (by decide), ← hl]
  unfold varss
  congr 1
  refine range_map fun i c hc => ?_
  obtain ⟨av, g1, g2⟩ := h6.at2 i c hc
  rw [g1, frz_succ]
  have : cl (frG d h) av = vals c.values := by
   rcases g2 with ⟨e1, rfl⟩ | ⟨r, rfl, g3⟩
   ·rw [e1]; rfl
   ·exact frG_vals g3
  show AV.agg [.str c.module, cl (frG d h) av] = _
  rw [this]
  rfl
theorem okCell_one {v : AV} (h : okCell v = true) : okEl 1 v = true ∧ acells v = [v] ∧ sizeA v = some 1 := by
 cases v with
 | any => cases h
 | agg _ => cases h
 | tup _ => cases h
 | _ => exact ⟨rfl, rfl, rfl⟩
end Go.Av.Ap

/- Laws of evaluation: how much is recorded, frames. No condition. -/
namespace Go.Av.Ap
def mu (m : Ms) : Int := m.deeds.length + m.calls.length + m.fuel
def TQ (k : Int) {α : Type} (x : X α) : Prop := ∀ m a s, 0 ≤ m.fuel → x m = .ok a s → mu s ≤ mu m + k ∧ s.fuel ≤ m.fuel ∧ 0 ≤ s.fuel ∧ s.frames = m.frames
theorem tq_ok {k : Int} {α : Type} {a : α} (hk : 0 ≤ k) : TQ k (.ok a) := fun m b s h0 h => by cases h; exact ⟨by omega, Int.le_refl _, h0, rfl⟩
theorem tq_er {k : Int} {α : Type} {e : Int} : TQ k (α := α) (.er e) := fun m b s _ h => by cases h
theorem tq_bind {j k : Int} {α β : Type} {x : X α} {f : α → X β} (hx : TQ j x) (hf : ∀ a, TQ k (f a)) : TQ (j + k) (x.bind f) := by
 intro m b s h0 h
 unfold X.bind at h
 cases hr : x m with
 | er e t => rw [hr] at h; cases h
 | ok a t =>
  rw [hr] at h
  obtain ⟨h1, h2, h3, h4⟩ := hx m a t h0 hr
  obtain ⟨g1, g2, g3, g4⟩ := hf a t b s h3 h
  exact ⟨by omega, by omega, g3, g4.trans h4⟩
theorem tq_bind0 {k : Int} {α β : Type} {x : X α} {f : α → X β} (hx : TQ 0 x) (hf : ∀ a, TQ k (f a)) : TQ k (x.bind f) := by
 have := tq_bind hx hf
 rwa [Int.zero_add] at this
theorem tq_mono {j k : Int} {α : Type} {x : X α} (h : TQ j x) (hk : j ≤ k) : TQ k x := fun m a s h0 e => by
 obtain ⟨h1, h2⟩ := h m a s h0 e
 exact ⟨by omega, h2⟩
theorem tq_ite {k : Int} {α : Type} {c : Prop} [Decidable c] {x y : X α} (h1 : TQ k x) (h2 : TQ k y) : TQ k (if c then x else y) := by
 split
 ·exact h1
 ·exact h2
theorem tq_bool {r : X Val} (h : TQ 0 r) : TQ 0 (boolX r) := tq_bind0 h fun _ => tq_ite (tq_ok (Int.le_refl _)) tq_er
theorem tq_list {r : Exp → X Val} (h : ∀ e, TQ 0 (r e)) : ∀ l, TQ 0 (listX r l)
 | [] => tq_ok (Int.le_refl _)
 | e :: l => tq_bind0 (h e) fun _ => tq_bind0 (tq_list h l) fun _ => tq_ok (Int.le_refl _)
theorem enterX_eq (p : List Mod) (r : Ev) (a : Int) (f : Fun) (l : List Val) (m : Ms) : enterX p r a f l m = if m.frames < 60 then ((r a (f.params.map (·.1)) l f.body).bind fun v => .upd (fun m => { m with frames := m.frames - 1 }) (.ok v)) (entM p a f l m) else .er 6 m := by
 unfold enterX X.get
 by_cases h : m.frames < 60
 ·simp only [h, if_true]; rfl
 ·simp only [h, if_false]; rfl
theorem tq_enter {p : List Mod} {r : Ev} {a : Int} {f : Fun} {l : List Val} (hr : ∀ o ns vs e, TQ 0 (r o ns vs e)) : TQ 1 (enterX p r a f l) := by
 intro m v s h0 h
 rw [enterX_eq] at h
 split at h
 ·unfold X.bind at h
  cases hr' : r a (f.params.map (·.1)) l f.body (entM p a f l m) with
  | er e t => rw [hr'] at h; cases h
  | ok b t =>
   rw [hr'] at h
   cases h
   obtain ⟨h1, h2, h3, h4⟩ := hr _ _ _ _ (entM p a f l m) v t h0 hr'
   have hm : mu (entM p a f l m) ≤ mu m + 1 := by
    simp only [mu, entM]
    split
    ·simp; omega
    ·omega
   have h4' : t.frames = m.frames + 1 := h4
   have h2' : t.fuel ≤ m.fuel := h2
   simp only [mu] at h1 hm ⊢
   exact ⟨by omega, h2', h3, by omega⟩
 ·cases h
theorem tq_step {p : List Mod} {r : Ev} (hr : ∀ o ns vs e, TQ 0 (r o ns vs e)) (o : Int) (ns : List Str) (vs : List Val) (e : Exp) : TQ 0 (stepX p r o ns vs e) := by
 have tick : ∀ y : X Val, TQ 1 y → TQ 0 (tickX y) := fun y hy m a s h0 h => by
  unfold tickX X.get at h
  by_cases hf : m.fuel ≤ 0
  ·simp only [hf, if_true] at h; cases h
  ·simp only [hf, if_false] at h
   obtain ⟨h1, h2, h3, h4⟩ := hy { m with fuel := m.fuel - 1 } a s (by simp only; omega) h
   simp only [mu] at h1 h2 ⊢
   exact ⟨by omega, by omega, h3, h4⟩
 have H := fun e => hr o ns vs e
 have ok1 : ∀ (α : Type) (a : α), TQ 1 (.ok a) := fun _ _ => tq_ok (by omega)
 have er1 : ∀ (α : Type) e, TQ 1 (α := α) (.er e) := fun _ _ => tq_er
 have H1 := fun e => tq_mono (H e) (show (0 : Int) ≤ 1 by omega)
 refine tick _ ?_
 refine tq_ite (er1 _ _) (tq_ite (ok1 _ _) (tq_ite (tq_ite (ok1 _ _) (er1 _ _)) (tq_ite ?_ (tq_ite ?_ (tq_ite ?_ (tq_ite ?_ (tq_ite ?_ (tq_ite ?_ (tq_ite ?_ (tq_ite ?_ (tq_ite ?_ (tq_ite ?_ ?_))))))))))))
 ·split
  ·exact ok1 _ _
  ·exact er1 _ _
 ·refine tq_bind0 (H _) fun a => tq_bind0 (H _) fun b => ?_
  unfold binX
  exact tq_ite (tq_ite (ok1 _ _) (er1 _ _)) (tq_ite (tq_ite (ok1 _ _) (tq_ite (ok1 _ _) (tq_ite (ok1 _ _) (ok1 _ _)))) (er1 _ _))
 ·exact tq_bind0 (tq_bool (H _)) fun a => tq_ite (ok1 _ _) (tq_bind0 (tq_bool (H _)) fun b => ok1 _ _)
 ·exact tq_bind0 (tq_bool (H _)) fun a => ok1 _ _
 ·exact tq_bind0 (tq_bool (H _)) fun a => tq_ite (H1 _) (H1 _)
 ·exact tq_bind0 (H _) fun v => tq_mono (hr _ _ _ _) (by omega)
 ·unfold recordX
  exact tq_ite (tq_ite (tq_bind0 (tq_list H _) fun vs => tq_ite (ok1 _ _) (er1 _ _)) (er1 _ _)) (er1 _ _)
 ·refine tq_bind0 (H _) fun v => ?_
  split
  ·exact tq_ite (ok1 _ _) (er1 _ _)
  ·exact er1 _ _
 ·unfold callX
  simp only
  split
  ·exact er1 _ _
  ·exact tq_ite (tq_ite (tq_bind0 (tq_list H _) fun l => tq_enter hr) (er1 _ _)) (er1 _ _)
 ·unfold actX
  refine tq_bind0 (H _) fun v => tq_ite (tq_ite (fun m a s h0 h => ?_) (er1 _ _)) (er1 _ _)
  cases h
  simp only [mu]
  exact ⟨by simp; omega, Int.le_refl _, h0, trivial⟩
 ·unfold varX
  refine tq_ite (er1 _ _) ?_
  simp only
  refine tq_ite (er1 _ _) (tq_ite (tq_bind0 (H _) fun v m a s h0 h => ?_) fun m a s h0 h => ?_)
  ·cases h
   exact ⟨by simp only [mu]; omega, Int.le_refl _, h0, rfl⟩
  ·cases h
   exact ⟨by omega, Int.le_refl _, h0, rfl⟩
theorem tq_eval {p : List Mod} : ∀ (n : Nat) (o : Int) (ns : List Str) (vs : List Val) (e : Exp), TQ 0 (evalX p n o ns vs e)
 | 0, _, _, _, _ => tq_er
 | n + 1, o, ns, vs, e => tq_step (fun o ns vs e => tq_eval n o ns vs e) o ns vs e
structure GoodM (p : List Mod) (m : Ms) : Prop where
 right : RightM m
 bud : mu m ≤ 1000000
 fr : 0 ≤ m.frames ∧ m.frames ≤ 60
 fuel : 0 ≤ m.fuel
 shape : ∀ (i : Nat) (x : Mod), p[i]? = some x → ∃ l, m.state[i]? = some l ∧ l.length = x.vars.length
theorem GoodM.eval {p : List Mod} {n : Nat} {o : Int} {ns : List Str} {vs : List Val} {e : Exp} {m s : Ms} {v : Val} (G : GoodM p m) (hs : RightS ns vs) (h : evalX p n o ns vs e m = .ok v s) : GoodM p s ∧ Rv v ∧ s.fuel ≤ m.fuel := by
 obtain ⟨h1, h2, h3, h4⟩ := tq_eval n o ns vs e m v s G.fuel h
 obtain ⟨g1, g2, g3⟩ := right_eval (p := p) n o ns vs e hs m G.right
 rw [h] at g1 g2
 refine ⟨⟨g1, by have := G.bud; omega, by rw [h4]; exact G.fr, h3, fun i x hx => ?_⟩, g3 v s h, h2⟩
 obtain ⟨l, k1, k2⟩ := G.shape i x hx
 have : (shapeM s)[i]? = (shapeM m)[i]? := by rw [show shapeM s = shapeM m from g2]
 simp only [shapeM, List.getElem?_map, k1, Option.map_some] at this
 cases hi : s.state[i]? with
 | none => rw [hi] at this; cases this
 | some l' =>
  rw [hi] at this
  simp only [Option.map_some, Option.some.injEq] at this
  exact ⟨l', rfl, by omega⟩
theorem GoodM.bool {p : List Mod} {n : Nat} {o : Int} {ns : List Str} {vs : List Val} {e : Exp} {m s : Ms} {b : Bool} (G : GoodM p m) (hs : RightS ns vs) (h : boolX (evalX p n o ns vs e) m = .ok b s) : GoodM p s ∧ s.fuel ≤ m.fuel := by
 unfold boolX X.bind at h
 cases hr : evalX p n o ns vs e m with
 | er c t => rw [hr] at h; cases h
 | ok v t =>
  rw [hr] at h
  simp only at h
  split at h
  ·cases h
   exact ⟨(G.eval hs hr).1, (G.eval hs hr).2.2⟩
  ·cases h
theorem right_len8 {v : Val} (h : Rv v) : v.names.length ≤ 8 := by
 unfold Rv fitsP at h
 split at h
 ·simp only [Bool.and_eq_true, beq_iff_eq] at h
  omega
 ·simp only [Bool.and_eq_true, decide_eq_true_eq] at h
  exact h.1.1.2
theorem fits_sz : ∀ (d : Nat) (v : Val), fitsP d v = true → v.sz ≤ 17 * 9 ^ d
 | 0, v, h => by simp [fitsP] at h
 | d + 1, v, h => by
  have hp : 1 ≤ 9 ^ d := Nat.one_le_pow _ _ (by decide)
  obtain ⟨k, n, ns, vs⟩ := v
  unfold fitsP at h
  simp only [Val.sz]
  split at h
  ·simp only [Bool.and_eq_true, beq_iff_eq, Val.names_mk, Val.values_mk] at h
   have h1 := h.1.1
   have h2 : vs = [] := List.eq_nil_of_length_eq_zero h.1.2
   subst h2
   simp only [valsSz]
   rw [Nat.pow_succ]
   omega
  ·simp only [Bool.and_eq_true, beq_iff_eq, List.all_eq_true, Val.names_mk, Val.values_mk] at h
   have h8 := of_decide_eq_true h.1.1.2
   have hl := h.1.1.1.2
   have hv := h.2
   have key : ∀ l : List Val, (∀ v ∈ l, fitsP d v = true) → valsSz l ≤ l.length * (17 * 9 ^ d) := by
    intro l
    induction l with
    | nil => intro _; simp [valsSz]
    | cons v l ih =>
     intro h
     have h1 := fits_sz d v (h v List.mem_cons_self)
     have h2 := ih fun w hw => h w (List.mem_cons_of_mem _ hw)
     simp only [valsSz, List.length_cons]
     rw [Nat.add_mul]
     omega
   have h3 := key vs hv
   have h4 : vs.length * (17 * 9 ^ d) ≤ 8 * (17 * 9 ^ d) := Nat.mul_le_mul_right _ (by omega)
   rw [Nat.pow_succ]
   omega
theorem right_sz {v : Val} (h : Rv v) : v.sz ≤ 200000 := Nat.le_trans (fits_sz 4 v h) (by decide)
end Go.Av.Ap

/- Runs of programs, in plain terms, and their laws. No condition. -/
namespace Go.Av.Ap
def twice (p : List Mod) : Bool := (List.range p.length).any fun i => (p.take i).any fun m => m.name == (p[i]?.getD default).name
def namesX (p : List Mod) : Int := if 20 < p.length then 6 else if twice p = true then 5 else 0
def startM (world : List Int) (fuel : Int) (st : List (List Val)) : Ms := ⟨fuel, 0, world, [], [], st⟩
def expX (e : Exp) (ns : List Str) (vs : List Val) : Rs Val :=
 if ns.length = vs.length ∧ vs.all (fitsP 4) = true then evalX [] 100000 (-1) ns vs e (startM [] 100000 []) else .er 1 (startM [] 100000 [])
def initL : List Exp → Except Int (List Val)
 | [] => .ok []
 | e :: es => match expX e [] [] with
  | .er c _ => .error c
  | .ok v _ => match initL es with
   | .error c => .error c
   | .ok vs => .ok (v :: vs)
def freshL : List Mod → Except Int (List Vars)
 | [] => .ok []
 | m :: ms => if m.init.length = m.vars.length then (match initL m.init with
   | .error c => .error c
   | .ok vs => match freshL ms with
    | .error c => .error c
    | .ok r => .ok (⟨m.name, vs⟩ :: r))
  else .error 13
def freshX (p : List Mod) : Except Int (List Vars) := if namesX p = 0 then freshL p else .error (namesX p)
def belongs (p : List Mod) (st : List Vars) : Bool := all2 (fun (m : Mod) (v : Vars) => v.module == m.name && (v.values.length == m.vars.length && v.values.all (fitsP 4))) p st
def errO (e : Int) : Out := ⟨e, default, [], [], []⟩
def outOf (ns : List Str) : Rs Val → Out
 | .ok v m => ⟨0, v, m.deeds, m.calls, List.zipWith Vars.mk ns m.state⟩
 | .er e m => ⟨e, default, m.deeds, m.calls, List.zipWith Vars.mk ns m.state⟩
def fromX (p : List Mod) (st : List Vars) (module fn : Str) (args : List Val) (world : List Int) (fuel : Int) : Out :=
 if namesX p ≠ 0 then errO (namesX p)
 else if fuel < 0 ∨ 100000 < fuel ∨ belongs p st = false then errO 1
 else match funcX p (modAt p module) fn with
  | none => errO 4
  | some f => if args.length = f.params.length ∧ args.all (fitsP 4) = true then
    outOf (st.map (·.module)) (enterX p (evalX p 100000) (modAt p module) f args (startM world fuel (st.map (·.values))))
   else errO 13
def runX (p : List Mod) (module fn : Str) (args : List Val) (world : List Int) (fuel : Int) : Out :=
 match freshX p with
 | .error e => errO e
 | .ok st => fromX p st module fn args world fuel
theorem all2_true {α β : Type} {F : α → β → Bool} : {a : List α} → {b : List β} → all2 F a b = true → a.length = b.length ∧ ∀ (i : Nat) (x : α) (y : β), a[i]? = some x → b[i]? = some y → F x y = true
 | [], [], _ => ⟨rfl, fun i x y h => by simp at h⟩
 | [], _ :: _, h => by simp [all2] at h
 | _ :: _, [], h => by simp [all2] at h
 | x :: a, y :: b, h => by
  simp only [all2, Bool.and_eq_true] at h
  obtain ⟨h1, h2⟩ := all2_true h.2
  refine ⟨by simp [h1], fun i u v hu hv => ?_⟩
  cases i with
  | zero => simp at hu hv; subst hu hv; exact h.1
  | succ i => exact h2 i u v (by simpa using hu) (by simpa using hv)
inductive Runs (p : List Mod) (st : List Vars) (args : List Val) (world : List Int) (fuel : Int) (o : Out) : Prop where
 | bad (e : Int) (h : o = errO e) (hall : e ≠ 16)
 | go (a : Int) (f : Fun) (hf : f ∈ (p[a.toNat]?.getD default).funcs) (ha : ¬ a < 0) (hl : a.toNat < p.length) (hargs : args.length = f.params.length) (hv : ∀ v ∈ args, Rv v) (hb : belongs p st = true) (hfu : 0 ≤ fuel ∧ fuel ≤ 100000)
   (h : o = outOf (st.map (·.module)) (enterX p (evalX p 100000) a f args (startM world fuel (st.map (·.values)))))
theorem namesX_ne (p : List Mod) : namesX p ≠ 16 := by
 unfold namesX
 split
 ·decide
 ·split <;> decide
theorem from_cases (p : List Mod) (st : List Vars) (module fn : Str) (args : List Val) :
  (∃ e, (e ≠ 16 ∧ e ≠ 0) ∧ ∀ (world : List Int) (fuel : Int), 0 ≤ fuel → fuel ≤ 100000 → fromX p st module fn args world fuel = errO e) ∨
  (∃ (a : Int) (f : Fun), f ∈ (p[a.toNat]?.getD default).funcs ∧ ¬ a < 0 ∧ a.toNat < p.length ∧ args.length = f.params.length ∧ (∀ v ∈ args, Rv v) ∧ belongs p st = true ∧
   ∀ (world : List Int) (fuel : Int), 0 ≤ fuel → fuel ≤ 100000 → fromX p st module fn args world fuel = outOf (st.map (·.module)) (enterX p (evalX p 100000) a f args (startM world fuel (st.map (·.values))))) := by
 by_cases hn : namesX p = 0
 ·by_cases hb : belongs p st = true
  ·cases hf : funcX p (modAt p module) fn with
   | none =>
    left
    refine ⟨4, ⟨by decide, by decide⟩, fun w fu g0 g1 => ?_⟩
    unfold fromX
    rw [if_neg (by simp [hn]), if_neg (by simp [hb]; omega), hf]
   | some f =>
    obtain ⟨f1, f2, f3⟩ := funcX_some hf
    by_cases ha : args.length = f.params.length ∧ args.all (fitsP 4) = true
    ·right
     refine ⟨modAt p module, f, f3, f1, f2, ha.1, fun v hv => (List.all_eq_true.1 ha.2) v hv, hb, fun w fu g0 g1 => ?_⟩
     unfold fromX
     rw [if_neg (by simp [hn]), if_neg (by simp [hb]; omega), hf]
     simp only
     rw [if_pos ha]
    ·left
     refine ⟨13, ⟨by decide, by decide⟩, fun w fu g0 g1 => ?_⟩
     unfold fromX
     rw [if_neg (by simp [hn]), if_neg (by simp [hb]; omega), hf]
     simp only
     rw [if_neg ha]
  ·left
   refine ⟨1, ⟨by decide, by decide⟩, fun w fu g0 g1 => ?_⟩
   unfold fromX
   rw [if_neg (by simp [hn]), if_pos (by simp [hb])]
 ·left
  refine ⟨namesX p, ⟨namesX_ne p, hn⟩, fun w fu _ _ => ?_⟩
  unfold fromX
  rw [if_pos hn]
theorem enter_right {p : List Mod} {a : Int} {f : Fun} {l : List Val} {n : Nat} (hl : l.length = f.params.length) (hv : ∀ v ∈ l, Rv v) : RQ (enterX p (evalX p n) a f l) Rv := rq_enter (fun o ns vs e h => right_eval n o ns vs e h) hl hv
theorem outOf_deeds (ns : List Str) (r : Rs Val) : (outOf ns r).deeds = r.st.deeds := by cases r <;> rfl
theorem outOf_calls (ns : List Str) (r : Rs Val) : (outOf ns r).calls = r.st.calls := by cases r <;> rfl
theorem outOf_state (ns : List Str) (r : Rs Val) : (outOf ns r).state = List.zipWith Vars.mk ns r.st.state := by cases r <;> rfl
def RightO (o : Out) : Prop := Rv o.value ∧ (∀ c ∈ o.calls, ∀ v ∈ c.args, Rv v) ∧ ∀ x ∈ o.state, ∀ v ∈ x.values, Rv v
theorem right_errO (e : Int) : RightO (errO e) := ⟨right_num 0, fun c hc => by simp [errO] at hc, fun c hc => by simp [errO] at hc⟩
theorem belongs_right {p : List Mod} {st : List Vars} (h : belongs p st = true) : st.length = p.length ∧ (∀ x ∈ st, ∀ v ∈ x.values, Rv v) ∧ ∀ (i : Nat) (m : Mod) (x : Vars), p[i]? = some m → st[i]? = some x → x.module = m.name ∧ x.values.length = m.vars.length := by
 obtain ⟨h1, h2⟩ := all2_true h
 refine ⟨h1.symm, fun x hx v hv => ?_, fun i m x hm hx => ?_⟩
 ·obtain ⟨i, hi⟩ := List.mem_iff_getElem?.1 hx
  have hlt : i < st.length := (List.getElem?_eq_some_iff.1 hi).1
  have := h2 i (p[i]'(by omega)) x (List.getElem?_eq_getElem _) hi
  simp only [Bool.and_eq_true, List.all_eq_true] at this
  exact this.2.2 v hv
 ·have := h2 i m x hm hx
  simp only [Bool.and_eq_true, beq_iff_eq] at this
  exact ⟨this.1, this.2.1⟩
theorem zip_state_mem {ns : List Str} {st : List (List Val)} {x : Vars} (h : x ∈ List.zipWith Vars.mk ns st) : x.values ∈ st := by
 obtain ⟨i, hi⟩ := List.mem_iff_getElem?.1 h
 rw [List.getElem?_zipWith] at hi
 cases h1 : ns[i]? with
 | none => rw [h1] at hi; cases hi
 | some a => cases h2 : st[i]? with
  | none => rw [h1, h2] at hi; cases hi
  | some b =>
   rw [h1, h2] at hi
   cases hi
   exact List.mem_of_getElem? h2
theorem from_right (p : List Mod) (st : List Vars) (module fn : Str) (args : List Val) (world : List Int) (fuel : Int) : RightO (fromX p st module fn args world fuel) := by
 by_cases h0 : 0 ≤ fuel ∧ fuel ≤ 100000
 ·rcases from_cases p st module fn args with ⟨e, he, h⟩ | ⟨a, f, hf, ha, hl, hargs, hv, hb, h⟩
  ·rw [h world fuel h0.1 h0.2]; exact right_errO e
  ·rw [h world fuel h0.1 h0.2]
   obtain ⟨_, b2, _⟩ := belongs_right hb
   obtain ⟨q1, _, q3⟩ := enter_right (p := p) (a := a) (n := 100000) hargs hv (startM world fuel (st.map (·.values))) ⟨fun l hl v hv => by
    simp only [startM, List.mem_map] at hl
    obtain ⟨x, hx, rfl⟩ := hl
    exact b2 x hx v hv, fun c hc => by simp [startM] at hc⟩
   refine ⟨?_, by rw [outOf_calls]; exact q1.2, fun x hx v hv => ?_⟩
   ·cases hr : enterX p (evalX p 100000) a f args (startM world fuel (st.map (·.values))) with
    | ok v s => exact q3 v s hr
    | er e s => exact right_num 0
   ·rw [outOf_state] at hx
    exact q1.1 _ (zip_state_mem hx) v hv
 ·unfold fromX
  split
  ·exact right_errO _
  ·rw [if_pos (by omega)]
   exact right_errO _
theorem run_right (p : List Mod) (module fn : Str) (args : List Val) (world : List Int) (fuel : Int) : RightO (runX p module fn args world fuel) := by
 unfold runX
 split
 ·exact right_errO _
 ·exact from_right _ _ _ _ _ _ _
theorem initL_right : (l : List Exp) → (vs : List Val) → initL l = .ok vs → vs.length = l.length ∧ ∀ v ∈ vs, Rv v
 | [], vs, h => by cases h; exact ⟨rfl, fun v hv => by cases hv⟩
 | e :: es, vs, h => by
  unfold initL at h
  split at h
  ·cases h
  ·rename_i v s hv
   split at h
   ·cases h
   ·rename_i ws hws
    cases h
    obtain ⟨h1, h2⟩ := initL_right es ws hws
    refine ⟨by simp [h1], fun w hw => ?_⟩
    rcases List.mem_cons.1 hw with rfl | hw
    ·unfold expX at hv
     rw [if_pos (by simp)] at hv
     exact (right_eval 100000 (-1) [] [] e ⟨rfl, fun v hv => by cases hv⟩ (startM [] 100000 []) ⟨fun l hl => by simp [startM] at hl, fun l hl => by simp [startM] at hl⟩).2.2 _ _ hv
    ·exact h2 w hw
theorem freshL_belongs : (p : List Mod) → (st : List Vars) → freshL p = .ok st → belongs p st = true
 | [], st, h => by cases h; rfl
 | m :: ms, st, h => by
  unfold freshL at h
  split at h
  ·rename_i hl
   split at h
   ·cases h
   ·rename_i vs hvs
    split at h
    ·cases h
    ·rename_i r hr
     cases h
     obtain ⟨h1, h2⟩ := initL_right _ _ hvs
     have := freshL_belongs ms r hr
     unfold belongs at this ⊢
     simp only [all2, this, Bool.and_true, Bool.and_eq_true, beq_iff_eq, List.all_eq_true]
     exact ⟨trivial, by omega, h2⟩
  ·cases h
theorem freshX_belongs {p : List Mod} {st : List Vars} (h : freshX p = .ok st) : belongs p st = true := by
 unfold freshX at h
 split at h
 ·exact freshL_belongs p st h
 ·cases h
theorem initL_err : (l : List Exp) → (c : Int) → initL l = .error c → c ≠ 0
 | [], c, h => by cases h
 | e :: es, c, h => by
  unfold initL at h
  split at h
  ·rename_i c' s hc
   cases h
   unfold expX at hc
   split at hc
   ·exact eval_err hc
   ·cases hc; decide
  ·split at h
   ·rename_i c' hc
    cases h
    exact initL_err es _ hc
   ·cases h
theorem freshL_err : (p : List Mod) → (c : Int) → freshL p = .error c → c ≠ 0
 | [], c, h => by cases h
 | m :: ms, c, h => by
  unfold freshL at h
  split at h
  ·split at h
   ·rename_i c' hc
    cases h
    exact initL_err _ _ hc
   ·split at h
    ·rename_i c' hc
     cases h
     exact freshL_err ms _ hc
    ·cases h
  ·cases h; decide
theorem freshX_err {p : List Mod} {c : Int} (h : freshX p = .error c) : c ≠ 0 := by
 unfold freshX at h
 split at h
 ·exact freshL_err p c h
 ·cases h; assumption
end Go.Av.Ap

/- Laws of evaluation: how much is recorded where it ends with an error. No condition. -/
namespace Go.Av.Ap
def TE (k : Int) {α : Type} (x : X α) : Prop := ∀ m e s, 0 ≤ m.fuel → x m = .er e s → mu s ≤ mu m + k ∧ 0 ≤ s.fuel
theorem te_ok {k : Int} {α : Type} {a : α} : TE k (.ok a) := fun m e s _ h => by cases h
theorem te_er {k : Int} {α : Type} {e : Int} (hk : 0 ≤ k) : TE k (α := α) (.er e) := fun m b s h0 h => by cases h; exact ⟨by omega, h0⟩
theorem te_mono {j k : Int} {α : Type} {x : X α} (h : TE j x) (hk : j ≤ k) : TE k x := fun m a s h0 e => by
 have := h m a s h0 e
 exact ⟨by omega, this.2⟩
theorem te_bind {k : Int} {α β : Type} {x : X α} {f : α → X β} (hx : TE k x) (tx : TQ 0 x) (hf : ∀ a, TE k (f a)) : TE k (x.bind f) := by
 intro m b s h0 h
 unfold X.bind at h
 cases hr : x m with
 | er e t => rw [hr] at h; cases h; exact hx m _ _ h0 hr
 | ok a t =>
  rw [hr] at h
  obtain ⟨h1, h2, h3, h4⟩ := tx m a t h0 hr
  have := hf a t b s h3 h
  exact ⟨by omega, this.2⟩
theorem te_ite {k : Int} {α : Type} {c : Prop} [Decidable c] {x y : X α} (h1 : TE k x) (h2 : TE k y) : TE k (if c then x else y) := by
 split
 ·exact h1
 ·exact h2
theorem te_bool {k : Int} (hk : 0 ≤ k) {r : X Val} (h : TE k r) (t : TQ 0 r) : TE k (boolX r) := te_bind h t fun _ => te_ite te_ok (te_er hk)
theorem te_list {k : Int} {r : Exp → X Val} (h : ∀ e, TE k (r e)) (t : ∀ e, TQ 0 (r e)) : ∀ l, TE k (listX r l)
 | [] => te_ok
 | e :: l => te_bind (h e) (t e) fun _ => te_bind (te_list h t l) (tq_list t l) fun _ => te_ok
theorem te_enter {p : List Mod} {r : Ev} {a : Int} {f : Fun} {l : List Val} (hr : ∀ o ns vs e, TE 0 (r o ns vs e)) : TE 1 (enterX p r a f l) := by
 intro m v s h0 h
 rw [enterX_eq] at h
 have hm : mu (entM p a f l m) ≤ mu m + 1 := by
  simp only [mu, entM]
  split
  ·simp; omega
  ·omega
 split at h
 ·unfold X.bind at h
  cases hr' : r a (f.params.map (·.1)) l f.body (entM p a f l m) with
  | er e t =>
   rw [hr'] at h
   cases h
   have := hr _ _ _ _ (entM p a f l m) _ _ h0 hr'
   exact ⟨by omega, this.2⟩
  | ok b t =>
   rw [hr'] at h
   cases h
 ·cases h
  exact ⟨by omega, h0⟩
theorem te_step {p : List Mod} {r : Ev} (hr : ∀ o ns vs e, TE 0 (r o ns vs e)) (tr : ∀ o ns vs e, TQ 0 (r o ns vs e)) (o : Int) (ns : List Str) (vs : List Val) (e : Exp) : TE 0 (stepX p r o ns vs e) := by
 have tick : ∀ y : X Val, TE 1 y → TE 0 (tickX y) := fun y hy m a s h0 h => by
  unfold tickX X.get at h
  by_cases hf : m.fuel ≤ 0
  ·simp only [hf, if_true] at h; cases h; exact ⟨by omega, h0⟩
  ·simp only [hf, if_false] at h
   have h1 := hy { m with fuel := m.fuel - 1 } a s (by simp only; omega) h
   simp only [mu] at h1 ⊢
   exact ⟨by omega, h1.2⟩
 have H := fun e => te_mono (hr o ns vs e) (show (0 : Int) ≤ 1 by omega)
 have T := fun e => tr o ns vs e
 have ok1 : ∀ (α : Type) (a : α), TE 1 (.ok a) := fun _ _ => te_ok
 have er1 : ∀ (α : Type) e, TE 1 (α := α) (.er e) := fun _ _ => te_er (by omega)
 have B := fun e => te_bool (by omega) (H e) (T e)
 refine tick _ ?_
 refine te_ite (er1 _ _) (te_ite (ok1 _ _) (te_ite (te_ite (ok1 _ _) (er1 _ _)) (te_ite ?_ (te_ite ?_ (te_ite ?_ (te_ite ?_ (te_ite ?_ (te_ite ?_ (te_ite ?_ (te_ite ?_ (te_ite ?_ (te_ite ?_ ?_))))))))))))
 ·split
  ·exact ok1 _ _
  ·exact er1 _ _
 ·refine te_bind (H _) (T _) fun a => te_bind (H _) (T _) fun b => ?_
  unfold binX
  exact te_ite (te_ite (ok1 _ _) (er1 _ _)) (te_ite (te_ite (ok1 _ _) (te_ite (ok1 _ _) (te_ite (ok1 _ _) (ok1 _ _)))) (er1 _ _))
 ·exact te_bind (B _) (tq_bool (T _)) fun a => te_ite (ok1 _ _) (te_bind (B _) (tq_bool (T _)) fun b => ok1 _ _)
 ·exact te_bind (B _) (tq_bool (T _)) fun a => ok1 _ _
 ·exact te_bind (B _) (tq_bool (T _)) fun a => te_ite (H _) (H _)
 ·exact te_bind (H _) (T _) fun v => te_mono (hr _ _ _ _) (by omega)
 ·unfold recordX
  exact te_ite (te_ite (te_bind (te_list H T _) (tq_list T _) fun vs => te_ite (ok1 _ _) (er1 _ _)) (er1 _ _)) (er1 _ _)
 ·refine te_bind (H _) (T _) fun v => ?_
  split
  ·exact te_ite (ok1 _ _) (er1 _ _)
  ·exact er1 _ _
 ·unfold callX
  simp only
  split
  ·exact er1 _ _
  ·exact te_ite (te_ite (te_bind (te_list H T _) (tq_list T _) fun l => te_enter hr) (er1 _ _)) (er1 _ _)
 ·unfold actX
  refine te_bind (H _) (T _) fun v => te_ite (te_ite (fun m a s h0 h => ?_) (er1 _ _)) (er1 _ _)
  cases h
 ·unfold varX
  refine te_ite (er1 _ _) ?_
  simp only
  refine te_ite (er1 _ _) (te_ite (te_bind (H _) (T _) fun v m a s h0 h => ?_) fun m a s h0 h => ?_)
  ·cases h
  ·cases h
theorem te_eval {p : List Mod} : ∀ (n : Nat) (o : Int) (ns : List Str) (vs : List Val) (e : Exp), TE 0 (evalX p n o ns vs e)
 | 0, _, _, _, _ => te_er (by omega)
 | n + 1, o, ns, vs, e => te_step (fun o ns vs e => te_eval n o ns vs e) (fun o ns vs e => tq_eval n o ns vs e) o ns vs e
end Go.Av.Ap

/- Laws of evaluation: recorded calls have as many arguments as their functions parameters. No condition. -/
namespace Go.Av.Ap
def CallsB (B : Nat) (m : Ms) : Prop := ∀ c ∈ m.calls, c.args.length ≤ B
def CQ (B : Nat) {α : Type} (x : X α) (Q : α → Prop) : Prop := ∀ m, CallsB B m → CallsB B (x m).st ∧ ∀ a s, x m = .ok a s → Q a
variable {B : Nat}
theorem cq_ok {α : Type} {a : α} {Q : α → Prop} (h : Q a) : CQ B (.ok a) Q := fun m hm => ⟨hm, fun b s e => by cases e; exact h⟩
theorem cq_er {α : Type} {e : Int} {Q : α → Prop} : CQ B (.er e) Q := fun m hm => ⟨hm, fun b s e => by cases e⟩
theorem cq_bind {α β : Type} {x : X α} {f : α → X β} {Q : α → Prop} {R : β → Prop} (hx : CQ B x Q) (hf : ∀ a, Q a → CQ B (f a) R) : CQ B (x.bind f) R := by
 intro m hm
 obtain ⟨h1, h3⟩ := hx m hm
 cases hr : x m with
 | er e s =>
  rw [hr] at h1
  simp only [X.bind, hr]
  exact ⟨h1, fun b s e => by cases e⟩
 | ok a s =>
  rw [hr] at h1
  obtain ⟨g1, g3⟩ := hf a (h3 a s hr) s h1
  simp only [X.bind, hr]
  exact ⟨g1, g3⟩
theorem cq_ite {α : Type} {c : Prop} [Decidable c] {x y : X α} {Q : α → Prop} (h1 : c → CQ B x Q) (h2 : ¬ c → CQ B y Q) : CQ B (if c then x else y) Q := by
 split
 ·exact h1 ‹_›
 ·exact h2 ‹_›
abbrev Tr {α : Type} : α → Prop := fun _ => True
theorem cq_bool {r : X Val} (h : CQ B r Tr) : CQ B (boolX r) Tr := cq_bind h fun _ _ => cq_ite (fun _ => cq_ok trivial) (fun _ => cq_er)
theorem cq_list {r : Exp → X Val} (h : ∀ e, CQ B (r e) Tr) : ∀ l, CQ B (listX r l) fun vs => vs.length = l.length
 | [] => cq_ok rfl
 | e :: l => cq_bind (h e) fun v _ => cq_bind (cq_list h l) fun vs hvs => cq_ok (by simp [hvs])
theorem cq_enter {p : List Mod} {r : Ev} {a : Int} {f : Fun} {l : List Val} (hr : ∀ o ns vs e, CQ B (r o ns vs e) Tr) (hl : l.length ≤ B) : CQ B (enterX p r a f l) Tr := by
 intro m hm
 rw [enterX_eq]
 split
 ·have hb : CQ B ((r a (f.params.map (·.1)) l f.body).bind fun v => .upd (fun m => { m with frames := m.frames - 1 }) (.ok v)) Tr :=
   cq_bind (hr _ _ _ _) fun _ _ m hm => ⟨hm, fun a s e => trivial⟩
  have hm' : CallsB B (entM p a f l m) := by
   intro c hc
   simp only [entM] at hc
   split at hc
   ·rcases List.mem_append.1 hc with h | h
    ·exact hm c h
    ·simp only [List.mem_singleton] at h
     subst h
     exact hl
   ·exact hm c hc
  exact hb _ hm'
 ·exact ⟨hm, fun _ _ e => by cases e⟩
theorem cq_step {p : List Mod} (hp : ∀ m ∈ p, ∀ f ∈ m.funcs, f.params.length ≤ B) {r : Ev} (hr : ∀ o ns vs e, CQ B (r o ns vs e) Tr) (o : Int) (ns : List Str) (vs : List Val) (e : Exp) : CQ B (stepX p r o ns vs e) Tr := by
 have tick : ∀ y : X Val, CQ B y Tr → CQ B (tickX y) Tr := fun y hy m hm => by
  unfold tickX X.get
  by_cases h : m.fuel ≤ 0
  ·simp only [h, if_true]; exact ⟨hm, fun _ _ e => by cases e⟩
  ·simp only [h, if_false]; exact hy { m with fuel := m.fuel - 1 } hm
 have H := fun e => hr o ns vs e
 have ok1 : ∀ (α : Type) (a : α), CQ B (.ok a) Tr := fun _ _ => cq_ok trivial
 refine tick _ ?_
 refine cq_ite (fun _ => cq_er) fun _ => cq_ite (fun _ => ok1 _ _) fun _ => cq_ite (fun _ => cq_ite (fun _ => ok1 _ _) fun _ => cq_er) fun _ => cq_ite (fun _ => ?_) fun _ =>
  cq_ite (fun _ => ?_) fun _ => cq_ite (fun _ => ?_) fun _ => cq_ite (fun _ => ?_) fun _ => cq_ite (fun _ => ?_) fun _ => cq_ite (fun _ => ?_) fun _ => cq_ite (fun _ => ?_) fun _ => cq_ite (fun _ => ?_) fun _ =>
  cq_ite (fun _ => ?_) fun _ => cq_ite (fun _ => ?_) fun _ => ?_
 ·split
  ·exact ok1 _ _
  ·exact cq_er
 ·refine cq_bind (H _) fun a ha => cq_bind (H _) fun b hb => ?_
  unfold binX
  exact cq_ite (fun _ => cq_ite (fun _ => ok1 _ _) fun _ => cq_er) fun _ => cq_ite (fun _ => cq_ite (fun _ => ok1 _ _) fun _ => cq_ite (fun _ => ok1 _ _) fun _ => cq_ite (fun _ => ok1 _ _) fun _ => ok1 _ _) fun _ => cq_er
 ·exact cq_bind (cq_bool (H _)) fun a _ => cq_ite (fun _ => ok1 _ _) fun _ => cq_bind (cq_bool (H _)) fun b _ => ok1 _ _
 ·exact cq_bind (cq_bool (H _)) fun a _ => ok1 _ _
 ·exact cq_bind (cq_bool (H _)) fun a _ => cq_ite (fun _ => H _) fun _ => H _
 ·exact cq_bind (H _) fun v hv => hr _ _ _ _
 ·unfold recordX
  exact cq_ite (fun h1 => cq_ite (fun h2 => cq_bind (cq_list H _) fun vs hvs => cq_ite (fun h3 => ok1 _ _) fun _ => cq_er) fun _ => cq_er) fun _ => cq_er
 ·refine cq_bind (H _) fun v hv => ?_
  split
  ·exact cq_ite (fun _ => ok1 _ _) fun _ => cq_er
  ·exact cq_er
 ·unfold callX
  simp only
  split
  ·exact cq_er
  ·rename_i f hf
   obtain ⟨h1, h2, h3⟩ := funcX_some hf
   refine cq_ite (fun _ => cq_ite (fun h4 => cq_bind (cq_list H _) fun l hl => cq_enter hr ?_) fun _ => cq_er) fun _ => cq_er
   rw [List.getElem?_eq_getElem h2] at h3
   have := hp _ (List.getElem_mem h2) f h3
   omega
 ·unfold actX
  exact cq_bind (H _) fun v hv => cq_ite (fun _ => cq_ite (fun _ m hm => ⟨hm, fun a s e => trivial⟩) fun _ => cq_er) fun _ => cq_er
 ·unfold varX
  refine cq_ite (fun _ => cq_er) fun ho => ?_
  simp only
  exact cq_ite (fun _ => cq_er) fun hi => cq_ite (fun _ => cq_bind (H _) fun v hv m hm => ⟨hm, fun a s e => trivial⟩) fun _ m hm => ⟨hm, fun a s e => trivial⟩
theorem cq_eval {p : List Mod} (hp : ∀ m ∈ p, ∀ f ∈ m.funcs, f.params.length ≤ B) : ∀ (n : Nat) (o : Int) (ns : List Str) (vs : List Val) (e : Exp), CQ B (evalX p n o ns vs e) Tr
 | 0, _, _, _, _ => cq_er
 | n + 1, o, ns, vs, e => cq_step hp (fun o ns vs e => cq_eval hp n o ns vs e) o ns vs e
end Go.Av.Ap

/- How much an outcome holds. No condition. -/
namespace Go.Av.Ap
structure OutB (B n : Nat) (o : Out) : Prop where
 deeds : o.deeds.length ≤ 100002
 calls : o.calls.length ≤ 100002
 args : ∀ c ∈ o.calls, c.args.length ≤ B
 state : o.state.length ≤ n
 vals : ∀ x ∈ o.state, x.values.length ≤ B
theorem outB_errO (B n : Nat) (e : Int) : OutB B n (errO e) := ⟨Nat.zero_le _, Nat.zero_le _, fun c hc => (by cases hc), Nat.zero_le _, fun c hc => (by cases hc)⟩
theorem from_lim {B : Nat} (p : List Mod) (st : List Vars) (module fn : Str) (args : List Val) (world : List Int) (fuel : Int) (hp : ∀ m ∈ p, m.vars.length ≤ B ∧ ∀ f ∈ m.funcs, f.params.length ≤ B) : OutB B p.length (fromX p st module fn args world fuel) := by
 by_cases h0 : 0 ≤ fuel ∧ fuel ≤ 100000
 ·rcases from_cases p st module fn args with ⟨e, he, h⟩ | ⟨a, f, hf, ha, hl, hargs, hv, hb, h⟩
  ·rw [h world fuel h0.1 h0.2]; exact outB_errO _ _ e
  ·rw [h world fuel h0.1 h0.2]
   obtain ⟨b1, b2, b3⟩ := belongs_right hb
   have hfp : f.params.length ≤ B := by
    rw [List.getElem?_eq_getElem hl] at hf
    exact (hp _ (List.getElem_mem hl)).2 f hf
   obtain ⟨_, q2, _⟩ := enter_right (p := p) (a := a) (n := 100000) hargs hv (startM world fuel (st.map (·.values))) ⟨fun l hl v hv => by
    simp only [startM, List.mem_map] at hl
    obtain ⟨x, hx, rfl⟩ := hl
    exact b2 x hx v hv, fun c hc => by simp [startM] at hc⟩
   have hmu : mu (enterX p (evalX p 100000) a f args (startM world fuel (st.map (·.values)))).st ≤ fuel + 1 ∧ 0 ≤ fuel := by
    refine ⟨?_, h0.1⟩
    have e0 : mu (startM world fuel (st.map (·.values))) = fuel := by simp [mu, startM]
    cases hr : enterX p (evalX p 100000) a f args (startM world fuel (st.map (·.values))) with
    | ok v s =>
     have := (tq_enter (fun o ns vs e => tq_eval 100000 o ns vs e) _ v s h0.1 hr).1
     rw [e0] at this
     exact this
    | er e s =>
     have := (te_enter (fun o ns vs e => te_eval 100000 o ns vs e) _ e s h0.1 hr).1
     rw [e0] at this
     exact this
   have hfu : 0 ≤ (enterX p (evalX p 100000) a f args (startM world fuel (st.map (·.values)))).st.fuel := by
    cases hr : enterX p (evalX p 100000) a f args (startM world fuel (st.map (·.values))) with
    | ok v s => exact (tq_enter (fun o ns vs e => tq_eval 100000 o ns vs e) _ v s h0.1 hr).2.2.1
    | er e s => exact (te_enter (fun o ns vs e => te_eval 100000 o ns vs e) _ e s h0.1 hr).2
   have hc := (cq_enter (p := p) (B := B) (a := a) (f := f) (l := args) (cq_eval (p := p) (fun m hm => (hp m hm).2) 100000) (by omega) (startM world fuel (st.map (·.values))) (fun c hc => by simp [startM] at hc)).1
   generalize enterX p (evalX p 100000) a f args (startM world fuel (st.map (·.values))) = r at *
   simp only [mu] at hmu
   refine ⟨by rw [outOf_deeds]; omega, by rw [outOf_calls]; omega, by rw [outOf_calls]; exact hc, ?_, fun x hx => ?_⟩
   ·rw [outOf_state, List.length_zipWith]
    simp
    omega
   ·rw [outOf_state] at hx
    have := zip_state_mem hx
    have hs : shapeM r.st = p.map (fun m => m.vars.length) := by
     rw [q2]
     refine List.ext_getElem? fun i => ?_
     simp only [shapeM, startM, List.getElem?_map, Option.map_map]
     cases hi : st[i]? with
     | none =>
      have : p[i]? = none := by
       rw [List.getElem?_eq_none_iff] at hi ⊢
       omega
      rw [this]; rfl
     | some x =>
      have hlt := (List.getElem?_eq_some_iff.1 hi).1
      have hpi : p[i]? = some (p[i]'(by omega)) := List.getElem?_eq_getElem _
      rw [hpi]
      have := (b3 i _ x hpi hi).2
      simp [this]
    have h1 : x.values.length ∈ shapeM r.st := List.mem_map.2 ⟨_, this, rfl⟩
    rw [hs] at h1
    obtain ⟨m, hm, he⟩ := List.mem_map.1 h1
    have := (hp m hm).1
    omega
 ·unfold fromX
  split
  ·exact outB_errO _ _ _
  ·rw [if_pos (by omega)]
   exact outB_errO _ _ _
theorem run_lim {B : Nat} (p : List Mod) (module fn : Str) (args : List Val) (world : List Int) (fuel : Int) (hp : ∀ m ∈ p, m.vars.length ≤ B ∧ ∀ f ∈ m.funcs, f.params.length ≤ B) : OutB B p.length (runX p module fn args world fuel) := by
 unfold runX
 split
 ·exact outB_errO _ _ _
 ·exact from_lim _ _ _ _ _ _ _ hp
end Go.Av.Ap
