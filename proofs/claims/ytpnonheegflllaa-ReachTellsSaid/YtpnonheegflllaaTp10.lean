/- Has, Same, the example. No condition. -/
import Derived.Test.YtpnonheegflllaaTp8
import Derived.KernelRfl
namespace Go.Proofs.Ytpnonheegflllaa
open Go Go.Av Go.Av.Ap
set_option maxRecDepth 100000
theorem loop19 (l : List Ref) (r : Ref) (hb : l.length ≤ 40000000) : ∀ (n : Nat) (i : Int), l.length - i.toNat = n → 0 ≤ i → i ≤ l.length → fixW (L19_0 (callW pg) fixW) [refsA l, .ip [.str r.1, .str r.2], .int .i64 i] = M.pure (.bool (decide (r ∈ l.drop i.toNat))) := by
  intro n
  induction n with
  | zero =>
    intro i hn hi hl
    rw [FL19_0]
    simp only [L19_0]
    have h1 : ¬ (i < (l.length : Int)) := by omega
    have h2 : l.drop i.toNat = [] := List.drop_eq_nil_of_le (by omega)
    have h3 : lenA T 27 (refsA l) = some (.int .i64 l.length) := by simp [refsA]
    simp [h1, h2, h3]
  | succ n ih =>
    intro i hn hi hl
    have h1 : i < (l.length : Int) := by omega
    have hlt : i.toNat < l.length := by omega
    have h3 : lenA T 27 (refsA l) = some (.int .i64 l.length) := by simp [refsA]
    have h4 := ih (i + 1) (by omega) (by omega) (by omega)
    rw [show (i + 1).toNat = i.toNat + 1 by omega] at h4
    rw [FL19_0]
    simp only [L19_0]
    have h5 : (r ∈ l.drop i.toNat) ↔ (l[i.toNat] = r ∨ r ∈ l.drop (i.toNat + 1)) := by
      rw [List.drop_eq_getElem_cons hlt, List.mem_cons]
      exact ⟨fun h => h.imp Eq.symm id, fun h => h.imp Eq.symm id⟩
    simp (disch := omega) [h1, h3, wrap_in, IX27, h4, getElem!_pos l i.toNat hlt, binEq]
    simp only [h5]
    by_cases h6 : l[i.toNat] = r
    · simp [h6]
    · simp [h6]
theorem t19 (l : List Ref) (r : Ref) (hb : l.length ≤ 40000000) : callW pg 19 [refsA l, refA r] = M.pure (.bool (decide (r ∈ l))) := by
  rw [C19]
  have := loop19 l r hb l.length 0 rfl (by omega) (by omega)
  simp at this
  simp [S19, this]
theorem loop10 (a b : List Ref) (hab : a.length = b.length) (hb : a.length ≤ 40000000) : ∀ (n : Nat) (i : Int), a.length - i.toNat = n → 0 ≤ i → i ≤ a.length → fixW (L10_0 (callW pg) fixW) [refsA a, refsA b, .int .i64 i] = M.pure (.bool (decide (a.drop i.toNat = b.drop i.toNat))) := by
  intro n
  have h3 : ∀ l, lenA T 27 (refsA l) = some (.int .i64 l.length) := fun l => by simp [refsA]
  induction n with
  | zero =>
    intro i hn hi hl
    rw [FL10_0]
    simp only [L10_0]
    have h1 : ¬ (i < (a.length : Int)) := by omega
    have h2 : a.drop i.toNat = [] := List.drop_eq_nil_of_le (by omega)
    have h4 : b.drop i.toNat = [] := List.drop_eq_nil_of_le (by omega)
    simp [h1, h2, h3, h4]
  | succ n ih =>
    intro i hn hi hl
    have h1 : i < (a.length : Int) := by omega
    have hlt : i.toNat < a.length := by omega
    have hlb : i.toNat < b.length := by omega
    have h4 := ih (i + 1) (by omega) (by omega) (by omega)
    rw [show (i + 1).toNat = i.toNat + 1 by omega] at h4
    rw [FL10_0]
    simp only [L10_0]
    have h5 : (a.drop i.toNat = b.drop i.toNat) ↔ (a[i.toNat] = b[i.toNat] ∧ a.drop (i.toNat + 1) = b.drop (i.toNat + 1)) := by
      rw [List.drop_eq_getElem_cons hlt, List.drop_eq_getElem_cons hlb, List.cons.injEq]
    have h7 : i < (b.length : Int) := by omega
    simp (disch := omega) [h1, h3, wrap_in, IX27, h4, getElem!_pos a i.toNat hlt, getElem!_pos b i.toNat hlb, binNe]
    simp only [h5]
    by_cases h6 : a[i.toNat] = b[i.toNat]
    · simp [h6]
    · simp [h6]
theorem t10 (a b : List Ref) (hb : a.length ≤ 40000000) : callW pg 10 [refsA a, refsA b] = M.pure (.bool (decide (a = b))) := by
  have h3 : ∀ l, lenA T 27 (refsA l) = some (.int .i64 l.length) := fun l => by simp [refsA]
  rw [C10]
  by_cases hab : a.length = b.length
  · have := loop10 a b hab hb a.length 0 rfl (by omega) (by omega)
    simp at this
    have hc : (a.length : Int) = b.length := by omega
    simp [S10, h3, hc, this]
  · have hc : ¬ (a.length : Int) = b.length := by omega
    have hne : ¬ a = b := fun e => hab (by rw [e])
    simp [S10, h3, hab, hne]
def callX (m s : Str) : Exp := .mk 15 0 s m [] []
def exP (b : Bool) : List Mod :=
  [⟨[109], [], [], [], [⟨[102], b, [], .mk 0 [], 0, callX [] [103]⟩, ⟨[103], false, [], .mk 0 [], 0, .mk 3 0 [] [] [] [callX [] [102], .mk 16 2 [] [] [] [zeroE]]⟩], false, [], [], []⟩,
   ⟨[110], [[109]], [], [], [⟨[104], true, [], .mk 0 [], 0, callX [109] [102]⟩], false, [], [], []⟩]
theorem t38 (m s : Str) : callW pg 38 [.str m, .str s] = M.pure (callX m s).av := by
  rw [C38]
  exact isoP_pure (fun g => cl_exp g (callX m s))
theorem t20 (b : Bool) : callW pg 20 [.bool b] = M.pure (mods (exP b)) := by
  rw [C20]
  have h : S20 (callW pg) fixW (.bool b) = M.pure (mods (exP b)) := by
    simp only [S20, t38, noPan_pure, bnd_pure]
    rfl
  simp only [cl]
  rw [h]
  exact isoP_pure (fun g => cl_mods g _)
theorem lim_mk {o n : Int} {s m : Str} {ns : List Str} {es : List Exp} (h1 : ns.length ≤ 8796093022208) (h2 : es.length ≤ 140737488355328) (h3 : ∀ x ∈ es, x.Lim) : (Exp.mk o n s m ns es).Lim := fun k => by
  cases k with
  | zero => trivial
  | succ k => exact ⟨h1, h2, fun x hx => h3 x hx k⟩
theorem lim_zero : zeroE.Lim := lim_mk (by simp) (by simp) (fun x hx => by cases hx)
theorem lim_call (m s : Str) : (callX m s).Lim := lim_mk (by simp) (by simp) (fun x hx => by cases hx)
theorem body_lim {p : List Mod} (h : ∀ m ∈ p, ∀ f ∈ m.funcs, f.body.Lim) (r : Ref) : (bodyR p r).Lim := by
  unfold bodyR
  cases hf : findR p r with
  | none => exact lim_zero
  | some g =>
    unfold findR at hf
    split at hf
    · rename_i m hm
      exact h m (List.mem_of_find?_eq_some hm) g (List.mem_of_find?_eq_some hf)
    · cases hf
theorem sm_ex (b : Bool) : Sm (exP b) where
  len := by simp [exP]
  funcs := fun m hm => by
    simp only [exP, List.mem_cons, List.not_mem_nil, or_false] at hm
    rcases hm with rfl | rfl <;> simp
  idx := by cases b <;> decide
  body := body_lim (fun m hm f hf => by
    simp only [exP, List.mem_cons, List.not_mem_nil, or_false] at hm
    rcases hm with rfl | rfl
    · simp only [List.mem_cons, List.not_mem_nil, or_false] at hf
      rcases hf with rfl | rfl
      · exact lim_call _ _
      · refine lim_mk (by simp) (by simp) (fun x hx => ?_)
        simp only [List.mem_cons, List.not_mem_nil, or_false] at hx
        rcases hx with rfl | rfl
        · exact lim_call _ _
        · refine lim_mk (by simp) (by simp) (fun x hx => ?_)
          simp only [List.mem_cons, List.not_mem_nil, or_false] at hx
          subst hx
          exact lim_zero
    · simp only [List.mem_cons, List.not_mem_nil, or_false] at hf
      subst hf
      exact lim_call _ _)
abbrev rM : Ref := ([109], [102])
abbrev rG : Ref := ([109], [103])
abbrev rH : Ref := ([110], [104])
theorem ex1 : pathR (exP true) rH rG = some [rH, rM, rG] := by kernel_rfl
theorem ex2 : allL (exP true) rM = [rM, rG] := by kernel_rfl
theorem ex3 : effS (exP true) rM = 2#64 := by kernel_rfl
theorem ex4 : callL (exP false) rH = [] := by kernel_rfl
theorem ex5 : usersL (exP true) rG = [rM, rH] := by kernel_rfl
theorem ex6 : callL (exP true) rH = [rM] := by kernel_rfl
theorem st {α β : Type} {m : M α} {a : α} {f : α → M β} {r : M β} (e : m = M.pure a) (h : f a = r) : bnd m f = r := by rw [e, bnd_pure]; exact h
theorem lftE {x : Option AV} {a : AV} (e : x = some a) : lft x = M.pure a := by rw [e]; rfl
theorem np {α : Type} {m : M α} {a : α} (e : m = M.pure a) : noPan m = M.pure a := by rw [e]; rfl
theorem gE {m : M (List AV)} {r : M (List AV)} (e : m = r) : guardM (.bool true) true 1 m = r := by rw [← e]; rfl
theorem hBr (x y : Str) : buildA T false 24 [(0, .str x), (1, .str y)] = some (refA (x, y)) := rfl
theorem hB1r (x : Ref) : buildSliceA T 27 1 [(0, refA x)] = some (refsA [x]) := rfl
theorem hB2r (x y : Ref) : buildSliceA T 27 2 [(0, refA x), (1, refA y)] = some (refsA [x, y]) := rfl
theorem hB3r (x y z : Ref) : buildSliceA T 27 3 [(0, refA x), (1, refA y), (2, refA z)] = some (refsA [x, y, z]) := rfl
theorem hcmr (r : Ref) : cellsM 2 (refA r) = M.pure (refA r) := by rw [cellsM_of (okEl_ref _), acells_ref, fold_ref]
theorem hldr (r : Ref) : loadA T 24 (.ip (acells (refA r))) = some (refA r) := rfl
theorem small_S (call : FuncId → List AV → M AV) (P Q : AV) (x1 : call 20 [.bool true] = M.pure P) (x2 : call 20 [.bool false] = M.pure Q)
    (e1 : call 8 [P, refA rH, refA rG] = M.pure (.tup [refsA [rH, rM, rG], .bool true])) (e2 : call 13 [P, refA rM] = M.pure (refsA [rM, rG])) (e3 : call 15 [P, refA rM] = M.pure (sA 2#64))
    (e4 : call 11 [Q, refA rH] = M.pure (refsA [])) (e5 : call 17 [P, refA rG] = M.pure (refsA [rM, rH])) (e6 : call 11 [P, refA rH] = M.pure (refsA [rM]))
    (s1 : ∀ l : List Ref, l.length ≤ 9 → call 10 [refsA l, refsA l] = M.pure (.bool true)) : S6 call fixW = M.pure (.bool true) := by
  have h2 : binA T .eql 3 (sA 2#64) (.int .i64 2) = some (.bool true) := rfl
  have s1a := s1 [rM, rG] (by simp)
  have s2a := s1 [rH, rM, rG] (by simp)
  have s3a := s1 [rM, rH] (by simp)
  have s4a := s1 [rM] (by simp)
  clear s1
  unfold S6
  refine st (lftE (hBr _ _)) ?_
  refine st (hcmr _) ?_
  refine st (lftE (hBr _ _)) ?_
  refine st (hcmr _) ?_
  refine st (lftE (hBr _ _)) ?_
  refine st (hcmr _) ?_
  refine st x1 ?_
  refine st (lftE (hldr _)) ?_
  refine st (lftE (hldr _)) ?_
  refine st e1 ?_
  refine st (lftE rfl) ?_
  refine st (lftE rfl) ?_
  refine st (lftE (hldr _)) ?_
  refine st (np e2) ?_
  refine st (lftE (hldr _)) ?_
  refine st (lftE (hldr _)) ?_
  refine st (lftE (hB2r _ _)) ?_
  refine st (np s1a) ?_
  refine st (gE (st (lftE (hldr _)) (st (np e3) (st (lftE h2) rfl)))) ?_
  refine st (lftE rfl) ?_
  refine st (gE (st (np x2) (st (lftE (hldr _)) (st (np e4) (st (lftE rfl) (st (lftE rfl) rfl)))))) ?_
  refine st (lftE rfl) ?_
  refine st (gE rfl) ?_
  refine st (lftE rfl) ?_
  refine st (gE (st (lftE (hldr _)) (st (lftE (hldr _)) (st (lftE (hldr _)) (st (lftE (hB3r _ _ _)) (st (np s2a) rfl)))))) ?_
  refine st (lftE rfl) ?_
  refine st (gE (st (lftE (hldr _)) (st (np e5) (st (lftE (hldr _)) (st (lftE (hldr _)) (st (lftE (hB2r _ _)) (st (np s3a) rfl))))))) ?_
  refine st (lftE rfl) ?_
  refine st (gE (st (lftE (hldr _)) (st (np e6) (st (lftE (hldr _)) (st (lftE (hB1r _)) (st (np s4a) rfl)))))) ?_
  refine st (lftE rfl) ?_
  rfl
theorem t6 : callW pg 6 [] = M.pure (.bool true) := by
  rw [C6]
  have S1 := sm_ex true
  have S2 := sm_ex false
  have e1 := t8 S1 rH rG
  have e2 := t13 S1 rM
  have e3 := t15 S1 rM
  have e4 := t11 S2 rH
  have e5 := t17 S1 rG
  have e6 := t11 S1 rH
  rw [ex1] at e1
  rw [ex2] at e2
  rw [ex3] at e3
  rw [ex4] at e4
  rw [ex5] at e5
  rw [ex6] at e6
  rw [small_S (callW pg) _ _ (t20 true) (t20 false) e1 e2 e3 e4 e5 e6 (fun l hl => by rw [t10 l l (by omega)]; simp)]
  exact isoP_bool true
end Go.Proofs.Ytpnonheegflllaa
