/- The reference: Find, before, put. No condition. -/
import Derived.Test.YtpnonheegflllaaTp12
import Derived.Test.YtpnonheegflllaaLd
namespace Go.Proofs.Ytpnonheegflllaa
open Go Go.Av Go.Av.Ap
set_option maxRecDepth 100000
theorem t48 (a b : Ref) : callW pg 48 [refA a, refA b] = M.pure (.bool (ltR a b)) := by
  rw [C48]
  unfold ltR
  simp [S48]
def findA (o : Option Fun) : AV := .tup [(o.getD zeroF).av, .bool o.isSome]
theorem zbuild : buildA T false 48 [] = some zeroF.av := rfl
theorem nilFun (g : Fun) : cellsNil 12 [] g.av = M.pure g.av := by rw [cellsNil_of (okEl_fun g), acells_fun, fold_fun]
theorem loopF0 (r : Ref) (l : List Fun) (hl : l.length ≤ 1000000) (b3 b4 b5 b6 b7 b8 b9 b10 b11 b12 b13 b14 : AV) : ∀ (n j : Nat), l.length - j = n → j ≤ l.length →
    fixW (L27_0 (callW pg) fixW) [.ip [.str r.1, .str r.2], funs l, .int .i64 j, b3, b4, b5, b6, b7, b8, b9, b10, b11, b12, b13, b14] = M.pure (findA ((l.drop j).find? fun f => f.name == r.2)) := by
  intro n
  induction n with
  | zero =>
    intro j hn hj
    have h1 : ¬ j < l.length := by omega
    have h2 : l.drop j = [] := List.drop_eq_nil_of_le (by omega)
    rw [FL27_0]
    simp only [L27_0, h2]
    simp [h1, zbuild, nilFun, findA]
  | succ n ih =>
    intro j hn hj
    have hlt : j < l.length := by omega
    have h4 := ih (j + 1) (by omega) (by omega)
    have h4' : fixW (L27_0 (callW pg) fixW) [.ip [.str r.1, .str r.2], funs l, .int .i64 ((j : Int) + 1), b3, b4, b5, b6, b7, b8, b9, b10, b11, b12, b13, b14] = _ := h4
    have h5 : l.drop j = l[j] :: l.drop (j + 1) := List.drop_eq_getElem_cons hlt
    rw [FL27_0]
    simp only [L27_0, h5, List.find?_cons]
    by_cases he : l[j].name = r.2
    · have he' : (l[j].name == r.2) = true := beq_iff_eq.2 he
      simp (disch := omega) [hlt, IX38, getElem!_pos l j hlt, wrap_in, he', nilFun, findA]
    · have he' : (l[j].name == r.2) = false := beq_eq_false_iff_ne.2 he
      simp (disch := omega) [hlt, IX38, getElem!_pos l j hlt, wrap_in, he, he', h4']
theorem loopF1 {p : List Mod} (S : Sm p) (r : Ref) (b3 b4 b5 b6 b7 b8 b9 b10 b11 b12 b13 b14 : AV) : ∀ (n i : Nat), p.length - i = n → i ≤ p.length →
    fixW (L27_1 (callW pg) fixW) [mods p, .ip [.str r.1, .str r.2], .int .i64 i, b3, b4, b5, b6, b7, b8, b9, b10, b11, b12, b13, b14] = M.pure (findA (findR (p.drop i) r)) := by
  have hpl := S.len
  have hlenM : lenA T 22 (mods p) = some (.int .i64 p.length) := by simp [mods]
  intro n
  induction n with
  | zero =>
    intro i hn hi
    have h1 : ¬ i < p.length := by omega
    have h2 : p.drop i = [] := List.drop_eq_nil_of_le (by omega)
    rw [FL27_1]
    simp only [L27_1, h2]
    simp [hlenM, h1, zbuild, nilFun, findA, findR]
  | succ n ih =>
    intro i hn hi
    have hlt : i < p.length := by omega
    have h4 := ih (i + 1) (by omega) (by omega)
    have h4' : fixW (L27_1 (callW pg) fixW) [mods p, .ip [.str r.1, .str r.2], .int .i64 ((i : Int) + 1), b3, b4, b5, b6, b7, b8, b9, b10, b11, b12, b13, b14] = _ := h4
    have h5 : p.drop i = p[i] :: p.drop (i + 1) := List.drop_eq_getElem_cons hlt
    have h6 := loopF0 r p[i].funcs (S.funcs _ (List.getElem_mem hlt)) b3 b4 b5 b6 b7 b8 b9 b10 b11 b12 b13 b14 _ 0 rfl (by omega)
    simp only [List.drop_zero] at h6
    have h6' : fixW (L27_0 (callW pg) fixW) [.ip [.str r.1, .str r.2], funs p[i].funcs, .int .i64 0, b3, b4, b5, b6, b7, b8, b9, b10, b11, b12, b13, b14] = _ := h6
    rw [FL27_1]
    simp only [L27_1, h5]
    by_cases he : p[i].name = r.1
    · have hf : findR (p[i] :: p.drop (i + 1)) r = p[i].funcs.find? fun f => f.name == r.2 := by unfold findR; rw [List.find?_cons_of_pos (by simp [he])]
      rw [hf]
      simp (disch := omega) [hlenM, hlt, IX22, getElem!_pos p i hlt, wrap_in, he, h6']
    · have hf : findR (p[i] :: p.drop (i + 1)) r = findR (p.drop (i + 1)) r := by unfold findR; rw [List.find?_cons_of_neg (by simp [he])]
      have he' : (p[i].name == r.1) = false := beq_eq_false_iff_ne.2 he
      rw [hf]
      simp (disch := omega) [hlenM, hlt, IX22, getElem!_pos p i hlt, wrap_in, he, he', h4']
theorem t27 {p : List Mod} (S : Sm p) (r : Ref) : callW pg 27 [mods p, refA r] = M.pure (findA (findR p r)) := by
  rw [C27]
  have h := loopF1 S r (.str []) (.bool false) (.sl []) (.int .i64 0) (.sl []) (.int .i64 0) (.int .i64 0) (.int .i64 0) (.str []) (.str []) (.sl []) (.sl []) _ 0 rfl (by omega)
  simp only [List.drop_zero] at h
  have h' : fixW (L27_1 (callW pg) fixW) [mods p, .ip [.str r.1, .str r.2], .int .i64 0, .str [], .bool false, .sl [], .int .i64 0, .sl [], .int .i64 0, .int .i64 0, .int .i64 0, .str [], .str [], .sl [], .sl []] = _ := h
  simp only [cl_mods, cl_ref, S27, acells_ref]
  rw [h']
  exact isoP_pure (fun g => by simp [findA, cl, cls])
theorem put_split (r : Ref) : ∀ l : List Ref, ∀ k, (∀ i (h : i < k) (hl : i < l.length), ltR l[i] r = true) → k ≤ l.length → (k < l.length → ∀ h : k < l.length, ltR l[k] r = false) →
    putL l r = l.take k ++ r :: (if h : k < l.length then (if l[k] = r then l.drop (k + 1) else l.drop k) else [])
  | [], k, _, hk, _ => by
    obtain rfl : k = 0 := by simpa using hk
    rfl
  | x :: l, 0, _, _, h2 => by
    have := h2 (by simp) (by simp)
    simp only [List.getElem_cons_zero] at this
    simp only [putL, this, Bool.false_eq_true, if_false]
    simp
    split <;> rfl
  | x :: l, k + 1, h1, hk, h2 => by
    have h0 := h1 0 (by omega) (by simp)
    simp only [List.getElem_cons_zero] at h0
    have := put_split r l k (fun i hi hl => by have := h1 (i + 1) (by omega) (by simpa using hl); simpa using this) (by simpa using hk) (fun hlt h => by have := h2 (by simpa using hlt) (by simpa using hlt); simpa using this)
    simp only [putL, h0, if_true, this]
    simp
end Go.Proofs.Ytpnonheegflllaa
