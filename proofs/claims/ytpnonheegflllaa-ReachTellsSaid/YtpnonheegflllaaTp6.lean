/- Path. No condition. -/
import Derived.Test.YtpnonheegflllaaTp5
import Derived.Test.YtpnonheegflllaaLd
namespace Go.Proofs.Ytpnonheegflllaa
open Go Go.Av Go.Av.Ap
set_option maxRecDepth 100000
theorem ixH {l n : Nat} {i : Int} (h0 : 0 ≤ i) (h1 : i < n) : indexAddrA T 27 (.hs l 0 n 2 true) (.int .i64 i) = some (.hp l (i.toNat * 2)) := by
  show (if 0 ≤ i ∧ i < n then some (AV.hp l (0 + i.toNat * 2)) else none) = _
  rw [if_pos ⟨h0, h1⟩, Nat.zero_add]
theorem loadR {h : Hp} {l : Nat} {Q : List Ref} (hl : h[l]? = some (cellsR Q)) (i : Nat) (hi : i < Q.length) : loadH T 24 (.hp l (i * 2)) h = .ok (refA Q[i]) h := by
  rw [loadH_agg (T := T) (t := 24) (l := l) (k := i * 2) (cs := cellsR Q) (h := h) rfl rfl hl (by rw [cellsR_len]; show i * 2 + 2 ≤ _; omega)]
  show R.ok (AV.agg (((cellsR Q).drop (i * 2)).take 2)) h = _
  rw [cellsR_get Q i hi]
  rfl
theorem storeR {h : Hp} {l : Nat} {Q : List Ref} (hl : h[l]? = some (cellsR Q)) (i : Nat) (hi : i < Q.length) (r : Ref) : storeH T 24 (.hp l (i * 2)) (refA r) h = .ok (.tup []) (h.set l (cellsR (Q.set i r))) := by
  rw [storeH_ok (T := T) (t := 24) (l := l) (k := i * 2) (cs := cellsR Q) (v := refA r) (h := h) rfl hl rfl (by rw [cellsR_len]; show i * 2 + 2 ≤ _; omega) (by exact Nat.zero_lt_two)]
  show R.ok _ (h.set l (setCells (cellsR Q) (i * 2) [.str r.1, .str r.2])) = _
  rw [cellsR_set Q i hi]
theorem loop26 (P : List Ref) (hP : P.length ≤ 4000000) (l : Nat) : ∀ (n : Nat) (i j : Int) (Q : List Ref) (h : Hp), (j - i + 1).toNat = n → 0 ≤ i → i + j + 1 = P.length → RevTo P Q i.toNat → h[l]? = some (cellsR Q) →
    fixW (L26_0 (callW pg) fixW) [.hs l 0 P.length 2 true, .int .i64 i, .int .i64 j] h = .ok (.tup []) (h.set l (cellsR P.reverse)) := by
  intro n
  induction n using Nat.strongRecOn with
  | ind n IH =>
    intro i j Q h hn hi hij H hl
    rw [FL26_0]
    simp only [L26_0]
    by_cases hlt : i < j
    · have hQ := H.1
      have h2 := loadR hl j.toNat (by omega)
      have h3 := loadR hl i.toNat (by omega)
      have h4 := storeR hl i.toNat (by omega) Q[j.toNat]
      have hll : l < h.length := (List.getElem?_eq_some_iff.1 hl).1
      have h5 := storeR (h := h.set l (cellsR (Q.set i.toNat Q[j.toNat]))) (l := l) (Q := Q.set i.toNat Q[j.toNat]) (List.getElem?_set_self hll) j.toNat (by simp; omega) Q[i.toNat]
      rw [List.set_set] at h5
      have hs : (Q.set i.toNat Q[j.toNat]).set j.toNat Q[i.toNat] = swapL Q i.toNat j.toNat := by
        simp only [swapL, List.getElem?_eq_getElem (show j.toNat < Q.length by omega), List.getElem?_eq_getElem (show i.toNat < Q.length by omega), Option.getD_some]
      rw [hs] at h5
      have h6 := IH (j - 1 - (i + 1) + 1).toNat (by omega) (i + 1) (j - 1) (swapL Q i.toNat j.toNat) (h.set l (cellsR (swapL Q i.toNat j.toNat))) rfl (by omega) (by omega) (by
        rw [show (i + 1).toNat = i.toNat + 1 by omega]
        exact revTo_step H (by omega) (by omega)) (List.getElem?_set_self hll)
      rw [List.set_set] at h6
      simp (disch := omega) [hlt, ixH]
      rw [bnd_ok h2, bnd_ok h3, bnd_ok h4, bnd_ok h5, wrap_in (by omega) (by omega), wrap_in (by omega) (by omega)]
      exact h6
    · have := revTo_end H hi hij hlt
      subst this
      have hll : l < h.length := (List.getElem?_eq_some_iff.1 hl).1
      have hs : h.set l (cellsR P.reverse) = h := by
        obtain ⟨h3, h4⟩ := List.getElem?_eq_some_iff.1 hl
        rw [← h4]; simp
      rw [hs]
      simp [hlt]
      rfl
theorem t26 (P : List Ref) (hP : P.length ≤ 4000000) (l : Nat) (h : Hp) (hl : h[l]? = some (cellsR P)) : callW pg 26 [.hs l 0 P.length 2 true] h = .ok (.tup []) (h.set l (cellsR P.reverse)) := by
  rw [C26]
  have h1 := loop26 P hP l _ 0 (P.length - 1) P h rfl (by omega) (by omega) ⟨rfl, fun x hx => by rw [if_neg (by omega)]⟩ hl
  have h2 : lenA T 27 (.hs l 0 P.length 2 true) = some (.int .i64 P.length) := rfl
  simp only [S26, h2]
  simp (disch := omega) [wrap_in]
  exact h1
end Go.Proofs.Ytpnonheegflllaa
