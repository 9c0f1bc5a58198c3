/- What the functions on versions compute. No condition. -/
import Derived.Test.YtllapohmppeceaaGreatDoorSh0
import Derived.Test.YtllapohmppeceaaGreatDoorSh1
import Derived.Test.YtllapohmppeceaaGreatDoorOps
namespace Go.Proofs.YtllapohmppeceaaGreatDoor
open Go Go.Av Go.Av.Ap
def ordI (a b : Int) : Int := if a < b then -1 else if b < a then 1 else 0
def orI (x y : Int) : Int := if x ≠ 0 then x else y
def cmpV (v w : Ver) : Int := orI (ordI v.a w.a) (orI (ordI v.b w.b) (ordI v.c w.c))
theorem t52 (n : Int) : callW pg 52 [.int .i64 n] = M.pure (.bool false) := by
  rw [C52]
  simp [S52]
theorem t32 (a b : Int) : callW pg 32 [.int .i64 a, .int .i64 b] = M.pure (.int .i64 (ordI a b)) := by
  rw [C32]
  simp [S32, t52, ordI]
def orL : List Int → Int
  | [] => 0
  | x :: l => if x = 0 then orL l else x
theorem loop31 (l : List Int) (hb : l.length ≤ 1099511627776) : ∀ (n : Nat) (i : Int), l.length - i.toNat = n → 0 ≤ i → i ≤ l.length →
    fixW (L31_0 (callW pg) fixW) [.int .i64 0, ints l, .int .i64 l.length, .int .i64 i] = M.pure (.int .i64 (orL (l.drop i.toNat))) := by
  intro n
  induction n with
  | zero =>
    intro i hn hi hl
    rw [FL31_0]
    simp only [L31_0]
    have h1 : ¬ (i < (l.length : Int)) := by omega
    have h2 : l.drop i.toNat = [] := List.drop_eq_nil_of_le (by omega)
    simp [h1, h2, orL]
  | succ n ih =>
    intro i hn hi hl
    have h1 : i < (l.length : Int) := by omega
    have hlt : i.toNat < l.length := by omega
    have h4 := ih (i + 1) (by omega) (by omega) (by omega)
    rw [show (i + 1).toNat = i.toNat + 1 by omega] at h4
    rw [FL31_0, List.drop_eq_getElem_cons hlt]
    simp only [L31_0, orL]
    simp (disch := omega) [h1, wrap_in, IX51, h4]
theorem t31 (l : List Int) (hb : l.length ≤ 1099511627776) : callW pg 31 [ints l] = M.pure (.int .i64 (orL l)) := by
  rw [C31]
  simp [S31, loop31 l hb l.length 0 rfl (by omega) (by omega)]
theorem t11 (v w : Ver) : callW pg 11 [v.av, w.av] = M.pure (.int .i64 (cmpV v w)) := by
  rw [C11]
  have hB : ∀ x y z : Int, buildSliceA T 51 3 [(0, .int .i64 x), (1, .int .i64 y), (2, .int .i64 z)] = some (ints [x, y, z]) := fun x y z => rfl
  simp [S11, t32, hB, t31]
  congr 2
  simp only [orL, cmpV, orI]
  by_cases h1 : ordI v.a w.a = 0 <;> by_cases h2 : ordI v.b w.b = 0 <;> by_cases h3 : ordI v.c w.c = 0 <;> simp [h1, h2, h3]
def rightV (v : Ver) : Bool := decide (0 ≤ min (min v.a v.b) v.c) && decide (max (max v.a v.b) v.c ≤ 1048576)
theorem mins3 (b : Bool) (x y z : Int) : minsA b [.int .i64 x, .int .i64 y, .int .i64 z] = some (.int .i64 (if b = true then max (max x y) z else min (min x y) z)) := by
  have h := minsA_two b x y
  have h2 := fun u => minsA_two b u z
  unfold minsA at h ⊢
  cases b <;> simp_all [minA]
theorem t9 (v : Ver) : callW pg 9 [v.av] = M.pure (.bool (rightV v)) := by
  rw [C9]
  simp [S9, mins3, rightV]
def bumpV (v w : Ver) : Int := if (!rightV v || !rightV w || decide (0 ≤ cmpV v w)) = true then 0 else if v.a < w.a then 3 else if v.b < w.b then 2 else 1
theorem t15 (v w : Ver) : callW pg 15 [v.av, w.av] = M.pure (.int .i64 (bumpV v w)) := by
  rw [C15]
  simp [S15, t9, t11, bumpV]
end Go.Proofs.YtllapohmppeceaaGreatDoor
