/- What the functions on ranges compute: those that write nothing. No condition. -/
import Derived.Test.YtllapohmppeceaaGreatDoorShN
import Derived.Test.YtllapohmppeceaaGreatDoorOps
namespace Go.Proofs.YtllapohmppeceaaGreatDoor.N
open Go Go.Av Go.Av.Ap
theorem t52 (n : Int) : callW pg 52 [.int .i64 n] = M.pure (.bool false) := by
  rw [C52]
  simp [S52]
theorem t32 (a b : Int) : callW pg 32 [.int .i64 a, .int .i64 b] = M.pure (.int .i64 (ordI a b)) := by
  rw [C32]
  simp [S32, t52, ordI]
theorem loop31 (l : List Int) (hb : l.length ≤ 1099511627776) : ∀ (n : Nat) (i : Int), l.length - i.toNat = n → 0 ≤ i → i ≤ l.length →
    fixW (L31_0 (callW pg) fixW) [.int .i64 0, ints l, .int .i64 l.length, .int .i64 i] = M.pure (.int .i64 (orL (l.drop i.toNat))) := by
  intro n
  induction n with
  | zero =>
    intro i hn hi hl
    rw [FL31_0]
    simp only [L31_0]
    have h1 : ¬ (i < (l.length : Int)) := by omega
    have h2 : l.drop i.toNat = [] := List.drop_eq_nil_of_le (by omega)
    simp [h1, h2, orL]
  | succ n ih =>
    intro i hn hi hl
    have h1 : i < (l.length : Int) := by omega
    have hlt : i.toNat < l.length := by omega
    have h4 := ih (i + 1) (by omega) (by omega) (by omega)
    rw [show (i + 1).toNat = i.toNat + 1 by omega] at h4
    rw [FL31_0, List.drop_eq_getElem_cons hlt]
    simp only [L31_0, orL]
    simp (disch := omega) [h1, wrap_in, IX51, h4]
theorem t31 (l : List Int) (hb : l.length ≤ 1099511627776) : callW pg 31 [ints l] = M.pure (.int .i64 (orL l)) := by
  rw [C31]
  simp [S31, loop31 l hb l.length 0 rfl (by omega) (by omega)]
theorem t11 (v w : Ver) : callW pg 11 [v.av, w.av] = M.pure (.int .i64 (cmpV v w)) := by
  rw [C11]
  have hB : ∀ x y z : Int, buildSliceA T 51 3 [(0, .int .i64 x), (1, .int .i64 y), (2, .int .i64 z)] = some (ints [x, y, z]) := fun x y z => rfl
  simp [S11, t32, hB, t31]
  congr 2
  simp only [orL, cmpV, orI]
  by_cases h1 : ordI v.a w.a = 0 <;> by_cases h2 : ordI v.b w.b = 0 <;> by_cases h3 : ordI v.c w.c = 0 <;> simp [h1, h2, h3]
def emptyR (x : Rng) : Bool := decide (0 ≤ cmpV x.lo x.hi)
theorem t40 (x : Rng) : callW pg 40 [x.av] = M.pure (.bool (emptyR x)) := by
  rw [C40]
  simp [S40, t11, emptyR]
def inR (x : Rng) (v : Ver) : Bool := decide (cmpV x.lo v ≤ 0) && decide (cmpV v x.hi < 0)
theorem t37 (x : Rng) (v : Ver) : callW pg 37 [x.av, v.av] = M.pure (.bool (inR x v)) := by
  rw [C37]
  simp [S37, t11, inR]
theorem t36 (x : Rng) (v : Ver) : callW pg 36 [x.av, .ip (acells v.av)] = M.pure (.bool (inR x v)) := by
  rw [C36]
  simp [S36, t37, cl, cls]
theorem loop53 (f : AV) (q : Rng → Bool) (hf : ∀ x : Rng, callV (callW pg) f [x.av] = M.pure (.bool (q x))) (l : List Rng) (hb : l.length ≤ 1099511627776) : ∀ (n : Nat) (i : Int), l.length - i.toNat = n → 0 ≤ i → i ≤ l.length →
    fixW (L53_0 (callW pg) fixW) [rngs l, f, .int .i64 l.length, .int .i64 i] = M.pure (.int .i64 (idxAt q (l.drop i.toNat) i)) := by
  intro n
  induction n with
  | zero =>
    intro i hn hi hl
    rw [FL53_0]
    simp only [L53_0]
    have h1 : ¬ (i < (l.length : Int)) := by omega
    have h2 : l.drop i.toNat = [] := List.drop_eq_nil_of_le (by omega)
    simp [h1, h2, idxAt]
  | succ n ih =>
    intro i hn hi hl
    have h1 : i < (l.length : Int) := by omega
    have hlt : i.toNat < l.length := by omega
    have h4 := ih (i + 1) (by omega) (by omega) (by omega)
    rw [show (i + 1).toNat = i.toNat + 1 by omega] at h4
    have hld : ∀ (x : Rng), loadH T 40 (.ip (acells x.av)) = M.pure x.av := fun x => by funext h; rfl
    rw [FL53_0, List.drop_eq_getElem_cons hlt]
    simp only [L53_0, idxAt]
    simp (disch := omega) [h1, wrap_in, IX24, h4, hld, hf, getElem!_pos l i.toNat hlt, -acells_rng]
theorem t53 (f : AV) (q : Rng → Bool) (hf : ∀ x : Rng, callV (callW pg) f [x.av] = M.pure (.bool (q x))) (l : List Rng) (hb : l.length ≤ 1099511627776) : callW pg 53 [rngs l, f] = M.pure (.int .i64 (idxAt q l 0)) := by
  rw [C53]
  simp [S53, loop53 f q hf l hb l.length 0 rfl (by omega) (by omega)]
def hasL (l : List Rng) (v : Ver) : Bool := l.any fun x => inR x v
theorem t35 (l : List Rng) (v : Ver) (hb : l.length ≤ 1099511627776) : callW pg 35 [rngs l, .fn (.func 36) [] [.ip (acells v.av)]] = M.pure (.bool (hasL l v)) := by
  rw [C35]
  have h := t53 (.fn (.func 36) [] [.ip (acells v.av)]) (fun x => inR x v) (fun x => t36 x v) l hb
  simp only [acells_ver] at h
  simp [S35, cl, cls, h, hasL, idxAt_any]
theorem t17 (l : List Rng) (v : Ver) (hb : l.length ≤ 1099511627776) : callW pg 17 [rngs l, v.av] = M.pure (.bool (hasL l v)) := by
  rw [C17]
  have h := t35 l v hb
  simp only [acells_ver] at h
  simp [S17, h]
def maxV (v w : Ver) : Ver := if cmpV v w < 0 then w else v
def minV (v w : Ver) : Ver := if cmpV v w < 0 then v else w
theorem t46 (v w : Ver) : callW pg 46 [v.av, w.av] = M.pure (maxV v w).av := by
  rw [C46]
  unfold maxV
  by_cases h : cmpV v w < 0 <;> simp [S46, t11, h]
theorem t47 (v w : Ver) : callW pg 47 [v.av, w.av] = M.pure (minV v w).av := by
  rw [C47]
  unfold minV
  by_cases h : cmpV v w < 0 <;> simp [S47, t11, h]
end Go.Proofs.YtllapohmppeceaaGreatDoor.N
