/- What the functions on ranges compute: those that write nothing. No condition. -/
import Derived.Test.YtllapohmppeceaaDoorShN
import Derived.Test.YtllapohmppeceaaDoorOps
namespace Go.Proofs.YtllapohmppeceaaDoor.N
open Go Go.Av Go.Av.Ap
theorem t44 (n : Int) : callW pg 44 [.int .i64 n] = M.pure (.bool false) := by
  rw [C44]
  simp [S44]
theorem t28 (a b : Int) : callW pg 28 [.int .i64 a, .int .i64 b] = M.pure (.int .i64 (ordI a b)) := by
  rw [C28]
  simp [S28, t44, ordI]
theorem loop27 (l : List Int) (hb : l.length ≤ 1099511627776) : ∀ (n : Nat) (i : Int), l.length - i.toNat = n → 0 ≤ i → i ≤ l.length →
    fixW (L27_0 (callW pg) fixW) [.int .i64 0, ints l, .int .i64 l.length, .int .i64 i] = M.pure (.int .i64 (orL (l.drop i.toNat))) := by
  intro n
  induction n with
  | zero =>
    intro i hn hi hl
    rw [FL27_0]
    simp only [L27_0]
    have h1 : ¬ (i < (l.length : Int)) := by omega
    have h2 : l.drop i.toNat = [] := List.drop_eq_nil_of_le (by omega)
    simp [h1, h2, orL]
  | succ n ih =>
    intro i hn hi hl
    have h1 : i < (l.length : Int) := by omega
    have hlt : i.toNat < l.length := by omega
    have h4 := ih (i + 1) (by omega) (by omega) (by omega)
    rw [show (i + 1).toNat = i.toNat + 1 by omega] at h4
    rw [FL27_0, List.drop_eq_getElem_cons hlt]
    simp only [L27_0, orL]
    simp (disch := omega) [h1, wrap_in, IX67, h4]
theorem t27 (l : List Int) (hb : l.length ≤ 1099511627776) : callW pg 27 [ints l] = M.pure (.int .i64 (orL l)) := by
  rw [C27]
  simp [S27, loop27 l hb l.length 0 rfl (by omega) (by omega)]
theorem t12 (v w : Ver) : callW pg 12 [v.av, w.av] = M.pure (.int .i64 (cmpV v w)) := by
  rw [C12]
  have hB : ∀ x y z : Int, buildSliceA T 67 3 [(0, .int .i64 x), (1, .int .i64 y), (2, .int .i64 z)] = some (ints [x, y, z]) := fun x y z => rfl
  simp [S12, t28, hB, t27]
  congr 2
  simp only [orL, cmpV, orI]
  by_cases h1 : ordI v.a w.a = 0 <;> by_cases h2 : ordI v.b w.b = 0 <;> by_cases h3 : ordI v.c w.c = 0 <;> simp [h1, h2, h3]
def emptyR (x : Rng) : Bool := decide (0 ≤ cmpV x.lo x.hi)
theorem t31 (x : Rng) : callW pg 31 [x.av] = M.pure (.bool (emptyR x)) := by
  rw [C31]
  simp [S31, t12, emptyR]
/-- a range has a version -/
def inR (x : Rng) (v : Ver) : Bool := decide (cmpV x.lo v ≤ 0) && decide (cmpV v x.hi < 0)
theorem t39 (x : Rng) (v : Ver) : callW pg 39 [x.av, v.av] = M.pure (.bool (inR x v)) := by
  rw [C39]
  simp [S39, t12, inR]
theorem t38 (x : Rng) (v : Ver) : callW pg 38 [x.av, .ip (acells v.av)] = M.pure (.bool (inR x v)) := by
  rw [C38]
  simp [S38, t39, cl, cls]
theorem loop45 (f : AV) (q : Rng → Bool) (hf : ∀ x : Rng, callV (callW pg) f [x.av] = M.pure (.bool (q x))) (l : List Rng) (hb : l.length ≤ 1099511627776) : ∀ (n : Nat) (i : Int), l.length - i.toNat = n → 0 ≤ i → i ≤ l.length →
    fixW (L45_0 (callW pg) fixW) [rngs l, f, .int .i64 l.length, .int .i64 i] = M.pure (.int .i64 (idxAt q (l.drop i.toNat) i)) := by
  intro n
  induction n with
  | zero =>
    intro i hn hi hl
    rw [FL45_0]
    simp only [L45_0]
    have h1 : ¬ (i < (l.length : Int)) := by omega
    have h2 : l.drop i.toNat = [] := List.drop_eq_nil_of_le (by omega)
    simp [h1, h2, idxAt]
  | succ n ih =>
    intro i hn hi hl
    have h1 : i < (l.length : Int) := by omega
    have hlt : i.toNat < l.length := by omega
    have h4 := ih (i + 1) (by omega) (by omega) (by omega)
    rw [show (i + 1).toNat = i.toNat + 1 by omega] at h4
    have hld : ∀ (x : Rng), loadH T 38 (.ip (acells x.av)) = M.pure x.av := fun x => by funext h; rfl
    rw [FL45_0, List.drop_eq_getElem_cons hlt]
    simp only [L45_0, idxAt]
    simp (disch := omega) [h1, wrap_in, IX32, h4, hld, hf, getElem!_pos l i.toNat hlt, -acells_rng]
theorem t45 (f : AV) (q : Rng → Bool) (hf : ∀ x : Rng, callV (callW pg) f [x.av] = M.pure (.bool (q x))) (l : List Rng) (hb : l.length ≤ 1099511627776) : callW pg 45 [rngs l, f] = M.pure (.int .i64 (idxAt q l 0)) := by
  rw [C45]
  simp [S45, loop45 f q hf l hb l.length 0 rfl (by omega) (by omega)]
def hasL (l : List Rng) (v : Ver) : Bool := l.any fun x => inR x v
theorem t37 (l : List Rng) (v : Ver) (hb : l.length ≤ 1099511627776) : callW pg 37 [rngs l, .fn (.func 38) [] [.ip (acells v.av)]] = M.pure (.bool (hasL l v)) := by
  rw [C37]
  have h := t45 (.fn (.func 38) [] [.ip (acells v.av)]) (fun x => inR x v) (fun x => t38 x v) l hb
  simp only [acells_ver] at h
  simp [S37, cl, cls, h, hasL, idxAt_any]
theorem t18 (l : List Rng) (v : Ver) (hb : l.length ≤ 1099511627776) : callW pg 18 [rngs l, v.av] = M.pure (.bool (hasL l v)) := by
  rw [C18]
  have h := t37 l v hb
  simp only [acells_ver] at h
  simp [S18, h]
def maxV (v w : Ver) : Ver := if cmpV v w < 0 then w else v
def minV (v w : Ver) : Ver := if cmpV v w < 0 then v else w
theorem t35 (v w : Ver) : callW pg 35 [v.av, w.av] = M.pure (maxV v w).av := by
  rw [C35]
  unfold maxV
  by_cases h : cmpV v w < 0 <;> simp [S35, t12, h]
theorem t36 (v w : Ver) : callW pg 36 [v.av, w.av] = M.pure (minV v w).av := by
  rw [C36]
  unfold minV
  by_cases h : cmpV v w < 0 <;> simp [S36, t12, h]
end Go.Proofs.YtllapohmppeceaaDoor.N
