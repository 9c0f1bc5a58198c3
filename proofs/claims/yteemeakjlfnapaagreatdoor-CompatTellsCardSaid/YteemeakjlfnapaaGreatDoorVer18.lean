/- What grows from a version to another one: the reference says the same. No condition. -/
import Derived.Test.YteemeakjlfnapaaGreatDoorLawCompatClaims
namespace Go.Proofs.YteemeakjlfnapaaGreatDoor
open Go Go.Av Go.Av.Ap
set_option maxRecDepth 100000
def ordI (a b : Int) : Int := if a < b then -1 else if b < a then 1 else 0
def or3 (a b c : Int) : Int := if a = 0 then (if b = 0 then c else b) else a
def vcmpF (v w : Vsn) : Int := or3 (ordI v.major w.major) (ordI v.minor w.minor) (ordI v.patch w.patch)
def in20 (x : Int) : Bool := decide (0 ≤ x) && decide (x ≤ 1048576)
def vrightF (v : Vsn) : Bool := in20 v.major && in20 v.minor && in20 v.patch
def bumpF (v w : Vsn) : Int := if vrightF v = true ∧ vrightF w = true ∧ vcmpF v w < 0 then (if v.major < w.major then 3 else if v.minor < w.minor then 2 else 1) else 0
theorem x151 (a b : Int) : callW pg 151 [.int .i64 a, .int .i64 b] = M.pure (.int .i64 (ordI a b)) := by
  have h : ∀ x : Int, callW pg 205 [.int .i64 x] = M.pure (.bool false) := fun x => by
    rw [C205]
    simp [S205, cl]
  rw [C151]
  unfold ordI
  by_cases h1 : a < b
  · simp [S151, cl, h, h1]
  · by_cases h2 : b < a <;> simp [S151, cl, h, h1, h2]
theorem x150 (a b c : Int) : callW pg 150 [ints [a, b, c]] = M.pure (.int .i64 (or3 a b c)) := by
  have h0 : indexAddrA T 196 (ints [a, b, c]) (.int .i64 0) = some (.ip [.int .i64 a]) := rfl
  have h1 : indexAddrA T 196 (ints [a, b, c]) (.int .i64 1) = some (.ip [.int .i64 b]) := rfl
  have h2 : indexAddrA T 196 (ints [a, b, c]) (.int .i64 2) = some (.ip [.int .i64 c]) := rfl
  have w0 : IntKind.i64.wrap 1 = 1 := rfl
  have w1 : IntKind.i64.wrap 2 = 2 := rfl
  have w2 : IntKind.i64.wrap 3 = 3 := rfl
  have e3 : fixW (L150_0 (callW pg) fixW) [.int .i64 0, ints [a, b, c], .int .i64 3, .int .i64 3] = M.pure (.int .i64 0) := by
    rw [FL150_0]; simp [L150_0]
  have e2 : fixW (L150_0 (callW pg) fixW) [.int .i64 0, ints [a, b, c], .int .i64 3, .int .i64 2] = M.pure (.int .i64 c) := by
    rw [FL150_0]
    cases h : (c != 0) with
    | false =>
      have : c = 0 := by simpa using h
      subst this
      simp [L150_0, h2, w2, e3]
    | true => simp [L150_0, h2, h]
  have e1 : fixW (L150_0 (callW pg) fixW) [.int .i64 0, ints [a, b, c], .int .i64 3, .int .i64 1] = M.pure (.int .i64 (if b = 0 then c else b)) := by
    rw [FL150_0]
    cases h : (b != 0) with
    | false =>
      have : b = 0 := by simpa using h
      subst this
      simp [L150_0, h1, w1, e2]
    | true =>
      have h' : ¬ b = 0 := by simpa using h
      simp [L150_0, h1, h, h']
  have e0 : fixW (L150_0 (callW pg) fixW) [.int .i64 0, ints [a, b, c], .int .i64 3, .int .i64 0] = M.pure (.int .i64 (or3 a b c)) := by
    rw [FL150_0]
    unfold or3
    cases h : (a != 0) with
    | false =>
      have : a = 0 := by simpa using h
      subst this
      simp [L150_0, h0, w0, e1]
    | true =>
      have h' : ¬ a = 0 := by simpa using h
      simp [L150_0, h0, h, h']
  rw [C150]
  simp [S150, e0]
theorem x79 (v w : Vsn) : callW pg 79 [v.av, w.av] = M.pure (.int .i64 (vcmpF v w)) := by
  have hb : ∀ a b c : Int, buildSliceA T 196 3 [(0, .int .i64 a), (1, .int .i64 b), (2, .int .i64 c)] = some (ints [a, b, c]) := fun a b c => rfl
  rw [C79]
  simp [S79, x151, hb, x150, vcmpF]
theorem minA3 (x y z : Int) : minsA false [.int .i64 x, .int .i64 y, .int .i64 z] = some (.int .i64 (min (min x y) z)) := by
  simp [minsA, minA]
  split <;> omega
theorem maxA3 (x y z : Int) : minsA true [.int .i64 x, .int .i64 y, .int .i64 z] = some (.int .i64 (max (max x y) z)) := by
  simp [minsA, minA]
  split <;> omega
theorem x78 (v : Vsn) : callW pg 78 [v.av] = M.pure (.bool (vrightF v)) := by
  rw [C78]
  have e : vrightF v = (decide (0 ≤ min (min v.major v.minor) v.patch) && decide (max (max v.major v.minor) v.patch ≤ 1048576)) := by
    unfold vrightF in20
    rw [Bool.eq_iff_iff]
    simp only [Bool.and_eq_true, decide_eq_true_eq]
    omega
  rw [e]
  simp [S78, minA3, maxA3]
theorem x28 (v w : Vsn) : callW pg 28 [v.av, w.av] = M.pure (.int .i64 (bumpF v w)) := by
  have h1 := x78 v
  have h2 := x78 w
  have h3 := x79 v w
  rw [C28]
  unfold bumpF
  cases ha : vrightF v with
  | false => rw [ha] at h1; simp [S28, h1]
  | true =>
    rw [ha] at h1
    cases hb : vrightF w with
    | false => rw [hb] at h2; simp [S28, h1, h2]
    | true =>
      rw [hb] at h2
      by_cases hc : 0 ≤ vcmpF v w
      · have hc' : ¬ vcmpF v w < 0 := by omega
        simp [S28, h1, h2, h3, hc, hc']
      · have hc' : vcmpF v w < 0 := by omega
        by_cases hp : v.major < w.major
        · simp [S28, h1, h2, h3, hc, hc', hp]
        · by_cases hq : v.minor < w.minor <;> simp [S28, h1, h2, h3, hc, hc', hp, hq]
theorem x198 (a b : Int) : callW pg 198 [.int .i64 a, .int .i64 b] = M.pure (.int .i64 (ordI a b)) := by
  rw [C198]
  unfold ordI
  by_cases h1 : a < b
  · simp [S198, h1]
  · by_cases h2 : b < a <;> simp [S198, h1, h2]
theorem ord_zero (a b : Int) : ordI a b = 0 ↔ a = b := by
  unfold ordI
  by_cases h1 : a < b <;> by_cases h2 : b < a <;> simp [h1, h2] <;> omega
theorem x145 (v w : Vsn) : callW pg 145 [v.av, w.av] = M.pure (.int .i64 (vcmpF v w)) := by
  rw [C145]
  unfold vcmpF or3
  simp only [ord_zero]
  by_cases h1 : v.major = w.major
  · by_cases h2 : v.minor = w.minor
    · simp [S145, h1, h2, x198]
    · have h2' : (v.minor != w.minor) = true := by simpa using h2
      simp [S145, h1, h2, h2', x198]
  · have h1' : (v.major != w.major) = true := by simpa using h1
    simp [S145, h1, h1', x198]
theorem x144 (v : Vsn) : callW pg 144 [v.av] = M.pure (.bool (vrightF v)) := by
  rw [C144]
  unfold vrightF in20
  by_cases a1 : 0 ≤ v.major
  · by_cases a2 : v.major ≤ 1048576
    · by_cases b1 : 0 ≤ v.minor
      · by_cases b2 : v.minor ≤ 1048576
        · by_cases c1 : 0 ≤ v.patch
          · by_cases c2 : v.patch ≤ 1048576 <;> simp [S144, a1, a2, b1, b2, c1, c2]
          · simp [S144, a1, a2, b1, b2, c1]
        · simp [S144, a1, a2, b1, b2]
      · simp [S144, a1, a2, b1]
    · simp [S144, a1, a2]
  · simp [S144, a1]
theorem x75 (v w : Vsn) : callW pg 75 [v.av, w.av] = M.pure (.int .i64 (bumpF v w)) := by
  have h1 := x144 v
  have h2 := x144 w
  have h3 := x145 v w
  rw [C75]
  unfold bumpF
  cases ha : vrightF v with
  | false => rw [ha] at h1; simp [S75, h1]
  | true =>
    rw [ha] at h1
    cases hb : vrightF w with
    | false => rw [hb] at h2; simp [S75, h1, h2]
    | true =>
      rw [hb] at h2
      by_cases hc : 0 ≤ vcmpF v w
      · have hc' : ¬ vcmpF v w < 0 := by omega
        simp [S75, h1, h2, h3, hc, hc']
      · have hc' : vcmpF v w < 0 := by omega
        by_cases hp : v.major = w.major
        · have hp' : ¬ v.major < w.major := by omega
          have hm : v.minor ≤ w.minor := by
            rcases Decidable.em (w.minor < v.minor) with g | g
            · exfalso
              have e1 : ordI v.major w.major = 0 := (ord_zero _ _).2 hp
              have e2 : ordI v.minor w.minor = 1 := by
                unfold ordI
                rw [if_neg (by omega), if_pos g]
              unfold vcmpF or3 at hc'
              rw [e1, e2] at hc'
              simp at hc'
            · omega
          have hp2 : (v.major != w.major) = false := by simp [hp]
          by_cases hq : v.minor = w.minor
          · have hq' : ¬ v.minor < w.minor := by omega
            have hq2 : (v.minor != w.minor) = false := by simp [hq]
            simp [S75, h1, h2, h3, hc, hc', hp', hp2, hq', hq2]
          · have hq' : v.minor < w.minor := by omega
            have hq2 : (v.minor != w.minor) = true := by simpa using hq
            simp [S75, h1, h2, h3, hc, hc', hp', hp2, hq', hq2]
        · have hp' : v.major < w.major := by
            unfold vcmpF or3 ordI at hc'
            by_cases g1 : v.major < w.major
            · exact g1
            · have g2 : w.major < v.major := by omega
              simp [g1, g2] at hc'
          have hp2 : (v.major != w.major) = true := by simpa using hp
          simp [S75, h1, h2, h3, hc, hc', hp', hp2]
theorem x25 (v w : Vsn) (c : Int) : callW pg 25 [v.av, w.av, .int .i64 c] = M.pure (.bool (decide (0 ≤ c) && decide (c ≤ 2) && decide (c < bumpF v w))) := t25 (x28 v w) c
theorem x26 (v w : Vsn) (c : Int) : callW pg 26 [v.av, w.av, .int .i64 c] = M.pure (.bool (decide (0 ≤ c) && decide (c ≤ 2) && decide (c < bumpF v w))) := by
  have h := x75 v w
  rw [C26]
  generalize bumpF v w = n at h ⊢
  by_cases h0 : c = 0
  · subst h0
    by_cases h1 : 1 ≤ n
    · have : 0 < n := by omega
      simp [S26, h, h1, this]
    · have : ¬ 0 < n := by omega
      simp [S26, h, h1, this]
  · have h0' : (c == 0) = false := beq_eq_false_iff_ne.2 h0
    by_cases h1 : c = 1
    · subst h1
      by_cases h2 : 2 ≤ n
      · have : 1 < n := by omega
        simp [S26, h, h2, this]
      · have : ¬ 1 < n := by omega
        simp [S26, h, h2, this]
    · have h1' : (c == 1) = false := beq_eq_false_iff_ne.2 h1
      by_cases h2 : c = 2
      · subst h2
        by_cases h3 : 3 ≤ n
        · have : 2 < n := by omega
          simp [S26, h, h3, this]
        · have : ¬ 2 < n := by omega
          simp [S26, h, h3, this]
      · have h2' : (c == 2) = false := beq_eq_false_iff_ne.2 h2
        have hf : (decide (0 ≤ c) && decide (c ≤ 2)) = false := by
          rw [← Bool.not_eq_true, Bool.and_eq_true, decide_eq_true_eq, decide_eq_true_eq]
          omega
        rw [hf]
        simp [S26, h, h0', h1', h2']
end Go.Proofs.YteemeakjlfnapaaGreatDoor
