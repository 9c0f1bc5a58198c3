/- The law CompatClaims answers true. No condition. -/
import Derived.Test.YteemeakjlfnapaaGreatDoorFcT2
import Derived.Test.YteemeakjlfnapaaGreatDoorFcT3
import Derived.Test.YteemeakjlfnapaaGreatDoorSmall18
namespace Go.Proofs.YteemeakjlfnapaaGreatDoor
open Go Go.Av Go.Av.Ap
set_option maxRecDepth 100000
@[simp] theorem bool_eql (a b : Bool) : binA T .eql 4 (.bool a) (.bool b) = some (.bool (a == b)) := rfl
theorem ex151 (a b : Int) : ∃ r : Int, callW pg 151 [.int .i64 a, .int .i64 b] = M.pure (.int .i64 r) := by
  have h : ∀ x : Int, callW pg 205 [.int .i64 x] = M.pure (.bool false) := fun x => by
    rw [C205]
    simp [S205, cl]
  rw [C151]
  by_cases h1 : a < b
  · exact ⟨-1, by simp [S151, cl, h, h1]⟩
  · by_cases h2 : b < a
    · exact ⟨1, by simp [S151, cl, h, h1, h2]⟩
    · exact ⟨0, by simp [S151, cl, h, h1, h2]⟩
theorem ex150 (a b c : Int) : ∃ r : Int, callW pg 150 [ints [a, b, c]] = M.pure (.int .i64 r) := by
  have h0 : indexAddrA T 196 (ints [a, b, c]) (.int .i64 0) = some (.ip [.int .i64 a]) := rfl
  have h1 : indexAddrA T 196 (ints [a, b, c]) (.int .i64 1) = some (.ip [.int .i64 b]) := rfl
  have h2 : indexAddrA T 196 (ints [a, b, c]) (.int .i64 2) = some (.ip [.int .i64 c]) := rfl
  have w0 : IntKind.i64.wrap 1 = 1 := rfl
  have w1 : IntKind.i64.wrap 2 = 2 := rfl
  have w2 : IntKind.i64.wrap 3 = 3 := rfl
  have e3 : fixW (L150_0 (callW pg) fixW) [.int .i64 0, ints [a, b, c], .int .i64 3, .int .i64 3] = M.pure (.int .i64 0) := by
    rw [FL150_0]; simp [L150_0]
  have e2 : ∃ r : Int, fixW (L150_0 (callW pg) fixW) [.int .i64 0, ints [a, b, c], .int .i64 3, .int .i64 2] = M.pure (.int .i64 r) := by
    rw [FL150_0]
    cases h : (c != 0) with
    | false => exact ⟨0, by simp [L150_0, h2, h, w2, e3]⟩
    | true => exact ⟨c, by simp [L150_0, h2, h]⟩
  obtain ⟨r2, e2⟩ := e2
  have e1 : ∃ r : Int, fixW (L150_0 (callW pg) fixW) [.int .i64 0, ints [a, b, c], .int .i64 3, .int .i64 1] = M.pure (.int .i64 r) := by
    rw [FL150_0]
    cases h : (b != 0) with
    | false => exact ⟨r2, by simp [L150_0, h1, h, w1, e2]⟩
    | true => exact ⟨b, by simp [L150_0, h1, h]⟩
  obtain ⟨r1, e1⟩ := e1
  have e0 : ∃ r : Int, fixW (L150_0 (callW pg) fixW) [.int .i64 0, ints [a, b, c], .int .i64 3, .int .i64 0] = M.pure (.int .i64 r) := by
    rw [FL150_0]
    cases h : (a != 0) with
    | false => exact ⟨r1, by simp [L150_0, h0, h, w0, e1]⟩
    | true => exact ⟨a, by simp [L150_0, h0, h]⟩
  obtain ⟨r0, e0⟩ := e0
  refine ⟨r0, ?_⟩
  rw [C150]
  simp [S150, e0]
theorem mins3 (b : Bool) (x y z : Int) : ∃ r : Int, minsA b [.int .i64 x, .int .i64 y, .int .i64 z] = some (.int .i64 r) := by
  cases b <;> simp [minsA, minA]
theorem ex78 (v : Vsn) : ∃ b, callW pg 78 [v.av] = M.pure (.bool b) := by
  obtain ⟨r, h1⟩ := mins3 false v.major v.minor v.patch
  obtain ⟨q, h2⟩ := mins3 true v.major v.minor v.patch
  rw [C78]
  exact ⟨decide (0 ≤ r) && decide (q ≤ 1048576), by simp [S78, h1, h2]⟩
theorem ex79 (v w : Vsn) : ∃ r : Int, callW pg 79 [v.av, w.av] = M.pure (.int .i64 r) := by
  obtain ⟨a, h1⟩ := ex151 v.major w.major
  obtain ⟨b, h2⟩ := ex151 v.minor w.minor
  obtain ⟨c, h3⟩ := ex151 v.patch w.patch
  obtain ⟨r, h4⟩ := ex150 a b c
  have hb : buildSliceA T 196 3 [(0, .int .i64 a), (1, .int .i64 b), (2, .int .i64 c)] = some (ints [a, b, c]) := rfl
  rw [C79]
  exact ⟨r, by simp [S79, h1, h2, h3, hb, h4]⟩
theorem ex28 (v w : Vsn) : ∃ r : Int, callW pg 28 [v.av, w.av] = M.pure (.int .i64 r) := by
  obtain ⟨a, h1⟩ := ex78 v
  obtain ⟨b, h2⟩ := ex78 w
  obtain ⟨c, h3⟩ := ex79 v w
  rw [C28]
  have fin : ∀ (p q : Prop) [Decidable p] [Decidable q], ∃ r : Int, isoP (if p then M.pure (.int .i64 3) else if q then M.pure (.int .i64 2) else M.pure (.int .i64 1)) = M.pure (.int .i64 r) := by
    intro p q _ _
    by_cases hp : p
    · exact ⟨3, by simp [hp]⟩
    · by_cases hq : q
      · exact ⟨2, by simp [hp, hq]⟩
      · exact ⟨1, by simp [hp, hq]⟩
  cases a with
  | false => exact ⟨0, by simp [S28, h1]⟩
  | true =>
    cases b with
    | false => exact ⟨0, by simp [S28, h1, h2]⟩
    | true =>
      by_cases hc : 0 ≤ c
      · exact ⟨0, by simp [S28, h1, h2, h3, hc]⟩
      · obtain ⟨r, hr⟩ := fin (v.major < w.major) (v.minor < w.minor)
        exact ⟨r, by rw [← hr]; simp [S28, h1, h2, h3, hc]⟩
theorem t25 {v w : Vsn} {n : Int} (hn : callW pg 28 [v.av, w.av] = M.pure (.int .i64 n)) (c : Int) : callW pg 25 [v.av, w.av, .int .i64 c] = M.pure (.bool (decide (0 ≤ c) && decide (c ≤ 2) && decide (c < n))) := by
  rw [C25]
  by_cases h1 : 0 ≤ c
  · by_cases h2 : c ≤ 2
    · simp [S25, hn, h1, h2]
    · simp [S25, h1, h2]
  · simp [S25, h1]
theorem loop5 {v w : Vsn} {n : Int} (hn : callW pg 28 [v.av, w.av] = M.pure (.int .i64 n)) (a b : Face) (k0 : Int) (h0 : 0 ≤ k0) (h2 : k0 ≤ 2) (s : Str) (hc : callW pg 17 [a.av, b.av] = M.pure (.tup [.int .i64 k0, .str s])) : ∀ (m : Nat) (k : Int), 4 - k = m → -1 ≤ k → k ≤ 4 →
    fixW (L5_0 (callW pg) fixW) [.ip (acells v.av), .ip (acells w.av), .ip (acells a.av), .ip (acells b.av), .bool true, .int .i64 n, .int .i64 k] = M.pure (.bool true) := by
  intro m
  induction m with
  | zero =>
    intro k hm h1 h3
    obtain rfl : k = 4 := by omega
    have hcl := t25 hn k0
    rw [FL5_0]
    have e : (decide (0 ≤ k0) && decide (k0 ≤ 2) && decide (k0 < n)) = decide (k0 < n) := by simp [h0, h2]
    rw [e] at hcl
    simp [L5_0, hc, hcl]
  | succ m ih =>
    intro k hm h1 h3
    have hk : k ≤ 3 := by omega
    have hcl := t25 hn k
    have hcl2 := t25 hn (k - 1)
    have ih' := ih (k + 1) (by omega) (by omega) (by omega)
    have w1 : IntKind.i64.wrap (k + 1) = k + 1 := wrap_in (by omega) (by omega)
    have w2 : IntKind.i64.wrap (k - 1) = k - 1 := wrap_in (by omega) (by omega)
    simp only [acells_vsn, acells_face] at ih'
    rw [FL5_0]
    cases hb : (decide (0 ≤ k) && decide (k ≤ 2) && decide (k < n)) with
    | false =>
      rw [hb] at hcl
      by_cases hk0 : 0 < k
      · simp [L5_0, hk, hcl, w1, ih', hk0]
      · simp [L5_0, hk, hcl, w1, ih', hk0]
    | true =>
      rw [hb] at hcl
      simp only [Bool.and_eq_true, decide_eq_true_eq] at hb
      have hn0 : (n == 0) = false := by rw [beq_eq_false_iff_ne]; omega
      have hk1 : ¬ k < 0 := by omega
      have hk2 : ¬ 2 < k := by omega
      by_cases hk0 : 0 < k
      · have e2 : (decide (0 ≤ k - 1) && decide (k - 1 ≤ 2) && decide (k - 1 < n)) = true := by
          simp only [Bool.and_eq_true, decide_eq_true_eq]; omega
        rw [e2] at hcl2
        simp [L5_0, hk, hcl, w1, w2, ih', hk0, hn0, hk1, hk2, hcl2]
      · simp [L5_0, hk, hcl, w1, ih', hk0, hn0, hk1, hk2]
theorem compareF_range (a b : Face) : 0 ≤ (compareF a b).1 ∧ (compareF a b).1 ≤ 2 := by
  unfold compareF
  split
  · split
    · simp
    · split <;> simp
  · simp
theorem t5 (v w : Vsn) (a b : Face) (ha : a.Lim) (hb : b.Lim) : callW pg 5 [v.av, w.av, a.av, b.av] = M.pure (.bool true) := by
  rw [C5]
  obtain ⟨p, hp⟩ := ex15 a ha
  obtain ⟨q, hq⟩ := ex15 b hb
  obtain ⟨n, hn⟩ := ex28 v w
  have hr := compareF_range a b
  have hl := loop5 hn a b _ hr.1 hr.2 _ (t17 a b ha hb) 5 (-1) (by omega) (by omega) (by omega)
  simp only [acells_vsn, acells_face] at hl
  cases p with
  | false => simp [S5, small18_W, hp]
  | true =>
    cases q with
    | false => simp [S5, small18_W, hp, hq]
    | true => simp [S5, small18_W, hp, hq, hn, hl]
end Go.Proofs.YteemeakjlfnapaaGreatDoor
