/- VersionOrder returns true. No condition. -/
import Derived.Test.YtllapohmppeceaaDoorVer
import Derived.Test.YtllapohmppeceaaDoorSmall
namespace Go.Proofs.YtllapohmppeceaaDoor
open Go Go.Av Go.Av.Ap

theorem ordI_cases (a b : Int) : (a < b ∧ ordI a b = -1) ∨ (a = b ∧ ordI a b = 0) ∨ (b < a ∧ ordI a b = 1) := by
  unfold ordI
  split
  · exact .inl ⟨by omega, rfl⟩
  · split
    · exact .inr (.inr ⟨by omega, rfl⟩)
    · exact .inr (.inl ⟨by omega, rfl⟩)
/-- the lexical order -/
def ltV (v w : Ver) : Prop := v.a < w.a ∨ v.a = w.a ∧ (v.b < w.b ∨ v.b = w.b ∧ v.c < w.c)
theorem cmpV_cases (v w : Ver) : (ltV v w ∧ cmpV v w = -1) ∨ (v = w ∧ cmpV v w = 0) ∨ (ltV w v ∧ cmpV v w = 1) := by
  obtain ⟨a, b, c⟩ := v
  obtain ⟨a', b', c'⟩ := w
  unfold cmpV orI ltV
  simp only [Ver.mk.injEq]
  rcases ordI_cases a a' with ⟨h1, e1⟩ | ⟨h1, e1⟩ | ⟨h1, e1⟩ <;> rcases ordI_cases b b' with ⟨h2, e2⟩ | ⟨h2, e2⟩ | ⟨h2, e2⟩ <;> rcases ordI_cases c c' with ⟨h3, e3⟩ | ⟨h3, e3⟩ | ⟨h3, e3⟩ <;>
    rw [e1, e2, e3] <;> simp <;> omega

theorem cmpV_neg (v w : Ver) : cmpV w v = -cmpV v w := by
  have irr : ∀ x y : Ver, ltV x y → ¬ ltV y x ∧ x ≠ y := by
    intro x y h
    refine ⟨fun h' => ?_, fun h' => ?_⟩
    · unfold ltV at h h'; omega
    · subst h'; unfold ltV at h; omega
  rcases cmpV_cases v w with ⟨h, e⟩ | ⟨h, e⟩ | ⟨h, e⟩ <;> rcases cmpV_cases w v with ⟨h', e'⟩ | ⟨h', e'⟩ | ⟨h', e'⟩ <;> rw [e, e'] <;> first | rfl | (exfalso; first | exact (irr _ _ h).1 h' | exact (irr _ _ h).2 h'.symm | exact (irr _ _ h).2 h' | exact (irr _ _ h').2 h.symm | exact (irr _ _ h').2 h)
theorem cmpV_bd (v w : Ver) : -1 ≤ cmpV v w ∧ cmpV v w ≤ 1 := by
  rcases cmpV_cases v w with ⟨_, e⟩ | ⟨_, e⟩ | ⟨_, e⟩ <;> rw [e] <;> omega
theorem cmpV_lt (v w : Ver) : cmpV v w < 0 ↔ ltV v w := by
  have irr : ∀ x y : Ver, ltV x y → ¬ ltV y x ∧ x ≠ y := by
    intro x y h
    refine ⟨fun h' => ?_, fun h' => ?_⟩
    · unfold ltV at h h'; omega
    · subst h'; unfold ltV at h; omega
  rcases cmpV_cases v w with ⟨h, e⟩ | ⟨h, e⟩ | ⟨h, e⟩ <;> rw [e]
  · exact ⟨fun _ => h, fun _ => by omega⟩
  · exact ⟨fun h => by omega, fun h' => absurd h (irr _ _ h').2⟩
  · exact ⟨fun h => by omega, fun h' => absurd h' (irr _ _ h).1⟩
theorem cmpV_eq (v w : Ver) : (cmpV v w == 0) = decide (v = w) := by
  rcases cmpV_cases v w with ⟨h, e⟩ | ⟨h, e⟩ | ⟨h, e⟩ <;> rw [e]
  · have : v ≠ w := by rintro rfl; unfold ltV at h; omega
    simp [this]
  · simp [h]
  · have : v ≠ w := by rintro rfl; unfold ltV at h; omega
    simp [this]
theorem cmpV_le (v w : Ver) : cmpV v w ≤ 0 ↔ ¬ ltV w v := by
  rw [← cmpV_lt, cmpV_neg v w]; omega
theorem cmpV_trans {v w u : Ver} (h1 : cmpV v w ≤ 0) (h2 : cmpV w u ≤ 0) : cmpV v u ≤ 0 := by
  rw [cmpV_le] at h1 h2 ⊢
  unfold ltV at h1 h2 ⊢
  omega
theorem bumpV_pos (v w : Ver) : decide (0 < bumpV v w) = (rightV v && rightV w && decide (cmpV v w < 0)) := by
  unfold bumpV
  cases rightV v <;> cases rightV w <;> simp
  by_cases h : 0 ≤ cmpV v w
  · simp [h]
  · simp [h]; split <;> (try split) <;> omega
theorem bumpV_bd (v w : Ver) : 0 ≤ bumpV v w ∧ bumpV v w ≤ 3 := by
  unfold bumpV
  split <;> (try split) <;> (try split) <;> omega
theorem bumpV_mono (v w u : Ver) : (bumpV v w == 0 || bumpV v u == 0 || decide (0 < cmpV w u) || decide (bumpV v w ≤ bumpV v u)) = true := by
  by_cases h1 : bumpV v w = 0
  · simp [h1]
  by_cases h2 : bumpV v u = 0
  · simp [h2]
  by_cases h3 : 0 < cmpV w u
  · simp [h3]
  have p1 := bumpV_bd v w
  have p2 := bumpV_bd v u
  have q1 := bumpV_pos v w
  have q2 := bumpV_pos v u
  have r1 : 0 < bumpV v w := by omega
  have r2 : 0 < bumpV v u := by omega
  simp only [r1, r2, decide_true] at q1 q2
  have q1 := q1.symm
  have q2 := q2.symm
  simp only [Bool.and_eq_true, decide_eq_true_eq] at q1 q2
  obtain ⟨⟨a1, a2⟩, a3⟩ := q1
  obtain ⟨⟨b1, b2⟩, b3⟩ := q2
  have h3' : cmpV w u ≤ 0 := by omega
  rw [cmpV_lt] at a3 b3
  rw [cmpV_le] at h3'
  have e1 : bumpV v w = if v.a < w.a then 3 else if v.b < w.b then 2 else 1 := by
    unfold bumpV
    rw [if_neg]
    simp [a1, a2]
    rw [cmpV_lt]; exact a3
  have e2 : bumpV v u = if v.a < u.a then 3 else if v.b < u.b then 2 else 1 := by
    unfold bumpV
    rw [if_neg]
    simp [b1, b2]
    rw [cmpV_lt]; exact b3
  have : bumpV v w ≤ bumpV v u := by
    rw [e1, e2]
    unfold ltV at a3 b3 h3'
    split <;> split <;> (try split) <;> (try split) <;> omega
  simp [this]

theorem eqA23 (x y z x' y' z' : Int) : eqA T 20 23 (.agg [.int .i64 x, .int .i64 y, .int .i64 z]) (.agg [.int .i64 x', .int .i64 y', .int .i64 z']) =
    (match some (x == x') with | some true => (match some (y == y') with | some true => (match some (z == z') with | some true => some true | some false => some false | none => none) | some false => some false | none => none) | some false => some false | none => none) := by rfl
theorem eqV (v w : Ver) : binA T .eql 23 v.av w.av = some (.bool (decide (v = w))) := by
  have h : binA T .eql 23 v.av w.av = (eqA T 20 23 v.av w.av).map .bool := rfl
  rw [h]
  unfold Ver.av
  rw [eqA23]
  obtain ⟨a, b, c⟩ := v
  obtain ⟨a', b', c'⟩ := w
  simp only [Ver.mk.injEq]
  have e : decide (a = a' ∧ b = b' ∧ c = c') = (a == a' && (b == b' && c == c')) := by rw [Bool.eq_iff_iff]; simp
  rw [e]
  cases a == a' <;> cases b == b' <;> cases c == c' <;> rfl
theorem neqB (a b : Bool) : binA T .neq 4 (.bool a) (.bool b) = some (.bool (a != b)) := by
  cases a <;> cases b <;> rfl
theorem negI (n : Int) (h : -1 ≤ n ∧ n ≤ 1) : unA .neg (.int .i64 n) = some (.int .i64 (-n)) := by
  show some (AV.int .i64 (IntKind.i64.wrap (0 - n))) = _
  rw [wrap_in (by omega) (by omega)]
  simp
theorem guard1 (n : Nat) (m : M (List AV)) : guardM (.bool false) false n m = m := rfl

theorem t4 (v w u : Ver) : callW pg 4 [v.av, w.av, u.av] = M.pure (.bool true) := by
  rw [C4]
  have h1 := cmpV_bd v w
  have h2 : ¬ cmpV v w < -1 := by omega
  have h3 : ¬ 1 < cmpV v w := by omega
  have h4 : ¬ ((cmpV v w ≤ 0 ∧ cmpV w u ≤ 0) ∧ 0 < cmpV v u) := by
    rintro ⟨⟨a, b⟩, c⟩
    have := cmpV_trans a b
    omega
  have h5 := bumpV_bd v w
  have h6 : ¬ bumpV v w < 0 := by omega
  have h7 : ¬ 3 < bumpV v w := by omega
  simp [S4, small_W, t12, t13, t11, eqV, neqB, cmpV_eq, negI _ h1, cmpV_neg v w, guard1, h2, h3, h4, bumpV_pos, h6, h7, bumpV_mono]
end Go.Proofs.YtllapohmppeceaaDoor
