/- VersionOrder returns true. No condition. -/
import Derived.Test.YtllapohmppeceaaGreatDoorVer
import Derived.Test.YtllapohmppeceaaGreatDoorSmall
namespace Go.Proofs.YtllapohmppeceaaGreatDoor
open Go Go.Av Go.Av.Ap
theorem ordI_cases (a b : Int) : (a < b ∧ ordI a b = -1) ∨ (a = b ∧ ordI a b = 0) ∨ (b < a ∧ ordI a b = 1) := by
  unfold ordI
  split
  · exact .inl ⟨by omega, rfl⟩
  · split
    · exact .inr (.inr ⟨by omega, rfl⟩)
    · exact .inr (.inl ⟨by omega, rfl⟩)
def ltV (v w : Ver) : Prop := v.a < w.a ∨ v.a = w.a ∧ (v.b < w.b ∨ v.b = w.b ∧ v.c < w.c)
theorem cmpV_cases (v w : Ver) : (ltV v w ∧ cmpV v w = -1) ∨ (v = w ∧ cmpV v w = 0) ∨ (ltV w v ∧ cmpV v w = 1) := by
  obtain ⟨a, b, c⟩ := v
  obtain ⟨a', b', c'⟩ := w
  unfold cmpV orI ltV
  simp only [Ver.mk.injEq]
  rcases ordI_cases a a' with ⟨h1, e1⟩ | ⟨h1, e1⟩ | ⟨h1, e1⟩ <;> rcases ordI_cases b b' with ⟨h2, e2⟩ | ⟨h2, e2⟩ | ⟨h2, e2⟩ <;> rcases ordI_cases c c' with ⟨h3, e3⟩ | ⟨h3, e3⟩ | ⟨h3, e3⟩ <;>
    rw [e1, e2, e3] <;> simp <;> omega
theorem cmpV_neg (v w : Ver) : cmpV w v = -cmpV v w := by
  have irr : ∀ x y : Ver, ltV x y → ¬ ltV y x ∧ x ≠ y := by
    intro x y h
    refine ⟨fun h' => ?_, fun h' => ?_⟩
    · unfold ltV at h h'; omega
    · subst h'; unfold ltV at h; omega
  rcases cmpV_cases v w with ⟨h, e⟩ | ⟨h, e⟩ | ⟨h, e⟩ <;> rcases cmpV_cases w v with ⟨h', e'⟩ | ⟨h', e'⟩ | ⟨h', e'⟩ <;> rw [e, e'] <;> first | rfl | (exfalso; first | exact (irr _ _ h).1 h' | exact (irr _ _ h).2 h'.symm | exact (irr _ _ h).2 h' | exact (irr _ _ h').2 h.symm | exact (irr _ _ h').2 h)
theorem cmpV_lt (v w : Ver) : cmpV v w < 0 ↔ ltV v w := by
  have irr : ∀ x y : Ver, ltV x y → ¬ ltV y x ∧ x ≠ y := by
    intro x y h
    refine ⟨fun h' => ?_, fun h' => ?_⟩
    · unfold ltV at h h'; omega
    · subst h'; unfold ltV at h; omega
  rcases cmpV_cases v w with ⟨h, e⟩ | ⟨h, e⟩ | ⟨h, e⟩ <;> rw [e]
  · exact ⟨fun _ => h, fun _ => by omega⟩
  · exact ⟨fun h => by omega, fun h' => absurd h (irr _ _ h').2⟩
  · exact ⟨fun h => by omega, fun h' => absurd h' (irr _ _ h).1⟩
theorem cmpV_le (v w : Ver) : cmpV v w ≤ 0 ↔ ¬ ltV w v := by
  rw [← cmpV_lt, cmpV_neg v w]; omega
theorem eqA23 (x y z x' y' z' : Int) : eqA T 20 23 (.agg [.int .i64 x, .int .i64 y, .int .i64 z]) (.agg [.int .i64 x', .int .i64 y', .int .i64 z']) =
    (match some (x == x') with | some true => (match some (y == y') with | some true => (match some (z == z') with | some true => some true | some false => some false | none => none) | some false => some false | none => none) | some false => some false | none => none) := by rfl
theorem eqV (v w : Ver) : binA T .eql 23 v.av w.av = some (.bool (decide (v = w))) := by
  have h : binA T .eql 23 v.av w.av = (eqA T 20 23 v.av w.av).map .bool := rfl
  rw [h]
  unfold Ver.av
  rw [eqA23]
  obtain ⟨a, b, c⟩ := v
  obtain ⟨a', b', c'⟩ := w
  simp only [Ver.mk.injEq]
  have e : decide (a = a' ∧ b = b' ∧ c = c') = (a == a' && (b == b' && c == c')) := by rw [Bool.eq_iff_iff]; simp
  rw [e]
  cases a == a' <;> cases b == b' <;> cases c == c' <;> rfl
end Go.Proofs.YtllapohmppeceaaGreatDoor
