/- The law CompatOrder answers true. No condition. -/
import Derived.Test.YteemeakjlfnapaaGreatDoorFcT2
import Derived.Test.YteemeakjlfnapaaGreatDoorFcT3
import Derived.Test.YteemeakjlfnapaaGreatDoorSmall18
import Derived.Test.YteemeakjlfnapaaGreatDoorLd
namespace Go.Proofs.YteemeakjlfnapaaGreatDoor
open Go Go.Av Go.Av.Ap
set_option maxRecDepth 100000
@[simp] theorem bool_neq (a b : Bool) : binA T .neq 4 (.bool a) (.bool b) = some (.bool (a != b)) := rfl
theorem t4 (a b c : Face) (ha : a.Lim) (hb : b.Lim) (hc : c.Lim) : callW pg 4 [a.av, b.av, c.av] = M.pure (.bool true) := by
  rw [C4]
  obtain ⟨p, hp⟩ := ex15 a ha
  obtain ⟨q, hq⟩ := ex15 b hb
  obtain ⟨r, hr⟩ := ex15 c hc
  cases p with
  | false => simp [S4, small18_W, hp]
  | true =>
    cases q with
    | false => simp [S4, small18_W, hp, hq]
    | true =>
      cases r with
      | false => simp [S4, small18_W, hp, hq, hr]
      | true =>
        have haa := t17 a a ha ha
        have hab := t17 a b ha hb
        have hba := t17 b a hb ha
        have hbc := t17 b c hb hc
        have hac := t17 a c ha hc
        have hra := t27 a ha
        have h2 := compare_sym a b
        have h3 := @compare_anti a b
        have h4 := @compare_trans a b c
        rw [compare_self] at haa
        generalize (compareF a b).2 = s1 at *
        generalize (compareF b a).2 = s2 at *
        generalize (compareF b c).2 = s3 at *
        generalize (compareF a c).2 = s4 at *
        generalize (compareF a b).1 = ab at *
        generalize (compareF b a).1 = ba at *
        generalize (compareF b c).1 = bc at *
        generalize (compareF a c).1 = ac at *
        have hself : ((if rightFc a = true then (0 : Int) else 2) == 0) = rightFc a := by cases rightFc a <;> rfl
        have f1 : ¬ (ab = 1 ∧ ¬ ba = 2) := fun h => h.2 (h3 h.1)
        have f2 : (ab == 2) = false → (bc == 2) = false → (ac != 2) = true ∧ (ac == 0) = ((ba == 0) && (bc == 0)) := fun g1 g2 => by
          obtain ⟨g3, g4⟩ := h4 (beq_eq_false_iff_ne.1 g1) (beq_eq_false_iff_ne.1 g2)
          refine ⟨bne_iff_ne.2 g3, ?_⟩
          rw [← h2, Bool.eq_iff_iff, Bool.and_eq_true, beq_iff_eq, beq_iff_eq, beq_iff_eq]
          exact g4
        generalize (if rightFc a = true then (0 : Int) else 2) = aa at *
        generalize rightFc a = ra at *
        simp [S4, small18_W, hp, hq, hr, haa, hab, hba, hbc, hac, hra, hself, h2]
        rw [if_neg f1]
        clear hab hba hbc hac haa hself h2 h3 h4 hra f1
        generalize (ab == 2) = x3 at *
        generalize (bc == 2) = x4 at *
        generalize (ac != 2) = x5 at *
        generalize (ac == 0) = x6 at *
        generalize (ba == 0) = x7 at *
        generalize (bc == 0) = x8 at *
        clear ab ba bc ac aa s1 s2 s3 s4
        cases x7 <;> cases x3 <;> cases x4 <;> cases x5 <;> cases x6 <;> cases x8 <;> first | rfl | (exfalso; simp at f2; done)
end Go.Proofs.YteemeakjlfnapaaGreatDoor
