/- The law VersionLaws returns true. No condition. -/
import Derived.Test.YtllapohmppeceaaDoorT6
namespace Go.Proofs.YtllapohmppeceaaDoor.N
open Go Go.Av Go.Av.Ap
theorem t8 : callW pg 8 [] = M.pure (.bool true) := callW_other (f := 8) (E := trueE) hOther rfl []
theorem t6 (a b c : List Rng) : callW pg 6 [rngs a, rngs b, rngs c] = M.pure (.bool true) := by
  rw [C6]
  simp only [cl_rngs]
  by_cases ha : 8 < a.length
  · have h1 : ((8 : Int) < a.length) := by omega
    simp [S6, t8, h1]
  by_cases hb : 8 < b.length
  · have h1 : ¬ ((8 : Int) < a.length) := by omega
    have h2 : ((8 : Int) < b.length) := by omega
    simp [S6, t8, h1, h2]
  by_cases hc : 8 < c.length
  · have h1 : ¬ ((8 : Int) < a.length) := by omega
    have h2 : ¬ ((8 : Int) < b.length) := by omega
    have h3 : ((8 : Int) < c.length) := by omega
    simp [S6, t8, h1, h2, h3]
  have h1 : ¬ ((8 : Int) < a.length) := by omega
  have h2 : ¬ ((8 : Int) < b.length) := by omega
  have h3 : ¬ ((8 : Int) < c.length) := by omega
  have m8 : ∀ x y k : Nat, x ≤ k → y ≤ 8 → x * y ≤ k * 8 := fun x y k h1 h2 => Nat.mul_le_mul h1 h2
  have l1 := union_len a b
  have l2 := common_len a b
  have l2' := m8 a.length b.length 8 (by omega) (by omega)
  have l3 := union_len b a
  have l4 := common_len b a
  have l4' := m8 b.length a.length 8 (by omega) (by omega)
  have l5 := union_len b c
  have l6 := common_len b c
  have l6' := m8 b.length c.length 8 (by omega) (by omega)
  have l7 := common_len a c
  have l7' := m8 a.length c.length 8 (by omega) (by omega)
  have l8 := minus_len' a b
  have l9 := minus_len' b a
  have l10 := union_len (minusL a b) (minusL b a)
  have l11 := union_len (unionL a b) c
  have l12 := union_len (commonL a c) (commonL b c)
  have l13 := minus_len' a (minusL a b)
  have l14 := union_len (unionL (minusL a b) (minusL b a)) (commonL a b)
  have l15 := common_len (commonL a b) c
  have l15' := m8 (commonL a b).length c.length 64 (by omega) (by omega)
  have l16 := common_len (unionL a b) c
  have l16' := m8 (unionL a b).length c.length 16 (by omega) (by omega)
  have d1 : decide (unionL a b = unionL b a) = true := decide_eq_true (NF.ext (union_nf _ _) (union_nf _ _) fun v => by simp only [union_has, common_has, minus_has]; cases hasL a v <;> cases hasL b v <;> rfl)
  have d2 : decide (commonL a b = commonL b a) = true := decide_eq_true (NF.ext (common_nf _ _) (common_nf _ _) fun v => by simp only [union_has, common_has, minus_has]; cases hasL a v <;> cases hasL b v <;> rfl)
  have d3 : decide (unionL (unionL a b) c = unionL a (unionL b c)) = true := decide_eq_true (NF.ext (union_nf _ _) (union_nf _ _) fun v => by simp only [union_has, common_has, minus_has]; cases hasL a v <;> cases hasL b v <;> rfl)
  have d4 : decide (commonL (commonL a b) c = commonL a (commonL b c)) = true := decide_eq_true (NF.ext (common_nf _ _) (common_nf _ _) fun v => by simp only [union_has, common_has, minus_has]; cases hasL a v <;> cases hasL b v <;> rfl)
  have d5 : decide (commonL (unionL a b) c = unionL (commonL a c) (commonL b c)) = true := decide_eq_true (NF.ext (common_nf _ _) (union_nf _ _) fun v => by simp only [union_has, common_has, minus_has]; cases hasL a v <;> cases hasL b v <;> cases hasL c v <;> rfl)
  have d6 : decide (minusL a (minusL a b) = commonL a b) = true := decide_eq_true (NF.ext (minus_nf _ _) (common_nf _ _) fun v => by simp only [union_has, common_has, minus_has]; cases hasL a v <;> cases hasL b v <;> rfl)
  have d7 : decide (unionL (unionL (minusL a b) (minusL b a)) (commonL a b) = unionL a b) = true := decide_eq_true (NF.ext (union_nf _ _) (union_nf _ _) fun v => by simp only [union_has, common_has, minus_has]; cases hasL a v <;> cases hasL b v <;> rfl)
  have d8 : commonL (unionL (minusL a b) (minusL b a)) (commonL a b) = [] := (NF.nil_iff (common_nf _ _)).2 fun v => by simp only [union_has, common_has, minus_has]; cases hasL a v <;> cases hasL b v <;> rfl
  have d9 : minusL (commonL a b) a = [] := (NF.nil_iff (minus_nf _ _)).2 fun v => by simp only [union_has, common_has, minus_has]; cases hasL a v <;> cases hasL b v <;> rfl
  simp (disch := omega) [S6, t8, h1, h2, h3, t15, t16, t17', t20, d1, d2, d3, d4, d5, d6, d7, d8, d9]
end Go.Proofs.YtllapohmppeceaaDoor.N
