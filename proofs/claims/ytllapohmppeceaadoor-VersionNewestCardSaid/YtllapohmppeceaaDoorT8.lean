/- The law VersionSets returns true. No condition. -/
import Derived.Test.YtllapohmppeceaaDoorT7
namespace Go.Proofs.YtllapohmppeceaaDoor.N
open Go Go.Av Go.Av.Ap
theorem eqB (a b : Bool) : binA T .eql 4 (.bool a) (.bool b) = some (.bool (a == b)) := by cases a <;> cases b <;> rfl
theorem same_iff (a b : List Rng) : (decide (normL a = normL b) == decide (((minusL a b).length : Int) + ((minusL b a).length : Int) = 0)) = true := by
  rw [beq_iff_eq, Bool.eq_iff_iff, decide_eq_true_iff, decide_eq_true_iff]
  constructor
  · intro h
    have hv : ∀ v, hasL a v = hasL b v := fun v => by rw [← norm_has a, ← norm_has b, h]
    have e1 : minusL a b = [] := (NF.nil_iff (minus_nf _ _)).2 fun v => by rw [minus_has, hv]; cases hasL b v <;> rfl
    have e2 : minusL b a = [] := (NF.nil_iff (minus_nf _ _)).2 fun v => by rw [minus_has, hv]; cases hasL b v <;> rfl
    rw [e1, e2]; rfl
  · intro h
    have e1 : minusL a b = [] := List.length_eq_zero_iff.1 (by omega)
    have e2 : minusL b a = [] := List.length_eq_zero_iff.1 (by omega)
    refine NF.ext (norm_nf a) (norm_nf b) fun v => ?_
    have h1 := (NF.nil_iff (minus_nf a b)).1 e1 v
    have h2 := (NF.nil_iff (minus_nf b a)).1 e2 v
    rw [minus_has] at h1 h2
    rw [norm_has, norm_has]
    cases h3 : hasL a v <;> cases h4 : hasL b v <;> simp [h3, h4] at h1 h2 ⊢
theorem loop5 (a b : List Rng) (ha : a.length ≤ 12) (hb : b.length ≤ 12) : ∀ (B A : List Rng), A ++ B = a →
    fixW (L5_0 (callW pg) fixW) [rngs a, rngs b, .bool true, rngs (normL a), rngs (minusL a b), rngs (minusL b a), .int .i64 A.length] = M.pure (.bool true)
  | [], A, e => by
    have n1 := norm_len a
    have n2 := keep_len a
    have hse := same_iff a b
    have l8 := minus_len' a b
    have l9 := minus_len' b a
    have hw : IntKind.i64.wrap (((minusL a b).length : Int) + ((minusL b a).length : Int)) = ((minusL a b).length : Int) + ((minusL b a).length : Int) := wrap_in (by omega) (by omega)
    simp only [List.append_nil] at e
    subst e
    rw [FL5_0]
    simp only [L5_0, nth_zero, nth_succ, LENE32, bin_lss, bnd_some, Int.lt_irrefl, decide_false, condM_bool, Bool.false_eq_true, if_false, guardM_take1, t14 b (by omega), bnd_pure, t20 _ _ (show (normL A).length ≤ 1099511627776 by omega), bin_add, hw, bin_eql, eqB, pickA_true]
    have e0 : ((((minusL A b).length : Int) + ((minusL b A).length : Int)) == 0) = decide (((minusL A b).length : Int) + ((minusL b A).length : Int) = 0) := by
      rw [Bool.eq_iff_iff]; simp
    rw [e0, hse]
  | x :: B, A, e => by
    have n1 := norm_len a
    have n2 := keep_len a
    have l8 := minus_len' a b
    have hll : A.length + (B.length + 1) = a.length := by rw [← e]; simp
    have ih := loop5 a b ha hb B (A ++ [x]) (by rw [← e]; simp)
    rw [show (A ++ [x]).length = A.length + 1 by simp] at ih
    have h1 : (A.length : Int) < (a.length : Int) := by omega
    have hw : IntKind.i64.wrap ((A.length : Int) + 1) = ((A.length + 1 : Nat) : Int) := wrap_add1 (by omega)
    have hix : indexAddrA T 32 (rngs a) (.int .i64 A.length) = some (.ip (acells x.av)) := by rw [← e]; exact ix32 A x B
    have hc : ((A.length + 1 : Nat) : Int) = (A.length : Int) + 1 := rfl
    rw [hc] at ih hw
    rw [FL5_0]
    simp (disch := omega) [L5_0, h1, hix, t18, norm_has, minus_has, neqB, hw, ih]
theorem t5 (a b : List Rng) (x : Ver) : callW pg 5 [rngs a, rngs b, x.av] = M.pure (.bool true) := by
  rw [C5]
  simp only [cl_rngs, cl_ver]
  by_cases ha : 12 < a.length
  · have h1 : ((12 : Int) < a.length) := by omega
    simp [S5, t8, h1]
  by_cases hb : 12 < b.length
  · have h1 : ¬ ((12 : Int) < a.length) := by omega
    have h2 : ((12 : Int) < b.length) := by omega
    simp [S5, t8, h1, h2]
  have h1 : ¬ ((12 : Int) < a.length) := by omega
  have h2 : ¬ ((12 : Int) < b.length) := by omega
  have n1 := norm_len a
  have n2 := keep_len a
  have l1 := union_len a b
  have l2 := common_len a b
  have l2' : a.length * b.length ≤ 12 * 12 := Nat.mul_le_mul (by omega) (by omega)
  have l8 := minus_len' a b
  have l9 := minus_len' b a
  have k1 : okN none (normL a) = true := (okN_none _).2 (norm_nf a)
  have k2 : okN none (unionL a b) = true := (okN_none _).2 (union_nf a b)
  have k3 : okN none (commonL a b) = true := (okN_none _).2 (common_nf a b)
  have k4 : okN none (minusL a b) = true := (okN_none _).2 (minus_nf a b)
  have hlp := loop5 a b (by omega) (by omega) a [] rfl
  simp only [List.length_nil, show ((0 : Nat) : Int) = 0 from rfl] at hlp
  simp (disch := omega) [S5, t8, h1, h2, t14, t15, t16, t17', t18, t19, k1, k2, k3, k4, norm_has, union_has, common_has, minus_has, neqB, hlp]
end Go.Proofs.YtllapohmppeceaaDoor.N
