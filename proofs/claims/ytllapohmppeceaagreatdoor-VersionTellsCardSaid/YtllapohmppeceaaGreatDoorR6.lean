/- The statement's function is true. No condition. -/
import Derived.Test.YtllapohmppeceaaGreatDoorR5
import Derived.Test.YtllapohmppeceaaGreatDoorParseN
namespace Go.Proofs.YtllapohmppeceaaGreatDoor.N
open Go Go.Av Go.Av.Ap
theorem loop8 (rs : List Rng) (hr : rs.length ≤ 1099511627776) (l : List Ver) (hb : l.length ≤ 1099511627776) : ∀ (n : Nat) (i : Int) (b : Ver) (f : Bool), l.length - i.toNat = n → 0 ≤ i → i ≤ l.length →
    fixW (L8_0 (callW pg) fixW) [vers l, rngs rs, .bool f, .int .i64 i, .int .i64 0, .int .i64 0, .int .i64 0, .int .i64 b.a, .int .i64 b.b, .int .i64 b.c] =
      M.pure (.tup [(newestL (hasL rs) (l.drop i.toNat) b f).1.av, .bool (newestL (hasL rs) (l.drop i.toNat) b f).2]) := by
  intro n
  induction n with
  | zero =>
    intro i b f hn hi hl'
    rw [FL8_0]
    simp only [L8_0]
    have h1 : ¬ (i < (l.length : Int)) := by omega
    have h2 : l.drop i.toNat = [] := List.drop_eq_nil_of_le (by omega)
    simp [h1, h2, newestL]
  | succ n ih =>
    intro i b f hn hi hl'
    have h1 : i < (l.length : Int) := by omega
    have hlt : i.toNat < l.length := by omega
    have h4 := fun b f => ih (i + 1) b f (by omega) (by omega) (by omega)
    simp only [show (i + 1).toNat = i.toNat + 1 by omega] at h4
    rw [FL8_0, List.drop_eq_getElem_cons hlt]
    simp only [L8_0, newestL]
    generalize hx : l[i.toNat] = x at h4 ⊢
    have hneg := cmpV_neg x b
    by_cases hq : hasL rs x = true
    · cases f
      · simp (disch := omega) [h1, wrap_in, IX25, K8_0, hx, t18 _ _ hr, t12, hq, h4]
      · by_cases hc : 0 < cmpV x b
        · have hc' : cmpV b x < 0 := by omega
          simp (disch := omega) [h1, wrap_in, IX25, K8_0, hx, t18 _ _ hr, t12, hq, hc, hc', h4]
        · have hc' : ¬ cmpV b x < 0 := by omega
          simp (disch := omega) [h1, wrap_in, IX25, K8_0, hx, t18 _ _ hr, t12, hq, hc, hc', h4]
    · simp only [Bool.not_eq_true] at hq
      simp (disch := omega) [h1, wrap_in, IX25, K8_0, hx, t18 _ _ hr, t12, hq, h4]
theorem t8 (l : List Ver) (rs : List Rng) (hb : l.length ≤ 1099511627776) (hr : rs.length ≤ 1099511627776) :
    callW pg 8 [vers l, rngs rs] = M.pure (.tup [(newestL (hasL rs) l ⟨0, 0, 0⟩ false).1.av, .bool (newestL (hasL rs) l ⟨0, 0, 0⟩ false).2]) := by
  rw [C8]
  have := loop8 rs hr l hb l.length 0 ⟨0, 0, 0⟩ false rfl (by omega) (by omega)
  simp at this
  have hz : buildA T false 23 [] = some (Ver.av ⟨0, 0, 0⟩) := rfl
  simp [S8, hz, this]
  exact isoP_pure fun g => by simp [cl, cls]
theorem C4 (args : List AV) : callW pg 4 args = trueE (callW pg) args := callW_other hOther rfl args
theorem t4 : callW pg 4 [] = M.pure (.bool true) := by rw [C4]; rfl
theorem eqBo (a b : Bool) : binA T .eql 4 (.bool a) (.bool b) = some (.bool (a == b)) := by cases a <;> cases b <;> rfl
theorem same_self (l : List Rng) (h : l.length ≤ 1099511627776) : callW pg 19 [rngs l, rngs l] = M.pure (.bool true) := by
  rw [t19 _ _ h]
  simp
theorem t3 (x y : Ver) (s : Str) (a b : List Rng) (l : List Ver) : callW pg 3 [x.av, y.av, .str s, rngs a, rngs b, vers l] = M.pure (.bool true) := by
  rw [C3]
  by_cases h1 : s.length ≤ 100
  · by_cases h2 : a.length ≤ 20
    · by_cases h3 : b.length ≤ 20
      · by_cases h4 : l.length ≤ 30
        · have n1 : ¬ ((100 : Int) < s.length) := by omega
          have n2 : ¬ ((20 : Int) < a.length) := by omega
          have n3 : ¬ ((20 : Int) < b.length) := by omega
          have n4 : ¬ ((30 : Int) < l.length) := by omega
          have k0 : (normL a).length ≤ 1099511627776 := by have := norm_len a; have := keep_len a; omega
          have k1 : (unionL a b).length ≤ 1099511627776 := by have := union_len a b; omega
          have k2 : (commonL a b).length ≤ 1099511627776 := by
            have h5 := common_len a b
            have h6 : a.length * b.length ≤ 20 * 20 := Nat.mul_le_mul h2 h3
            omega
          have k3 : (minusL a b).length ≤ 1099511627776 := by have := minus_len' a b; omega
          have q5 := t5 s (by omega)
          have q6 := t6 s (by omega)
          have q7 := t7 l a (by omega) (by omega)
          have q8 := t8 l a (by omega) (by omega)
          have q17 := t17 a x (by omega)
          have q18 := t18 a x (by omega)
          have q20 := t20 a (by omega)
          have q21 := t21 a (by omega)
          have q22 := t22 a b (by omega)
          have q24 := t24 a b (by omega) (by omega)
          have q25 := t25' a b (by omega) (by omega)
          have r0 := t23 a b 0 (by omega)
          have r1 := t23 a b 1 (by omega)
          have r2 := t23 a b 2 (by omega)
          rw [form_union] at r0
          rw [form_common] at r1
          rw [form_minus] at r2
          unfold resV at q6
          generalize parseV s = P at q5 q6
          generalize newestL (hasL a) l ⟨0, 0, 0⟩ false = Q at q7 q8
          simp only [cl_ver, cl_rngs, cl_vers, cl]
          have key : S3 (callW pg) fixW x.av y.av (.str s) (rngs a) (rngs b) (vers l) = M.pure (.bool true) := by
            generalize hcode : S3 (callW pg) fixW x.av y.av (.str s) (rngs a) (rngs b) (vers l) = code
            simp -implicitDefEqProofs [S3, t4, n1, n2, n3, n4, q5, q6, q7, q8, q17, q18, q20, q21, q22, q24, q25, r0, r1, r2, t9, t10, t11, t12, t13, t14, t15, t16, eqV, eqBo, same_self _ k0, same_self _ k1, same_self _ k2, same_self _ k3] at hcode
            rw [← hcode]
          rw [key]
          exact isoP_pure fun g => by simp [cl]
        · have n1 : (30 : Int) < l.length := by omega
          have n2 : ¬ ((20 : Int) < a.length) := by omega
          have n3 : ¬ ((20 : Int) < b.length) := by omega
          have n4 : ¬ ((100 : Int) < s.length) := by omega
          simp [S3, t4, n1, n2, n3, n4]
      · have n2 : ¬ ((20 : Int) < a.length) := by omega
        have n3 : (20 : Int) < b.length := by omega
        have n4 : ¬ ((100 : Int) < s.length) := by omega
        simp [S3, t4, n2, n3, n4]
    · have n2 : (20 : Int) < a.length := by omega
      have n4 : ¬ ((100 : Int) < s.length) := by omega
      simp [S3, t4, n2, n4]
  · have n4 : (100 : Int) < s.length := by omega
    simp [S3, t4, n4]
end Go.Proofs.YtllapohmppeceaaGreatDoor.N
