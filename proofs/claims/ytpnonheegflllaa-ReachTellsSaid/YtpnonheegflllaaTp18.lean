/- ReachTells holds. No condition. -/
import Derived.Test.YtpnonheegflllaaTp17
namespace Go.Proofs.Ytpnonheegflllaa
open Go Go.Av Go.Av.Ap
set_option maxRecDepth 100000
theorem eqBB (b : Bool) : binA T .eql 4 (.bool b) (.bool b) = some (.bool true) := by cases b <;> rfl
theorem eqSS (b : BitVec 64) : binA T .eql 3 (sA b) (sA b) = some (.bool true) := by
  show some (AV.bool (b.toInt == b.toInt)) = _
  simp
theorem t3 (p : List Mod) (hp : p.length ≤ 140737488355328) (hM : ∀ m ∈ p, m.Lim) (f t : Ref) : callW pg 3 [mods p, refA f, refA t] = M.pure (.bool true) := by
  rw [C3]
  obtain ⟨b, hb1, hb2⟩ := t7 p hp hM
  simp only [cl_mods, cl_ref]
  have h : S3 (callW pg) fixW (mods p) (refA f) (refA t) = M.pure (.bool true) := by
    cases b with
    | false => simp [S3, t6, hb1]
    | true =>
      obtain ⟨q1, q2⟩ := hb2 rfl
      have S := sm_few hM (by omega) (fun m hm => by have := q2 m hm; omega)
      have s1 := t10 (callL p f) (callL p f) (by have := S.calls f; omega)
      have s2 := t10 (allL p f) (allL p f) (by have := all_len S f; omega)
      have s3 := t10 (usersL p f) (usersL p f) (by have := users_len S f; omega)
      have hpl : ∀ c, pathR p f t = some c → c.length ≤ 1000000 := fun c hc => by
        have hf : (findR p f).isSome = true := by
          by_cases hf : (findR p f).isSome = true
          · exact hf
          · unfold pathR reachD at hc
            rw [if_neg hf] at hc
            cases hc
        have := chain_len (reach_inv hf) (getK_mem hc)
        have := reach_len S f
        simp only at *
        omega
      have r1 := t8 S f t
      have r2 := t9 S f t
      have r3 := t11 S f
      have r4 := t12 S f
      have r5 := t13 S f
      have r6 := t14 S f
      have r7 := t15 S f
      have r8 := t16 S f
      have r9 := t17 S f
      have r10 := t18 S f
      simp only [decide_true] at s1 s2 s3
      cases hg : pathR p f t with
      | none =>
        have s4 := t10 [] [] (by simp)
        simp only [decide_true] at s4
        rw [hg] at r1 r2
        simp only [pathA] at r1 r2
        simp [S3, t6, hb1, r1, r2, r3, r4, r5, r6, r7, r8, r9, r10, s1, s2, s3, s4, eqBB, eqSS]
      | some c =>
        have s4 := t10 c c (by have := hpl c hg; omega)
        simp only [decide_true] at s4
        rw [hg] at r1 r2
        simp only [pathA] at r1 r2
        simp [S3, t6, hb1, r1, r2, r3, r4, r5, r6, r7, r8, r9, r10, s1, s2, s3, s4, eqBB, eqSS]
  rw [h]
  exact isoP_bool true
end Go.Proofs.Ytpnonheegflllaa
