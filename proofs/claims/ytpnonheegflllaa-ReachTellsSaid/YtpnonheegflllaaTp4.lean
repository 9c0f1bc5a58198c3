/- Calls, All. No condition. -/
import Derived.Test.YtpnonheegflllaaTp3
import Derived.Test.YtpnonheegflllaaLd
namespace Go.Proofs.Ytpnonheegflllaa
open Go Go.Av Go.Av.Ap
set_option maxRecDepth 100000
theorem isoP_ok {m : M AV} {a : AV} {h : Hp} (hm : m [] = .ok a h) (hc : Go.Av.Ap.Clean a) : isoP m = M.pure a := by
  funext h0
  simp only [isoP, hm, hc.frz]
  rfl
theorem clean_refs (l : List Ref) : Go.Av.Ap.Clean (refsA l) := fun g => cl_refs g l
theorem idx0 {p : List Mod} (S : Sm p) : callW pg 25 [mods p] [] = .ok (.mp 0) [[.tup ((idxP p).map (entA Fun.av))]] := t25 p S.len S.funcs []
theorem isIdx0 (p : List Mod) : IsIdx p [[.tup ((idxP p).map (entA Fun.av))]] 0 := rfl
theorem t11 {p : List Mod} (S : Sm p) (f : Ref) : callW pg 11 [mods p, refA f] = M.pure (refsA (callL p f)) := by
  rw [C11]
  have h1 := look_fun (isIdx0 p) f true
  have h2 := t28 (isIdx0 p) f (S.body f) (S.found f)
  have h3 : ∃ h', S11 (callW pg) fixW (mods p) (refA f) [] = .ok (refsA (callL p f)) h' := by
    simp only [S11]
    rw [bnd_ok (idx0 S)]
    simp
    rw [bnd_ok h1]
    cases hf : findR p f with
    | none =>
      simp [hf]
      rw [callL_none hf]
      exact ⟨_, rfl⟩
    | some g =>
      simp [hf]
      rw [bnd_ok h2]
      exact ⟨_, rfl⟩
  obtain ⟨h', h3⟩ := h3
  simp only [cl_mods, cl_ref]
  exact isoP_ok h3 (clean_refs _)
theorem reach_len {p : List Mod} (S : Sm p) (f : Ref) : (reachD p f).length ≤ 1000000 := by
  by_cases h : (findR p f).isSome = true
  · have := (reach_inv h).len; have := S.idx; omega
  · unfold reachD; rw [if_neg h]; simp
theorem t13 {p : List Mod} (S : Sm p) (f : Ref) : callW pg 13 [mods p, refA f] = M.pure (refsA (allL p f)) := by
  rw [C13]
  have h1 := look_fun (isIdx0 p) f true
  obtain ⟨J, _, h2⟩ := t24 S (isIdx0 p) f
  have hk : ∀ x, callW pg 31 [.mp x] = M.pure (.fn (.func 45) [] [.ip [.mp x]]) := fun x => C31 _
  have hk0 : callW pg 31 [.nilm] = M.pure (.fn (.func 45) [] [.ip [.nilm]]) := C31 _
  have h3 : ∃ h', S13 (callW pg) fixW (mods p) (refA f) [] = .ok (refsA (allL p f)) h' := by
    simp only [S13]
    simp
    rw [bnd_ok (idx0 S)]
    by_cases hf : (findR p f).isSome = true
    · rw [if_pos hf] at h2
      rw [bnd_ok h2]
      have hs := t30 (f := refA) (rowD_get [[.tup ((idxP p).map (entA Fun.av))]] (reachD p f) J) (by simpa using reach_len S f) 45 (.inr rfl)
      rw [pre_keys] at hs
      simp [hk]
      exact ⟨_, bnd_ok hs⟩
    · rw [if_neg hf] at h2
      rw [bnd_ok h2]
      simp [hk0]
      have hs : callW pg 30 [.fn (.func 45) [] [.ip [.nilm]], .fn (.func 32) [] []] [[.tup ((idxP p).map (entA Fun.av))]] = .ok (refsA []) [[.tup ((idxP p).map (entA Fun.av))]] := by
        rw [callW_other hOther (E := sortedE [45, 52] 32) rfl]
        rfl
      have he : allL p f = [] := by unfold allL reachD; rw [if_neg hf]; rfl
      rw [he]
      exact ⟨_, bnd_ok hs⟩
  obtain ⟨h', h3⟩ := h3
  simp only [cl_mods, cl_ref]
  exact isoP_ok h3 (clean_refs _)
end Go.Proofs.Ytpnonheegflllaa
