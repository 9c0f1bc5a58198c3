/- The examples of the documentation: small() is true. No condition. -/
import Derived.Test.YtllapohmppeceaaGreatDoorAnn
import Derived.KernelRfl
namespace Go.Proofs.YtllapohmppeceaaGreatDoor
open Go Go.Av
set_option maxRecDepth 1000000
theorem small_ev : evCall pg 60 4 [] [] = .ok (.bool true) [] := by kernel_rfl
theorem small_W : callW pg 4 [] = M.pure (.bool true) := by
  funext h
  have h1 := callW_of hOther small_ev (by simp)
  have e : ∀ h, callW pg 4 [] h = isoP (evBody (pg.cx (callW pg) Tryz.f4.ntmps ann4) fixW Tryz.f4 (pg.own 4) (cls noHs [])) h := fun h => congrFun (callW_iso hOther rfl rfl rfl []) h
  rw [e] at h1 ⊢
  unfold isoP at h1 ⊢
  generalize evBody (pg.cx (callW pg) Tryz.f4.ntmps ann4) fixW Tryz.f4 (pg.own 4) (cls noHs []) [] = r at h1 ⊢
  cases r with
  | ok v h' =>
    simp only [R.ok.injEq] at h1
    show R.ok (frz 6 h' v) h = _
    rw [h1.1]; rfl
  | pan v h' => cases h1
  | fail => cases h1
end Go.Proofs.YtllapohmppeceaaGreatDoor
