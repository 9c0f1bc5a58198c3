/- The examples of the documentation of layer 18: small() is true. No condition. -/
import Derived.Test.YteemeakjlfnapaaGreatDoorAnn
import Derived.KernelRfl
namespace Go.Proofs.YteemeakjlfnapaaGreatDoor
open Go Go.Av
set_option maxRecDepth 1000000
theorem small18_ev : evCall pg 80 14 [] [] = .ok (.bool true) [] := by kernel_rfl
theorem small18_W : callW pg 14 [] = M.pure (.bool true) := by
  funext h
  have h1 := callW_of hOther small18_ev (by simp)
  have e : ∀ h, callW pg 14 [] h = isoP (evBody (pg.cx (callW pg) Tryz.f14.ntmps ann14) fixW Tryz.f14 (pg.own 14) (cls noHs [])) h := fun h => congrFun (callW_iso hOther rfl rfl rfl []) h
  rw [e] at h1 ⊢
  unfold isoP at h1 ⊢
  generalize evBody (pg.cx (callW pg) Tryz.f14.ntmps ann14) fixW Tryz.f14 (pg.own 14) (cls noHs []) [] = r at h1 ⊢
  cases r with
  | ok v h' =>
    simp only [R.ok.injEq] at h1
    show R.ok (frz 6 h' v) h = _
    rw [h1.1]; rfl
  | pan v h' => cases h1
  | fail => cases h1
end Go.Proofs.YteemeakjlfnapaaGreatDoor
