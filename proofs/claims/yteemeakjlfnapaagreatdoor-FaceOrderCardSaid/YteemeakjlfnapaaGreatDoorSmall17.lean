/- The examples of the documentation of layer 17: small() is true. No condition. -/
import Derived.Test.YteemeakjlfnapaaGreatDoorAnn
import Derived.KernelRfl
namespace Go.Proofs.YteemeakjlfnapaaGreatDoor
open Go Go.Av
set_option maxRecDepth 1000000
theorem small17_ev : evCall pg 80 29 [] [] = .ok (.bool true) [] := by kernel_rfl
theorem small17_W : callW pg 29 [] = M.pure (.bool true) := by
  funext h
  have h1 := callW_of hOther small17_ev (by simp)
  have e : ∀ h, callW pg 29 [] h = isoP (evBody (pg.cx (callW pg) Tryz.f29.ntmps ann29) fixW Tryz.f29 (pg.own 29) (cls noHs [])) h := fun h => congrFun (callW_iso hOther rfl rfl rfl []) h
  rw [e] at h1 ⊢
  unfold isoP at h1 ⊢
  generalize evBody (pg.cx (callW pg) Tryz.f29.ntmps ann29) fixW Tryz.f29 (pg.own 29) (cls noHs []) [] = r at h1 ⊢
  cases r with
  | ok v h' =>
    simp only [R.ok.injEq] at h1
    show R.ok (frz 6 h' v) h = _
    rw [h1.1]; rfl
  | pan v h' => cases h1
  | fail => cases h1
end Go.Proofs.YteemeakjlfnapaaGreatDoor
