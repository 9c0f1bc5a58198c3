/- The law PatchTurns: the row. No condition. -/
import Derived.Test.YtblddnfanlkgiaaGreatTi
set_option linter.unusedSimpArgs false
set_option linter.unusedVariables false
namespace Go.Proofs.YtblddnfanlkgiaaGreat.patchTurns
open Go Go.Av Go.Av.Ap Go.ChangeShapes Go.WideShapes Go.ChangeAt Go.RowKit Go.Joins Go.Deep
set_option maxRecDepth 1000000
theorem jA:(Rows.patchTurnsRow.inPlace== Tryz.pinned.checked.prog.inPlace 3)=true:=by kernel_rfl
theorem jB:(Rows.patchTurnsRow.unfollowed== Tryz.pinned.checked.prog.unfollowed 3)=true:=by kernel_rfl
theorem jC:(Rows.patchTurnsRow.recurses== Tryz.pinned.checked.prog.recurses 3)=true:=by kernel_rfl
theorem jD:(Rows.patchTurnsRow.named== Tryz.pinned.checked.prog.varsNamed 3)=true:=by kernel_rfl
theorem joined:joinedFacts Tryz.pinned.checked.prog 3 Tryz.f3 (OpenSpec.ofChange Rows.patchTurnsSpec).bare Rows.patchTurnsRow=true:=by
 simp only[joinedFacts,jA,jB,jC,jD,Bool.and_true];kernel_rfl
theorem wrap:Tryz.f3.isWrapper Tryz.pinned.checked.prog Rows.patchTurnsRow.wrapper Rows.patchTurnsRow.mainSum:=by
 unfold Func.isWrapper
 first|(rw[if_pos (by decide +kernel)];kernel_rfl)|(rw[if_neg (by decide +kernel)];exact⟨rfl,rfl⟩)
theorem named:Tryz.pinned.checked.prog.funcNamed Rows.patchTurnsRow.func=some 3:=by kernel_rfl
theorem IG:Tryz.f3.isInstance Tryz.pinned.checked.prog Rows.patchTurnsRow.origin Rows.patchTurnsRow.targs:=of_decide_eq_true (by kernel_rfl)
theorem said:Rows.PatchTurnsSaid:=
 OpenClaim.holds_of_cond 3 Tryz.f3 rfl rfl rfl rfl rfl rfl rfl ⟨rfl,rfl,rfl,rfl,rfl⟩ rfl rfl rfl rfl rfl named Tryz.func3 joined
  IG wrap
  (fun os started H enc _ F=>by rw[OpenClaim.pre_eq_preRow];exact lifted os started H enc F)
end Go.Proofs.YtblddnfanlkgiaaGreat.patchTurns
namespace Go.Proofs.YtblddnfanlkgiaaGreat
theorem patchTurns_said:Rows.PatchTurnsSaid:=patchTurns.said
end Go.Proofs.YtblddnfanlkgiaaGreat
