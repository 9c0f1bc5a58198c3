/- The law PatchKeeps: the row. No condition. -/
import Derived.Test.YtkidiopjcgeifaaGreatTk
set_option linter.unusedSimpArgs false
set_option linter.unusedVariables false
namespace Go.Proofs.YtkidiopjcgeifaaGreat.patchKeeps
open Go Go.Av Go.Av.Ap Go.ChangeShapes Go.WideShapes Go.ChangeAt Go.RowKit Go.Joins Go.Deep
set_option maxRecDepth 1000000
theorem jA:(Rows.patchKeepsRow.inPlace== Tryz.pinned.checked.prog.inPlace 3)=true:=by kernel_rfl
theorem jB:(Rows.patchKeepsRow.unfollowed== Tryz.pinned.checked.prog.unfollowed 3)=true:=by kernel_rfl
theorem jC:(Rows.patchKeepsRow.recurses== Tryz.pinned.checked.prog.recurses 3)=true:=by kernel_rfl
theorem jD:(Rows.patchKeepsRow.named== Tryz.pinned.checked.prog.varsNamed 3)=true:=by kernel_rfl
theorem joined:joinedFacts Tryz.pinned.checked.prog 3 Tryz.f3 (OpenSpec.ofChange Rows.patchKeepsSpec).bare Rows.patchKeepsRow=true:=by
 simp only[joinedFacts,jA,jB,jC,jD,Bool.and_true];kernel_rfl
theorem wrap:Tryz.f3.isWrapper Tryz.pinned.checked.prog Rows.patchKeepsRow.wrapper Rows.patchKeepsRow.mainSum:=by
 unfold Func.isWrapper
 first|(rw[if_pos (by decide +kernel)];kernel_rfl)|(rw[if_neg (by decide +kernel)];exact⟨rfl,rfl⟩)
theorem named:Tryz.pinned.checked.prog.funcNamed Rows.patchKeepsRow.func=some 3:=by kernel_rfl
theorem abu:Tryz.f3.isInstance Tryz.pinned.checked.prog Rows.patchKeepsRow.origin Rows.patchKeepsRow.targs:=of_decide_eq_true (by kernel_rfl)
theorem said:Rows.PatchKeepsSaid:=
 OpenClaim.holds_of_cond 3 Tryz.f3 rfl rfl rfl rfl rfl rfl rfl ⟨rfl,rfl,rfl,rfl,rfl⟩ rfl rfl rfl rfl rfl named Tryz.func3 joined
  abu wrap
  (fun os started H enc _ F=>by rw[OpenClaim.pre_eq_preRow];exact lifted os started H enc F)
end Go.Proofs.YtkidiopjcgeifaaGreat.patchKeeps
namespace Go.Proofs.YtkidiopjcgeifaaGreat
theorem patchKeeps_said:Rows.PatchKeepsSaid:=patchKeeps.said
end Go.Proofs.YtkidiopjcgeifaaGreat
