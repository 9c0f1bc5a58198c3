/- The law ReachStated: the row. No condition. -/
import Derived.Test.YtkkabinknmldeaaGreatTh
set_option linter.unusedSimpArgs false
set_option linter.unusedVariables false
namespace Go.Proofs.YtkkabinknmldeaaGreat.reachStated
open Go Go.Av Go.Av.Ap Go.ChangeShapes Go.WideShapes Go.ChangeAt Go.RowKit Go.Joins Go.Deep
set_option maxRecDepth 1000000
theorem jA:(Rows.reachStatedRow.inPlace== Tryz.pinned.checked.prog.inPlace 5)=true:=by kernel_rfl
theorem jB:(Rows.reachStatedRow.unfollowed== Tryz.pinned.checked.prog.unfollowed 5)=true:=by kernel_rfl
theorem jC:(Rows.reachStatedRow.recurses== Tryz.pinned.checked.prog.recurses 5)=true:=by kernel_rfl
theorem jD:(Rows.reachStatedRow.named== Tryz.pinned.checked.prog.varsNamed 5)=true:=by kernel_rfl
theorem joined:joinedFacts Tryz.pinned.checked.prog 5 Tryz.f5 (OpenSpec.ofChange Rows.reachStatedSpec).bare Rows.reachStatedRow=true:=by
 simp only[joinedFacts,jA,jB,jC,jD,Bool.and_true]
 kernel_rfl
theorem wrap:Tryz.f5.isWrapper Tryz.pinned.checked.prog Rows.reachStatedRow.wrapper Rows.reachStatedRow.mainSum:=by
 unfold Func.isWrapper
 first | (rw[if_pos (by decide +kernel)];kernel_rfl) | (rw[if_neg (by decide +kernel)];exact⟨rfl,rfl⟩)
theorem named:Tryz.pinned.checked.prog.funcNamed Rows.reachStatedRow.func=some 5:=by kernel_rfl
theorem Pk:Tryz.f5.isInstance Tryz.pinned.checked.prog Rows.reachStatedRow.origin Rows.reachStatedRow.targs:=of_decide_eq_true (by kernel_rfl)
theorem said:Rows.ReachStatedSaid:=
 OpenClaim.holds_of_cond 5 Tryz.f5 rfl rfl rfl rfl rfl rfl rfl ⟨rfl,rfl,rfl,rfl,rfl⟩ rfl rfl rfl rfl rfl named Tryz.func5 joined
  Pk wrap
  (fun os started H enc _ F=>by rw[OpenClaim.pre_eq_preRow];exact lifted os started H enc F)
end Go.Proofs.YtkkabinknmldeaaGreat.reachStated
namespace Go.Proofs.YtkkabinknmldeaaGreat
theorem reachStated_said:Rows.ReachStatedSaid:=reachStated.said
end Go.Proofs.YtkkabinknmldeaaGreat
