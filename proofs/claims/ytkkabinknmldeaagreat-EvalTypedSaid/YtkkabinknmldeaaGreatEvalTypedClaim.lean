/- The law EvalTyped: the row. No condition. -/
import Derived.Test.YtkkabinknmldeaaGreatTh
set_option linter.unusedSimpArgs false
set_option linter.unusedVariables false
namespace Go.Proofs.YtkkabinknmldeaaGreat.evalTyped
open Go Go.Av Go.Av.Ap Go.ChangeShapes Go.WideShapes Go.ChangeAt Go.RowKit Go.Joins Go.Deep
set_option maxRecDepth 1000000
theorem jA:(Rows.evalTypedRow.inPlace== Tryz.pinned.checked.prog.inPlace 6)=true:=by kernel_rfl
theorem jB:(Rows.evalTypedRow.unfollowed== Tryz.pinned.checked.prog.unfollowed 6)=true:=by kernel_rfl
theorem jC:(Rows.evalTypedRow.recurses== Tryz.pinned.checked.prog.recurses 6)=true:=by kernel_rfl
theorem jD:(Rows.evalTypedRow.named== Tryz.pinned.checked.prog.varsNamed 6)=true:=by kernel_rfl
theorem joined:joinedFacts Tryz.pinned.checked.prog 6 Tryz.f6 (OpenSpec.ofChange Rows.evalTypedSpec).bare Rows.evalTypedRow=true:=by
 simp only[joinedFacts,jA,jB,jC,jD,Bool.and_true]
 kernel_rfl
theorem wrap:Tryz.f6.isWrapper Tryz.pinned.checked.prog Rows.evalTypedRow.wrapper Rows.evalTypedRow.mainSum:=by
 unfold Func.isWrapper
 first | (rw[if_pos (by decide +kernel)];kernel_rfl) | (rw[if_neg (by decide +kernel)];exact⟨rfl,rfl⟩)
theorem named:Tryz.pinned.checked.prog.funcNamed Rows.evalTypedRow.func=some 6:=by kernel_rfl
theorem M8:Tryz.f6.isInstance Tryz.pinned.checked.prog Rows.evalTypedRow.origin Rows.evalTypedRow.targs:=of_decide_eq_true (by kernel_rfl)
theorem said:Rows.EvalTypedSaid:=
 OpenClaim.holds_of_cond 6 Tryz.f6 rfl rfl rfl rfl rfl rfl rfl ⟨rfl,rfl,rfl,rfl,rfl⟩ rfl rfl rfl rfl rfl named Tryz.func6 joined
  M8 wrap
  (fun os started H enc _ F=>by rw[OpenClaim.pre_eq_preRow];exact lifted os started H enc F)
end Go.Proofs.YtkkabinknmldeaaGreat.evalTyped
namespace Go.Proofs.YtkkabinknmldeaaGreat
theorem evalTyped_said:Rows.EvalTypedSaid:=evalTyped.said
end Go.Proofs.YtkkabinknmldeaaGreat
