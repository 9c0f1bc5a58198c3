/- The law ExposeRuns: the row. No condition. -/
import Derived.Test.YtkkdcdofponfiaaGreatTj
set_option linter.unusedSimpArgs false
set_option linter.unusedVariables false
namespace Go.Proofs.YtkkdcdofponfiaaGreat.exposeRuns
open Go Go.Av Go.Av.Ap Go.ChangeShapes Go.WideShapes Go.ChangeAt Go.RowKit Go.Joins Go.Deep
set_option maxRecDepth 1000000
theorem jA:(Rows.exposeRunsRow.inPlace== Tryz.pinned.checked.prog.inPlace 3)=true:=by kernel_rfl
theorem jB:(Rows.exposeRunsRow.unfollowed== Tryz.pinned.checked.prog.unfollowed 3)=true:=by kernel_rfl
theorem jC:(Rows.exposeRunsRow.recurses== Tryz.pinned.checked.prog.recurses 3)=true:=by kernel_rfl
theorem jD:(Rows.exposeRunsRow.named== Tryz.pinned.checked.prog.varsNamed 3)=true:=by kernel_rfl
theorem joined:joinedFacts Tryz.pinned.checked.prog 3 Tryz.f3 (OpenSpec.ofChange Rows.exposeRunsSpec).bare Rows.exposeRunsRow=true:=by
 simp only[joinedFacts,jA,jB,jC,jD,Bool.and_true];kernel_rfl
theorem wrap:Tryz.f3.isWrapper Tryz.pinned.checked.prog Rows.exposeRunsRow.wrapper Rows.exposeRunsRow.mainSum:=by
 unfold Func.isWrapper
 first|(rw[if_pos (by decide +kernel)];kernel_rfl)|(rw[if_neg (by decide +kernel)];exact⟨rfl,rfl⟩)
theorem named:Tryz.pinned.checked.prog.funcNamed Rows.exposeRunsRow.func=some 3:=by kernel_rfl
theorem ZU:Tryz.f3.isInstance Tryz.pinned.checked.prog Rows.exposeRunsRow.origin Rows.exposeRunsRow.targs:=of_decide_eq_true (by kernel_rfl)
theorem said:Rows.ExposeRunsSaid:=
 OpenClaim.holds_of_cond 3 Tryz.f3 rfl rfl rfl rfl rfl rfl rfl ⟨rfl,rfl,rfl,rfl,rfl⟩ rfl rfl rfl rfl rfl named Tryz.func3 joined
  ZU wrap
  (fun os started H enc _ F=>by rw[OpenClaim.pre_eq_preRow];exact lifted os started H enc F)
end Go.Proofs.YtkkdcdofponfiaaGreat.exposeRuns
namespace Go.Proofs.YtkkdcdofponfiaaGreat
theorem exposeRuns_said:Rows.ExposeRunsSaid:=exposeRuns.said
end Go.Proofs.YtkkdcdofponfiaaGreat
