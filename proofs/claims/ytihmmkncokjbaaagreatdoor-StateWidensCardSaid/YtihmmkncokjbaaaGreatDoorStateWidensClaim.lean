/- The law StateWidens: the row and its card. Conditions: the package variables that the row lists hold what it lists, as the card ties it. -/
import Derived.Test.YtihmmkncokjbaaaGreatDoorCards
import Derived.Test.YtihmmkncokjbaaaGreatDoorTie
import Derived.Test.YtihmmkncokjbaaaGreatDoorTe
set_option linter.unusedSimpArgs false
set_option linter.unusedVariables false
namespace Go.Proofs.YtihmmkncokjbaaaGreatDoor.stateWidens
open Go Go.Av Go.Av.Ap Go.ChangeShapes Go.WideShapes Go.ChangeAt Go.RowKit Go.Joins Go.Deep
set_option maxRecDepth 1000000
theorem jA:(Rows.stateWidensRow.inPlace== Tryz.pinned.checked.prog.inPlace 6)=true:=by kernel_rfl
theorem jB:(Rows.stateWidensRow.unfollowed== Tryz.pinned.checked.prog.unfollowed 6)=true:=by kernel_rfl
theorem jC:(Rows.stateWidensRow.recurses== Tryz.pinned.checked.prog.recurses 6)=true:=by kernel_rfl
theorem jD:(Rows.stateWidensRow.named== Tryz.pinned.checked.prog.varsNamed 6)=true:=by kernel_rfl
theorem joined:joinedFacts Tryz.pinned.checked.prog 6 Tryz.f6 (OpenSpec.ofChange Rows.stateWidensSpec).bare Rows.stateWidensRow=true:=by
 simp only[joinedFacts,jA,jB,jC,jD,Bool.and_true];kernel_rfl
theorem wrap:Tryz.f6.isWrapper Tryz.pinned.checked.prog Rows.stateWidensRow.wrapper Rows.stateWidensRow.mainSum:=by
 unfold Func.isWrapper
 first|(rw[if_pos (by decide +kernel)];kernel_rfl)|(rw[if_neg (by decide +kernel)];exact⟨rfl,rfl⟩)
theorem named:Tryz.pinned.checked.prog.funcNamed Rows.stateWidensRow.func=some 6:=by kernel_rfl
theorem Fh:Tryz.f6.isInstance Tryz.pinned.checked.prog Rows.stateWidensRow.origin Rows.stateWidensRow.targs:=of_decide_eq_true (by kernel_rfl)
theorem said:Rows.StateWidensSaid:=
 OpenClaim.holds_of_cond 6 Tryz.f6 rfl rfl rfl rfl rfl rfl rfl ⟨rfl,rfl,rfl,rfl,rfl⟩ rfl rfl rfl rfl rfl named Tryz.func6 joined
  Fh wrap
  (fun os started H enc _ F=>by rw[OpenClaim.pre_eq_preRow];exact lifted os started H enc F)
theorem plain(f:FuncId)(fn:Func)(hf:Tryz.pinned.checked.prog.funcNamed "lading/ladinglaw23.StateWidens" = some f)(hfn:Tryz.pinned.checked.prog.funcs[f]? = some fn):
  true=Tryz.pinned.checked.prog.looks []/\∀(j:Nat) t,fn.params[j]? = some t->Tryz.pinned.checked.prog.wantsStandIn t=false:=by
 obtain rfl:f=6:=Option.some.inj ((show Tryz.prog.funcNamed "lading/ladinglaw23.StateWidens" = some 6 by kernel_rfl).symm.trans hf) |>.symm
 obtain rfl:fn=Tryz.f6:=(Option.some.inj (Tryz.func6.symm.trans hfn)).symm;refine⟨by kernel_rfl,fun j t ht=>?_⟩;rw[Tryz.params6]at ht;have ht':t=35\/t=45:=by
  have:=Array.mem_of_getElem? ht
  simp only[List.mem_toArray,List.mem_cons,List.not_mem_nil,or_false]at this;simpa using this
 rcases ht' with rfl|rfl
 ·exact (show Tryz.prog.wantsStandIn 35=false by kernel_rfl)
 ·exact (show Tryz.prog.wantsStandIn 45=false by kernel_rfl)
theorem card:Rows.StateWidensCardSaid:=
 Claim7.holds_tied_plain_at .later [] _ _ _ _ said (fun _ h=>by cases h) (by kernel_rfl) (fun _ h=>by cases h) stateWidens_row_tie rfl ⟨rfl,rfl⟩ (by kernel_rfl) rfl plain (by kernel_rfl)
end Go.Proofs.YtihmmkncokjbaaaGreatDoor.stateWidens
namespace Go.Proofs.YtihmmkncokjbaaaGreatDoor
theorem stateWidens_said:Rows.StateWidensCardSaid:=stateWidens.card
end Go.Proofs.YtihmmkncokjbaaaGreatDoor
