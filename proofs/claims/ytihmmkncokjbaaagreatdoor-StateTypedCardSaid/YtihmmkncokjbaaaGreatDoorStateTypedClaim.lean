/- The law StateTyped: the row and its card. Conditions: the package variables that the row lists hold what it lists, as the card ties it. -/
import Derived.Test.YtihmmkncokjbaaaGreatDoorCards
import Derived.Test.YtihmmkncokjbaaaGreatDoorTie
import Derived.Test.YtihmmkncokjbaaaGreatDoorTj
set_option linter.unusedSimpArgs false
set_option linter.unusedVariables false
namespace Go.Proofs.YtihmmkncokjbaaaGreatDoor.stateTyped
open Go Go.Av Go.Av.Ap Go.ChangeShapes Go.WideShapes Go.ChangeAt Go.RowKit Go.Joins Go.Deep
set_option maxRecDepth 1000000
theorem jA:(Rows.stateTypedRow.inPlace== Tryz.pinned.checked.prog.inPlace 7)=true:=by kernel_rfl
theorem jB:(Rows.stateTypedRow.unfollowed== Tryz.pinned.checked.prog.unfollowed 7)=true:=by kernel_rfl
theorem jC:(Rows.stateTypedRow.recurses== Tryz.pinned.checked.prog.recurses 7)=true:=by kernel_rfl
theorem jD:(Rows.stateTypedRow.named== Tryz.pinned.checked.prog.varsNamed 7)=true:=by kernel_rfl
theorem joined:joinedFacts Tryz.pinned.checked.prog 7 Tryz.f7 (OpenSpec.ofChange Rows.stateTypedSpec).bare Rows.stateTypedRow=true:=by
 simp only[joinedFacts,jA,jB,jC,jD,Bool.and_true];kernel_rfl
theorem wrap:Tryz.f7.isWrapper Tryz.pinned.checked.prog Rows.stateTypedRow.wrapper Rows.stateTypedRow.mainSum:=by
 unfold Func.isWrapper
 first|(rw[if_pos (by decide +kernel)];kernel_rfl)|(rw[if_neg (by decide +kernel)];exact⟨rfl,rfl⟩)
theorem named:Tryz.pinned.checked.prog.funcNamed Rows.stateTypedRow.func=some 7:=by kernel_rfl
theorem NL:Tryz.f7.isInstance Tryz.pinned.checked.prog Rows.stateTypedRow.origin Rows.stateTypedRow.targs:=of_decide_eq_true (by kernel_rfl)
theorem said:Rows.StateTypedSaid:=
 OpenClaim.holds_of_cond 7 Tryz.f7 rfl rfl rfl rfl rfl rfl rfl ⟨rfl,rfl,rfl,rfl,rfl⟩ rfl rfl rfl rfl rfl named Tryz.func7 joined
  NL wrap
  (fun os started H enc _ F=>by rw[OpenClaim.pre_eq_preRow];exact lifted os started H enc F)
theorem plain(f:FuncId)(fn:Func)(hf:Tryz.pinned.checked.prog.funcNamed "lading/ladinglaw23.StateTyped" = some f)(hfn:Tryz.pinned.checked.prog.funcs[f]? = some fn):
  true=Tryz.pinned.checked.prog.looks []/\∀(j:Nat) t,fn.params[j]? = some t->Tryz.pinned.checked.prog.wantsStandIn t=false:=by
 obtain rfl:f=7:=Option.some.inj ((show Tryz.prog.funcNamed "lading/ladinglaw23.StateTyped" = some 7 by kernel_rfl).symm.trans hf) |>.symm
 obtain rfl:fn=Tryz.f7:=(Option.some.inj (Tryz.func7.symm.trans hfn)).symm;refine⟨by kernel_rfl,fun j t ht=>?_⟩;rw[Tryz.params7]at ht;have ht':t=29\/t=30:=by
  have:=Array.mem_of_getElem? ht
  simp only[List.mem_toArray,List.mem_cons,List.not_mem_nil,FU]at this;simpa using this
 rcases ht' with rfl|rfl
 ·exact (show Tryz.prog.wantsStandIn 29=false by kernel_rfl)
 ·exact (show Tryz.prog.wantsStandIn 30=false by kernel_rfl)
theorem card:Rows.StateTypedCardSaid:=
 Claim7.holds_tied_plain_at .later [] _ _ _ _ said (fun _ h=>by cases h) (by kernel_rfl) (fun _ h=>by cases h) stateTyped_row_tie rfl ⟨rfl,rfl⟩ (by kernel_rfl) rfl plain (by kernel_rfl)
end Go.Proofs.YtihmmkncokjbaaaGreatDoor.stateTyped
namespace Go.Proofs.YtihmmkncokjbaaaGreatDoor
theorem stateTyped_said:Rows.StateTypedCardSaid:=stateTyped.card
end Go.Proofs.YtihmmkncokjbaaaGreatDoor
