/- The law CompatClient: the row and its card. Conditions: the package variables that the row lists hold what it lists, as the card ties it. -/
import Derived.Test.YteemeakjlfnapaaGreatDoorCards
import Derived.Test.YteemeakjlfnapaaGreatDoorTie
import Derived.Test.YteemeakjlfnapaaGreatDoorTf
set_option linter.unusedSimpArgs false
set_option linter.unusedVariables false
namespace Go.Proofs.YteemeakjlfnapaaGreatDoor.compatClient
open Go Go.Av Go.Av.Ap Go.ChangeShapes Go.WideShapes Go.ChangeAt Go.RowKit Go.Joins Go.Deep
set_option maxRecDepth 1000000
theorem jA:(Rows.compatClientRow.inPlace== Tryz.pinned.checked.prog.inPlace 10)=true:=by kernel_rfl
theorem jB:(Rows.compatClientRow.unfollowed== Tryz.pinned.checked.prog.unfollowed 10)=true:=by kernel_rfl
theorem jC:(Rows.compatClientRow.recurses== Tryz.pinned.checked.prog.recurses 10)=true:=by kernel_rfl
theorem jD:(Rows.compatClientRow.named== Tryz.pinned.checked.prog.varsNamed 10)=true:=by kernel_rfl
theorem joined:joinedFacts Tryz.pinned.checked.prog 10 Tryz.f10 (OpenSpec.ofChange Rows.compatClientSpec).bare Rows.compatClientRow=true:=by
 simp only[joinedFacts,jA,jB,jC,jD,Bool.and_true];kernel_rfl
theorem wrap:Tryz.f10.isWrapper Tryz.pinned.checked.prog Rows.compatClientRow.wrapper Rows.compatClientRow.mainSum:=by
 unfold Func.isWrapper
 first|(rw[if_pos (by decide +kernel)];kernel_rfl)|(rw[if_neg (by decide +kernel)];exact⟨rfl,rfl⟩)
theorem named:Tryz.pinned.checked.prog.funcNamed Rows.compatClientRow.func=some 10:=by kernel_rfl
theorem FT:Tryz.f10.isInstance Tryz.pinned.checked.prog Rows.compatClientRow.origin Rows.compatClientRow.targs:=of_decide_eq_true (by kernel_rfl)
theorem said:Rows.CompatClientSaid:=
 OpenClaim.holds_of_cond 10 Tryz.f10 rfl rfl rfl rfl rfl rfl rfl ⟨rfl,rfl,rfl,rfl,rfl⟩ rfl rfl rfl rfl rfl named Tryz.func10 joined
  FT wrap
  (fun os started H enc _ F=>by rw[OpenClaim.pre_eq_preRow];exact lifted os started H enc F)
theorem plain(f:FuncId)(fn:Func)(hf:Tryz.pinned.checked.prog.funcNamed "lading/ladinglaw18.CompatClient" = some f)(hfn:Tryz.pinned.checked.prog.funcs[f]? = some fn):
  true=Tryz.pinned.checked.prog.looks []/\∀(j:Nat) t,fn.params[j]? = some t->Tryz.pinned.checked.prog.wantsStandIn t=false:=by
 obtain rfl:f=10:=Option.some.inj ((show Tryz.prog.funcNamed "lading/ladinglaw18.CompatClient" = some 10 by kernel_rfl).symm.trans hf) |>.symm
 obtain rfl:fn=Tryz.f10:=(Option.some.inj (Tryz.func10.symm.trans hfn)).symm;refine⟨by kernel_rfl,fun j t ht=>?_⟩;rw[Tryz.params10]at ht;have ht':t=24:=by
  have:=Array.mem_of_getElem? ht
  simp only[List.mem_toArray,List.mem_cons,List.not_mem_nil,or_false]at this;rcases this with rfl|rfl<;>simp
 rcases ht' with rfl
 ·exact (show Tryz.prog.wantsStandIn 24=false by kernel_rfl)
theorem card:Rows.CompatClientCardSaid:=
 Claim7.holds_tied_plain_at .later [] _ _ _ _ said (fun _ h=>by cases h) (by kernel_rfl) (fun _ h=>by cases h) compatClient_row_tie rfl ⟨rfl,rfl⟩ (by kernel_rfl) rfl plain (by kernel_rfl)
end Go.Proofs.YteemeakjlfnapaaGreatDoor.compatClient
namespace Go.Proofs.YteemeakjlfnapaaGreatDoor
theorem compatClient_said:Rows.CompatClientCardSaid:=compatClient.card
end Go.Proofs.YteemeakjlfnapaaGreatDoor
