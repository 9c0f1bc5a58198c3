/- The law CompatModules: the row and its card. Conditions: the package variables that the row lists hold what it lists, as the card ties it. -/
import Derived.Test.YteemeakjlfnapaaGreatDoorCards
import Derived.Test.YteemeakjlfnapaaGreatDoorTie
import Derived.Test.YteemeakjlfnapaaGreatDoorTe
set_option linter.unusedSimpArgs false
set_option linter.unusedVariables false
namespace Go.Proofs.YteemeakjlfnapaaGreatDoor.compatModules
open Go Go.Av Go.Av.Ap Go.ChangeShapes Go.WideShapes Go.ChangeAt Go.RowKit Go.Joins Go.Deep
set_option maxRecDepth 1000000
theorem jA:(Rows.compatModulesRow.inPlace== Tryz.pinned.checked.prog.inPlace 12)=true:=by kernel_rfl
theorem jB:(Rows.compatModulesRow.unfollowed== Tryz.pinned.checked.prog.unfollowed 12)=true:=by kernel_rfl
theorem jC:(Rows.compatModulesRow.recurses== Tryz.pinned.checked.prog.recurses 12)=true:=by kernel_rfl
theorem jD:(Rows.compatModulesRow.named== Tryz.pinned.checked.prog.varsNamed 12)=true:=by kernel_rfl
theorem joined:joinedFacts Tryz.pinned.checked.prog 12 Tryz.f12 (OpenSpec.ofChange Rows.compatModulesSpec).bare Rows.compatModulesRow=true:=by
 simp only[joinedFacts,jA,jB,jC,jD,Bool.and_true];kernel_rfl
theorem wrap:Tryz.f12.isWrapper Tryz.pinned.checked.prog Rows.compatModulesRow.wrapper Rows.compatModulesRow.mainSum:=by
 unfold Func.isWrapper
 first|(rw[if_pos (by decide +kernel)];kernel_rfl)|(rw[if_neg (by decide +kernel)];exact⟨rfl,rfl⟩)
theorem named:Tryz.pinned.checked.prog.funcNamed Rows.compatModulesRow.func=some 12:=by kernel_rfl
theorem inst:Tryz.f12.isInstance Tryz.pinned.checked.prog Rows.compatModulesRow.origin Rows.compatModulesRow.targs:=of_decide_eq_true (by kernel_rfl)
theorem said:Rows.CompatModulesSaid:=
 OpenClaim.holds_of_cond 12 Tryz.f12 rfl rfl rfl rfl rfl rfl rfl ⟨rfl,rfl,rfl,rfl,rfl⟩ rfl rfl rfl rfl rfl named Tryz.func12 joined
  inst wrap
  (fun os started H enc _ F=>by rw[OpenClaim.pre_eq_preRow];exact lifted os started H enc F)
theorem plain(f:FuncId)(fn:Func)(hf:Tryz.pinned.checked.prog.funcNamed "lading/ladinglaw18.CompatModules" = some f)(hfn:Tryz.pinned.checked.prog.funcs[f]? = some fn):
  true=Tryz.pinned.checked.prog.looks []/\∀(j:Nat) t,fn.params[j]? = some t->Tryz.pinned.checked.prog.wantsStandIn t=false:=by
 obtain rfl:f=12:=Option.some.inj ((show Tryz.prog.funcNamed "lading/ladinglaw18.CompatModules" = some 12 by kernel_rfl).symm.trans hf) |>.symm
 obtain rfl:fn=Tryz.f12:=(Option.some.inj (Tryz.func12.symm.trans hfn)).symm;refine⟨by kernel_rfl,fun j t ht=>?_⟩;rw[Tryz.params12]at ht;have ht':t=41\/t=3:=by
  have:=Array.mem_of_getElem? ht
  simp only[List.mem_toArray,List.mem_cons,List.not_mem_nil,or_false]at this;rcases this with rfl|rfl<;>simp
 rcases ht' with rfl|rfl
 ·exact (show Tryz.prog.wantsStandIn 41=false by kernel_rfl)
 ·exact (show Tryz.prog.wantsStandIn 3=false by kernel_rfl)
theorem card:Rows.CompatModulesCardSaid:=
 Claim7.holds_tied_plain_at .later [] _ _ _ _ said (fun _ h=>by cases h) (by kernel_rfl) (fun _ h=>by cases h) compatModules_row_tie rfl ⟨rfl,rfl⟩ (by kernel_rfl) rfl plain (by kernel_rfl)
end Go.Proofs.YteemeakjlfnapaaGreatDoor.compatModules
namespace Go.Proofs.YteemeakjlfnapaaGreatDoor
theorem compatModules_said:Rows.CompatModulesCardSaid:=compatModules.card
end Go.Proofs.YteemeakjlfnapaaGreatDoor
