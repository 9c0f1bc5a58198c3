/- The law FaceUses: the row and its card. Conditions: the package variables that the row lists hold what it lists, as the card ties it. -/
import Derived.Test.YteemeakjlfnapaaGreatDoorCards
import Derived.Test.YteemeakjlfnapaaGreatDoorTie
import Derived.Test.YteemeakjlfnapaaGreatDoorTf
set_option linter.unusedSimpArgs false
set_option linter.unusedVariables false
namespace Go.Proofs.YteemeakjlfnapaaGreatDoor.faceUses
open Go Go.Av Go.Av.Ap Go.ChangeShapes Go.WideShapes Go.ChangeAt Go.RowKit Go.Joins Go.Deep
set_option maxRecDepth 1000000
theorem jA:(Rows.faceUsesRow.inPlace== Tryz.pinned.checked.prog.inPlace 13)=true:=by kernel_rfl
theorem jB:(Rows.faceUsesRow.unfollowed== Tryz.pinned.checked.prog.unfollowed 13)=true:=by kernel_rfl
theorem jC:(Rows.faceUsesRow.recurses== Tryz.pinned.checked.prog.recurses 13)=true:=by kernel_rfl
theorem jD:(Rows.faceUsesRow.named== Tryz.pinned.checked.prog.varsNamed 13)=true:=by kernel_rfl
theorem joined:joinedFacts Tryz.pinned.checked.prog 13 Tryz.f13 (OpenSpec.ofChange Rows.faceUsesSpec).bare Rows.faceUsesRow=true:=by
 simp only[joinedFacts,jA,jB,jC,jD,Bool.and_true];kernel_rfl
theorem wrap:Tryz.f13.isWrapper Tryz.pinned.checked.prog Rows.faceUsesRow.wrapper Rows.faceUsesRow.mainSum:=by
 unfold Func.isWrapper
 first|(rw[if_pos (by decide +kernel)];kernel_rfl)|(rw[if_neg (by decide +kernel)];exact⟨rfl,rfl⟩)
theorem named:Tryz.pinned.checked.prog.funcNamed Rows.faceUsesRow.func=some 13:=by kernel_rfl
theorem inst:Tryz.f13.isInstance Tryz.pinned.checked.prog Rows.faceUsesRow.origin Rows.faceUsesRow.targs:=of_decide_eq_true (by kernel_rfl)
theorem said:Rows.FaceUsesSaid:=
 OpenClaim.holds_of_cond 13 Tryz.f13 rfl rfl rfl rfl rfl rfl rfl ⟨rfl,rfl,rfl,rfl,rfl⟩ rfl rfl rfl rfl rfl named Tryz.func13 joined
  inst wrap
  (fun os started H enc _ F=>by rw[OpenClaim.pre_eq_preRow];exact lifted os started H enc F)
theorem plain(f:FuncId)(fn:Func)(hf:Tryz.pinned.checked.prog.funcNamed "lading/ladinglaw17.FaceUses" = some f)(hfn:Tryz.pinned.checked.prog.funcs[f]? = some fn):
  true=Tryz.pinned.checked.prog.looks []/\∀(j:Nat) t,fn.params[j]? = some t->Tryz.pinned.checked.prog.wantsStandIn t=false:=by
 obtain rfl:f=13:=Option.some.inj ((show Tryz.prog.funcNamed "lading/ladinglaw17.FaceUses" = some 13 by kernel_rfl).symm.trans hf) |>.symm
 obtain rfl:fn=Tryz.f13:=(Option.some.inj (Tryz.func13.symm.trans hfn)).symm;refine⟨by kernel_rfl,fun j t ht=>?_⟩;rw[Tryz.params13]at ht;have ht':t=56\/t=25\/t=47:=by
  have:=Array.mem_of_getElem? ht
  simp only[List.mem_toArray,List.mem_cons,List.not_mem_nil,or_false]at this;rcases this with rfl|rfl|rfl|rfl|rfl<;>simp
 rcases ht' with rfl|rfl|rfl
 ·exact (show Tryz.prog.wantsStandIn 56=false by kernel_rfl)
 ·exact (show Tryz.prog.wantsStandIn 25=false by kernel_rfl)
 ·exact (show Tryz.prog.wantsStandIn 47=false by kernel_rfl)
theorem card:Rows.FaceUsesCardSaid:=
 Claim7.holds_tied_plain_at .later [] _ _ _ _ said (fun _ h=>by cases h) (by kernel_rfl) (fun _ h=>by cases h) faceUses_row_tie rfl ⟨rfl,rfl⟩ (by kernel_rfl) rfl plain (by kernel_rfl)
end Go.Proofs.YteemeakjlfnapaaGreatDoor.faceUses
namespace Go.Proofs.YteemeakjlfnapaaGreatDoor
theorem faceUses_said:Rows.FaceUsesCardSaid:=faceUses.card
end Go.Proofs.YteemeakjlfnapaaGreatDoor
