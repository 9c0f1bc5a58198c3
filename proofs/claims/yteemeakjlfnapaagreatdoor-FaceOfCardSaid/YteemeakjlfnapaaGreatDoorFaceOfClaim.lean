/- The law FaceOf: the row and its card. Conditions: the package variables that the row lists hold what it lists, as the card ties it. -/
import Derived.Test.YteemeakjlfnapaaGreatDoorCards
import Derived.Test.YteemeakjlfnapaaGreatDoorTie
import Derived.Test.YteemeakjlfnapaaGreatDoorTe
set_option linter.unusedSimpArgs false
set_option linter.unusedVariables false
namespace Go.Proofs.YteemeakjlfnapaaGreatDoor.faceOf
open Go Go.Av Go.Av.Ap Go.ChangeShapes Go.WideShapes Go.ChangeAt Go.RowKit Go.Joins Go.Deep
set_option maxRecDepth 1000000
theorem jA:(Rows.faceOfRow.inPlace== Tryz.pinned.checked.prog.inPlace 9)=true:=by kernel_rfl
theorem jB:(Rows.faceOfRow.unfollowed== Tryz.pinned.checked.prog.unfollowed 9)=true:=by kernel_rfl
theorem jC:(Rows.faceOfRow.recurses== Tryz.pinned.checked.prog.recurses 9)=true:=by kernel_rfl
theorem jD:(Rows.faceOfRow.named== Tryz.pinned.checked.prog.varsNamed 9)=true:=by kernel_rfl
theorem joined:joinedFacts Tryz.pinned.checked.prog 9 Tryz.f9 (OpenSpec.ofChange Rows.faceOfSpec).bare Rows.faceOfRow=true:=by
 simp only[joinedFacts,jA,jB,jC,jD,Bool.and_true];kernel_rfl
theorem wrap:Tryz.f9.isWrapper Tryz.pinned.checked.prog Rows.faceOfRow.wrapper Rows.faceOfRow.mainSum:=by
 unfold Func.isWrapper
 first|(rw[if_pos (by decide +kernel)];kernel_rfl)|(rw[if_neg (by decide +kernel)];exact⟨rfl,rfl⟩)
theorem named:Tryz.pinned.checked.prog.funcNamed Rows.faceOfRow.func=some 9:=by kernel_rfl
theorem inst:Tryz.f9.isInstance Tryz.pinned.checked.prog Rows.faceOfRow.origin Rows.faceOfRow.targs:=of_decide_eq_true (by kernel_rfl)
theorem said:Rows.FaceOfSaid:=
 OpenClaim.holds_of_cond 9 Tryz.f9 rfl rfl rfl rfl rfl rfl rfl ⟨rfl,rfl,rfl,rfl,rfl⟩ rfl rfl rfl rfl rfl named Tryz.func9 joined
  inst wrap
  (fun os started H enc _ F=>by rw[OpenClaim.pre_eq_preRow];exact lifted os started H enc F)
theorem plain(f:FuncId)(fn:Func)(hf:Tryz.pinned.checked.prog.funcNamed "lading/ladinglaw17.FaceOf" = some f)(hfn:Tryz.pinned.checked.prog.funcs[f]? = some fn):
  true=Tryz.pinned.checked.prog.looks []/\∀(j:Nat) t,fn.params[j]? = some t->Tryz.pinned.checked.prog.wantsStandIn t=false:=by
 obtain rfl:f=9:=Option.some.inj ((show Tryz.prog.funcNamed "lading/ladinglaw17.FaceOf" = some 9 by kernel_rfl).symm.trans hf) |>.symm
 obtain rfl:fn=Tryz.f9:=(Option.some.inj (Tryz.func9.symm.trans hfn)).symm;refine⟨by kernel_rfl,fun j t ht=>?_⟩;rw[Tryz.params9]at ht;have ht':t=41:=by
  have:=Array.mem_of_getElem? ht
  simp only[List.mem_toArray,List.mem_cons,List.not_mem_nil,or_false]at this;rcases this with rfl<;>simp
 rcases ht' with rfl
 ·exact (show Tryz.prog.wantsStandIn 41=false by kernel_rfl)
theorem card:Rows.FaceOfCardSaid:=
 Claim7.holds_tied_plain_at .later [] _ _ _ _ said (fun _ h=>by cases h) (by kernel_rfl) (fun _ h=>by cases h) faceOf_row_tie rfl ⟨rfl,rfl⟩ (by kernel_rfl) rfl plain (by kernel_rfl)
end Go.Proofs.YteemeakjlfnapaaGreatDoor.faceOf
namespace Go.Proofs.YteemeakjlfnapaaGreatDoor
theorem faceOf_said:Rows.FaceOfCardSaid:=faceOf.card
end Go.Proofs.YteemeakjlfnapaaGreatDoor
