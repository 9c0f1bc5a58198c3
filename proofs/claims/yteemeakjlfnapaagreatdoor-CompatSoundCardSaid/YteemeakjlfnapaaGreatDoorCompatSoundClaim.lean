/- The law CompatSound: the row and its card. Conditions: the package variables that the row lists hold what it lists, as the card ties it. -/
import Derived.Test.YteemeakjlfnapaaGreatDoorCards
import Derived.Test.YteemeakjlfnapaaGreatDoorTie
import Derived.Test.YteemeakjlfnapaaGreatDoorTf
set_option linter.unusedSimpArgs false
set_option linter.unusedVariables false
namespace Go.Proofs.YteemeakjlfnapaaGreatDoor.compatSound
open Go Go.Av Go.Av.Ap Go.ChangeShapes Go.WideShapes Go.ChangeAt Go.RowKit Go.Joins Go.Deep
set_option maxRecDepth 1000000
theorem jA:(Rows.compatSoundRow.inPlace== Tryz.pinned.checked.prog.inPlace 11)=true:=by kernel_rfl
theorem jB:(Rows.compatSoundRow.unfollowed== Tryz.pinned.checked.prog.unfollowed 11)=true:=by kernel_rfl
theorem jC:(Rows.compatSoundRow.recurses== Tryz.pinned.checked.prog.recurses 11)=true:=by kernel_rfl
theorem jD:(Rows.compatSoundRow.named== Tryz.pinned.checked.prog.varsNamed 11)=true:=by kernel_rfl
theorem joined:joinedFacts Tryz.pinned.checked.prog 11 Tryz.f11 (OpenSpec.ofChange Rows.compatSoundSpec).bare Rows.compatSoundRow=true:=by
 simp only[joinedFacts,jA,jB,jC,jD,Bool.and_true];kernel_rfl
theorem wrap:Tryz.f11.isWrapper Tryz.pinned.checked.prog Rows.compatSoundRow.wrapper Rows.compatSoundRow.mainSum:=by
 unfold Func.isWrapper
 first|(rw[if_pos (by decide +kernel)];kernel_rfl)|(rw[if_neg (by decide +kernel)];exact⟨rfl,rfl⟩)
theorem named:Tryz.pinned.checked.prog.funcNamed Rows.compatSoundRow.func=some 11:=by kernel_rfl
theorem FO:Tryz.f11.isInstance Tryz.pinned.checked.prog Rows.compatSoundRow.origin Rows.compatSoundRow.targs:=of_decide_eq_true (by kernel_rfl)
theorem said:Rows.CompatSoundSaid:=
 OpenClaim.holds_of_cond 11 Tryz.f11 rfl rfl rfl rfl rfl rfl rfl ⟨rfl,rfl,rfl,rfl,rfl⟩ rfl rfl rfl rfl rfl named Tryz.func11 joined
  FO wrap
  (fun os started H enc _ F=>by rw[OpenClaim.pre_eq_preRow];exact lifted os started H enc F)
theorem plain(f:FuncId)(fn:Func)(hf:Tryz.pinned.checked.prog.funcNamed "lading/ladinglaw18.CompatSound" = some f)(hfn:Tryz.pinned.checked.prog.funcs[f]? = some fn):
  true=Tryz.pinned.checked.prog.looks []/\∀(j:Nat) t,fn.params[j]? = some t->Tryz.pinned.checked.prog.wantsStandIn t=false:=by
 obtain rfl:f=11:=Option.some.inj ((show Tryz.prog.funcNamed "lading/ladinglaw18.CompatSound" = some 11 by kernel_rfl).symm.trans hf) |>.symm
 obtain rfl:fn=Tryz.f11:=(Option.some.inj (Tryz.func11.symm.trans hfn)).symm;refine⟨by kernel_rfl,fun j t ht=>?_⟩;rw[Tryz.params11]at ht;have ht':t=24\/t=41:=by
  have:=Array.mem_of_getElem? ht
  simp only[List.mem_toArray,List.mem_cons,List.not_mem_nil,or_false]at this;rcases this with rfl|rfl|rfl<;>simp
 rcases ht' with rfl|rfl
 ·exact (show Tryz.prog.wantsStandIn 24=false by kernel_rfl)
 ·exact (show Tryz.prog.wantsStandIn 41=false by kernel_rfl)
theorem card:Rows.CompatSoundCardSaid:=
 Claim7.holds_tied_plain_at .later [] _ _ _ _ said (fun _ h=>by cases h) (by kernel_rfl) (fun _ h=>by cases h) compatSound_row_tie rfl ⟨rfl,rfl⟩ (by kernel_rfl) rfl plain (by kernel_rfl)
end Go.Proofs.YteemeakjlfnapaaGreatDoor.compatSound
namespace Go.Proofs.YteemeakjlfnapaaGreatDoor
theorem compatSound_said:Rows.CompatSoundCardSaid:=compatSound.card
end Go.Proofs.YteemeakjlfnapaaGreatDoor
