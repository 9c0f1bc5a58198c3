/- The law StateTells: the row and its card. Conditions: the package variables that the row lists hold what it lists, as the card ties it. -/
import Derived.Test.YtihmmkncokjbaaaGreatDoorCards
import Derived.Test.YtihmmkncokjbaaaGreatDoorTie
import Derived.Test.YtihmmkncokjbaaaGreatDoorTm
set_option linter.unusedSimpArgs false
set_option linter.unusedVariables false
namespace Go.Proofs.YtihmmkncokjbaaaGreatDoor.stateTells
open Go Go.Av Go.Av.Ap Go.ChangeShapes Go.WideShapes Go.ChangeAt Go.RowKit Go.Joins Go.Deep
set_option maxRecDepth 1000000
theorem jA:(Rows.stateTellsRow.inPlace== Tryz.pinned.checked.prog.inPlace 5)=true:=by kernel_rfl
theorem jB:(Rows.stateTellsRow.unfollowed== Tryz.pinned.checked.prog.unfollowed 5)=true:=by kernel_rfl
theorem jC:(Rows.stateTellsRow.recurses== Tryz.pinned.checked.prog.recurses 5)=true:=by kernel_rfl
theorem jD:(Rows.stateTellsRow.named== Tryz.pinned.checked.prog.varsNamed 5)=true:=by kernel_rfl
theorem joined:joinedFacts Tryz.pinned.checked.prog 5 Tryz.f5 (OpenSpec.ofChange Rows.stateTellsSpec).bare Rows.stateTellsRow=true:=by
 simp only[joinedFacts,jA,jB,jC,jD,Bool.and_true];kernel_rfl
theorem wrap:Tryz.f5.isWrapper Tryz.pinned.checked.prog Rows.stateTellsRow.wrapper Rows.stateTellsRow.mainSum:=by
 unfold Func.isWrapper
 first|(rw[if_pos (by decide +kernel)];kernel_rfl)|(rw[if_neg (by decide +kernel)];exact⟨rfl,rfl⟩)
theorem named:Tryz.pinned.checked.prog.funcNamed Rows.stateTellsRow.func=some 5:=by kernel_rfl
theorem Oh:Tryz.f5.isInstance Tryz.pinned.checked.prog Rows.stateTellsRow.origin Rows.stateTellsRow.targs:=of_decide_eq_true (by kernel_rfl)
theorem said:Rows.StateTellsSaid:=
 OpenClaim.holds_of_cond 5 Tryz.f5 rfl rfl rfl rfl rfl rfl rfl ⟨rfl,rfl,rfl,rfl,rfl⟩ rfl rfl rfl rfl rfl named Tryz.func5 joined
  Oh wrap
  (fun os started H enc _ F=>by rw[OpenClaim.pre_eq_preRow];exact lifted os started H enc F)
theorem plain(f:FuncId)(fn:Func)(hf:Tryz.pinned.checked.prog.funcNamed "lading/ladinglaw23.StateTells" = some f)(hfn:Tryz.pinned.checked.prog.funcs[f]? = some fn):
  true=Tryz.pinned.checked.prog.looks []/\∀(j:Nat) t,fn.params[j]? = some t->Tryz.pinned.checked.prog.wantsStandIn t=false:=by
 obtain rfl:f=5:=Option.some.inj ((show Tryz.prog.funcNamed "lading/ladinglaw23.StateTells" = some 5 by kernel_rfl).symm.trans hf) |>.symm
 obtain rfl:fn=Tryz.f5:=(Option.some.inj (Tryz.func5.symm.trans hfn)).symm;refine⟨by kernel_rfl,fun j t ht=>?_⟩;rw[Tryz.params5]at ht;have ht':t=35\/t=45\/t=9\/t=29\/t=30:=by
  have:=Array.mem_of_getElem? ht
  simp only[List.mem_toArray,List.mem_cons,List.not_mem_nil,or_false]at this;simpa using this
 rcases ht' with rfl|rfl|rfl|rfl|rfl
 ·exact (show Tryz.prog.wantsStandIn 35=false by kernel_rfl)
 ·exact (show Tryz.prog.wantsStandIn 45=false by kernel_rfl)
 ·exact (show Tryz.prog.wantsStandIn 9=false by kernel_rfl)
 ·exact (show Tryz.prog.wantsStandIn 29=false by kernel_rfl)
 ·exact (show Tryz.prog.wantsStandIn 30=false by kernel_rfl)
theorem card:Rows.StateTellsCardSaid:=
 Claim7.holds_tied_plain_at .later [] _ _ _ _ said (fun _ h=>by cases h) (by kernel_rfl) (fun _ h=>by cases h) stateTells_row_tie rfl ⟨rfl,rfl⟩ (by kernel_rfl) rfl plain (by kernel_rfl)
end Go.Proofs.YtihmmkncokjbaaaGreatDoor.stateTells
namespace Go.Proofs.YtihmmkncokjbaaaGreatDoor
theorem stateTells_said:Rows.StateTellsCardSaid:=stateTells.card
end Go.Proofs.YtihmmkncokjbaaaGreatDoor
