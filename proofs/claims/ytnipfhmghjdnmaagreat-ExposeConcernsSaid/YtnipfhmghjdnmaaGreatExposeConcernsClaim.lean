/- For all its arguments the law ExposeConcerns returns true and leaves them as they are: where the advisory does not concern, nothing could and nothing did. No condition. -/
import Derived.Test.YtnipfhmghjdnmaaGreatRows
import Derived.Test.YtnipfhmghjdnmaaGreatTb
import Derived.Test.YtnipfhmghjdnmaaGreatTc
import Derived.JoinedOf
import Derived.ProofKit
import Derived.OpenShut
namespace Go.Proofs.YtnipfhmghjdnmaaGreat.exposeConcerns
open Go Go.Av Go.Av.Ap Go.ChangeShapes Go.WideShapes Go.ChangeAt Go.RowKit
set_option maxRecDepth 1000000
theorem own0:ownKnob Tryz.prog.godebug=none:=by kernel_rfl
theorem kids:Kids Tryz.prog (· < Tryz.prog.types.size):=kids_rows (by kernel_rfl) (by kernel_rfl)
theorem slices_full:∀ t e,t < Tryz.prog.types.size→Tryz.prog.underlying t=some (.slice e)→0 < Tryz.prog.cellsOf e:=slices_full_of Tryz.prog (by kernel_rfl)
theorem contract (H:Type) (enc:TypeId×Value→H) (W:World) (base:Nat) (args:Array Value) (ds gs:List (DataW H)) (before:List MemPlace)
  (hval:∀ (j:Nat) t v,Tryz.f4.params[j]? = some t→args[j]? = some v→Value.okWide Tryz.prog W .any base t v)
  (hW:DataW.Whole enc Tryz.prog Tryz.f4.params.toList Rows.exposeConcernsSpec.vars false W args.toList ds gs before)
  (hz:(DataW.weightsEach Tryz.prog (Tryz.f4.params.toList++Rows.exposeConcernsSpec.plain.varTypes Tryz.prog) (ds++gs)).all (· ≤ reachBytes)=true) :
  Calls Tryz.prog 4 args W fun e W'=>∃ v,e = .returned v∧Rows.exposeConcernsSpec.post enc Tryz.prog Tryz.f4 false true false false W args v W':=by
 have hW':=hW
 obtain ⟨p,q,hA0,hV,rfl,hfz,hnd⟩:=hW
 have hA:DataW.TrodAll enc Tryz.prog W 0 (fun _=>true) true Tryz.f4.params.toList args.toList ds p:=hA0
 have hA1:=hA
 rw [Tryz.params4] at hA hval hz
 obtain ⟨v0,vs0,d0,ds0,p0,q0,ha0,rfl,rfl,h0,r0⟩:=trodAll_cons hA
 obtain ⟨v1,vs1,d1,ds1,p1,q1,ha1,rfl,rfl,h1,r1⟩:=trodAll_cons r0
 obtain ⟨hnil,rfl,rfl⟩:=trodAll_nil r1
 subst hnil
 subst ha1
 obtain rfl:args = #[v0,v1]:=by cases args; simp_all
 obtain ⟨rfl,rfl⟩:=trodVars_none hV
 obtain ⟨x0,k0,o0⟩:=arg_struct (fun N=>(rd_seen N).le (Nat.le_succ N)) (fun a=>rfl) Tryz.underlying26 (hval 0 26 v0 rfl rfl) h0 (each_light hz (j:=0) rfl rfl)
 obtain ⟨x1,k1,o1⟩:=arg_struct (fun N=>(rd_adv N).le (Nat.le_succ N)) (fun a=>rfl) Tryz.underlying33 (hval 1 33 v1 rfl rfl) h1 (each_light hz (j:=1) rfl rfl)
 clear hA0
 simp only [List.append_nil] at hW' hA1
 have hlt:=hW'.lt
 have hv:VRs (allS W) [] [x0.av,x1.av] [v0,v1]:=by
  simp only [VRs]
  exact ⟨_,_,rfl,k0,_,_,rfl,k1,rfl⟩
 refine (law_calls good hOther trivial hv (by rw [t4 x0 o0.1 x1 o1]; rfl)).mono fun e W' ⟨he,hb⟩=>?_
 subst he
 exact ⟨_,rfl,post_of_below (pv:=[]) hW' (fun _ _ _=>trodAll_cons_mk (shut_bool Tryz.underlying4 _) trodAll_mk0) (fun sp hsp =>
   args_again kids slices_full (by rw [Tryz.params4]; decide +kernel) hA1 hlt hb sp hsp) (fun _ _=>rfl) (by simp)
  hb (ok_one (by kernel_rfl) rfl (okWide_bool_mk Tryz.underlying4 _))⟩
theorem lifted (os:Os) (started:os.Started) (H:Type) (enc:TypeId×Value→H) :
  ReturnsInHanded {} Tryz.checked os 4 .any (Rows.exposeConcernsSpec.pre6 enc Tryz.prog Tryz.f4 Rows.exposeConcernsRow.domain false) (Rows.exposeConcernsSpec.post enc Tryz.prog Tryz.f4 false true false false):=by
 refine returnsInHanded_of_change_sized (C:=Tryz.checked) own0 started (by kernel_rfl) Tryz.func4
  (ChangeSpec.witness6 (enc:=enc) (C:=Tryz.checked) false ⟨#[],#[.agg #[.slice none 0 0,.slice none 0 0,.slice none 0 0,.bool false],.agg #[.int .i64 0,.string ⟨#[]⟩,.slice none 0 0,.string ⟨#[]⟩,.int .i64 0,.int .i64 0,.string ⟨#[]⟩,.string ⟨#[]⟩,.slice none 0 0,.slice none 0 0]],[]⟩ 8 (by kernel_rfl) (by kernel_rfl) (by kernel_rfl) (by kernel_rfl)) ?_
 intro W base args ds gs before hval hW _ hz _
 exact contract H enc W base args ds gs before hval hW hz
theorem exposeConcerns:Rows.ExposeConcernsSaid :=
 OpenClaim.holds_of_wide 4 Tryz.f4 rfl rfl rfl rfl rfl rfl rfl ⟨rfl,rfl,rfl,rfl,rfl⟩ rfl rfl rfl rfl rfl (by kernel_rfl) Tryz.func4 (by kernel_rfl)
  (of_decide_eq_true (by kernel_rfl)) (by unfold Func.isWrapper; first | (rw [if_pos (by decide +kernel)]; kernel_rfl) | (rw [if_neg (by decide +kernel)]; exact ⟨rfl,rfl⟩))
  (fun os started H enc _=>lifted os started H enc)
end Go.Proofs.YtnipfhmghjdnmaaGreat.exposeConcerns
namespace Go.Proofs.YtnipfhmghjdnmaaGreat
theorem exposeConcerns_said:Rows.ExposeConcernsSaid:=exposeConcerns.exposeConcerns
end Go.Proofs.YtnipfhmghjdnmaaGreat
