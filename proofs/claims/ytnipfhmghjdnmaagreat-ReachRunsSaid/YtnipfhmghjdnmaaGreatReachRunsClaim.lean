/- For all its arguments the law ReachRuns returns true and leaves them as they are: what a run records can be reached from the function that was run, by a path, with effects that Effects tells. No condition. -/
import Derived.Test.YtnipfhmghjdnmaaGreatRows
import Derived.Test.YtnipfhmghjdnmaaGreatTb
import Derived.Test.YtnipfhmghjdnmaaGreatTc
import Derived.JoinedOf
import Derived.ProofKit
import Derived.OpenShut
namespace Go.Proofs.YtnipfhmghjdnmaaGreat.reachRuns
open Go Go.Av Go.Av.Ap Go.ChangeShapes Go.WideShapes Go.ChangeAt Go.RowKit
set_option maxRecDepth 1000000
theorem own0:ownKnob Tryz.prog.godebug=none:=by kernel_rfl
theorem kids:Kids Tryz.prog (· < Tryz.prog.types.size):=kids_rows (by kernel_rfl) (by kernel_rfl)
theorem slices_full:∀ t e,t < Tryz.prog.types.size→Tryz.prog.underlying t=some (.slice e)→0 < Tryz.prog.cellsOf e:=slices_full_of Tryz.prog (by kernel_rfl)
theorem contract (H:Type) (enc:TypeId×Value→H) (W:World) (base:Nat) (args:Array Value) (ds gs:List (DataW H)) (before:List MemPlace)
  (hval:∀ (j:Nat) t v,Tryz.f7.params[j]? = some t→args[j]? = some v→Value.okWide Tryz.prog W .any base t v)
  (hW:DataW.Whole enc Tryz.prog Tryz.f7.params.toList Rows.reachRunsSpec.vars false W args.toList ds gs before)
  (hz:(DataW.weightsEach Tryz.prog (Tryz.f7.params.toList++Rows.reachRunsSpec.plain.varTypes Tryz.prog) (ds++gs)).all (· ≤ reachBytes)=true) :
  Calls Tryz.prog 7 args W fun e W'=>∃ v,e = .returned v∧Rows.reachRunsSpec.post enc Tryz.prog Tryz.f7 false true false false W args v W':=by
 have hW':=hW
 obtain ⟨p,q,hA0,hV,rfl,hfz,hnd⟩:=hW
 have hA:DataW.TrodAll enc Tryz.prog W 0 (fun _=>true) true Tryz.f7.params.toList args.toList ds p:=hA0
 have hA1:=hA
 rw [Tryz.params7] at hA hval hz
 obtain ⟨v0,vs0,d0,ds0,p0,q0,ha0,rfl,rfl,h0,r0⟩:=trodAll_cons hA
 obtain ⟨v1,vs1,d1,ds1,p1,q1,ha1,rfl,rfl,h1,r1⟩:=trodAll_cons r0
 obtain ⟨v2,vs2,d2,ds2,p2,q2,ha2,rfl,rfl,h2,r2⟩:=trodAll_cons r1
 obtain ⟨v3,vs3,d3,ds3,p3,q3,ha3,rfl,rfl,h3,r3⟩:=trodAll_cons r2
 obtain ⟨v4,vs4,d4,ds4,p4,q4,ha4,rfl,rfl,h4,r4⟩:=trodAll_cons r3
 obtain ⟨hnil,rfl,rfl⟩:=trodAll_nil r4
 subst hnil
 subst ha4
 subst ha3
 subst ha2
 subst ha1
 obtain rfl:args = #[v0,v1,v2,v3,v4]:=by cases args; simp_all
 obtain ⟨rfl,rfl⟩:=trodVars_none hV
 obtain ⟨x0,k0,o0⟩:=arg_slice (fun N=>rd_mods N) Tryz.underlying22 (hval 0 22 v0 rfl rfl) h0 (each_light hz (j:=0) rfl rfl)
 obtain ⟨x1,k1,o1⟩:=arg_struct (fun N=>rd_ref N) (fun a=>rfl) Tryz.underlying37 (hval 1 37 v1 rfl rfl) h1 (each_light hz (j:=1) rfl rfl)
 obtain ⟨x2,k2,o2⟩:=arg_slice (fun N=>rd_vals N) Tryz.underlying61 (hval 2 61 v2 rfl rfl) h2 (each_light hz (j:=2) rfl rfl)
 obtain ⟨x3,k3,o3⟩:=arg_slice (fun N=>rd_ints N) Tryz.underlying45 (hval 3 45 v3 rfl rfl) h3 (each_light hz (j:=3) rfl rfl)
 obtain ⟨x4,k4,o4⟩:=arg_int (fun N=>rd_int Tryz.underlying3) Tryz.underlying3 (hval 4 3 v4 rfl rfl) h4 (each_light hz (j:=4) rfl rfl)
 clear hA0
 simp only [List.append_nil] at hW' hA1
 have hlt:=hW'.lt
 have hv:VRs (allS W) [] [mods x0,refA x1,vals x2,ints x3,.int .i64 x4] [v0,v1,v2,v3,v4]:=by
  simp only [VRs]
  exact ⟨_,_,rfl,k0,_,_,rfl,k1,_,_,rfl,k2,_,_,rfl,k3,_,_,rfl,k4,rfl⟩
 refine (law_calls good hOther trivial hv (by rw [t7 x0 o0.1 o0.2 x1 x2 o2.1 o2.2 x3 x4]; rfl)).mono fun e W' ⟨he,hb⟩=>?_
 subst he
 exact ⟨_,rfl,post_of_below (pv:=[]) hW' (fun _ _ _=>trodAll_cons_mk (shut_bool Tryz.underlying4 _) trodAll_mk0) (fun sp hsp =>
   args_again kids slices_full (by rw [Tryz.params7]; decide +kernel) hA1 hlt hb sp hsp) (fun _ _=>rfl) (by simp)
  hb (ok_one (by kernel_rfl) rfl (okWide_bool_mk Tryz.underlying4 _))⟩
theorem lifted (os:Os) (started:os.Started) (H:Type) (enc:TypeId×Value→H) :
  ReturnsInHanded {} Tryz.checked os 7 .any (Rows.reachRunsSpec.pre6 enc Tryz.prog Tryz.f7 Rows.reachRunsRow.domain false) (Rows.reachRunsSpec.post enc Tryz.prog Tryz.f7 false true false false):=by
 refine returnsInHanded_of_change_sized (C:=Tryz.checked) own0 started (by kernel_rfl) Tryz.func7
  (ChangeSpec.witness6 (enc:=enc) (C:=Tryz.checked) false ⟨#[],#[.slice none 0 0,.agg #[.string ⟨#[]⟩,.string ⟨#[]⟩],.slice none 0 0,.slice none 0 0,.int .i64 0],[]⟩ 8 (by kernel_rfl) (by kernel_rfl) (by kernel_rfl) (by kernel_rfl)) ?_
 intro W base args ds gs before hval hW _ hz _
 exact contract H enc W base args ds gs before hval hW hz
theorem reachRuns:Rows.ReachRunsSaid :=
 OpenClaim.holds_of_wide 7 Tryz.f7 rfl rfl rfl rfl rfl rfl rfl ⟨rfl,rfl,rfl,rfl,rfl⟩ rfl rfl rfl rfl rfl (by kernel_rfl) Tryz.func7 (by kernel_rfl)
  (of_decide_eq_true (by kernel_rfl)) (by unfold Func.isWrapper; first | (rw [if_pos (by decide +kernel)]; kernel_rfl) | (rw [if_neg (by decide +kernel)]; exact ⟨rfl,rfl⟩))
  (fun os started H enc _=>lifted os started H enc)
end Go.Proofs.YtnipfhmghjdnmaaGreat.reachRuns
namespace Go.Proofs.YtnipfhmghjdnmaaGreat
theorem reachRuns_said:Rows.ReachRunsSaid:=reachRuns.reachRuns
end Go.Proofs.YtnipfhmghjdnmaaGreat
