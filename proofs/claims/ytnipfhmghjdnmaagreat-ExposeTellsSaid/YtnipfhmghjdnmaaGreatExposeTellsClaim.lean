/- For all its arguments the law ExposeTells returns true and leaves them as they are: every function returns what the reference returns. No condition. -/
import Derived.Test.YtnipfhmghjdnmaaGreatRows
import Derived.Test.YtnipfhmghjdnmaaGreatTh
import Derived.JoinedOf
import Derived.ProofKit
set_option linter.unusedSimpArgs false
set_option linter.unusedVariables false
namespace Go.Proofs.YtnipfhmghjdnmaaGreat.exposeTells
open Go Go.Av Go.Av.Ap Go.ChangeShapes Go.WideShapes Go.ChangeAt Go.RowKit
set_option maxRecDepth 1000000
theorem M2:ownKnob Tryz.prog.godebug=none:=by kernel_rfl
theorem kids:Kids Tryz.prog (· < Tryz.prog.types.size):=kids_rows (by kernel_rfl) (by kernel_rfl)
theorem yf:∀t e,t<Tryz.prog.types.size->Tryz.prog.underlying t=some (.slice e)->0<Tryz.prog.cellsOf e:=slices_full_of Tryz.prog (by kernel_rfl)
theorem Ee(H:Type)(enc:TypeId×Value->H)(W:World)(base:Nat)(args:Array Value)(ds gs:List (DataW H))(before:List MemPlace)(hval:∀(j:Nat) t v,Tryz.f3.params[j]? = some t->args[j]? = some v->Value.okWide Tryz.prog W .any base t v)(hW:DataW.Whole enc Tryz.prog Tryz.f3.params.toList Rows.exposeTellsSpec.vars false W args.toList ds gs before)(hz:(DataW.weightsEach Tryz.prog (Tryz.f3.params.toList++Rows.exposeTellsSpec.plain.varTypes Tryz.prog) (ds++gs)).all (· <=reachBytes)=true):
  Calls Tryz.prog 3 args W fun e W'=>∃v,e= .returned v/\Rows.exposeTellsSpec.post enc Tryz.prog Tryz.f3 false true false false W args v W':=by
 have hW':=hW;obtain⟨p,q,hA0,hV,rfl,hfz,hnd⟩:=hW;have hA:DataW.TrodAll enc Tryz.prog W 0 (fun _=>true) true Tryz.f3.params.toList args.toList ds p:=hA0;have hA1:=hA;rw[Tryz.params3]at hA hval hz;obtain⟨v0,vs0,d0,ds0,p0,q0,ha0,rfl,rfl,h0,r0⟩:=trodAll_cons hA;obtain⟨v1,vs1,d1,ds1,p1,q1,ha1,rfl,rfl,h1,r1⟩:=trodAll_cons r0;obtain⟨v2,vs2,d2,ds2,p2,q2,ha2,rfl,rfl,h2,r2⟩:=trodAll_cons r1;obtain⟨hnil,rfl,rfl⟩:=trodAll_nil r2;subst hnil;subst ha2;subst ha1;obtain rfl:args= #[v0,v1,v2]:=by cases args;simp_all
 obtain⟨rfl,rfl⟩:=trodVars_none hV;obtain⟨x0,k0,o0⟩:=mB (fun N=>(A9 N).le (Nat.le_succ N)) (fun a=>rfl) Tryz.underlying26 (hval 0 26 v0 rfl rfl) h0 (mJ hz (j:=0) rfl rfl);obtain⟨x1,k1,o1⟩:=mB (fun N=>(A9 N).le (Nat.le_succ N)) (fun a=>rfl) Tryz.underlying26 (hval 1 26 v1 rfl rfl) h1 (mJ hz (j:=1) rfl rfl);obtain⟨x2,k2,o2⟩:=mB (fun N=>(Kg N).le (Nat.le_succ N)) (fun a=>rfl) Tryz.underlying33 (hval 2 33 v2 rfl rfl) h2 (mJ hz (j:=2) rfl rfl);clear hA0;simp only[List.append_nil]at hW' hA1;have hlt:=hW'.lt;have hv:bC (mA W) [] [x0.av,x1.av,x2.av] [v0,v1,v2]:=by
  simp only[bC];exact⟨_,_,rfl,k0,_,_,rfl,k1,_,_,rfl,k2,rfl⟩
 refine (B6 good hOther trivial hv (by rw[t3 x0 o0.1 x1 o1.1 x2 o2];rfl)).mono fun e W' ⟨he,hb⟩=>?_;subst he;exact⟨_,rfl,sU (pv:=[]) hW' (fun _ _ _=>trodAll_cons_mk (shut_bool Tryz.underlying4 _) trodAll_mk0) (fun sp hsp=>
   yK kids yf (by rw[Tryz.params3];decide +kernel) hA1 hlt hb sp hsp) (fun _ _=>rfl) (by simp)
  hb (ok_one (by kernel_rfl) rfl (okWide_bool_mk Tryz.underlying4 _))⟩
theorem lifted(os:Os)(started:os.Started)(H:Type)(enc:TypeId×Value->H):
  ReturnsInHanded {} Tryz.checked os 3 .any (Rows.exposeTellsSpec.pre6 enc Tryz.prog Tryz.f3 Rows.exposeTellsRow.domain false) (Rows.exposeTellsSpec.post enc Tryz.prog Tryz.f3 false true false false):=by
 refine returnsInHanded_of_change_sized (C:=Tryz.checked) M2 started (by kernel_rfl) Tryz.func3
  (ChangeSpec.witness6 (enc:=enc) (C:=Tryz.checked) false ⟨#[],#[.agg #[.slice none 0 0,.slice none 0 0,.slice none 0 0,.bool false],.agg #[.slice none 0 0,.slice none 0 0,.slice none 0 0,.bool false],.agg #[.int .i64 0,.string ⟨#[]⟩,.slice none 0 0,.string ⟨#[]⟩,.int .i64 0,.int .i64 0,.string ⟨#[]⟩,.string ⟨#[]⟩,.slice none 0 0,.slice none 0 0]],[]⟩ 8 (by kernel_rfl) (by kernel_rfl) (by kernel_rfl) (by kernel_rfl)) ?_
 intro W base args ds gs before hval hW _ hz _;exact Ee H enc W base args ds gs before hval hW hz
theorem exposeTells:Rows.ExposeTellsSaid:=
 OpenClaim.holds_of_wide 3 Tryz.f3 rfl rfl rfl rfl rfl rfl rfl ⟨rfl,rfl,rfl,rfl,rfl⟩ rfl rfl rfl rfl rfl (by kernel_rfl) Tryz.func3 (by kernel_rfl)
  (of_decide_eq_true (by kernel_rfl)) (by unfold Func.isWrapper;first|(rw[if_pos (by decide +kernel)];kernel_rfl)|(rw[if_neg (by decide +kernel)];exact⟨rfl,rfl⟩))
  (fun os started H enc _=>lifted os started H enc)
end Go.Proofs.YtnipfhmghjdnmaaGreat.exposeTells
namespace Go.Proofs.YtnipfhmghjdnmaaGreat
theorem exposeTells_said:Rows.ExposeTellsSaid:=exposeTells.exposeTells
end Go.Proofs.YtnipfhmghjdnmaaGreat
