/- What the functions compute, part 13. Conditions: bounds. -/
import Derived.Test.YtihmmkncokjbaaaGreatDoorTl
import Derived.Lib.SmallJoins
set_option linter.defProp false
set_option linter.unusedSimpArgs false
set_option linter.unusedVariables false
namespace Go.Proofs.YtihmmkncokjbaaaGreatDoor
open Go Go.Av Go.Av.Ap
set_option maxRecDepth 100000
def oN{m:Ap.Mod}{r:List Vars}(h:fb [m]= .ok r):∃y,r=[y]/\y.values.length=m.vars.length/\y.values.all (bc 4)=true:=by
 have hb:=rt h;unfold qq at hb;cases r with
 |nil=>simp[cS]at hb
 | cons y r=>
  cases r with
  |cons z r=>simp[cS]at hb
  |nil=>
   simp only[cS,PO,Qk,Rx]at hb;exact⟨y,rfl,hb.2.1,hb.2.2⟩
def Iv:Except Int (List Val)->List Val
 |.ok l=>l
 |.error _=>[]
def Ow:Except Int (List Val)->Int
 |.ok _=>0
 |.error c=>c
def LC(r:Except Int (List Val)):cm r= .tup [vals (Iv r),.int .i64 (Ow r)]:=by cases r<;>rfl
theorem t30(m:Ap.Mod)(hv:m.vars.length<=1099511627776)(hi:∀e∈m.init,bh e)(hl:m.init.length<=274877906944):aj pg 30 [m.av]=ay (cm (lR m)):=by
 have hF:=t65 [m] (by simp) (fun x hx=>by rw[Qt.1 hx];exact⟨hv,hl,hi⟩);have bs:aG T 92 1 [(0,m.av)]=some (dI [m]):=rfl;rw[C30,eQ];have e:S30 (aj pg) ao m.av=ay (cm (lR m)):=by
  unfold lR;cases h:fb [m]with
  |error c=>
   rw[h]at hF;have hc0:(c != 0)=true:=by simpa using ru h
   simp -implicitDefEqProofs only[S30,tY,ak,bs,hF,ap,iz,aO,PU,PZ,yF,hc0,am,PQ,cm]
  |ok r=>
   obtain⟨y,rfl,-⟩:=oN h;rw[h]at hF;have h00:((0:Int) != 0)=false:=rfl;have hix:au T 89 (dR [y]) (.int .i64 0)=some (.ip (aa (Ap.Vars.av y))):=rfl;have hfa:ab T 94 (.ip (aa (Ap.Vars.av y))) 1=some (.ip [vals y.values]):=rfl;have hld:ai T 30 (.ip [vals y.values])=some (vals y.values):=rfl;simp -implicitDefEqProofs only[S30,tY,ak,bs,hF,ap,iz,aO,PU,PZ,yF,h00,am,PM,PP,hix,hfa,hld,cm]
 rw[e];exact bw fun g=>ka g _
def zr(m:Ap.Mod)(h:m.vars.length<=1000000):j0 (Iv (lR m)):=by
 unfold lR;cases hf:fb [m]with
 |error c=>exact Qy _
 |ok r=>
  obtain⟨y,rfl,h1,h2⟩:=oN hf
  have:=nq y.values (fun v hv=>P7.1 h2 v hv)
  show br y.values<=_;omega
def uX(old now:Ap.Mod)(vs:List Val)(h:now.vars.length<=1000000):j0 (Iv (dV ct old now vs)):=by
 cases hf:dV ct old now vs with
 |error c=>exact Qy _
 |ok l=>exact ij (lQ hf).2 h
def BU(old now:Ap.Mod)(vs:List Val)(h:old.vars.length<=1000000):j0 (Iv (iG ct old now vs)):=by
 cases hf:iG ct old now vs with
 |error c=>exact Qy _
 |ok l=>exact ij (qS hf).2 h
def LH(l:List Val)(h:j0 l):aj pg 14 [vals l,vals l]=ay (.bool true):=
 Du l (by have:=fI l;unfold j0 at h;omega) fun v hv=>t21 _ v (P5 _) (h.mem v hv)
def Ly(o:Option Val):Val:=match o with
 |some v=>v
 |none=>.mk 0 0 [] []
def Ov(o:Option Val):Int:=match o with
 |some _=>0
 |none=>34
def LA(o:Option Val):im o= .tup [(Ly o).av,.int .i64 (Ov o)]:=by cases o<;>rfl
theorem MZ(a b:Int):aw T .neq 39 (.int .i64 a) (.int .i64 b)=some (.bool (a != b)):=rfl
theorem MI(a b:Int):aw T .eql 39 (.int .i64 a) (.int .i64 b)=some (.bool (a== b)):=rfl
theorem MY(a b:Bool):aw T .neq 4 (.bool a) (.bool b)=some (.bool (a != b)):=rfl
theorem MH(a b:Bool):aw T .eql 4 (.bool a) (.bool b)=some (.bool (a== b)):=rfl
def J5(t:Ty):aG T 47 1 [(0,t.av)]=some (Db [t]):=by cases t;rfl
def J6(v w:Val):aG T 30 2 [(0,v.av),(1,w.av)]=some (vals [v,w]):=by cases v;cases w;rfl
def Df(t:Ty):(fm t).sz<=1099511627776:=by
 by_cases h:dx t=true
 ·have h2:fm t=fK 4 t:=by unfold fm;rw[PS h]
  have h3:=yB 4 t h;rw[h2];exact QQ h3 (by decide)
 ·have h2:fm t= .mk 0 0 [] []:=by unfold fm;rw[if_neg h]
  rw[h2];decide
def M8(t:Ty)(s:aR)(h:s.length<=400):(Ly (lr t s)).sz<=1099511627776:=by
 cases hx:lr t s with
 |none=>decide
 |some w=>
  have:=(CS (B:=400) hx h).2
  show w.sz<=_;omega
theorem t5(t:Ty)(v w:Val)(s:aR)(old now:Ap.Mod)(vars:List Val)(ht:t.Lim)(hv:v.Lim)(hi:qI v)(hw:w.Lim)(ho:old.Lim)(hn:now.Lim)(hl:vars.length<=140737488355328)(hvs:∀v∈vars,v.Lim):aj pg 5 [t.av,v.av,w.av,.str s,old.av,now.av,vals vars]=ay (.bool true):=by
 obtain⟨b1,e1,-⟩:=t16 [t] (by simp) (fun e he=>by rw[Qt.1 he];exact ht);obtain⟨b2,e2,q2⟩:=Nl [v,w] (by simp) (fun e he=>by
  rcases Qm.1 he with rfl|he
  ·exact hv
  ·rw[Qt.1 he];exact hw)
 obtain⟨b3,e3,q3⟩:=OC old ho;obtain⟨b4,e4,q4⟩:=OC now hn;obtain⟨b5,e5,q5⟩:=t10 vars hl hvs;have hcs:cl aB (.str s)= .str s:=rfl;rw[C5,kp,gO,gO,hcs,eQ,eQ,eh];have e:S5 (aj pg) ao t.av v.av w.av (.str s) old.av now.av (vals vars)=ay (.bool true):=by
  cases hb:(!b1||!b2||decide ((400:Int)<s.length)||!b3||!b4||!b5)with
  |true=>
   simp -implicitDefEqProofs only[S5,uo,ap,Da,qm,tY,ak,J5,J6,e1,e2,e3,e4,e5,bq,dz,qj,vv,hb,am,PQ]
  |false=>
   have hb0:=hb;simp only[Rl,Si,Rm]at hb;obtain⟨⟨⟨⟨⟨h1,h2⟩,h3⟩,h4⟩,h5⟩,h6⟩:=hb;obtain⟨-,p2,p3⟩:=q2 h2;have hO:=(q3 h4).1;obtain⟨hN,hS⟩:=q4 h5;have hV:=(q5 h6).2;have hsz:v.sz<=4160:=by have:=eJ (l:=[v,w]) (v:=v) (by simp);omega
   have hszw:w.sz<=4160:=by have:=eJ (l:=[v,w]) (v:=w) (by simp);omega
   have hn60:=p3 v (by simp);have hxlen:=C8 hn60;have a1:=t19 t s ht (by omega);have a2:=OA t s ht (by omega);have a3:=t20 t v ht (by omega);have a4:=t25 t v ht (by omega);have a5:=t22 _ t (P5 _) ht;have a6:=t26 t ht;have a7:=t21 _ (fm t) (P5 _) (Df t);have a8:=t27 v w (by omega) (by omega);have a9:=t28 v w (by omega) (by omega);rw[m9,m9]at a9;have a10:=t17 _ v (P5 _) (by omega) hi (by omega);have a11:=t29 v (by omega) hi (by omega);have a12:=t21 _ (Ly (lr t s)) (P5 _) (M8 t s (by omega));rw[LA]at a1 a2;have c1:=t30 now (by have:=hN.vars;omega) (fun e he=>(hS.1 e he).1) (by have:=hS.2.2.2;omega);have c2:=t31 now (by have:=hN.vars;omega) (fun e he=>(hS.1 e he).1) (by have:=hS.2.2.2;omega) (fun r h=>by obtain⟨y,rfl,-⟩:=oN h;exact⟨y,rfl⟩) (fun c h=>ru h);have c3:=t12 old now vars hO hN hV;have c4:=t32 old now vars hO hN hV;have c5:=t13 old now vars hO hN hV;have c6:=t33 old now vars hO hN hV;have c7:=t15 old now vars hO hN hV;have c8:=t34 old now vars hO hN hV;have d1:=LH _ (zr now hN.vars);have d2:=LH _ (uX old now vars hN.vars);have d3:=LH _ (BU old now vars hO.vars);rw[LC]at c1 c2 c3 c4 c5 c6;have sE:d8 v w=(bc 4 v&&bc 4 w&&gf v w):=rfl;rw[<- sE]at a9;generalize d8 v w=sv at a8 a9;generalize fc t v=hs at a3 a4;generalize nd ct d8 old now vars=kx at c7 c8;have nb:∀b:Bool,(b != b)=false:=fun b=>Ra b;have ni:∀b:Int,(b != b)=false:=fun b=>Ra b;have ns:∀b:aR,(b != b)=false:=fun b=>Ra b;have ei:∀b:Int,(b== b)=true:=fun b=>QL b;have eb:∀b:Bool,(b== b)=true:=fun b=>QL b;simp -implicitDefEqProofs only[S5,uo,ap,Da,qm,tY,ak,J5,J6,e1,e2,e3,e4,e5,bq,dz,qj,vv,hb0,am,PM,PP,a1,a2,a3,a4,a5,a6,a7,a8,a9,a10,a11,a12,aO,PU,PZ,yZ,bA,MY,sX,MZ,nb,ni,ns,Qa,S6,c1,c2,c3,c4,c5,c6,c7,c8,d1,d2,d3,MI,MH,ei,eb,qO,Rx]
 rw[e];exact dK _
end Go.Proofs.YtihmmkncokjbaaaGreatDoor
namespace Go.Proofs.YtihmmkncokjbaaaGreatDoor.stateTells
open Go Go.Av Go.Av.Ap Go.ChangeShapes Go.WideShapes Go.ChangeAt Go.RowKit Go.Joins Go.Deep
set_option maxRecDepth 1000000
def kids:Kids Tryz.prog (· < Tryz.prog.types.size):=kids_rows (by kernel_rfl) (by kernel_rfl)
def yk:∀t e,t<Tryz.prog.types.size->Tryz.prog.underlying t=some (.slice e)->0<Tryz.prog.cellsOf e:=slices_full_of Tryz.prog (by kernel_rfl)
def Fo(H:Type)(enc:TypeId×Value->H)(W:World)(base:Nat)(args:Array Value)(ds gs:List (DataW H))(before:List MemPlace)(hval:∀(j:Nat) t v,Tryz.f5.params[j]? = some t->args[j]? = some v->Value.okWide Tryz.prog W .any base t v)(hW:DataW.Whole enc Tryz.prog Tryz.f5.params.toList Rows.stateTellsSpec.vars false W args.toList ds gs before)(hz:(DataW.weightsEach Tryz.prog (Tryz.f5.params.toList++Rows.stateTellsSpec.plain.varTypes Tryz.prog) (ds++gs)).all (· <=reachBytes)=true)(hL:laidMetH Tryz.prog Rows.stateTellsRow.laid W)(hS:W.ShapedOpen Tryz.prog):
  Calls Tryz.prog 5 args W fun e W'=>∃v,e= .returned v/\Rows.stateTellsSpec.post enc Tryz.prog Tryz.f5 false true false false W args v W':=by
 have hW':=hW;obtain⟨p,q,hA0,hV,rfl,hfz,hnd⟩:=hW;have hA:DataW.TrodAll enc Tryz.prog W 0 (fun _=>true) true Tryz.f5.params.toList args.toList ds p:=hA0;have hA1:=hA;rw[Tryz.params5]at hA hval hz;obtain⟨v0,vs0,d0,ds0,p0,q0,ha0,rfl,rfl,h0,r0⟩:=trodAll_cons hA;obtain⟨v1,vs1,d1,ds1,p1,q1,ha1,rfl,rfl,h1,r1⟩:=trodAll_cons r0;obtain⟨v2,vs2,d2,ds2,p2,q2,ha2,rfl,rfl,h2,r2⟩:=trodAll_cons r1;obtain⟨v3,vs3,d3,ds3,p3,q3,ha3,rfl,rfl,h3,r3⟩:=trodAll_cons r2;obtain⟨v4,vs4,d4,ds4,p4,q4,ha4,rfl,rfl,h4,r4⟩:=trodAll_cons r3;obtain⟨v5,vs5,d5,ds5,p5,q5,ha5,rfl,rfl,h5,r5⟩:=trodAll_cons r4;obtain⟨v6,vs6,d6,ds6,p6,q6,ha6,rfl,rfl,h6,r6⟩:=trodAll_cons r5;obtain⟨hnil,rfl,rfl⟩:=trodAll_nil r6;subst hnil;subst ha6;subst ha5;subst ha4;subst ha3;subst ha2;subst ha1;obtain rfl:args= #[v0,v1,v2,v3,v4,v5,v6]:=by cases args;simp_all
 obtain⟨rfl,rfl⟩:=trodVars_none hV;obtain⟨x0,k0,o0⟩:=jx (fun N=>Bv N) (fun a=>rfl) Tryz.underlying35 (hval 0 35 v0 rfl rfl) h0 (gy hz (j:=0) rfl rfl);obtain⟨x1,k1,o1⟩:=jx (f:=Val.av) (fun N=>qB N) (fun a=>by cases a;rfl) Tryz.underlying45 (hval 1 45 v1 rfl rfl) h1 (gy hz (j:=1) rfl rfl);obtain⟨x2,k2,o2⟩:=jx (f:=Val.av) (fun N=>qB N) (fun a=>by cases a;rfl) Tryz.underlying45 (hval 2 45 v2 rfl rfl) h2 (gy hz (j:=2) rfl rfl);obtain⟨x3,k3,o3⟩:=Hr (fun N=>np Tryz.underlying9) Tryz.underlying9 (hval 3 9 v3 rfl rfl) h3 (gy hz (j:=3) rfl rfl);obtain⟨x4,k4,o4⟩:=jx (fun N=>(Gz N).le (Sp N)) (fun a=>rfl) Tryz.underlying29 (hval 4 29 v4 rfl rfl) h4 (gy hz (j:=4) rfl rfl);obtain⟨x5,k5,o5⟩:=jx (fun N=>(Gz N).le (Sp N)) (fun a=>rfl) Tryz.underlying29 (hval 5 29 v5 rfl rfl) h5 (gy hz (j:=5) rfl rfl);obtain⟨x6,k6,o6⟩:=BS (fun N=>GA N) Tryz.underlying30 (hval 6 30 v6 rfl rfl) h6 (gy hz (j:=6) rfl rfl);clear hA0;simp only[Qq]at hW' hA1;have hlt:=hW'.lt;have hv:bQ (lG W) [] [x0.av,x1.av,x2.av,.str x3,x4.av,x5.av,vals x6] [v0,v1,v2,v3,v4,v5,v6]:=by
  simp only[bQ];exact⟨_,_,rfl,k0,_,_,rfl,k1,_,_,rfl,k2,_,_,rfl,k3,_,_,rfl,k4,_,_,rfl,k5,_,_,rfl,k6,rfl⟩
 refine (Co Oe aH (KX hL hS) hv (by rw[t5 x0 x1 x2 x3 x4 x5 x6 o0 o1.1 o1.2 o2.1 o4 o5 o6.1 (fun v h=>(o6.2 v h).1)];rfl)).mono fun e W' ⟨he,hb⟩=>?_;subst he;exact⟨_,rfl,s5 (pv:=[]) hW' (fun _ _ _=>trodAll_cons_mk (shut_bool Tryz.underlying4 _) trodAll_mk0) (fun sp hsp=>
   yK kids yk (by rw[Tryz.params5];decide +kernel) hA1 hlt hb sp hsp) (fun _ _=>rfl) (by simp)
  hb (ok_one (by kernel_rfl) rfl (okWide_bool_mk Tryz.underlying4 _))⟩
def reads(os:Os){H:Type}(enc:TypeId×Value->H):∃ds places,DataW.whole enc Tryz.prog ((oS os).forCall (fun _ _=>0) ⟨#[],#[.agg #[.int .i64 0,.slice none 0 0],.agg #[.int .i64 0,.int .i64 0,.slice none 0 0,.slice none 0 0],.agg #[.int .i64 0,.int .i64 0,.slice none 0 0,.slice none 0 0],.string ⟨#[]⟩,.agg #[.string ⟨#[]⟩,.slice none 0 0,.slice none 0 0,.slice none 0 0,.slice none 0 0,.bool false,.slice none 0 0,.slice none 0 0,.slice none 0 0],.agg #[.string ⟨#[]⟩,.slice none 0 0,.slice none 0 0,.slice none 0 0,.slice none 0 0,.bool false,.slice none 0 0,.slice none 0 0,.slice none 0 0],.slice none 0 0],[]⟩).memory Tryz.f5.params.toList Rows.stateTellsSpec.vars false #[.agg #[.int .i64 0,.slice none 0 0],.agg #[.int .i64 0,.int .i64 0,.slice none 0 0,.slice none 0 0],.agg #[.int .i64 0,.int .i64 0,.slice none 0 0,.slice none 0 0],.string ⟨#[]⟩,.agg #[.string ⟨#[]⟩,.slice none 0 0,.slice none 0 0,.slice none 0 0,.slice none 0 0,.bool false,.slice none 0 0,.slice none 0 0,.slice none 0 0],.agg #[.string ⟨#[]⟩,.slice none 0 0,.slice none 0 0,.slice none 0 0,.slice none 0 0,.bool false,.slice none 0 0,.slice none 0 0,.slice none 0 0],.slice none 0 0].toList 8=some (ds,[],places):=
 ⟨[.agg [.lit (.int .i64 0),.nil],.agg [.lit (.int .i64 0),.lit (.int .i64 0),.nil,.nil],.agg [.lit (.int .i64 0),.lit (.int .i64 0),.nil,.nil],.lit (.string []),.agg [.lit (.string []),.nil,.nil,.nil,.nil,.lit (.bool false),.agg [.nil,.nil,.nil]],.agg [.lit (.string []),.nil,.nil,.nil,.nil,.lit (.bool false),.agg [.nil,.nil,.nil]],.nil],[],by kernel_rfl⟩
def lifted(os:Os)(started:os.Started)(H:Type)(enc:TypeId×Value->H)(F:Stop.Interp):
  ReturnsInHanded {} Tryz.checked os 5 .any ((OpenSpec.ofChange Rows.stateTellsSpec).preRow enc Tryz.prog Tryz.f5 Rows.stateTellsRow.domain false Rows.stateTellsRow.laid) (((OpenSpec.ofChange Rows.stateTellsSpec).at F).post enc Tryz.prog Tryz.f5 false true false false):=by
 obtain⟨ds,places,hx⟩:=reads os enc;refine returnsInHanded_of_row (C:=Tryz.checked) (s:=OpenSpec.ofChange Rows.stateTellsSpec) Ou started (by kernel_rfl) Tryz.func5
  (witness_row_atRef (enc:=enc) (C:=Tryz.checked) false (oS os) #[.agg #[.int .i64 0,.slice none 0 0],.agg #[.int .i64 0,.int .i64 0,.slice none 0 0,.slice none 0 0],.agg #[.int .i64 0,.int .i64 0,.slice none 0 0,.slice none 0 0],.string ⟨#[]⟩,.agg #[.string ⟨#[]⟩,.slice none 0 0,.slice none 0 0,.slice none 0 0,.slice none 0 0,.bool false,.slice none 0 0,.slice none 0 0,.slice none 0 0],.agg #[.string ⟨#[]⟩,.slice none 0 0,.slice none 0 0,.slice none 0 0,.slice none 0 0,.bool false,.slice none 0 0,.slice none 0 0,.slice none 0 0],.slice none 0 0] rfl (by kernel_rfl) (by kernel_rfl) (by kernel_rfl)
   (OpenSpec.preRow_of_cond 8 hx (by kernel_rfl) (fun k hk=>by cases hk) (by kernel_rfl) (F5 os _))) ?_
 intro W base args ds gs before hval hW _ _ hz hL hS _;exact Fo H enc W base args ds gs before hval hW hz hL hS
end Go.Proofs.YtihmmkncokjbaaaGreatDoor.stateTells
