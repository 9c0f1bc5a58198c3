/- What the functions of the seat compute, part 5: the texts of the claim, one behind the other. Conditions: bounds, as each theorem names them. -/
import Derived.Test.YtmgjpakjlbofpaaGreatTd
set_option linter.defProp false
set_option linter.unusedSimpArgs false
set_option linter.unusedVariables false
namespace Go.Proofs.YtmgjpakjlbofpaaGreat
open Go Go.Av Go.Av.Ap
set_option maxRecDepth 100000
def mB{α β γ:Type}(x:X α)(f:α->X β)(g:β->X γ):(x.bind f).bind g=x.bind fun a=>(f a).bind g:=by
 funext m;unfold X.bind;cases x m<;>rfl
theorem kZ{α β:Type}(a:α)(f:α->X β):(X.ok a).bind f=f a:=rfl
def t163(l:List bA)(h:l.length<=8796093022208):ai pg 163 [strs l]=M.pure (strs l):=by
 have e:ai pg 163 [strs l]=dX T 27 (ai pg) [strs l]:=gn aG rfl _;rw[e];show ah (cu T 27 (.sl []) (strs l))=_
 have:=FX (a:=[]) (b:=l) (by simp;omega)
 simp only[KL]at this;show ah (cu T 27 (strs []) (strs l))=_;rw[this];rfl
theorem sM{p:List Mod}{nm:SNm}{n:Nat}(IH:mC p nm n)(own:Int)(ns:List bA)(vs:List Val)(en:List bA)(es:List Exp)(x5 x6 x7 x8:AV)(hes:∀e∈es,aN e)(h8:es.length<=8):
  ∀(B A:List Exp)(acc:List Val)(m:Ms)(h:Hp),A++B=es->acc.length=A.length->(∀v∈acc,Rv v)->en.length<=8->dq p nm m h->GoodM p m->m.fuel<=n->Sc p own ns vs m->
  fE p nm Val.av ((listX (bh p n own ns vs) B).bind (fun ws=>if dT (.mk 2 0 en (acc++ws))<=4 then .ok (.mk 2 0 en (acc++ws))else .er 6) m)
   (ak (L130_0 (ai pg) ak) [.hp 0 0,.ip (aa (bb own ns vs)),dj es,.int .i64 es.length,.int .i64 A.length,x5,x6,x7,x8,.int .i64 2,.int .i64 0,strs en,vals acc] h)
 | [],A,acc,m,h,e,ha,hr,hen,R,G,hn,hs=>by
  simp only[Lk]at e;subst e;have hsz:(Val.mk 2 0 en acc).sz<=1099511627776:=by
   have h2:aY acc<=acc.length*200000:=by
    have key:∀l:List Val,(∀v∈l,Rv v)->aY l<=l.length*200000:=by
     intro l
     induction l with
     |nil=>intro _;simp[aY]
     |cons v l ih=>
      intro h;have h1:=ot (h v Lv);have h2:=ih fun w hw=>h w (Lq _ hw);simp only[aY,K4];omega
    exact key acc hr
   simp only[Val.sz];have:acc.length*200000<=8*200000:=Kw _ (by omega);omega
  have hlv:=t164 _ (.mk 2 0 en acc) (Kk _) hsz;rw[Val.av_eq]at hlv;simp only[Kb,Ke,J4,J2]at hlv;have hw:∀h,ae (au 4 [] (AV.agg [.int .i64 2,.int .i64 0,strs en,vals acc])) (fun w=>M.pure (AV.agg [nth (aa w) 0,nth (aa w) 1,nth (aa w) 2,nth (aa w) 3])) h=M.pure (Val.mk 2 0 en acc).av h:=fun h=>by
   have:=lO (Val.mk 2 0 en acc) h
   rw[Val.av_eq]at this |-;exact this
  rw[FL130_0];simp only[listX,kZ,Lk];simp only[L130_0,aJ,bj,bY,am,ax,L9,LG,Ki,Ks,hlv,ay,vo,aP,bS,hw];by_cases h4:dT (.mk 2 0 en acc)<=4
  ·have h4':decide (((dT (.mk 2 0 en acc):Nat):Int)<=4)=true:=by simp;omega
   simp only[h4,h4',Kt,hw];exact cQ R
  ·have h4':decide (((dT (.mk 2 0 en acc):Nat):Int)<=4)=false:=by simp;omega
   simp only[h4,h4',Ki,Ks];exact dJ R
 | x:: B,A,acc,m,h,e,ha,hr,hen,R,G,hn,hs=>by
  have hll:A.length+(B.length+1)=es.length:=by rw[<- e];simp
  have h1:(A.length:Int)<(es.length:Int):=by omega
  have hx:es[A.length]'(by omega)=x:=by subst e;simp
  have hm:x∈es:=by rw[<- e];simp
  have hi:=rk (l:=es) (n:=(A.length:Int)) (by omega) h1;rw[show ((A.length:Int)).toNat=A.length by omega,KM es A.length (by omega),hx]at hi;have hsc:af T 166 (.ip (aa (bb own ns vs)))=some (bb own ns vs):=rfl;have hex:af T 59 (.ip (aa x.av))=some x.av:=by simp
  rw[FL130_0];simp only[listX,mB,kZ];simp only[L130_0,aJ,bj,bY,am,ax,h1,Ll,Kt,hi,hex,aS (gX x),ay,hsc,bQ];refine bD (IH own ns vs x m h R G hn hs (hes x hm)) fun v s h' hv Rs=>?_;obtain⟨G2,rv,f2⟩:=G.eval hs.right hv;have hb2:aD T 37 1 [(0,v.av)]=some (vals [v]):=by rw[v.av_eq];simp[vals,dn,v.av_eq];rfl
  have ha2:cu T 37 (vals acc) (vals [v])=some (vals (acc++[v])):=Ai (by simp;omega);have hc1:gy (vals (acc++[v]))=M.pure (vals (acc++[v])):=rfl;have hw:IntKind.i64.wrap ((A.length:Int)+1)=((A.length+1:Nat):Int):=dQ (by omega);simp only[hb2,am,ha2,hc1,ay,dx,hw];have ih:=sM IH own ns vs en es x5 x6 x7 x8 hes h8 B (A++[x]) (acc++[v]) s h' (by rw[<- e];simp) (by simp[ha]) (fun w hw=>by
   rcases KG.1 hw with k|k
   ·exact hr w k
   ·simp only[Lh]at k;subst k;exact rv) hen Rs G2 (by omega) (hs.less f2)
  simp only[Ld,L1,KH,La]at ih;exact ih
theorem t130{p:List Mod}{nm:SNm}{n:Nat}(IH:mC p nm n):BQ p nm n:=by
 intro own ns vs e m h R G hn hs he;obtain⟨l1,l2⟩:=ij he;unfold fK;have ha:=t134 e.names (by omega);have hcl:=t163 e.names (by omega);have hB:bi T true 42 [(0,.int .i64 2),(2,strs e.names)]=some (.agg [.int .i64 2,.int .i64 0,strs e.names,.hn]):=rfl;have hC:au 4 [3] (.agg [.int .i64 2,.int .i64 0,strs e.names,.hn])=M.pure (.agg [.int .i64 2,.int .i64 0,strs e.names,.hn]):=rfl;rw[C130];simp only[S130,bE,FA59_4,FA59_5,KP,KV,LD27,LD29,tC,tD,am,ej,ha,ay,cj,aJ,bj,lJ,aP,bS,vo,hcl,hB,hC,bQ];have hsc:(AV.ip (aa (bb own ns vs)))= .ip [.int .i64 own,strs ns,vals vs]:=rfl;by_cases hl:e.names.length=e.args.length
 ·by_cases hasc:wD e.names=true
  ·have e1:((e.names.length:Int)== (e.args.length:Int)&&wD e.names)=true:=by simp[hl,hasc]
   simp only[hl,hasc,e1,Mc,Kt];by_cases h8:e.args.length<=8
   ·have h8':decide ((e.args.length:Int)<=8)=true:=by simp;omega
    have e2:((e.args.length:Int)== (e.args.length:Int)&&true)=true:=by simp
    simp only[h8,h8',e2,Kt]
    have:=sM IH own ns vs e.names e.args (.int .i64 0) (.int .i64 0) (.sl []) (.sl []) (fun x hx=>aZ he hx) h8 e.args [] [] m h rfl rfl (fun v hv=>by cases hv) (by omega) R G hn hs
    simp only[KL]at this;exact this
   ·have h8':decide ((e.args.length:Int)<=8)=false:=by simp;omega
    have e2:((e.args.length:Int)== (e.args.length:Int)&&true)=true:=by simp
    simp only[h8,h8',e2,Kt,Ki,Ks];exact dJ R
  ·have e1:((e.names.length:Int)== (e.args.length:Int)&&false)=false:=by simp
   have hasc':wD e.names=false:=by simpa using hasc
   simp only[e1,hasc',and_false,Ki,Ks];exact dJ R
 ·have e1:((e.names.length:Int)== (e.args.length:Int)&&wD e.names)=false:=by
   have:((e.names.length:Int)== (e.args.length:Int))=false:=by
    rw[LD];omega
   rw[this];rfl
  simp only[e1,hl,false_and,Ki,Ks];exact dJ R
def uC(s t:bA)(v:AV)(h:aI v=true):bv 3 (.agg [.str s,.str t,v])=true:=by
 simp only[bv,bT,aa,Ln,List.all_nil];rw[h];rfl
def tT{p:List Mod}{nm:SNm}{tag:Nat->Nat}{dv cv sv:AV}{m:Ms}{h:Hp}(R:RepT (rowP p nm.told) nm tag dv cv sv m h)(l:List Val)(hb:l.length<=274877906944):
  ∃av h1 tag1,ai pg 42 [vals l] h= .ok av h1/\RepT (rowP p nm.told) nm tag1 dv cv sv m h1/\oO tag1 4 h1 l av/\aI av=true:=by
 have e0:ai pg 42 [vals l]=dW T 37 (ai pg) [vals l]:=gn aG rfl _;have e1:=lW (T:=T) (t:=37) rfl rfl rfl rfl rfl (by decide) (ai pg) l (show l.length*64<=140737488355328 by omega) h;rw[e0];by_cases hl:l=[]
 ·rw[Kn hl]at e1;exact⟨_,h,tag,e1,R,.inl (by rw[hl]),rfl⟩
 ·rw[if_neg hl]at e1;refine⟨_,_,_,e1,(R.more (aX l) 4).1,.inr ⟨h.length,rfl,by simp,by simp⟩,rfl⟩
def xz{p:List Mod}{nm:SNm}{tag:Nat->Nat}{dv cv sv:AV}{m:Ms}{h:Hp}(R:RepT (rowP p nm.told) nm tag dv cv sv m h)(c:Ap.Call)(av:AV)(ha:oO tag 4 h c.args av)(hok:aI av=true)(hb:m.calls.length<=2000000):
  ∃cv' h1 h2,appH T 23 false cv (.sl [.agg [.str c.module,.str c.func,av]]) h= .ok cv' h1/\bH T 23 (.hp 0 10) cv' h1= .ok (.tup []) h2/\dq p nm { m with calls:=m.calls++[c] } h2:=by
 obtain⟨h1,cv',tag',e1,K,H,hc⟩:=oh (T:=T) (t:=23) rfl rfl rfl rfl (by decide) rfl (by decide) (x:=.agg [.str c.module,.str c.func,av]) R.cs (fun h0=>by
  have:m.calls=[]:=Kq h0;rw[this];rfl) (fun cs h=>h.ok.1) (uC _ _ _ hok) (show (m.calls.length+1)*56<=140737488355328 by omega)
 have h0:=(K 0 _ R.r0 (by rw[R.t0];decide)).1;refine⟨cv',h1,_,e1,dO rfl h0 (dZ hc).1 (show 10+1<=12 by decide) (by decide),?_⟩;have hac:aa cv'=[cv']:=(dZ hc).2.1
 have:=R.pushCall (m':={ m with calls:=m.calls++[c] }) K ha H rfl rfl rfl id
 refine⟨tag',dv,cv',sv,?_⟩;rw[hac];exact this
def oA{p:List Mod}{nm:SNm}{m:Ms}{h:Hp}(R:dq p nm m h)(x:Int):∃h1,dq p nm { m with frames:=x } h1/\(∀f:AV->M AV,ae (a7 T 3 (.hp 0 3)) f h=f (.int .i64 m.frames) h)/\
  (∀f:AV->M AV,ae (bH T 3 (.hp 0 3) (.int .i64 x)) f h=f (.tup []) h1):=by
 obtain⟨tag,dv,cv,sv,R⟩:=R;exact⟨_,⟨tag,dv,cv,sv,R.set0 rfl rfl rfl id⟩,fun f=>bp (cp rfl rfl R.r0 rfl),fun f=>bp (dO rfl R.r0 rfl (show 3+1<=12 by decide) (by decide))⟩
theorem pG(f:Fun)(a:Int)(ps:List hP)(l:List Val)(x6 x7 x8 x9:AV)(hb:ps.length<=274877906944)(hl:l.length=ps.length):∀(B A:List hP)(lb la:List Val),A++B=ps->la++lb=l->la.length=A.length->
  ak (L45_0 (ai pg) ak) [.hp 0 0,vals l,.ip (aa f.av),cF ps,.int .i64 ps.length,.int .i64 A.length,x6,x7,x8,x9,.int .i64 a,strs (A.map (·.1)),vals la]=
  ak (L45_0 (ai pg) ak) [.hp 0 0,vals l,.ip (aa f.av),cF ps,.int .i64 ps.length,.int .i64 ps.length,x6,x7,x8,x9,.int .i64 a,strs (ps.map (·.1)),vals l]
 | [],A,lb,la,e,e2,hla=>by
  simp only[Lk]at e;subst e;have hz:lb=[]:=by
   apply Kq;have:(la++lb).length=l.length:=by rw[e2]
   rw[KH]at this;omega
  rw[hz,Lk]at e2;rw[e2]
 | x:: B,A,lb,la,e,e2,hla=>by
  have hll:A.length+(B.length+1)=ps.length:=by rw[<- e];simp
  have h1:(A.length:Int)<(ps.length:Int):=by omega
  have hx:ps[A.length]'(by omega)=x:=by subst e;simp
  obtain⟨v,lb',rfl⟩:∃v lb',lb=v:: lb':=by
   cases lb with
   |nil=>
    have:(la++([]:List Val)).length=l.length:=by rw[e2]
    simp at this;omega
   |cons v lb'=>exact⟨v,lb',rfl⟩
  have hv:l[A.length]'(by omega)=v:=by
   subst e2;rw[List.getElem_append_right (by omega)];simp[hla]
  have hi:=Al (l:=ps) (n:=(A.length:Int)) (by omega) h1;rw[show ((A.length:Int)).toNat=A.length by omega,KM ps A.length (by omega),hx]at hi;have hj:=mT (l:=l) (n:=(A.length:Int)) (by omega) (by omega);rw[show ((A.length:Int)).toNat=A.length by omega,KM l A.length (by omega),hv]at hj;have hfl:af T 66 (.ip [.str x.1,.int .i64 x.2.kind,cF x.2.fields])=some (dz x):=by simp
  have hvl:af T 42 (.ip (aa v.av))=some v.av:=by simp
  have hw:IntKind.i64.wrap ((A.length:Int)+1)=((A.length+1:Nat):Int):=dQ (by omega);have hbd:=t93 a (A.map (·.1)) la x.1 v (by simp;omega) (by omega);have ih:=pG f a ps l x6 x7 x8 x9 hb hl B (A++[x]) lb' (la++[v]) (by rw[<- e];simp) (by rw[<- e2];simp) (by simp[hla]);simp only[Mv,Lc,MJ,KH,La]at ih;rw[<- ih,FL45_0];simp only[L45_0,aJ,bj,bY,am,ax,h1,Ll,Kt,hi,hfl,aS (kO x),ay,bQ,jN,FA66_0,KV,LD9,hj,hvl,bl,hbd,dk,bd (j0 _ _ _),dc,dx,hw]
def pY(p:List Mod)(nm:SNm)(n:Nat):Prop:=∀(a:Int) (f:Fun) (l:List Val) m h,0<=a->a<p.length->f∈(p[a.toNat]?.getD default).funcs->l.length=f.params.length->(∀v∈l,Rv v)->dq p nm m h->GoodM p m->mu m<1000000->m.fuel<=n->
 fE p nm Val.av (ct p (bh p n) a f l m) (ai pg 45 [.hp 0 0,.int .i64 a,f.av,vals l] h)
def tM(s t:bA)(v:AV)(h:aI v=true):bi T false 39 [(0,.str s),(1,.str t),(2,v)]=some (.agg [.str s,.str t,v]):=by
 have hc:=dZ h;show (l9 _ _ [(0,.str s),(1,.str t),(2,v)]).map AV.agg=_;simp only[l9];have h2:=hc.2.2;have h3:=hc.2.1;cases v with
 |any=>cases h
 |agg _=>cases h
 |tup _=>cases h
 |_=>rfl
theorem rC(x:AV)(hx:bT x=some 3):aD T 23 1 [(0,x)]=some (.sl [x]):=by
 have h1:aD T 23 1 [(0,x)]=(fG 3 (List.replicate 1 (.agg [.str [],.str [],.sl []])) [(0,x)]).map .sl:=rfl;rw[h1];simp only[fG,hx,List.length_replicate];rfl
theorem tW{p:List Mod}{nm:SNm}{n:Nat}(LB:LimB p)(IH:mC p nm n)(a:Int)(f:Fun)(l:List Val)(m:Ms)(h0:0<=a)(ha:a<p.length)(hf:f∈(p[a.toNat]?.getD default).funcs)(hl:l.length=f.params.length)(hr:∀v∈l,Rv v)(G:GoodM p m)(hmu:mu m<1000000)(hn:m.fuel<=n):
  ∀ (m1:Ms) (h1:Hp),dq p nm m1 h1->m1= { m with calls:=if f.pub=true then m.calls++[⟨(p[a.toNat]?.getD default).name,f.name,l⟩]else m.calls } ->m.frames<60->
   fE p nm Val.av (((bh p n a (f.params.map (·.1)) l f.body).bind fun v=>.upd (fun m=>{ m with frames:=m.frames-1 }) (.ok v)) (gk p a f l m))
    (K45_0 (ai pg) ak [.hp 0 0,.int .i64 a,vals l,.ip (aa f.av),.int .i64 0,.int .i64 0,.sl [],.sl []] h1):=by
 have hlt:a.toNat<p.length:=by omega
 have hmp:p[a.toNat]?.getD default∈p:=by rw[Kl hlt];exact KB hlt
 obtain⟨hbody,hparams⟩:=LB.body _ hmp f hf;have hfb:=G.bud;have hfu:=G.fuel;have hfr:=G.fr;intro m1 h1 R1 e1 h60;have hB:bi T false 166 [(0,.int .i64 a)]=some (bb a [] []):=rfl;have hcell:=bd (j0 a [] []);have hloop:=pG f a f.params l (.int .i64 0) (.int .i64 0) (.sl []) (.sl []) hparams hl f.params [] l [] rfl rfl rfl;have hw1:IntKind.i64.wrap (m.frames+1)=m.frames+1:=bo (by omega) (by omega);obtain⟨h2,R2,l2,s2⟩:=oA R1 (m.frames+1);have e2:{ m1 with frames:=m.frames+1 } = gk p a f l m:=by rw[e1];rfl
 have hm1f:m1.frames=m.frames:=by rw[e1]
 rw[e2]at R2;rw[hm1f]at l2;have hld:af T 28 (.ip (cF f.params:: [.int .i64 f.result.kind,cF f.result.fields,.int .i64 f.effects,.int .i64 f.body.op,.int .i64 f.body.n,.str f.body.s,.str f.body.m,strs f.body.names,dj f.body.args]))=some (cF f.params):=rfl;have hex:af T 59 (.ip [.int .i64 f.body.op,.int .i64 f.body.n,.str f.body.s,.str f.body.m,strs f.body.names,dj f.body.args])=some f.body.av:=by
  have:af T 59 (.ip (aa f.body.av))=some f.body.av:=by simp
  rwa [bE]at this
 simp only[MJ,K5]at hloop;have hz:((0:Nat):Int)=0:=rfl;rw[hz]at hloop;have hm2:(if f.pub=true then m.calls++[(⟨(p[a.toNat]?.getD default).name,f.name,l⟩:Ap.Call)]else m.calls).length<=m.calls.length+1:=by
  split
  ·simp
  ·omega
 have G2:GoodM p (gk p a f l m):=by
  refine⟨⟨G.right.1,fun c hc=>?_⟩,?_,by simp only[gk];omega,hfu,G.shape⟩
  ·simp only[gk]at hc;split at hc
   ·rcases KG.1 hc with k|k
    ·exact G.right.2 c k
    ·simp only[Lh]at k;subst k;exact hr
   ·exact G.right.2 c hc
  ·simp only[mu,gk]at hmu |-;omega
 simp only[K45_0,aJ,bj,hB,am,hcell,ay,bQ,dc,fQ,FA61_2,FA61_5,KP,KV,hld,p7]at hloop |-;rw[show strs []=strs []from rfl]at hloop;rw[hloop,FL45_0];simp only[L45_0,aJ,bj,bY,am,ax,L9,LG,Ki,Ks,cS,FH98_3,KF,l2,dx,hw1,s2,FA61_5,KP,KV,hex,bl];have hns:((f.params.map (·.1)).length:Int)+(gk p a f l m).fuel<=549755813888:=by
  simp only[Mw,gk];simp only[mu]at hfb;omega
 refine bD (IH a (f.params.map (·.1)) l f.body _ _ R2 G2 hn ⟨ha,⟨by simp[hl],hr⟩,hns⟩ hbody) fun v s h3 hv R3=>?_;obtain⟨G3,_,_⟩:=G2.eval ⟨by simp[hl],hr⟩ hv;obtain⟨h4,R4,l4,s4⟩:=oA R3 (s.frames-1);have hfr3:=G3.fr;have hw2:IntKind.i64.wrap (s.frames-1)=s.frames-1:=bo (by omega) (by omega);have hvl:af T 42 (.ip (aa v.av))=some v.av:=by simp
 simp only[aS (c9 v),ay,bQ,cS,am,FH98_3,KF,l4,vp,hw2,s4,hvl];have e9:_=Av.R.ok v.av h4:=lO v h4;rw[e9];exact⟨h4,rfl,R4⟩
def t45{p:List Mod}{nm:SNm}{n:Nat}(LB:LimB p)(IH:mC p nm n):pY p nm n:=by
 intro a f l m h h0 ha hf hl hr R G hmu hn;have hlt:a.toNat<p.length:=by omega
 have hmp:p[a.toNat]?.getD default∈p:=by rw[Kl hlt];exact KB hlt
 obtain⟨hbody,hparams⟩:=LB.body _ hmp f hf;have hfb:=G.bud;have hfu:=G.fuel;have hfr:=G.fr;have tail:=tW LB IH a f l m h0 ha hf hl hr G hmu hn;simp only[fQ]at tail;obtain⟨tag,dv,cv,sv,R0⟩:=R;have l3:∀g:AV->M AV,ae (a7 T 3 (.hp 0 3)) g h=g (.int .i64 m.frames) h:=fun g=>bp (cp rfl rfl R0.r0 rfl);have lc:∀g:AV->M AV,ae (a7 T 23 (.hp 0 10)) g h=g cv h:=fun g=>bp (cp rfl rfl R0.r0 rfl);have lm:∀g:AV->M AV,ae (a7 T 22 (.hp 0 0)) g h=g (mods p) h:=fun g=>bp (cp rfl rfl R0.r0 (by rw[<- mP (t:=nm.told) (fun e=>by subst e;simp at hlt)];rfl));generalize hcode:ai pg 45 [.hp 0 0,.int .i64 a,f.av,vals l] h=code;rw[C45]at hcode;simp -implicitDefEqProofs only[S45,cS,am,FH98_3,KF,l3,bY,aP,lz]at hcode;by_cases h60:m.frames<60
 ·rw[gM,Kn h60];have hd:decide (m.frames<60)=true:=by simpa using h60
  simp only[hd,bS,Kt]at hcode;simp -implicitDefEqProofs only[fQ,FA61_1,FA61_0,KP,KV,LD4,LD9,am,ax]at hcode;by_cases hp:f.pub=true
  ·simp only[hp,Kt]at hcode tail;have hi:=rj (l:=p) (n:=a) h0 ha;rw[KM p a.toNat hlt]at hi;have e3:p[a.toNat]?.getD default=p[a.toNat]:=by rw[Kl hlt];rfl
   obtain⟨av,h1,tag1,c1,R1,A1,ok1⟩:=tT R0 l (by omega);obtain⟨cv',h2,h3,p1,p2,R3⟩:=xz R1 ⟨p[a.toNat].name,f.name,l⟩ av A1 ok1 (by simp only[mu]at hmu;omega);have hB:bi T false 39 [(0,.str p[a.toNat].name),(1,.str f.name),(2,av)]=some (.agg [.str p[a.toNat].name,.str f.name,av]):=tM _ _ _ ok1;have hBS:=rC (.agg [.str p[a.toNat].name,.str f.name,av]) rfl;have lc1:∀g:AV->M AV,ae (a7 T 23 (.hp 0 10)) g h=g cv h:=lc;simp -implicitDefEqProofs only[lc,lm,hi,eE,FA34_0,FH98_0,FH98_4,FH46_3,KV,LD9,am,KF,Nat.reduceAdd]at hcode;rw[bp c1]at hcode;simp only[hB,hBS,am]at hcode;rw[bp p1]at hcode;rw[bp p2]at hcode;rw[<- hcode];exact tail _ h3 R3 (by rw[e3]) h60
  ·simp only[hp,Ki,Ks]at hcode tail;rw[<- hcode];exact tail m h ⟨tag,dv,cv,sv,R0⟩ rfl h60
 ·rw[gM,if_neg h60];have hd:decide (m.frames<60)=false:=by simpa using h60
  simp only[hd,bS,Ki,Ks]at hcode;rw[<- hcode];exact⟨h,rfl,tag,dv,cv,sv,R0⟩
theorem pH{p:List Mod}{nm:SNm}{n:Nat}(IH:mC p nm n)(IE:pY p nm n)(own:Int)(ns:List bA)(vs:List Val)(at_:Int)(f:Fun)(es:List Exp)(x8 x9 x10 x11:AV)(ha:0<=at_)(hat:at_<p.length)(hf:f∈(p[at_.toNat]?.getD default).funcs)(hes:∀e∈es,aN e)(h8:es.length<=274877906944)(hlen:es.length=f.params.length):
  ∀(B A:List Exp)(acc:List Val)(m:Ms)(h:Hp),A++B=es->acc.length=A.length->(∀v∈acc,Rv v)->dq p nm m h->GoodM p m->mu m<1000000->m.fuel<=n->Sc p own ns vs m->
  fE p nm Val.av ((listX (bh p n own ns vs) B).bind (fun ws=>ct p (bh p n) at_ f (acc++ws)) m)
   (ak (L132_0 (ai pg) ak) [.hp 0 0,.ip (aa (bb own ns vs)),.int .i64 at_,.ip (aa f.av),vals acc,dj es,.int .i64 es.length,.int .i64 A.length,x8,x9,x10,x11] h)
 |[],A,acc,m,h,e,hac,hr,R,G,hmu,hn,hs=>by
  simp only[Lk]at e;subst e;have hfl:af T 61 (.ip (aa f.av))=some f.av:=by simp
  have IE':=IE at_ f acc m h ha hat hf (by omega) hr R G hmu hn;generalize hcode:ak (L132_0 (ai pg) ak) [.hp 0 0,.ip (aa (bb own ns vs)),.int .i64 at_,.ip (aa f.av),vals acc,dj A,.int .i64 A.length,.int .i64 A.length,x8,x9,x10,x11] h=code;rw[FL132_0]at hcode;simp -implicitDefEqProofs only[L132_0,aJ,bj,bY,am,ax,L9,LG,Ki,Ks,hfl]at hcode;simp only[listX,kZ,Lk];rw[<- hcode];exact cz IE'
 | x:: B,A,acc,m,h,e,hac,hr,R,G,hmu,hn,hs=>by
  have hll:A.length+(B.length+1)=es.length:=by rw[<- e];simp
  have h1:(A.length:Int)<(es.length:Int):=by omega
  have hx:es[A.length]'(by omega)=x:=by subst e;simp
  have hm:x∈es:=by rw[<- e];simp
  have hi:=rk (l:=es) (n:=(A.length:Int)) (by omega) h1;rw[show ((A.length:Int)).toNat=A.length by omega,KM es A.length (by omega),hx]at hi;have hsc:af T 166 (.ip (aa (bb own ns vs)))=some (bb own ns vs):=rfl;have hex:af T 59 (.ip (aa x.av))=some x.av:=by simp
  have hw:IntKind.i64.wrap ((A.length:Int)+1)=((A.length+1:Nat):Int):=dQ (by omega);generalize hcode:ak (L132_0 (ai pg) ak) [.hp 0 0,.ip (aa (bb own ns vs)),.int .i64 at_,.ip (aa f.av),vals acc,dj es,.int .i64 es.length,.int .i64 A.length,x8,x9,x10,x11] h=code;rw[FL132_0]at hcode;simp -implicitDefEqProofs only[L132_0,aJ,bj,bY,am,ax,h1,Ll,Kt,hi,hex,aS (gX x),ay,hsc]at hcode;have hex':af T 59 (.ip (aa (.agg (aa x.av))))=some x.av:=hex;simp -implicitDefEqProofs only[hex',am]at hcode;rw[<- hcode];simp only[listX,mB,kZ];refine bD (IH own ns vs x m h R G hn hs (hes x hm)) fun v s h' hv Rs=>?_;obtain⟨G2,rv,f2⟩:=G.eval hs.right hv;obtain⟨t1,_⟩:=iA n own ns vs x m v s G.fuel hv;have hb2:aD T 37 1 [(0,v.av)]=some (vals [v]):=by rw[v.av_eq];simp[vals,dn,v.av_eq];rfl
  have ha2:cu T 37 (vals acc) (vals [v])=some (vals (acc++[v])):=Ai (by simp;omega);have ih:=pH IH IE own ns vs at_ f es x8 x9 x10 x11 ha hat hf hes h8 hlen B (A++[x]) (acc++[v]) s h' (by rw[<- e];simp) (by simp[hac]) (fun w hw=>by
   rcases KG.1 hw with k|k
   ·exact hr w k
   ·simp only[Lh]at k;subst k;exact rv) Rs G2 (by omega) (by omega) (hs.less f2)
  simp only[Ld,L1,KH,La]at ih;simp only[hb2,am,ha2,dx,hw];exact ih
def fS(f:Fun):aR 12 f.av=M.pure (.agg (aa f.av)):=aS (i5 f)
theorem pj{p:List Mod}{nm:SNm}{n:Nat}(LB:LimB p)(IH:mC p nm n)(own:Int)(ns:List bA)(vs:List Val)(e:Exp)(at_:Int)(hat:at_<p.length)(m:Ms)(h:Hp)(R:dq p nm m h)(G:GoodM p m)(hmu:mu m<1000000)(hn:m.fuel<=n)(hs:Sc p own ns vs m)(he:aN e)(y1 y2 y3 y4:AV):
  fE p nm Val.av ((match jH p at_ e.s with
   |none=>.er 12
   | some f=>if e.m=[]\/f.pub=true then
     (if e.args.length=f.params.length then(listX (bh p n own ns vs) e.args).bind fun l=>ct p (bh p n) at_ f l else .er 13)
    else .er 12:X Val) m)
   (K132_0 (ai pg) ak [.hp 0 0,.ip (aa (bb own ns vs)),.ip (aa e.av),.int .i64 at_,y1,y2,y3,y4] h):=by
 have IE:=t45 LB IH;obtain⟨l1,l2⟩:=ij he;have hfn:=t38 R LB.lim at_ hat e.s;generalize hcode:K132_0 (ai pg) ak [.hp 0 0,.ip (aa (bb own ns vs)),.ip (aa e.av),.int .i64 at_,y1,y2,y3,y4] h=code;simp -implicitDefEqProofs only[K132_0,aJ,bj,bE,FA59_2,FA59_3,FA59_5,KP,KV,LD9,LD29,tD,am]at hcode;rw[bp hfn]at hcode;cases hf:jH p at_ e.s with
 |none=>
  rw[hf]at hcode;simp -implicitDefEqProofs only[nD,ca,Ku,KS,am,fS,ay,xd,List.replicate,aJ,uq,je,aP,bS,Ki,Ks]at hcode;rw[<- hcode];exact dJ R
 | some f=>
  rw[hf]at hcode;obtain⟨f1,f2,f3⟩:=ga hf;have hmp:p[at_.toNat]?.getD default∈p:=by rw[Kl f2];exact KB f2
  obtain⟨_,hparams⟩:=LB.body _ hmp f f3;have hac:∀f:Fun,aa (.agg (aa f.av))=aa f.av:=fun _=>rfl;simp -implicitDefEqProofs only[nD,ca,Ku,KS,am,fS,ay,kF,BJ,aJ,hac]at hcode;have hpub:af T 4 (.ip (List.drop 1 (aa f.av)))=some (.bool f.pub):=by simp
  have hpar:af T 28 (.ip (List.drop 2 (aa f.av)))=some (cF f.params):=by simp
  have hgu:aC (.bool (e.m== [])) false 1 (M.pure [.bool f.pub])=M.pure [gv (e.m== []) false (.bool f.pub)]:=cj _ _ _;have hpk:aU (.bool (e.m== [])) (.bool true) (gv (e.m== []) false (.bool f.pub))=some (.bool ((e.m== [])||f.pub)):=g7 _ _;simp -implicitDefEqProofs only[FA61_1,FA61_2,hpub,hpar,am,hgu,ay,aJ,hpk,og,aP,p7,ej]at hcode;by_cases h1:e.m=[]\/f.pub=true
  ·have h1':(e.m== []||f.pub)=true:=by
    simp only[Lp,Lj];exact h1
   simp only[h1',bS,Kt]at hcode;simp only[Kn h1];by_cases h2:e.args.length=f.params.length
   ·have h2':((e.args.length:Int)== (f.params.length:Int))=true:=by simp[h2]
    simp only[h2',Kt]at hcode;simp only[Kn h2];rw[<- hcode]
    have:=pH IH IE own ns vs at_ f e.args y1 y2 y3 y4 (by omega) hat f3 (fun x hx=>aZ he hx) (by omega) h2 e.args [] [] m h rfl rfl (fun v hv=>by cases hv) R G hmu hn hs
    simp only[KL]at this;exact this
   ·have h2':((e.args.length:Int)== (f.params.length:Int))=false:=by
     rw[LD];omega
    simp only[h2',Ki,Ks]at hcode;simp only[if_neg h2];rw[<- hcode];exact dJ R
  ·have h1':(e.m== []||f.pub)=false:=by
    rw[<- L6];simp only[Lp,Lj];exact h1
   simp only[h1',bS,Ki,Ks]at hcode;simp only[if_neg h1];rw[<- hcode];exact dJ R
theorem t132{p:List Mod}{nm:SNm}{n:Nat}(LB:LimB p)(IH:mC p nm n):xN p nm n:=by
 intro own ns vs e m h R G hmu hn hs he;unfold kh;have hown:af T 3 (.ip [.int .i64 own,strs ns,vals vs])=some (.int .i64 own):=rfl;have hmd:=t37 R LB.lim e.m;generalize hcode:ai pg 132 [.hp 0 0,bb own ns vs,e.av] h=code;rw[C132]at hcode;simp -implicitDefEqProofs only[S132,dc,bE,FA166_0,FA59_3,KP,KV,hown,LD9,am,lz,BK,ax]at hcode;by_cases h0:e.m=[]
 ·have h0':(!(e.m== []))=false:=by simp[h0]
  simp only[h0',Ki,Ks]at hcode;simp only[Kn h0];rw[<- hcode]
  have:=pj LB IH own ns vs e own hs.own m h R G hmu hn hs he (.int .i64 0) (.int .i64 0) (.sl []) (.sl [])
  simp only[dc,bE]at this;exact this
 ·have h0':(!(e.m== []))=true:=by simp[h0]
  simp only[h0',Kt]at hcode;rw[bp hmd]at hcode;simp only[if_neg h0];rw[<- hcode];have hlt:fA p e.m<p.length:=by
   rcases iV (fun(x:Mod)=>x.name== e.m) p 0 with k|k
   ·show bI _ p 0<_;rw[k];omega
   ·show bI _ p 0<_;omega
  have:=pj LB IH own ns vs e (fA p e.m) hlt m h R G hmu hn hs he (.int .i64 0) (.int .i64 0) (.sl []) (.sl [])
  simp only[dc,bE]at this;exact this
def JS{t e:Nat}{ti ei:TI}(ht:T t=some ti)(hk:ti.kind= .slice e)(he:T e=some ei){l off len sz:Nat}{ag:Bool}{n:Int}(h0:0<=n)(h1:n<len):aj T t (.hs l off len sz ag) (.int .i64 n)=some (.hp l (off+n.toNat*ei.size)):=by
 simp[aj,ht,hk,he,h0,h1]
def xA{p:List Mod}{nm:SNm}{tag:Nat->Nat}{dv cv sv:AV}{m:Ms}{h:Hp}(R:RepT (rowP p nm.told) nm tag dv cv sv m h)(d:Deed)(hb:m.deeds.length<=2000000):
  ∃dv' h1 h2,appH T 43 false dv (.sl [d.av]) h= .ok dv' h1/\bH T 43 (.hp 0 9) dv' h1= .ok (.tup []) h2/\dq p nm { m with deeds:=m.deeds++[d] } h2:=by
 obtain⟨h1,dv',tag',e1,K,H,hc⟩:=oh (T:=T) (t:=43) rfl rfl rfl rfl (by decide) rfl (by decide) (x:=d.av) R.ds (fun h0=>by
  have:m.deeds=[]:=Kq h0;rw[this];rfl) (fun cs h=>by rw[h];exact qq _) (lG d) (show (m.deeds.length+1)*24<=140737488355328 by omega)
 have h0:=(K 0 _ R.r0 (by rw[R.t0];decide)).1;refine⟨dv',h1,_,e1,dO rfl h0 (dZ hc).1 (show 9+1<=12 by decide) (by decide),?_⟩;have hac:aa dv'=[dv']:=(dZ hc).2.1
 have:=R.pushDeed (m':={ m with deeds:=m.deeds++[d] }) K H rfl rfl rfl id
 refine⟨tag',dv',cv,sv,?_⟩;rw[hac];exact this
theorem rp{p:List Mod}{nm:SNm}{m:Ms}{h:Hp}(R:dq p nm m h)(hb:m.deeds.length<=2000000)(e:Exp)(v:Val)(n:Int)(x1 x2 x3 x4:AV):
  fE p nm Val.av (X.ok (jY n) { m with deeds:=m.deeds++[⟨e.n,v.n,n⟩] }) (K133_0 (ai pg) ak [.hp 0 0,.ip (aa e.av),.ip (aa v.av),.int .i64 n,x1,x2,x3,x4] h):=by
 obtain⟨tag,dv,cv,sv,R0⟩:=R;obtain⟨dv',h1,h2,e1,e2,R2⟩:=xA R0 ⟨e.n,v.n,n⟩ hb;have hB:bi T false 51 [(0,.int .i64 e.n),(1,.int .i64 v.n),(2,.int .i64 n)]=some (Deed.av ⟨e.n,v.n,n⟩):=rfl;have hBS:aD T 43 1 [(0,Deed.av ⟨e.n,v.n,n⟩)]=some (.sl [Deed.av ⟨e.n,v.n,n⟩]):=rfl;have ld:∀g:AV->M AV,ae (a7 T 43 (.hp 0 9)) g h=g dv h:=fun g=>bp (cp rfl rfl R0.r0 rfl);generalize hcode:K133_0 (ai pg) ak [.hp 0 0,.ip (aa e.av),.ip (aa v.av),.int .i64 n,x1,x2,x3,x4] h=code;simp -implicitDefEqProofs only[K133_0,aJ,bj,cS,am,FH98_4,FH46_2,KF,Nat.reduceAdd,ld,bE,FA59_1,KP,KV,LD3,cR,FA42_1,hB,hBS]at hcode;rw[bp e1]at hcode;rw[bp e2]at hcode;simp -implicitDefEqProofs only[t126,ay]at hcode;rw[lO]at hcode;rw[<- hcode];exact cQ R2
def xF{p:List Mod}{nm:SNm}{m:Ms}{h:Hp}(R:dq p nm m h)(w:List Int)(hw0:m.world=[]->w=[]):∃h1,(m.world≠[]->dq p nm { m with world:=w } h1)/\(∀f:AV->M AV,ae (a7 T 24 (.hp 0 1)) f h=f (oK nm.told m.world) h)/\
  (m.world≠[]->∀f:AV->M AV,ae (bH T 24 (.hp 0 1) (ints w)) f h=f (.tup []) h1):=by
 obtain⟨tag,dv,cv,sv,R⟩:=R;refine⟨h.set 0 (setCells (rowP p nm.told m dv cv sv) 1 (aa (ints w))),fun hne=>⟨tag,dv,cv,sv,?_⟩,fun f=>bp (cp rfl rfl R.r0 rfl),fun _ f=>bp (dO rfl R.r0 rfl (show 1+1<=12 by decide) (by decide))⟩;have ht:nm.told=false:=by
  cases ht:nm.told with
  |false=>rfl
  |true=>exact absurd (R.wok ht) hne
 have e:setCells (rowP p nm.told m dv cv sv) 1 (aa (ints w))=rowP p nm.told { m with world:=w } dv cv sv:=by
  simp only[ht];rfl
 rw[e];exact R.set0 rfl rfl rfl hw0
theorem t133{p:List Mod}{nm:SNm}{n:Nat}(LB:LimB p)(IH:mC p nm n):ve p nm n:=by
 intro own ns vs e m h hop hcn R G hmu hn hs he;obtain⟨l1,l2⟩:=ij he;have hscl:af T 166 (.ip [.int .i64 own,strs ns,vals vs])=some (bb own ns vs):=rfl;have hown:af T 3 (.ip [.int .i64 own,strs ns,vals vs])=some (.int .i64 own):=rfl;generalize hcode:ai pg 133 [.hp 0 0,bb own ns vs,e.av] h=code;rw[C133]at hcode;obtain⟨op,en,es,em,en2,ea⟩:=e;simp only[i8]at hop;unfold lP at hcn;simp only[i8,eT]at hcn;have hlen:op=16\/op=18->∃a,ea=[a]:=by
  intro h;apply EF;rcases h with rfl|rfl
  ·simp[bg]at hcn;omega
  ·simp[bg]at hcn;omega
 by_cases h16:op=16
 ·obtain⟨a,rfl⟩:=hlen (.inl h16);subst h16;have ha:aN a:=aZ he (by simp);simp -implicitDefEqProofs only[S133,dc,bE,i8,oX,uN,xp,dI,eT,FA59_0,FA59_1,FA59_5,KP,KV,LD3,LD29,am,ej,Lb,ax,Kt,hscl,HE]at hcode;have hex:af T 59 (.ip [.int .i64 a.op,.int .i64 a.n,.str a.s,.str a.m,strs a.names,dj a.args])=some a.av:=by
   have:af T 59 (.ip (aa a.av))=some a.av:=by simp
   rwa [bE]at this
  simp -implicitDefEqProofs only[hex,am]at hcode;rw[<- hcode];simp only[oJ,i8,Kt,qf];have e0:([a]:List Exp)[0]! = a:=rfl;simp only[eT,e0];refine bD (IH own ns vs a _ _ R G hn hs ha) fun v s1 h2 hv R2=>?_;obtain⟨G2,rv,f2⟩:=G.eval hs.right hv;generalize hcode2:ae (aR 4 v.av) _ h2=code2;simp -implicitDefEqProofs only[aS (c9 v),ay,bQ,cR,FA42_0,KV,LD3,am,ej,aP,cj,aJ,g7]at hcode2;by_cases hk:v.kind=0
  ·have hk':(v.kind== 0)=true:=by simp[hk]
   simp only[hk',bS,Kt]at hcode2;simp only[Kn hk];by_cases hn4':(Exp.mk 16 en es em en2 [a]).n=1\/(Exp.mk 16 en es em en2 [a]).n=2\/(Exp.mk 16 en es em en2 [a]).n=4\/(Exp.mk 16 en es em en2 [a]).n=8
   ·have hn4:en=1\/en=2\/en=4\/en=8:=hn4';have hn':(en== 1||en== 2||en== 4||en== 8)=true:=by
     simp only[Lp,Lj];omega
    simp only[hn',Kt]at hcode2;simp only[Kn hn4'];obtain⟨h3,R3,lw,sw⟩:=xF R2 s1.world.tail (fun h=>by rw[h];rfl);have hmu2:=(iA n own ns vs a m v s1 G.fuel hv).1;have hdl:s1.deeds.length<=2000000:=by
     have:=G2.fuel
     simp only[mu]at hmu2 hmu;omega
    show fE p nm Val.av (X.ok (jY (s1.world.headD 0)) { s1 with world:=s1.world.tail,deeds:=s1.deeds++[⟨en,v.n,s1.world.headD 0⟩] }) code2;have lenw:aE T 24 (oK nm.told s1.world)=some (.int .i64 s1.world.length):=by
     unfold oK;split
     ·rename_i ht;obtain⟨_,_,_,_,R2'⟩:=R2;rw[R2'.wok ht];rfl
     ·exact C4 _
    simp -implicitDefEqProofs only[lz,cS,am,FH98_1,KF,lw,lenw,am,mI,ax]at hcode2;cases hwd:s1.world with
    | nil=>
     rw[hwd]at hcode2;simp only[K5,show decide ((0:Int)<((0:Nat):Int))=false by decide,Ki,Ks]at hcode2
     have:=rp R2 hdl (.mk 16 en es em en2 [a]) v 0 (.int .i64 0) (.int .i64 0) (.sl []) (.sl [])
     simp only[bE,cR,i8,oX,uN,xp,dI,eT]at this;rw[hcode2]at this;have e5:({ s1 with deeds:=s1.deeds++[⟨en,v.n,0⟩] }:Ms)= { s1 with world:=([]:List Int).tail,deeds:=s1.deeds++[⟨en,v.n,([]:List Int).headD 0⟩] }:=by
      cases s1;simp only at hwd;subst hwd;rfl
     rw[e5]at this;exact this
    | cons x wl=>
     have hd:decide ((0:Int)<(((x:: wl).length:Nat):Int))=true:=by simp<;>omega
     have hne:s1.world≠[]:=by rw[hwd];simp
     have sw:=sw hne;have R3:=R3 hne;have hwv:oK nm.told s1.world=ints s1.world:=by
      unfold oK;rw[if_neg];intro ht;obtain⟨_,_,_,_,R2'⟩:=R2;exact hne (R2'.wok ht)
     rw[hwv]at lw;rw[hwd]at hcode2 sw R3 lw;have hix:aj T 24 (ints (x:: wl)) (.int .i64 0)=some (.ip [.int .i64 x]):=by
      have:=Iz (l:=x:: wl) (n:=0) (by omega) (by simp<;>omega)
      simpa using this
     have hsl:cC T 24 (ints (x:: wl)) (some (.int .i64 1)) none none=some (ints wl):=by
      have:=xH (T:=T) (t:=24) (e:=3) rfl rfl rfl ((x:: wl).map (AV.int .i64)) (by exact xv _) (n:=1) (by omega) (by simp<;>omega)
      simpa [ints]using this
     simp only[List.tail_cons]at sw R3;simp -implicitDefEqProofs only[hd,Kt,lw,hix,am,LD3,hsl,sw]at hcode2
     have:=rp R3 hdl (.mk 16 en es em en2 [a]) v x (.int .i64 0) (.int .i64 0) (.sl []) (.sl [])
     simp only[bE,cR,i8,oX,uN,xp,dI,eT]at this;rw[hcode2]at this;exact this
   ·have hn4:¬(en=1\/en=2\/en=4\/en=8):=hn4';have hn':(en== 1||en== 2||en== 4||en== 8)=false:=by
     rw[<- L6];simp only[Lp,Lj];omega
    simp only[hn',Ki,Ks]at hcode2;simp only[if_neg hn4'];rw[<- hcode2];exact dJ R2
  ·have hk':(v.kind== 0)=false:=by simpa using hk
   simp only[hk',bS,Ki,Ks]at hcode2;simp only[if_neg hk];rw[<- hcode2];exact dJ R2
 have h16':((op:Int)== 16)=false:=by simpa using h16
 have h16x:¬((Exp.mk op en es em en2 ea).op=16):=h16;unfold oJ;simp only[if_neg h16x];unfold rc;simp -implicitDefEqProofs only[S133,dc,bE,i8,oX,uN,xp,dI,eT,FA166_0,FA59_0,FA59_1,FA59_2,FA59_5,KP,KV,LD3,LD29,am,ej,h16',Ki,ax,Ks,hown,hscl,ke,aP,lz]at hcode;by_cases ho:own<0
 ·have ho':decide (0<=own)=false:=by simp;omega
  simp only[ho',bS,Ki,Ks]at hcode;simp only[Kn ho];rw[<- hcode];exact dJ R
 have ho':decide (0<=own)=true:=by simp;omega
 simp only[ho',bS,Kt]at hcode;simp only[if_neg ho];have hol:=hs.own;have hlt:own.toNat<p.length:=by omega
 have hix:=rj (l:=p) (n:=own) (by omega) hol;rw[KM p own.toNat hlt]at hix;have e3:p[own.toNat]?.getD default=p[own.toNat]:=by rw[Kl hlt];rfl
 have hvl:=(LB.lim.funcsAt own.toNat).2;rw[e3]at hvl |-;have hff:=H5 p[own.toNat].vars hvl (.mk op en es em en2 ea);simp only[bE,i8,oX,uN,xp,dI,eT]at hff;have Rk:=R;obtain⟨tag,dv,cv,sv,R0⟩:=R;have lm:∀g:AV->M AV,ae (a7 T 22 (.hp 0 0)) g h=g (mods p) h:=fun g=>bp (cp rfl rfl R0.r0 (by rw[<- mP (t:=nm.told) (fun e=>by subst e;simp at hlt)];rfl));have lsv:∀g:AV->M AV,ae (a7 T 44 (.hp 0 11)) g h=g nm.sv h:=fun g=>bp (cp rfl rfl R0.r0 (by rw[<- R0.sve];rfl));simp -implicitDefEqProofs only[cS,am,FH98_0,FH98_4,FH46_4,KF,Nat.reduceAdd,lm,hix,eE,FA34_2,KP,KV,LD28,hff,dk,ay,ke,aP]at hcode;by_cases hi:gO p[own.toNat].vars (Exp.mk op en es em en2 ea).s<0
 ·have hi':decide (0<=gO p[own.toNat].vars es)=false:=by
   have:gO p[own.toNat].vars es<0:=hi;simp;omega
  simp only[hi',bS,Ki,Ks]at hcode;simp only[Kn hi];rw[<- hcode];exact dJ Rk
 have hi0:0<=gO p[own.toNat].vars es:=by
  have:¬gO p[own.toNat].vars es<0:=hi;omega
 have hi':decide (0<=gO p[own.toNat].vars es)=true:=by simp;omega
 simp only[hi',bS,Kt,lsv]at hcode;simp only[if_neg hi];have hil:gO p[own.toNat].vars es<p[own.toNat].vars.length:=by
  rcases iV (fun(x:hP)=>x.1== es) p[own.toNat].vars 0 with k|k
  ·have:gO p[own.toNat].vars es= -1:=k;omega
  ·have:gO p[own.toNat].vars es=bI (fun(x:hP)=>x.1== es) p[own.toNat].vars 0:=rfl;omega
 obtain⟨l,hl1,hl2⟩:=G.shape own.toNat _ (Kl hlt);have hne:l≠[]:=fun e=>by rw[e]at hl2;simp at hl2;omega
 have hsl:own.toNat<m.state.length:=(Kz.1 hl1).1;obtain⟨q,r,v1,v2,v3,v4,v5,v6⟩:=R0.var (fun _=>rfl) hl1 hne;have hx1:aj T 44 nm.sv (.int .i64 own)=some (.hp q (own.toNat*2)):=by
  rw[v1]
  have:=JS (t:=44) rfl rfl rfl (l:=q) (off:=0) (len:=m.state.length) (sz:=2) (ag:=true) (n:=own) (by omega) (by omega)
  rw[this];simp
 have lv:∀g:AV->M AV,ae (a7 T 37 (.hp q (own.toNat*2+1))) g h=g (.hs r 0 l.length 4 true) h:=fun g=>bp (cp rfl rfl v2 v3);simp -implicitDefEqProofs only[hx1,am,FH53_1,lv]at hcode;generalize hI:gO p[own.toNat].vars es=I at *;have hI2:gO p[own.toNat].vars (Exp.mk op en es em en2 ea).s=I:=hI;rw[hI2];have hx2:aj T 37 (.hs r 0 l.length 4 true) (.int .i64 I)=some (.hp r (I.toNat*4)):=by
  have:=JS (t:=37) rfl rfl rfl (l:=r) (off:=0) (len:=l.length) (sz:=4) (ag:=true) (n:=I) (by omega) (by omega)
  rw[this];simp
 have hk:I.toNat<l.length:=by omega
 by_cases h18:op=18
 ·have h18x:(Exp.mk op en es em en2 ea).op=18:=h18;simp only[Kn h18x];obtain⟨a,rfl⟩:=hlen (.inr h18);have ha:aN a:=aZ he (by simp);have hb18:(op== 18)=true:=by simp[h18]
  have hex:af T 59 (.ip (aa a.av))=some a.av:=by simp
  have e0:(Exp.mk op en es em en2 [a]).args[0]! = a:=rfl;simp -implicitDefEqProofs only[hb18,Kt,HE,am,hex]at hcode;rw[<- hcode,e0];refine bD (IH own ns vs a _ _ Rk G hn hs ha) fun v s1 h2 hv R2=>?_;obtain⟨G2,rv,f2⟩:=G.eval hs.right hv;obtain⟨tag2,dv2,cv2,sv2,R20⟩:=R2;obtain⟨l',hl1',hl2'⟩:=G2.shape own.toNat _ (Kl hlt);have hne':l'≠[]:=fun e=>by rw[e]at hl2';simp at hl2';omega
  obtain⟨q',r',w1,w2,w3,w4,w5,w6⟩:=R20.var (fun _=>rfl) hl1' hne';have hll:l'.length=l.length:=by omega
  have hrr:r'=r:=by
   rw[v3]at w3;simp only[Kg,AV.hs.injEq]at w3;exact w3.1.symm
  subst hrr;have hst:bH T 42 (.hp r' (I.toNat*4)) v.av h2= .ok (.tup []) (h2.set r' (aX (l'.set I.toNat v))):=by
   have:=dO (T:=T) (t:=42) rfl w5 (v:=v.av) (k:=I.toNat*4) (c9 v) (by rw[fL];show I.toNat*4+4<=_;omega) (by decide)
   rw[this,ra (by omega)]
  have R3:=w6 I.toNat v (by omega);have hset:((s1.state[own.toNat]?.getD []).set I.toNat v)=l'.set I.toNat v:=by rw[hl1'];rfl
  have hld2:a7 T 42 (.hp r' (I.toNat*4)) (h2.set r' (aX (l'.set I.toNat v)))= .ok v.av (h2.set r' (aX (l'.set I.toNat v))):=by
   have hlt2:r'<h2.length:=(Kz.1 w5).1
   have:=lC (T:=T) (t:=42) rfl rfl (h:=h2.set r' (aX (l'.set I.toNat v))) (l:=r') (k:=I.toNat*4) (Lf hlt2) (by rw[fL,LM];show I.toNat*4+4<=_;omega)
   rw[this];have hg:=iB (l:=l'.set I.toNat v) (k:=I.toNat) (by simp;omega);show Av.R.ok (AV.agg (((aX (l'.set I.toNat v)).drop (I.toNat*4)).take 4)) _=_;rw[hg,List.getElem_set_self];rw[Val.av_eq];rfl
  generalize hcode2:ae (ah (aj T 37 (.hs r' 0 l.length 4 true) (.int .i64 I))) _ h2=code2;simp -implicitDefEqProofs only[hx2,am]at hcode2;rw[bp hst]at hcode2;simp -implicitDefEqProofs only[K133_1,aJ,bj,hx2,am]at hcode2;rw[bp hld2,lO]at hcode2;rw[<- hcode2];exact⟨_,rfl,tag2,dv2,cv2,sv2,R3⟩
 ·have h18x:¬((Exp.mk op en es em en2 ea).op=18):=h18;have hb18:(op== 18)=false:=by simpa using h18
  have hld2:a7 T 42 (.hp r (I.toNat*4)) h= .ok (l[I.toNat]).av h:=by
   have:=lC (T:=T) (t:=42) rfl rfl (h:=h) (l:=r) (k:=I.toNat*4) v5 (by rw[fL];show I.toNat*4+4<=_;omega)
   rw[this];have hg:=iB (l:=l) (k:=I.toNat) hk;show Av.R.ok (AV.agg (((aX l).drop (I.toNat*4)).take 4)) _=_;rw[hg,Val.av_eq];rfl
  simp only[if_neg h18x];simp -implicitDefEqProofs only[hb18,Ki,Ks,K133_1,aJ,bj,hx2,am]at hcode;rw[bp hld2,lO]at hcode;rw[<- hcode];have hgs:nF m.state own.toNat I.toNat=l[I.toNat]:=by
   simp[nF,KO,hl1,hk]
  show fE p nm Val.av (X.ok (nF m.state own.toNat I.toNat) m) _;rw[hgs];exact cQ Rk
theorem Ex{p:List Mod}{nm:SNm}(LB:LimB p):∀n,mC p nm n
 |0=>fun own ns vs e m h R G hn hs he=>⟨h,yO R (by omega) _ e,R⟩
 |n+1=>by
  have IH:=Ex (nm:=nm) LB n;exact wT IH (t130 IH) (t132 LB IH) (t133 LB IH)
def A0{p:List Mod}{nm:SNm}(LB:LimB p)(n:Nat):pY p nm n:=t45 LB (Ex LB n)
def vP{m:M AV}{r:AV}{h':Hp}(h1:m []= .ok r h')(h2:∀g,cl g r=r):aH m=M.pure r:=by
 funext h;unfold aH;rw[h1];simp only[M.pure];have:iU 6 h' r=r:=h2 _;rw[this]
def Aa(l:List Val):(l.any fun v=>!bn 4 v)= !(l.all (bn 4)):=by
 induction l with
 |nil=>rfl
 |cons v l ih=>simp only[List.any_cons,Ln,ih];cases bn 4 v<;>simp
def JB(v:Val):af T 42 (.ip (aa v.av))=some v.av:=by simp
def t79(v:Val)(hv:v.sz<=4611686018427387904):ai pg 79 [v.av]=M.pure (.bool !bn 4 v):=by
 rw[C79];simp only[S79,ln,JB,am,t41 v hv,ay,dC];exact bm fun g=>rfl
def t40(v:Val)(hv:v.sz<=4611686018427387904):ai pg 40 [v.av]=M.pure (.bool !bn 4 v):=by
 rw[C40];simp only[S40,ln,JB,am,t41 v hv,ay,dC];exact bm fun g=>rfl
def t84(v:Val)(hv:v.sz<=4611686018427387904):ai pg 84 [v.av]=M.pure (.bool !bn 4 v):=by
 rw[C84];simp only[S84,ln,JB,am,t41 v hv,ay,dC];exact bm fun g=>rfl
def qi(k:Nat)(hk:∀v:Val,v.sz<=4611686018427387904->ai pg k [v.av]=M.pure (.bool !bn 4 v))(l:List Val)(hl:aY l<=4611686018427387904):ai pg 39 [vals l,.fn (.func k) [] []]=M.pure (.bool !(l.all (bn 4))):=by
 have:=t39 (.fn (.func k) [] []) (fun v=>!bn 4 v) l (Lg (gh l) hl) (fun g=>rfl) (fun v hv=>hk v (Lg (eS hv) hl))
 rw[this,Aa]
def t43(f:AV)(h:Hp):ai pg 43 [f] h=q7 40 .i64 (.agg [.int .i64 0,.int .i64 0,.sl [],.sl []]) (bO (ai pg) f [] h):=by
 have e:ai pg 43 [f]=tp 40 .i64 (.agg [.int .i64 0,.int .i64 0,.sl [],.sl []]) (ai pg) [f]:=gn aG rfl _;rw[e];rfl
def JU:SNm:=⟨[],.hn,[],true⟩
def zi:LimB []:=⟨⟨by simp,fun m hm=>by cases hm⟩,fun m hm=>by cases hm⟩
def Bz:dq [] JU (aW [] 100000 []) [[.hn,.hn,.int .i64 100000,.int .i64 0,.int .i64 0,.int .i64 0,.int .i64 0,.hn,.hn,.hn,.hn,.hn]]:=
 ⟨fun _=>0,.hn,.hn,.hn,rfl,rfl,.inl ⟨rfl,rfl⟩,.inl ⟨rfl,rfl⟩,.inl ⟨rfl,rfl⟩,rfl,fun _=>rfl⟩
def zc:GoodM [] (aW [] 100000 []):=⟨⟨fun l hl=>by simp[aW]at hl,fun c hc=>by simp[aW]at hc⟩,by simp[mu,aW],by simp[aW],by simp[aW],fun i x hx=>by simp at hx⟩
def jc:Rs Val->AV
 |.ok v _=>.tup [v.av,.int .i64 0]
 |.er e _=>.tup [Val.av default,.int .i64 e]
def ql(g)(v:Val)(e:Int):cl g (.tup [v.av,.int .i64 e])= .tup [v.av,.int .i64 e]:=by simp[cl,de]
theorem t35(e:Exp)(ns:List bA)(vs:List Val)(he:aN e)(hn:ns.length<=274877906944)(hv:aY vs<=4611686018427387904):ai pg 35 [e.av,strs ns,vals vs]=M.pure (jc (qw e ns vs)):=by
 have ha:=qi 79 t79 vs hv;have hl1:af T 27 (.ip (aa (strs ns)))=some (strs ns):=rfl;have hl2:af T 37 (.ip (aa (vals vs)))=some (vals vs):=rfl;have hB:bi T true 98 [(2,.int .i64 100000)]=some (.agg [.hn,.hn,.int .i64 100000,.int .i64 0,.int .i64 0,.int .i64 0,.int .i64 0,.hn,.hn,.hn,.hn,.hn]):=rfl;have hZ:bi T false 42 []=some (Val.av default):=rfl;have hcl:∀h:AV->M AV,ae (newH [.hn,.hn,.int .i64 100000,.int .i64 0,.int .i64 0,.int .i64 0,.int .i64 0,.hn,.hn,.hn,.hn,.hn]) h []=h (.hp 0 0) [[.hn,.hn,.int .i64 100000,.int .i64 0,.int .i64 0,.int .i64 0,.int .i64 0,.hn,.hn,.hn,.hn,.hn]]:=fun h=>rfl;rw[C35,ki,ie,yA];unfold qw;by_cases hr:ns.length=vs.length/\vs.all (bn 4)=true
 ·rw[Kn hr];have hne:((ns.length:Int) != (vs.length:Int))=false:=by simp[hr.1]
  have hrs:iI ns vs:=⟨hr.1,fun v hv=>(KA.1 hr.2) v hv⟩;have hev:=Ex (nm:=JU) zi 100000 (-1) ns vs e _ _ Bz zc (by simp[aW]) ⟨by simp,hrs,by simp only[aW];omega⟩ he;have hcell:aR 1 (.hp 0 0)=M.pure (.agg [.hp 0 0]):=rfl;have hBS:bi T false 166 [(0,.int .i64 (-1)),(1,strs ns),(2,vals vs)]=some (bb (-1) ns vs):=rfl;have hlp:af T 96 (.ip [.hp 0 0])=some (.hp 0 0):=rfl;have hex:af T 59 (.ip (aa e.av))=some e.av:=by simp
  have hcall:∀h,ai pg 80 [.ip [.hp 0 0],.ip (aa (strs ns)),.ip (aa (vals vs)),.ip (aa e.av)] h=ae (ai pg 81 [.hp 0 0,bb (-1) ns vs,e.av]) (fun v=>ae (au 4 [] v) fun w=>M.pure (AV.agg [nth (aa w) 0,nth (aa w) 1,nth (aa w) 2,nth (aa w) 3])) h:=fun h=>by
   rw[C80];simp -implicitDefEqProofs only[S80,hlp,hl1,hl2,hex,hBS,am]
  have hS:S35 (ai pg) ak e.av (strs ns) (vals vs) []= .ok (jc (bh [] 100000 (-1) ns vs e (aW [] 100000 []))) []\/∃h',S35 (ai pg) ak e.av (strs ns) (vals vs) []= .ok (jc (bh [] 100000 (-1) ns vs e (aW [] 100000 []))) h':=by
   right;simp -implicitDefEqProofs only[S35,hl1,hl2,am,tC,tE,kf,hne,kF,ha,ay,dC,hr.2,Lx,aJ,je,ax,Ki,Ks,hB,bQ,hcl,hcell];have htry:=t43 (.fn (.func 80) [] [.ip [.hp 0 0],.ip (aa (strs ns)),.ip (aa (vals vs)),.ip (aa e.av)]) [[.hn,.hn,.int .i64 100000,.int .i64 0,.int .i64 0,.int .i64 0,.int .i64 0,.hn,.hn,.hn,.hn,.hn]];have hcv:bO (ai pg) (.fn (.func 80) [] [.ip [.hp 0 0],.ip (aa (strs ns)),.ip (aa (vals vs)),.ip (aa e.av)]) []=ai pg 80 [.ip [.hp 0 0],.ip (aa (strs ns)),.ip (aa (vals vs)),.ip (aa e.av)]:=rfl;rw[hcv,hcall]at htry;have how:=cz hev;generalize bh [] 100000 (-1) ns vs e (aW [] 100000 [])=r at how |-;cases r with
   |ok v s=>
    obtain⟨h',e1,_⟩:=how;refine⟨h',?_⟩;rw[e1]at htry;simp only[q7,c9,Kh]at htry;rw[bp htry];simp[jc,M.pure]
   |er c s=>
    obtain⟨h',e1,_⟩:=how;refine⟨h',?_⟩;rw[e1]at htry;have ht:q7 40 .i64 (.agg [.int .i64 0,.int .i64 0,.sl [],.sl []]) (.pan (km c) h')= .ok (.tup [Val.av default,.int .i64 c]) h':=rfl;rw[ht]at htry;rw[bp htry];simp[jc,M.pure]
  rcases hS with h|⟨h',h⟩
  ·exact vP h fun g=>by cases bh [] 100000 (-1) ns vs e (aW [] 100000 [])<;>exact ql g _ _
  ·exact vP h fun g=>by cases bh [] 100000 (-1) ns vs e (aW [] 100000 [])<;>exact ql g _ _
 ·rw [if_neg hr];have hb:((ns.length:Int) != (vs.length:Int)||!(vs.all (bn 4)))=true:=by
   by_cases h1:ns.length=vs.length
   ·have:vs.all (bn 4)=false:=by
     rw[<- L6];exact fun h2=>hr ⟨h1,h2⟩
    simp[this]
   ·have:((ns.length:Int) != (vs.length:Int))=true:=by
     rw[bne_iff_ne];omega
    simp[this]
  have hgu:aC (.bool ((ns.length:Int) != (vs.length:Int))) false 1 (M.pure [.bool !(vs.all (bn 4))])=M.pure [gv ((ns.length:Int) != (vs.length:Int)) false (.bool !(vs.all (bn 4)))]:=cj _ _ _;have hS:S35 (ai pg) ak e.av (strs ns) (vals vs)=M.pure (.tup [Val.av default,.int .i64 1]):=by
   simp -implicitDefEqProofs only[S35,hl1,hl2,am,tC,tE,kf,ha,ay,dC,hgu,aJ,g7,hb,ax,Kt,hZ];simp
  rw[hS];exact bm fun g=>ql g _ _
def Jz(m:Mod):af T 34 (.ip (aa m.av))=some m.av:=by simp
def t34(p:List Mod)(hp:p.length<=1099511627776):ai pg 34 [mods p]=M.pure (.int .i64 (dt p)):=by
 let D:Nat->Bool:=fun i=>(p.take i).any fun m=>m.name== (p[i]?.getD default).name;have hloop:∀(n k:Nat),p.length-k=n->k<=p.length->ak (L34_0 (ai pg) ak) [mods p,mods p,.int .i64 p.length,.int .i64 k]=M.pure (.int .i64 (if(List.range' k n).any D=true then 5 else 0)):=by
  intro n
  induction n with
  |zero=>
   intro k hk hl;obtain rfl:k=p.length:=by omega
   rw[FL34_0];simp[L34_0]
  | succ n ih=>
   intro k hk hl;have h1:(k:Int)<(p.length:Int):=by omega
   have hlt:k<p.length:=by omega
   have hi:=rj (l:=p) (n:=(k:Int)) (by omega) h1;rw[show ((k:Int)).toNat=k by omega,KM p k hlt]at hi;have hs:cC T 22 (mods p) none (some (.int .i64 k)) none=some (mods (p.take k)):=by
    have:=xG (T:=T) (t:=22) (e:=34) rfl rfl rfl (p.map Mod.av) (n:=(k:Int)) (by omega) (by simp;omega)
    simpa [mods,MS]using this
   have ha:=t77 (.fn (.func 78) [] [.ip (aa p[k].av)]) (fun m=>m.name== p[k].name) (p.take k) (by simp;omega) (fun g=>by simp[cl,de]) (fun m _=>t78 m p[k]);have hD:D k=((p.take k).any fun m=>m.name== p[k].name):=by simp only[D,Kl hlt,MK]
   have hw:IntKind.i64.wrap ((k:Int)+1)=((k+1:Nat):Int):=dQ (by omega);rw[FL34_0];simp -implicitDefEqProofs only[L34_0,aJ,bj,bY,am,ax,h1,Ll,Kt,hi,Jz,aS (gY _),ay,bQ,hs,ha,dx,hw];rw[ih (k+1) (by omega) (by omega),List.range'_succ,List.any_cons,hD];generalize ((p.take k).any fun m=>m.name== p[k].name)=b;generalize (List.range' (k+1) n).any D=c;cases b<;>cases c<;>rfl
 rw[C34,ic];have h0:=hloop p.length 0 (by omega) (by omega);have ht:zX p=(List.range' 0 p.length).any D:=by
  unfold zX;rw[List.range_eq_range']
 have hS:S34 (ai pg) ak (mods p)=M.pure (.int .i64 (dt p)):=by
  unfold dt;rw[ht];by_cases h20:20<p.length
  ·have h20':(20:Int)<(p.length:Int):=by omega
   simp only[h20,Kt];simp -implicitDefEqProofs only[S34,mV,am,mI,ax,h20',Ll,Kt]
  ·have:¬((20:Int)<(p.length:Int)):=by omega
   simp only[h20,Ks];simp -implicitDefEqProofs only[S34,mV,am,mI,ax,this,LG,Ki,Ks];exact h0
 rw[hS];exact bm fun g=>rfl
def t83(m:Mod)(v:Vars)(hv:aY v.values<=4611686018427387904)(_hm:m.vars.length<=1099511627776):ai pg 83 [m.av,v.av]=M.pure (.bool (v.module== m.name&&(v.values.length== m.vars.length&&v.values.all (bn 4)))):=by
 have ha:=qi 84 t84 v.values hv;have e1:(((v.values.length:Nat):Int)== ((m.vars.length:Nat):Int))=(v.values.length== m.vars.length):=by rw[LV];simp
 rw[C83];simp[S83,ha,e1];cases v.module== m.name<;>cases (v.values.length== m.vars.length)<;>simp
def zt(v:Vars):af T 53 (.ip (aa v.av))=some v.av:=by simp
theorem t36(p:List Mod)(st:List Vars)(hp:p.length<=1099511627776)(hm:∀m∈p,m.vars.length<=1099511627776)(hv:∀v∈st,aY v.values<=4611686018427387904):ai pg 36 [mods p,bJ st]=M.pure (.bool (cY p st)):=by
 let F:Mod->Vars->Bool:=fun m v=>v.module== m.name&&(v.values.length== m.vars.length&&v.values.all (bn 4));have hloop:p.length=st.length->∀(n:Nat)(i:Int),p.length-i.toNat=n->0<=i->i<=p.length->
   ak (L82_0 (ai pg) ak) [bJ st,.fn (.func 83) [] [],mods p,.int .i64 p.length,.int .i64 i]=M.pure (.bool (c8 F (p.drop i.toNat) (st.drop i.toNat))):=by
  intro hab n
  induction n with
  |zero=>
   intro i hn hi hl;rw[FL82_0];simp only[L82_0];have h1:¬(i<(p.length:Int)):=by omega
   have h2:p.drop i.toNat=[]:=Kx (by omega);have h3:st.drop i.toNat=[]:=Kx (by omega);simp[h1,h2,h3,c8]
  |succ n ih=>
   intro i hn hi hl;have h1:i<(p.length:Int):=by omega
   have hlt:i.toNat<p.length:=by omega
   have hlt':i.toNat<st.length:=by omega
   have h3:=t83 p[i.toNat] st[i.toNat] (hv _ (KB hlt')) (hm _ (KB hlt));have h4:=ih (i+1) (by omega) (by omega) (by omega);rw[show (i+1).toNat=i.toNat+1 by omega]at h4;have i1:=rj (l:=p) (n:=i) hi h1;have i2:=Am (l:=st) (n:=i) hi (by omega);rw[KM p _ hlt]at i1;rw[KM st _ hlt']at i2;have hw:IntKind.i64.wrap (i+1)=i+1:=bo (by omega) (by omega);have hcv:∀x y:AV,bO (ai pg) (.fn (.func 83) [] []) [x,y]=ai pg 83 [x,y]:=fun _ _=>rfl;have hm1:∀m:Mod,AV.agg (aa m.av)=m.av:=fun m=>rfl;have hv1:∀v:Vars,AV.agg (aa v.av)=v.av:=fun v=>rfl;rw[FL82_0,gH F p st i.toNat hlt hlt'];simp -implicitDefEqProofs only[L82_0,aJ,bj,bY,am,ax,h1,Ll,Kt,i1,i2,Jz,zt,aS (gY _),aS (jp _),ay,hm1,hv1,hcv,h3,dC,dx,hw,h4];have hF:F p[i.toNat] st[i.toNat]=(st[i.toNat].module== p[i.toNat].name&&(st[i.toNat].values.length== p[i.toNat].vars.length&&st[i.toNat].values.all (bn 4))):=rfl;rw[hF];generalize (st[i.toNat].module== p[i.toNat].name&&(st[i.toNat].values.length== p[i.toNat].vars.length&&st[i.toNat].values.all (bn 4)))=b;cases b<;>simp
 have hT:ai pg 82 [mods p,bJ st,.fn (.func 83) [] []]=M.pure (.bool (c8 F p st)):=by
  rw[C82];by_cases h:p.length=st.length
  ·have:=hloop h p.length 0 rfl (by omega) (by omega)
   simp[S82,h,cl,de]at this |-;simp[this]
  ·have h3:(p.length != st.length)=true:=by simp[h]
   simp[S82,h3,dF F p st h,cl,de]
 rw[C36];simp only[S36,ic,rK,hT,ay];exact bm fun g=>rfl
def kB:Except Int (List Vars)->AV
 |.ok st=>.tup [bJ st,.int .i64 0]
 |.error e=>.tup [.sl [],.int .i64 e]
def yQ{e:Exp}{ns:List bA}{vs:List Val}{c:Int}{s:Ms}(h:qw e ns vs= .er c s):c≠0:=by
 unfold qw at h;split at h
 ·exact rW h
 ·cases h;decide
theorem sq(outer:List AV->M AV)(p:List Mod)(out:List Vars)(i:AV)(nm:bA)(es:List Exp)(hes:∀e∈es,aN e)(hlen:es.length<=274877906944)(hout:out.length<=1099511627776):∀(B A:List Exp)(acc:List Val)(k:Int),A++B=es->acc.length=A.length->i= .int .i64 k->-4611686018427387904<=k->k<=4611686018427387904->
  ak (L18_0 (ai pg) ak outer) [bJ out,mods p,.int .i64 p.length,i,dj es,.int .i64 es.length,.int .i64 A.length,.str nm,vals acc]=
  match iW B with
  |.error c=>M.pure (.tup [.sl [],.int .i64 c])
  |.ok vs=>outer [bJ (out++[⟨nm,acc++vs⟩]),mods p,.int .i64 p.length,.int .i64 (k+1)]
 |[],A,acc,k,e,hac,hi,hk1,hk2=>by
  simp only[Lk]at e;subst e;subst hi;have hb:aD T 44 1 [(0,.agg [.str nm,vals acc])]=some (bJ [⟨nm,acc⟩]):=rfl;have ha:cu T 44 (bJ out) (bJ [⟨nm,acc⟩])=some (bJ (out++[⟨nm,acc⟩])):=CW (by simp;omega);have hw:IntKind.i64.wrap (k+1)=k+1:=bo (by omega) (by omega);rw[FL18_0];simp -implicitDefEqProofs only[L18_0,aJ,bj,bY,am,ax,L9,LG,Ki,Ks,hb,ha,dx,hw];simp[iW]
 | x:: B,A,acc,k,e,hac,hi,hk1,hk2=>by
  have hll:A.length+(B.length+1)=es.length:=by rw[<- e];simp
  have h1:(A.length:Int)<(es.length:Int):=by omega
  have hx:es[A.length]'(by omega)=x:=by subst e;simp
  have hm:x∈es:=by rw[<- e];simp
  have hix:=rk (l:=es) (n:=(A.length:Int)) (by omega) h1;rw[show ((A.length:Int)).toNat=A.length by omega,KM es A.length (by omega),hx]at hix;have hex:af T 59 (.ip (aa x.av))=some x.av:=by simp
  have hx1:∀e:Exp,AV.agg (aa e.av)=e.av:=fun _=>rfl;have hcall:=t35 x [] [] (hes x hm) (by simp) (by simp[aY]);have hcall':ai pg 35 [x.av,.sl [],.sl []]=M.pure (jc (qw x [] [])):=hcall;have hw:IntKind.i64.wrap ((A.length:Int)+1)=((A.length+1:Nat):Int):=dQ (by omega);have hne:∀a b:Int,ao T .neq 40 (.int .i64 a) (.int .i64 b)=some (.bool (a != b)):=fun _ _=>rfl;rw[FL18_0];simp -implicitDefEqProofs only[L18_0,aJ,bj,bY,am,ax,h1,Ll,Kt,hix,hex,aS (gX x),ay,hx1,hcall'];unfold iW;cases hr:qw x [] []with
  | er c s=>
   have hc0:(c != 0)=true:=by
    have:=yQ hr
    simpa using this
   simp -implicitDefEqProofs only[jc,ca,Ku,KS,am,aS (c9 default),ay,hne,hc0,ax,Kt]
  |ok v s=>
   have hb2:aD T 37 1 [(0,v.av)]=some (vals [v]):=by rw[v.av_eq];simp[vals,dn,v.av_eq];rfl
   have ha2:cu T 37 (vals acc) (vals [v])=some (vals (acc++[v])):=Ai (by simp;omega);have hc1:gy (vals (acc++[v]))=M.pure (vals (acc++[v])):=rfl;have hvv:∀v:Val,AV.agg (aa v.av)=v.av:=fun v=>by simp
   have h00:((0:Int) != 0)=false:=rfl;have hvl:af T 42 (.ip (aa v.av))=some v.av:=by simp
   have ih:=sq outer p out i nm es hes hlen hout B (A++[x]) (acc++[v]) k (by rw[<- e];simp) (by simp[hac]) hi hk1 hk2;simp only[Ld,L1,KH,La]at ih;simp -implicitDefEqProofs only[jc,ca,Ku,KS,am,aS (c9 v),ay,hne,h00,ax,Ki,Ks,hvv,hvl,hb2,ha2,hc1,dx,hw,ih];cases iW B<;>rfl
theorem t18(p:List Mod)(hp:p.length<=1099511627776)(hm:∀m∈p,m.vars.length<=1099511627776/\m.init.length<=274877906944/\∀e∈m.init,aN e):ai pg 18 [mods p]=M.pure (kB (fY p)):=by
 have hloop:∀(B A:List Mod)(out:List Vars),A++B=p->out.length=A.length->ak (L18_1 (ai pg) ak) [bJ out,mods p,.int .i64 p.length,.int .i64 A.length]=
   M.pure (match eI B with|.error c=>.tup [.sl [],.int .i64 c]|.ok r=>.tup [bJ (out++r),.int .i64 0]):=by
  intro B
  induction B with
  |nil=>
   intro A out e ho;simp only[Lk]at e;subst e;rw[FL18_1];simp -implicitDefEqProofs only[L18_1,aJ,bj,bY,am,ax,L9,LG,Ki,Ks,eI,Lk]
  | cons x B ih=>
   intro A out e ho;have hll:A.length+(B.length+1)=p.length:=by rw[<- e];simp
   have h1:(A.length:Int)<(p.length:Int):=by omega
   have hx:p[A.length]'(by omega)=x:=by subst e;simp
   have hmm:x∈p:=by rw[<- e];simp
   obtain⟨m1,m2,m3⟩:=hm x hmm;have hix:=rj (l:=p) (n:=(A.length:Int)) (by omega) h1;rw[show ((A.length:Int)).toNat=A.length by omega,KM p A.length (by omega),hx]at hix;have hB:bi T true 53 [(0,.str x.name)]=some (.agg [.str x.name,.hn]):=rfl;have hC:au 2 [1] (.agg [.str x.name,.hn])=M.pure (.agg [.str x.name,.hn]):=rfl;have hin:=sq (ak (L18_1 (ai pg) ak)) p out (.int .i64 A.length) x.name x.init m3 m2 (by omega) x.init [] [] A.length rfl rfl rfl (by omega) (by omega);rw[FL18_1];simp -implicitDefEqProofs only[L18_1,aJ,bj,bY,am,ax,h1,Ll,Kt,hix,Jz,aS (gY x),ay,bQ];simp -implicitDefEqProofs only[aJ,bj,am,ax,ay,bQ,eE,FA34_0,FA34_2,FA34_3,KP,KV,LD9,LD29,LD28,tD,p7,hB,hC,kf];unfold eI;by_cases hl:x.init.length=x.vars.length
   ·have hl':((x.init.length:Int) != (x.vars.length:Int))=false:=by simp[hl]
    simp only[hl',Ki,Ks,Kn hl];have hz:((([]:List Exp).length:Nat):Int)=0:=rfl;rw[hz]at hin;have hv0:vals []= .sl []:=rfl;rw[hv0]at hin;rw[hin];cases iW x.init with
    |error c=>rfl
    |ok vs=>
     have:=ih (A++[x]) (out++[⟨x.name,vs⟩]) (by rw[<- e];simp) (by simp[ho])
     simp only[KH,La]at this;have hcast:((A.length:Int)+1)=((A.length+1:Nat):Int):=by omega
     simp only[KL,hcast,this];cases eI B<;>simp
   ·have hl':((x.init.length:Int) != (x.vars.length:Int))=true:=by
     rw[bne_iff_ne];omega
    simp only[hl',Kt,if_neg hl]
 have h0:=hloop p [] [] rfl rfl;have hne:∀a b:Int,ao T .neq 40 (.int .i64 a) (.int .i64 b)=some (.bool (a != b)):=fun _ _=>rfl;have hS:S18 (ai pg) ak (mods p)=M.pure (kB (fY p)):=by
  unfold fY;by_cases hn:dt p=0
  ·have hn':(dt p != 0)=false:=by simp[hn]
   simp -implicitDefEqProofs only[S18,t34 p hp,ay,hne,am,hn',ax,Ki,Ks,mV];rw[Kn hn];simp only[K5,KL]at h0;have:bJ []= .sl []:=rfl;rw[this]at h0;have hz:((0:Nat):Int)=0:=rfl;rw[hz]at h0;rw[h0];cases eI p<;>rfl
  ·have hn':(dt p != 0)=true:=by simp[hn]
   simp -implicitDefEqProofs only[S18,t34 p hp,ay,hne,am,hn',ax,Kt];rw[if_neg hn];rfl
 rw[C18,ic,hS];exact bm fun g=>by
  cases fY p with
  |error e=>rfl
  |ok st=>simp[kB,cl,de]
def uD(s:bA)(v:AV)(h:aI v=true):bv 2 (.agg [.str s,v])=true:=by
 simp only[bv,bT,aa,Ln,List.all_nil];rw[h];rfl
def uG{p:List Mod}{nm:SNm}{tag:Nat->Nat}{dv cv sv:AV}{m:Ms}{h:Hp}(R:RepT (rowP p nm.told) nm tag dv cv sv m h)(hnil:m.state=[]->nm.cells=[]/\nm.names=[])(x:Vars)(hb:x.values.length<=274877906944)(hs:m.state.length<=1099511627776):
  ∃av h1 sv' h2 h3 nm',ai pg 42 [vals x.values] h= .ok av h1/\aI av=true/\a7 T 44 (.hp 0 11) h= .ok sv h/\appH T 44 false sv (.sl [.agg [.str x.module,av]]) h1= .ok sv' h2/\bH T 44 (.hp 0 11) sv' h2= .ok (.tup []) h3/\
   nm'.names=nm.names++[x.module]/\nm'.told=nm.told/\dq p nm' { m with state:=m.state++[x.values] } h3:=by
 have e0:ai pg 42 [vals x.values]=dW T 37 (ai pg) [vals x.values]:=gn aG rfl _;have e1:=lW (T:=T) (t:=37) rfl rfl rfl rfl rfl (by decide) (ai pg) x.values (show x.values.length*64<=140737488355328 by omega) h;have hl:a7 T 44 (.hp 0 11) h= .ok sv h:=cp rfl rfl R.r0 rfl
 -- the clone
 have hcl:∃av h1 tag1,ai pg 42 [vals x.values] h= .ok av h1/\RepT (rowP p nm.told) nm tag1 dv cv sv m h1/\aI av=true/\((x.values=[]/\av= .sl [])\/∃r,av= .hs r 0 x.values.length 4 true/\tag1 r=6+m.state.length/\h1[r]? = some (aX x.values)):=by
  rw[e0];by_cases hv:x.values=[]
  ·rw[Kn hv]at e1;exact⟨_,h,tag,e1,R,rfl,.inl ⟨hv,rfl⟩⟩
  ·rw[if_neg hv]at e1;exact⟨_,_,_,e1,(R.more (aX x.values) (6+m.state.length)).1,rfl,.inr ⟨h.length,rfl,by simp,by simp⟩⟩
 obtain⟨av,h1,tag1,c1,R1,ok1,A1⟩:=hcl;obtain⟨h2,sv',tag',p1,K,H,hc⟩:=oh (T:=T) (t:=44) rfl rfl rfl rfl (by decide) rfl (by decide) (x:=.agg [.str x.module,av]) R1.st (fun h0=>by
  have h00:m.state=[]:=Kq h0;obtain⟨n1,n2⟩:=hnil h00;rw[h00,n2];exact⟨n1.symm,rfl⟩) (fun cs h=>h.2.ok) (uD _ _ ok1) (show (m.state.length+1)*40<=140737488355328 by omega)
 have h0:=(K 0 _ R1.r0 (by rw[R1.t0];decide)).1;have hac:aa sv'=[sv']:=(dZ hc).2.1
 have:=R1.pushState (n:=x.module) (l:=x.values) K A1 H
 refine⟨av,h1,sv',h2,_,⟨nm.names++[x.module],sv',nm.cells++[.str x.module,av],nm.told⟩,c1,ok1,hl,p1,dO rfl h0 (dZ hc).1 (show 11+1<=12 by decide) (by decide),rfl,rfl,tag',dv,cv,sv',?_⟩;rw[hac];exact this
def tN(s:bA)(v:AV)(h:aI v=true):bi T false 53 [(0,.str s),(1,v)]=some (.agg [.str s,v]):=by
 cases v with
 |any=>cases h
 |agg _=>cases h
 |tup _=>cases h
 |_=>rfl
theorem rD(x:AV)(hx:bT x=some 2):aD T 44 1 [(0,x)]=some (.sl [x]):=by
 have h1:aD T 44 1 [(0,x)]=(fG 2 (List.replicate 1 (.agg [.str [],.sl []])) [(0,x)]).map .sl:=rfl;rw[h1];simp only[fG,hx,List.length_replicate];rfl
theorem pI{p:List Mod}(st:List Vars)(hst:st.length<=1099511627776)(hv:∀x∈st,x.values.length<=274877906944)(y0 y2 y3 y7 y8 y9 y10 y11 y12 y13 y14:AV):∀(B A:List Vars)(nm:SNm)(m:Ms)(h:Hp),A++B=st->m.state=A.map (·.values)->nm.names=A.map (·.module)->(m.state=[]->nm.cells=[])->nm.told=false->dq p nm m h->
  ∃nm' h',nm'.names=st.map (·.module)/\nm'.told=false/\dq p nm' { m with state:=st.map (·.values) } h'/\
   ak (L19_0 (ai pg) ak) [y0,.ip [.hp 0 0],y2,y3,bJ st,.int .i64 st.length,.int .i64 A.length,y7,y8,y9,y10,y11,y12,y13,y14] h=
   ak (L19_0 (ai pg) ak) [y0,.ip [.hp 0 0],y2,y3,bJ st,.int .i64 st.length,.int .i64 st.length,y7,y8,y9,y10,y11,y12,y13,y14] h'
 |[],A,nm,m,h,e,hs,hn,hc,ht,R=>by
  simp only[Lk]at e;subst e;refine⟨nm,h,hn,ht,?_,rfl⟩;rw[<- hs];exact R
 | x:: B,A,nm,m,h,e,hs,hn,hc,ht,R=>by
  have hll:A.length+(B.length+1)=st.length:=by rw[<- e];simp
  have h1:(A.length:Int)<(st.length:Int):=by omega
  have hx:st[A.length]'(by omega)=x:=by subst e;simp
  have hm:x∈st:=by rw[<- e];simp
  have hix:=Am (l:=st) (n:=(A.length:Int)) (by omega) h1;rw[show ((A.length:Int)).toNat=A.length by omega,KM st A.length (by omega),hx]at hix;have hmsl:m.state.length=A.length:=by rw[hs];simp
  obtain⟨tag,dv,cv,sv,R0⟩:=R;obtain⟨av,h2,sv',h3,h4,nm',c1,ok1,l1,p1,s1,n1,t1,R'⟩:=uG R0 (fun h0=>⟨hc h0,by
   rw[hn];have:A=[]:=by
    apply Kq;rw[<- hmsl,h0];rfl
   rw[this];rfl⟩) x (hv x hm) (by omega)
  obtain⟨nm2,h',j1,j2,j3,j4⟩:=pI (p:=p) st hst hv y0 y2 y3 y7 y8 y9 y10 y11 y12 y13 y14 B (A++[x]) nm' _ h4 (by rw[<- e];simp) (by simp[hs]) (by rw[n1,hn];simp) (fun h0=>by simp at h0) (t1.trans ht) R';refine⟨nm2,h',j1,j2,j3,?_⟩;rw[<- j4];generalize hcode:ak (L19_0 (ai pg) ak) [y0,.ip [.hp 0 0],y2,y3,bJ st,.int .i64 st.length,.int .i64 A.length,y7,y8,y9,y10,y11,y12,y13,y14] h=code;have hlp:af T 96 (.ip [.hp 0 0])=some (.hp 0 0):=rfl;have hvv:AV.agg (aa x.av)=x.av:=rfl;have hac:aa x.av=[.str x.module,vals x.values]:=rfl;have hw:IntKind.i64.wrap ((A.length:Int)+1)=((A.length+1:Nat):Int):=dQ (by omega);have ls:∀g:AV->M AV,ae (a7 T 44 (.hp 0 11)) g h=g sv h:=fun g=>bp l1;rw[FL19_0]at hcode;simp -implicitDefEqProofs only[L19_0,aJ,bj,bY,am,ax,h1,Ll,Kt,hix,zt,aS (jp x),ay,bQ,hlp,cS,FH98_4,FH46_4,KF,Nat.reduceAdd,ls]at hcode;simp -implicitDefEqProofs only[am,ay,bQ,hac,FA53_0,FA53_1,KP,KV,LD9,LD37]at hcode;rw[bp c1]at hcode;simp -implicitDefEqProofs only[tN _ _ ok1,rD (.agg [.str x.module,av]) rfl,am]at hcode;rw[bp p1]at hcode;rw[bp s1]at hcode;simp -implicitDefEqProofs only[dx,am,hw]at hcode;rw[<- hcode];simp only[KH,La]
def wA(l:List Val)(hl:aY l<=4611686018427387904):ai pg 39 [vals l,.fn (.func 40) [] []]=M.pure (.bool !(l.all (bn 4))):=qi 40 t40 l hl
def JV:SNm:=⟨[],.hn,[],false⟩
def zF(p:List Mod)(world:List Int)(fuel:Int):List AV:=[mods p,ints world,.int .i64 fuel,.int .i64 0,.int .i64 0,.int .i64 0,.int .i64 0,.hn,.hn,.hn,.hn,.hn]
def oo(p:List Mod)(world:List Int)(fuel:Int):dq p JV (aW world fuel []) [zF p world fuel]:=
 ⟨fun _=>0,.hn,.hn,.hn,rfl,rfl,.inl ⟨rfl,rfl⟩,.inl ⟨rfl,rfl⟩,.inl ⟨rfl,rfl⟩,rfl,fun h=>by cases h⟩
theorem uk{p:List Mod}{nm:SNm}{m:Ms}{h:Hp}(R:dq p nm m h)(e:Int)(v:Val):∃h1 cells,(bH T 42 (.hp 0 5) v.av h= .ok (.tup []) h1)/\∃h2,bH T 40 (.hp 0 4) (.int .i64 e) h1= .ok (.tup []) h2/\a7 T 46 (.hp 0 4) h2= .ok (.agg cells) h2/\
  ae (au 8 [] (.agg cells)) (fun w=>M.pure (AV.agg [nth (aa w) 0,nth (aa w) 1,nth (aa w) 2,nth (aa w) 3,nth (aa w) 4,nth (aa w) 5,nth (aa w) 6,nth (aa w) 7])) h2= .ok (.agg cells) h2/\iU 6 h2 (.agg cells)=Out.av ⟨e,v,m.deeds,m.calls,List.zipWith Vars.mk nm.names m.state⟩:=by
 obtain⟨tag,dv,cv,sv,R⟩:=R;have hlt:0<h.length:=(Kz.1 R.r0).1;have s1:=dO (T:=T) (t:=42) rfl R.r0 (v:=v.av) (k:=5) (c9 v) (show 5+4<=12 by decide) (by decide);have e1:setCells (rowP p nm.told m dv cv sv) 5 (aa v.av)=[qL nm.told p,oK nm.told m.world,.int .i64 m.fuel,.int .i64 m.frames,.int .i64 0,.int .i64 v.kind,.int .i64 v.n,strs v.names,vals v.values,dv,cv,sv]:=by
  rw[cR];rfl
 rw[e1]at s1;have s2:=dO (T:=T) (t:=40) rfl (h:=h.set 0 [qL nm.told p,oK nm.told m.world,.int .i64 m.fuel,.int .i64 m.frames,.int .i64 0,.int .i64 v.kind,.int .i64 v.n,strs v.names,vals v.values,dv,cv,sv]) (l:=0) (k:=4) (v:=.int .i64 e) (Lf hlt) rfl (show 4+1<=12 by decide) (by decide);rw[List.set_set]at s2;have e2:setCells [qL nm.told p,oK nm.told m.world,.int .i64 m.fuel,.int .i64 m.frames,.int .i64 0,.int .i64 v.kind,.int .i64 v.n,strs v.names,vals v.values,dv,cv,sv] 4 (aa (.int .i64 e))=[qL nm.told p,oK nm.told m.world,.int .i64 m.fuel,.int .i64 m.frames,.int .i64 e,.int .i64 v.kind,.int .i64 v.n,strs v.names,vals v.values,dv,cv,sv]:=rfl;rw[e2]at s2;refine⟨_,[.int .i64 e,.int .i64 v.kind,.int .i64 v.n,strs v.names,vals v.values,dv,cv,sv],s1,_,s2,?_,?_,?_⟩
 ·exact lC (T:=T) (t:=46) rfl rfl (Lf hlt) (show 4+8<=12 by decide)
 ·have hd:aI dv=true:=by rcases R.ds with⟨_,rfl⟩|⟨q,cs,rfl,_⟩<;>rfl
  have hc:aI cv=true:=by rcases R.cs with⟨_,rfl⟩|⟨q,cs,rfl,_⟩<;>rfl
  have hs:aI sv=true:=by rcases R.st with⟨_,rfl⟩|⟨q,cs,rfl,_⟩<;>rfl
  have hok:bv 8 (.agg [.int .i64 e,.int .i64 v.kind,.int .i64 v.n,strs v.names,vals v.values,dv,cv,sv])=true:=by
   simp only[bv,bT,aa,Ln,List.all_nil,hd,hc,hs];rfl
  rw[bd hok];rfl
 ·-- the rows but the first one are as they were
  have K:Kp tag tag (fun k=>k=0) h (h.set 0 [qL nm.told p,oK nm.told m.world,.int .i64 m.fuel,.int .i64 m.frames,.int .i64 e,.int .i64 v.kind,.int .i64 v.n,strs v.names,vals v.values,dv,cv,sv]):=J5 R.t0 _;have d1:=wZ (d:=4) (R.ds.keep K (c':=fun cs=>cs=cE m.deeds) (by decide) fun _ h=>h);have d2:=wY (d:=4) (R.cs.keep K (by decide) fun _ h=>h.keep K (by decide));have d3:=un (d:=4) (c0:=nm.cells) (R.st.keep K (by decide) fun _ h=>⟨h.1,h.2.keep K (by omega)⟩);rw[kC];simp only[cl,de,d1,d2,d3,ki,ie];rfl
def zg{m:M AV}{a r:AV}{h':Hp}(h1:m []= .ok a h')(h2:iU 6 h' a=r):aH m=M.pure r:=by
 funext h;unfold aH;rw[h1];simp only[M.pure,h2]
def pX(o:Out):ae (au 8 [] o.av) (fun w=>M.pure (AV.agg [nth (aa w) 0,nth (aa w) 1,nth (aa w) 2,nth (aa w) 3,nth (aa w) 4,nth (aa w) 5,nth (aa w) 6,nth (aa w) 7]))=M.pure o.av:=by
 rw[bd (gZ o)];rfl
theorem gJ(e:Int):bi T false 46 [(0,.int .i64 e)]=some (nk e).av:=rfl
theorem wX{p:List Mod}(LB:LimB p)(st:List Vars)(args:List Val)(world:List Int)(fuel at_:Int)(f:Fun)(hst:st.length<=1099511627776)(hv:∀x∈st,x.values.length<=274877906944)(hat0:0<=at_)(hat:at_<p.length)(hf:f∈(p[at_.toNat]?.getD default).funcs)(hlen:args.length=f.params.length)(hr:∀v∈args,Rv v)(hb:cY p st=true)(hfu:0<=fuel/\fuel<=100000)(y7 y8 y9 y10 y11 y12 y13 y14:AV):
  ∃a h',ak (L19_0 (ai pg) ak) [.ip (aa (vals args)),.ip [.hp 0 0],.ip [.int .i64 at_],.ip (aa f.av),bJ st,.int .i64 st.length,.int .i64 0,y7,y8,y9,y10,y11,y12,y13,y14] [zF p world fuel]= .ok a h'/\
   iU 6 h' a=(od (st.map (·.module)) (ct p (bh p 100000) at_ f args (aW world fuel (st.map (·.values))))).av:=by
 obtain⟨nm,h1,n1,n2,R1,e1⟩:=pI (p:=p) st hst hv (.ip (aa (vals args))) (.ip [.int .i64 at_]) (.ip (aa f.av)) y7 y8 y9 y10 y11 y12 y13 y14 st [] JV (aW world fuel []) _ rfl rfl rfl (fun _=>rfl) rfl (oo p world fuel);have hz:((([]:List Vars).length:Nat):Int)=0:=rfl;rw[hz]at e1;rw[e1];have hbr:=eU hb;have e2:({ aW world fuel []with state:=st.map (·.values) }:Ms)=aW world fuel (st.map (·.values)):=rfl;rw[e2]at R1;have G:GoodM p (aW world fuel (st.map (·.values))):=by
  refine⟨⟨fun l hl v hv=>?_,fun c hc=>by simp[aW]at hc⟩,by simp[mu,aW];omega,by simp[aW],by simp[aW];omega,fun i x hx=>?_⟩
  ·simp only[aW,Ly]at hl;obtain⟨y,hy,rfl⟩:=hl;exact hbr.2.1 y hy v hv
  ·have hi:i<p.length:=(Kz.1 hx).1;have hi2:i<st.length:=by rw[hbr.1];exact hi
   refine⟨st[i].values,by simp[aW,hi2],?_⟩;exact (hbr.2.2 i x st[i] hx (Kl hi2)).2
 have hen:=A0 (nm:=nm) LB 100000 at_ f args _ _ hat0 hat hf hlen hr R1 G (by simp[mu,aW];omega) (by simp[aW];omega);have hlp:af T 96 (.ip [.hp 0 0])=some (.hp 0 0):=rfl;have hla:af T 3 (.ip [.int .i64 at_])=some (.int .i64 at_):=rfl;have hlf:af T 61 (.ip (aa f.av))=some f.av:=by simp
 have hlv:af T 37 (.ip (aa (vals args)))=some (vals args):=rfl;have hcall:∀h,ai pg 44 [.ip [.hp 0 0],.ip [.int .i64 at_],.ip (aa f.av),.ip (aa (vals args))] h=ae (ai pg 45 [.hp 0 0,.int .i64 at_,f.av,vals args]) (fun v=>ae (au 4 [] v) fun w=>M.pure (AV.agg [nth (aa w) 0,nth (aa w) 1,nth (aa w) 2,nth (aa w) 3])) h:=fun h=>by
  rw[C44];simp -implicitDefEqProofs only[S44,hlp,hla,hlf,hlv,am]
 have htry:=t43 (.fn (.func 44) [] [.ip [.hp 0 0],.ip [.int .i64 at_],.ip (aa f.av),.ip (aa (vals args))]) h1;have hcv:bO (ai pg) (.fn (.func 44) [] [.ip [.hp 0 0],.ip [.int .i64 at_],.ip (aa f.av),.ip (aa (vals args))]) []=ai pg 44 [.ip [.hp 0 0],.ip [.int .i64 at_],.ip (aa f.av),.ip (aa (vals args))]:=rfl;rw[hcv,hcall]at htry;have how:=cz hen;generalize hcode:ak (L19_0 (ai pg) ak) [.ip (aa (vals args)),.ip [.hp 0 0],.ip [.int .i64 at_],.ip (aa f.av),bJ st,.int .i64 st.length,.int .i64 st.length,y7,y8,y9,y10,y11,y12,y13,y14] h1=code;rw[FL19_0]at hcode;simp -implicitDefEqProofs only[L19_0,aJ,bj,bY,am,ax,L9,LG,Ki,Ks,hlp]at hcode;generalize ct p (bh p 100000) at_ f args (aW world fuel (st.map (·.values)))=r at how |-
 -- what the catch leaves
 have hfin:∃(e:Int)(v:Val)(s:Ms)(h2:Hp),od (st.map (·.module)) r=⟨e,v,s.deeds,s.calls,List.zipWith Vars.mk (st.map (·.module)) s.state⟩/\dq p nm s h2/\ai pg 43 [.fn (.func 44) [] [.ip [.hp 0 0],.ip [.int .i64 at_],.ip (aa f.av),.ip (aa (vals args))]] h1= .ok (.tup [v.av,.int .i64 e]) h2:=by
  cases r with
  |ok v s=>
   obtain⟨h',g1,g2⟩:=how;rw[g1]at htry;simp only[q7,c9,Kh]at htry;refine⟨0,v,s,h',rfl,g2,?_⟩;rw[htry];simp
  |er c s=>
   obtain⟨h',g1,g2⟩:=how;rw[g1]at htry;exact⟨c,default,s,h',rfl,g2,htry⟩
 obtain⟨e,v,s,h2,o1,R2,t1⟩:=hfin;obtain⟨h3,cells,s1,h4,s2,l1,w1,fz⟩:=uk R2 e v;rw[bp t1]at hcode;simp -implicitDefEqProofs only[ca,Ku,KS,am,cS,FH98_4,FH46_0,FH46_1,KF,Nat.reduceAdd]at hcode;rw[bp s1]at hcode;rw[bp s2]at hcode;rw[bp l1]at hcode;rw[w1]at hcode;refine⟨_,_,hcode.symm,?_⟩;rw[fz,o1,n1]
theorem ua(a b:Int):ao T .neq 40 (.int .i64 a) (.int .i64 b)=some (.bool (a != b)):=rfl
theorem t19{p:List Mod}(LB:LimB p)(st:List Vars)(module fn:bA)(args:List Val)(world:List Int)(fuel:Int)(hst:st.length<=1099511627776)(hv:∀x∈st,x.values.length<=274877906944/\aY x.values<=4611686018427387904)(hargs:aY args<=4611686018427387904):ai pg 19 [mods p,bJ st,.str module,.str fn,vals args,ints world,.int .i64 fuel]=M.pure (fZ p st module fn args world fuel).av:=by
 have hnm:=t34 p LB.lim.len;have hbl:=t36 p st LB.lim.len (fun m hm=>(LB.lim.funcs m hm).2) (fun x hx=>(hv x hx).2);have hany:=wA args hargs;have hcl1:∀s:bA,cl ar (.str s)= .str s:=fun _=>rfl;have hcl2:∀n:Int,cl ar (.int .i64 n)= .int .i64 n:=fun _=>rfl;rw[C19,ic,rK,hcl1,hcl1,ie,qk,hcl2]
 have key:∃a h',S19 (ai pg) ak (mods p) (bJ st) (.str module) (.str fn) (vals args) (ints world) (.int .i64 fuel) []= .ok a h'/\iU 6 h' a=(fZ p st module fn args world fuel).av:=by
  have done:∀(o:Out)(c:M AV),c []=M.pure o.av []->∃a h',c []= .ok a h'/\iU 6 h' a=o.av:=fun o c h=>⟨o.av,[],h,ll _ o⟩;generalize hcode:S19 (ai pg) ak (mods p) (bJ st) (.str module) (.str fn) (vals args) (ints world) (.int .i64 fuel) []=code;simp -implicitDefEqProofs only[S19,hnm,ay,ua,am,ax]at hcode;unfold fZ;by_cases hn:dt p=0
  ·have hn':(dt p != 0)=false:=by simp[hn]
   have hnn:¬(dt p≠0):=fun h=>h hn;simp only[hn',Ki,Ks]at hcode;simp only[if_neg hnn];have hg1:aC (.bool (decide (fuel<0))) false 1 (M.pure [.bool (decide (100000<fuel))])=M.pure [gv (decide (fuel<0)) false (.bool (decide (100000<fuel)))]:=cj _ _ _;have hg2:aC (.bool (decide (fuel<0)||decide (100000<fuel))) false 1 (M.pure [.bool !(cY p st)])=M.pure [gv (decide (fuel<0)||decide (100000<fuel)) false (.bool !(cY p st))]:=cj _ _ _;simp -implicitDefEqProofs only[bY,mI,am,hg1,ay,aJ,g7,hbl,dC,hg2,ax]at hcode;by_cases hb:fuel<0\/100000<fuel\/cY p st=false
   ·have hb':(decide (fuel<0)||decide (100000<fuel)||!(cY p st))=true:=by
     simp only[Lp,KQ,Le];rcases hb with h|h|h
     ·exact .inl (.inl h)
     ·exact .inl (.inr h)
     ·exact .inr h
    simp only[hb',Kt,gJ,am,pX]at hcode;simp only[Kn hb];rw[<- hcode];exact⟨_,[],rfl,ll _ _⟩
   ·have hb':(decide (fuel<0)||decide (100000<fuel)||!(cY p st))=false:=by
     rw[<- L6];simp only[Lp,KQ,Le];rintro ((h|h)|h)
     ·exact hb (.inl h)
     ·exact hb (.inr (.inl h))
     ·exact hb (.inr (.inr h))
    have hbe:cY p st=true:=by
     cases h:cY p st with
     |true=>rfl
     |false=>exact absurd (.inr (.inr h)) hb
    have hfu:0<=fuel/\fuel<=100000:=by omega
    have hB:bi T true 98 [(0,mods p),(1,ints world),(2,.int .i64 fuel)]=some (.agg (zF p world fuel)):=rfl;have hnew:∀g:AV->M AV,ae (newH (zF p world fuel)) g []=g (.hp 0 0) [zF p world fuel]:=fun g=>rfl;have hcell:aR 1 (.hp 0 0)=M.pure (.agg [.hp 0 0]):=rfl;have hcelli:∀n:Int,aR 1 (.int .i64 n)=M.pure (.agg [.int .i64 n]):=fun _=>rfl;have hlp:af T 96 (.ip [.hp 0 0])=some (.hp 0 0):=rfl;have hla:∀n:Int,af T 3 (.ip [.int .i64 n])=some (.int .i64 n):=fun _=>rfl;have hmd:=t37 (oo p world fuel) LB.lim module;have hlt:fA p module<p.length\/p=[]:=by
     rcases iV (fun(x:Mod)=>x.name== module) p 0 with k|k
     ·have:fA p module= -1:=k;left;omega
     ·have:fA p module=bI (fun(x:Mod)=>x.name== module) p 0:=rfl;left;omega
    have hlt':fA p module<p.length:=by
     rcases hlt with h|h
     ·exact h
     ·subst h;show bI _ [] 0<_;simp[bI]
    have hfn:=t38 (oo p world fuel) LB.lim (fA p module) hlt' fn;simp only[hb',Ki,Ks]at hcode;simp only[if_neg hb];simp -implicitDefEqProofs only[hB,am,bQ,hnew,hcell,ay,hlp]at hcode;rw[bp hmd]at hcode;simp -implicitDefEqProofs only[hcelli,ay,bQ,hlp,am,hla]at hcode;rw[bp hfn]at hcode;cases hf:jH p (fA p module) fn with
    |none=>
     rw[hf]at hcode;simp -implicitDefEqProofs only[nD,ca,Ku,KS,am,fS,ay,dC,Mg,ax,Kt,gJ,pX]at hcode;rw[<- hcode];exact⟨_,_,rfl,ll _ _⟩
    | some f=>
     rw[hf]at hcode;obtain⟨f1,f2,f3⟩:=ga hf;have hac:∀f:Fun,aa (.agg (aa f.av))=aa f.av:=fun _=>rfl;have hpar:af T 28 (.ip (List.drop 2 (aa f.av)))=some (cF f.params):=by simp
     have hlv:af T 37 (.ip (aa (vals args)))=some (vals args):=rfl;have hg3:aC (.bool ((args.length:Int) != (f.params.length:Int))) false 1 (M.pure [.bool !(args.all (bn 4))])=M.pure [gv ((args.length:Int) != (f.params.length:Int)) false (.bool !(args.all (bn 4)))]:=cj _ _ _;simp -implicitDefEqProofs only[nD,ca,Ku,KS,am,fS,ay,dC,Lx,ax,Ki,Ks,hlv,tE,hac,FA61_2,hpar,p7,kf,hany,hg3,aJ,g7]at hcode;simp only;by_cases hr:args.length=f.params.length/\args.all (bn 4)=true
     ·have hr':(((args.length:Int) != (f.params.length:Int))||!(args.all (bn 4)))=false:=by
       have:((args.length:Int) != (f.params.length:Int))=false:=by simp[hr.1]
       rw[this,hr.2];rfl
      simp -implicitDefEqProofs only[hr',Ki,Ks,C9,am]at hcode;simp only[Kn hr];obtain⟨a,h',g1,g2⟩:=wX LB st args world fuel (fA p module) f hst (fun x hx=>(hv x hx).1) (by omega) hlt' f3 hr.1 (fun v hv=>(KA.1 hr.2) v hv) hbe hfu (.int .i64 0) (.int .i64 0) (.int .i64 0) (.sl []) (.sl []) (.sl []) (.sl []) (.sl []);rw[g1]at hcode;exact⟨a,h',hcode.symm,g2⟩
     ·have hr':(((args.length:Int) != (f.params.length:Int))||!(args.all (bn 4)))=true:=by
       by_cases h1:args.length=f.params.length
       ·have:args.all (bn 4)=false:=by
         rw[<- L6];exact fun h2=>hr ⟨h1,h2⟩
        rw[this];simp
       ·have:((args.length:Int) != (f.params.length:Int))=true:=by
         rw[bne_iff_ne];omega
        rw[this];rfl
      simp -implicitDefEqProofs only[hr',Kt,gJ,am,pX]at hcode;simp only[if_neg hr];rw[<- hcode];exact⟨_,_,rfl,ll _ _⟩
  ·have hn':(dt p != 0)=true:=by simp[hn]
   simp only[hn',Kt,gJ,am,pX]at hcode;simp only[Kn hn];rw[<- hcode];exact⟨_,[],rfl,ll _ _⟩
 obtain⟨a,h',h1,h2⟩:=key;exact zg h1 h2
structure LimR (p:List Mod):Prop where
 body:LimB p
 init:∀m∈p,m.init.length<=274877906944/\∀e∈m.init,aN e
theorem eY:(l:List Val)->(∀v∈l,Rv v)->aY l<=l.length*200000
 |[],_=>by simp[aY]
 |v:: l,h=>by
  have h1:=ot (h v Lv);have h2:=eY l fun w hw=>h w (Lq _ hw);simp only[aY,K4];omega
theorem mg:(p:List Mod)->(st:List Vars)->eI p= .ok st->∀x∈st,∃m∈p,x.values.length=m.init.length
 |[],st,h,x,hx=>by cases h;cases hx
 | m :: ms,st,h,x,hx=>by
  unfold eI at h;split at h
  ·split at h
   ·cases h
   ·rename_i vs hvs;split at h
    ·cases h
    ·rename_i r hr;cases h;rcases KI.1 hx with rfl|hx
     ·exact⟨m,Lv,(iX _ _ hvs).1⟩
     ·obtain⟨m',h1,h2⟩:=mg ms r hr x hx;exact⟨m',Lq _ h1,h2⟩
  ·cases h
theorem t7{p:List Mod}(L:LimR p)(module fn:bA)(args:List Val)(world:List Int)(fuel:Int)(hargs:aY args<=4611686018427387904):
  ai pg 7 [mods p,.str module,.str fn,vals args,ints world,.int .i64 fuel]=M.pure (eM p module fn args world fuel).av:=by
 have hfr:=t18 p L.body.lim.len (fun m hm=>⟨(L.body.lim.funcs m hm).2,L.init m hm⟩);have hcl1:∀s:bA,cl ar (.str s)= .str s:=fun _=>rfl;have hcl2:∀n:Int,cl ar (.int .i64 n)= .int .i64 n:=fun _=>rfl;have hS:S7 (ai pg) ak (mods p) (.str module) (.str fn) (vals args) (ints world) (.int .i64 fuel)=M.pure (eM p module fn args world fuel).av:=by
  unfold eM;simp -implicitDefEqProofs only[S7,hfr,ay];cases hx:fY p with
  | error e=>
   have he:(e != 0)=true:=by
    have:=ul hx
    simpa using this
   simp -implicitDefEqProofs only[kB,ca,Ku,KS,am,ua,he,ax,Kt,gJ,pX]
  | ok st=>
   have hb:=eU (nB hx);have hlen:∀x∈st,x.values.length<=274877906944:=fun x hx'=>by
    unfold fY at hx;split at hx
    ·obtain⟨m,h1,h2⟩:=mg p st hx x hx';rw[h2];exact (L.init m h1).1
    ·cases hx
   have hfrom:=t19 L.body st module fn args world fuel (by rw[hb.1];exact L.body.lim.len) (fun x hx'=>⟨hlen x hx',Lg (eY _ (hb.2.1 x hx')) (by have:=hlen x hx';omega)⟩) hargs;have h0:((0:Int) != 0)=false:=rfl;simp -implicitDefEqProofs only[kB,ca,Ku,KS,am,ua,h0,ax,Ki,Ks,hfrom,ay,pX]
 rw[C7,ic,hcl1,hcl1,ie,qk,hcl2,hS];exact bm fun g=>ll g _
end Go.Proofs.YtmgjpakjlbofpaaGreat
