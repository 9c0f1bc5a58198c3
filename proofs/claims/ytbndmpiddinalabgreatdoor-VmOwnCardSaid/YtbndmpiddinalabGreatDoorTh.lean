/- What the functions compute, part 8. Conditions: bounds. -/
import Derived.Test.YtbndmpiddinalabGreatDoorTg
set_option linter.defProp false
set_option linter.unusedSimpArgs false
set_option linter.unusedVariables false
namespace Go.Proofs.YtbndmpiddinalabGreatDoor
open Go Go.Av Go.Av.Ap
set_option maxRecDepth 100000
section
variable (p:Proc)
theorem Q9:ah T 39 (.ip (aa p.av)) 0=some (.ip ((aa p.av).drop 0)):=rfl
theorem Nj:ah T 39 (.ip (aa p.av)) 1=some (.ip ((aa p.av).drop 1)):=rfl
theorem GZ:ah T 39 (.ip (aa p.av)) 2=some (.ip ((aa p.av).drop 2)):=rfl
theorem Nk:ah T 39 (.ip (aa p.av)) 4=some (.ip ((aa p.av).drop 4)):=rfl
theorem EZ:ah T 39 (.ip (aa p.av)) 5=some (.ip ((aa p.av).drop 12)):=rfl
theorem R8:ax T 22 (.ip ((aa p.av).drop 0))=some (mods p.mods):=rfl
theorem NB:ax T 28 (.ip ((aa p.av).drop 1))=some (aN p.state):=rfl
theorem Hv:ax T 29 (.ip ((aa p.av).drop 2))=some (iO p.frames):=rfl
theorem Hw:ax T 4 (.ip ((aa p.av).drop 12))=some (.bool p.ended):=rfl
theorem Fl:ax T 39 (.ip (aa p.av))=some p.av:=rfl
theorem UT:ah T 37 (.ip ((aa p.av).drop 4)) 0=some (.ip ((aa p.av).drop 4)):=rfl
theorem Q8:ah T 37 (.ip ((aa p.av).drop 4)) 1=some (.ip ((aa p.av).drop 5)):=rfl
theorem UW:ah T 37 (.ip ((aa p.av).drop 4)) 4=some (.ip ((aa p.av).drop 11)):=rfl
theorem VE:ax T 30 (.ip ((aa p.av).drop 4))=some (.int .i64 p.out.err):=rfl
theorem VF:ax T 33 (.ip ((aa p.av).drop 5))=some p.out.value.av:=by
 show some (AV.agg [.int .i64 p.out.value.kind,.int .i64 p.out.value.n,strs p.out.value.names,vals p.out.value.values])=_;rw[Ha]
theorem VI:ax T 28 (.ip ((aa p.av).drop 11))=some (aN p.out.state):=rfl
end
def Uj(v:Val):cg 4 v.av=ao (.agg [.int .i64 v.kind,.int .i64 v.n,strs v.names,vals v.values]):=ZW
section
variable (k n:Int) (ns:List aW) (vs:List Val)
theorem Ra:ah T 33 (.ip [.int .i64 k,.int .i64 n,strs ns,vals vs]) 0=some (.ip [.int .i64 k,.int .i64 n,strs ns,vals vs]):=rfl
theorem Rb:ah T 33 (.ip [.int .i64 k,.int .i64 n,strs ns,vals vs]) 1=some (.ip [.int .i64 n,strs ns,vals vs]):=rfl
theorem Rc:ah T 33 (.ip [.int .i64 k,.int .i64 n,strs ns,vals vs]) 2=some (.ip [strs ns,vals vs]):=rfl
theorem Re:ah T 33 (.ip [.int .i64 k,.int .i64 n,strs ns,vals vs]) 3=some (.ip [vals vs]):=rfl
theorem Sa:ax T 3 (.ip [.int .i64 k,.int .i64 n,strs ns,vals vs])=some (.int .i64 k):=rfl
theorem Sb:ax T 3 (.ip [.int .i64 n,strs ns,vals vs])=some (.int .i64 n):=rfl
theorem Sd:ax T 31 (.ip [strs ns,vals vs])=some (strs ns):=rfl
theorem Se:ax T 23 (.ip [vals vs])=some (vals vs):=rfl
end
def MC.keep{tag tag':Nat->Nat}{ks:Nat->Prop}{sv fv dv cv ov:AV}{p:Proc}{h h':Hp}(H:MC tag sv fv dv cv ov p h)(K:Kp tag tag' ks h h')(hk:∀k,ks k->k<=1):MC tag' sv fv dv cv ov p h':=by
 have n:∀k,2<=k->¬ks k:=fun k h1 hh=>ZU
 exact⟨H.st.keep K (n _ ZS) fun _ h=>h.keep K fun j=>n _ ZS,H.fr.keep K (n _ ZS) fun _ h=>h.keep K fun j _ _=>⟨n _ ZS,n _ ZS⟩,H.ds.keep K (n _ ZS) fun _ h=>h,
  H.cs.keep K (n _ ZS) fun _ h=>h.keep K (n _ ZS),H.os.keep K (n _ ZS) fun _ h=>h.keep K (n _ ZS),H.oz⟩
structure OpR (L:MLay) (p:Proc) (h:Hp):Prop where
 ex:∃tag sv fv dv cv ov,MC tag sv fv dv cv ov p h/\h[L.rm]? = some (sP p sv fv dv cv ov++[.mp L.ri,.mp L.rf])/\tag L.rm=0/\(h[L.ri]? = some L.ci/\tag L.ri=1)/\h[L.rf]? = some L.cf/\tag L.rf=1
theorem OpR.pr{L:MLay}{p:Proc}{h:Hp}(H:OpR L p h):∃row,PR L p h row:=by
 obtain⟨tag,sv,fv,dv,cv,ov,M1,hr,_⟩:=H.ex;have c1:=pM (d:=4) M1.st;have c2:=wL (d:=4) M1.fr;have c3:=qO (d:=4) M1.ds;have c4:=qN (d:=4) M1.cs;have c5:=KR (d:=4) M1.os;have ht:(sP p sv fv dv cv ov++[AV.mp L.ri,.mp L.rf]).take 13=sP p sv fv dv cv ov:=rfl;refine⟨_,hr,rfl,ZU,?_,?_⟩
 ·rw[ht]
  have:=ym M1
  simp_all[bR]
 ·rw[ht,gT];simp only[sP,cl,fp,mq,pL,oc,ll,c1,c2,c3,c4,c5];rfl
def OpR.mr{L:MLay}{p:Proc}{h:Hp}(H:OpR L p h)(ho:p.out.state=[]):vQ L p h:=by
 obtain⟨tag,sv,fv,dv,cv,ov,M1,hr,hm,hi,hf,tf⟩:=H.ex;have hov:=M1.oz ho;subst hov;refine⟨tag,sv,fv,dv,cv,aa p.out.value.av,?_,hm,hi.1,hi.2,hf,tf,M1.st,M1.fr,M1.ds,M1.cs,.inl rfl,ho⟩;rw[hr,bK];rfl
structure OpB (p:Proc):Prop where
 cl:ClB p
 lim:∀m∈p.mods,m.Lim
 cnt:∀m∈p.mods,∀f∈m.funcs,dR 12 f.body<=1000
 vlen:∀m∈p.mods,m.vars.length<=4611686018427387904
 st:∀w∈p.state,∀v∈w.values,v.sz<=4611686018427387904
 fr:∀f∈p.frames,(∀v∈f.locals,v.sz<=4611686018427387904)/\∀v∈f.stack,v.sz<=4611686018427387904
 val:p.out.value.names.length<=1000000/\p.out.value.values.length<=1000000
def qb{p:List Ap.Mod}(h:jE p=0)(hc:∀m∈p,∀f∈m.funcs,dR 12 f.body<=1000):PBd p/\(p.map (·.name)).Nodup/\DJ p/\∀m∈p,ie m=true:=by
 unfold jE jT at h;by_cases h20:20<p.length
 ·grind
 rw[Xr h20]at h;cases ht:vD p with
 |true=>grind
 | false=>
  rw[ht,Xr (show ¬(false:Bool)=true by decide),Xr (show ¬(0:Int)≠0 by decide)]at h;cases hr:p.all ie with
  |false=>grind
  | true=>
   rw[hr,Xr (show ¬(true:Bool)=false by decide)]at h;cases hh:p.all fun m=>m.funcs.all fun f=>(dm (dw m.vars f)).isSome with
   |false=>grind
   |true=>
    have hr':=XJ.1 hr;refine⟨NZ ZS hr' hc,sK ht,fun m hm f hf=>?_,hr'⟩
    grind
theorem xk{L:MLay}{p:Proc}{h:Hp}{row:List AV}(hr:h[L.rm]? = some row)(h14:row[14]? = some (.mp L.rf))(hf:h[L.rf]? = some L.cf)(MO:MapOk T 79 80 L p.mods)(P:PBd p.mods)(hb:OpB p):∀B A:List Frm,A++B=p.frames->
  ak (L26_0 (af pg) ak) [.ip (aa p.av),.hp L.rm 0,iO p.frames,.int .i64 p.frames.length,.int .i64 A.length] h=
   if eF p.mods B none=true then ak (L26_0 (af pg) ak) [.ip (aa p.av),.hp L.rm 0,iO p.frames,.int .i64 p.frames.length,.int .i64 p.frames.length] h else .ok (.tup [.nilp,.bool false]) h
 |[],A,e=>by
  rw[XS]at e;subst e;rw[Xv (by rfl)]
 | f:: B,A,e=>by
  have hlen:A.length+(B.length+1)=p.frames.length:=by rw[<- e];simp
  have hle:=hb.cl.frames.1;have h1:(A.length:Int)<(p.frames.length:Int):=ZS
  have hfm:f∈p.frames:=by rw[<- e];simp
  have hx:p.frames[A.length]! = f:=by rw[Xx p.frames A.length ZS];simp[<- e]
  have hix:=Aw (p:=p.frames) (k:=A.length) ZS;rw[hx]at hix;have hw:IntKind.i64.wrap ((A.length:Int)+1)=((A++[f]).length:Nat):=by rw[aM ZS ZS];simp
  have ih:=xk hr h14 hf MO P hb B (A++[f]) ZU;have cf:cg 5 f.av=ao (.agg (aa f.av)):=bc rfl;have bl:=hb.cl.frames.2 f hfm;have bz:=hb.fr f hfm;have g:=t51 hr h14 hf MO P f (B.head?.or none) ⟨ZS,bz.1⟩ ⟨ZS,bz.2⟩;have hk:K26_0 (af pg) ak (ak (L26_0 (af pg) ak)) [.ip (aa p.av),.hp L.rm 0,.ip (aa f.av),nK (B.head?.or none),iO p.frames,.int .i64 p.frames.length,.int .i64 A.length] h=
    if i9 p.mods f (B.head?.or none)=true then ak (L26_0 (af pg) ak) [.ip (aa p.av),.hp L.rm 0,iO p.frames,.int .i64 p.frames.length,.int .i64 (A++[f]).length] h else .ok (.tup [.nilp,.bool false]) h:=by
   rw[K26_0];simp -implicitDefEqProofs only[am,ar,Wp,ae];rw[ap g];simp -implicitDefEqProofs only[bi,ae,ai];cases i9 p.mods f (B.head?.or none)with
   |false=>rfl
   |true=>simp_all
  have start:ak (L26_0 (af pg) ak) [.ip (aa p.av),.hp L.rm 0,iO p.frames,.int .i64 p.frames.length,.int .i64 A.length] h=
    K26_0 (af pg) ak (ak (L26_0 (af pg) ak)) [.ip (aa p.av),.hp L.rm 0,.ip (aa f.av),nK (B.head?.or none),iO p.frames,.int .i64 p.frames.length,.int .i64 A.length] h:=by
   rw[FL26_0];simp -implicitDefEqProofs only[L26_0,am,ar,aB,ae,ai,Xt,Xv h1,hix,Wp,cf,aj,aI,jn,bm,hw,GZ,Hv,rb];cases B with
   |nil=>
    have h2:¬(((A++[f]).length:Int)<(p.frames.length:Int)):=by simp at hlen |-;omega
    rw[Xr h2];rfl
   |cons g2 B=>
    have h2:(((A++[f]).length:Int)<(p.frames.length:Int)):=by simp at hlen |-;omega
    have hy:p.frames[(A++[f]).length]! = g2:=by rw[Xx p.frames _ ZS];simp[<- e]
    have hiy:=Aw (p:=p.frames) (k:=(A++[f]).length) ZS;rw[hy]at hiy;rw[Xv h2];simp -implicitDefEqProofs only[hiy,ae];rfl
  rw[start,hk,ih,eF]
  grind
theorem t26(p:Proc)(hb:OpB p):(gR p=false->∃h',af pg 26 [p.av] []= .ok (.tup [.nilp,.bool false]) h')/\
  (gR p=true->∃h' L,af pg 26 [p.av] []= .ok (.tup [.hp L.rm 0,.bool true]) h'/\MapOk T 79 80 L p.mods/\OpR L p h'):=by
 have hld:=t20 [] hb.lim hb.cnt;have hst:=t50 p.mods p.state (by have:=hb.cl.mods;omega) (by have:=hb.cl.state.1;omega) hb.vlen (fun w hw=>⟨by have:=hb.cl.state.2 w hw;omega,hb.st w hw⟩);generalize hc:af pg 26 [p.av] []=code;rw[C26]at hc;simp -implicitDefEqProofs only[S26,Q9,R8,ae]at hc;unfold gR;by_cases hl:jE p.mods=0
 ·rw [XU hl];obtain⟨P,hnd,hho,hrm⟩:=qb hl hb.cnt;have g1:=hld.1 hl;rw[ap g1]at hc;have ne0:((0:Int) != 0)=false:=rfl;simp -implicitDefEqProofs only[vM,vO,ae,fY,ne0,bv,Q9,R8,Nj,NB,hst,aj,bi,am,cr,ai]at hc;cases hbl:dX p.mods p.state with
  |false=>
   rw[hbl]at hc;simp -implicitDefEqProofs only[X3,XF]at hc;exact⟨fun _=>⟨_,hc.symm⟩,fun h=>(by simp at h)⟩
  | true=>
   rw[hbl]at hc;have hs1:IntKind.i64.wrap ((p.out.value.names.length:Int)+(p.out.value.values.length:Int))=((p.out.value.names.length+p.out.value.values.length:Nat):Int):=by have:=hb.val;rw[aM ZS ZS];omega
   have hs2:IntKind.i64.wrap (((p.out.value.names.length+p.out.value.values.length:Nat):Int)+(p.out.state.length:Int))=((p.out.value.names.length+p.out.value.values.length+p.out.state.length:Nat):Int):=by have:=hb.val;have:=hb.cl.ostate.1;rw[aM ZS ZS];omega
   have ls:bp T 31 (strs p.out.value.names)=some (.int .i64 p.out.value.names.length):=iB _;have lv:bp T 23 (vals p.out.value.values)=some (.int .i64 p.out.value.values.length):=nf _;have neb:∀a b:Bool,cF T .neq 4 (.bool a) (.bool b)=some (.bool (a != b)):=fun a b=>rfl;have eqe:∀a b:Int,cF T .eql 30 (.int .i64 a) (.int .i64 b)=some (.bool (a== b)):=fun a b=>rfl;simp -implicitDefEqProofs only[XR,Xs,Xy,Nk,Q8,VF,ae,Uj,aj,aI,UT,VE,eqe,Ra,Sa,aH,aE,am,bg,Rb,Sb,Rc,Sd,Re,Se,ls,lv,bm,hs1,UW,VI,rc,hs2,EZ,Hw,GZ,Hv,rb,neb,dq,bi]at hc;have hno:(p.out.err== 0&&p.out.value.kind== 0&&p.out.value.n== 0&&(((p.out.value.names.length+p.out.value.values.length+p.out.state.length:Nat):Int)== 0))=sr p.out:=by
    unfold sr;congr 1;rw[YD];simp only[Yd,Xt];omega
   rw[hno]at hc;have hem:((p.frames.length:Int)== 0)=p.frames.isEmpty:=by
    cases p.frames with
    |nil=>rfl
    |cons a l=>
     grind
   rw[hem]at hc;rw[Yw,Yw];have h60:decide ((60:Int)<(p.frames.length:Int))= !(decide (p.frames.length<=60)):=by
    rw[YD];simp;omega
   rw[h60]at hc;have hee:(p.ended != p.frames.isEmpty)= !(p.ended== p.frames.isEmpty):=rfl;rw[hee]at hc;obtain⟨b1,hb1⟩:∃b,(p.ended== p.frames.isEmpty)=b:=⟨_,rfl⟩;obtain⟨b2,hb2⟩:∃b,decide (p.frames.length<=60)=b:=⟨_,rfl⟩;obtain⟨b3,hb3⟩:∃b,sr p.out=b:=⟨_,rfl⟩;obtain⟨b4,hb4⟩:∃b,p.ended=b:=⟨_,rfl⟩;rw[hb1,hb2,hb3,hb4]at hc;rw[hb1,hb2,hb3,hb4];have go:b1=true->b2=true->(b4||b3)=true->code=ak (L26_0 (af pg) ak) [.ip (aa p.av),.hp 2 0,iO p.frames,.int .i64 p.frames.length,.int .i64 0] (g9 [] [.tup (bh p.mods 0)] [.tup (cd (aV 0 p.mods))] (lI p.mods 0)):=by
    intro h1 h2 h3;subst h1 h2;rw[<- hc];cases b4<;>cases b3<;>first|exact absurd h3 (ZT)|rfl
   have stop:(b1&&b2&&(b4||b3))=false->code= .ok (.tup [.nilp,.bool false]) (g9 [] [.tup (bh p.mods 0)] [.tup (cd (aV 0 p.mods))] (lI p.mods 0)):=by
    intro h;rw[<- hc];cases b1<;>cases b2<;>cases b4<;>cases b3<;>first|grind|rfl
   cases hall:(b1&&b2&&(b4||b3))with
   |false=>
    grind
   | true=>
    rw[Yw];simp only[Xu]at hall;have hgo:=go hall.1.1 hall.1.2 hall.2;let L:MLay:=⟨2,0,1,[.tup (bh p.mods 0)],[.tup (cd (aV 0 p.mods))]⟩;have MO:MapOk T 79 80 L p.mods:=map_ok rfl rfl hnd hho;have hl:=xk (L:=L) (p:=p) (h:=g9 [] [.tup (bh p.mods 0)] [.tup (cd (aV 0 p.mods))] (lI p.mods 0)) (row:=lI p.mods 0) rfl rfl rfl MO P hb p.frames [] rfl;have hgo2:=hgo.trans hl;unfold iE;cases hch:eF p.mods p.frames none with
    |false=>
     grind
    | true=>
     rw[hch,Xv rfl]at hgo2;refine⟨fun h=>(by cases h),fun _=>?_⟩;obtain⟨h1,tag1,sv,fv,dv,cv,ov,e1,K1,M1⟩:=t52 p hb.cl (fun r=>if r=2 then 0 else 1) (g9 [] [.tup (bh p.mods 0)] [.tup (cd (aV 0 p.mods))] (lI p.mods 0));have k2:=K1 2 (lI p.mods 0) rfl ZU;have k0:=K1 0 [.tup (bh p.mods 0)] rfl ZU;have k1:=K1 1 [.tup (cd (aV 0 p.mods))] rfl ZU;have t2:tag1 2=0:=k2.2;have t0:tag1 0=1:=k0.2;have t1:tag1 1=1:=k1.2;have s1:bS T 39 (.hp 2 (0+0)) (.agg (sP p sv fv dv cv ov)) h1= .ok (.tup []) (h1.set 2 (sP p sv fv dv cv ov++[.mp 0,.mp 1])):=by
      rw[bT (T:=T) (t:=39) rfl k2.1 (ym M1) (by show (_:Nat)<=15;decide) ZT];rfl
     have K2:Kp tag1 tag1 (fun k=>k=0) h1 (h1.set 2 (sP p sv fv dv cv ov++[.mp 0,.mp 1])):=Xc t2 _;have q0:=K2 0 _ k0.1 (by rw[t0];decide);have q1:=K2 1 _ k1.1 (by rw[t1];decide);refine⟨_,L,?_,MO,⟨⟨tag1,sv,fv,dv,cv,ov,M1.keep K2 (fun k h=>ZS),XV (XA.1 k2.1).1,t2,⟨q0.1,t0⟩,q1.1,t1⟩⟩⟩;rw[hgo2,FL26_0];have hx:¬((p.frames.length:Int)<(p.frames.length:Int)):=ZS
     simp -implicitDefEqProofs only[L26_0,am,ar,aB,ae,ai,Xt,Xr hx,Fl];rw[ap e1];simp -implicitDefEqProofs only[aJ,FH82_0,ae];rw[ap s1];rfl
 ·rw[XO hl];obtain⟨h',g1⟩:=hld.2 hl;rw[ap g1]at hc;have ne0:(jE p.mods != 0)=true:=by simpa using hl
  simp -implicitDefEqProofs only[vM,vO,ae,fY,ne0,gE,aj,am,List.replicate,cz,ai,XF]at hc;simp only[Yu];exact⟨fun _=>⟨_,hc.symm⟩,fun h=>(by cases h)⟩
def t17(p:Proc)(hb:OpB p):af pg 17 [p.av]=ao (.bool (gR p)):=by
 obtain⟨o1,o2⟩:=t26 p hb;rw[C17,yi];cases hr:gR p with
 |false=>
  obtain⟨h',e⟩:=o1 hr;refine gG (a:=.bool false) (h':=h') ?_ rfl;simp -implicitDefEqProofs only[S17,Fl,ae];rw[ap e];rfl
 |true=>
  obtain⟨h',L,e,_⟩:=o2 hr;refine gG (a:=.bool true) (h':=h') ?_ rfl;simp -implicitDefEqProofs only[S17,Fl,ae];rw[ap e];rfl
theorem kE:cG T false 39 []=some p0.av:=rfl
def kX:bD 13 [] p0.av=ao (.agg p0.cells):=gh rfl
def uZ{p:Proc}(hb:OpB p)(hr:gR p=true):RightP p/\PBd p.mods:=by
 have H:=xx.1 hr;exact⟨H,(qb H.load hb.cnt).1⟩
def Ea{L:MLay}{p:Proc}{h:Hp}(H:RightP p)(he:p.ended=false)(R:OpR L p h):vQ L p h:=by
 refine R.mr ?_;have hout:=H.out.resolve_left (by rw[he];simp);simp_all[sr]
def yd{L:MLay}{p:Proc}{h:Hp}(H:vQ L p h\/IZ L p h):∃row,PR L p h row:=by
 rcases H with⟨tag,sv,fv,dv,cv,vc,H⟩|H
 ·exact⟨_,Xp H⟩
 ·exact H.pr
def El(p:Proc):Proc×Int:=if gR p=true then(if p.ended=true then(p,7)else(bZ p,0))else(p0,1)
def t8(p:Proc)(hb:OpB p)(S:gR p=true->p.ended=false->SzP 900000 p):af pg 8 [p.av]=ao (.tup [(El p).1.av,.int .i64 (El p).2]):=by
 obtain⟨o1,o2⟩:=t26 p hb;rw[C8,yi];unfold El;cases hr:gR p with
 |false=>
  obtain⟨h',e⟩:=o1 hr;rw[Xr ZT];refine gG (a:=.tup [p0.av,.int .i64 1]) (h':=h') ?_ rfl;simp -implicitDefEqProofs only[S8,Fl,ae];rw[ap e];simp -implicitDefEqProofs only[vM,vO,ae,bi,X3,ai,XF,kE,kX,aj];rfl
 | true=>
  obtain⟨h1,L,e,MO,R⟩:=o2 hr;obtain⟨H,P⟩:=uZ hb hr;rw[Xv (show (true:Bool)=true from rfl)];obtain⟨row,Q⟩:=R.pr;have g1:bb T 4 (.hp L.rm (0+0+12)) h1= .ok (.bool p.ended) h1:=Q.ended rfl rfl;cases he:p.ended with
  |true=>
   rw[he]at g1;rw[Xv (show (true:Bool)=true from rfl)];have g2:bb T 39 (.hp L.rm (0+0)) h1= .ok (.agg (row.take 13)) h1:=Q.load rfl rfl rfl;obtain⟨cn,c0,c1,c2,c3,c4,c5,c6,c7,c8,c9,c10,c11,c12,hc⟩:=Q.cells;refine gG (a:=.tup [.agg (row.take 13),.int .i64 7]) (h':=h1) ?_ (Q.tup 7);simp -implicitDefEqProofs only[S8,Fl,ae];rw[ap e];simp -implicitDefEqProofs only[vM,vO,ae,bi,XR,ai,Xs,Xy,aJ,FH82_0,FH39_5];rw[ap g1];simp -implicitDefEqProofs only[ai,XF];rw[ap g2,cn,aj,aI,hc];rfl
  |false=>
   rw[he]at g1;rw[Xr (show ¬(false:Bool)=true by decide)];obtain⟨h2,e2,R2⟩:=IG (Ea H he R) MO H he P (S hr he) ZT;obtain⟨row2,Q2⟩:=yd R2;have g2:bb T 39 (.hp L.rm (0+0)) h2= .ok (.agg (row2.take 13)) h2:=Q2.load rfl rfl rfl;obtain⟨cn,c0,c1,c2,c3,c4,c5,c6,c7,c8,c9,c10,c11,c12,hc⟩:=Q2.cells;refine gG (a:=.tup [.agg (row2.take 13),.int .i64 0]) (h':=h2) ?_ (Q2.tup 0);simp -implicitDefEqProofs only[S8,Fl,ae];rw[ap e];simp -implicitDefEqProofs only[vM,vO,ae,bi,XR,ai,Xs,Xy,aJ,FH82_0,FH39_5];rw[ap g1];simp -implicitDefEqProofs only[ai,Xs,Xy];rw[ap e2,ap g2,cn,aj,aI,hc];rfl
def Fv{L:MLay}(n:Nat)(hn:n<=100000)(z0 z1 z2 z3 z4 z5 z6 z7 z8 z9 z10 z11 z12:AV):∀(k i:Nat)(q:Proc)(h:Hp),i+k=n->(q.ended=true->∃row,PR L q h row)->(q.ended=false->vQ L q h)->MapOk T 79 80 L q.mods->RightP q->PBd q.mods->(q.ended=false->SzP (500000+i) q)->
  ∃h' row,ak (L13_0 (af pg) ak (K13_0 (af pg) ak)) [.hp L.rm 0,.int .i64 n,.int .i64 i,z0,z1,z2,z3,z4,z5,z6,z7,z8,z9,z10,z11,z12] h= .ok (.tup [.agg (row.take 13),.int .i64 (if(jI k q).ended=true then 0 else 16)]) h'/\PR L (jI k q) h' row:=by
 have fin:∀(q:Proc)(h:Hp)(row:List AV),PR L q h row->K13_0 (af pg) ak [.hp L.rm 0,z0,z1,z2,z3,z4,z5,z6,z7,z8,z9,z10,z11,z12] h= .ok (.tup [.agg (row.take 13),.int .i64 (if q.ended=true then 0 else 16)]) h:=by
  intro q h row Q;have g1:bb T 4 (.hp L.rm (0+0+12)) h= .ok (.bool q.ended) h:=Q.ended rfl rfl;have g2:bb T 39 (.hp L.rm (0+0)) h= .ok (.agg (row.take 13)) h:=Q.load rfl rfl rfl;obtain⟨cn,c0,c1,c2,c3,c4,c5,c6,c7,c8,c9,c10,c11,c12,hc⟩:=Q.cells;rw[K13_0];simp -implicitDefEqProofs only[am,ar,aJ,ae,FH82_0,FH39_5];rw[ap g1];simp -implicitDefEqProofs only[bi,ae,ai];cases q.ended with
  |true=>
   simp -implicitDefEqProofs only[XR,Xs,Xy,XF];rw[ap g2,cn,aj,aI,hc];rfl
  |false=>
   simp -implicitDefEqProofs only[X3,Xs,Xy,XF];rw[ap g2,cn,aj,aI,hc];rfl
 intro k
 induction k with
 | zero=>
  intro i q h hi hE hR MO H P S;obtain⟨row,Q⟩:∃row,PR L q h row:=by
   cases he:q.ended with
   |true=>exact hE he
   |false=>exact yd (.inl (hR he))
  refine⟨h,row,?_,Q⟩;have h1:¬((i:Int)<(n:Int)):=ZS
  rw[FL13_0];simp -implicitDefEqProofs only[L13_0,am,ar,aB,ae,ai,Xt,Xr h1];exact fin q h row Q
 | succ k ih=>
  intro i q h hi hE hR MO H P S;have h1:(i:Int)<(n:Int):=ZS
  cases he:q.ended with
  |true=>
   obtain⟨row,Q⟩:=hE he;have g1:bb T 4 (.hp L.rm (0+0+12)) h= .ok (.bool q.ended) h:=Q.ended rfl rfl;rw[he]at g1;rw[C2 _ he];refine⟨h,row,?_,Q⟩;rw[FL13_0];simp -implicitDefEqProofs only[L13_0,am,ar,aB,ae,ai,Xt,Xv h1,aJ,FH82_0,FH39_5];rw[ap g1];simp -implicitDefEqProofs only[ai,XF]
   grind
  | false=>
   obtain⟨row,Q⟩:=yd (.inl (hR he));have g1:bb T 4 (.hp L.rm (0+0+12)) h= .ok (.bool q.ended) h:=Q.ended rfl rfl;rw[he]at g1;obtain⟨h2,e2,R2⟩:=IG (hR he) MO H he P (S he) ZS;have hm:(bZ q).mods=q.mods:=by
    obtain⟨fs,f,x,p1,p2,p3⟩:=kD H he;exact (qz H he p1 p2 p3).mods
   have hw:IntKind.i64.wrap ((i:Int)+1)=((i+1:Nat):Int):=by rw[aM ZS ZS];omega
   obtain⟨h',row',k1,k2⟩:=ih (i+1) (bZ q) h2 ZS (fun _=>yd R2) (fun he2=>by
    rcases R2 with h|h
    ·exact h
    ·obtain⟨_,_,_,_,_,_,_,h3,_⟩:=h
     grind) ZU (pF H he) ZU (fun _=>En H he P (S he))
   rw[xL (by rw[he];decide)];refine⟨h',row',?_,k2⟩;rw[<- k1,FL13_0];simp -implicitDefEqProofs only[L13_0,am,ar,aB,ae,ai,Xt,Xv h1,aJ,FH82_0,FH39_5];rw[ap g1];simp -implicitDefEqProofs only[ai,Xs,Xy];rw[ap e2];simp_all
def sT(p:Proc)(n:Int):Proc×Int:=if gR p=true/\0<=n/\n<=100000 then(jI n.toNat p,if(jI n.toNat p).ended=true then 0 else 16)else(p0,1)
def t13(p:Proc)(n:Int)(hb:OpB p)(S:gR p=true->p.ended=false->SzP 500000 p):af pg 13 [p.av,.int .i64 n]=ao (.tup [(sT p n).1.av,.int .i64 (sT p n).2]):=by
 obtain⟨o1,o2⟩:=t26 p hb;rw[C13,yi,show cl aF (.int .i64 n)= .int .i64 n from rfl];unfold sT;cases hr:gR p with
 |false=>
  obtain⟨h',e⟩:=o1 hr;rw[Xr ZV];refine gG (a:=.tup [p0.av,.int .i64 1]) (h':=h') ?_ rfl;simp -implicitDefEqProofs only[S13,Fl,ae];rw[ap e];simp -implicitDefEqProofs only[vM,vO,ae,bi,X3,gE,aj,am,List.replicate,cz,ai,XF,kE,kX];rfl
 | true=>
  obtain⟨h1,L,e,MO,R⟩:=o2 hr;obtain⟨H,P⟩:=uZ hb hr;by_cases hn0:n<0
  ·rw[Xr ZS];have n1:decide (n<0)=true:=XU hn0;refine gG (a:=.tup [p0.av,.int .i64 1]) (h':=h1) ?_ rfl;simp -implicitDefEqProofs only[S13,Fl,ae];rw[ap e];simp -implicitDefEqProofs only[vM,vO,ae,bi,XR,bv,aB,n1,gE,aj,am,List.replicate,cz,cr,ai,XF,kE,kX];rfl
  have n1:decide (n<0)=false:=XO hn0;by_cases hn1:100000<n
  ·rw[Xr ZS];have n2:decide ((100000:Int)<n)=true:=XU hn1;refine gG (a:=.tup [p0.av,.int .i64 1]) (h':=h1) ?_ rfl;simp -implicitDefEqProofs only[S13,Fl,ae];rw[ap e];simp -implicitDefEqProofs only[vM,vO,ae,bi,XR,bv,aB,n1,dq,n2,aj,am,cr,ai,XF,kE,kX];rfl
  have n2:decide ((100000:Int)<n)=false:=XO hn1;rw[Xv ⟨rfl,ZS,ZS⟩];obtain⟨m,rfl⟩:∃m:Nat,n=(m:Int):=⟨n.toNat,ZS⟩;rw[XC];obtain⟨h',row,k1,k2⟩:=Fv (L:=L) m ZS (.sl []) (.sl []) (.sl []) (.sl []) (.int .i64 0) (.int .i64 0) (.int .i64 0) (.sl []) (.sl []) (.sl []) (.sl []) (.sl []) (.bool false) m 0 p h1 ZS (fun _=>R.pr) (fun he=>Ea H he R) MO H P (S hr);refine gG (a:=.tup [.agg (row.take 13),.int .i64 (if(jI m p).ended=true then 0 else 16)]) (h':=h') ?_ (k2.tup _);simp -implicitDefEqProofs only[S13,Fl,ae];rw[ap e];simp -implicitDefEqProofs only[vM,vO,ae,bi,XR,bv,aB,n1,dq,n2,aj,am,cr,ai,Xs,Xy,jn];exact k1
def tX{F:(List AV->M AV)->List AV->M AV}(hF:∀vs,ak F vs=F (ak F) vs)(st:Nat->List AV)(n:Nat)(hend:∃b,F (ak F) (st n)=ao (.bool b))(hstep:∀k,k<n->(∃b,F (ak F) (st k)=ao (.bool b))\/F (ak F) (st k)=ak F (st (k+1))):
  ∀k,k<=n->∃b,ak F (st k)=ao (.bool b):=by
 have key:∀r k,n-k=r->k<=n->∃b,ak F (st k)=ao (.bool b):=by
  intro r
  induction r with
  |zero=>
   grind
  |succ r ih=>
   grind
 grind
def xC{t:Ty}{f:fF}(h:f∈t.fields):SizeOf.sizeOf f.2<SizeOf.sizeOf t:=by
 cases t with
 |mk k fs=>
  have h1:=Zl (show f∈fs from h)
  grind
def UE:∀(n:Nat)(t:Ty),SizeOf.sizeOf t<=n->t.Lim->∀most:Int,0<=most->most<=1000->∃r:Int,af pg 84 [t.av,.int .i64 most]=ao (.int .i64 r)/\1<=r/\r<=most+1:=by
 intro n
 induction n with
 |zero=>
  intro t h;cases t;simp at h
 | succ n ih=>
  intro t hs ht most h0 h1;have hlen:=ht.len;have hl:∀(k i:Nat),t.fields.length-i=k->i<=t.fields.length->∀m:Int,1<=m->m<=most+1->∃r:Int,ak (L84_0 (af pg) ak) [.int .i64 most,.ip (aa t.av),.int .i64 m,.int .i64 i]=ao (.int .i64 r)/\1<=r/\r<=most+1:=by
   intro k
   induction k with
   |zero=>
    intro i hk hi m hm1 hm2;rw[FL84_0];have h1:¬((i:Int)<(t.fields.length:Int)):=ZS
    exact⟨m,by simp[L84_0,h1],hm1,hm2⟩
   | succ k ihk=>
    intro i hk hi m hm1 hm2;rw[FL84_0];have hlt:i<t.fields.length:=ZS
    have h1':(i:Int)<(t.fields.length:Int):=ZS
    by_cases hm:m<=most
    ·have hix:=xR (l:=t.fields) (n:=(i:Int)) ZS h1';rw[XC,Xx t.fields i hlt]at hix;have hm':=XG hlt;generalize t.fields[i]=f at hix hm';have hsz:=xC hm';obtain⟨r,e1,e2,e3⟩:=ih f.2 ZS (ht.kid hm') (most-m) ZS ZS;obtain⟨r2,g1,g2,g3⟩:=ihk (i+1) ZS ZS (m+r) ZS ZS;have w1:IntKind.i64.wrap (most-m)=most-m:=aM ZS ZS;have w2:IntKind.i64.wrap (m+r)=m+r:=aM ZS ZS;have w3:IntKind.i64.wrap ((i:Int)+1)=((i+1:Nat):Int):=aZ ZS;refine⟨r2,?_,g2,g3⟩;rw[<- g1];simp only[L84_0,am,ar,Ew,FA106_1,ae,XQ,XK,LD49,ni,aB,fm,h1',hm,XY,bv,aj,cz,ai,XF,hix,mh,FA154_1,LD106,XX,Yi,XI,Nat.reduceAdd,Xz,Yq,Yl,DF,dY,w1,e1,bm,w2,w3]
    ·exact⟨m,by simp[L84_0,h1',hm],hm1,hm2⟩
  obtain⟨r,e1,e2,e3⟩:=hl t.fields.length 0 rfl ZS 1 ZS ZS
  grind [C84,S84,Do,yf,nH]
def UF:∀(n:Nat)(t:Ty),SizeOf.sizeOf t<=n->t.Lim->∃b,af pg 85 [t.av]=ao (.bool b):=by
 intro n
 induction n with
 |zero=>
  intro t h;cases t;simp at h
 | succ n ih=>
  intro t hs ht;have hlen:=ht.len;obtain⟨b,hb⟩:=tX (FL85_0 (af pg)) (fun k=>[.ip (aa t.av),.int .i64 (k:Int)]) t.fields.length ⟨true,by simp[L85_0]⟩ (fun k hk=>by
   have h1:(k:Int)<(t.fields.length:Int):=ZS
   have hix:=xR (l:=t.fields) (n:=(k:Int)) ZS h1;rw[XC,Xx t.fields k hk]at hix;have hm':=XG hk;generalize t.fields[k]=f at hix hm';have hsz:=xC hm';have w3:IntKind.i64.wrap ((k:Int)+1)=(k:Int)+1:=by rw[aZ ZS];simp
   obtain⟨b,hb⟩:=ih f.2 ZS (ht.kid hm');by_cases hn:30<(f.1.length:Int)
   ·simp_all[L85_0]
   ·have hn':¬30<f.1.length:=ZS
    cases b with
    |false=>simp_all[L85_0]
    |true=>exact .inr (by simp[L85_0,h1,hk,hix,hn,hn',hb,w3])) 0 (XN _)
  grind [C85,S85,Do,fA]
def Q4(t:Ty)(ht:t.Lim):∃b,af pg 37 [t.av]=ao (.bool b):=by
 obtain⟨r,e1,e2,e3⟩:=UE _ t (Xz _) ht 40 ZS ZS;obtain⟨b,hb⟩:=UF _ t (Xz _) ht;rw[C37];by_cases h:r<=40
 ·exact⟨b,by simp[S37,e1,hb,h]⟩
 ·exact⟨false,by simp[S37,e1,h]⟩
def vr{e x:Exp}(h:x∈e.args):SizeOf.sizeOf x<SizeOf.sizeOf e:=by
 cases e with
 |mk o n s m ns es=>
  have h1:SizeOf.sizeOf x<SizeOf.sizeOf es:=Zl h
  grind
def UH:∀(n:Nat)(e:Exp),SizeOf.sizeOf e<=n->e.Lim->∀most:Int,0<=most->most<=1000->∃r:Int,af pg 86 [e.av,.int .i64 most]=ao (.int .i64 r)/\1<=r/\r<=most+1:=by
 intro n
 induction n with
 |zero=>
  intro e h;cases e;simp at h
 | succ n ih=>
  intro e hs he most h0 h1;have hlen:=he.len;have hl:∀(k i:Nat),e.args.length-i=k->i<=e.args.length->∀m:Int,1<=m->m<=most+1->∃r:Int,ak (L86_0 (af pg) ak) [.int .i64 most,.ip (aa e.av),.int .i64 m,.int .i64 i]=ao (.int .i64 r)/\1<=r/\r<=most+1:=by
   intro k
   induction k with
   |zero=>
    intro i hk hi m hm1 hm2;rw[FL86_0];have h1:¬((i:Int)<(e.args.length:Int)):=ZS
    exact⟨m,by simp[L86_0,h1],hm1,hm2⟩
   | succ k ihk=>
    intro i hk hi m hm1 hm2;rw[FL86_0];have hlt:i<e.args.length:=ZS
    have h1':(i:Int)<(e.args.length:Int):=ZS
    by_cases hm:m<=most
    ·have hix:=oB (l:=e.args) (n:=(i:Int)) ZS h1';rw[XC,Xx e.args i hlt]at hix;have hm':=XG hlt;generalize e.args[i]=f at hix hm';have hsz:=vr hm';obtain⟨r,e1,e2,e3⟩:=ih f ZS (he.kid hm') (most-m) ZS ZS;obtain⟨r2,g1,g2,g3⟩:=ihk (i+1) ZS ZS (m+r) ZS ZS;have w1:IntKind.i64.wrap (most-m)=most-m:=aM ZS ZS;have w2:IntKind.i64.wrap (m+r)=m+r:=aM ZS ZS;have w3:IntKind.i64.wrap ((i:Int)+1)=((i+1:Nat):Int):=aZ ZS;refine⟨r2,?_,g2,g3⟩;rw[<- g1];simp only[L86_0,am,ar,cu,FA108_5,ae,XQ,XK,LD50,qH,aB,fm,h1',hm,XY,bv,aj,cz,ai,XF,hix,LD108,XX,Yi,XI,Nat.reduceAdd,Xz,Yq,Yl,lS,dY,w1,e1,bm,w2,w3]
    ·exact⟨m,by simp[L86_0,h1',hm],hm1,hm2⟩
  obtain⟨r,e1,e2,e3⟩:=hl e.args.length 0 rfl ZS 1 ZS ZS
  grind [C86,S86,tG,yf,nH]
def Q5:∀(n:Nat)(e:Exp),SizeOf.sizeOf e<=n->e.Lim->∃b,af pg 87 [e.av]=ao (.bool b):=by
 intro n
 induction n with
 |zero=>
  intro e h;cases e;simp at h
 | succ n ih=>
  intro e hs he;have hlen:=he.len;have hnl:=he.names;have end0:∃b,L87_0 (af pg) ak (ak (L87_0 (af pg) ak)) [.ip (aa e.av),.int .i64 (e.args.length:Int)]=ao (.bool b):=by
   exact⟨decide ((e.s.length:Int)<=30)&&decide ((e.m.length:Int)<=30)&&decide ((e.names.length:Int)<=12),by simp[L87_0]⟩
  obtain⟨b0,hb0⟩:=tX (FL87_0 (af pg)) (fun k=>[.ip (aa e.av),.int .i64 (k:Int)]) e.args.length end0 (fun k hk=>by
   have h1:(k:Int)<(e.args.length:Int):=ZS
   have hix:=oB (l:=e.args) (n:=(k:Int)) ZS h1;rw[XC,Xx e.args k hk]at hix;have hm':=XG hk;generalize e.args[k]=f at hix hm';have hsz:=vr hm';have w3:IntKind.i64.wrap ((k:Int)+1)=(k:Int)+1:=by rw[aZ ZS];simp
   obtain⟨b,hb⟩:=ih f ZS (he.kid hm');cases b with
   |false=>simp_all[L87_0]
   |true=>simp_all[L87_0]) 0 (XN _)
  have hb0':ak (L87_0 (af pg) ak) [.ip (aa e.av),.int .i64 0]=ao (.bool b0):=hb0;simp only[cu]at hb0';obtain⟨b,hb⟩:=tX (FL87_1 (af pg)) (fun k=>[.ip (aa e.av),.int .i64 (k:Int)]) e.names.length ⟨b0,by simp[L87_1,hb0']⟩ (fun k hk=>by
   have h1:(k:Int)<(e.names.length:Int):=ZS
   have hix:=pI (l:=e.names) (n:=(k:Int)) ZS h1;rw[XC,Xx e.names k hk]at hix;generalize e.names[k]=f at hix;have w3:IntKind.i64.wrap ((k:Int)+1)=(k:Int)+1:=by rw[aZ ZS];simp
   by_cases h12:k<=12
   ·have h12':(k:Int)<=12:=ZS
    by_cases h30:30<f.length
    ·have h30':30<(f.length:Int):=ZS
     simp_all[L87_1]
    ·have h30':¬30<(f.length:Int):=ZS
     exact .inr (by simp[L87_1,h1,hk,hix,h12,h12',h30,h30',w3])
   ·have h12':¬(k:Int)<=12:=ZS
    exact .inl ⟨b0,by simp[L87_1,h1,hk,h12,h12',hb0']⟩) 0 (XN _)
  grind [C87,S87,tG,fA]
def UC(e:Exp)(he:e.Lim):∃b,af pg 38 [e.av]=ao (.bool b):=by
 obtain⟨r,e1,e2,e3⟩:=UH _ e (Xz _) he 120 ZS ZS;obtain⟨b,hb⟩:=Q5 _ e (Xz _) he;rw[C38];by_cases h:r<=120
 ·exact⟨b,by simp[S38,e1,hb,h]⟩
 ·exact⟨false,by simp[S38,e1,h]⟩
def Nf(l:List fF)(hb:l.length<=140737488355328)(ht:∀f∈l,f.2.Lim):∃b,af pg 36 [ck l]=ao (.bool b):=by
 obtain⟨b,hb⟩:=tX (FL36_0 (af pg)) (fun k=>[ck l,.int .i64 (k:Int)]) l.length ⟨decide ((l.length:Int)<=10),by simp[L36_0]⟩ (fun k hk=>by
  have h1:(k:Int)<(l.length:Int):=ZS
  have hix:=xR (l:=l) (n:=(k:Int)) ZS h1;rw[XC,Xx l k hk]at hix;have hm':=XG hk;generalize l[k]=f at hix hm';have w3:IntKind.i64.wrap ((k:Int)+1)=(k:Int)+1:=by rw[aZ ZS];simp
  obtain⟨b,hb⟩:=Q4 f.2 (ht f hm');by_cases h9:k<=10
  ·have h9':(k:Int)<=10:=ZS
   by_cases h30:30<f.1.length
   ·have h30':30<(f.1.length:Int):=ZS
    simp_all[L36_0]
   ·have h30':¬30<(f.1.length:Int):=ZS
    cases b with
    |false=>simp_all[L36_0]
    |true=>exact .inr (by simp[L36_0,h1,hk,hix,hb,h9,h9',h30,h30',w3])
  ·have h9':¬(k:Int)<=10:=ZS
   exact .inl ⟨decide ((l.length:Int)<=10),by simp[L36_0,h1,hk,h9,h9']⟩) 0 (XN _)
 grind [C36,S36,ye,fA]
def Ng(l:List Exp)(hb:l.length<=140737488355328)(ht:∀f∈l,f.Lim):∃b,af pg 39 [dF l]=ao (.bool b):=by
 obtain⟨b,hb⟩:=tX (FL39_0 (af pg)) (fun k=>[dF l,.int .i64 (k:Int)]) l.length ⟨decide ((l.length:Int)<=10),by simp[L39_0]⟩ (fun k hk=>by
  have h1:(k:Int)<(l.length:Int):=ZS
  have hix:=oB (l:=l) (n:=(k:Int)) ZS h1;rw[XC,Xx l k hk]at hix;have hm':=XG hk;generalize l[k]=f at hix hm';have w3:IntKind.i64.wrap ((k:Int)+1)=(k:Int)+1:=by rw[aZ ZS];simp
  obtain⟨b,hb⟩:=UC f (ht f hm');by_cases h9:k<=10
  ·have h9':(k:Int)<=10:=ZS
   cases b with
   |false=>simp_all[L39_0]
   |true=>simp_all[L39_0]
  ·have h9':¬(k:Int)<=10:=ZS
   exact .inl ⟨decide ((l.length:Int)<=10),by simp[L39_0,h1,hk,h9,h9']⟩) 0 (XN _)
 grind [C39,S39,Jw,fA]
def J0(f:AV)(F:Mod->Bool)(l:List Mod)(hb:l.length<=4611686018427387904)(hf:∀x∈l,cU (af pg) f [Mod.av x]=ao (.bool (F x))):∀(n:Nat)(i:Int),l.length-i.toNat=n->0<=i->i<=l.length->
  ak (L136_0 (af pg) ak) [mods l,f,.int .i64 l.length,.int .i64 i]=ao (.int .i64 (aY F (l.drop i.toNat) i)):=by
 intro n
 induction n with
 |zero=>
  intro i hn hi hl;rw[FL136_0];simp only[L136_0];have h1:¬(i<(l.length:Int)):=ZS
  have h2:l.drop i.toNat=[]:=List.drop_eq_nil_of_le ZS;simp[h1,h2,aY]
 |succ n ih=>
  intro i hn hi hl;have h1:i<(l.length:Int):=ZS
  have hlt:i.toNat<l.length:=ZS
  have h2:aY F (l.drop i.toNat) i=if F l[i.toNat]=true then i else aY F (l.drop (i.toNat+1)) (i+1):=by rw[List.drop_eq_getElem_cons hlt];rfl
  have h3:=hf l[i.toNat] (XG hlt);have h4:=ih (i+1) ZS ZS ZS;rw[show (i+1).toNat=i.toNat+1 by omega]at h4;rw[FL136_0];simp only[L136_0];simp (disch:=omega) [h1,aM,Et,h3,h2];simp_all
def t136(f:AV)(F:Mod->Bool)(l:List Mod)(hb:l.length<=4611686018427387904)(hc:∀g,cl g f=f)(hf:∀x∈l,cU (af pg) f [Mod.av x]=ao (.bool (F x))):af pg 136 [mods l,f]=ao (.int .i64 (aY F l 0)):=by
 rw[C136];simp[S136,hc,J0 f F l hb hf l.length 0 rfl ZS ZS]
def t98(f:AV)(F:Mod->Bool)(l:List Mod)(hb:l.length<=4611686018427387904)(hc:∀g,cl g f=f)(hf:∀x∈l,cU (af pg) f [Mod.av x]=ao (.bool (F x))):af pg 98 [mods l,f]=ao (.bool (l.any F)):=by
 rw[C98];simp[S98,hc,t136 f F l hb hc hf,xa]
def J1(f:AV)(F:Fun->Bool)(l:List Fun)(hb:l.length<=4611686018427387904)(hf:∀x∈l,cU (af pg) f [Fun.av x]=ao (.bool (F x))):∀(n:Nat)(i:Int),l.length-i.toNat=n->0<=i->i<=l.length->
  ak (L138_0 (af pg) ak) [iP l,f,.int .i64 l.length,.int .i64 i]=ao (.int .i64 (aY F (l.drop i.toNat) i)):=by
 intro n
 induction n with
 |zero=>
  intro i hn hi hl;rw[FL138_0];simp only[L138_0];have h1:¬(i<(l.length:Int)):=ZS
  have h2:l.drop i.toNat=[]:=List.drop_eq_nil_of_le ZS;simp[h1,h2,aY]
 |succ n ih=>
  intro i hn hi hl;have h1:i<(l.length:Int):=ZS
  have hlt:i.toNat<l.length:=ZS
  have h2:aY F (l.drop i.toNat) i=if F l[i.toNat]=true then i else aY F (l.drop (i.toNat+1)) (i+1):=by rw[List.drop_eq_getElem_cons hlt];rfl
  have h3:=hf l[i.toNat] (XG hlt);have h4:=ih (i+1) ZS ZS ZS;rw[show (i+1).toNat=i.toNat+1 by omega]at h4;rw[FL138_0];simp only[L138_0];simp (disch:=omega) [h1,aM,Eu,h3,h2];simp_all
def t138(f:AV)(F:Fun->Bool)(l:List Fun)(hb:l.length<=4611686018427387904)(hc:∀g,cl g f=f)(hf:∀x∈l,cU (af pg) f [Fun.av x]=ao (.bool (F x))):af pg 138 [iP l,f]=ao (.int .i64 (aY F l 0)):=by
 rw[C138];simp[S138,hc,J1 f F l hb hf l.length 0 rfl ZS ZS]
def t137(m:Mod)(s:aW):af pg 137 [m.av,.ip [.str s]]=ao (.bool (m.name== s)):=by
 rw[C137];simp[S137,cl,fp]
def t139(f:Fun)(s:aW):af pg 139 [f.av,.ip [.str s]]=ao (.bool (f.name== s)):=by
 rw[C139];simp[S139,cl,fp]
def t99(m w:Mod):af pg 99 [m.av,.ip (aa w.av)]=ao (.bool (m.name== w.name)):=by
 rw[C99];simp[S99,cl,fp]
def SO(p:List Mod)(hp:p.length<=4611686018427387904)(s:aW):af pg 136 [mods p,.fn (.func 137) [] [.ip [.str s]]]=ao (.int .i64 (cV p s)):=
 t136 _ _ p hp (fun g=>rfl) (fun m _=>t137 m s)
def SP(p:List Fun)(hp:p.length<=4611686018427387904)(s:aW):af pg 138 [iP p,.fn (.func 139) [] [.ip [.str s]]]=ao (.int .i64 (mY p s)):=
 t138 _ _ p hp (fun g=>rfl) (fun m _=>t139 m s)
def t154(n:Int):af pg 154 [.int .i64 n]=ao (Val.mk 0 n [] []).av:=by
 rw[C154];rfl
def t155(b:Bool):af pg 155 [.bool b]=ao (dS b).av:=by
 rw[C155];cases b<;>rfl
def t141(b:Bool)(n:Int):af pg 141 [.bool b,.int .i64 n]=if b=true then ao (.tup [])else jY (.iface 30 (.int .i64 n)):=by
 rw[C141];cases b<;>rfl
def M2(l:List aW):da T 31 (strs l) none (some (.int .i64 l.length)) (some (.int .i64 l.length))=some (strs l):=by
 have:=sH (T:=T) (t:=31) (e:=9) rfl rfl rfl (l.map AV.str)
 simpa [strs]using this
def M0(l:List Val):da T 23 (vals l) none (some (.int .i64 l.length)) (some (.int .i64 l.length))=some (vals l):=by
 have:=sH (T:=T) (t:=23) (e:=33) rfl rfl rfl (d7 l)
 simpa [vals,dT]using this
def t170(l:List aW):af pg 170 [strs l]=ao (strs l):=by
 rw[C170];simp[S170,M2,dj (a:=strs l) fun g=>oc g l]
def t171(l:List Val):af pg 171 [vals l]=ao (vals l):=by
 rw[C171];simp[S171,M0]
def bC(o:Int)(ns:List aW)(vs:List Val):AV:=.agg [.int .i64 o,strs ns,vals vs]
@[simp] theorem fK(o:Int)(ns:List aW)(vs:List Val):aa (bC o ns vs)=[.int .i64 o,strs ns,vals vs]:=rfl
theorem bQ(o:Int)(ns:List aW)(vs:List Val):AV.agg [.int .i64 o,strs ns,vals vs]=bC o ns vs:=rfl
def zI(g)(o:Int)(ns:List aW)(vs:List Val):cl g (bC o ns vs)=bC o ns vs:=by
 simp_all[bC,cl,fp]
def px(o:Int)(ns:List aW)(vs:List Val):bR 3 (bC o ns vs)=true:=by grind [bR,ay,strs,vals,bC,dA,aa]
def Cr(o:Int)(ns:List aW)(vs:List Val):bn (ao (bC o ns vs))=ao (bC o ns vs):=dj fun g=>zI g o ns vs
set_option maxHeartbeats 1000000 in
def t153(n:Int):af pg 153 [.int .i64 n]=ao (.int .i64 (bG n)):=by
 rw[C153];unfold bG;simp only[S153,K153_0,K153_1,K153_2,K153_3,cl,uy,aH,ae,ai,am,ar,Yd];by_cases h0:n=0
 ·simp[h0]
 by_cases h1:n=1
 ·simp[h1]
 by_cases h2:n=2
 ·simp[h2]
 by_cases h17:n=17
 ·simp[h17]
 by_cases h10:n=10
 ·simp[h10]
 by_cases h14:n=14
 ·simp[h14]
 by_cases h16:n=16
 ·simp[h16]
 by_cases h18:n=18
 ·simp[h18]
 by_cases h3:n=3
 ·simp[h3]
 by_cases h4:n=4
 ·simp[h4]
 by_cases h5:n=5
 ·simp[h5]
 by_cases h6:n=6
 ·simp[h6]
 by_cases h7:n=7
 ·simp[h7]
 by_cases h8:n=8
 ·simp[h8]
 by_cases h9:n=9
 ·simp[h9]
 by_cases h12:n=12
 ·simp[h12]
 by_cases h11:n=11
 ·simp[h11]
 by_cases h13:n=13
 all_goals simp_all
theorem t142(o:Int)(ns:List aW)(vs:List Val)(s:aW)(v:Val)(h1:ns.length<=1099511627776)(h2:vs.length<=1099511627776):
  af pg 142 [bC o ns vs,.str s,v.av]=ao (bC o (ns++[s]) (vs++[v])):=by
 have hb1:aQ T 31 1 [(0,.str s)]=some (strs [s]):=rfl;have hb2:aQ T 23 1 [(0,v.av)]=some (vals [v]):=by rw[v.av_eq];simp[vals,d7,v.av_eq];rfl
 have ha1:dJ T 31 (strs ns) (strs [s])=some (strs (ns++[s])):=I8 ZX;have ha2:dJ T 23 (vals vs) (vals [v])=some (vals (vs++[v])):=I7 ZX;have hb3:cG T false 189 [(0,.int .i64 o),(1,strs (ns++[s])),(2,vals (vs++[v]))]=some (bC o (ns++[s]) (vs++[v])):=rfl;simp_all[C142,zI,S142,t170,t171,bQ,px,Cr]
def pO(e:Int):AV:=.iface 30 (.int .i64 e)
def de(b:Bool)(e:Int)(x:M AV):M AV:=if b=true then x else jY (pO e)
def bo(b:Bool)(e:Int)(f:AV->M AV):au (af pg 141 [.bool b,.int .i64 e]) f=de b e (f (.tup [])):=by
 rw[t141];unfold de;cases b<;>rfl
def gP:X Val->M AV:=fun x=>match x ⟨0,0,[],[],[],[]⟩with
 |.ok v _=>ao v.av
 |.er e _=>jY (pO e)
def t156(op:Int)(a b:Val)(h:op=3\/op=4\/op=5\/op=6\/op=7):af pg 156 [.int .i64 op,a.av,b.av]=gP (oZ op a b):=by
 rw[C156];unfold oZ;have hn:=t154;have ht:=t155;simp only[S156,aH,ae,ai,bK];by_cases h7:op=7
 ·by_cases hk:a.kind=b.kind
  ·by_cases h2:a.kind=2
   ·simp_all[bo,de,gP,X.er]
   ·have h2':¬b.kind=2:=ZS
    simp[h7,hk,h2',bo,de,gP,X.ok,ht]
  simp_all[bo,de,gP,X.er]
 ·by_cases ha:a.kind=0
  ·by_cases hb:b.kind=0
   ·simp only[h7,ha,hb,X0,ZE,XF,Xy,Yd,FA33_0,FA33_1,XK,LD3,ae,aH,aE,aj,bg,am,bo,de,Yn,XQ,ai,bm,dY,Dk,aB,hn,ht];by_cases h3:op=3
    ·simp[h3,gP,X.ok,cp,wr];rfl
    by_cases h4:op=4
    ·simp[h4,gP,X.ok,cp,wr];rfl
    by_cases h5:op=5
    ·simp[h5,gP,X.ok,cp,wr];rfl
    simp[h3,h4,h5,gP,X.ok]
   simp_all[bo,de,gP,X.er]
  simp_all[bo,de,gP,X.er]
def t159(l:List aW)(s:aW)(hb:l.length<=1099511627776):af pg 159 [strs l,.str s]=ao (.int .i64 (aY (fun x=>s== x) l 0)):=by
 have hl:∀(n:Nat)(i:Int),l.length-i.toNat=n->0<=i->i<=l.length->ak (L159_0 (af pg) ak) [strs l,.str s,.int .i64 l.length,.int .i64 i]=ao (.int .i64 (aY (fun x=>s== x) (l.drop i.toNat) i)):=by
  intro n
  induction n with
  |zero=>
   intro i hn hi hl;rw[FL159_0];simp only[L159_0];have h1:¬(i<(l.length:Int)):=ZS
   have h2:l.drop i.toNat=[]:=List.drop_eq_nil_of_le ZS;simp[h1,h2,aY]
  |succ n ih=>
   intro i hn hi hl;have h1:i<(l.length:Int):=ZS
   have hlt:i.toNat<l.length:=ZS
   have h2:aY (fun x=>s== x) (l.drop i.toNat) i=if(s== l[i.toNat])=true then i else aY (fun x=>s== x) (l.drop (i.toNat+1)) (i+1):=by rw[List.drop_eq_getElem_cons hlt];rfl
   have h4:=ih (i+1) ZS ZS ZS;rw[show (i+1).toNat=i.toNat+1 by omega]at h4;rw[FL159_0];simp only[L159_0];simp (disch:=omega) [h1,aM,pI,h2];simp_all
 rw[C159];simp[S159,cl,hl l.length 0 rfl ZS ZS]
def t177:∀(n:Nat)(v:Val),v.sz<=n->v.sz<=1099511627776->af pg 177 [v.av]=ao (.int .i64 (dO v:Nat)):=by
 intro n
 induction n with
 |zero=>intro v h;have:=v.sz_pos;omega
 | succ n ih=>
  intro v hn hv;have hlen:=v.sz_len;have hlv:∀(l:List Val),db l<=1099511627776->dL l<=1099511627776:=by
   intro l
   induction l with
   |nil=>intro _;simp[dL]
   | cons x l ih2=>
    intro h;simp only[db]at h
    have:=ih2 ZS
    have hx:∀(k:Nat)(y:Val),y.sz<=k->dO y<=y.sz:=by
     intro k
     induction k with
     |zero=>intro y hy;have:=y.sz_pos;omega
     |succ k ihk=>
      intro y hy;rw[jc];have h1:=y.sz_values;have h2:dL y.values<=db y.values:=(hG _ _).2 fun z hz=>XM (ihk z (by have:=Xd hz;omega)) (kW hz);omega
    simp only[dL]
    grind
  have hl:∀(B A:List Val)(c:Nat),A++B=v.values->c<=1099511627776->ak (L177_0 (af pg) ak) [.int .i64 (c:Nat),vals v.values,.int .i64 v.values.length,.int .i64 A.length]=ao (.int .i64 ((max c (dL B)+1:Nat))):=by
   intro B
   induction B with
   |nil=>
    intro A c e hc;simp only[XS]at e;subst e;rw[FL177_0];simp (disch:=omega) [L177_0,dL,aM]
   | cons x B ih2=>
    intro A c e hc;have hll:A.length+(B.length+1)=v.values.length:=by rw[<- e];simp
    have h1:(A.length:Int)<(v.values.length:Int):=ZS
    have hx:v.values[A.length]! = x:=by
     rw[<- e,Xx _ _ ZV];simp
    have hm:x∈v.values:=by rw[<- e];simp
    have hx':v.values[A.length]'(ZS)=x:=by rw[<- hx,Xx]
    have h3:=ih x (by have:=Xd hm;omega) (by have:=Xd hm;omega);have hxb:dO x<=1099511627776:=XM ((hG v.values _).1 (hlv v.values (by have:=v.sz_values;omega)) x hm) (Xz _);have h4:=ih2 (A++[x]) (max c (dO x)) ZU ZS;rw[FL177_0];have hmx:(max (c:Int) (dO x:Int))=((max c (dO x):Nat):Int):=ZS
    simp (disch:=omega) [L177_0,h1,aM,qG,hx',h3,hmx]at h4 |-;rw[h4];simp only[dL]
  rw[C177]
  have:=hl v.values [] 0 rfl ZS
  simp_all[S177,jc]
def t178(f:fF)(e:Exp):af pg 178 [dV f,.ip (aa e.av)]=ao (.bool (f.1== e.s)):=by
 rw[C178];simp[S178,cl,fp]
def SQ(l:List fF)(hl:l.length<=1099511627776)(e:Exp):af pg 175 [ck l,.fn (.func 178) [] [.ip (aa e.av)]]=ao (.int .i64 (lR l e.s)):=
 t175 _ _ l ZS (fun g=>by simp[cl,fp]) (fun f _=>t178 f e)
def Kj(t:Bool)(p:List Mod):AV:=if t=true then(match p with|[]=>.hn|_=>mods p)else mods p
def ta{t:Bool}{p:List Mod}(h:p≠[]):Kj t p=mods p:=by
 cases t with
 |false=>rfl
 |true=>cases p with
  |nil=>grind
  |cons _ _=>rfl
def F7(t:Bool)(w:List Int):AV:=if t=true then .hn else ints w
def rowP(p:List Mod)(t:Bool)(m:Ms)(dv cv sv:AV):List AV:=[Kj t p,F7 t m.world,.int .i64 m.fuel,.int .i64 m.frames,.int .i64 0,.int .i64 0,.int .i64 0,.hn,.hn,dv,cv,sv]
abbrev gZ(p:List Mod)(nm:SNm):=WC (rowP p nm.told) nm
structure LimP (p:List Mod):Prop where
 len:p.length<=1099511627776
 funcs:∀m∈p,m.funcs.length<=1099511627776/\m.vars.length<=1099511627776
def LimP.funcsAt{p:List Mod}(L:LimP p)(i:Nat):(p[i]?.getD default).funcs.length<=1099511627776/\(p[i]?.getD default).vars.length<=1099511627776:=by
 cases h:p[i]? with
 |none=>exact⟨XN _,XN _⟩
 |some m=>exact L.funcs m (X8 h)
theorem p7{α:Type}(F:α->Bool):(l:List α)->(i:Int)->aY F l i= -1\/(i<=aY F l i/\aY F l i<i+l.length)
 |[],i=>.inl rfl
 | x:: l,i=>by
  simp only[aY];split
  ·grind
  ·rcases p7 F l (i+1)with h|h
   all_goals grind
def t78{p:List Mod}{nm:SNm}{m:Ms}{h:Hp}(R:gZ p nm m h)(L:LimP p)(s:aW):af pg 78 [.hp 0 0,.str s] h= .ok (.int .i64 (cV p s)) h:=by
 obtain⟨tag,dv,cv,sv,R⟩:=R;have h0:bb T 22 (.hp 0 (0+0)) h= .ok (Kj nm.told p) h:=bN rfl rfl R.r0 rfl;have hpv:∀f:AV,af pg 136 [Kj nm.told p,f]=af pg 136 [mods p,f]:=fun f=>by
  by_cases hp:p=[]
  ·subst hp;cases nm.told with
   |false=>rfl
   |true=>rw[C136,C136];rfl
  ·rw[ta hp]
 rw[C78];simp only[S78,aJ,ae,FH166_0];rw[ap h0,hpv]
 have:=SO p (by have:=L.len;omega) s
 simp only[oX,this,aj];rfl
def Cm:Option Fun->AV
 |some f=>.tup [f.av,.bool true]
 |none=>.tup [Fun.av default,.bool false]
theorem t79{p:List Mod}{nm:SNm}{m:Ms}{h:Hp}(R:gZ p nm m h)(L:LimP p)(a:Int)(ha:a<p.length)(s:aW):af pg 79 [.hp 0 0,.int .i64 a,.str s] h= .ok (Cm (lU p a s)) h:=by
 obtain⟨tag,dv,cv,sv,R⟩:=R;have h0:p≠[]->bb T 22 (.hp 0 (0+0)) h= .ok (mods p) h:=fun hp=>bN rfl rfl R.r0 (by rw[<- ta (t:=nm.told) hp];rfl);have hz:cG T false 110 []=some (Fun.av default):=rfl;have hzz:∀f:Fun,AV.agg [ab (aa f.av) 0,ab (aa f.av) 1,ab (aa f.av) 2,ab (aa f.av) 3,ab (aa f.av) 4,ab (aa f.av) 5,ab (aa f.av) 6,ab (aa f.av) 7,ab (aa f.av) 8,ab (aa f.av) 9,ab (aa f.av) 10,ab (aa f.av) 11]=f.av:=fun f=>ZV
 have hcf:∀f:Fun,bD 12 [] f.av=ao (.agg (aa f.av)):=fun f=>gh (qj f);have hac:∀f:Fun,aa (.agg (aa f.av))=aa f.av:=fun _=>rfl;rw[C79];unfold lU;simp only[S79,aB,ae,ai];by_cases h1:a<0
 ·simp only[h1,XY,XF,hz,ae,hcf,aj,hac,hzz];rfl
 ·simp only[h1,YO,Xs,Xy,aJ,ae,FH166_0];rw[ap (h0 (fun e=>ZU))];have hi:=Et (l:=p) (n:=a) ZS ha;have hlt:a.toNat<p.length:=ZS
  have e1:p[a.toNat]! = p[a.toNat]?.getD default:=by rw[Xx p a.toNat hlt,XE hlt];rfl
  have hlen:=(L.funcsAt a.toNat).1;have hx:=SP (p[a.toNat]?.getD default).funcs ZS s;generalize hm:p[a.toNat]?.getD default=md at hx hlen e1;rw[hi,e1];simp only[ae,fJ,FA55_4,XQ,XK,LD51,oX,hx,aj,aB,ai];by_cases h2:mY md.funcs s<0
  ·simp only[h2,XY,XF,hz,ae,hcf,aj,hac,hzz];rfl
  ·simp only[h2,YO,Xs,Xy];rcases p7 (fun f=>f.name== s) md.funcs 0 with h3|h3
   ·grind [mY]
   ·have h4:mY md.funcs s<(md.funcs.length:Int):=by unfold mY;omega
    have h5:(mY md.funcs s).toNat<md.funcs.length:=ZS
    rw[Eu ZS h4,Xx md.funcs _ h5,XE h5];have hld:ax T 110 (.ip (aa (md.funcs[(mY md.funcs s).toNat]).av))=some (md.funcs[(mY md.funcs s).toNat]).av:=ZV
    simp only[ae,hld,hcf,aj,hac,hzz];rfl
def ke{α:Type}(p:List Mod)(nm:SNm)(enc:α->AV)(r:Rs α)(c:R AV):Prop:=match r with
 |.ok v s=>∃h',c= .ok (enc v) h'/\gZ p nm s h'
 |.er e s=>∃h',c= .pan (pO e) h'/\gZ p nm s h'
def cI{α β:Type}{p:List Mod}{nm:SNm}{enc:α->AV}{enc':β->AV}{x:X α}{f:α->X β}{c:M AV}{d:AV->M AV}{m:Ms}{h:Hp}(H:ke p nm enc (x m) (c h))(K:∀a s h',x m= .ok a s->gZ p nm s h'->ke p nm enc' (f a s) (d (enc a) h')):ke p nm enc' (x.bind f m) (au c d h):=by
 unfold X.bind;cases hr:x m with
 |ok a s=>
  rw[hr]at H;obtain⟨h',h1,h2⟩:=H;rw[ap h1]
  grind
 |er e s=>
  rw[hr]at H;obtain⟨h',h1,h2⟩:=H;exact⟨h',Dl h1,h2⟩
theorem eW{α:Type}{p:List Mod}{nm:SNm}{enc:α->AV}{a:α}{m:Ms}{h:Hp}(R:gZ p nm m h):ke p nm enc (X.ok a m) (ao (enc a) h):=⟨h,rfl,R⟩
theorem gw{α:Type}{p:List Mod}{nm:SNm}{enc:α->AV}{e:Int}{m:Ms}{h:Hp}(R:gZ p nm m h):ke p nm enc (X.er e m) (jY (pO e) h):=⟨h,rfl,R⟩
def La(v:Val):au (bD 4 [] v.av) (fun w=>ao (AV.agg [ab (aa w) 0,ab (aa w) 1,ab (aa w) 2,ab (aa w) 3]))=ao v.av:=ZV
def kc(m:Ms):Ms:={ m with fuel:=m.fuel-1 }
def Ib{p:List Mod}{nm:SNm}{tag:Nat->Nat}{dv cv sv:AV}{m:Ms}{h:Hp}(R:RepT (rowP p nm.told) nm tag dv cv sv m h):RepT (rowP p nm.told) nm tag dv cv sv (kc m) (h.set 0 (rowP p nm.told (kc m) dv cv sv)):=R.set0 rfl rfl rfl id
def step0{p:List Mod}{nm:SNm}{m:Ms}{h:Hp}(R:gZ p nm m h):∃h1,gZ p nm (kc m) h1/\
  (∀f:AV->M AV,au (bb T 3 (.hp 0 2)) f h=f (.int .i64 m.fuel) h)/\(∀f:AV->M AV,au (bS T 3 (.hp 0 2) (.int .i64 (m.fuel-1))) f h=f (.tup []) h1):=by
 obtain⟨tag,dv,cv,sv,R⟩:=R;refine⟨_,⟨tag,dv,cv,sv,Ib R⟩,fun f=>ap (bN rfl rfl R.r0 rfl),fun f=>ap (bT rfl R.r0 rfl (show 2+1<=12 by decide) ZT)⟩
def GU{p:List Mod}{nm:SNm}{m:Ms}{h:Hp}(R:gZ p nm m h)(hf:¬0<m.fuel)(sc:AV)(e:Exp):af pg 102 [.hp 0 0,sc,e.av] h= .pan (pO 16) h:=by
 obtain⟨tag,dv,cv,sv,R⟩:=R;have h0:∀f:AV->M AV,au (bb T 3 (.hp 0 2)) f h=f (.int .i64 m.fuel) h:=fun f=>ap (bN rfl rfl R.r0 rfl);rw[C102];simp[S102,h0,hf,bo,de,jY]
def rL(e:Exp):Prop:=¬bG e.op= -2/\(bG e.op= -1\/bG e.op=e.args.length)
def Na{p:List Mod}{nm:SNm}{m:Ms}{h:Hp}(R:gZ p nm m h)(G:GoodM p m)(hf:0<m.fuel)(sc:AV)(e:Exp)(hc:¬rL e):∃h1,gZ p nm (kc m) h1/\af pg 102 [.hp 0 0,sc,e.av] h= .pan (pO 13) h1:=by
 obtain⟨h1,R1,hl,hs⟩:=step0 R;refine⟨h1,R1,?_⟩;have hw:IntKind.i64.wrap (m.fuel-1)=m.fuel-1:=aM ZS (by have:=G.bud;simp only[mu]at this;omega);unfold rL at hc;rw[C102];simp[S102,hl,hs,hf,bo,de,hw,t153,hc];rfl
mutual
def bO:Exp->Prop
 |.mk _ _ _ _ ns es=>ns.length<=8796093022208/\es.length<=274877906944/\oe es
def oe:List Exp->Prop
 |[]=>True
 |e:: es=>bO e/\oe es
end
theorem rV:{l:List Exp} ->oe l->∀e∈l,bO e
 |[],_,_,h=>by cases h
 |x:: l,H,e,h=>by
  simp only[oe]at H;rcases X7.1 h with rfl|h
  ·exact H.1
  ·exact rV H.2 e h
def bw{e x:Exp}(H:bO e)(h:x∈e.args):bO x:=by
 obtain⟨o,n,s,m,ns,es⟩:=e;simp only[bO]at H;exact rV H.2.2 x h
def mE{e:Exp}(H:bO e):e.names.length<=8796093022208/\e.args.length<=274877906944:=by
 obtain⟨o,n,s,m,ns,es⟩:=e;simp only[bO]at H;exact⟨H.1,H.2.1⟩
structure LimB (p:List Mod):Prop where
 lim:LimP p
 body:∀m∈p,∀f∈m.funcs,bO f.body/\f.params.length<=274877906944
structure Sc (p:List Mod) (own:Int) (ns:List aW) (vs:List Val) (m:Ms):Prop where
 own:own<p.length
 right:nk ns vs
 len:(ns.length:Int)+m.fuel<=549755813888
def sN(p:List Mod)(nm:SNm)(n:Nat):Prop:=∀own ns vs e m h,gZ p nm m h->GoodM p m->m.fuel<=n->Sc p own ns vs m->bO e->ke p nm Val.av (cM p n own ns vs e m) (af pg 102 [.hp 0 0,bC own ns vs,e.av] h)
def Lc(p:List Mod)(nm:SNm)(n:Nat):Prop:=∀own ns vs e m h,gZ p nm m h->GoodM p m->m.fuel<=n->Sc p own ns vs m->bO e->ke p nm AV.bool (boolX (cM p n own ns vs e) m) (af pg 157 [.hp 0 0,bC own ns vs,e.av] h)
def KE(p:List Mod)(nm:SNm)(n:Nat):Prop:=∀own ns vs e m h,gZ p nm m h->GoodM p m->m.fuel<=n->Sc p own ns vs m->bO e->ke p nm Val.av (mT (cM p n own ns vs) e m) (af pg 158 [.hp 0 0,bC own ns vs,e.av] h)
def Gc(p:List Mod)(nm:SNm)(n:Nat):Prop:=∀own ns vs e m h,gZ p nm m h->GoodM p m->mu m<1000000->m.fuel<=n->Sc p own ns vs m->bO e->ke p nm Val.av (tC p (cM p n) own ns vs e m) (af pg 160 [.hp 0 0,bC own ns vs,e.av] h)
def vI(p:List Mod)(r:Exp->X Val)(own:Int)(e:Exp):X Val:=if e.op=16 then BC (r e.args[0]!) e else C1 p r own e
def Db(p:List Mod)(nm:SNm)(n:Nat):Prop:=∀own ns vs e m h,e.op=16\/e.op=17\/e.op=18->rL e->gZ p nm m h->GoodM p m->mu m<1000000->m.fuel<=n->Sc p own ns vs m->bO e->ke p nm Val.av (vI p (cM p n own ns vs) own e m) (af pg 161 [.hp 0 0,bC own ns vs,e.av] h)
def Sc.less{p:List Mod}{own:Int}{ns:List aW}{vs:List Val}{m s:Ms}(H:Sc p own ns vs m)(h:s.fuel<=m.fuel):Sc p own ns vs s:=⟨H.own,H.right,by have:=H.len;omega⟩
theorem t157{p:List Mod}{nm:SNm}{n:Nat}(IH:sN p nm n):Lc p nm n:=by
 intro own ns vs e m h R G hn hs he;unfold boolX;have hsc:ax T 189 (.ip (aa (bC own ns vs)))=some (bC own ns vs):=rfl;have hex:ax T 108 (.ip (aa e.av))=some e.av:=ZV
 rw[C157];simp only[S157,hsc,hex,ae];refine cI (IH own ns vs e m h R G hn hs he) fun v s h' hv Rs=>?_;simp only[bc (dW v),aj,aI,bK,FA33_0,FA33_1,XK,LD3,ae,aH,bo,de,XQ]
 grind [eW,gw]
theorem xf:∀(ns:List aW)(vs:List Val)(n:aW)(v:Val)(s:aW),ns.length=vs.length->lC (ns++[n]) (vs++[v]) s=if n=s then some v else lC ns vs s
 |[],[],n,v,s,_=>by simp[lC]
 |a:: ns,b:: vs,n,v,s,h=>by
  simp only[Yk,lC,xf ns vs n v s (by simpa using h)]
  grind
 |[],_:: _,_,_,_,h=>by simp at h
 |_:: _,[],_,_,_,h=>by simp at h
def HE(o:Option Val):M AV:=match o with
 |some v=>ao v.av
 |none=>jY (pO 12)
theorem AO(kk:List AV->M AV)(own:Int)(ns:List aW)(vs:List Val)(e:Exp)(x1 x2 x3 x4:AV)(hl:ns.length=vs.length)(hb:ns.length<=1099511627776):∀(i:Nat),i<=ns.length->
  ak (L102_0 (af pg) ak kk) [.hp 0 0,.ip [.int .i64 own,strs ns,vals vs],.ip (aa e.av),.int .i64 ((i:Int)-1),x1,x2,x3,x4]=HE (lC (ns.take i) (vs.take i) e.s)
 |0,_=>by
  have hi:l7 T 30 (.int .i64 12)=some (pO 12):=rfl;rw[FL102_0];simp only[L102_0,am,ar,jq,ae,ai,hi];simp[lC,HE,Kf];rfl
 |i+1,hi=>by
  have ih:=AO kk own ns vs e x1 x2 x3 x4 hl hb i ZS;have h1:i<ns.length:=ZS
  have h2:i<vs.length:=ZS
  have h3:(ns.take (i+1))=ns.take i++[ns[i]]:=ZV
  have h4:(vs.take (i+1))=vs.take i++[vs[i]]:=ZV
  rw[h3,h4,xf _ _ _ _ _ ZX,FL102_0];have e1:((i+1:Nat):Int)-1=(i:Int):=ZS
  rw[e1];simp only[L102_0];simp (disch:=omega) [aM,pI,qG,h1,h2]
  grind [cu,HE]
theorem pR:∀(n:Nat)(e:Exp),cR n e=true->e.Lim->bO e
 |0,e,h,_=>by simp[cR]at h
 | n+1,e,h,hL=>by
  have hs:ij e=true:=by rw[fI,Xu]at h;exact h.1
  have h8:=Dh hs;have hk:∀l:List Exp,(∀x∈l,bO x)->oe l:=by
   intro l
   induction l with
   |nil=>intro _;trivial
   |cons x l ih=>exact fun h=>⟨h x ZV,ih fun y hy=>h y (by simp[hy])⟩
  have ha:oe e.args:=hk _ fun x hx=>pR n x (gA h hx) (hL.kid hx);have hn:=hL.names;obtain⟨o,k,s,m,ns,es⟩:=e;exact⟨hn,by simp only[Exp.args]at h8;omega,ha⟩
def Up:∀(n:Nat)(e:Exp),SizeOf.sizeOf e<=n->e.Lim->∀most:Int,0<=most->most<=1000->∃r:Int,af pg 86 [e.av,.int .i64 most]=ao (.int .i64 r)/\(1<=r/\r<=most+1)/\(r<=most->∀d,(dR d e:Int)<=r):=by
 intro n
 induction n with
 |zero=>
  intro e h;cases e;simp at h
 | succ n ih=>
  intro e hs he most h0 h1;have hlen:=he.len;have hl:∀(k i:Nat),e.args.length-i=k->i<=e.args.length->∀m:Int,1<=m->m<=most+1->(m<=most->∀d,(1:Int)+(((e.args.take i).map (dR d)).sum:Nat)<=m)->∃r:Int,ak (L86_0 (af pg) ak) [.int .i64 most,.ip (aa e.av),.int .i64 m,.int .i64 i]=ao (.int .i64 r)/\(1<=r/\r<=most+1)/\(r<=most->∀d,(1:Int)+((e.args.map (dR d)).sum:Nat)<=r):=by
   intro k
   induction k with
   |zero=>
    intro i hk hi m hm1 hm2 hs;have ht:e.args.take i=e.args:=YE ZS;rw[ht]at hs;rw[FL86_0];have h1:¬((i:Int)<(e.args.length:Int)):=ZS
    exact⟨m,by simp[L86_0,h1],⟨hm1,hm2⟩,hs⟩
   | succ k ihk=>
    intro i hk hi m hm1 hm2 hs;rw[FL86_0];have hlt:i<e.args.length:=ZS
    have h1':(i:Int)<(e.args.length:Int):=ZS
    by_cases hm:m<=most
    ·have hix:=oB (l:=e.args) (n:=(i:Int)) ZS h1';rw[XC,Xx e.args i hlt]at hix;have hm':=XG hlt;have htk:∀d,(e.args.take (i+1)).map (dR d)=(e.args.take i).map (dR d)++[dR d e.args[i]]:=fun d=>by grind [List.take_succ_eq_append_getElem]
     generalize e.args[i]=f at hix hm' htk;have hsz:=vr hm';obtain⟨r,e1,e2,e3⟩:=ih f ZS (he.kid hm') (most-m) ZS ZS;obtain⟨r2,g1,g2,g3⟩:=ihk (i+1) ZS ZS (m+r) ZS ZS (fun h d=>by
      grind)
     have w1:IntKind.i64.wrap (most-m)=most-m:=aM ZS ZS;have w2:IntKind.i64.wrap (m+r)=m+r:=aM ZS ZS;have w3:IntKind.i64.wrap ((i:Int)+1)=((i+1:Nat):Int):=aZ ZS;refine⟨r2,?_,g2,g3⟩;rw[<- g1];simp only[L86_0,am,ar,cu,FA108_5,ae,XQ,XK,LD50,qH,aB,fm,h1',hm,XY,bv,aj,cz,ai,XF,hix,LD108,XX,Yi,XI,Nat.reduceAdd,Xz,Yq,Yl,lS,dY,w1,e1,bm,w2,w3]
    ·exact⟨m,by simp[L86_0,h1',hm],⟨hm1,hm2⟩,fun h=>absurd h hm⟩
  obtain⟨r,e1,e2,e3⟩:=hl e.args.length 0 rfl ZS 1 ZS ZS (fun _ d=>ZV);refine⟨r,?_,e2,fun h d=>?_⟩
  ·grind [C86,S86,tG,yf,nH]
  ·cases d with
   |zero=>simp only[dR];omega
   |succ d=>
    grind [dR]
def BB(P:Prop)(m:M AV):Prop:=∃b,m=ao (.bool b)/\(b=true->P)
def BB.no{P:Prop}:BB P (ao (.bool false)):=⟨false,rfl,fun h=>by cases h⟩
def BB.imp{P Q:Prop}{m:M AV}(h:BB P m)(f:P->Q):BB Q m:=by
 obtain⟨b,h1,h2⟩:=h;exact⟨b,h1,fun hb=>f (h2 hb)⟩
def Uo(e:Exp)(he:e.Lim):BB (∀d,dR d e<=120) (af pg 38 [e.av]):=by
 obtain⟨r,e1,e2,e3⟩:=Up _ e (Xz _) he 120 ZS ZS;obtain⟨b,hb⟩:=Q5 _ e (Xz _) he;rw[C38];by_cases h:r<=120
 ·exact⟨b,by simp[S38,e1,hb,h],fun _ d=>ZU⟩
 ·exact⟨false,by simp[S38,e1,h],fun h=>by cases h⟩
def yw{F:(List AV->M AV)->List AV->M AV}(hF:∀vs,ak F vs=F (ak F) vs)(st:Nat->List AV)(n c:Nat){E:M AV}{P:Prop}{R:Nat->Prop}(hE:BB P E)(hexit:∀k,k<=n->(k=n\/c<k)->F (ak F) (st k)=E)(hstep:∀k,k<n->k<=c->∃b:Bool,F (ak F) (st k)=(if b=true then ak F (st (k+1))else ao (.bool false))/\(b=true->R k)):BB (P/\∀k,k<n->k<=c->R k) (ak F (st 0)):=by
 have key:∀d k,n-k=d->k<=n->BB (P/\∀j,k<=j->j<n->j<=c->R j) (ak F (st k)):=by
  intro d
  induction d with
  |zero=>
   intro k hd hk;rw[hF,hexit k hk (.inl ZS)];exact hE.imp fun h=>⟨h,fun j _ _ _=>ZS⟩
  | succ d ih=>
   intro k hd hk;by_cases hc:c<k
   ·rw[hF,hexit k hk (.inr hc)];exact hE.imp fun h=>⟨h,fun j _ _ _=>ZS⟩
   ·obtain⟨b,e,hr⟩:=hstep k ZS ZS;rw[hF,e];cases b with
    |false=>exact .no
    |true=>
     rw[Xv rfl];refine (ih (k+1) ZS ZS).imp fun h=>⟨h.1,fun j h1 h2 h3=>?_⟩
     grind
 grind
section
variable (m:Ap.Mod) (f:Fun)
theorem U4:ah T 55 (.ip (aa m.av)) 0=some (.ip ((aa m.av).drop 0)):=rfl
theorem Rp:ah T 55 (.ip (aa m.av)) 1=some (.ip ((aa m.av).drop 1)):=rfl
theorem U5:ah T 55 (.ip (aa m.av)) 2=some (.ip ((aa m.av).drop 2)):=rfl
theorem U6:ah T 55 (.ip (aa m.av)) 3=some (.ip ((aa m.av).drop 3)):=rfl
theorem Nq:ah T 55 (.ip (aa m.av)) 4=some (.ip ((aa m.av).drop 4)):=rfl
theorem U7:ah T 55 (.ip (aa m.av)) 6=some (.ip ((aa m.av).drop 6)):=rfl
theorem U1:ah T 53 (.ip ((aa m.av).drop 6)) 0=some (.ip ((aa m.av).drop 6)):=rfl
theorem U2:ah T 53 (.ip ((aa m.av).drop 6)) 1=some (.ip ((aa m.av).drop 7)):=rfl
theorem U3:ah T 53 (.ip ((aa m.av).drop 6)) 2=some (.ip ((aa m.av).drop 8)):=rfl
theorem Ve:ax T 9 (.ip ((aa m.av).drop 0))=some (.str m.name):=rfl
theorem Rr:ax T 31 (.ip ((aa m.av).drop 1))=some (strs m.uses):=rfl
theorem Vf:ax T 49 (.ip ((aa m.av).drop 2))=some (ck m.vars):=rfl
theorem Vg:ax T 50 (.ip ((aa m.av).drop 3))=some (dF m.init):=rfl
theorem Nt:ax T 51 (.ip ((aa m.av).drop 4))=some (iP m.funcs):=rfl
theorem Vh:ax T 49 (.ip ((aa m.av).drop 6))=some (ck m.old):=rfl
theorem Vi:ax T 50 (.ip ((aa m.av).drop 7))=some (dF m.forward):=rfl
theorem Vj:ax T 50 (.ip ((aa m.av).drop 8))=some (dF m.back):=rfl
theorem WJ:ax T 55 (.ip (aa m.av))=some m.av:=rfl
theorem UX:ah T 110 (.ip (aa f.av)) 0=some (.ip ((aa f.av).drop 0)):=rfl
theorem UY:ah T 110 (.ip (aa f.av)) 2=some (.ip ((aa f.av).drop 2)):=rfl
theorem UZ:ah T 110 (.ip (aa f.av)) 3=some (.ip ((aa f.av).drop 3)):=rfl
theorem U0:ah T 110 (.ip (aa f.av)) 5=some (.ip ((aa f.av).drop 6)):=rfl
theorem U9:ax T 9 (.ip ((aa f.av).drop 0))=some (.str f.name):=ZW
theorem Va:ax T 49 (.ip ((aa f.av).drop 2))=some (ck f.params):=ZW
theorem Vb:ax T 106 (.ip ((aa f.av).drop 3))=some f.result.av:=ZW
theorem Vd:ax T 108 (.ip ((aa f.av).drop 6))=some f.body.av:=ZW
theorem WI:ax T 110 (.ip (aa f.av))=some f.av:=ZW
theorem WH:cg 12 f.av=ao (.agg (aa f.av)):=bc (qj f)
end
theorem Vk(s:aW):ax T 9 (.ip (aa (.str s)))=some (.str s):=rfl
theorem Cu(s:aW):bp T 9 (.str s)=some (.int .i64 s.length):=rfl
def Un(m:Ap.Mod)(hm:m.Lim):BB (∀f∈m.funcs,∀d,dR d f.body<=120) (af pg 18 [m.av]):=by
 have u1:=hm.uses;have f1:=hm.funcs;obtain⟨b1,e1⟩:=Nf m.vars hm.vars hm.vty;obtain⟨b2,e2⟩:=Ng m.init hm.init hm.ies;obtain⟨b3,e3⟩:=Nf m.old hm.old hm.oty;obtain⟨b4,e4⟩:=Ng m.forward hm.forward hm.fes;obtain⟨b5,e5⟩:=Ng m.back hm.back hm.bes;have lu:bp T 31 (strs m.uses)=some (.int .i64 m.uses.length):=iB _;have lf:bp T 51 (iP m.funcs)=some (.int .i64 m.funcs.length):=Gg _;have base:∀k:Nat,k<=m.uses.length->(k=m.uses.length\/14<k)->L18_0 (af pg) ak (ak (L18_0 (af pg) ak)) [.ip (aa m.av),.int .i64 (k:Int)]=
   ao (.bool (decide ((m.name.length:Int)<=30)&&decide ((m.uses.length:Int)<=14)&&decide ((m.funcs.length:Int)<=8)&&b1&&b2&&b3&&b4&&b5)):=by
  intro k hk h;have hg:(decide ((k:Int)<(m.uses.length:Int))&&decide ((k:Int)<=14))=false:=by
   rw[YQ,X2,X2];omega
  simp -implicitDefEqProofs only[L18_0,am,ar,Rp,Rr,lu,ae,aB,fm,aE,aj,bg,hg,ai,Xs,Xy,U4,Ve,Cu,Nq,Nt,lf,U5,Vf,e1,U6,Vg,e2,U7,U1,Vh,e3,U2,Vi,e4,U3,Vj,e5]
 have hE:BB (m.funcs.length<=8) (ak (L18_0 (af pg) ak) [.ip (aa m.av),.int .i64 0]):=
  (yw (FL18_0 (af pg)) (fun k=>[.ip (aa m.av),.int .i64 (k:Int)]) m.uses.length 14 (R:=fun _=>True) (P:=m.funcs.length<=8) ⟨_,rfl,fun h=>by
   grind⟩ base (fun k hk hc=>by
   have h1:(k:Int)<(m.uses.length:Int):=ZS
   have h2:(k:Int)<=14:=ZS
   have hix:=pI (l:=m.uses) (n:=(k:Int)) ZS h1;have hw:IntKind.i64.wrap ((k:Int)+1)=((k+1:Nat):Int):=aZ ZS;generalize m.uses[(k:Int).toNat]! = s at hix;refine⟨!(decide (30<(s.length:Int))),?_,fun _=>trivial⟩;simp -implicitDefEqProofs only[L18_0,am,ar,Rp,Rr,lu,ae,aB,fm,aE,aj,bg,h1,h2,XY,Yz,ai,XF,hix,Vk,Cu,dq,bm,hw]
   grind)).imp fun h=>h.1
 rw[C18,show cl aF m.av=m.av by simp];obtain⟨b,hb,hP⟩:=yw (FL18_1 (af pg)) (fun k=>[.ip (aa m.av),.int .i64 (k:Int)]) m.funcs.length 8 (R:=fun k=>∀d,dR d (m.funcs[k]!).body<=120) hE (fun k hk h=>by
  have hg:(decide ((k:Int)<(m.funcs.length:Int))&&decide ((k:Int)<=8))=false:=by
   rw[YQ,X2,X2];omega
  simp -implicitDefEqProofs only[L18_1,am,ar,Nq,Nt,lf,ae,aB,fm,aE,aj,bg,hg,ai,Xs,Xy]) (fun k hk hc=>by
  have h1:(k:Int)<(m.funcs.length:Int):=ZS
  have h2:(k:Int)<=8:=ZS
  have hix:=Eu (l:=m.funcs) (n:=(k:Int)) ZS h1;have hw:IntKind.i64.wrap ((k:Int)+1)=((k+1:Nat):Int):=aZ ZS;rw[XC]at hix;have hmem:m.funcs[k]! ∈m.funcs:=by rw[Xx m.funcs k hk];exact XG hk
  have hf:=hm.fns _ hmem;generalize m.funcs[k]! = f at hix hf;obtain⟨c1,g1⟩:=Nf f.params hf.params hf.pty;obtain⟨c2,g2⟩:=Q4 f.result hf.result;obtain⟨c3,g3,g4⟩:=Uo f.body hf.body;refine⟨!(decide (30<(f.name.length:Int))||!c1||!c2||!c3),?_,fun h=>?_⟩
  ·simp -implicitDefEqProofs only[L18_1,am,ar,Nq,Nt,lf,ae,aB,fm,aE,aj,bg,h1,h2,XY,Yz,ai,XF,hix,WI,WH,aI,UX,U9,Cu,dq,UY,Va,g1,bi,eB,UZ,Vb,g2,U0,Vd,g3,bm,hw]
   grind
  grind)
 refine⟨b,?_,fun h f hf d=>?_⟩
 ·grind [S18,fA]
 ·obtain⟨q1,q2⟩:=hP h;obtain⟨k,hk,rfl⟩:=YV hf
  have:=q2 k hk ZS d
  grind
theorem t5(p:List Ap.Mod)(hp:p.length<=140737488355328)(hL:∀m∈p,m.Lim):BB (p.length<=4/\∀m∈p,∀f∈m.funcs,∀d,dR d f.body<=120) (af pg 5 [mods p]):=by
 have lm:bp T 22 (mods p)=some (.int .i64 p.length):=by
  have h:bp T 22 (mods p)=some (.int .i64 (p.map Mod.av).length):=rfl;rw[h,Yy]
 rw[C5,show cl aF (mods p)=mods p by simp];obtain⟨b,hb,hP⟩:=yw (FL5_0 (af pg)) (fun k=>[mods p,.int .i64 (k:Int)]) p.length 4 (E:=ao (.bool (decide ((p.length:Int)<=4)))) (P:=p.length<=4) (R:=fun k=>∀f∈(p[k]!).funcs,∀d,dR d f.body<=120) ⟨_,rfl,fun h=>by
  grind⟩ (fun k hk h=>by
  have hg:(decide ((k:Int)<(p.length:Int))&&decide ((k:Int)<=4))=false:=by
   rw[YQ,X2,X2];omega
  simp -implicitDefEqProofs only[L5_0,am,ar,lm,ae,aB,fm,aE,aj,bg,hg,ai,Xs,Xy]) (fun k hk hc=>by
  have h1:(k:Int)<(p.length:Int):=ZS
  have h2:(k:Int)<=4:=ZS
  have hix:=br (T:=T) (t:=22) (e:=55) (f:=Mod.av) (l:=p) (n:=(k:Int)) rfl rfl rfl (fun _=>rfl) ZS h1;rw[XC]at hix;have hix:aA T 22 (mods p) (.int .i64 (k:Int))=some (.ip (aa (Mod.av p[k]!))):=hix;have hw:IntKind.i64.wrap ((k:Int)+1)=((k+1:Nat):Int):=aZ ZS;have hmem:p[k]! ∈p:=by rw[Xx p k hk];exact XG hk
  have hl:=hL _ hmem;generalize p[k]! = m at hix hl;obtain⟨b,e,q⟩:=Un m hl;refine⟨b,?_,q⟩;simp -implicitDefEqProofs only[L5_0,am,ar,lm,ae,aB,fm,aE,aj,bg,h1,h2,XY,Yz,ai,XF,hix,WJ,e,bi,bm,hw];cases b<;>rfl)
 refine⟨b,?_,fun h=>⟨(hP h).1,fun m hm=>?_⟩⟩
 ·grind [S5,fA]
 ·obtain⟨q1,q2⟩:=hP h;obtain⟨k,hk,rfl⟩:=YV hm
  have:=q2 k hk ZS
  grind
end Go.Proofs.YtbndmpiddinalabGreatDoor
namespace Go.Proofs.YtbndmpiddinalabGreatDoor
open Go Go.Av Go.Av.Ap Go.RowKit
set_option maxRecDepth 1000000
def BA(l:List Val):Prop:=l.length<=140737488355328/\∀v∈l,v.Lim
structure Proc.Lim (p:Proc):Prop where
 mods:p.mods.length<=140737488355328/\∀m∈p.mods,m.Lim
 state:p.state.length<=140737488355328/\∀w∈p.state,BA w.values
 frames:p.frames.length<=140737488355328/\∀f∈p.frames,BA f.locals/\BA f.stack
 world:p.world.length<=140737488355328
 value:p.out.value.Lim
 deeds:p.out.deeds.length<=140737488355328
 calls:p.out.calls.length<=140737488355328/\∀c∈p.out.calls,BA c.args
 ostate:p.out.state.length<=140737488355328/\∀w∈p.out.state,BA w.values
section
variable {H:Type} {enc:TypeId×Value->H} {W:World}
end
end Go.Proofs.YtbndmpiddinalabGreatDoor
namespace Go.Proofs.YtbndmpiddinalabGreatDoor
open Go Go.Av Go.Av.Ap
set_option maxRecDepth 100000
def Ld(F:Int->Prop)(most:Int)(m:M AV):Prop:=∃n,m=ao (.int .i64 n)/\1<=n/\n<=most+1/\(n<=most->F n)
def Gi(e:Val):Prop:=∀most:Int,0<=most->most<=1000->Ld (fun n=>(e.sz:Int)<=140737488355341*n) most (af pg 19 [e.av,.int .i64 most])
def NH(e:Val)(hL:e.Lim)(ih:∀x∈e.values,Gi x)(most:Int)(h0:0<=most)(h1:most<=1000):
  ∀(r:Nat)(n i:Int),e.values.length-i.toNat=r->0<=i->i<=e.values.length->1<=n->n<=most+1->Ld (fun k=>(db (e.values.drop i.toNat):Int)<=140737488355341*(k-n)) most (ak (L19_0 (af pg) ak) [.int .i64 most,.ip (aa e.av),.int .i64 n,.int .i64 i]):=by
 intro r
 induction r with
 |zero=>
  intro n i hr hi hb hn hm;rw[FL19_0];simp only[L19_0];have h1:¬(i<(e.values.length:Int)):=ZS
  simp[h1];exact⟨n,rfl,hn,hm,fun h=>by grind [List.drop_eq_nil_of_le,db]⟩
 | succ r IH=>
  intro n i hr hi hb hn hm;have hlen:=hL.len;have h5:i<(e.values.length:Int):=ZS
  have hlt:i.toNat<e.values.length:=ZS
  by_cases hs:n<=most
  ·obtain⟨k,hk,hk1,hk2,hk3⟩:=ih e.values[i.toNat] (XG hlt) (most-n) ZS ZS;obtain⟨n',q1,q2,q3,q4⟩:=IH (n+k) (i+1) ZS ZS ZS ZS ZS;have h4:Ld (fun k=>(db (e.values.drop i.toNat):Int)<=140737488355341*(k-n)) most (ak (L19_0 (af pg) ak) [.int .i64 most,.ip (aa e.av),.int .i64 (n+k),.int .i64 (i+1)]):=by
    by_cases hk4:k<=most-n
    ·refine⟨n',q1,q2,q3,fun h=>?_⟩
     grind [List.drop_eq_getElem_cons,db]
    ·have hstop:ak (L19_0 (af pg) ak) [.int .i64 most,.ip (aa e.av),.int .i64 (n+k),.int .i64 (i+1)]=ao (.int .i64 (n+k)):=by
      rw[FL19_0];simp only[L19_0];have h6:¬(n+k<=most):=ZS
      simp[h6]
     exact⟨n+k,hstop,ZS,ZS,fun h=>ZS⟩
   rw[FL19_0];simp only[L19_0];simp (disch:=omega) [h5,hs,qG,Xx e.values i.toNat hlt,aM,hk];simpa using h4
  ·rw[FL19_0];simp only[L19_0];simp[h5,hs];exact⟨n,rfl,hn,hm,fun h=>absurd h hs⟩
def IU{e x:Val}(h:x∈e.values):SizeOf.sizeOf x<SizeOf.sizeOf e:=by
 cases e with
 |mk k n ns vs=>
  have h1:=Zl h;have h3:SizeOf.sizeOf x<SizeOf.sizeOf vs:=h1
  grind
def t19:∀(N:Nat)(e:Val),SizeOf.sizeOf e<=N->e.Lim->Gi e:=by
 intro N
 induction N with
 |zero=>intro e he;cases e;simp at he
 |succ N ih=>
  intro e he hL most h0 h1;rw[C19];obtain⟨n,hn,b1,b2,b3⟩:=NH e hL (fun x hx=>ih x (by have:=IU hx;omega) (hL.kid hx)) most h0 h1 e.values.length 1 0 rfl ZS ZS ZS ZS;simp at hn;simp[S19];rw[hn,nH];refine⟨n,rfl,b1,b2,fun h=>?_⟩;have e1:=b3 h;have e2:e.sz=1+e.names.length+db e.values:=by cases e;rfl
  have e3:=hL.names
  grind
def T7(n:Nat)(l:List Val):Prop:=l.length<=n/\∀v∈l,v.sz<=4611686018427387904/\v.names.length<=20
def t6(l:List Val)(n:Nat)(hn:n<=1000)(hL:BA l):BB (T7 n l) (af pg 6 [vals l,.int .i64 (n:Int)]):=by
 have hl:=hL.1;have lv:bp T 23 (vals l)=some (.int .i64 l.length):=nf _;rw[C6,show cl aF (vals l)=vals l by simp,show cl aF (.int .i64 (n:Int))= .int .i64 (n:Int)from rfl];obtain⟨b,hb,hP⟩:=yw (FL6_0 (af pg)) (fun k=>[vals l,.int .i64 (n:Int),.int .i64 (k:Int)]) l.length n (E:=ao (.bool (decide ((l.length:Int)<=(n:Int))))) (P:=l.length<=n) (R:=fun k=>(l[k]!).sz<=4611686018427387904/\(l[k]!).names.length<=20) ⟨_,rfl,fun h=>by
  grind⟩ (fun k hk h=>by
  have hg:(decide ((k:Int)<(l.length:Int))&&decide ((k:Int)<=(n:Int)))=false:=by
   rw[YQ,X2,X2];omega
  simp -implicitDefEqProofs only[L6_0,am,ar,lv,ae,aB,fm,aE,aj,bg,hg,ai,Xs,Xy]) (fun k hk hc=>by
  have h1:(k:Int)<(l.length:Int):=ZS
  have h2:(k:Int)<=(n:Int):=ZS
  have hix:=qG (l:=l) (n:=(k:Int)) ZS h1;rw[XC]at hix;have hw:IntKind.i64.wrap ((k:Int)+1)=((k+1:Nat):Int):=aZ ZS;have hmem:l[k]! ∈l:=by rw[Xx l k hk];exact XG hk
  have hl:=hL.2 _ hmem;generalize l[k]! = v at hix hl;obtain⟨s,hs,s1,s2,s3⟩:=t19 _ v (Xz _) hl 100 ZS ZS;have ls:bp T 31 (strs v.names)=some (.int .i64 v.names.length):=iB _;have lV:ax T 33 (.ip (aa v.av))=some v.av:=by cases v;rfl
  have fV:ah T 33 (.ip (aa v.av)) 2=some (.ip ((aa v.av).drop 2)):=by cases v;rfl
  have gV:ax T 31 (.ip ((aa v.av).drop 2))=some (strs v.names):=by cases v;rfl
  refine⟨!(decide (100<s)||decide (20<(v.names.length:Int))),?_,fun h=>?_⟩
  ·simp -implicitDefEqProofs only[L6_0,am,ar,lv,ae,aB,fm,aE,aj,bg,h1,h2,XY,Yz,ai,XF,hix,lV,hs,dq,fV,gV,ls,eB,bm,hw]
   grind
  grind)
 refine⟨b,?_,fun h=>⟨(hP h).1,fun v hv=>?_⟩⟩
 ·grind [S6,fA]
 ·obtain⟨q1,q2⟩:=hP h;obtain⟨k,hk,rfl⟩:=YV hv
  grind
section
variable (p:Proc)
theorem Rq:ah T 39 (.ip (aa p.av)) 3=some (.ip ((aa p.av).drop 3)):=rfl
theorem R9:ax T 24 (.ip ((aa p.av).drop 3))=some (ints p.world):=rfl
theorem UU:ah T 37 (.ip ((aa p.av).drop 4)) 2=some (.ip ((aa p.av).drop 9)):=rfl
theorem UV:ah T 37 (.ip ((aa p.av).drop 4)) 3=some (.ip ((aa p.av).drop 10)):=rfl
theorem VG:ax T 34 (.ip ((aa p.av).drop 9))=some (deeds p.out.deeds):=rfl
theorem VH:ax T 35 (.ip ((aa p.av).drop 10))=some (calls p.out.calls):=rfl
variable (c:Ap.Call)
theorem UK:ah T 126 (.ip (aa c.av)) 2=some (.ip ((aa c.av).drop 2)):=rfl
theorem Vq:ax T 23 (.ip ((aa c.av).drop 2))=some (vals c.args):=rfl
end
def KW(l:List Ap.Call):bp T 35 (calls l)=some (.int .i64 l.length):=by
 simp_all
def DR(l:List Deed):bp T 34 (deeds l)=some (.int .i64 l.length):=by
 simp_all
def DT(l:List Int):bp T 24 (ints l)=some (.int .i64 l.length):=by
 simp_all
end Go.Proofs.YtbndmpiddinalabGreatDoor
