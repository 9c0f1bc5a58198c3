/- What the functions compute, part 7. Conditions: bounds. -/
import Derived.Test.YtbndmpiddinalaaGreatDoorTf
set_option linter.defProp false
set_option linter.unusedSimpArgs false
set_option linter.unusedVariables false
namespace Go.Proofs.YtbndmpiddinalaaGreatDoor
open Go Go.Av Go.Av.Ap
set_option maxRecDepth 100000
section
variable (x:Fnc)
theorem fX1:ah T 76 (.ip (aa x.av)) 1=some (.ip ((aa x.av).drop 1)):=rfl
theorem fX2:ah T 76 (.ip (aa x.av)) 2=some (.ip ((aa x.av).drop 2)):=rfl
theorem Wn:ax T 4 (.ip ((aa x.av).drop 1))=some (.bool x.pub):=rfl
theorem Rf:ah T 74 (.ip ((aa x.av).drop 2)) 0=some (.ip (((aa x.av).drop 2).drop 0)):=rfl
theorem Nq:ah T 74 (.ip ((aa x.av).drop 2)) 1=some (.ip (((aa x.av).drop 2).drop 1)):=rfl
theorem Nr:ah T 74 (.ip ((aa x.av).drop 2)) 2=some (.ip (((aa x.av).drop 2).drop 2)):=rfl
theorem Sf:ax T 9 (.ip (((aa x.av).drop 2).drop 0))=some (.str x.cod.func):=rfl
theorem NI:ax T 3 (.ip (((aa x.av).drop 2).drop 1))=some (.int .i64 x.cod.params):=rfl
theorem NJ:ax T 3 (.ip (((aa x.av).drop 2).drop 2))=some (.int .i64 x.cod.locals):=rfl
end
def de.shape{tag:Nat->Nat}{h:Hp}{k:Nat}{l:List Val}{v:AV}(H:de tag k h l v):v= .hn\/v= .he\/∃r,v= .hs r 0 l.length 4 true:=by
 rcases H with⟨_,h,_⟩|⟨r,_,_,h,_⟩
 all_goals grind
def Gr{tag:Nat->Nat}{h:Hp}{k:Nat}{l:List Val}(f:Frm){lv:AV}(hf:f.pc=0)(H:de tag k h l lv):cE T true 62 [(0,.str f.mod),(1,.str f.fn),(3,lv)]=some (.agg (iO f lv .hn)):=by
 unfold iO;rw[hf];rcases de.shape H with rfl|rfl|⟨r,rfl⟩<;>rfl
theorem EH(f:Frm)(lv sv:AV):aP T 29 1 [(0,.agg (iO f lv sv))]=some (.sl [.agg (iO f lv sv)]):=rfl
def EF{tag:Nat->Nat}{h:Hp}{k:Nat}{l:List Val}(a b:aW){av:AV}(H:de tag k h l av):cE T false 127 [(0,.str a),(1,.str b),(2,av)]=some (.agg [.str a,.str b,av]):=by
 rcases de.shape H with rfl|rfl|⟨r,rfl⟩<;>rfl
theorem BL(a b:aW)(av:AV):aP T 35 1 [(0,.agg [.str a,.str b,av])]=some (.sl [.agg [.str a,.str b,av]]):=rfl
def Gt(v:Val):aP T 23 1 [(0,v.av)]=some (.sl [v.av]):=by cases v;rfl
def uy{Q:StP}{L:MLay}{sv fv dv cv:AV}{vc:List AV}{p:Proc}(mod:aW)(x:Fnc)(hfb:p.frames.length<1000000)(hlb:x.cod.locals<=1000000):∀(m:Nat)(args:List Val)(tag:Nat->Nat)(h:Hp)(av:AV),MRG Q L tag sv fv dv cv vc p h->de tag (11+3*p.frames.length) h args av->
  x.cod.locals.toNat-args.length=m->args.length<=1000000->
  ∃h',ak (L24_0 (af pg) ak) [.hp L.rm 0,.str mod,av,.ip (aa x.av)] h= .ok (.tup []) h'/\O6 Q L sv { p with frames:=p.frames++[⟨mod,x.cod.func,0,args++List.replicate m (cp 0),[]⟩] } h'
 | 0,args,tag,h,av,H,V,hm,hb=>by
  have h1:¬((args.length:Int)<x.cod.locals):=ZL
  have g1:bb T 29 (.hp L.rm (0+0+2)) h= .ok fv h:=H.get (T:=T) (t:=29) rfl rfl rfl;obtain⟨h2,tag2,fv2,e2,_,o1,o2,r2,R2⟩:=H.frame (T:=T) (t:=29) (e:=62) rfl rfl rfl rfl rfl ZM ⟨mod,x.cod.func,0,args,[]⟩ V (stv:=.hn) (.inl ⟨rfl,.inl rfl,rfl⟩) (XM (Xy _ (show p.frames.length+1<=1000000 by omega)) ZM);have s1:bU T 29 (.hp L.rm (0+0+2)) fv2 h2= .ok (.tup []) (h2.set L.rm (fC L p sv fv2 dv cv vc)):=by
   rw[bX (T:=T) (t:=29) rfl r2 o1 (by rw[lW H.vo.len];decide) ZM,o2,NQ]
  have bf:=Gr ⟨mod,x.cod.func,0,args,[]⟩ rfl V;rw[List.replicate_zero,XN];refine⟨_,?_,⟨tag2,_,_,_,_,R2⟩⟩;rw[FL24_0];simp -implicitDefEqProofs only[L24_0,ao,au,de.len V,ae,fX2,Nr,NJ,aB,ai,Xp,Xn h1,aJ,FH81_0,FH39_2];rw[ap g1];simp -implicitDefEqProofs only[fX2,Rf,Sf,ae];rw[bf,ae,EH,ae,ap e2,ap s1];rfl
 | m+1,args,tag,h,av,H,V,hm,hb=>by
  have h1:(args.length:Int)<x.cod.locals:=ZL
  obtain⟨cs,tag2,rfl,hcl,happ,K,_,HS⟩:=fX.push (T:=T) (t:=23) (e:=33) rfl rfl rfl rfl ZM rfl ZM V (dV (cp 0)) (XM (Xy _ (show args.length+1<=10000000 by omega)) ZM);have H2:=H.keep K fun k hk=>.inl hk;have V2:de tag2 (11+3*p.frames.length) (oF av h++[aw args++aa (cp 0).av]) (args++[cp 0]) (.hs h.length 0 (args.length+1) 4 true):=by
   have:=fX.mono (c':=fun cs=>cs=aw (args++[cp 0])) (fun cs h=>by rw[h,kl];simp[aw]) HS
   simpa [de]using this
  obtain⟨h',k1,k2⟩:=uy mod x hfb hlb m (args++[cp 0]) tag2 _ _ H2 V2 ZQ ZQ;rw[Yd,show[cp 0]++List.replicate m (cp 0)=List.replicate (m+1) (cp 0)from rfl]at k2;refine⟨h',?_,k2⟩;rw[FL24_0];simp -implicitDefEqProofs only[L24_0,ao,au,de.len V,ae,fX2,Nr,NJ,aB,ai,Xp,Xr h1,t50,aj,Gt];rw[ap happ];exact k1
def t24{Q:StP}{L:MLay}{tag:Nat->Nat}{sv fv dv cv:AV}{vc:List AV}{p:Proc}{h:Hp}(H:MRG Q L tag sv fv dv cv vc p h)(mod:aW)(x:Fnc){args:List Val}{av:AV}(V:de tag (11+3*p.frames.length) h args av)(hfb:p.frames.length<1000000)(hlb:x.cod.locals<=1000000)(hab:args.length<=1000000)(hcb:p.out.calls.length<1000000):
  ∃h',af pg 24 [.hp L.rm 0,.str mod,x.av,av] h= .ok (.tup []) h'/\O6 Q L sv (FV p p.frames mod x args) h':=by
 have go:∀ {tag:Nat->Nat} {sv fv dv cv:AV} {vc:List AV} {p:Proc} {h:Hp},MRG Q L tag sv fv dv cv vc p h->de tag (11+3*p.frames.length) h args av->p.frames.length<1000000->
   ∃h',K24_0 (af pg) ak [.hp L.rm 0,.str mod,av,.ip (aa x.av)] h= .ok (.tup []) h'/\O6 Q L sv { p with frames:=p.frames++[⟨mod,x.cod.func,0,args++List.replicate (x.cod.locals.toNat-args.length) (cp 0),[]⟩] } h':=fun H V hfb=>by
  obtain⟨h',k1,k2⟩:=uy mod x hfb hlb _ args _ _ av H V rfl hab;exact⟨h',k1,k2⟩
 generalize hc:af pg 24 [.hp L.rm 0,.str mod,x.av,av] h=code;rw[C24,S24]at hc;simp -implicitDefEqProofs only[jn,fX1,Wn,ae,ai]at hc;unfold FV;cases hp:x.pub with
 |false=>
  rw[hp]at hc;simp only[Xo,Xu]at hc |-;obtain⟨h',k1,k2⟩:=go H V hfb;exact⟨h',hc.symm.trans k1,k2⟩
 | true=>
  rw[hp]at hc;simp only[XA]at hc |-;have g1:bb T 35 (.hp L.rm (0+0+4+6)) h= .ok cv h:=H.get (T:=T) (t:=35) rfl rfl (nZ H.vo.len 1);obtain⟨h1,tag1,rv,e1,K1,V1⟩:=tw (T:=T) (t:=23) (e:=33) rfl rfl rfl rfl rfl ZM (af pg) V (XM (Xy _ hab) ZM) 4;have H1:=H.keep K1 fun k hk=>hk.elim;obtain⟨h2,tag2,cv2,e2,K2,o1,o2,r2,R2⟩:=H1.call (T:=T) (t:=35) (e:=127) rfl rfl rfl rfl rfl ZM ⟨mod,x.cod.func,args⟩ (.inr V1) (XM (Xy _ (show p.out.calls.length+1<=1000000 by omega)) ZM);have s1:bU T 35 (.hp L.rm (0+0+4+6)) cv2 h2= .ok (.tup []) (h2.set L.rm (fC L p sv fv dv cv2 vc)):=by
   rw[bX (T:=T) (t:=35) rfl r2 o1 (by rw[lW H.vo.len];decide) ZM,o2,J3 H.vo.len]
  have K3:Kp tag2 tag2 (fun k=>k=0) h2 (h2.set L.rm (fC L p sv fv dv cv2 vc)):=W8 R2.tm _;have V3:=((V.keep K1 id).keep K2 ZL).keep K3 ZL;obtain⟨h',k1,k2⟩:=go R2 V3 hfb;refine⟨h',?_,k2⟩;rw[<- hc];simp -implicitDefEqProofs only[aJ,ae,FH81_0,FH39_4,FH37_3];rw[ap g1];simp -implicitDefEqProofs only[fX2,Rf,Sf,ae];rw[ap ((xI av h).trans e1),EF _ _ V1,ae,BL,ae,ap e2,ap s1];exact k1
def zD{α:Type}(n m b:Bool)(k:AV->M α):
  ar (aM (.bool n) false 1 (am [.bool m])) (fun v17=>ar (aM (ab v17 0) true 1 (am [.bool b])) fun v21=>ar (aM (.bool n) false 1 (ar (bP (gp (ab v17 0) (ab v21 0) (.bool false))) fun v22=>am [v22])) fun v23=>
   ar (bP (gp (.bool n) (.bool true) (ab v23 0))) k)=k (.bool (n||m&&b)):=by
 simp_all
theorem wx(a b:aW):cE T false 83 [(0,.str a),(1,.str b)]=some (.agg [.str a,.str b]):=rfl
theorem So(x:Fnc):bT 7 x.av=true:=rfl
theorem Jf{L:MLay}{tag:Nat->Nat}{sv dv cv:AV}{vc:List AV}{p:Proc}{h:Hp}{q:Nat}{fs:List Frm}{f:Frm}{A B:List AV}{lv stv:AV}(H:MR L tag sv (.hs q 0 (fs.length+1) 5 true) dv cv vc p h)(M:MapOk T 78 79 L p.mods)(hA:eh tag h 0 fs A)(F:FrAt tag h q A B fs.length f lv stv)(hB:B.all ay=true)(i:Ins)(mod:aW)(hb:f.stack.length<=1000000)(hcb:p.out.calls.length<1000000)(ha:0<=i.a/\i.a<=f.stack.length)(hlb:∀x,fh p.mods mod i.s=some x->x.cod.locals<=1000000):
  match (match fh p.mods mod i.s with
   |none=>(.error 12:Except Int Proc)
   |some x=>if i.m≠[]/\x.pub=false then .error 12
    else if x.cod.params≠i.a then .error 13
    else if 60<=fs.length+1 then .error 6
    else .ok (FV p (fs++[{ f with stack:=f.stack.take (f.stack.length-i.a.toNat) }]) mod x (f.stack.drop (f.stack.length-i.a.toNat))))with
  |.ok p'=>∃h',K121_0 (af pg) ak [.hp L.rm 0,.hp q A.length,.ip (aa i.av),.str mod] h= .ok (.int .i64 0) h'/\vI L p' h'
  |.error e=>K121_0 (af pg) ak [.hp L.rm 0,.hp q A.length,.ip (aa i.av),.str mod] h= .ok (.int .i64 e) h:=by
 have g1:bb T 79 (.hp L.rm (0+14)) h= .ok (.mp L.rf) h:=H.get (T:=T) (t:=79) rfl rfl (nZ H.vo.len 5);have g2:bb T 29 (.hp L.rm (0+0+2)) h= .ok (.hs q 0 (fs.length+1) 5 true) h:=H.get (T:=T) (t:=29) rfl rfl rfl;have hlF:bm T 29 (.hs q 0 (fs.length+1) 5 true)=some (.int .i64 ((fs.length+1:Nat):Int)):=rfl;have lk:=M.fn h H.rf mod i.s;generalize hc:K121_0 (af pg) ak [.hp L.rm 0,.hp q A.length,.ip (aa i.av),.str mod] h=code;rw[K121_0]at hc;simp -implicitDefEqProofs only[ao,au,aJ,ae,FH81_2]at hc;rw[ap g1]at hc;simp -implicitDefEqProofs only[fJ2,Te,ae,wx]at hc;rw[ap lk]at hc;cases ho:fh p.mods mod i.s with
 |none=>
  rw[ho]at hc;have ok7:bT 7 (kD none)=true:=rfl;simp -implicitDefEqProofs only[eK,List.getElem?_cons_zero,X9,ae,aZ ok7,aj,Y8,bc,X3]at hc;rw[<- hc];cases h0:i.m== []<;>simp[fJ3,R5,ol,h0,aM,gv]<;>rfl
 | some x=>
  rw[ho]at hc;simp -implicitDefEqProofs only[kD,eK,List.getElem?_cons_zero,X9,ae,aZ (So x),aj,aI,Zr,bc,XH,fJ3,R5,ol,fX1,Wn,zD,ai,Bool.false_or]at hc;by_cases hcond:i.m≠[]/\x.pub=false
  ·simp only[Xr hcond];rw[show (!(i.m== [])&&!x.pub)=true by grind]at hc;simp only[XA]at hc;exact hc.symm
  simp only[Xn hcond];rw[show (!(i.m== [])&&!x.pub)=false by
   grind]at hc
  simp -implicitDefEqProofs only[Xo,Xu,fX2,Nq,NI,fJ1,Fe,ae,gw,ai]at hc;by_cases hpar:x.cod.params≠i.a
  ·simp only[Xr hpar];rw[show (x.cod.params != i.a)=true by simp[hpar]]at hc;simp only[XA]at hc;exact hc.symm
  simp only[Xn hpar];rw[show (x.cod.params != i.a)=false by grind]at hc;simp -implicitDefEqProofs only[Xo,Xu,aJ,ae,FH81_0,FH39_2]at hc;rw[ap g2]at hc;simp -implicitDefEqProofs only[hlF,ae,jl,ai,Xp]at hc;by_cases h60:60<=fs.length+1
  ·simp only[Xr h60];rw[Xr ZL]at hc;exact hc.symm
  simp only[Xn h60];rw[Xn ZL]at hc;have lF:ax T 76 (.ip (aa x.av))=some x.av:=rfl;have hia:((i.a.toNat:Nat):Int)=i.a:=ZL
  obtain⟨h2,tag2,sv2,rv,e2,F2,V2,K2,_⟩:=t117 F i.a.toNat ZL ZL (11+3*(fs.length+1)) ZL;rw[hia]at e2;have R2:=H.unfocus hA (K2.mono fun k hk=>.inl hk) F2 hB;have V2':de tag2 (11+3*(fs++[{ f with stack:=f.stack.take (f.stack.length-i.a.toNat) }]).length) h2 (f.stack.drop (f.stack.length-i.a.toNat)) rv:=by
   rw[XI,List.length_singleton];exact V2
  obtain⟨h3,e3,R3⟩:=t24 (Q:=VX) R2 mod x V2' ZQ (hlb x ho) ZQ hcb;refine⟨h3,?_,R3.x⟩;rw[<- hc];simp -implicitDefEqProofs only[lF,ae];rw[ap e2,ap e3];rfl
theorem t121{L:MLay}{tag:Nat->Nat}{sv dv cv:AV}{vc:List AV}{p:Proc}{h:Hp}{q:Nat}{fs:List Frm}{f:Frm}{A B:List AV}{lv stv:AV}(H:MR L tag sv (.hs q 0 (fs.length+1) 5 true) dv cv vc p h)(M:MapOk T 78 79 L p.mods)(hA:eh tag h 0 fs A)(F:FrAt tag h q A B fs.length f lv stv)(hB:B.all ay=true)(i:Ins)(hop:i.op=14)(hb:f.stack.length<=1000000)(hcb:p.out.calls.length<1000000)(ha:0<=i.a/\i.a<=f.stack.length)(hlb:∀s x,fh p.mods s i.s=some x->x.cod.locals<=1000000):
  match mS p fs f i with
  |.ok p'=>∃h',af pg 121 [.hp L.rm 0,.hp q A.length,i.av] h= .ok (.int .i64 0) h'/\vI L p' h'
  |.error e=>af pg 121 [.hp L.rm 0,.hp q A.length,i.av] h= .ok (.int .i64 e) h:=by
 have g3:bb T 9 (.hp q (A.length+0)) h= .ok (.str f.mod) h:=F.get (T:=T) (t:=9) rfl rfl (k:=0) rfl;have hcode:af pg 121 [.hp L.rm 0,.hp q A.length,i.av] h=K121_0 (af pg) ak [.hp L.rm 0,.hp q A.length,.ip (aa i.av),.str (vU i.m f.mod)] h:=by
  rw[C121,S121];have se:cz T .eql 9 (.str i.m) (.str [])=some (.bool (i.m== [])):=yS ..;simp -implicitDefEqProofs only[fJ3,R5,ae,jn,se,ai];unfold vU;by_cases hm:i.m=[]
  ·rw[Xr hm,Xr (by rw[hm];rfl)];simp -implicitDefEqProofs only[aJ,ae,FH62_0];rw[ap g3]
  ·grind
 rw[hcode];have e:mS p fs f i=match fh p.mods (vU i.m f.mod) i.s with
   |none=>(.error 12:Except Int Proc)
   |some x=>if i.m≠[]/\x.pub=false then .error 12
    else if x.cod.params≠i.a then .error 13
    else if 60<=fs.length+1 then .error 6
    else .ok (FV p (fs++[{ f with stack:=f.stack.take (f.stack.length-i.a.toNat) }]) (vU i.m f.mod) x (f.stack.drop (f.stack.length-i.a.toNat))):=by
  simp only[mS,hop];rfl
 rw[e];exact Jf H M hA F hB i _ hb hcb ha (hlb _)
def Br(L:MLay)(q:Nat)(A:List AV)(i:Ins)(h:Hp)(p':Proc):Prop:=∃h',af pg 60 [.hp L.rm 0,.hp q A.length,i.av] h= .ok (.int .i64 0) h'/\vI L p' h'
section
variable {L:MLay} {tag:Nat->Nat} {sv dv cv:AV} {vc:List AV} {p:Proc} {h:Hp} {q:Nat} {fs:List Frm} {f:Frm} {A B:List AV} {lv stv:AV}
theorem sS(H:MR L tag sv (.hs q 0 (fs.length+1) 5 true) dv cv vc p h)(hA:eh tag h 0 fs A)(F:FrAt tag h q A B fs.length f lv stv)(hB:B.all ay=true)(hb:f.stack.length<1000000000)(x:Val):
  ∃h',af pg 115 [.hp q A.length,x.av] h= .ok (.tup []) h'/\vI L { p with frames:=fs++[{ f with stack:=f.stack++[x] }] } h':=by
 obtain⟨h3,tag3,sv3,p1,p2,p3⟩:=t115 F x hb;exact⟨h3,p1,⟨tag3,_,_,_,_,_,H.unfocus hA (p3.mono fun k hk=>ZN) p2 hB⟩⟩
theorem VP(H:MR L tag sv (.hs q 0 (fs.length+1) 5 true) dv cv vc p h)(hA:eh tag h 0 fs A)(F:FrAt tag h q A B fs.length f lv stv)(hB:B.all ay=true)(hb:f.stack.length<1000000000)(i:Ins)(hop:i.op=0):Br L q A i h { p with frames:=fs++[{ f with stack:=f.stack++[cp i.a] }] }:=by
 obtain⟨h',g1,g2⟩:=sS H hA F hB hb (cp i.a);refine⟨h',?_,g2⟩;rw[C60,S60,fJ0,ae,vS,ae,hop,aH,ae,show ((0:Int)== 0)=true from rfl,ai,Xr rfl,fJ1,ae,Fe,ae,t50,aj,ap g1];rfl
theorem VQ(H:MR L tag sv (.hs q 0 (fs.length+1) 5 true) dv cv vc p h)(hA:eh tag h 0 fs A)(F:FrAt tag h q A B fs.length f lv stv)(hB:B.all ay=true)(hb:f.stack.length<1000000000)(i:Ins)(hop:i.op=1):Br L q A i h { p with frames:=fs++[{ f with stack:=f.stack++[Ap.dR (i.a== 1)] }] }:=by
 obtain⟨h',g1,g2⟩:=sS H hA F hB hb (Ap.dR (i.a== 1));refine⟨h',?_,g2⟩;rw[C60,S60,fJ0,ae,vS,ae,hop,aH,ae,show ((1:Int)== 0)=false from rfl,ai,Xn ZM,aH,ae,show ((1:Int)== 1)=true from rfl,ai,Xr rfl,fJ1,ae,Fe,ae,aH,ae,t116,aj,ap g1];rfl
theorem nY{k:Nat}{l:List Val}{v:AV}(V:de tag k h l v)(hne:0<l.length):∃r rest,v= .hs r 0 l.length 4 true/\tag r=k/\h[r]? = some (aw l++rest)/\(aw l++rest).all ay=true:=by
 rcases V with⟨h0,_⟩|⟨r,cs,rest,e,hr,hcs,_,_,hok,rfl⟩
 all_goals grind
theorem VS(H:MR L tag sv (.hs q 0 (fs.length+1) 5 true) dv cv vc p h)(hA:eh tag h 0 fs A)(F:FrAt tag h q A B fs.length f lv stv)(hB:B.all ay=true)(hb:f.stack.length<1000000000)(i:Ins)(hop:i.op=2)(ha:0<=i.a/\i.a<f.locals.length):Br L q A i h { p with frames:=fs++[{ f with stack:=f.stack++[f.locals[i.a.toNat]!] }] }:=by
 obtain⟨h',g1,g2⟩:=sS H hA F hB hb f.locals[i.a.toNat]!;obtain⟨r,rest,rfl,hr,hcs,_⟩:=nY F.lo ZL;have hal:i.a.toNat<f.locals.length:=ZL
 have gl:bb T 23 (.hp q (A.length+3)) h= .ok (.hs r 0 f.locals.length 4 true) h:=F.get (T:=T) (t:=23) rfl rfl (k:=3) rfl;have gv:=nD (T:=T) (t:=33) rfl rfl rfl hcs hal;refine⟨h',?_,g2⟩;rw[C60,S60,fJ0,ae,vS,ae,hop,aH,ae,show ((2:Int)== 0)=false from rfl,ai,Xn ZM,aH,ae,show ((2:Int)== 1)=false from rfl,ai,Xn ZM,aH,ae,show ((2:Int)== 2)=true from rfl,ai,Xr rfl,
  aJ,ae,FH62_3,ae,ap gl,fJ1,ae,Fe,ae,RJ r _ i.a ha.1 ha.2,ae,XE,ap gv,<- Xv f.locals _ hal,ap g1]
 rfl
end
section
variable {L:MLay} {tag:Nat->Nat} {sv dv cv:AV} {vc:List AV} {p:Proc} {h:Hp} {q:Nat} {fs:List Frm} {f:Frm} {A B:List AV} {lv stv:AV}
theorem CK(F:FrAt tag h q A B fs.length f lv stv)(a:Int):∃h',bU T 3 (.hp q (A.length+2)) (.int .i64 a) h= .ok (.tup []) h'/\FrAt tag h' q A B fs.length { f with pc:=a } lv stv/\Kp tag tag (fun k=>k=7) h h':=by
 have hlt:q<h.length:=(Xx.1 F.row).1;have K:Kp tag tag (fun k=>k=7) h (h.set q (A++iO { f with pc:=a } lv stv++B)):=W8 F.tq _;refine⟨_,?_,⟨XS hlt,F.tq,F.lo.keep K ZL,F.st.keep K ZL⟩,K⟩;rw[bX (T:=T) (t:=3) rfl F.row rfl (by show _+1<=_;simp[iO];omega) ZM];rw[set_mid (D:=iO { f with pc:=a } lv stv) (by simp[iO]) rfl]
theorem Sv(H:MR L tag sv (.hs q 0 (fs.length+1) 5 true) dv cv vc p h)(hA:eh tag h 0 fs A)(F:FrAt tag h q A B fs.length f lv stv)(hB:B.all ay=true)(i:Ins)(hop:i.op=10):Br L q A i h { p with frames:=fs++[{ f with pc:=i.a }] }:=by
 obtain⟨h',g1,F2,K⟩:=CK F i.a;refine⟨h',?_,⟨tag,_,_,_,_,_,H.unfocus hA (K.mono fun k hk=>.inl hk) F2 hB⟩⟩;rw[C60,S60,fJ0,ae,vS,ae,hop,aH,ae,show ((10:Int)== 0)=false from rfl,ai,Xn ZM,aH,ae,show ((10:Int)== 1)=false from rfl,ai,Xn ZM,aH,ae,show ((10:Int)== 2)=false from rfl,ai,Xn ZM,
  aH,ae,show ((10:Int)== 3)=false from rfl,ai,Xn ZM,aH,ae,show ((10:Int)== 19)=false from rfl,ai,Xn ZM,aH,ae,show ((10:Int)== 10)=true from rfl,ai,Xr rfl,
  fJ1,ae,Fe,ae,aJ,ae,FH62_2,ae,ap g1]
 rfl
theorem Sy(H:MR L tag sv (.hs q 0 (fs.length+1) 5 true) dv cv vc p h)(hA:eh tag h 0 fs A)(F:FrAt tag h q A B fs.length f lv stv)(hB:B.all ay=true)(hb:f.stack.length<1000000000)(h1:1<=f.stack.length)(i:Ins)(hop:i.op=19):Br L q A i h { p with frames:=fs++[{ f with stack:=f.stack.take (f.stack.length-1) }] }:=by
 obtain⟨h2,tag2,sv2,rv,e2,F2,_,K2,_⟩:=t117 F 1 h1 hb 3 ZM;have e2':af pg 117 [.hp q A.length,.int .i64 1] h= .ok rv h2:=e2;refine⟨h2,?_,⟨tag2,_,_,_,_,_,H.unfocus hA (K2.mono fun k hk=>.inl hk) F2 hB⟩⟩;rw[C60,S60,fJ0,ae,vS,ae,hop,aH,ae,show ((19:Int)== 0)=false from rfl,ai,Xn ZM,aH,ae,show ((19:Int)== 1)=false from rfl,ai,Xn ZM,aH,ae,show ((19:Int)== 2)=false from rfl,ai,Xn ZM,
  aH,ae,show ((19:Int)== 3)=false from rfl,ai,Xn ZM,aH,ae,show ((19:Int)== 19)=true from rfl,ai,Xr rfl,ap e2']
 rfl
theorem VT(H:MR L tag sv (.hs q 0 (fs.length+1) 5 true) dv cv vc p h)(hA:eh tag h 0 fs A)(F:FrAt tag h q A B fs.length f lv stv)(hB:B.all ay=true)(hb:f.stack.length<1000000000)(h1:1<=f.stack.length)(i:Ins)(hop:i.op=3)(ha:0<=i.a/\i.a<f.locals.length):
  Br L q A i h { p with frames:=fs++[{ f with locals:=f.locals.set i.a.toNat f.stack[f.stack.length-1]!,stack:=f.stack.take (f.stack.length-1) }] }:=by
 have hA5:A.length % 5=0:=by rw[hA.len];omega
 have gl:bb T 23 (.hp q (A.length+3)) h= .ok lv h:=F.get (T:=T) (t:=23) rfl rfl (k:=3) rfl;have gm:fK T 5 3 23 (.hp q (A.length+3)) h= .ok lv h:=by
  have hb3:(Nat.beq ((A.length+3) % 5) 3)=true:=by rw[show (A.length+3) % 5=3 by omega];rfl
  show (bif Nat.beq ((A.length+3) % 5) 3&&true then bb T 23 (.hp q (A.length+3)) h else .fail)=_;rw[hb3];exact gl
 obtain⟨h2,tag2,sv2,rv,e2,F2,V2,K2,ext,hh2⟩:=t117 F 1 h1 hb 3 ZM;have e2':ir 5 3 (af pg 117 [.hp q A.length,.int .i64 1]) h= .ok rv h2:=Hn e2 (by rw[hh2];exact Cr F.row hA5 rfl rfl rfl);have hd:f.stack.drop (f.stack.length-1)=[f.stack[f.stack.length-1]!]:=by
  rw[List.drop_eq_getElem_cons ZL,List.drop_of_length_le ZL,Xv f.stack _ ZL]
 rw[hd]at V2;generalize f.stack[f.stack.length-1]! = v at V2 |-;obtain⟨rr,restr,rfl,_,hrr,_⟩:=nY V2 ZO;have ix0:aA T 23 (.hs rr 0 [v].length 4 true) (.int .i64 0)=some (.hp rr (0+(0:Int).toNat*4)):=RJ rr 1 0 ZM ZM;have lv0:bb T 33 (.hp rr (0+(0:Int).toNat*4)) h2= .ok v.av h2:=nD (T:=T) (t:=33) rfl rfl rfl hrr (j:=0) ZO;obtain⟨r,rest,rfl,hr,hcs,hok⟩:=nY F2.lo (show 0<f.locals.length by omega);have hal:i.a.toNat<f.locals.length:=ZL
 have hcs':h2[r]? = some (aw f.locals++rest):=hcs;have hset:setCells (aw f.locals++rest) (i.a.toNat*4) (aa v.av)=aw (f.locals.set i.a.toNat v)++rest:=by
  rw[qk (by rw[aX];simp;omega),ko hal]
 have s1:bU T 33 (.hp r (0+i.a.toNat*4)) v.av h2= .ok (.tup []) (h2.set r (aw (f.locals.set i.a.toNat v)++rest)):=by
  rw[XE,bX (T:=T) (t:=33) rfl hcs' ZP (by grind [aX]) ZM,hset]
 have hrl:r<h2.length:=(Xx.1 hcs').1;have K3:Kp tag2 tag2 (fun k=>k=11+3*fs.length) h2 (h2.set r (aw (f.locals.set i.a.toNat v)++rest)):=W8 hr _;have F3:FrAt tag2 (h2.set r (aw (f.locals.set i.a.toNat v)++rest)) q A B fs.length { f with locals:=f.locals.set i.a.toNat v,stack:=f.stack.take (f.stack.length-1) } (.hs r 0 f.locals.length 4 true) sv2:=by
  refine⟨(K3 _ _ F2.row (by rw[F2.tq];omega)).1,F2.tq,?_,F2.st.keep K3 ZL⟩;refine .inr ⟨r,aw (f.locals.set i.a.toNat v),rest,ZO,hr,XS hrl,?_,by rw[aX],?_,rfl⟩
  ·intro hh
   have:=XY List.length hh
   simp[aX]at this;omega
  ·have hok':(aw f.locals++rest).all ay=true:=hok;simp_all[iv]
 refine⟨_,?_,⟨tag2,_,_,_,_,_,H.unfocus hA ((K2.trans K3).mono fun k hk=>ZN) F3 hB⟩⟩;have ixa:=RJ r f.locals.length i.a ha.1 ha.2;rw[C60,S60,fJ0,ae,vS,ae,hop,aH,ae,show ((3:Int)== 0)=false from rfl,ai,Xn ZM,aH,ae,show ((3:Int)== 1)=false from rfl,ai,Xn ZM,aH,ae,show ((3:Int)== 2)=false from rfl,ai,Xn ZM,
  aH,ae,show ((3:Int)== 3)=true from rfl,ai,Xr rfl,aJ,ae,FH62_3,ae,ap gm,fJ1,ae,Fe,ae,ap e2',ix0,ae,ap lv0,ixa,ae,ap s1]
 rfl
end
def t120:∀(n:Nat)(v:Val),v.sz<=n->v.sz<=1099511627776->af pg 120 [v.av]=am (.int .i64 (dL v:Nat)):=by
 intro n
 induction n with
 |zero=>intro v h;have:=v.sz_pos;omega
 | succ n ih=>
  intro v hn hv;have hlen:=v.sz_len;have hlv:∀(l:List Val),cV l<=1099511627776->dI l<=1099511627776:=by
   intro l
   induction l with
   |nil=>intro _;simp[dI]
   | cons x l ih2=>
    intro h;simp only[cV]at h
    have:=ih2 ZL
    have hx:∀(k:Nat)(y:Val),y.sz<=k->dL y<=y.sz:=by
     intro k
     induction k with
     |zero=>intro y hy;have:=y.sz_pos;omega
     |succ k ihk=>
      intro y hy;rw[i7];have h1:=y.sz_values;have h2:dI y.values<=cV y.values:=(g9 _ _).2 fun z hz=>XM (ihk z (by have:=W9 hz;omega)) (kN hz);omega
    simp only[dI]
    grind
  have hl:∀(B A:List Val)(c:Nat),A++B=v.values->c<=1099511627776->ak (L120_0 (af pg) ak) [.int .i64 (c:Nat),vals v.values,.int .i64 v.values.length,.int .i64 A.length]=am (.int .i64 ((max c (dI B)+1:Nat))):=by
   intro B
   induction B with
   |nil=>
    intro A c e hc;simp only[XN]at e;subst e;rw[FL120_0];simp (disch:=omega) [L120_0,dI,aS]
   | cons x B ih2=>
    intro A c e hc;have hll:A.length+(B.length+1)=v.values.length:=by rw[<- e];simp
    have h1:(A.length:Int)<(v.values.length:Int):=ZL
    have hx:v.values[A.length]! = x:=by
     rw[<- e,Xv _ _ ZO];simp
    have hm:x∈v.values:=by rw[<- e];simp
    have hx':v.values[A.length]'(ZL)=x:=by rw[<- hx,Xv]
    have h3:=ih x (by have:=W9 hm;omega) (by have:=W9 hm;omega);have hxb:dL x<=1099511627776:=XM ((g9 v.values _).1 (hlv v.values (by have:=v.sz_values;omega)) x hm) (Xt _);have h4:=ih2 (A++[x]) (max c (dL x)) ZN ZL;rw[FL120_0];have hmx:(max (c:Int) (dL x:Int))=((max c (dL x):Nat):Int):=ZL
    simp (disch:=omega) [L120_0,h1,aS,sY,hx',h3,hmx]at h4 |-;rw[h4];simp only[dI]
  rw[C120]
  have:=hl v.values [] 0 rfl ZL
  simp_all[S120,i7]
section
variable {L:MLay} {tag:Nat->Nat} {sv dv cv:AV} {vc:List AV} {p:Proc} {h:Hp} {q:Nat} {fs:List Frm} {f:Frm} {A B:List AV} {lv stv:AV}
theorem Sw(H:MR L tag sv (.hs q 0 (fs.length+1) 5 true) dv cv vc p h)(hA:eh tag h 0 fs A)(F:FrAt tag h q A B fs.length f lv stv)(hB:B.all ay=true)(hb:f.stack.length<1000000000)(h1:1<=f.stack.length)(i:Ins)(hop:i.op=11):
  if f.stack[f.stack.length-1]!.kind=1 then Br L q A i h { p with frames:=fs++[{ f with stack:=f.stack.take (f.stack.length-1),pc:=if f.stack[f.stack.length-1]!.n=0 then i.a else f.pc }] }
  else af pg 60 [.hp L.rm 0,.hp q A.length,i.av] h= .ok (.int .i64 13) h:=by
 obtain⟨w,e0,_,e3⟩:=t118 F 1 h1 hb;obtain⟨rs,rests,rfl,hrs,_⟩:=e3 ZM;have e0':af pg 118 [.hp q A.length,.int .i64 1] h= .ok (.hs rs ((f.stack.length-1)*4) 1 4 true) h:=e0;have i0:aA T 23 (.hs rs ((f.stack.length-1)*4) 1 4 true) (.int .i64 0)=some (.hp rs ((f.stack.length-1+0)*4)):=(jk hrs h1 (j:=0) ZM).1;have l0:=(jk hrs h1 (j:=0) ZM).2;rw[show f.stack.length-1+0=f.stack.length-1 by omega]at i0 l0;obtain⟨h2,tag2,sv2,rv,e2,F2,_,K2,_⟩:=t117 F 1 h1 hb 3 ZM;have e2':af pg 117 [.hp q A.length,.int .i64 1] h= .ok rv h2:=e2;have hA2:=hA.keep K2 fun j _ _=>ZN
 have R2:=H.unfocus hA (K2.mono fun k hk=>.inl hk) F2 hB;generalize f.stack[f.stack.length-1]! = v at l0 |-;have fa0:ah T 33 (.ip (aa v.av)) 0=some (.ip (aa v.av)):=by rw[bH];rfl
 have la0:ax T 3 (.ip (aa v.av))=some (.int .i64 v.kind):=by rw[bH];rfl
 have fa1:ah T 33 (.ip (aa v.av)) 1=some (.ip ((aa v.av).drop 1)):=by rw[bH];rfl
 have la1:ax T 3 (.ip ((aa v.av).drop 1))=some (.int .i64 v.n):=by rw[bH];rfl
 generalize hc:af pg 60 [.hp L.rm 0,.hp q A.length,i.av] h=code;unfold Br;rw[hc];rw[C60,S60,fJ0,ae,vS,ae,hop,aH,ae,show ((11:Int)== 0)=false from rfl,ai,Xn ZM,aH,ae,show ((11:Int)== 1)=false from rfl,ai,Xn ZM,aH,ae,show ((11:Int)== 2)=false from rfl,ai,Xn ZM,
  aH,ae,show ((11:Int)== 3)=false from rfl,ai,Xn ZM,aH,ae,show ((11:Int)== 19)=false from rfl,ai,Xn ZM,aH,ae,show ((11:Int)== 10)=false from rfl,ai,Xn ZM,aH,ae,show ((11:Int)== 11)=true from rfl,ai,Xr rfl,
  ap e0',i0,ae,ap l0,aZ (dV v),aj,aI,fa0,ae,la0,ae,gw,ae,ai]at hc
 by_cases hk:v.kind=1
 ·rw[Xr hk];rw[Xn (by simp[hk]),ap e2',fa1,ae,la1,ae,aH,ae,ai]at hc;by_cases hn:v.n=0
  ·rw[Xr (by simp[hn]),fJ1,ae,Fe,ae,aJ,ae,FH62_2,ae]at hc;obtain⟨h3,g1,F3,K3⟩:=CK F2 i.a;rw[ap g1]at hc;rw[Xr hn];exact⟨h3,hc.symm,⟨tag2,_,_,_,_,_,R2.unfocus hA2 (K3.mono fun k hk=>.inl hk) F3 hB⟩⟩
  ·rw[Xn (by simp[hn])]at hc;rw[Xn hn];exact⟨h2,hc.symm,⟨tag2,_,_,_,_,_,R2⟩⟩
 ·rw[Xn hk];rw[Xr (by simp[hk])]at hc;exact hc.symm
theorem HU(F:FrAt tag h q A B fs.length f lv stv)(n:Nat)(hn:n<=f.stack.length)(hb:f.stack.length<1000000000):
  ∃w h1,af pg 118 [.hp q A.length,.int .i64 n] h= .ok w h/\ar (af pg 25 [w]) ot h= .ok (vals (f.stack.drop (f.stack.length-n))) h1/\Kp tag tag (fun _=>False) h h1:=by
 obtain⟨w,e0,e1,e3⟩:=t118 F n hn hb;have hdl:(f.stack.drop (f.stack.length-n)).length=n:=by simp;omega
 cases n with
 | zero=>
  have hnil:f.stack.drop (f.stack.length-0)=[]:=ZO
  have hcl:af pg 25 [w] h= .ok .he h:=by
   rw[xI];rcases e1 rfl with rfl|rfl|rfl<;>rfl
  refine⟨w,h,e0,?_,fun r cs hr _=>⟨hr,rfl⟩⟩;rw[ap hcl,hnil];rfl
 | succ n=>
  obtain⟨r,rest,rfl,g1,g2⟩:=e3 ZL
  have:=oT (T:=T) (t:=23) (e:=33) rfl rfl rfl rfl rfl ZM (af pg) g1 g2 (k:=f.stack.length-(n+1)) (n:=n+1) ZL ZN
  rw[Xn ZL]at this;have ht:(f.stack.drop (f.stack.length-(n+1))).take (n+1)=f.stack.drop (f.stack.length-(n+1)):=Yz ZL;rw[ht]at this;refine⟨_,(h++[aw (f.stack.drop (f.stack.length-(n+1)))]).set h.length [],e0,?_,fun r cs hr _=>?_⟩
  ·rw[ap ((xI _ h).trans this)];have hf:frz 1 (h++[aw (f.stack.drop (f.stack.length-(n+1)))]) (.hs h.length 0 (n+1) 4 true)=vals (f.stack.drop (f.stack.length-(n+1))):=by
    have:=G7 (d:=0) (h:=h++[aw (f.stack.drop (f.stack.length-(n+1)))]) (r:=h.length) (l:=f.stack.drop (f.stack.length-(n+1))) ZO
    rw[hdl]at this;exact this
   show R.ok (frz 1 _ (.hs h.length 0 (n+1) 4 true)) _=_;rw[hf]
  grind
end
def Gs(ns:List aW)(vs:List Val):cE T false 33 [(0,.int .i64 2),(2,strs ns),(3,vals vs)]=some (Val.mk 2 0 ns vs).av:=by
 rw[Val.av_eq];rfl
section
variable {L:MLay} {tag:Nat->Nat} {sv dv cv:AV} {vc:List AV} {p:Proc} {h:Hp} {q:Nat} {fs:List Frm} {f:Frm} {A B:List AV} {lv stv:AV}
theorem Sx(H:MR L tag sv (.hs q 0 (fs.length+1) 5 true) dv cv vc p h)(hA:eh tag h 0 fs A)(F:FrAt tag h q A B fs.length f lv stv)(hB:B.all ay=true)(hb:f.stack.length<1000000000)(i:Ins)(hop:i.op=12)(hn:i.names.length<=f.stack.length)(hsz:(Val.mk 2 0 i.names (f.stack.drop (f.stack.length-i.names.length))).sz<=1099511627776):
  if dL (.mk 2 0 i.names (f.stack.drop (f.stack.length-i.names.length)))<=4 then Br L q A i h { p with frames:=fs++[{ f with stack:=f.stack.take (f.stack.length-i.names.length)++[.mk 2 0 i.names (f.stack.drop (f.stack.length-i.names.length))] }] }
  else ∃h',af pg 60 [.hp L.rm 0,.hp q A.length,i.av] h= .ok (.int .i64 6) h'/\vI L { p with frames:=fs++[f] } h':=by
 obtain⟨w,h1,e0,e1,K1⟩:=HU F i.names.length hn hb;have F1:=F.keep K1 ⟨id,id,id⟩;have hA1:=hA.keep K1 fun j _ _=>⟨id,id⟩;have R1:=H.unfocus hA (K1.mono fun k hk=>hk.elim) F1 hB;obtain⟨h2,tag2,sv2,rv,e2,F2,_,K2,_⟩:=t117 F1 i.names.length hn hb 3 ZM;have hA2:=hA1.keep K2 fun j _ _=>ZN
 have R2:=R1.unfocus hA1 (K2.mono fun k hk=>.inl hk) F2 hB;have hcn:=t119 i.names ZL;have hln:bm T 31 (strs i.names)=some (.int .i64 i.names.length):=gW _;generalize hv:Val.mk 2 0 i.names (f.stack.drop (f.stack.length-i.names.length))=v at hsz |-;have hbr:cE T false 33 [(0,.int .i64 2),(2,strs i.names),(3,vals (f.stack.drop (f.stack.length-i.names.length)))]=some v.av:=by rw[<- hv];exact Gs _ _
 have hld:ax T 33 (.ip (aa v.av))=some v.av:=by cases v;rfl
 have hdp:=t120 _ v (Xt _) hsz;generalize hc:af pg 60 [.hp L.rm 0,.hp q A.length,i.av] h=code;unfold Br;rw[hc];rw[C60,S60,fJ0,ae,vS,ae,hop,aH,ae,show ((12:Int)== 0)=false from rfl,ai,Xn ZM,aH,ae,show ((12:Int)== 1)=false from rfl,ai,Xn ZM,aH,ae,show ((12:Int)== 2)=false from rfl,ai,Xn ZM,
  aH,ae,show ((12:Int)== 3)=false from rfl,ai,Xn ZM,aH,ae,show ((12:Int)== 19)=false from rfl,ai,Xn ZM,aH,ae,show ((12:Int)== 10)=false from rfl,ai,Xn ZM,aH,ae,show ((12:Int)== 11)=false from rfl,ai,Xn ZM,
  aH,ae,show ((12:Int)== 12)=true from rfl,ai,Xr rfl,fJ4,ae,R6,ae,ae,R6,ae,hln,ae,hcn,aj,ap e0,ap e1,hbr,ae,aZ (dV v),aj,aI,hld,ae,hdp,aj,dQ,ae,ai]at hc
 by_cases hl:dL v<=4
 ·rw[Xr hl];rw[Xn ZN,ae,R6,ae,hln,ae,ap e2,ae]at hc;obtain⟨h3,g1,g2⟩:=sS R2 hA2 F2 hB ZQ v;rw[ap g1]at hc;exact⟨h3,hc.symm,g2⟩
 ·rw[Xn hl];rw[Xr ZN]at hc;exact⟨h1,hc.symm,⟨tag,_,_,_,_,_,R1⟩⟩
end
def sK{α:Type}(m:M α):ar m (fun v=>am v)=m:=by
 funext h
 grind [Av.ar,am]
def lY(a0 a1:AV)(i:Ins)(h0:i.op≠0)(h1:i.op≠1)(h2:i.op≠2)(h3:i.op≠3)(h19:i.op≠19)(h10:i.op≠10)(h11:i.op≠11)(h12:i.op≠12):
  af pg 60 [a0,a1,i.av]=if i.op=14 then af pg 121 [a0,a1,i.av]else if i.op=16\/i.op=17 then af pg 122 [a0,a1,i.av]else if i.op=9\/i.op=13\/i.op=15 then af pg 123 [a0,a1,i.av]else af pg 124 [a1,.int .i64 i.op]:=by
 have b:∀k:Int,i.op≠k->(i.op== k)=false:=fun k h=>by simp[h]
 rw[C60,S60,fJ0,ae,vS,ae,aH,ae,b 0 h0,ai,Xn ZM,aH,ae,b 1 h1,ai,Xn ZM,aH,ae,b 2 h2,ai,Xn ZM,
  aH,ae,b 3 h3,ai,Xn ZM,aH,ae,b 19 h19,ai,Xn ZM,aH,ae,b 10 h10,ai,Xn ZM,aH,ae,b 11 h11,ai,Xn ZM,aH,ae,b 12 h12,ai,Xn ZM,
  aH,ae,ai,FX,ae,sK]
 by_cases h14:i.op=14
 ·grind
 rw[Xn (by simp[h14]),Xn h14];simp -implicitDefEqProofs only[jn,aH,ae,ai];have k1t:K60_1 (af pg) ak [a0,a1,.ip (aa i.av),.int .i64 i.op,.bool true]=af pg 122 [a0,a1,i.av]:=by
  rw[K60_1];simp -implicitDefEqProofs only[ao,au,ai,XA,FX,ae,sK]
 have k1f:K60_1 (af pg) ak [a0,a1,.ip (aa i.av),.int .i64 i.op,.bool false]=if i.op=9\/i.op=13\/i.op=15 then af pg 123 [a0,a1,i.av]else af pg 124 [a1,.int .i64 i.op]:=by
  have k0t:K60_0 (af pg) ak [a0,a1,.ip (aa i.av),.bool true]=af pg 123 [a0,a1,i.av]:=by
   rw[K60_0];simp -implicitDefEqProofs only[ao,au,ai,XA,FX,ae,sK]
  have k0f:K60_0 (af pg) ak [a0,a1,.ip (aa i.av),.bool false]=af pg 124 [a1,.int .i64 i.op]:=by
   rw[K60_0];simp -implicitDefEqProofs only[ao,au,ai,Xo,Xu,fJ0,vS,ae,sK]
  rw[K60_1];simp -implicitDefEqProofs only[ao,au,ai,Xo,Xu,jn,aH,ae];by_cases h9:i.op=9
  ·grind
  rw[Xn (by simp[h9])];by_cases h13:i.op=13
  ·grind
  rw[Xn (by simp[h13])];by_cases h15:i.op=15
  ·grind
  rw[Xn ZL,b 15 h15,k0f]
 grind
structure StepOk (p:Proc) (f:Frm) (i:Ins):Prop where
 hb:f.stack.length<=1000000
 hd:p.out.deeds.length<1000000
 hc:p.out.calls.length<1000000
 loc:i.op=2\/i.op=3->0<=i.a/\i.a<f.locals.length
 one:i.op=3\/i.op=19\/i.op=11\/i.op=9\/i.op=13\/i.op=15\/i.op=17->1<=f.stack.length
 two:4<=i.op/\i.op<=8->2<=f.stack.length
 rec_:i.op=12->i.names.length<=f.stack.length/\(Val.mk 2 0 i.names (f.stack.drop (f.stack.length-i.names.length))).sz<=1099511627776
 cal:i.op=14->(0<=i.a/\i.a<=f.stack.length)/\∀s x,fh p.mods s i.s=some x->x.cod.locals<=1000000
 var:i.op=16\/i.op=17->0<=dD p.mods f.mod/\0<=i.a/\∃w,p.state[(dD p.mods f.mod).toNat]? = some w/\w.values.length<1000000000
 val:f.stack[f.stack.length-1]!.names.length=f.stack[f.stack.length-1]!.values.length/\f.stack[f.stack.length-1]!.names.length<=1000000
 ops:i.op=0\/i.op=1\/i.op=2\/i.op=3\/i.op=19\/i.op=10\/i.op=11\/i.op=12\/i.op=14\/i.op=16\/i.op=17\/(i.op=9\/i.op=13\/i.op=15)\/(4<=i.op/\i.op<=8)
section
variable {L:MLay} {tag:Nat->Nat} {sv dv cv:AV} {vc:List AV} {p:Proc} {h:Hp} {q:Nat} {fs:List Frm} {f:Frm} {A B:List AV} {lv stv:AV}
theorem t60(H:MR L tag sv (.hs q 0 (fs.length+1) 5 true) dv cv vc p h)(M:MapOk T 78 79 L p.mods)(hp:p.frames=fs++[f])(hA:eh tag h 0 fs A)(F:FrAt tag h q A B fs.length f lv stv)(hB:B.all ay=true)(i:Ins)(C:StepOk p f i):
  match mS p fs f i with
  |.ok p'=>Br L q A i h p'
  |.error e=>∃h',af pg 60 [.hp L.rm 0,.hp q A.length,i.av] h= .ok (.int .i64 e) h'/\vI L p h':=by
 have same:vI L p h:=⟨tag,_,_,_,_,_,H⟩;have hpe:{ p with frames:=fs++[f] } = p:=by rw[<- hp]
 have hb:f.stack.length<1000000000:=by have:=C.hb;omega
 rcases C.ops with h0|h0|h0|h0|h0|h0|h0|h0|h0|h0|h0|h0|h0
 ·grind [mS,VP]
 ·grind [mS,VQ]
 ·rw[show mS p fs f i= .ok { p with frames:=fs++[{ f with stack:=f.stack++[f.locals[i.a.toNat]!] }] } by simp[mS,h0]];exact VS H hA F hB hb i h0 (C.loc (.inl h0))
 ·rw[show mS p fs f i= .ok { p with frames:=fs++[{ f with locals:=f.locals.set i.a.toNat f.stack[f.stack.length-1]!,stack:=f.stack.take (f.stack.length-1) }] } by simp[mS,h0]];exact VT H hA F hB hb (C.one (.inl h0)) i h0 (C.loc (.inr h0))
 ·rw[show mS p fs f i= .ok { p with frames:=fs++[{ f with stack:=f.stack.take (f.stack.length-1) }] } by simp[mS,h0]];exact Sy H hA F hB hb (C.one (.inr (.inl h0))) i h0
 ·grind [mS,Sv]
 ·have k:=Sw H hA F hB hb (C.one (.inr (.inr (.inl h0)))) i h0
  grind [mS]
 ·have k:=Sx H hA F hB hb i h0 (C.rec_ h0).1 (C.rec_ h0).2
  grind [mS]
 ·have k:=t121 H M hA F hB i h0 C.hb C.hc (C.cal h0).1 (C.cal h0).2;have r:=lY (.hp L.rm 0) (.hp q A.length) i ZL ZL ZL ZL ZL ZL ZL ZL;rw[Xr h0]at r;unfold Br;rw[r]
  grind
 ·obtain⟨v1,v2,w,v3,v4⟩:=C.var (.inl h0);have k:=t122 H M hA F hB i v1 v3 hb v4 v2 (fun h=>absurd h0 h);have r:=lY (.hp L.rm 0) (.hp q A.length) i ZL ZL ZL ZL ZL ZL ZL ZL;rw[Xn ZL,Xr (.inl h0)]at r;unfold Br;rw[r];rw[show mS p fs f i=if i.a<w.values.length then .ok { p with frames:=fs++[{ f with stack:=f.stack++[w.values[i.a.toNat]!] }] }else .error 12 by simp[mS,h0,v3]]
  grind
 ·obtain⟨v1,v2,w,v3,v4⟩:=C.var (.inr h0);have k:=t122 H M hA F hB i v1 v3 hb v4 v2 (fun _=>C.one (by simp[h0]));have r:=lY (.hp L.rm 0) (.hp q A.length) i ZL ZL ZL ZL ZL ZL ZL ZL;rw[Xn ZL,Xr (.inr h0)]at r;unfold Br;rw[r];rw[show mS p fs f i=if i.a<w.values.length then .ok { p with frames:=fs++[f],state:=p.state.modify (dD p.mods f.mod).toNat fun w=>{ w with values:=w.values.set i.a.toNat f.stack[f.stack.length-1]! } }else .error 12 by simp[mS,h0,v3]]
  grind
 ·have k:=t123 H hA F hB i (C.one ZL) hb C.hd h0 C.val.1 C.val.2;have r:=lY (.hp L.rm 0) (.hp q A.length) i ZL ZL ZL ZL ZL ZL ZL ZL;rw[Xn ZL,Xn ZL,Xr h0]at r;unfold Br;rw[r]
  grind
 ·have k:=t124 F i.op (C.two h0) hb;have r:=lY (.hp L.rm 0) (.hp q A.length) i ZL ZL ZL ZL ZL ZL ZL ZL;rw[Xn ZL,Xn ZL,Xn ZL]at r;unfold Br;rw[r];have e:mS p fs f i=match BH i.op f.stack[f.stack.length-2]! f.stack[f.stack.length-1]! with
    |some x=>.ok { p with frames:=fs++[{ f with stack:=f.stack.take (f.stack.length-2)++[x] }] }
    |none=>.error 13:=by
   unfold mS;simp only[show ¬i.op=0 by omega,show ¬i.op=1 by omega,show ¬i.op=2 by omega,show ¬i.op=3 by omega,show ¬i.op=19 by omega,show ¬i.op=10 by omega,show ¬i.op=11 by omega,show ¬i.op=12 by omega,show ¬i.op=14 by omega,show ¬i.op=16 by omega,show ¬i.op=17 by omega,show ¬i.op=9 by omega,show ¬i.op=13 by omega,show ¬i.op=15 by omega,Xu];rfl
  rw[e];cases hx:BH i.op f.stack[f.stack.length-2]! f.stack[f.stack.length-1]! with
  |none=>grind
  |some x=>
   rw[hx]at k;obtain⟨h',tag',sv',k1,k2,k3⟩:=k;exact⟨h',k1,⟨tag',_,_,_,_,_,H.unfocus hA (k3.mono fun k hk=>ZN) k2 hB⟩⟩
end
def wy{tag:Nat->Nat}{h:Hp}{k:Nat}{l:List Val}(s:aW){av:AV}(H:de tag k h l av):cE T false 58 [(0,.str s),(1,av)]=some (.agg [.str s,av]):=by
 rcases de.shape H with rfl|rfl|⟨r,rfl⟩<;>rfl
theorem tj(s:aW)(av:AV):aP T 28 1 [(0,.agg [.str s,av])]=some (.sl [.agg [.str s,av]]):=rfl
theorem rX{sv:AV}{st:List Vars}(Q:(Nat->Nat)->Hp->Prop)(hQ:∀ {tag tag':Nat->Nat} {h h':Hp} {ks:Nat->Prop},Kp tag tag' ks h h'->(∀k,ks k->k=9)->Q tag h->Q tag' h')(hS:∀ {tag:Nat->Nat} {h:Hp},Q tag h->fX tag 5 2 st.length (fun cs=>om tag h 0 st cs) sv h)(hn:st.length<=1000000)(hv:∀w∈st,w.values.length<=1000000):∀(B A:List Vars)(tag:Nat->Nat)(h:Hp)(ov:AV),A++B=st->Q tag h->fX tag 9 2 A.length (fun cs=>vE tag h A cs) ov h->
  ∃h' tag' ov',ak (L111_0 (af pg) ak) [ov,sv,.int .i64 st.length,.int .i64 A.length] h= .ok ov' h'/\Q tag' h'/\fX tag' 9 2 st.length (fun cs=>vE tag' h' st cs) ov' h'
 |[],A,tag,h,ov,e,H,S=>by
  rw[XN]at e;subst e;have h1:¬((A.length:Int)<(A.length:Int)):=ZL
  refine⟨h,tag,ov,?_,H,S⟩;rw[FL111_0];simp -implicitDefEqProofs only[L111_0,ao,au,aB,ae,ai,Xp,Xn h1];rfl
 | w:: B,A,tag,h,ov,e,H,S=>by
  have hlen:A.length+(B.length+1)=st.length:=by rw[<- e];simp
  have h1:(A.length:Int)<(st.length:Int):=ZL
  have hw:st[A.length]? = some w:=by rw[<- e];simp
  have hwm:w∈st:=X7 hw;have hsv:∃r cs rest,sv= .hs r 0 st.length 2 true/\h[r]? = some (cs++rest)/\cs.length=st.length*2/\om tag h 0 st cs:=by
   rcases hS H with⟨h0,_⟩|⟨r,cs,rest,e1,_,hcs,_,hl,_,HS⟩
   ·omega
   ·grind
  obtain⟨r,cs,rest,rfl,hcs,hl,HS⟩:=hsv;obtain⟨av,a1,a2⟩:=HS.at2 A.length w hw;have hix:aA T 28 (.hs r 0 st.length 2 true) (.int .i64 (A.length:Int))=some (.hp r (0+A.length*2)):=by
   show (if(0:Int)<=(A.length:Int)/\(A.length:Int)<((st.length:Nat):Int)then some (AV.hp r (0+(A.length:Int).toNat*2))else none)=_;rw[Xr ZL];simp
  have hld:bb T 58 (.hp r (0+A.length*2)) h= .ok (.agg [.str w.module,av]) h:=by
   rw[XE,lR (T:=T) (t:=58) rfl rfl hcs ZN];show R.ok (AV.agg (((cs++rest).drop (A.length*2)).take 2)) h=_;rw[YF ZL,YX ZQ,a1]
  have hav:ay av=true:=a2.okC;have hok2:bT 2 (.agg [.str w.module,av])=true:=by
   show (_&&(ay (.str w.module)&&(ay av&&true)))=true;rw[hav];rfl
  obtain⟨h2,tag2,rv,e2,K2,V2⟩:=tw (T:=T) (t:=23) (e:=33) rfl rfl rfl rfl rfl ZM (af pg) a2 (XM (Xy _ (hv w hwm)) ZM) 8;have H2:=hQ K2 (fun k hk=>hk.elim) H;have S2:fX tag2 9 2 A.length (fun cs=>vE tag2 h2 A cs) ov h2:=S.keep K2 id fun _ h=>h.keep K2 id;obtain⟨cs3,tag3,hP,hl3,happ,K3,_,S3⟩:=fX.push (T:=T) (t:=28) (e:=58) rfl rfl rfl rfl ZM rfl ZM S2 (x:=.agg [.str w.module,rv]) (by
   show (_&&(ay (.str w.module)&&(ay rv&&true)))=true;rw[V2.okC];rfl) (XM (Xy _ (show A.length+1<=10000000 by omega)) ZM)
  have H3:=hQ K3 (fun k hk=>hk) H2;have S4:=S3.mono (c':=fun cs=>vE tag3 _ (A++[w]) cs) fun cs' h=>by rw[h];exact (hP.keep K3 ZL).snoc (V2.keep K3 ZL)
  have hw1:IntKind.i64.wrap ((A.length:Int)+1)=((A++[w]).length:Nat):=by rw[aS ZL ZL];simp
  obtain⟨h',tag',ov',k1,k2,k3⟩:=rX Q hQ hS hn hv B (A++[w]) tag3 _ _ ZN H3 (by rw[XI,List.length_singleton];exact S4);refine⟨h',tag',ov',?_,k2,k3⟩;have f0:ah T 58 (.ip [.str w.module,av]) 0=some (.ip [.str w.module,av]):=rfl;have f1:ah T 58 (.ip [.str w.module,av]) 1=some (.ip [av]):=rfl;have l0:ax T 9 (.ip [.str w.module,av])=some (.str w.module):=rfl;have l1:ax T 23 (.ip [av])=some av:=rfl;rw[FL111_0];simp -implicitDefEqProofs only[L111_0,ao,au,aB,ae,ai,Xp,Xr h1,hix];rw[ap hld,aZ hok2,aj];simp -implicitDefEqProofs only[aI,f0,f1,l0,l1,ae,bj,hw1];rw[ap ((xI av h).trans e2),wy _ V2,ae,tj,ae,ap happ];exact k1
def EM{sv:AV}{st:List Vars}(Q:(Nat->Nat)->Hp->Prop)(hQ:∀ {tag tag':Nat->Nat} {h h':Hp} {ks:Nat->Prop},Kp tag tag' ks h h'->(∀k,ks k->k=9)->Q tag h->Q tag' h')(hS:∀ {tag:Nat->Nat} {h:Hp},Q tag h->fX tag 5 2 st.length (fun cs=>om tag h 0 st cs) sv h){tag:Nat->Nat}{h:Hp}(H:Q tag h)(hn:st.length<=1000000)(hv:∀w∈st,w.values.length<=1000000):
  ∃h' tag' ov,af pg 111 [sv] h= .ok ov h'/\Q tag' h'/\fX tag' 9 2 st.length (fun cs=>vE tag' h' st cs) ov h':=by
 obtain⟨h',tag',ov,k1,k2,k3⟩:=rX Q hQ hS hn hv st [] tag h .hn rfl H (.inl ⟨rfl,.inl rfl,rfl⟩);refine⟨h',tag',ov,?_,k2,k3⟩;have hl:bm T 28 sv=some (.int .i64 st.length):=fX.len (T:=T) (t:=28) (e:=58) rfl rfl rfl (fun n'=>rfl) rfl rfl (hS H);simp_all[C111,S111]
def t61{L:MLay}{tag:Nat->Nat}{sv fv dv cv:AV}{vc:List AV}{p:Proc}{h:Hp}(H:MR L tag sv fv dv cv vc p h)(hn:p.state.length<=1000000)(hv:∀w∈p.state,w.values.length<=1000000)(e:Int)(v:Val):
  ∃h',af pg 61 [.hp L.rm 0,.int .i64 e,v.av] h= .ok (.tup []) h'/\IV L (yf p e v) h':=by
 obtain⟨a,b,c,d,rfl⟩:∃a b c d,vc=[a,b,c,d]:=by
  have:=H.vo.len
  match vc,this with
  |[a,b,c,d],_=>grind
 obtain⟨s1,E1⟩:=H.eq.store (T:=T) (t:=4) rfl (k:=0+0+12) (x:=.bool true) rfl (by show (_:Nat)<=15;decide) ZM (row':=[mods p.mods,sv,fv,ints p.world,.int .i64 p.out.err,a,b,c,d,dv,cv,.hn,.bool true,.mp L.ri,.mp L.rf]) rfl;obtain⟨s2,E2⟩:=E1.store (T:=T) (t:=29) rfl (k:=0+0+2) (x:=.sl []) rfl ZN ZM (row':=[mods p.mods,sv,.sl [],ints p.world,.int .i64 p.out.err,a,b,c,d,dv,cv,.hn,.bool true,.mp L.ri,.mp L.rf]) rfl;have g1:=bL (T:=T) (t:=28) rfl rfl (k:=0+0+1) E2.row (v:=sv) rfl;obtain⟨h3,tag3,ov,c1,E3,S3⟩:=EM (fun tag h=>EQ L tag _ sv dv cv p h) (fun K hk H=>H.keep K hk) (fun H=>H.st) E2 hn hv;obtain⟨s4,E4⟩:=E3.store (T:=T) (t:=30) rfl (k:=0+0+4+0) (x:=.int .i64 e) rfl ZN ZM (row':=[mods p.mods,sv,.sl [],ints p.world,.int .i64 e,a,b,c,d,dv,cv,.hn,.bool true,.mp L.ri,.mp L.rf]) rfl;obtain⟨s5,E5⟩:=E4.store (T:=T) (t:=33) rfl (k:=0+0+4+1) (x:=v.av) (dV v) ZP ZM (row':=[mods p.mods,sv,.sl [],ints p.world,.int .i64 e]++aa v.av++[dv,cv,.hn,.bool true,.mp L.ri,.mp L.rf]) (by rw[bH];rfl);have hov:bT 1 ov=true/\aa ov=[ov]:=by
  rcases S3 with⟨_,rfl|rfl,_⟩|⟨r,_,_,rfl,_⟩<;>exact⟨rfl,rfl⟩
 obtain⟨s6,E6⟩:=E5.store (T:=T) (t:=28) rfl (k:=0+0+4+7) (x:=ov) hov.1 ZP ZM (row':=vO L (yf p e v) sv dv cv ov) (by
  rw[hov.2];unfold vO yf;rw[bH];rfl)
 have K:Kp tag3 tag3 (fun k=>k=0) h3 _:=W8 E3.tm [mods p.mods,sv,.sl [],ints p.world,.int .i64 e,a,b,c,d,dv,cv,.hn,.bool true,.mp L.ri,.mp L.rf];have K5:=W8 (h:=h3.set L.rm [mods p.mods,sv,.sl [],ints p.world,.int .i64 e,a,b,c,d,dv,cv,.hn,.bool true,.mp L.ri,.mp L.rf]) E4.tm ([mods p.mods,sv,.sl [],ints p.world,.int .i64 e]++aa v.av++[dv,cv,.hn,.bool true,.mp L.ri,.mp L.rf]);have K6:=W8 (h:=(h3.set L.rm [mods p.mods,sv,.sl [],ints p.world,.int .i64 e,a,b,c,d,dv,cv,.hn,.bool true,.mp L.ri,.mp L.rf]).set L.rm ([mods p.mods,sv,.sl [],ints p.world,.int .i64 e]++aa v.av++[dv,cv,.hn,.bool true,.mp L.ri,.mp L.rf])) E5.tm (vO L (yf p e v) sv dv cv ov);have S4:=S3.keep (c':=fun cs=>vE tag3 _ p.state cs) K ZL fun _ h=>h.keep K ZL;have S5:=S4.keep (c':=fun cs=>vE tag3 _ p.state cs) K5 ZL fun _ h=>h.keep K5 ZL;have S6:=S5.keep (c':=fun cs=>vE tag3 _ p.state cs) K6 ZL fun _ h=>h.keep K6 ZL;refine⟨_,?_,⟨tag3,sv,dv,cv,ov,⟨E6.row,E6.tm,E6.st,E6.ds,E6.cs⟩,S6,rfl,rfl⟩⟩;have hld:ax T 33 (.ip (aa v.av))=some v.av:=by cases v;rfl
 rw[C61,S61];simp -implicitDefEqProofs only[aJ,ae,FH81_0,FH39_5,FH39_2,FH39_1,FH39_4,FH37_0,FH37_1,FH37_4,hld];rw[ap s1,ap s2,ap g1,ap c1,ap s4,ap s5,ap s6];rfl
def B3(q n:Nat)(hn:0<n):cU T 29 (.hs q 0 (n+1) 5 true) none (some (.int .i64 (n:Int))) none=some (.hs q 0 n 5 true):=by
 show (match ct (some (.int .i64 (n:Int))) (n+1) (n+1)with|none=>none|some h=>match ct none 0 h with|none=>none|some l'=>if 5=5 then(if l'<h then some (AV.hs q (0+l'*5) (h-l') 5 true)else some (AV.sl []))else none)=_;simp only[ct]
 grind
theorem t59{L:MLay}{tag:Nat->Nat}{sv fv dv cv:AV}{vc:List AV}{p:Proc}{h:Hp}(H:MR L tag sv fv dv cv vc p h){fs:List Frm}{f:Frm}(hp:p.frames=fs++[f])(hn:p.state.length<=1000000)(hv:∀w∈p.state,w.values.length<=1000000)(hfb:fs.length<1000000)(hsb:∀g∈fs,g.stack.length<1000000000)(v:Val):
  if fs=[]then ∃h',af pg 59 [.hp L.rm 0,v.av] h= .ok (.tup []) h'/\IV L (yf p 0 v) h'
  else ∃h',af pg 59 [.hp L.rm 0,v.av] h= .ok (.tup []) h'/\vI L { p with frames:=fs.dropLast++[{ fs[fs.length-1]! with stack:=fs[fs.length-1]!.stack++[v] }] } h':=by
 obtain⟨q,A,B,lv,stv,rfl,hAl,hA,F,hB⟩:=H.focus hp;have g1:bb T 29 (.hp L.rm (0+0+2)) h= .ok (.hs q 0 (fs.length+1) 5 true) h:=H.get (T:=T) (t:=29) rfl rfl rfl;have hl:bm T 29 (.hs q 0 (fs.length+1) 5 true)=some (.int .i64 ((fs.length+1:Nat):Int)):=rfl;have hld:ax T 33 (.ip (aa v.av))=some v.av:=by cases v;rfl
 generalize hc:af pg 59 [.hp L.rm 0,v.av] h=code;rw[C59,S59]at hc;simp -implicitDefEqProofs only[aJ,ae,FH81_0,FH39_2,hld]at hc;rw[ap g1]at hc;simp -implicitDefEqProofs only[hl,ae,aH,ai]at hc;by_cases h0:fs=[]
 ·subst h0;rw[Xr rfl];rw[Xr (by rfl)]at hc;obtain⟨h',e1,e2⟩:=t61 H hn hv 0 v;rw[ap e1]at hc;exact⟨h',hc.symm,e2⟩
 ·rw[Xn h0];have hpos:0<fs.length:=Yl.2 h0;rw[Xn ZN,ap g1,ap g1]at hc;have hs:cz T .sub 3 (.int .i64 ((fs.length+1:Nat):Int)) (.int .i64 1)=some (.int .i64 (fs.length:Int)):=by
   have:=tg (fs.length+1) 1 ZL ZL
   rw[show (((fs.length+1:Nat):Int)-((1:Nat):Int))=(fs.length:Int) by omega]at this;exact this
  simp -implicitDefEqProofs only[hl,hs,B3 q fs.length hpos,ae]at hc;obtain⟨gs,g,hgs⟩:∃gs g,fs=gs++[g]:=⟨fs.dropLast,fs.getLast h0,(Y3 h0).symm⟩;have K0:Kp tag tag (fun _=>False) h h:=fun r cs hr _=>⟨hr,rfl⟩;obtain⟨m1,R1⟩:=H.mk2 (p':={ p with frames:=fs }) (sv':=sv) (fv':=.hs q 0 fs.length 5 true) (dv':=dv) (cv':=cv) (vc':=vc) K0 id id H.st
   (.inr ⟨q,A,iO f lv stv++B,rfl,F.tq,by rw[<- Yd];exact F.row,by simp[iO],hAl,by
    rw[YV,YV,hA.ok,hB];simp only[iO,XL,Zm,F.lo.okC,F.st.okC];rfl,hA⟩) H.ds H.cs H.vo H.so
  have s1:bU T 29 (.hp L.rm (0+0+2)) (.hs q 0 fs.length 5 true) h= .ok (.tup []) (h.set L.rm (fC L p sv (.hs q 0 fs.length 5 true) dv cv vc)):=by
   rw[bX (T:=T) (t:=29) rfl m1 rfl (by rw[lW H.vo.len];decide) ZM];rfl
  rw[ap s1]at hc;have R1':MR L tag sv (.hs q 0 fs.length 5 true) dv cv vc { p with frames:=fs } (h.set L.rm (fC L p sv (.hs q 0 fs.length 5 true) dv cv vc)):=R1;obtain⟨q2,A2,B2,lv2,stv2,e2,hAl2,hA2,F2,hB2⟩:=R1'.focus (fs:=gs) (f:=g) hgs;have hq:q2=q:=by injection e2 with e;exact e.symm
  subst hq;rw[show fs.length=gs.length+1 by rw[hgs];simp]at R1' hc;have t1:=t58 R1' ZN;rw[ap t1]at hc;rw[show fs.length=gs.length+1 by rw[hgs];simp]at F2 hA2;obtain⟨h3,tag3,sv3,p1,p2,p3⟩:=t115 F2 v (hsb g (by rw[hgs];simp));rw[hAl2]at p1;rw[ap p1]at hc;have R3:=R1'.unfocus hA2 (p3.mono fun k hk=>ZN) p2 hB2;have el:fs[fs.length-1]! = g:=by rw[hgs];simp
  have ed:fs.dropLast=gs:=by rw[hgs];simp
  rw[el,ed];exact⟨h3,hc.symm,⟨tag3,_,_,_,_,_,R3⟩⟩
theorem JC(x:Fnc):oZ T 76 x.av 2=some x.cod.av:=rfl
theorem JB(c:Cod):oZ T 74 c.av 3=some (nA c.code):=rfl
def Jx{p:Proc}{fs:List Frm}{f:Frm}{i:Ins}{e:Int}(h:mS p fs f i= .error e):e≠0:=by
 unfold mS at h;simp only at h;by_cases h0:i.op=0
 ·grind
 rw[Xn h0]at h;by_cases h1:i.op=1
 ·grind
 rw[Xn h1]at h;by_cases h2:i.op=2
 ·grind
 rw[Xn h2]at h;by_cases h3:i.op=3
 ·grind
 rw[Xn h3]at h;by_cases h19:i.op=19
 ·grind
 rw[Xn h19]at h;by_cases h10:i.op=10
 all_goals grind
theorem t29{L:MLay}{tag:Nat->Nat}{sv fv dv cv:AV}{vc:List AV}{p:Proc}{h:Hp}(H:MR L tag sv fv dv cv vc p h)(M:MapOk T 78 79 L p.mods){fs:List Frm}{f:Frm}(hp:p.frames=fs++[f]){x:Fnc}(hx:fh p.mods f.mod f.fn=some x){k:Nat}(hpc:f.pc=(k:Int))(hk:k<x.cod.code.length)(hkb:x.cod.code.length<=1000000)(hn:p.state.length<=1000000)(hv:∀w∈p.state,w.values.length<=1000000)(hfb:fs.length<1000000)(hsb:∀g∈fs,g.stack.length<1000000000)(hb:f.stack.length<1000000000)(hret:x.cod.code[k]!.op=18->1<=f.stack.length)(C:x.cod.code[k]!.op≠18->StepOk { p with frames:=fs++[{ f with pc:=f.pc+1 }] } { f with pc:=f.pc+1 } x.cod.code[k]!):
  ∃h',af pg 29 [.hp L.rm 0] h= .ok (.tup []) h'/\(vI L (vg p fs f) h'\/IV L (vg p fs f) h'):=by
 obtain⟨q,A,B,lv,stv,rfl,hAl,hA,F,hB⟩:=H.focus hp;have e1:=t58 H hfb;rw[<- hAl]at e1;have g1:bb T 79 (.hp L.rm (0+14)) h= .ok (.mp L.rf) h:=H.get (T:=T) (t:=79) rfl rfl (nZ H.vo.len 5);have g2:bb T 9 (.hp q (A.length+0)) h= .ok (.str f.mod) h:=F.get (T:=T) (t:=9) rfl rfl (k:=0) rfl;have g3:bb T 9 (.hp q (A.length+1)) h= .ok (.str f.fn) h:=F.get (T:=T) (t:=9) rfl rfl (k:=1) rfl;have g4:bb T 3 (.hp q (A.length+2)) h= .ok (.int .i64 (k:Int)) h:=by rw[<- hpc];exact F.get (T:=T) (t:=3) rfl rfl (k:=2) rfl
 have g5:=M.fn1 h H.rf f.mod f.fn x hx;have hw:IntKind.i64.wrap ((k:Int)+1)=f.pc+1:=by rw[hpc,aS ZL ZL]
 obtain⟨h2,s1,F2,K2⟩:=CK F (f.pc+1);have hA2:=hA.keep K2 fun j _ _=>ZN
 have R2:=H.unfocus hA (K2.mono fun k hk=>.inl hk) F2 hB;have hi:((fh p.mods f.mod f.fn).map fun x=>x.cod.code[f.pc.toNat]!).getD default=x.cod.code[k]!:=by
  rw[hx,hpc];rfl
 have hix:=RH hk;unfold vg;simp only[hi];generalize x.cod.code[k]! = i at hix C hret |-;generalize hc:af pg 29 [.hp L.rm 0] h=code;rw[C29,S29,ap e1]at hc;simp -implicitDefEqProofs only[aJ,ae,FH81_2,FH62_0,FH62_1,FH62_2]at hc;rw[ap g1,ap g2,ap g3,wx,ae,ap g5,JC,ae,JB,ae,ap g4,hix,ae,FX,ae,Tc,aj,ap g4,bj,hw,ae,ap s1,fJ0,ae,vS,ae,aH,ae,ai]at hc;by_cases h18:i.op=18
 ·rw[Xr h18];rw[Xr (by simp[h18])]at hc;have h1:=hret h18;obtain⟨r,rest,rfl,hr,hcs,_⟩:=nY F2.st (show 0<f.stack.length by omega);have gs:bb T 23 (.hp q (A.length+4)) h2= .ok (.hs r 0 f.stack.length 4 true) h2:=F2.get (T:=T) (t:=23) rfl rfl (k:=4) rfl;have hls:bm T 23 (.hs r 0 f.stack.length 4 true)=some (.int .i64 f.stack.length):=rfl;have hsub:cz T .sub 3 (.int .i64 (f.stack.length:Int)) (.int .i64 1)=some (.int .i64 ((f.stack.length-1:Nat):Int)):=by
   have:=tg f.stack.length 1 ZL ZL
   rw[show ((f.stack.length:Int)-((1:Nat):Int))=((f.stack.length-1:Nat):Int) by omega]at this;exact this
  have ix2:=RJ r f.stack.length ((f.stack.length-1:Nat):Int) ZL ZL;have lv2:bb T 33 (.hp r (0+(((f.stack.length-1:Nat):Int)).toNat*4)) h2= .ok (f.stack[f.stack.length-1]!).av h2:=by
   rw[XE,Xw,nD (T:=T) (t:=33) rfl rfl rfl hcs (show f.stack.length-1<f.stack.length by omega),Xv f.stack _ ZL]
  simp -implicitDefEqProofs only[aJ,ae,FH62_4]at hc;rw[ap gs,ap gs,hls,ae,hsub,ae,ix2,ae,ap lv2]at hc;have k:=t59 R2 (fs:=fs) (f:={ f with pc:=f.pc+1 }) rfl hn hv hfb hsb f.stack[f.stack.length-1]!;by_cases h0:fs=[]
  ·rw[Xr h0]at k |-;obtain⟨h',k1,k2⟩:=k;rw[ap k1]at hc;exact⟨h',hc.symm,.inr k2⟩
  ·rw[Xn h0]at k |-;obtain⟨h',k1,k2⟩:=k;rw[ap k1]at hc;exact⟨h',hc.symm,.inl k2⟩
 ·rw[Xn h18];rw[Xn (by simp[h18]),FX,ae]at hc;have k:=t60 R2 M (f:={ f with pc:=f.pc+1 }) rfl hA2 F2 hB i (C h18);rw[show mS { p with frames:=fs++[{ f with pc:=f.pc+1 }] } fs { f with pc:=f.pc+1 } i=mS p fs { f with pc:=f.pc+1 } i from rfl]at k;cases hd:mS p fs { f with pc:=f.pc+1 } i with
  |ok p'=>
   rw[hd]at k;obtain⟨h',k1,k2⟩:=k;rw[ap k1,gw,ae,ai,Xn ZM]at hc;exact⟨h',hc.symm,.inl k2⟩
  |error e=>
   rw[hd]at k;obtain⟨h',k1,tag',sv',fv',dv',cv',vc',R'⟩:=k;have hne:=Jx hd;have hz:cE T false 33 []=some (default:Val).av:=rfl;rw[ap k1,gw,ae,ai,Xr (by simp[hne]),hz,ae]at hc;obtain⟨h'',m1,m2⟩:=t61 R' hn hv e default;rw[ap m1]at hc;exact⟨h'',hc.symm,.inr m2⟩
theorem qv:∀l:List Val,(∀v∈l,Rv v)->cV l<=l.length*200000
 |[],_=>by simp[cV]
 |v:: l,h=>by
  have h1:=uQ (h v List.mem_cons_self);have h2:=qv l fun w hw=>h w (YO _ hw)
  grind [cV]
theorem sg{v:Val}(h:Rv v):v.names.length=v.values.length:=by
 unfold Rv cM at h
 grind
def FM{p:Proc}(H:RightP p)(P:PBd p.mods){k:Nat}(S:SzP k p)(hk:k<1000000){fs:List Frm}{f:Frm}{x:Fnc}(T:TopOk p.mods f x)(h18:x.cod.code[f.pc.toNat]!.op≠18):
  StepOk { p with frames:=fs++[{ f with pc:=f.pc+1 }] } { f with pc:=f.pc+1 } x.cod.code[f.pc.toNat]!:=by
 have I:=T.ins;have hst:=xB P T;have hl:=T.loc.1;obtain⟨i,hi⟩:∃i,x.cod.code[f.pc.toNat]! = i:=⟨_,rfl⟩;rw[hi]at I h18 |-;have hform:=I.form;have hneed:=I.need;refine⟨hst,Y9 S.deeds hk,Y9 S.calls hk,?_,?_,?_,?_,?_,?_,?_,?_⟩
 ·grind [bG]
 ·grind [aF]
 ·grind [aF]
 ·intro h;show i.names.length<=f.stack.length/\(Val.mk 2 0 i.names (f.stack.drop (f.stack.length-i.names.length))).sz<=1099511627776;have hn:(aF i).1=i.names.length:=by simp[aF,h]
  have h8:=(gh hform).2.1;have hv:=qv (f.stack.drop (f.stack.length-i.names.length)) fun v hv=>T.stk.2 v (YP hv);rw[ZE]at hv;refine⟨ZL,?_⟩;show 1+i.names.length+cV _<=_
  grind
 ·intro h;have hn:(aF i).1=i.a:=by simp[aF,h]
  have:=(gh hform).1
  refine⟨⟨ZL,?_⟩,fun s x hx=>(P.code s i.s x hx).2⟩
  grind
 ·intro h;have F:=lp T.fnc;obtain⟨b1,b2,b3⟩:=ll H.st;have hlt:(dD p.mods f.mod).toNat<p.state.length:=by rw[b1];exact F.lt
  refine⟨by have:=F.ge;grind,?_,p.state[(dD p.mods f.mod).toNat],XC hlt,?_⟩
  ·grind [bG]
  ·have:=(jz P H.st).2 _ (XB hlt)
   omega
 ·show f.stack[f.stack.length-1]!.names.length=f.stack[f.stack.length-1]!.values.length/\_;have hr:Rv f.stack[f.stack.length-1]!:=by
   by_cases h0:0<f.stack.length
   ·exact T.stk.2 _ (nz ZL)
   ·grind [pq]
  grind [sg,pp]
 grind [bG,wq]
def IA{L:MLay}{p:Proc}{h:Hp}(R:vI L p h)(M:MapOk T 78 79 L p.mods)(H:RightP p)(he:p.ended=false)(P:PBd p.mods){k:Nat}(S:SzP k p)(hk:k<1000000):
  ∃h',af pg 29 [.hp L.rm 0] h= .ok (.tup []) h'/\(vI L (jW p) h'\/IV L (jW p) h'):=by
 obtain⟨fs,f,x,hp,hc,T⟩:=l7 H he;obtain⟨tag,sv,fv,dv,cv,vc,R⟩:=R;have hst:=jz P H.st;have hpc:f.pc=(f.pc.toNat:Int):=by have:=T.pc;omega
 have hfr:=mP H P;have hlen:=H.len;rw[hp]at hfr hlen;simp only[XI,List.length_singleton]at hlen
 have:=t29 R M hp T.fnc hpc (by have:=T.pc;omega) (P.code _ _ _ T.fnc).1 hst.1 (fun w hw=>(hst.2 w hw).1) ZL (fun g hg=>ZN) ZN (fun h18=>by rw[T.ins.ret h18];grind) (fun h18=>FM H P S hk T h18)
 rw[vf hp];exact this
theorem pX{st:List Vars}(g:Nat->Nat)(kO:Nat)(hg:∀j,g j≠kO)(Q:(Nat->Nat)->Hp->Prop)(hQ:∀ {tag tag':Nat->Nat} {h h':Hp} {ks:Nat->Prop},Kp tag tag' ks h h'->(∀k,ks k->k=kO)->Q tag h->Q tag' h')(hn:st.length<=1000000)(hv:∀w∈st,w.values.length<=1000000):∀(B A:List Vars)(tag:Nat->Nat)(h:Hp)(ov:AV),A++B=st->Q tag h->fX tag kO 2 A.length (fun cs=>GR g tag h 0 A cs) ov h->(A=[]->ov= .hn)->
  ∃h' tag' ov',ak (L111_0 (af pg) ak) [ov,br st,.int .i64 st.length,.int .i64 A.length] h= .ok ov' h'/\Q tag' h'/\fX tag' kO 2 st.length (fun cs=>GR g tag' h' 0 st cs) ov' h'/\(st=[]->ov'= .hn)
 |[],A,tag,h,ov,e,H,S,hz=>by
  rw[XN]at e;subst e;have h1:¬((A.length:Int)<(A.length:Int)):=ZL
  refine⟨h,tag,ov,?_,H,S,hz⟩;rw[FL111_0];simp -implicitDefEqProofs only[L111_0,ao,au,aB,ae,ai,Xp,Xn h1];rfl
 | w:: B,A,tag,h,ov,e,H,S,_=>by
  have hlen:A.length+(B.length+1)=st.length:=by rw[<- e];simp
  have h1:(A.length:Int)<(st.length:Int):=ZL
  have hw:st[A.length]? = some w:=by rw[<- e];simp
  have hwm:w∈st:=X7 hw;have hix:aA T 28 (br st) (.int .i64 (A.length:Int))=some (.ip (aa w.av)):=by
   have:=bp (T:=T) (t:=28) (e:=58) (f:=Vars.av) (l:=st) (n:=(A.length:Int)) rfl rfl rfl (fun _=>rfl) ZL h1
   rw[Xw,Xv st A.length ZL]at this;rw[(Xx.1 hw).2]at this;exact this
  have hld:bb T 58 (.ip (aa w.av)) h= .ok w.av h:=rfl;have hok2:bT 2 w.av=true:=rfl;obtain⟨h2,tag2,rv,e2,K2,V2⟩:=mo (T:=T) (t:=23) (e:=33) rfl rfl rfl rfl rfl ZM (af pg) tag h w.values (XM (Xy _ (hv w hwm)) ZM) (g A.length);have H2:=hQ K2 (fun k hk=>hk.elim) H;have S2:fX tag2 kO 2 A.length (fun cs=>GR g tag2 h2 0 A cs) ov h2:=S.keep K2 id fun _ h=>h.keep K2 fun _=>id;obtain⟨cs3,tag3,hP,hl3,happ,K3,_,S3⟩:=fX.push (T:=T) (t:=28) (e:=58) rfl rfl rfl rfl ZM rfl ZM S2 (x:=.agg [.str w.module,rv]) (by
   show (_&&(ay (.str w.module)&&(ay rv&&true)))=true;rw[V2.okC];rfl) (XM (Xy _ (show A.length+1<=10000000 by omega)) ZM)
  have H3:=hQ K3 (fun k hk=>hk) H2;have S4:=S3.mono (c':=fun cs=>GR g tag3 _ 0 (A++[w]) cs) fun cs' h=>by rw[h];exact (hP.keep K3 hg).snoc (by rw[XE];exact V2.keep K3 (hg _))
  have hw1:IntKind.i64.wrap ((A.length:Int)+1)=((A++[w]).length:Nat):=by rw[aS ZL ZL];simp
  obtain⟨h',tag',ov',k1,k2,k3,k4⟩:=pX g kO hg Q hQ hn hv B (A++[w]) tag3 _ _ ZN H3 (by rw[XI,List.length_singleton];exact S4) ZO;refine⟨h',tag',ov',?_,k2,k3,k4⟩;have f0:ah T 58 (.ip [.str w.module,vals w.values]) 0=some (.ip [.str w.module,vals w.values]):=rfl;have f1:ah T 58 (.ip [.str w.module,vals w.values]) 1=some (.ip [vals w.values]):=rfl;have l0:ax T 9 (.ip [.str w.module,vals w.values])=some (.str w.module):=rfl;have l1:ax T 23 (.ip [vals w.values])=some (vals w.values):=rfl;have ea:aa w.av=[.str w.module,vals w.values]:=rfl;rw[FL111_0];simp -implicitDefEqProofs only[L111_0,ao,au,aB,ae,ai,Xp,Xr h1,hix];rw[ap hld,aZ hok2,aj];simp -implicitDefEqProofs only[aI,ea,f0,f1,l0,l1,ae,bj,hw1];rw[ap ((xI (vals w.values) h).trans e2),wy _ V2,ae,tj,ae,ap happ];exact k1
theorem Ds{st:List Vars}(g:Nat->Nat)(kO:Nat)(hg:∀j,g j≠kO)(Q:(Nat->Nat)->Hp->Prop)(hQ:∀ {tag tag':Nat->Nat} {h h':Hp} {ks:Nat->Prop},Kp tag tag' ks h h'->(∀k,ks k->k=kO)->Q tag h->Q tag' h'){tag:Nat->Nat}{h:Hp}(H:Q tag h)(hn:st.length<=1000000)(hv:∀w∈st,w.values.length<=1000000):
  ∃h' tag' ov,af pg 111 [br st] h= .ok ov h'/\Q tag' h'/\fX tag' kO 2 st.length (fun cs=>GR g tag' h' 0 st cs) ov h'/\(st=[]->ov= .hn):=by
 obtain⟨h',tag',ov,k1,k2,k3,k4⟩:=pX g kO hg Q hQ hn hv st [] tag h .hn rfl H (.inl ⟨rfl,.inl rfl,rfl⟩) (fun _=>rfl);refine⟨h',tag',ov,?_,k2,k3,k4⟩;have hl:bm T 28 (br st)=some (.int .i64 st.length):=by
  have h:bm T 28 (br st)=some (.int .i64 (st.map Vars.av).length):=rfl;rw[h,Yt]
 simp_all[C111,S111]
def bh:List Mod->Nat->List AV
 |[],_=>[]
 |m:: l,i=>.tup [.str m.name,.int .i64 (i:Int)]:: bh l (i+1)
theorem ud:∀(A B:List Mod)(i:Nat),bh (A++B) i=bh A i++bh B (i+A.length)
 |[],B,i=>rfl
 |m:: A,B,i=>by
  show _:: bh (A++B) (i+1)=_;rw[ud A B (i+1),show i+1+A.length=i+(m:: A).length by simp;omega];rfl
theorem Nb(a b:aW):qI T 20 9 (.str a) (.str b)=some (a== b):=rfl
theorem pL(s:aW):∀(l:List Mod)(i j:Nat),((l.any fun m=>m.name== s)=false/\eM T 9 (.str s) (bh l i) j=some none)\/((l.any fun m=>m.name== s)=true/\∃(a:Nat)(k:AV),eM T 9 (.str s) (bh l i) j=some (some (a,k,.int .i64 (aY (fun m:Mod=>m.name== s) l (i:Int)))))
 |[],i,j=>.inl ⟨rfl,rfl⟩
 | m:: l,i,j=>by
  show (_/\eM T 9 (.str s) (.tup [.str m.name,.int .i64 (i:Int)]:: bh l (i+1)) j=_)\/(_/\∃(a:Nat)(k:AV),eM T 9 (.str s) (.tup [.str m.name,.int .i64 (i:Int)]:: bh l (i+1)) j=_);unfold eM;rw[Nb,List.any_cons];have hc:(s== m.name)=(m.name== s):=Yy.2 ⟨fun h=>Yb.2 (Yb.1 h).symm,fun h=>Yb.2 (Yb.1 h).symm⟩;rw[hc];cases hx:m.name== s with
  |true=>exact .inr ⟨rfl,j,.str m.name,by simp[aY,hx]⟩
  |false=>
   have e:aY (fun m:Mod=>m.name== s) (m:: l) (i:Int)=aY (fun m:Mod=>m.name== s) l ((i+1:Nat):Int):=by simp[aY,hx]
   rw[e];exact pL s l (i+1) (j+1)
theorem HG{h:Hp}{r:Nat}{p:List Mod}(hr:h[r]? = some [.tup (bh p 0)])(s:aW)(h0:0<=dD p s):d9 T 78 (.mp r) (.str s) false h= .ok (.int .i64 (dD p s)) h:=by
 have e:oH T 78 (bh p 0) (.str s) false=(match eM T 9 (.str s) (bh p 0) 0 with
   |some (some (_,_,v))=>some v
   |some none=>some (.int .i64 0)
   |none=>none):=rfl
 unfold d9 mT;simp only[hr];rw[e];rcases pL s p 0 0 with⟨h1,h2⟩|⟨h1,j,k,h2⟩
 ·have:=(ub (fun m:Mod=>m.name== s) p 0 ZL).1 h0
  grind
 ·rw[h2];rfl
theorem Fi{h:Hp}{r:Nat}{p:List Mod}(hr:h[r]? = some [.tup (bh p 0)])(s:aW):∃v,d9 T 78 (.mp r) (.str s) true h= .ok (.tup [v,.bool (p.any fun m=>m.name== s)]) h:=by
 have e:oH T 78 (bh p 0) (.str s) true=(match eM T 9 (.str s) (bh p 0) 0 with
   |some (some (_,_,v))=>some (.tup [v,.bool true])
   |some none=>some (.tup [.int .i64 0,.bool false])
   |none=>none):=rfl
 grind [d9,mT,pL]
theorem Ke{h:Hp}{r:Nat}{p:List Mod}(hr:h[r]? = some [.tup (bh p 0)])(m:Mod)(hn:(p.any fun x=>x.name== m.name)=false):ou T 78 (.mp r) (.str m.name) (.int .i64 (p.length:Int)) h= .ok (.tup []) (h.set r [.tup (bh (p++[m]) 0)]):=by
 have e:ou T 78 (.mp r) (.str m.name) (.int .i64 (p.length:Int)) h=(match h[r]? with
   |some [.tup es]=>(match vW T 9 es (.str m.name) (.int .i64 (p.length:Int))with
    |some es'=>.ok (.tup []) (h.set r [.tup es'])
    |none=>.fail)
   |_=>.fail):=rfl
 grind [vW,pL,ud,bh]
def ck(l:List F0):List AV:=l.map fun e=>.tup [.agg [.str e.1,.str e.2.1],e.2.2.av]
theorem Dw(a b c d:aW):qI T 20 83 (.agg [.str a,.str b]) (.agg [.str c,.str d])=some (a== c&&b== d):=by
 have e2:qI T 17 9 (.str b) (.str d)=some (b== d):=rfl;have e1:qI T 18 9 (.str a) (.str c)=some (a== c):=rfl;have e:qI T 20 83 (.agg [.str a,.str b]) (.agg [.str c,.str d])=(match qI T 18 9 (.str a) (.str c)with
   |some true=>(match qI T 17 9 (.str b) (.str d)with
    |some true=>some true
    |some false=>some false
    |none=>none)
   |some false=>some false
   |none=>none):=rfl
 grind
theorem sP(s t:aW):∀(l:List F0)(j:Nat),(l.find? (kS s t)=none/\eM T 83 (.agg [.str s,.str t]) (ck l) j=some none)\/∃(e:F0)(a:Nat)(k:AV),l.find? (kS s t)=some e/\eM T 83 (.agg [.str s,.str t]) (ck l) j=some (some (a,k,e.2.2.av))
 |[],j=>.inl ⟨rfl,rfl⟩
 | e:: l,j=>by
  show (_/\eM T 83 (.agg [.str s,.str t]) (.tup [.agg [.str e.1,.str e.2.1],e.2.2.av]:: ck l) j=_)\/∃(e':F0)(a:Nat)(k:AV),_/\eM T 83 (.agg [.str s,.str t]) (.tup [.agg [.str e.1,.str e.2.1],e.2.2.av]:: ck l) j=_;unfold eM;rw[Dw,ZJ];have hc:(s== e.1&&t== e.2.1)=kS s t e:=by
   unfold kS;rw[Yy];simp only[Xq,Yb];exact⟨fun h=>⟨h.1.symm,h.2.symm⟩,fun h=>⟨h.1.symm,h.2.symm⟩⟩
  rw[hc];cases hx:kS s t e with
  |true=>grind
  |false=>exact sP s t l (j+1)
theorem JS{h:Hp}{r:Nat}{l:List F0}(hr:h[r]? = some [.tup (ck l)])(s t:aW){o:Option Fnc}(ho:l.find? (kS s t)=o.map fun x=>(s,t,x)):d9 T 79 (.mp r) (.agg [.str s,.str t]) true h= .ok (.tup [kD o,.bool o.isSome]) h:=by
 have e:oH T 79 (ck l) (.agg [.str s,.str t]) true=(match eM T 83 (.agg [.str s,.str t]) (ck l) 0 with
   |some (some (_,_,v))=>some (.tup [v,.bool true])
   |some none=>some (.tup [kD none,.bool false])
   |none=>none):=rfl
 unfold d9 mT;simp only[hr];rw[e];rcases sP s t l 0 with⟨h1,h2⟩|⟨x,j,k,h1,h2⟩
 ·rw[h2];cases o with
  |none=>rfl
  |some y=>grind
 ·rw[h2];cases o with
  |none=>grind
  |some y=>
   rw[h1]at ho
   have:=Yc ho
   rw[this];rfl
theorem HE{h:Hp}{r:Nat}{l:List F0}(hr:h[r]? = some [.tup (ck l)])(s t:aW){x:Fnc}(ho:l.find? (kS s t)=some (s,t,x)):d9 T 79 (.mp r) (.agg [.str s,.str t]) false h= .ok x.av h:=by
 have e:oH T 79 (ck l) (.agg [.str s,.str t]) false=(match eM T 83 (.agg [.str s,.str t]) (ck l) 0 with
   |some (some (_,_,v))=>some v
   |some none=>some (kD none)
   |none=>none):=rfl
 grind [d9,mT,sP]
theorem N5{h:Hp}{r:Nat}{l:List F0}(hr:h[r]? = some [.tup (ck l)])(s t:aW)(x:Fnc)(hn:l.find? (kS s t)=none):ou T 79 (.mp r) (.agg [.str s,.str t]) x.av h= .ok (.tup []) (h.set r [.tup (ck (l++[(s,t,x)]))]):=by
 have e:ou T 79 (.mp r) (.agg [.str s,.str t]) x.av h=(match h[r]? with
   |some [.tup es]=>(match vW T 83 es (.agg [.str s,.str t]) x.av with
    |some es'=>.ok (.tup []) (h.set r [.tup es'])
    |none=>.fail)
   |_=>.fail):=rfl
 grind [vW,sP,ck]
def map_ok{L:MLay}{p:List Mod}(hi:L.ci=[.tup (bh p 0)])(hf:L.cf=[.tup (ck (aT 0 p))])(hn:(p.map (·.name)).Nodup)(hh:DJ p):MapOk T 78 79 L p where
 idx h hr s h0:=HG (by rw[hr,hi]) s h0
 fn h hr s t:=JS (by rw[hr,hf]) s t (wP s t hn hh)
 fn1 h hr s t x hx:=HE (by rw[hr,hf]) s t (by rw[wP s t hn hh,hx];rfl)
theorem Gj(l:List aW)(i k:Nat)(hk:k=i+1)(h:k<l.length):asc (l.drop i)=(bY (l[i]'(ZL)) l[k]&&asc (l.drop k)):=by
 subst hk;have e1:l.drop i=l[i]:: l.drop (i+1):=List.drop_eq_getElem_cons ZL;have e2:l.drop (i+1)=l[i+1]:: l.drop (i+2):=List.drop_eq_getElem_cons h;rw[e1,e2];rfl
def JX(call)(l:List aW)(hb:l.length<=4611686018427387904):∀(n:Nat)(i:Int),l.length-i.toNat=n->1<=i->ak (L168_0 call ak) [strs l,.int .i64 i]=am (.bool (asc (l.drop (i.toNat-1)))):=by
 intro n
 induction n with
 | zero=>
  intro i hn hi;rw[FL168_0];simp only[L168_0];have h1:¬(i<(l.length:Int)):=ZL
  have h2:asc (l.drop (i.toNat-1))=true:=by
   have:(l.drop (i.toNat-1)).length<=1:=by simp;omega
   match hq:l.drop (i.toNat-1),this with
   |[],_=>rfl
   |[x],_=>rfl
   |x:: y:: r,h=>simp at h
  simp[h1,h2]
 |succ n ih=>
  intro i hn hi;have h1:i<(l.length:Int):=ZL
  rw[FL168_0];simp only[L168_0];simp (disch:=omega) [h1,aS,oO]
  grind [Gj]
def t168(l:List aW)(hb:l.length<=4611686018427387904):af pg 168 [strs l]=am (.bool (asc l)):=by
 rw[C168];simp[S168,JX (af pg) l hb (l.length-1) 1 rfl ZL]
def JU(f:AV)(F:Val->Bool)(l:List Val)(hb:l.length<=4611686018427387904)(hf:∀x∈l,cS (af pg) f [Val.av x]=am (.bool (F x))):∀(n:Nat)(i:Int),l.length-i.toNat=n->0<=i->i<=l.length->
  ak (L107_0 (af pg) ak) [vals l,f,.int .i64 l.length,.int .i64 i]=am (.int .i64 (aY F (l.drop i.toNat) i)):=by
 intro n
 induction n with
 |zero=>
  intro i hn hi hl;rw[FL107_0];simp only[L107_0];have h1:¬(i<(l.length:Int)):=ZL
  have h2:l.drop i.toNat=[]:=List.drop_eq_nil_of_le ZL;simp[h1,h2,aY]
 |succ n ih=>
  intro i hn hi hl;have h1:i<(l.length:Int):=ZL
  have hlt:i.toNat<l.length:=ZL
  have h2:aY F (l.drop i.toNat) i=if F l[i.toNat]=true then i else aY F (l.drop (i.toNat+1)) (i+1):=by rw[List.drop_eq_getElem_cons hlt];rfl
  have h3:=hf l[i.toNat] (XB hlt);have h4:=ih (i+1) ZL ZL ZL;rw[show (i+1).toNat=i.toNat+1 by omega]at h4;rw[FL107_0];simp only[L107_0];simp (disch:=omega) [h1,aS,sY,h3,h2];simp_all
def t107(f:AV)(F:Val->Bool)(l:List Val)(hb:l.length<=4611686018427387904)(hc:∀g,cl g f=f)(hf:∀x∈l,cS (af pg) f [Val.av x]=am (.bool (F x))):af pg 107 [vals l,f]=am (.int .i64 (aY F l 0)):=by
 rw[C107];simp[S107,hc,JU f F l hb hf l.length 0 rfl ZL ZL]
def t47(f:AV)(F:Val->Bool)(l:List Val)(hb:l.length<=4611686018427387904)(hc:∀g,cl g f=f)(hf:∀x∈l,cS (af pg) f [Val.av x]=am (.bool (F x))):af pg 47 [vals l,f]=am (.bool (l.any F)):=by
 rw[C47];simp[S47,hc,t107 f F l hb hc hf,wT]
theorem t108:∀(d:Nat),d<=4->∀(v:Val),v.sz<=4611686018427387904->af pg 108 [v.av,.int .i64 d]=am (.bool (cM d v))
 |0,_,v,_=>by
  rw[C108];simp[S108,cM]
 | d+1,hd,v,hv=>by
  have ih:=t108 d ZL;have h1:=t168 v.names (XM v.sz_names hv);have hf:∀x∈v.values,cS (af pg) (.fn (.func 169) [] [.ip [.int .i64 ((d:Int)+1)]]) [x.av]=am (.bool !(cM d x)):=by
   intro x hx;have hsz:=W9 hx
   have:=ih x ZL
   show af pg 169 [x.av,.ip [.int .i64 ((d:Int)+1)]]=_;rw[C169];simp (disch:=omega) [S169,cl,fl,aS,this,show (d:Int)+1-1=d by omega]
  have h2:=t47 (.fn (.func 169) [] [.ip [.int .i64 ((d:Int)+1)]]) (fun x=>!(cM d x)) v.values (by have:=v.sz_len;omega) (fun g=>rfl) hf;have h0:¬((d:Int)+1=0):=ZL
  rw[C108];simp[S108,cM,h0,h1,h2];have hall:(!v.values.any fun x=>!cM d x)=v.values.all (cM d):=by simp[List.not_any_eq_all_not]
  rw[hall];split
  ·rfl
  ·congr 2
   grind
mutual
def kL:Val->Val->Bool
 |.mk k n ns vs,.mk k' n' ns' vs'=>k== k'&&n== n'&&ns== ns'&&rb vs vs'
def rb:List Val->List Val->Bool
 |[],[]=>true
 |v:: vs,w:: ws=>kL v w&&rb vs ws
 |_,_=>false
end
theorem nM:(a b:List Val)->rb a b=iT kL a b
 |[],[]=>rfl
 |[],_:: _=>rfl
 |_:: _,[]=>rfl
 |v:: a,w:: b=>by simp only[rb,iT,nM a b]
def Ip(v w:Val):kL v w=(v.kind== w.kind&&v.n== w.n&&v.names== w.names&&iT kL v.values w.values):=by
 cases v;cases w;grind [kL,nM,Val.kind,Val.n,Val.names,Val.values]
def t49(v:Val)(hv:v.sz<=4611686018427387904):af pg 49 [v.av]=am (.bool (cM 4 v)):=by
 rw[C49]
 have:=t108 4 ZL v hv
 simp at this;simp[S49,this]
def t48(v:Val)(hv:v.sz<=4611686018427387904):af pg 48 [v.av]=am (.bool (!cM 4 v)):=by
 have hld:ax T 33 (.ip (aa v.av))=some v.av:=by cases v;rfl
 simp_all[C48,S48,t49]
def t22(l:List Val)(n:Int)(hb:l.length<=4611686018427387904)(hv:∀v∈l,v.sz<=4611686018427387904):af pg 22 [vals l,.int .i64 n]=am (.bool (fp l n)):=by
 have ha:=t47 (.fn (.func 48) [] []) (fun v=>!cM 4 v) l hb (fun g=>rfl) (fun v hm=>by
  show af pg 48 ([]++[v.av]++[])=_;exact t48 v (hv v hm))
 have hl:bm T 23 (vals l)=some (.int .i64 l.length):=qy _;rw[C22,show cl aE (vals l)=vals l by simp,show cl aE (.int .i64 n)= .int .i64 n from rfl];simp -implicitDefEqProofs only[S22,hl,ae,aH,ha,aj,bc,aG,ao,bN];rw[show fp l n=(((l.length:Int)== n)&&!(l.any fun v=>!cM 4 v)) by
  grind [fp]]
 simp_all
def Ao{p:List Mod}{k:Nat}(h:k<p.length):aA T 22 (mods p) (.int .i64 (k:Int))=some (.ip (aa (p[k]!).av)):=by
 have:=bp (T:=T) (t:=22) (e:=53) (f:=Mod.av) (l:=p) (n:=(k:Int)) rfl rfl rfl (fun _=>rfl) ZL ZL
 rw[Xw]at this;exact this
def Hl{p:List Vars}{k:Nat}(h:k<p.length):aA T 28 (br p) (.int .i64 (k:Int))=some (.ip (aa (p[k]!).av)):=by
 have:=bp (T:=T) (t:=28) (e:=58) (f:=Vars.av) (l:=p) (n:=(k:Int)) rfl rfl rfl (fun _=>rfl) ZL ZL
 rw[Xw]at this;exact this
def Hj{p:List Frm}{k:Nat}(h:k<p.length):aA T 29 (lx p) (.int .i64 (k:Int))=some (.ip (aa (p[k]!).av)):=by
 have:=bp (T:=T) (t:=29) (e:=62) (f:=Frm.av) (l:=p) (n:=(k:Int)) rfl rfl rfl (fun _=>rfl) ZL ZL
 rw[Xw]at this;exact this
def pU(p:List Mod):bm T 22 (mods p)=some (.int .i64 p.length):=by
 simp_all
def Hy(p:List Vars):bm T 28 (br p)=some (.int .i64 p.length):=by
 simp_all
theorem uq(p:List Frm):bm T 29 (lx p)=some (.int .i64 p.length):=by
 have h:bm T 29 (lx p)=some (.int .i64 (p.map Frm.av).length):=rfl
 grind
theorem Sk(a b:aW):cz T .neq 9 (.str a) (.str b)=some (.bool (a != b)):=rfl
theorem Q1(a b:aW):cz T .eql 9 (.str a) (.str b)=some (.bool (a== b)):=rfl
section
variable (m:Ap.Mod) (w:Vars)
theorem Nk:ah T 53 (.ip (aa m.av)) 0=some (.ip ((aa m.av).drop 0)):=rfl
theorem UO:ah T 53 (.ip (aa m.av)) 2=some (.ip ((aa m.av).drop 2)):=rfl
theorem NE:ax T 9 (.ip ((aa m.av).drop 0))=some (.str m.name):=rfl
theorem Vx:ax T 47 (.ip ((aa m.av).drop 2))=some (bR m.vars):=rfl
theorem Tg:ax T 53 (.ip (aa m.av))=some m.av:=rfl
theorem Re:ah T 58 (.ip (aa w.av)) 0=some (.ip ((aa w.av).drop 0)):=rfl
theorem Np:ah T 58 (.ip (aa w.av)) 1=some (.ip ((aa w.av).drop 1)):=rfl
theorem Se:ax T 9 (.ip ((aa w.av).drop 0))=some (.str w.module):=rfl
theorem NH:ax T 23 (.ip ((aa w.av).drop 1))=some (vals w.values):=rfl
theorem WX:ax T 58 (.ip (aa w.av))=some w.av:=rfl
end
def Gl(m:Ap.Mod)(w:Vars):Bool:=w.module== m.name&&(w.values.length== m.vars.length&&w.values.all (cM 4))
theorem BG(p:List Ap.Mod)(st:List Vars):eD p st=iT Gl p st:=rfl
def t55(p:List Ap.Mod)(st:List Vars)(hp:p.length<=4611686018427387904)(hs:st.length<=4611686018427387904)(hm:∀m∈p,m.vars.length<=4611686018427387904)(hv:∀w∈st,w.values.length<=4611686018427387904/\∀v∈w.values,v.sz<=4611686018427387904):
  af pg 55 [mods p,br st]=am (.bool (eD p st)):=by
 rw[C55,show cl aE (mods p)=mods p by simp,show cl aE (br st)=br st by simp,BG];by_cases hl:p.length=st.length
 ·have hl':((p.length:Int) != (st.length:Int))=false:=by simp[hl]
  have h:=pN (FL55_0 (af pg)) (fun k=>[mods p,br st,.int .i64 st.length,.int .i64 (k:Int)]) p.length (fun k=>Gl p[k]! st[k]!) (by
   simp_all[L55_0]) (fun k hk=>by
   have h1:(k:Int)<(st.length:Int):=ZL
   have hk':k<st.length:=ZL
   have i1:=Hl hk';have i2:=Ao hk;have hw:IntKind.i64.wrap ((k:Int)+1)=((k+1:Nat):Int):=aV ZL;have m1:p[k]! ∈p:=by rw[Xv p k hk];exact XB hk
   have m2:st[k]! ∈st:=by rw[Xv st k hk'];exact XB hk'
   have b1:=hm _ m1;have b2:=hv _ m2;generalize p[k]! = m at i2 b1;generalize st[k]! = w at i1 b2;have r1:=t22 w.values m.vars.length b2.1 b2.2;have c1:cg 2 w.av=am (.agg (aa w.av)):=aZ rfl;have lv:bm T 47 (bR m.vars)=some (.int .i64 m.vars.length):=mc _;have er:fp w.values m.vars.length=(w.values.length== m.vars.length&&w.values.all (cM 4)):=by
    unfold fp;congr 1;rw[Yy];simp;omega
   rw[er]at r1;have eb:Gl m w= !((w.module != m.name)||!(w.values.length== m.vars.length&&w.values.all (cM 4))):=by
    unfold Gl;cases hq:w.module== m.name<;>simp[bne,hq]
   rw[eb];simp -implicitDefEqProofs only[L55_0,ao,au,aB,ae,ai,Xp,Xr h1,i1,WX,c1,aj,aI,Re,Se,i2,Nk,NE,Sk,Np,NH,UO,Vx,lv,r1,dq,bc,aG,dW,bj,hw]
   grind) 0 (XJ _)
  have h':ak (L55_0 (af pg) ak) [mods p,br st,.int .i64 st.length,.int .i64 0]=_:=h;rw[Y2,mh Gl p st hl]at h';simp_all[S55]
 simp_all[nh,S55]
section
variable (f:Frm)
theorem Jz:ah T 62 (.ip (aa f.av)) 0=some (.ip ((aa f.av).drop 0)):=rfl
theorem Nj:ah T 62 (.ip (aa f.av)) 1=some (.ip ((aa f.av).drop 1)):=rfl
theorem EU:ah T 62 (.ip (aa f.av)) 2=some (.ip ((aa f.av).drop 2)):=rfl
theorem Q7:ah T 62 (.ip (aa f.av)) 3=some (.ip ((aa f.av).drop 3)):=rfl
theorem GU:ah T 62 (.ip (aa f.av)) 4=some (.ip ((aa f.av).drop 4)):=rfl
theorem JM:ax T 9 (.ip ((aa f.av).drop 0))=some (.str f.mod):=rfl
theorem ND:ax T 9 (.ip ((aa f.av).drop 1))=some (.str f.fn):=rfl
theorem Fc:ax T 3 (.ip ((aa f.av).drop 2))=some (.int .i64 f.pc):=rfl
theorem RZ:ax T 23 (.ip ((aa f.av).drop 3))=some (vals f.locals):=rfl
theorem Hq:ax T 23 (.ip ((aa f.av).drop 4))=some (vals f.stack):=rfl
theorem Vs:ax T 62 (.ip (aa f.av))=some f.av:=rfl
variable (x:Fnc)
theorem fX3:ah T 76 (.ip (aa x.av)) 3=some (.ip ((aa x.av).drop 6)):=rfl
theorem WY:ax T 24 (.ip ((aa x.av).drop 6))=some (ints x.hts):=rfl
theorem Rh:ah T 74 (.ip ((aa x.av).drop 2)) 3=some (.ip (((aa x.av).drop 2).drop 3)):=rfl
theorem Sg:ax T 72 (.ip (((aa x.av).drop 2).drop 3))=some (nA x.cod.code):=rfl
theorem cX:cg 7 x.av=am (.agg (aa x.av)):=aZ rfl
end
def Hk{l:List Int}{k:Nat}(h:k<l.length):aA T 24 (ints l) (.int .i64 (k:Int))=some (.ip (aa (.int .i64 l[k]!))):=by
 have:=bp (T:=T) (t:=24) (e:=3) (f:=fun n:Int=>AV.int .i64 n) (l:=l) (n:=(k:Int)) rfl rfl rfl (fun _=>rfl) ZL ZL
 rw[Xw]at this;exact this
theorem Vu(n:Int):ax T 3 (.ip (aa (.int .i64 n)))=some (.int .i64 n):=rfl
theorem wo(a b:aW):cE T false 83 [(0,.str a),(1,.str b)]=some (.agg [.str a,.str b]):=rfl
theorem M9(a b c d:aW):cz T .eql 83 (.agg [.str a,.str b]) (.agg [.str c,.str d])=some (.bool (a== c&&b== d)):=by
 have e:cz T .eql 83 (.agg [.str a,.str b]) (.agg [.str c,.str d])=(qI T 20 83 (.agg [.str a,.str b]) (.agg [.str c,.str d])).map .bool:=rfl;rw[e,Dw];rfl
def nE:Option Frm->AV
 |none=>.nilp
 |some g=>.ip (aa g.av)
theorem t56{L:MLay}{p:List Ap.Mod}{h:Hp}{row:List AV}(hr:h[L.rm]? = some row)(h14:row[14]? = some (.mp L.rf))(hf:h[L.rf]? = some L.cf)(MO:MapOk T 78 79 L p)(P:PBd p)(f:Frm)(next:Option Frm)(bl:f.locals.length<=4611686018427387904/\∀v∈f.locals,v.sz<=4611686018427387904)(bs:f.stack.length<=4611686018427387904/\∀v∈f.stack,v.sz<=4611686018427387904):
  af pg 56 [.hp L.rm 0,f.av,nE next] h= .ok (.bool (iZ p f next)) h:=by
 have g1:bb T 79 (.hp L.rm (0+14)) h= .ok (.mp L.rf) h:=bL rfl rfl hr h14;have g2:=MO.fn h hf f.mod f.fn;generalize hc:af pg 56 [.hp L.rm 0,f.av,nE next] h=code;rw[C56]at hc;simp -implicitDefEqProofs only[S56,aJ,ae,FH81_2,Jz,JM,Nj,ND,wo]at hc;rw[ap g1,ap g2]at hc;subst hc;unfold iZ;cases hx:fh p f.mod f.fn with
 |none=>
  have e0:dt (.tup [kD none,.bool false]) 0=some (kD none):=rfl;have e1:dt (.tup [kD none,.bool false]) 1=some (.bool false):=rfl;have c1:cg 7 (kD none)=am (.agg (aa (kD none))):=aZ rfl;simp -implicitDefEqProofs only[Y8,e0,e1,c1,ae,aj,bc,X3,gz,ao,List.replicate,cw,ai,XA];rfl
 | some x=>
  have F:=lp hx;obtain⟨H,_,_⟩:=iE F.hgt;have hcl:=(P.code _ _ _ hx).1;have e0:dt (.tup [kD (some x),.bool true]) 0=some x.av:=rfl;have e1:dt (.tup [kD (some x),.bool true]) 1=some (.bool true):=rfl;have lc:bm T 72 (nA x.cod.code)=some (.int .i64 x.cod.code.length):=AA _;have r1:=t22 f.locals x.cod.locals bl.1 bl.2;simp -implicitDefEqProofs only[Zr,e0,e1,cX,ae,aj,bc,XH,bn,ao,ca,aI,EU,Fc,aB,fX2,Rh,Sg,lc,jl,Q7,RZ,Nr,NJ,r1];by_cases hneg:f.pc<0
  ·have n1:decide (f.pc<0)=true:=XU hneg;have n2:decide (0<=f.pc)=false:=X1 ZL;simp -implicitDefEqProofs only[n1,n2,gz,aj,ao,List.replicate,cw,ae,ai,XA,YB];rfl
  have n1:decide (f.pc<0)=false:=X1 hneg;have n2:decide (0<=f.pc)=true:=XU ZL;by_cases hlt:(x.cod.code.length:Int)<=f.pc
  ·have n3:decide ((x.cod.code.length:Int)<=f.pc)=true:=XU hlt;have n4:decide (f.pc<(x.cod.code.length:Int))=false:=X1 ZL;simp -implicitDefEqProofs only[n1,n2,n3,n4,bn,gz,aj,ao,List.replicate,cw,ca,ae,ai,XA,YB,YZ];rfl
  have n3:decide ((x.cod.code.length:Int)<=f.pc)=false:=X1 hlt;have n4:decide (f.pc<(x.cod.code.length:Int))=true:=XU ZL;cases hrl:fp f.locals x.cod.locals with
  |false=>
   simp -implicitDefEqProofs only[n1,n2,n3,n4,hrl,bn,gz,aj,ao,List.replicate,cw,ca,ae,ai,XA,X3,YB,YZ];rfl
  | true=>
   obtain⟨k,hk⟩:∃k:Nat,f.pc=(k:Int):=⟨f.pc.toNat,ZL⟩;have hkc:k<x.cod.code.length:=ZL
   have hkh:k<x.hts.length:=by rw[H.len];exact hkc
   have i1:=Hk hkh;have ge:=H.ge k hkc;have lo:=H.lo k hkc;rw[hk]at n1 n2 n3 n4 |-;rw[Xw];simp -implicitDefEqProofs only[n1,n2,n3,n4,hrl,bn,aj,ao,ca,ae,ai,XH,Xo,Xu,Yr,fX3,WY,EU,Fc,hk,i1,Vu];generalize x.hts[k]! = ht at ge lo;cases next with
   |none=>
    have en:cz T .eql 133 (nE none) .nilp=some (.bool true):=rfl;have r2:=t22 f.stack ht bs.1 bs.2;simp -implicitDefEqProofs only[en,ae,ai,XA,jl,GU,Hq,r2,aj,aG,ao,bN];rfl
   | some g=>
    have en:cz T .eql 133 (nE (some g)) .nilp=some (.bool false):=rfl;have hw:IntKind.i64.wrap (ht-1)=ht-1:=aS ZL ZL;have r2:=t22 f.stack (ht-1) bs.1 bs.2;simp -implicitDefEqProofs only[en,ae,ai,Xo,Xu,EU,Fc,hk,aH];by_cases h0:k=0
    ·have z1:((k:Int)== 0)=true:=by simp[h0]
     have z2:decide ((k:Int)≠0)=false:=X1 (by simp[h0]);simp -implicitDefEqProofs only[z1,z2,gz,aj,ao,List.replicate,cw,ae,ai,XA,YB];rfl
    have z1:((k:Int)== 0)=false:=by simp[h0]
    have z2:decide ((k:Int)≠0)=true:=XU ZL;cases hrs:fp f.stack (ht-1)with
    |false=>
     simp -implicitDefEqProofs only[z1,z2,bn,aj,ao,ca,ae,ai,GU,Hq,fF,hw,r2,hrs,bc,X3,XA,YB,YZ];rfl
    | true=>
     have hw2:IntKind.i64.wrap ((k:Int)-1)=((k-1:Nat):Int):=by rw[aS ZL ZL];omega
     have i2:=RH (l:=x.cod.code) (n:=k-1) ZL;have ek:((k:Int)-1).toNat=k-1:=ZL
     have cj:∀i:Ins,cg 5 i.av=am (.agg (aa i.av)):=fun i=>aZ rfl;have ng:ke (nE (some g))=some (.ip (aa g.av)):=rfl;simp -implicitDefEqProofs only[z1,z2,bn,aj,ao,ca,ae,ai,GU,Hq,fF,hw,r2,hrs,bc,XH,Xo,Xu,fX2,Rh,Sg,EU,Fc,hk,hw2,i2,FX,cj,aI,fJ3,R5,Q1,jn,ek,Yr,Jz,JM];generalize x.cod.code[k-1]! = i;have key:∀s:aW,K56_0 (af pg) ak [nE (some g),.ip (aa i.av),.str s] h= .ok (.bool (decide (i.op=14)&&decide (s=g.mod)&&decide (i.s=g.fn))) h:=by
      intro s;simp -implicitDefEqProofs only[K56_0,ao,au,fJ0,vS,ae,aH,fJ2,Te,wo,ng,Jz,JM,Nj,ND,M9,aG,aj,bN];have q:(i.op== 14&&(s== g.mod&&i.s== g.fn))=(decide (i.op=14)&&decide (s=g.mod)&&decide (i.s=g.fn)):=by
       rw[Yy];simp[and_assoc]
      rw[q];rfl
     unfold vU
     grind
end Go.Proofs.YtbndmpiddinalaaGreatDoor
