/- What the functions compute, part 7. Conditions: bounds. -/
import Derived.Test.YtbndmpiddinalacGreatDoorTf
set_option linter.defProp false
set_option linter.unusedSimpArgs false
set_option linter.unusedVariables false
namespace Go.Proofs.YtbndmpiddinalacGreatDoor
open Go Go.Av Go.Av.Ap
set_option maxRecDepth 100000
section
variable (x:Fnc)
theorem fX1:ah T 93 (.ip (aa x.av)) 1=some (.ip ((aa x.av).drop 1)):=rfl
theorem fX2:ah T 93 (.ip (aa x.av)) 2=some (.ip ((aa x.av).drop 2)):=rfl
theorem WI:ax T 4 (.ip ((aa x.av).drop 1))=some (.bool x.pub):=rfl
theorem Rq:ah T 91 (.ip ((aa x.av).drop 2)) 0=some (.ip (((aa x.av).drop 2).drop 0)):=rfl
theorem NQ:ah T 91 (.ip ((aa x.av).drop 2)) 1=some (.ip (((aa x.av).drop 2).drop 1)):=rfl
theorem NR:ah T 91 (.ip ((aa x.av).drop 2)) 2=some (.ip (((aa x.av).drop 2).drop 2)):=rfl
theorem Sn:ax T 9 (.ip (((aa x.av).drop 2).drop 0))=some (.str x.cod.func):=rfl
theorem Ob:ax T 3 (.ip (((aa x.av).drop 2).drop 1))=some (.int .i64 x.cod.params):=rfl
theorem Oc:ax T 3 (.ip (((aa x.av).drop 2).drop 2))=some (.int .i64 x.cod.locals):=rfl
end
def dm.shape{tag:Nat->Nat}{h:Hp}{k:Nat}{l:List Val}{v:AV}(H:dm tag k h l v):v= .hn\/v= .he\/∃r,v= .hs r 0 l.length 4 true:=by
 rcases H with⟨_,h,_⟩|⟨r,_,_,h,_⟩
 all_goals grind
def GI{tag:Nat->Nat}{h:Hp}{k:Nat}{l:List Val}(f:Frm){lv:AV}(hf:f.pc=0)(H:dm tag k h l lv):cH T true 44 [(0,.str f.mod),(1,.str f.fn),(3,lv)]=some (.agg (iR f lv .hn)):=by
 unfold iR;rw[hf];rcases dm.shape H with rfl|rfl|⟨r,rfl⟩<;>rfl
theorem EZ(f:Frm)(lv sv:AV):aM T 24 1 [(0,.agg (iR f lv sv))]=some (.sl [.agg (iR f lv sv)]):=rfl
def EX{tag:Nat->Nat}{h:Hp}{k:Nat}{l:List Val}(a b:ba){av:AV}(H:dm tag k h l av):cH T false 65 [(0,.str a),(1,.str b),(2,av)]=some (.agg [.str a,.str b,av]):=by
 rcases dm.shape H with rfl|rfl|⟨r,rfl⟩<;>rfl
theorem BU(a b:ba)(av:AV):aM T 32 1 [(0,.agg [.str a,.str b,av])]=some (.sl [.agg [.str a,.str b,av]]):=rfl
def zB(v:Val):aM T 28 1 [(0,v.av)]=some (.sl [v.av]):=by cases v;rfl
def uE{Q:StP}{L:MLay}{sv fv dv cv:AV}{vc:List AV}{p:Proc}(mod:ba)(x:Fnc)(hfb:p.frames.length<1000000)(hlb:x.cod.locals<=1000000):∀(m:Nat)(args:List Val)(tag:Nat->Nat)(h:Hp)(av:AV),MRG Q L tag sv fv dv cv vc p h->dm tag (11+3*p.frames.length) h args av->
  x.cod.locals.toNat-args.length=m->args.length<=1000000->
  ∃h',ak (L31_0 (af pg) ak) [.hp L.rm 0,.str mod,av,.ip (aa x.av)] h= .ok (.tup []) h'/\Py Q L sv { p with frames:=p.frames++[⟨mod,x.cod.func,0,args++List.replicate m (cg 0),[]⟩] } h'
 | 0,args,tag,h,av,H,V,hm,hb=>by
  have h1:¬((args.length:Int)<x.cod.locals):=Z5
  have g1:bg T 24 (.hp L.rm (0+0+2)) h= .ok fv h:=H.get (T:=T) (t:=24) rfl rfl rfl;obtain⟨h2,tag2,fv2,e2,_,o1,o2,r2,R2⟩:=H.frame (T:=T) (t:=24) (e:=44) rfl rfl rfl rfl rfl Z6 ⟨mod,x.cod.func,0,args,[]⟩ V (stv:=.hn) (.inl ⟨rfl,.inl rfl,rfl⟩) (X4 (XR _ (show p.frames.length+1<=1000000 by omega)) Z6);have s1:bN T 24 (.hp L.rm (0+0+2)) fv2 h2= .ok (.tup []) (h2.set L.rm (fF L p sv fv2 dv cv vc)):=by
   rw[bU (T:=T) (t:=24) rfl r2 o1 (by rw[l6 H.vo.len];decide) Z6,o2,Oi]
  have bf:=GI ⟨mod,x.cod.func,0,args,[]⟩ rfl V;rw[List.replicate_zero,X9];refine⟨_,?_,⟨tag2,_,_,_,_,R2⟩⟩;rw[FL31_0];simp -implicitDefEqProofs only[L31_0,am,au,dm.len V,ae,fX2,NR,Oc,aB,ai,XI,XG h1,aJ,FH73_0,FH36_2];rw[ap g1];simp -implicitDefEqProofs only[fX2,Rq,Sn,ae];rw[bf,ae,EZ,ae,ap e2,ap s1];rfl
 | m+1,args,tag,h,av,H,V,hm,hb=>by
  have h1:(args.length:Int)<x.cod.locals:=Z5
  obtain⟨cs,tag2,rfl,hcl,happ,K,_,HS⟩:=gb.push (T:=T) (t:=28) (e:=30) rfl rfl rfl rfl Z6 rfl Z6 V (d3 (cg 0)) (X4 (XR _ (show args.length+1<=10000000 by omega)) Z6);have H2:=H.keep K fun k hk=>.inl hk;have V2:dm tag2 (11+3*p.frames.length) (oL av h++[aw args++aa (cg 0).av]) (args++[cg 0]) (.hs h.length 0 (args.length+1) 4 true):=by
   have:=gb.mono (c':=fun cs=>cs=aw (args++[cg 0])) (fun cs h=>by rw[h,kv];simp[aw]) HS
   simpa [dm]using this
  obtain⟨h',k1,k2⟩:=uE mod x hfb hlb m (args++[cg 0]) tag2 _ _ H2 V2 WD WD;rw[Yz,show[cg 0]++List.replicate m (cg 0)=List.replicate (m+1) (cg 0)from rfl]at k2;refine⟨h',?_,k2⟩;rw[FL31_0];simp -implicitDefEqProofs only[L31_0,am,au,dm.len V,ae,fX2,NR,Oc,aB,ai,XI,XK h1,t77,aj,zB];rw[ap happ];exact k1
def t31{Q:StP}{L:MLay}{tag:Nat->Nat}{sv fv dv cv:AV}{vc:List AV}{p:Proc}{h:Hp}(H:MRG Q L tag sv fv dv cv vc p h)(mod:ba)(x:Fnc){args:List Val}{av:AV}(V:dm tag (11+3*p.frames.length) h args av)(hfb:p.frames.length<1000000)(hlb:x.cod.locals<=1000000)(hab:args.length<=1000000)(hcb:p.out.calls.length<1000000):
  ∃h',af pg 31 [.hp L.rm 0,.str mod,x.av,av] h= .ok (.tup []) h'/\Py Q L sv (Gl p p.frames mod x args) h':=by
 have go:∀ {tag:Nat->Nat} {sv fv dv cv:AV} {vc:List AV} {p:Proc} {h:Hp},MRG Q L tag sv fv dv cv vc p h->dm tag (11+3*p.frames.length) h args av->p.frames.length<1000000->
   ∃h',K31_0 (af pg) ak [.hp L.rm 0,.str mod,av,.ip (aa x.av)] h= .ok (.tup []) h'/\Py Q L sv { p with frames:=p.frames++[⟨mod,x.cod.func,0,args++List.replicate (x.cod.locals.toNat-args.length) (cg 0),[]⟩] } h':=fun H V hfb=>by
  obtain⟨h',k1,k2⟩:=uE mod x hfb hlb _ args _ _ av H V rfl hab;exact⟨h',k1,k2⟩
 generalize hc:af pg 31 [.hp L.rm 0,.str mod,x.av,av] h=code;rw[C31,S31]at hc;simp -implicitDefEqProofs only[jn,fX1,WI,ae,ai]at hc;unfold Gl;cases hp:x.pub with
 |false=>
  rw[hp]at hc;simp only[XH,XO]at hc |-;obtain⟨h',k1,k2⟩:=go H V hfb;exact⟨h',hc.symm.trans k1,k2⟩
 | true=>
  rw[hp]at hc;simp only[XS]at hc |-;have g1:bg T 32 (.hp L.rm (0+0+4+6)) h= .ok cv h:=H.get (T:=T) (t:=32) rfl rfl (oh H.vo.len 1);obtain⟨h1,tag1,rv,e1,K1,V1⟩:=tC (T:=T) (t:=28) (e:=30) rfl rfl rfl rfl rfl Z6 (af pg) V (X4 (XR _ hab) Z6) 4;have H1:=H.keep K1 fun k hk=>hk.elim;obtain⟨h2,tag2,cv2,e2,K2,o1,o2,r2,R2⟩:=H1.call (T:=T) (t:=32) (e:=65) rfl rfl rfl rfl rfl Z6 ⟨mod,x.cod.func,args⟩ (.inr V1) (X4 (XR _ (show p.out.calls.length+1<=1000000 by omega)) Z6);have s1:bN T 32 (.hp L.rm (0+0+4+6)) cv2 h2= .ok (.tup []) (h2.set L.rm (fF L p sv fv dv cv2 vc)):=by
   rw[bU (T:=T) (t:=32) rfl r2 o1 (by rw[l6 H.vo.len];decide) Z6,o2,Kj H.vo.len]
  have K3:Kp tag2 tag2 (fun k=>k=0) h2 (h2.set L.rm (fF L p sv fv dv cv2 vc)):=Xr R2.tm _;have V3:=((V.keep K1 id).keep K2 Z5).keep K3 Z5;obtain⟨h',k1,k2⟩:=go R2 V3 hfb;refine⟨h',?_,k2⟩;rw[<- hc];simp -implicitDefEqProofs only[aJ,ae,FH73_0,FH36_4,FH34_3];rw[ap g1];simp -implicitDefEqProofs only[fX2,Rq,Sn,ae];rw[ap ((xN av h).trans e1),EX _ _ V1,ae,BU,ae,ap e2,ap s1];exact k1
def zF{α:Type}(n m b:Bool)(k:AV->M α):
  ar (aO (.bool n) false 1 (ao [.bool m])) (fun v17=>ar (aO (ab v17 0) true 1 (ao [.bool b])) fun v21=>ar (aO (.bool n) false 1 (ar (bS (gx (ab v17 0) (ab v21 0) (.bool false))) fun v22=>ao [v22])) fun v23=>
   ar (bS (gx (.bool n) (.bool true) (ab v23 0))) k)=k (.bool (n||m&&b)):=by
 simp_all
theorem wC(a b:ba):cH T false 96 [(0,.str a),(1,.str b)]=some (.agg [.str a,.str b]):=rfl
theorem Sw(x:Fnc):bY 7 x.av=true:=rfl
theorem Jt{L:MLay}{tag:Nat->Nat}{sv dv cv:AV}{vc:List AV}{p:Proc}{h:Hp}{q:Nat}{fs:List Frm}{f:Frm}{A B:List AV}{lv stv:AV}(H:MR L tag sv (.hs q 0 (fs.length+1) 5 true) dv cv vc p h)(M:MapOk T 70 71 L p.mods)(hA:ep tag h 0 fs A)(F:FrAt tag h q A B fs.length f lv stv)(hB:B.all ay=true)(i:Ins)(mod:ba)(hb:f.stack.length<=1000000)(hcb:p.out.calls.length<1000000)(ha:0<=i.a/\i.a<=f.stack.length)(hlb:∀x,fj p.mods mod i.s=some x->x.cod.locals<=1000000):
  match (match fj p.mods mod i.s with
   |none=>(.error 12:Except Int Proc)
   |some x=>if i.m≠[]/\x.pub=false then .error 12
    else if x.cod.params≠i.a then .error 13
    else if 60<=fs.length+1 then .error 6
    else .ok (Gl p (fs++[{ f with stack:=f.stack.take (f.stack.length-i.a.toNat) }]) mod x (f.stack.drop (f.stack.length-i.a.toNat))))with
  |.ok p'=>∃h',K99_0 (af pg) ak [.hp L.rm 0,.hp q A.length,.ip (aa i.av),.str mod] h= .ok (.int .i64 0) h'/\vK L p' h'
  |.error e=>K99_0 (af pg) ak [.hp L.rm 0,.hp q A.length,.ip (aa i.av),.str mod] h= .ok (.int .i64 e) h:=by
 have g1:bg T 71 (.hp L.rm (0+14)) h= .ok (.mp L.rf) h:=H.get (T:=T) (t:=71) rfl rfl (oh H.vo.len 5);have g2:bg T 24 (.hp L.rm (0+0+2)) h= .ok (.hs q 0 (fs.length+1) 5 true) h:=H.get (T:=T) (t:=24) rfl rfl rfl;have hlF:bu T 24 (.hs q 0 (fs.length+1) 5 true)=some (.int .i64 ((fs.length+1:Nat):Int)):=rfl;have lk:=M.fn h H.rf mod i.s;generalize hc:K99_0 (af pg) ak [.hp L.rm 0,.hp q A.length,.ip (aa i.av),.str mod] h=code;rw[K99_0]at hc;simp -implicitDefEqProofs only[am,au,aJ,ae,FH73_2]at hc;rw[ap g1]at hc;simp -implicitDefEqProofs only[fJ2,Ts,ae,wC]at hc;rw[ap lk]at hc;cases ho:fj p.mods mod i.s with
 |none=>
  rw[ho]at hc;have ok7:bY 7 (kK none)=true:=rfl;simp -implicitDefEqProofs only[eN,List.getElem?_cons_zero,Yv,ae,bc ok7,aj,Zt,aT,Yi]at hc;rw[<- hc];cases h0:i.m== []<;>simp[fJ3,Sd,ou,h0,aO,gv]<;>rfl
 | some x=>
  rw[ho]at hc;simp -implicitDefEqProofs only[kK,eN,List.getElem?_cons_zero,Yv,ae,bc (Sw x),aj,aK,ZL,aT,XZ,fJ3,Sd,ou,fX1,WI,zF,ai,Bool.false_or]at hc;by_cases hcond:i.m≠[]/\x.pub=false
  ·simp only[XK hcond];rw[show (!(i.m== [])&&!x.pub)=true by grind]at hc;simp only[XS]at hc;exact hc.symm
  simp only[XG hcond];rw[show (!(i.m== [])&&!x.pub)=false by
   grind]at hc
  simp -implicitDefEqProofs only[XH,XO,fX2,NQ,Ob,fJ1,FD,ae,gC,ai]at hc;by_cases hpar:x.cod.params≠i.a
  ·simp only[XK hpar];rw[show (x.cod.params != i.a)=true by simp[hpar]]at hc;simp only[XS]at hc;exact hc.symm
  simp only[XG hpar];rw[show (x.cod.params != i.a)=false by grind]at hc;simp -implicitDefEqProofs only[XH,XO,aJ,ae,FH73_0,FH36_2]at hc;rw[ap g2]at hc;simp -implicitDefEqProofs only[hlF,ae,jm,ai,XI]at hc;by_cases h60:60<=fs.length+1
  ·simp only[XK h60];rw[XK Z5]at hc;exact hc.symm
  simp only[XG h60];rw[XG Z5]at hc;have lF:ax T 93 (.ip (aa x.av))=some x.av:=rfl;have hia:((i.a.toNat:Nat):Int)=i.a:=Z5
  obtain⟨h2,tag2,sv2,rv,e2,F2,V2,K2,_⟩:=t95 F i.a.toNat Z5 Z5 (11+3*(fs.length+1)) Z5;rw[hia]at e2;have R2:=H.unfocus hA (K2.mono fun k hk=>.inl hk) F2 hB;have V2':dm tag2 (11+3*(fs++[{ f with stack:=f.stack.take (f.stack.length-i.a.toNat) }]).length) h2 (f.stack.drop (f.stack.length-i.a.toNat)) rv:=by
   rw[X1,List.length_singleton];exact V2
  obtain⟨h3,e3,R3⟩:=t31 (Q:=Wk) R2 mod x V2' WD (hlb x ho) WD hcb;refine⟨h3,?_,R3.x⟩;rw[<- hc];simp -implicitDefEqProofs only[lF,ae];rw[ap e2,ap e3];rfl
theorem t99{L:MLay}{tag:Nat->Nat}{sv dv cv:AV}{vc:List AV}{p:Proc}{h:Hp}{q:Nat}{fs:List Frm}{f:Frm}{A B:List AV}{lv stv:AV}(H:MR L tag sv (.hs q 0 (fs.length+1) 5 true) dv cv vc p h)(M:MapOk T 70 71 L p.mods)(hA:ep tag h 0 fs A)(F:FrAt tag h q A B fs.length f lv stv)(hB:B.all ay=true)(i:Ins)(hop:i.op=14)(hb:f.stack.length<=1000000)(hcb:p.out.calls.length<1000000)(ha:0<=i.a/\i.a<=f.stack.length)(hlb:∀s x,fj p.mods s i.s=some x->x.cod.locals<=1000000):
  match mX p fs f i with
  |.ok p'=>∃h',af pg 99 [.hp L.rm 0,.hp q A.length,i.av] h= .ok (.int .i64 0) h'/\vK L p' h'
  |.error e=>af pg 99 [.hp L.rm 0,.hp q A.length,i.av] h= .ok (.int .i64 e) h:=by
 have g3:bg T 9 (.hp q (A.length+0)) h= .ok (.str f.mod) h:=F.get (T:=T) (t:=9) rfl rfl (k:=0) rfl;have hcode:af pg 99 [.hp L.rm 0,.hp q A.length,i.av] h=K99_0 (af pg) ak [.hp L.rm 0,.hp q A.length,.ip (aa i.av),.str (vY i.m f.mod)] h:=by
  rw[C99,S99];have se:cB T .eql 9 (.str i.m) (.str [])=some (.bool (i.m== [])):=yU ..;simp -implicitDefEqProofs only[fJ3,Sd,ae,jn,se,ai];unfold vY;by_cases hm:i.m=[]
  ·rw[XK hm,XK (by rw[hm];rfl)];simp -implicitDefEqProofs only[aJ,ae,FH44_0];rw[ap g3]
  ·grind
 rw[hcode];have e:mX p fs f i=match fj p.mods (vY i.m f.mod) i.s with
   |none=>(.error 12:Except Int Proc)
   |some x=>if i.m≠[]/\x.pub=false then .error 12
    else if x.cod.params≠i.a then .error 13
    else if 60<=fs.length+1 then .error 6
    else .ok (Gl p (fs++[{ f with stack:=f.stack.take (f.stack.length-i.a.toNat) }]) (vY i.m f.mod) x (f.stack.drop (f.stack.length-i.a.toNat))):=by
  simp only[mX,hop];rfl
 rw[e];exact Jt H M hA F hB i _ hb hcb ha (hlb _)
def BA(L:MLay)(q:Nat)(A:List AV)(i:Ins)(h:Hp)(p':Proc):Prop:=∃h',af pg 43 [.hp L.rm 0,.hp q A.length,i.av] h= .ok (.int .i64 0) h'/\vK L p' h'
section
variable {L:MLay} {tag:Nat->Nat} {sv dv cv:AV} {vc:List AV} {p:Proc} {h:Hp} {q:Nat} {fs:List Frm} {f:Frm} {A B:List AV} {lv stv:AV}
theorem sW(H:MR L tag sv (.hs q 0 (fs.length+1) 5 true) dv cv vc p h)(hA:ep tag h 0 fs A)(F:FrAt tag h q A B fs.length f lv stv)(hB:B.all ay=true)(hb:f.stack.length<1000000000)(x:Val):
  ∃h',af pg 93 [.hp q A.length,x.av] h= .ok (.tup []) h'/\vK L { p with frames:=fs++[{ f with stack:=f.stack++[x] }] } h':=by
 obtain⟨h3,tag3,sv3,p1,p2,p3⟩:=t93 F x hb;exact⟨h3,p1,⟨tag3,_,_,_,_,_,H.unfocus hA (p3.mono fun k hk=>Z7) p2 hB⟩⟩
theorem Wc(H:MR L tag sv (.hs q 0 (fs.length+1) 5 true) dv cv vc p h)(hA:ep tag h 0 fs A)(F:FrAt tag h q A B fs.length f lv stv)(hB:B.all ay=true)(hb:f.stack.length<1000000000)(i:Ins)(hop:i.op=0):BA L q A i h { p with frames:=fs++[{ f with stack:=f.stack++[cg i.a] }] }:=by
 obtain⟨h',g1,g2⟩:=sW H hA F hB hb (cg i.a);refine⟨h',?_,g2⟩;rw[C43,S43,fJ0,ae,vV,ae,hop,aI,ae,show ((0:Int)== 0)=true from rfl,ai,XK rfl,fJ1,ae,FD,ae,t77,aj,ap g1];rfl
theorem Wd(H:MR L tag sv (.hs q 0 (fs.length+1) 5 true) dv cv vc p h)(hA:ep tag h 0 fs A)(F:FrAt tag h q A B fs.length f lv stv)(hB:B.all ay=true)(hb:f.stack.length<1000000000)(i:Ins)(hop:i.op=1):BA L q A i h { p with frames:=fs++[{ f with stack:=f.stack++[Ap.dW (i.a== 1)] }] }:=by
 obtain⟨h',g1,g2⟩:=sW H hA F hB hb (Ap.dW (i.a== 1));refine⟨h',?_,g2⟩;rw[C43,S43,fJ0,ae,vV,ae,hop,aI,ae,show ((1:Int)== 0)=false from rfl,ai,XG Z6,aI,ae,show ((1:Int)== 1)=true from rfl,ai,XK rfl,fJ1,ae,FD,ae,aI,ae,t94,aj,ap g1];rfl
theorem og{k:Nat}{l:List Val}{v:AV}(V:dm tag k h l v)(hne:0<l.length):∃r rest,v= .hs r 0 l.length 4 true/\tag r=k/\h[r]? = some (aw l++rest)/\(aw l++rest).all ay=true:=by
 rcases V with⟨h0,_⟩|⟨r,cs,rest,e,hr,hcs,_,_,hok,rfl⟩
 all_goals grind
theorem We(H:MR L tag sv (.hs q 0 (fs.length+1) 5 true) dv cv vc p h)(hA:ep tag h 0 fs A)(F:FrAt tag h q A B fs.length f lv stv)(hB:B.all ay=true)(hb:f.stack.length<1000000000)(i:Ins)(hop:i.op=2)(ha:0<=i.a/\i.a<f.locals.length):BA L q A i h { p with frames:=fs++[{ f with stack:=f.stack++[f.locals[i.a.toNat]!] }] }:=by
 obtain⟨h',g1,g2⟩:=sW H hA F hB hb f.locals[i.a.toNat]!;obtain⟨r,rest,rfl,hr,hcs,_⟩:=og F.lo Z5;have hal:i.a.toNat<f.locals.length:=Z5
 have gl:bg T 28 (.hp q (A.length+3)) h= .ok (.hs r 0 f.locals.length 4 true) h:=F.get (T:=T) (t:=28) rfl rfl (k:=3) rfl;have gv:=nI (T:=T) (t:=30) rfl rfl rfl hcs hal;refine⟨h',?_,g2⟩;rw[C43,S43,fJ0,ae,vV,ae,hop,aI,ae,show ((2:Int)== 0)=false from rfl,ai,XG Z6,aI,ae,show ((2:Int)== 1)=false from rfl,ai,XG Z6,aI,ae,show ((2:Int)== 2)=true from rfl,ai,XK rfl,
  aJ,ae,FH44_3,ae,ap gl,fJ1,ae,FD,ae,RY r _ i.a ha.1 ha.2,ae,XX,ap gv,<- XN f.locals _ hal,ap g1]
 rfl
end
section
variable {L:MLay} {tag:Nat->Nat} {sv dv cv:AV} {vc:List AV} {p:Proc} {h:Hp} {q:Nat} {fs:List Frm} {f:Frm} {A B:List AV} {lv stv:AV}
theorem CV(F:FrAt tag h q A B fs.length f lv stv)(a:Int):∃h',bN T 3 (.hp q (A.length+2)) (.int .i64 a) h= .ok (.tup []) h'/\FrAt tag h' q A B fs.length { f with pc:=a } lv stv/\Kp tag tag (fun k=>k=7) h h':=by
 have hlt:q<h.length:=(XQ.1 F.row).1;have K:Kp tag tag (fun k=>k=7) h (h.set q (A++iR { f with pc:=a } lv stv++B)):=Xr F.tq _;refine⟨_,?_,⟨Yg hlt,F.tq,F.lo.keep K Z5,F.st.keep K Z5⟩,K⟩;rw[bU (T:=T) (t:=3) rfl F.row rfl (by show _+1<=_;simp[iR];omega) Z6];rw[set_mid (D:=iR { f with pc:=a } lv stv) (by simp[iR]) rfl]
theorem SH(H:MR L tag sv (.hs q 0 (fs.length+1) 5 true) dv cv vc p h)(hA:ep tag h 0 fs A)(F:FrAt tag h q A B fs.length f lv stv)(hB:B.all ay=true)(i:Ins)(hop:i.op=10):BA L q A i h { p with frames:=fs++[{ f with pc:=i.a }] }:=by
 obtain⟨h',g1,F2,K⟩:=CV F i.a;refine⟨h',?_,⟨tag,_,_,_,_,_,H.unfocus hA (K.mono fun k hk=>.inl hk) F2 hB⟩⟩;rw[C43,S43,fJ0,ae,vV,ae,hop,aI,ae,show ((10:Int)== 0)=false from rfl,ai,XG Z6,aI,ae,show ((10:Int)== 1)=false from rfl,ai,XG Z6,aI,ae,show ((10:Int)== 2)=false from rfl,ai,XG Z6,
  aI,ae,show ((10:Int)== 3)=false from rfl,ai,XG Z6,aI,ae,show ((10:Int)== 19)=false from rfl,ai,XG Z6,aI,ae,show ((10:Int)== 10)=true from rfl,ai,XK rfl,
  fJ1,ae,FD,ae,aJ,ae,FH44_2,ae,ap g1]
 rfl
theorem SK(H:MR L tag sv (.hs q 0 (fs.length+1) 5 true) dv cv vc p h)(hA:ep tag h 0 fs A)(F:FrAt tag h q A B fs.length f lv stv)(hB:B.all ay=true)(hb:f.stack.length<1000000000)(h1:1<=f.stack.length)(i:Ins)(hop:i.op=19):BA L q A i h { p with frames:=fs++[{ f with stack:=f.stack.take (f.stack.length-1) }] }:=by
 obtain⟨h2,tag2,sv2,rv,e2,F2,_,K2,_⟩:=t95 F 1 h1 hb 3 Z6;have e2':af pg 95 [.hp q A.length,.int .i64 1] h= .ok rv h2:=e2;refine⟨h2,?_,⟨tag2,_,_,_,_,_,H.unfocus hA (K2.mono fun k hk=>.inl hk) F2 hB⟩⟩;rw[C43,S43,fJ0,ae,vV,ae,hop,aI,ae,show ((19:Int)== 0)=false from rfl,ai,XG Z6,aI,ae,show ((19:Int)== 1)=false from rfl,ai,XG Z6,aI,ae,show ((19:Int)== 2)=false from rfl,ai,XG Z6,
  aI,ae,show ((19:Int)== 3)=false from rfl,ai,XG Z6,aI,ae,show ((19:Int)== 19)=true from rfl,ai,XK rfl,ap e2']
 rfl
theorem Wg(H:MR L tag sv (.hs q 0 (fs.length+1) 5 true) dv cv vc p h)(hA:ep tag h 0 fs A)(F:FrAt tag h q A B fs.length f lv stv)(hB:B.all ay=true)(hb:f.stack.length<1000000000)(h1:1<=f.stack.length)(i:Ins)(hop:i.op=3)(ha:0<=i.a/\i.a<f.locals.length):
  BA L q A i h { p with frames:=fs++[{ f with locals:=f.locals.set i.a.toNat f.stack[f.stack.length-1]!,stack:=f.stack.take (f.stack.length-1) }] }:=by
 have hA5:A.length % 5=0:=by rw[hA.len];omega
 have gl:bg T 28 (.hp q (A.length+3)) h= .ok lv h:=F.get (T:=T) (t:=28) rfl rfl (k:=3) rfl;have gm:fN T 5 3 28 (.hp q (A.length+3)) h= .ok lv h:=by
  have hb3:(Nat.beq ((A.length+3) % 5) 3)=true:=by rw[show (A.length+3) % 5=3 by omega];rfl
  show (bif Nat.beq ((A.length+3) % 5) 3&&true then bg T 28 (.hp q (A.length+3)) h else .fail)=_;rw[hb3];exact gl
 obtain⟨h2,tag2,sv2,rv,e2,F2,V2,K2,ext,hh2⟩:=t95 F 1 h1 hb 3 Z6;have e2':iy 5 3 (af pg 95 [.hp q A.length,.int .i64 1]) h= .ok rv h2:=HB e2 (by rw[hh2];exact CE F.row hA5 rfl rfl rfl);have hd:f.stack.drop (f.stack.length-1)=[f.stack[f.stack.length-1]!]:=by
  rw[List.drop_eq_getElem_cons Z5,List.drop_of_length_le Z5,XN f.stack _ Z5]
 rw[hd]at V2;generalize f.stack[f.stack.length-1]! = v at V2 |-;obtain⟨rr,restr,rfl,_,hrr,_⟩:=og V2 Z8;have ix0:aA T 28 (.hs rr 0 [v].length 4 true) (.int .i64 0)=some (.hp rr (0+(0:Int).toNat*4)):=RY rr 1 0 Z6 Z6;have lv0:bg T 30 (.hp rr (0+(0:Int).toNat*4)) h2= .ok v.av h2:=nI (T:=T) (t:=30) rfl rfl rfl hrr (j:=0) Z8;obtain⟨r,rest,rfl,hr,hcs,hok⟩:=og F2.lo (show 0<f.locals.length by omega);have hal:i.a.toNat<f.locals.length:=Z5
 have hcs':h2[r]? = some (aw f.locals++rest):=hcs;have hset:setCells (aw f.locals++rest) (i.a.toNat*4) (aa v.av)=aw (f.locals.set i.a.toNat v)++rest:=by
  rw[qp (by rw[aZ];simp;omega),kw hal]
 have s1:bN T 30 (.hp r (0+i.a.toNat*4)) v.av h2= .ok (.tup []) (h2.set r (aw (f.locals.set i.a.toNat v)++rest)):=by
  rw[XX,bU (T:=T) (t:=30) rfl hcs' Z9 (by grind [aZ]) Z6,hset]
 have hrl:r<h2.length:=(XQ.1 hcs').1;have K3:Kp tag2 tag2 (fun k=>k=11+3*fs.length) h2 (h2.set r (aw (f.locals.set i.a.toNat v)++rest)):=Xr hr _;have F3:FrAt tag2 (h2.set r (aw (f.locals.set i.a.toNat v)++rest)) q A B fs.length { f with locals:=f.locals.set i.a.toNat v,stack:=f.stack.take (f.stack.length-1) } (.hs r 0 f.locals.length 4 true) sv2:=by
  refine⟨(K3 _ _ F2.row (by rw[F2.tq];omega)).1,F2.tq,?_,F2.st.keep K3 Z5⟩;refine .inr ⟨r,aw (f.locals.set i.a.toNat v),rest,Z8,hr,Yg hrl,?_,by rw[aZ],?_,rfl⟩
  ·intro hh
   have:=Ym List.length hh
   simp[aZ]at this;omega
  ·have hok':(aw f.locals++rest).all ay=true:=hok;simp_all[iA]
 refine⟨_,?_,⟨tag2,_,_,_,_,_,H.unfocus hA ((K2.trans K3).mono fun k hk=>Z7) F3 hB⟩⟩;have ixa:=RY r f.locals.length i.a ha.1 ha.2;rw[C43,S43,fJ0,ae,vV,ae,hop,aI,ae,show ((3:Int)== 0)=false from rfl,ai,XG Z6,aI,ae,show ((3:Int)== 1)=false from rfl,ai,XG Z6,aI,ae,show ((3:Int)== 2)=false from rfl,ai,XG Z6,
  aI,ae,show ((3:Int)== 3)=true from rfl,ai,XK rfl,aJ,ae,FH44_3,ae,ap gm,fJ1,ae,FD,ae,ap e2',ix0,ae,ap lv0,ixa,ae,ap s1]
 rfl
end
def t98:∀(n:Nat)(v:Val),v.sz<=n->v.sz<=1099511627776->af pg 98 [v.av]=ao (.int .i64 (dS v:Nat)):=by
 intro n
 induction n with
 |zero=>intro v h;have:=v.sz_pos;omega
 | succ n ih=>
  intro v hn hv;have hlen:=v.sz_len;have hlv:∀(l:List Val),de l<=1099511627776->dP l<=1099511627776:=by
   intro l
   induction l with
   |nil=>intro _;simp[dP]
   | cons x l ih2=>
    intro h;simp only[de]at h
    have:=ih2 Z5
    have hx:∀(k:Nat)(y:Val),y.sz<=k->dS y<=y.sz:=by
     intro k
     induction k with
     |zero=>intro y hy;have:=y.sz_pos;omega
     |succ k ihk=>
      intro y hy;rw[jb];have h1:=y.sz_values;have h2:dP y.values<=de y.values:=(ib _ _).2 fun z hz=>X4 (ihk z (by have:=Xs hz;omega)) (kT hz);omega
    simp only[dP]
    grind
  have hl:∀(B A:List Val)(c:Nat),A++B=v.values->c<=1099511627776->ak (L98_0 (af pg) ak) [.int .i64 (c:Nat),vals v.values,.int .i64 v.values.length,.int .i64 A.length]=ao (.int .i64 ((max c (dP B)+1:Nat))):=by
   intro B
   induction B with
   |nil=>
    intro A c e hc;simp only[X9]at e;subst e;rw[FL98_0];simp (disch:=omega) [L98_0,dP,aW]
   | cons x B ih2=>
    intro A c e hc;have hll:A.length+(B.length+1)=v.values.length:=by rw[<- e];simp
    have h1:(A.length:Int)<(v.values.length:Int):=Z5
    have hx:v.values[A.length]! = x:=by
     rw[<- e,XN _ _ Z8];simp
    have hm:x∈v.values:=by rw[<- e];simp
    have hx':v.values[A.length]'(Z5)=x:=by rw[<- hx,XN]
    have h3:=ih x (by have:=Xs hm;omega) (by have:=Xs hm;omega);have hxb:dS x<=1099511627776:=X4 ((ib v.values _).1 (hlv v.values (by have:=v.sz_values;omega)) x hm) (XM _);have h4:=ih2 (A++[x]) (max c (dS x)) Z7 Z5;rw[FL98_0];have hmx:(max (c:Int) (dS x:Int))=((max c (dS x):Nat):Int):=Z5
    simp (disch:=omega) [L98_0,h1,aW,ta,hx',h3,hmx]at h4 |-;rw[h4];simp only[dP]
  rw[C98]
  have:=hl v.values [] 0 rfl Z5
  simp_all[S98,jb]
section
variable {L:MLay} {tag:Nat->Nat} {sv dv cv:AV} {vc:List AV} {p:Proc} {h:Hp} {q:Nat} {fs:List Frm} {f:Frm} {A B:List AV} {lv stv:AV}
theorem SI(H:MR L tag sv (.hs q 0 (fs.length+1) 5 true) dv cv vc p h)(hA:ep tag h 0 fs A)(F:FrAt tag h q A B fs.length f lv stv)(hB:B.all ay=true)(hb:f.stack.length<1000000000)(h1:1<=f.stack.length)(i:Ins)(hop:i.op=11):
  if f.stack[f.stack.length-1]!.kind=1 then BA L q A i h { p with frames:=fs++[{ f with stack:=f.stack.take (f.stack.length-1),pc:=if f.stack[f.stack.length-1]!.n=0 then i.a else f.pc }] }
  else af pg 43 [.hp L.rm 0,.hp q A.length,i.av] h= .ok (.int .i64 13) h:=by
 obtain⟨w,e0,_,e3⟩:=t96 F 1 h1 hb;obtain⟨rs,rests,rfl,hrs,_⟩:=e3 Z6;have e0':af pg 96 [.hp q A.length,.int .i64 1] h= .ok (.hs rs ((f.stack.length-1)*4) 1 4 true) h:=e0;have i0:aA T 28 (.hs rs ((f.stack.length-1)*4) 1 4 true) (.int .i64 0)=some (.hp rs ((f.stack.length-1+0)*4)):=(jl hrs h1 (j:=0) Z6).1;have l0:=(jl hrs h1 (j:=0) Z6).2;rw[show f.stack.length-1+0=f.stack.length-1 by omega]at i0 l0;obtain⟨h2,tag2,sv2,rv,e2,F2,_,K2,_⟩:=t95 F 1 h1 hb 3 Z6;have e2':af pg 95 [.hp q A.length,.int .i64 1] h= .ok rv h2:=e2;have hA2:=hA.keep K2 fun j _ _=>Z7
 have R2:=H.unfocus hA (K2.mono fun k hk=>.inl hk) F2 hB;generalize f.stack[f.stack.length-1]! = v at l0 |-;have fa0:ah T 30 (.ip (aa v.av)) 0=some (.ip (aa v.av)):=by rw[bQ];rfl
 have la0:ax T 3 (.ip (aa v.av))=some (.int .i64 v.kind):=by rw[bQ];rfl
 have fa1:ah T 30 (.ip (aa v.av)) 1=some (.ip ((aa v.av).drop 1)):=by rw[bQ];rfl
 have la1:ax T 3 (.ip ((aa v.av).drop 1))=some (.int .i64 v.n):=by rw[bQ];rfl
 generalize hc:af pg 43 [.hp L.rm 0,.hp q A.length,i.av] h=code;unfold BA;rw[hc];rw[C43,S43,fJ0,ae,vV,ae,hop,aI,ae,show ((11:Int)== 0)=false from rfl,ai,XG Z6,aI,ae,show ((11:Int)== 1)=false from rfl,ai,XG Z6,aI,ae,show ((11:Int)== 2)=false from rfl,ai,XG Z6,
  aI,ae,show ((11:Int)== 3)=false from rfl,ai,XG Z6,aI,ae,show ((11:Int)== 19)=false from rfl,ai,XG Z6,aI,ae,show ((11:Int)== 10)=false from rfl,ai,XG Z6,aI,ae,show ((11:Int)== 11)=true from rfl,ai,XK rfl,
  ap e0',i0,ae,ap l0,bc (d3 v),aj,aK,fa0,ae,la0,ae,gC,ae,ai]at hc
 by_cases hk:v.kind=1
 ·rw[XK hk];rw[XG (by simp[hk]),ap e2',fa1,ae,la1,ae,aI,ae,ai]at hc;by_cases hn:v.n=0
  ·rw[XK (by simp[hn]),fJ1,ae,FD,ae,aJ,ae,FH44_2,ae]at hc;obtain⟨h3,g1,F3,K3⟩:=CV F2 i.a;rw[ap g1]at hc;rw[XK hn];exact⟨h3,hc.symm,⟨tag2,_,_,_,_,_,R2.unfocus hA2 (K3.mono fun k hk=>.inl hk) F3 hB⟩⟩
  ·rw[XG (by simp[hn])]at hc;rw[XG hn];exact⟨h2,hc.symm,⟨tag2,_,_,_,_,_,R2⟩⟩
 ·rw[XG hk];rw[XK (by simp[hk])]at hc;exact hc.symm
theorem Ib(F:FrAt tag h q A B fs.length f lv stv)(n:Nat)(hn:n<=f.stack.length)(hb:f.stack.length<1000000000):
  ∃w h1,af pg 96 [.hp q A.length,.int .i64 n] h= .ok w h/\ar (af pg 32 [w]) lE h= .ok (vals (f.stack.drop (f.stack.length-n))) h1/\Kp tag tag (fun _=>False) h h1:=by
 obtain⟨w,e0,e1,e3⟩:=t96 F n hn hb;have hdl:(f.stack.drop (f.stack.length-n)).length=n:=by simp;omega
 cases n with
 | zero=>
  have hnil:f.stack.drop (f.stack.length-0)=[]:=Z8
  have hcl:af pg 32 [w] h= .ok .he h:=by
   rw[xN];rcases e1 rfl with rfl|rfl|rfl<;>rfl
  refine⟨w,h,e0,?_,fun r cs hr _=>⟨hr,rfl⟩⟩;rw[ap hcl,hnil];rfl
 | succ n=>
  obtain⟨r,rest,rfl,g1,g2⟩:=e3 Z5
  have:=oZ (T:=T) (t:=28) (e:=30) rfl rfl rfl rfl rfl Z6 (af pg) g1 g2 (k:=f.stack.length-(n+1)) (n:=n+1) Z5 Z7
  rw[XG Z5]at this;have ht:(f.stack.drop (f.stack.length-(n+1))).take (n+1)=f.stack.drop (f.stack.length-(n+1)):=YO Z5;rw[ht]at this;refine⟨_,(h++[aw (f.stack.drop (f.stack.length-(n+1)))]).set h.length [],e0,?_,fun r cs hr _=>?_⟩
  ·rw[ap ((xN _ h).trans this)];have hf:frz 1 (h++[aw (f.stack.drop (f.stack.length-(n+1)))]) (.hs h.length 0 (n+1) 4 true)=vals (f.stack.drop (f.stack.length-(n+1))):=by
    have:=Hk (d:=0) (h:=h++[aw (f.stack.drop (f.stack.length-(n+1)))]) (r:=h.length) (l:=f.stack.drop (f.stack.length-(n+1))) Z8
    rw[hdl]at this;exact this
   show R.ok (frz 1 _ (.hs h.length 0 (n+1) 4 true)) _=_;rw[hf]
  grind
end
def GJ(ns:List ba)(vs:List Val):cH T false 30 [(0,.int .i64 2),(2,strs ns),(3,vals vs)]=some (Val.mk 2 0 ns vs).av:=by
 rw[Val.av_eq];rfl
section
variable {L:MLay} {tag:Nat->Nat} {sv dv cv:AV} {vc:List AV} {p:Proc} {h:Hp} {q:Nat} {fs:List Frm} {f:Frm} {A B:List AV} {lv stv:AV}
theorem SJ(H:MR L tag sv (.hs q 0 (fs.length+1) 5 true) dv cv vc p h)(hA:ep tag h 0 fs A)(F:FrAt tag h q A B fs.length f lv stv)(hB:B.all ay=true)(hb:f.stack.length<1000000000)(i:Ins)(hop:i.op=12)(hn:i.names.length<=f.stack.length)(hsz:(Val.mk 2 0 i.names (f.stack.drop (f.stack.length-i.names.length))).sz<=1099511627776):
  if dS (.mk 2 0 i.names (f.stack.drop (f.stack.length-i.names.length)))<=4 then BA L q A i h { p with frames:=fs++[{ f with stack:=f.stack.take (f.stack.length-i.names.length)++[.mk 2 0 i.names (f.stack.drop (f.stack.length-i.names.length))] }] }
  else ∃h',af pg 43 [.hp L.rm 0,.hp q A.length,i.av] h= .ok (.int .i64 6) h'/\vK L { p with frames:=fs++[f] } h':=by
 obtain⟨w,h1,e0,e1,K1⟩:=Ib F i.names.length hn hb;have F1:=F.keep K1 ⟨id,id,id⟩;have hA1:=hA.keep K1 fun j _ _=>⟨id,id⟩;have R1:=H.unfocus hA (K1.mono fun k hk=>hk.elim) F1 hB;obtain⟨h2,tag2,sv2,rv,e2,F2,_,K2,_⟩:=t95 F1 i.names.length hn hb 3 Z6;have hA2:=hA1.keep K2 fun j _ _=>Z7
 have R2:=R1.unfocus hA1 (K2.mono fun k hk=>.inl hk) F2 hB;have hcn:=t97 i.names Z5;have hln:bu T 27 (strs i.names)=some (.int .i64 i.names.length):=g9 _;generalize hv:Val.mk 2 0 i.names (f.stack.drop (f.stack.length-i.names.length))=v at hsz |-;have hbr:cH T false 30 [(0,.int .i64 2),(2,strs i.names),(3,vals (f.stack.drop (f.stack.length-i.names.length)))]=some v.av:=by rw[<- hv];exact GJ _ _
 have hld:ax T 30 (.ip (aa v.av))=some v.av:=by cases v;rfl
 have hdp:=t98 _ v (XM _) hsz;generalize hc:af pg 43 [.hp L.rm 0,.hp q A.length,i.av] h=code;unfold BA;rw[hc];rw[C43,S43,fJ0,ae,vV,ae,hop,aI,ae,show ((12:Int)== 0)=false from rfl,ai,XG Z6,aI,ae,show ((12:Int)== 1)=false from rfl,ai,XG Z6,aI,ae,show ((12:Int)== 2)=false from rfl,ai,XG Z6,
  aI,ae,show ((12:Int)== 3)=false from rfl,ai,XG Z6,aI,ae,show ((12:Int)== 19)=false from rfl,ai,XG Z6,aI,ae,show ((12:Int)== 10)=false from rfl,ai,XG Z6,aI,ae,show ((12:Int)== 11)=false from rfl,ai,XG Z6,
  aI,ae,show ((12:Int)== 12)=true from rfl,ai,XK rfl,fJ4,ae,Se,ae,ae,Se,ae,hln,ae,hcn,aj,ap e0,ap e1,hbr,ae,bc (d3 v),aj,aK,hld,ae,hdp,aj,dO,ae,ai]at hc
 by_cases hl:dS v<=4
 ·rw[XK hl];rw[XG Z7,ae,Se,ae,hln,ae,ap e2,ae]at hc;obtain⟨h3,g1,g2⟩:=sW R2 hA2 F2 hB WD v;rw[ap g1]at hc;exact⟨h3,hc.symm,g2⟩
 ·rw[XG hl];rw[XK Z7]at hc;exact⟨h1,hc.symm,⟨tag,_,_,_,_,_,R1⟩⟩
end
def sP{α:Type}(m:M α):ar m (fun v=>ao v)=m:=by
 funext h
 grind [Av.ar,ao]
def l9(a0 a1:AV)(i:Ins)(h0:i.op≠0)(h1:i.op≠1)(h2:i.op≠2)(h3:i.op≠3)(h19:i.op≠19)(h10:i.op≠10)(h11:i.op≠11)(h12:i.op≠12):
  af pg 43 [a0,a1,i.av]=if i.op=14 then af pg 99 [a0,a1,i.av]else if i.op=16\/i.op=17 then af pg 100 [a0,a1,i.av]else if i.op=9\/i.op=13\/i.op=15 then af pg 101 [a0,a1,i.av]else af pg 102 [a1,.int .i64 i.op]:=by
 have b:∀k:Int,i.op≠k->(i.op== k)=false:=fun k h=>by simp[h]
 rw[C43,S43,fJ0,ae,vV,ae,aI,ae,b 0 h0,ai,XG Z6,aI,ae,b 1 h1,ai,XG Z6,aI,ae,b 2 h2,ai,XG Z6,
  aI,ae,b 3 h3,ai,XG Z6,aI,ae,b 19 h19,ai,XG Z6,aI,ae,b 10 h10,ai,XG Z6,aI,ae,b 11 h11,ai,XG Z6,aI,ae,b 12 h12,ai,XG Z6,
  aI,ae,ai,Gm,ae,sP]
 by_cases h14:i.op=14
 ·grind
 rw[XG (by simp[h14]),XG h14];simp -implicitDefEqProofs only[jn,aI,ae,ai];have k1t:K43_1 (af pg) ak [a0,a1,.ip (aa i.av),.int .i64 i.op,.bool true]=af pg 100 [a0,a1,i.av]:=by
  rw[K43_1];simp -implicitDefEqProofs only[am,au,ai,XS,Gm,ae,sP]
 have k1f:K43_1 (af pg) ak [a0,a1,.ip (aa i.av),.int .i64 i.op,.bool false]=if i.op=9\/i.op=13\/i.op=15 then af pg 101 [a0,a1,i.av]else af pg 102 [a1,.int .i64 i.op]:=by
  have k0t:K43_0 (af pg) ak [a0,a1,.ip (aa i.av),.bool true]=af pg 101 [a0,a1,i.av]:=by
   rw[K43_0];simp -implicitDefEqProofs only[am,au,ai,XS,Gm,ae,sP]
  have k0f:K43_0 (af pg) ak [a0,a1,.ip (aa i.av),.bool false]=af pg 102 [a1,.int .i64 i.op]:=by
   rw[K43_0];simp -implicitDefEqProofs only[am,au,ai,XH,XO,fJ0,vV,ae,sP]
  rw[K43_1];simp -implicitDefEqProofs only[am,au,ai,XH,XO,jn,aI,ae];by_cases h9:i.op=9
  ·grind
  rw[XG (by simp[h9])];by_cases h13:i.op=13
  ·grind
  rw[XG (by simp[h13])];by_cases h15:i.op=15
  ·grind
  rw[XG Z5,b 15 h15,k0f]
 grind
structure StepOk (p:Proc) (f:Frm) (i:Ins):Prop where
 hb:f.stack.length<=1000000
 hd:p.out.deeds.length<1000000
 hc:p.out.calls.length<1000000
 loc:i.op=2\/i.op=3->0<=i.a/\i.a<f.locals.length
 one:i.op=3\/i.op=19\/i.op=11\/i.op=9\/i.op=13\/i.op=15\/i.op=17->1<=f.stack.length
 two:4<=i.op/\i.op<=8->2<=f.stack.length
 rec_:i.op=12->i.names.length<=f.stack.length/\(Val.mk 2 0 i.names (f.stack.drop (f.stack.length-i.names.length))).sz<=1099511627776
 cal:i.op=14->(0<=i.a/\i.a<=f.stack.length)/\∀s x,fj p.mods s i.s=some x->x.cod.locals<=1000000
 var:i.op=16\/i.op=17->0<=dI p.mods f.mod/\0<=i.a/\∃w,p.state[(dI p.mods f.mod).toNat]? = some w/\w.values.length<1000000000
 val:f.stack[f.stack.length-1]!.names.length=f.stack[f.stack.length-1]!.values.length/\f.stack[f.stack.length-1]!.names.length<=1000000
 ops:i.op=0\/i.op=1\/i.op=2\/i.op=3\/i.op=19\/i.op=10\/i.op=11\/i.op=12\/i.op=14\/i.op=16\/i.op=17\/(i.op=9\/i.op=13\/i.op=15)\/(4<=i.op/\i.op<=8)
section
variable {L:MLay} {tag:Nat->Nat} {sv dv cv:AV} {vc:List AV} {p:Proc} {h:Hp} {q:Nat} {fs:List Frm} {f:Frm} {A B:List AV} {lv stv:AV}
theorem t43(H:MR L tag sv (.hs q 0 (fs.length+1) 5 true) dv cv vc p h)(M:MapOk T 70 71 L p.mods)(hp:p.frames=fs++[f])(hA:ep tag h 0 fs A)(F:FrAt tag h q A B fs.length f lv stv)(hB:B.all ay=true)(i:Ins)(C:StepOk p f i):
  match mX p fs f i with
  |.ok p'=>BA L q A i h p'
  |.error e=>∃h',af pg 43 [.hp L.rm 0,.hp q A.length,i.av] h= .ok (.int .i64 e) h'/\vK L p h':=by
 have same:vK L p h:=⟨tag,_,_,_,_,_,H⟩;have hpe:{ p with frames:=fs++[f] } = p:=by rw[<- hp]
 have hb:f.stack.length<1000000000:=by have:=C.hb;omega
 rcases C.ops with h0|h0|h0|h0|h0|h0|h0|h0|h0|h0|h0|h0|h0
 ·grind [mX,Wc]
 ·grind [mX,Wd]
 ·rw[show mX p fs f i= .ok { p with frames:=fs++[{ f with stack:=f.stack++[f.locals[i.a.toNat]!] }] } by simp[mX,h0]];exact We H hA F hB hb i h0 (C.loc (.inl h0))
 ·rw[show mX p fs f i= .ok { p with frames:=fs++[{ f with locals:=f.locals.set i.a.toNat f.stack[f.stack.length-1]!,stack:=f.stack.take (f.stack.length-1) }] } by simp[mX,h0]];exact Wg H hA F hB hb (C.one (.inl h0)) i h0 (C.loc (.inr h0))
 ·rw[show mX p fs f i= .ok { p with frames:=fs++[{ f with stack:=f.stack.take (f.stack.length-1) }] } by simp[mX,h0]];exact SK H hA F hB hb (C.one (.inr (.inl h0))) i h0
 ·grind [mX,SH]
 ·have k:=SI H hA F hB hb (C.one (.inr (.inr (.inl h0)))) i h0
  grind [mX]
 ·have k:=SJ H hA F hB hb i h0 (C.rec_ h0).1 (C.rec_ h0).2
  grind [mX]
 ·have k:=t99 H M hA F hB i h0 C.hb C.hc (C.cal h0).1 (C.cal h0).2;have r:=l9 (.hp L.rm 0) (.hp q A.length) i Z5 Z5 Z5 Z5 Z5 Z5 Z5 Z5;rw[XK h0]at r;unfold BA;rw[r]
  grind
 ·obtain⟨v1,v2,w,v3,v4⟩:=C.var (.inl h0);have k:=t100 H M hA F hB i v1 v3 hb v4 v2 (fun h=>absurd h0 h);have r:=l9 (.hp L.rm 0) (.hp q A.length) i Z5 Z5 Z5 Z5 Z5 Z5 Z5 Z5;rw[XG Z5,XK (.inl h0)]at r;unfold BA;rw[r];rw[show mX p fs f i=if i.a<w.values.length then .ok { p with frames:=fs++[{ f with stack:=f.stack++[w.values[i.a.toNat]!] }] }else .error 12 by simp[mX,h0,v3]]
  grind
 ·obtain⟨v1,v2,w,v3,v4⟩:=C.var (.inr h0);have k:=t100 H M hA F hB i v1 v3 hb v4 v2 (fun _=>C.one (by simp[h0]));have r:=l9 (.hp L.rm 0) (.hp q A.length) i Z5 Z5 Z5 Z5 Z5 Z5 Z5 Z5;rw[XG Z5,XK (.inr h0)]at r;unfold BA;rw[r];rw[show mX p fs f i=if i.a<w.values.length then .ok { p with frames:=fs++[f],state:=p.state.modify (dI p.mods f.mod).toNat fun w=>{ w with values:=w.values.set i.a.toNat f.stack[f.stack.length-1]! } }else .error 12 by simp[mX,h0,v3]]
  grind
 ·have k:=t101 H hA F hB i (C.one Z5) hb C.hd h0 C.val.1 C.val.2;have r:=l9 (.hp L.rm 0) (.hp q A.length) i Z5 Z5 Z5 Z5 Z5 Z5 Z5 Z5;rw[XG Z5,XG Z5,XK h0]at r;unfold BA;rw[r]
  grind
 ·have k:=t102 F i.op (C.two h0) hb;have r:=l9 (.hp L.rm 0) (.hp q A.length) i Z5 Z5 Z5 Z5 Z5 Z5 Z5 Z5;rw[XG Z5,XG Z5,XG Z5]at r;unfold BA;rw[r];have e:mX p fs f i=match BP i.op f.stack[f.stack.length-2]! f.stack[f.stack.length-1]! with
    |some x=>.ok { p with frames:=fs++[{ f with stack:=f.stack.take (f.stack.length-2)++[x] }] }
    |none=>.error 13:=by
   unfold mX;simp only[show ¬i.op=0 by omega,show ¬i.op=1 by omega,show ¬i.op=2 by omega,show ¬i.op=3 by omega,show ¬i.op=19 by omega,show ¬i.op=10 by omega,show ¬i.op=11 by omega,show ¬i.op=12 by omega,show ¬i.op=14 by omega,show ¬i.op=16 by omega,show ¬i.op=17 by omega,show ¬i.op=9 by omega,show ¬i.op=13 by omega,show ¬i.op=15 by omega,XO];rfl
  rw[e];cases hx:BP i.op f.stack[f.stack.length-2]! f.stack[f.stack.length-1]! with
  |none=>grind
  |some x=>
   rw[hx]at k;obtain⟨h',tag',sv',k1,k2,k3⟩:=k;exact⟨h',k1,⟨tag',_,_,_,_,_,H.unfocus hA (k3.mono fun k hk=>Z7) k2 hB⟩⟩
end
def wD{tag:Nat->Nat}{h:Hp}{k:Nat}{l:List Val}(s:ba){av:AV}(H:dm tag k h l av):cH T false 58 [(0,.str s),(1,av)]=some (.agg [.str s,av]):=by
 rcases dm.shape H with rfl|rfl|⟨r,rfl⟩<;>rfl
theorem tt(s:ba)(av:AV):aM T 23 1 [(0,.agg [.str s,av])]=some (.sl [.agg [.str s,av]]):=rfl
theorem sg{sv:AV}{st:List Vars}(Q:(Nat->Nat)->Hp->Prop)(hQ:∀ {tag tag':Nat->Nat} {h h':Hp} {ks:Nat->Prop},Kp tag tag' ks h h'->(∀k,ks k->k=9)->Q tag h->Q tag' h')(hS:∀ {tag:Nat->Nat} {h:Hp},Q tag h->gb tag 5 2 st.length (fun cs=>oA tag h 0 st cs) sv h)(hn:st.length<=1000000)(hv:∀w∈st,w.values.length<=1000000):∀(B A:List Vars)(tag:Nat->Nat)(h:Hp)(ov:AV),A++B=st->Q tag h->gb tag 9 2 A.length (fun cs=>vI tag h A cs) ov h->
  ∃h' tag' ov',ak (L89_0 (af pg) ak) [ov,sv,.int .i64 st.length,.int .i64 A.length] h= .ok ov' h'/\Q tag' h'/\gb tag' 9 2 st.length (fun cs=>vI tag' h' st cs) ov' h'
 |[],A,tag,h,ov,e,H,S=>by
  rw[X9]at e;subst e;have h1:¬((A.length:Int)<(A.length:Int)):=Z5
  refine⟨h,tag,ov,?_,H,S⟩;rw[FL89_0];simp -implicitDefEqProofs only[L89_0,am,au,aB,ae,ai,XI,XG h1];rfl
 | w:: B,A,tag,h,ov,e,H,S=>by
  have hlen:A.length+(B.length+1)=st.length:=by rw[<- e];simp
  have h1:(A.length:Int)<(st.length:Int):=Z5
  have hw:st[A.length]? = some w:=by rw[<- e];simp
  have hwm:w∈st:=Ys hw;have hsv:∃r cs rest,sv= .hs r 0 st.length 2 true/\h[r]? = some (cs++rest)/\cs.length=st.length*2/\oA tag h 0 st cs:=by
   rcases hS H with⟨h0,_⟩|⟨r,cs,rest,e1,_,hcs,_,hl,_,HS⟩
   ·omega
   ·grind
  obtain⟨r,cs,rest,rfl,hcs,hl,HS⟩:=hsv;obtain⟨av,a1,a2⟩:=HS.at2 A.length w hw;have hix:aA T 23 (.hs r 0 st.length 2 true) (.int .i64 (A.length:Int))=some (.hp r (0+A.length*2)):=by
   show (if(0:Int)<=(A.length:Int)/\(A.length:Int)<((st.length:Nat):Int)then some (AV.hp r (0+(A.length:Int).toNat*2))else none)=_;rw[XK Z5];simp
  have hld:bg T 58 (.hp r (0+A.length*2)) h= .ok (.agg [.str w.module,av]) h:=by
   rw[XX,lW (T:=T) (t:=58) rfl rfl hcs Z7];show R.ok (AV.agg (((cs++rest).drop (A.length*2)).take 2)) h=_;rw[YZ Z5,Zg WD,a1]
  have hav:ay av=true:=a2.okC;have hok2:bY 2 (.agg [.str w.module,av])=true:=by
   show (_&&(ay (.str w.module)&&(ay av&&true)))=true;rw[hav];rfl
  obtain⟨h2,tag2,rv,e2,K2,V2⟩:=tC (T:=T) (t:=28) (e:=30) rfl rfl rfl rfl rfl Z6 (af pg) a2 (X4 (XR _ (hv w hwm)) Z6) 8;have H2:=hQ K2 (fun k hk=>hk.elim) H;have S2:gb tag2 9 2 A.length (fun cs=>vI tag2 h2 A cs) ov h2:=S.keep K2 id fun _ h=>h.keep K2 id;obtain⟨cs3,tag3,hP,hl3,happ,K3,_,S3⟩:=gb.push (T:=T) (t:=23) (e:=58) rfl rfl rfl rfl Z6 rfl Z6 S2 (x:=.agg [.str w.module,rv]) (by
   show (_&&(ay (.str w.module)&&(ay rv&&true)))=true;rw[V2.okC];rfl) (X4 (XR _ (show A.length+1<=10000000 by omega)) Z6)
  have H3:=hQ K3 (fun k hk=>hk) H2;have S4:=S3.mono (c':=fun cs=>vI tag3 _ (A++[w]) cs) fun cs' h=>by rw[h];exact (hP.keep K3 Z5).snoc (V2.keep K3 Z5)
  have hw1:IntKind.i64.wrap ((A.length:Int)+1)=((A++[w]).length:Nat):=by rw[aW Z5 Z5];simp
  obtain⟨h',tag',ov',k1,k2,k3⟩:=sg Q hQ hS hn hv B (A++[w]) tag3 _ _ Z7 H3 (by rw[X1,List.length_singleton];exact S4);refine⟨h',tag',ov',?_,k2,k3⟩;have f0:ah T 58 (.ip [.str w.module,av]) 0=some (.ip [.str w.module,av]):=rfl;have f1:ah T 58 (.ip [.str w.module,av]) 1=some (.ip [av]):=rfl;have l0:ax T 9 (.ip [.str w.module,av])=some (.str w.module):=rfl;have l1:ax T 28 (.ip [av])=some av:=rfl;rw[FL89_0];simp -implicitDefEqProofs only[L89_0,am,au,aB,ae,ai,XI,XK h1,hix];rw[ap hld,bc hok2,aj];simp -implicitDefEqProofs only[aK,f0,f1,l0,l1,ae,bm,hw1];rw[ap ((xN av h).trans e2),wD _ V2,ae,tt,ae,ap happ];exact k1
def Fa{sv:AV}{st:List Vars}(Q:(Nat->Nat)->Hp->Prop)(hQ:∀ {tag tag':Nat->Nat} {h h':Hp} {ks:Nat->Prop},Kp tag tag' ks h h'->(∀k,ks k->k=9)->Q tag h->Q tag' h')(hS:∀ {tag:Nat->Nat} {h:Hp},Q tag h->gb tag 5 2 st.length (fun cs=>oA tag h 0 st cs) sv h){tag:Nat->Nat}{h:Hp}(H:Q tag h)(hn:st.length<=1000000)(hv:∀w∈st,w.values.length<=1000000):
  ∃h' tag' ov,af pg 89 [sv] h= .ok ov h'/\Q tag' h'/\gb tag' 9 2 st.length (fun cs=>vI tag' h' st cs) ov h':=by
 obtain⟨h',tag',ov,k1,k2,k3⟩:=sg Q hQ hS hn hv st [] tag h .hn rfl H (.inl ⟨rfl,.inl rfl,rfl⟩);refine⟨h',tag',ov,?_,k2,k3⟩;have hl:bu T 23 sv=some (.int .i64 st.length):=gb.len (T:=T) (t:=23) (e:=58) rfl rfl rfl (fun n'=>rfl) rfl rfl (hS H);simp_all[C89,S89]
def t44{L:MLay}{tag:Nat->Nat}{sv fv dv cv:AV}{vc:List AV}{p:Proc}{h:Hp}(H:MR L tag sv fv dv cv vc p h)(hn:p.state.length<=1000000)(hv:∀w∈p.state,w.values.length<=1000000)(e:Int)(v:Val):
  ∃h',af pg 44 [.hp L.rm 0,.int .i64 e,v.av] h= .ok (.tup []) h'/\I9 L (yh p e v) h':=by
 obtain⟨a,b,c,d,rfl⟩:∃a b c d,vc=[a,b,c,d]:=by
  have:=H.vo.len
  match vc,this with
  |[a,b,c,d],_=>grind
 obtain⟨s1,E1⟩:=H.eq.store (T:=T) (t:=4) rfl (k:=0+0+12) (x:=.bool true) rfl (by show (_:Nat)<=15;decide) Z6 (row':=[mods p.mods,sv,fv,ints p.world,.int .i64 p.out.err,a,b,c,d,dv,cv,.hn,.bool true,.mp L.ri,.mp L.rf]) rfl;obtain⟨s2,E2⟩:=E1.store (T:=T) (t:=24) rfl (k:=0+0+2) (x:=.sl []) rfl Z7 Z6 (row':=[mods p.mods,sv,.sl [],ints p.world,.int .i64 p.out.err,a,b,c,d,dv,cv,.hn,.bool true,.mp L.ri,.mp L.rf]) rfl;have g1:=bT (T:=T) (t:=23) rfl rfl (k:=0+0+1) E2.row (v:=sv) rfl;obtain⟨h3,tag3,ov,c1,E3,S3⟩:=Fa (fun tag h=>EQ L tag _ sv dv cv p h) (fun K hk H=>H.keep K hk) (fun H=>H.st) E2 hn hv;obtain⟨s4,E4⟩:=E3.store (T:=T) (t:=26) rfl (k:=0+0+4+0) (x:=.int .i64 e) rfl Z7 Z6 (row':=[mods p.mods,sv,.sl [],ints p.world,.int .i64 e,a,b,c,d,dv,cv,.hn,.bool true,.mp L.ri,.mp L.rf]) rfl;obtain⟨s5,E5⟩:=E4.store (T:=T) (t:=30) rfl (k:=0+0+4+1) (x:=v.av) (d3 v) Z9 Z6 (row':=[mods p.mods,sv,.sl [],ints p.world,.int .i64 e]++aa v.av++[dv,cv,.hn,.bool true,.mp L.ri,.mp L.rf]) (by rw[bQ];rfl);have hov:bY 1 ov=true/\aa ov=[ov]:=by
  rcases S3 with⟨_,rfl|rfl,_⟩|⟨r,_,_,rfl,_⟩<;>exact⟨rfl,rfl⟩
 obtain⟨s6,E6⟩:=E5.store (T:=T) (t:=23) rfl (k:=0+0+4+7) (x:=ov) hov.1 Z9 Z6 (row':=vQ L (yh p e v) sv dv cv ov) (by
  rw[hov.2];unfold vQ yh;rw[bQ];rfl)
 have K:Kp tag3 tag3 (fun k=>k=0) h3 _:=Xr E3.tm [mods p.mods,sv,.sl [],ints p.world,.int .i64 e,a,b,c,d,dv,cv,.hn,.bool true,.mp L.ri,.mp L.rf];have K5:=Xr (h:=h3.set L.rm [mods p.mods,sv,.sl [],ints p.world,.int .i64 e,a,b,c,d,dv,cv,.hn,.bool true,.mp L.ri,.mp L.rf]) E4.tm ([mods p.mods,sv,.sl [],ints p.world,.int .i64 e]++aa v.av++[dv,cv,.hn,.bool true,.mp L.ri,.mp L.rf]);have K6:=Xr (h:=(h3.set L.rm [mods p.mods,sv,.sl [],ints p.world,.int .i64 e,a,b,c,d,dv,cv,.hn,.bool true,.mp L.ri,.mp L.rf]).set L.rm ([mods p.mods,sv,.sl [],ints p.world,.int .i64 e]++aa v.av++[dv,cv,.hn,.bool true,.mp L.ri,.mp L.rf])) E5.tm (vQ L (yh p e v) sv dv cv ov);have S4:=S3.keep (c':=fun cs=>vI tag3 _ p.state cs) K Z5 fun _ h=>h.keep K Z5;have S5:=S4.keep (c':=fun cs=>vI tag3 _ p.state cs) K5 Z5 fun _ h=>h.keep K5 Z5;have S6:=S5.keep (c':=fun cs=>vI tag3 _ p.state cs) K6 Z5 fun _ h=>h.keep K6 Z5;refine⟨_,?_,⟨tag3,sv,dv,cv,ov,⟨E6.row,E6.tm,E6.st,E6.ds,E6.cs⟩,S6,rfl,rfl⟩⟩;have hld:ax T 30 (.ip (aa v.av))=some v.av:=by cases v;rfl
 rw[C44,S44];simp -implicitDefEqProofs only[aJ,ae,FH73_0,FH36_5,FH36_2,FH36_1,FH36_4,FH34_0,FH34_1,FH34_4,hld];rw[ap s1,ap s2,ap g1,ap c1,ap s4,ap s5,ap s6];rfl
def Cb(q n:Nat)(hn:0<n):dc T 24 (.hs q 0 (n+1) 5 true) none (some (.int .i64 (n:Int))) none=some (.hs q 0 n 5 true):=by
 show (match cy (some (.int .i64 (n:Int))) (n+1) (n+1)with|none=>none|some h=>match cy none 0 h with|none=>none|some l'=>if 5=5 then(if l'<h then some (AV.hs q (0+l'*5) (h-l') 5 true)else some (AV.sl []))else none)=_;simp only[cy]
 grind
theorem t42{L:MLay}{tag:Nat->Nat}{sv fv dv cv:AV}{vc:List AV}{p:Proc}{h:Hp}(H:MR L tag sv fv dv cv vc p h){fs:List Frm}{f:Frm}(hp:p.frames=fs++[f])(hn:p.state.length<=1000000)(hv:∀w∈p.state,w.values.length<=1000000)(hfb:fs.length<1000000)(hsb:∀g∈fs,g.stack.length<1000000000)(v:Val):
  if fs=[]then ∃h',af pg 42 [.hp L.rm 0,v.av] h= .ok (.tup []) h'/\I9 L (yh p 0 v) h'
  else ∃h',af pg 42 [.hp L.rm 0,v.av] h= .ok (.tup []) h'/\vK L { p with frames:=fs.dropLast++[{ fs[fs.length-1]! with stack:=fs[fs.length-1]!.stack++[v] }] } h':=by
 obtain⟨q,A,B,lv,stv,rfl,hAl,hA,F,hB⟩:=H.focus hp;have g1:bg T 24 (.hp L.rm (0+0+2)) h= .ok (.hs q 0 (fs.length+1) 5 true) h:=H.get (T:=T) (t:=24) rfl rfl rfl;have hl:bu T 24 (.hs q 0 (fs.length+1) 5 true)=some (.int .i64 ((fs.length+1:Nat):Int)):=rfl;have hld:ax T 30 (.ip (aa v.av))=some v.av:=by cases v;rfl
 generalize hc:af pg 42 [.hp L.rm 0,v.av] h=code;rw[C42,S42]at hc;simp -implicitDefEqProofs only[aJ,ae,FH73_0,FH36_2,hld]at hc;rw[ap g1]at hc;simp -implicitDefEqProofs only[hl,ae,aI,ai]at hc;by_cases h0:fs=[]
 ·subst h0;rw[XK rfl];rw[XK (by rfl)]at hc;obtain⟨h',e1,e2⟩:=t44 H hn hv 0 v;rw[ap e1]at hc;exact⟨h',hc.symm,e2⟩
 ·rw[XG h0];have hpos:0<fs.length:=YE.2 h0;rw[XG Z7,ap g1,ap g1]at hc;have hs:cB T .sub 3 (.int .i64 ((fs.length+1:Nat):Int)) (.int .i64 1)=some (.int .i64 (fs.length:Int)):=by
   have:=qG (fs.length+1) 1 Z5 Z5
   rw[show (((fs.length+1:Nat):Int)-((1:Nat):Int))=(fs.length:Int) by omega]at this;exact this
  simp -implicitDefEqProofs only[hl,hs,Cb q fs.length hpos,ae]at hc;obtain⟨gs,g,hgs⟩:∃gs g,fs=gs++[g]:=⟨fs.dropLast,fs.getLast h0,(Zm h0).symm⟩;have K0:Kp tag tag (fun _=>False) h h:=fun r cs hr _=>⟨hr,rfl⟩;obtain⟨m1,R1⟩:=H.mk2 (p':={ p with frames:=fs }) (sv':=sv) (fv':=.hs q 0 fs.length 5 true) (dv':=dv) (cv':=cv) (vc':=vc) K0 id id H.st
   (.inr ⟨q,A,iR f lv stv++B,rfl,F.tq,by rw[<- Yz];exact F.row,by simp[iR],hAl,by
    rw[Ze,Ze,hA.ok,hB];simp only[iR,X7,ZH,F.lo.okC,F.st.okC];rfl,hA⟩) H.ds H.cs H.vo H.so
  have s1:bN T 24 (.hp L.rm (0+0+2)) (.hs q 0 fs.length 5 true) h= .ok (.tup []) (h.set L.rm (fF L p sv (.hs q 0 fs.length 5 true) dv cv vc)):=by
   rw[bU (T:=T) (t:=24) rfl m1 rfl (by rw[l6 H.vo.len];decide) Z6];rfl
  rw[ap s1]at hc;have R1':MR L tag sv (.hs q 0 fs.length 5 true) dv cv vc { p with frames:=fs } (h.set L.rm (fF L p sv (.hs q 0 fs.length 5 true) dv cv vc)):=R1;obtain⟨q2,A2,B2,lv2,stv2,e2,hAl2,hA2,F2,hB2⟩:=R1'.focus (fs:=gs) (f:=g) hgs;have hq:q2=q:=by injection e2 with e;exact e.symm
  subst hq;rw[show fs.length=gs.length+1 by rw[hgs];simp]at R1' hc;have t1:=t41 R1' Z7;rw[ap t1]at hc;rw[show fs.length=gs.length+1 by rw[hgs];simp]at F2 hA2;obtain⟨h3,tag3,sv3,p1,p2,p3⟩:=t93 F2 v (hsb g (by rw[hgs];simp));rw[hAl2]at p1;rw[ap p1]at hc;have R3:=R1'.unfocus hA2 (p3.mono fun k hk=>Z7) p2 hB2;have el:fs[fs.length-1]! = g:=by rw[hgs];simp
  have ed:fs.dropLast=gs:=by rw[hgs];simp
  rw[el,ed];exact⟨h3,hc.symm,⟨tag3,_,_,_,_,_,R3⟩⟩
theorem JR(x:Fnc):pi T 93 x.av 2=some x.cod.av:=rfl
theorem JQ(c:Cod):pi T 91 c.av 3=some (nF c.code):=rfl
def JM{p:Proc}{fs:List Frm}{f:Frm}{i:Ins}{e:Int}(h:mX p fs f i= .error e):e≠0:=by
 unfold mX at h;simp only at h;by_cases h0:i.op=0
 ·grind
 rw[XG h0]at h;by_cases h1:i.op=1
 ·grind
 rw[XG h1]at h;by_cases h2:i.op=2
 ·grind
 rw[XG h2]at h;by_cases h3:i.op=3
 ·grind
 rw[XG h3]at h;by_cases h19:i.op=19
 ·grind
 rw[XG h19]at h;by_cases h10:i.op=10
 all_goals grind
theorem t20{L:MLay}{tag:Nat->Nat}{sv fv dv cv:AV}{vc:List AV}{p:Proc}{h:Hp}(H:MR L tag sv fv dv cv vc p h)(M:MapOk T 70 71 L p.mods){fs:List Frm}{f:Frm}(hp:p.frames=fs++[f]){x:Fnc}(hx:fj p.mods f.mod f.fn=some x){k:Nat}(hpc:f.pc=(k:Int))(hk:k<x.cod.code.length)(hkb:x.cod.code.length<=1000000)(hn:p.state.length<=1000000)(hv:∀w∈p.state,w.values.length<=1000000)(hfb:fs.length<1000000)(hsb:∀g∈fs,g.stack.length<1000000000)(hb:f.stack.length<1000000000)(hret:x.cod.code[k]!.op=18->1<=f.stack.length)(C:x.cod.code[k]!.op≠18->StepOk { p with frames:=fs++[{ f with pc:=f.pc+1 }] } { f with pc:=f.pc+1 } x.cod.code[k]!):
  ∃h',af pg 20 [.hp L.rm 0] h= .ok (.tup []) h'/\(vK L (vq p fs f) h'\/I9 L (vq p fs f) h'):=by
 obtain⟨q,A,B,lv,stv,rfl,hAl,hA,F,hB⟩:=H.focus hp;have e1:=t41 H hfb;rw[<- hAl]at e1;have g1:bg T 71 (.hp L.rm (0+14)) h= .ok (.mp L.rf) h:=H.get (T:=T) (t:=71) rfl rfl (oh H.vo.len 5);have g2:bg T 9 (.hp q (A.length+0)) h= .ok (.str f.mod) h:=F.get (T:=T) (t:=9) rfl rfl (k:=0) rfl;have g3:bg T 9 (.hp q (A.length+1)) h= .ok (.str f.fn) h:=F.get (T:=T) (t:=9) rfl rfl (k:=1) rfl;have g4:bg T 3 (.hp q (A.length+2)) h= .ok (.int .i64 (k:Int)) h:=by rw[<- hpc];exact F.get (T:=T) (t:=3) rfl rfl (k:=2) rfl
 have g5:=M.fn1 h H.rf f.mod f.fn x hx;have hw:IntKind.i64.wrap ((k:Int)+1)=f.pc+1:=by rw[hpc,aW Z5 Z5]
 obtain⟨h2,s1,F2,K2⟩:=CV F (f.pc+1);have hA2:=hA.keep K2 fun j _ _=>Z7
 have R2:=H.unfocus hA (K2.mono fun k hk=>.inl hk) F2 hB;have hi:((fj p.mods f.mod f.fn).map fun x=>x.cod.code[f.pc.toNat]!).getD default=x.cod.code[k]!:=by
  rw[hx,hpc];rfl
 have hix:=RX hk;unfold vq;simp only[hi];generalize x.cod.code[k]! = i at hix C hret |-;generalize hc:af pg 20 [.hp L.rm 0] h=code;rw[C20,S20,ap e1]at hc;simp -implicitDefEqProofs only[aJ,ae,FH73_2,FH44_0,FH44_1,FH44_2]at hc;rw[ap g1,ap g2,ap g3,wC,ae,ap g5,JR,ae,JQ,ae,ap g4,hix,ae,Gm,ae,Tq,aj,ap g4,bm,hw,ae,ap s1,fJ0,ae,vV,ae,aI,ae,ai]at hc;by_cases h18:i.op=18
 ·rw[XK h18];rw[XK (by simp[h18])]at hc;have h1:=hret h18;obtain⟨r,rest,rfl,hr,hcs,_⟩:=og F2.st (show 0<f.stack.length by omega);have gs:bg T 28 (.hp q (A.length+4)) h2= .ok (.hs r 0 f.stack.length 4 true) h2:=F2.get (T:=T) (t:=28) rfl rfl (k:=4) rfl;have hls:bu T 28 (.hs r 0 f.stack.length 4 true)=some (.int .i64 f.stack.length):=rfl;have hsub:cB T .sub 3 (.int .i64 (f.stack.length:Int)) (.int .i64 1)=some (.int .i64 ((f.stack.length-1:Nat):Int)):=by
   have:=qG f.stack.length 1 Z5 Z5
   rw[show ((f.stack.length:Int)-((1:Nat):Int))=((f.stack.length-1:Nat):Int) by omega]at this;exact this
  have ix2:=RY r f.stack.length ((f.stack.length-1:Nat):Int) Z5 Z5;have lv2:bg T 30 (.hp r (0+(((f.stack.length-1:Nat):Int)).toNat*4)) h2= .ok (f.stack[f.stack.length-1]!).av h2:=by
   rw[XX,XP,nI (T:=T) (t:=30) rfl rfl rfl hcs (show f.stack.length-1<f.stack.length by omega),XN f.stack _ Z5]
  simp -implicitDefEqProofs only[aJ,ae,FH44_4]at hc;rw[ap gs,ap gs,hls,ae,hsub,ae,ix2,ae,ap lv2]at hc;have k:=t42 R2 (fs:=fs) (f:={ f with pc:=f.pc+1 }) rfl hn hv hfb hsb f.stack[f.stack.length-1]!;by_cases h0:fs=[]
  ·rw[XK h0]at k |-;obtain⟨h',k1,k2⟩:=k;rw[ap k1]at hc;exact⟨h',hc.symm,.inr k2⟩
  ·rw[XG h0]at k |-;obtain⟨h',k1,k2⟩:=k;rw[ap k1]at hc;exact⟨h',hc.symm,.inl k2⟩
 ·rw[XG h18];rw[XG (by simp[h18]),Gm,ae]at hc;have k:=t43 R2 M (f:={ f with pc:=f.pc+1 }) rfl hA2 F2 hB i (C h18);rw[show mX { p with frames:=fs++[{ f with pc:=f.pc+1 }] } fs { f with pc:=f.pc+1 } i=mX p fs { f with pc:=f.pc+1 } i from rfl]at k;cases hd:mX p fs { f with pc:=f.pc+1 } i with
  |ok p'=>
   rw[hd]at k;obtain⟨h',k1,k2⟩:=k;rw[ap k1,gC,ae,ai,XG Z6]at hc;exact⟨h',hc.symm,.inl k2⟩
  |error e=>
   rw[hd]at k;obtain⟨h',k1,tag',sv',fv',dv',cv',vc',R'⟩:=k;have hne:=JM hd;have hz:cH T false 30 []=some (default:Val).av:=rfl;rw[ap k1,gC,ae,ai,XK (by simp[hne]),hz,ae]at hc;obtain⟨h'',m1,m2⟩:=t44 R' hn hv e default;rw[ap m1]at hc;exact⟨h'',hc.symm,.inr m2⟩
theorem qA:∀l:List Val,(∀v∈l,Rv v)->de l<=l.length*200000
 |[],_=>by simp[de]
 |v:: l,h=>by
  have h1:=nP (h v List.mem_cons_self);have h2:=qA l fun w hw=>h w (Y9 _ hw)
  grind [de]
theorem su{v:Val}(h:Rv v):v.names.length=v.values.length:=by
 unfold Rv cQ at h
 grind
def Ge{p:Proc}(H:RightP p)(P:PBd p.mods){k:Nat}(S:SzP k p)(hk:k<1000000){fs:List Frm}{f:Frm}{x:Fnc}(T:TopOk p.mods f x)(h18:x.cod.code[f.pc.toNat]!.op≠18):
  StepOk { p with frames:=fs++[{ f with pc:=f.pc+1 }] } { f with pc:=f.pc+1 } x.cod.code[f.pc.toNat]!:=by
 have I:=T.ins;have hst:=xF P T;have hl:=T.loc.1;obtain⟨i,hi⟩:∃i,x.cod.code[f.pc.toNat]! = i:=⟨_,rfl⟩;rw[hi]at I h18 |-;have hform:=I.form;have hneed:=I.need;refine⟨hst,Zu S.deeds hk,Zu S.calls hk,?_,?_,?_,?_,?_,?_,?_,?_⟩
 ·grind [bP]
 ·grind [aG]
 ·grind [aG]
 ·intro h;show i.names.length<=f.stack.length/\(Val.mk 2 0 i.names (f.stack.drop (f.stack.length-i.names.length))).sz<=1099511627776;have hn:(aG i).1=i.names.length:=by simp[aG,h]
  have h8:=(gt hform).2.1;have hv:=qA (f.stack.drop (f.stack.length-i.names.length)) fun v hv=>T.stk.2 v (Za hv);rw[ZY]at hv;refine⟨Z5,?_⟩;show 1+i.names.length+de _<=_
  grind
 ·intro h;have hn:(aG i).1=i.a:=by simp[aG,h]
  have:=(gt hform).1
  refine⟨⟨Z5,?_⟩,fun s x hx=>(P.code s i.s x hx).2⟩
  grind
 ·intro h;have F:=lz T.fnc;obtain⟨b1,b2,b3⟩:=ly H.st;have hlt:(dI p.mods f.mod).toNat<p.state.length:=by rw[b1];exact F.lt
  refine⟨by have:=F.ge;grind,?_,p.state[(dI p.mods f.mod).toNat],XW hlt,?_⟩
  ·grind [bP]
  ·have:=(jF P H.st).2 _ (XU hlt)
   omega
 ·show f.stack[f.stack.length-1]!.names.length=f.stack[f.stack.length-1]!.values.length/\_;have hr:Rv f.stack[f.stack.length-1]!:=by
   by_cases h0:0<f.stack.length
   ·exact T.stk.2 _ (nE Z5)
   ·grind [mV]
  grind [su,pz]
 grind [bP,wx]
def IX{L:MLay}{p:Proc}{h:Hp}(R:vK L p h)(M:MapOk T 70 71 L p.mods)(H:RightP p)(he:p.ended=false)(P:PBd p.mods){k:Nat}(S:SzP k p)(hk:k<1000000):
  ∃h',af pg 20 [.hp L.rm 0] h= .ok (.tup []) h'/\(vK L (j0 p) h'\/I9 L (j0 p) h'):=by
 obtain⟨fs,f,x,hp,hc,T⟩:=kA H he;obtain⟨tag,sv,fv,dv,cv,vc,R⟩:=R;have hst:=jF P H.st;have hpc:f.pc=(f.pc.toNat:Int):=by have:=T.pc;omega
 have hfr:=mU H P;have hlen:=H.len;rw[hp]at hfr hlen;simp only[X1,List.length_singleton]at hlen
 have:=t20 R M hp T.fnc hpc (by have:=T.pc;omega) (P.code _ _ _ T.fnc).1 hst.1 (fun w hw=>(hst.2 w hw).1) Z5 (fun g hg=>Z7) Z7 (fun h18=>by rw[T.ins.ret h18];grind) (fun h18=>Ge H P S hk T h18)
 rw[vp hp];exact this
theorem p8{st:List Vars}(g:Nat->Nat)(kO:Nat)(hg:∀j,g j≠kO)(Q:(Nat->Nat)->Hp->Prop)(hQ:∀ {tag tag':Nat->Nat} {h h':Hp} {ks:Nat->Prop},Kp tag tag' ks h h'->(∀k,ks k->k=kO)->Q tag h->Q tag' h')(hn:st.length<=1000000)(hv:∀w∈st,w.values.length<=1000000):∀(B A:List Vars)(tag:Nat->Nat)(h:Hp)(ov:AV),A++B=st->Q tag h->gb tag kO 2 A.length (fun cs=>GR g tag h 0 A cs) ov h->(A=[]->ov= .hn)->
  ∃h' tag' ov',ak (L89_0 (af pg) ak) [ov,bn st,.int .i64 st.length,.int .i64 A.length] h= .ok ov' h'/\Q tag' h'/\gb tag' kO 2 st.length (fun cs=>GR g tag' h' 0 st cs) ov' h'/\(st=[]->ov'= .hn)
 |[],A,tag,h,ov,e,H,S,hz=>by
  rw[X9]at e;subst e;have h1:¬((A.length:Int)<(A.length:Int)):=Z5
  refine⟨h,tag,ov,?_,H,S,hz⟩;rw[FL89_0];simp -implicitDefEqProofs only[L89_0,am,au,aB,ae,ai,XI,XG h1];rfl
 | w:: B,A,tag,h,ov,e,H,S,_=>by
  have hlen:A.length+(B.length+1)=st.length:=by rw[<- e];simp
  have h1:(A.length:Int)<(st.length:Int):=Z5
  have hw:st[A.length]? = some w:=by rw[<- e];simp
  have hwm:w∈st:=Ys hw;have hix:aA T 23 (bn st) (.int .i64 (A.length:Int))=some (.ip (aa w.av)):=by
   have:=bv (T:=T) (t:=23) (e:=58) (f:=Vars.av) (l:=st) (n:=(A.length:Int)) rfl rfl rfl (fun _=>rfl) Z5 h1
   rw[XP,XN st A.length Z5]at this;rw[(XQ.1 hw).2]at this;exact this
  have hld:bg T 58 (.ip (aa w.av)) h= .ok w.av h:=rfl;have hok2:bY 2 w.av=true:=rfl;obtain⟨h2,tag2,rv,e2,K2,V2⟩:=mA (T:=T) (t:=28) (e:=30) rfl rfl rfl rfl rfl Z6 (af pg) tag h w.values (X4 (XR _ (hv w hwm)) Z6) (g A.length);have H2:=hQ K2 (fun k hk=>hk.elim) H;have S2:gb tag2 kO 2 A.length (fun cs=>GR g tag2 h2 0 A cs) ov h2:=S.keep K2 id fun _ h=>h.keep K2 fun _=>id;obtain⟨cs3,tag3,hP,hl3,happ,K3,_,S3⟩:=gb.push (T:=T) (t:=23) (e:=58) rfl rfl rfl rfl Z6 rfl Z6 S2 (x:=.agg [.str w.module,rv]) (by
   show (_&&(ay (.str w.module)&&(ay rv&&true)))=true;rw[V2.okC];rfl) (X4 (XR _ (show A.length+1<=10000000 by omega)) Z6)
  have H3:=hQ K3 (fun k hk=>hk) H2;have S4:=S3.mono (c':=fun cs=>GR g tag3 _ 0 (A++[w]) cs) fun cs' h=>by rw[h];exact (hP.keep K3 hg).snoc (by rw[XX];exact V2.keep K3 (hg _))
  have hw1:IntKind.i64.wrap ((A.length:Int)+1)=((A++[w]).length:Nat):=by rw[aW Z5 Z5];simp
  obtain⟨h',tag',ov',k1,k2,k3,k4⟩:=p8 g kO hg Q hQ hn hv B (A++[w]) tag3 _ _ Z7 H3 (by rw[X1,List.length_singleton];exact S4) Z8;refine⟨h',tag',ov',?_,k2,k3,k4⟩;have f0:ah T 58 (.ip [.str w.module,vals w.values]) 0=some (.ip [.str w.module,vals w.values]):=rfl;have f1:ah T 58 (.ip [.str w.module,vals w.values]) 1=some (.ip [vals w.values]):=rfl;have l0:ax T 9 (.ip [.str w.module,vals w.values])=some (.str w.module):=rfl;have l1:ax T 28 (.ip [vals w.values])=some (vals w.values):=rfl;have ea:aa w.av=[.str w.module,vals w.values]:=rfl;rw[FL89_0];simp -implicitDefEqProofs only[L89_0,am,au,aB,ae,ai,XI,XK h1,hix];rw[ap hld,bc hok2,aj];simp -implicitDefEqProofs only[aK,ea,f0,f1,l0,l1,ae,bm,hw1];rw[ap ((xN (vals w.values) h).trans e2),wD _ V2,ae,tt,ae,ap happ];exact k1
theorem DJ{st:List Vars}(g:Nat->Nat)(kO:Nat)(hg:∀j,g j≠kO)(Q:(Nat->Nat)->Hp->Prop)(hQ:∀ {tag tag':Nat->Nat} {h h':Hp} {ks:Nat->Prop},Kp tag tag' ks h h'->(∀k,ks k->k=kO)->Q tag h->Q tag' h'){tag:Nat->Nat}{h:Hp}(H:Q tag h)(hn:st.length<=1000000)(hv:∀w∈st,w.values.length<=1000000):
  ∃h' tag' ov,af pg 89 [bn st] h= .ok ov h'/\Q tag' h'/\gb tag' kO 2 st.length (fun cs=>GR g tag' h' 0 st cs) ov h'/\(st=[]->ov= .hn):=by
 obtain⟨h',tag',ov,k1,k2,k3,k4⟩:=p8 g kO hg Q hQ hn hv st [] tag h .hn rfl H (.inl ⟨rfl,.inl rfl,rfl⟩) (fun _=>rfl);refine⟨h',tag',ov,?_,k2,k3,k4⟩;have hl:bu T 23 (bn st)=some (.int .i64 st.length):=by
  have h:bu T 23 (bn st)=some (.int .i64 (st.map Vars.av).length):=rfl;rw[h,YM]
 simp_all[C89,S89]
def bo:List Mod->Nat->List AV
 |[],_=>[]
 |m:: l,i=>.tup [.str m.name,.int .i64 (i:Int)]:: bo l (i+1)
theorem uk:∀(A B:List Mod)(i:Nat),bo (A++B) i=bo A i++bo B (i+A.length)
 |[],B,i=>rfl
 |m:: A,B,i=>by
  show _:: bo (A++B) (i+1)=_;rw[uk A B (i+1),show i+1+A.length=i+(m:: A).length by simp;omega];rfl
theorem NE(a b:ba):qO T 20 9 (.str a) (.str b)=some (a== b):=rfl
theorem pQ(s:ba):∀(l:List Mod)(i j:Nat),((l.any fun m=>m.name== s)=false/\eO T 9 (.str s) (bo l i) j=some none)\/((l.any fun m=>m.name== s)=true/\∃(a:Nat)(k:AV),eO T 9 (.str s) (bo l i) j=some (some (a,k,.int .i64 (bb (fun m:Mod=>m.name== s) l (i:Int)))))
 |[],i,j=>.inl ⟨rfl,rfl⟩
 | m:: l,i,j=>by
  show (_/\eO T 9 (.str s) (.tup [.str m.name,.int .i64 (i:Int)]:: bo l (i+1)) j=_)\/(_/\∃(a:Nat)(k:AV),eO T 9 (.str s) (.tup [.str m.name,.int .i64 (i:Int)]:: bo l (i+1)) j=_);unfold eO;rw[NE,List.any_cons];have hc:(s== m.name)=(m.name== s):=YT.2 ⟨fun h=>Yt.2 (Yt.1 h).symm,fun h=>Yt.2 (Yt.1 h).symm⟩;rw[hc];cases hx:m.name== s with
  |true=>exact .inr ⟨rfl,j,.str m.name,by simp[bb,hx]⟩
  |false=>
   have e:bb (fun m:Mod=>m.name== s) (m:: l) (i:Int)=bb (fun m:Mod=>m.name== s) l ((i+1:Nat):Int):=by simp[bb,hx]
   rw[e];exact pQ s l (i+1) (j+1)
theorem HP{h:Hp}{r:Nat}{p:List Mod}(hr:h[r]? = some [.tup (bo p 0)])(s:ba)(h0:0<=dI p s):d8 T 70 (.mp r) (.str s) false h= .ok (.int .i64 (dI p s)) h:=by
 have e:oN T 70 (bo p 0) (.str s) false=(match eO T 9 (.str s) (bo p 0) 0 with
   |some (some (_,_,v))=>some v
   |some none=>some (.int .i64 0)
   |none=>none):=rfl
 unfold d8 mY;simp only[hr];rw[e];rcases pQ s p 0 0 with⟨h1,h2⟩|⟨h1,j,k,h2⟩
 ·have:=(ui (fun m:Mod=>m.name== s) p 0 Z5).1 h0
  grind
 ·rw[h2];rfl
theorem FI{h:Hp}{r:Nat}{p:List Mod}(hr:h[r]? = some [.tup (bo p 0)])(s:ba):∃v,d8 T 70 (.mp r) (.str s) true h= .ok (.tup [v,.bool (p.any fun m=>m.name== s)]) h:=by
 have e:oN T 70 (bo p 0) (.str s) true=(match eO T 9 (.str s) (bo p 0) 0 with
   |some (some (_,_,v))=>some (.tup [v,.bool true])
   |some none=>some (.tup [.int .i64 0,.bool false])
   |none=>none):=rfl
 grind [d8,mY,pQ]
theorem Kw{h:Hp}{r:Nat}{p:List Mod}(hr:h[r]? = some [.tup (bo p 0)])(m:Mod)(hn:(p.any fun x=>x.name== m.name)=false):oE T 70 (.mp r) (.str m.name) (.int .i64 (p.length:Int)) h= .ok (.tup []) (h.set r [.tup (bo (p++[m]) 0)]):=by
 have e:oE T 70 (.mp r) (.str m.name) (.int .i64 (p.length:Int)) h=(match h[r]? with
   |some [.tup es]=>(match wa T 9 es (.str m.name) (.int .i64 (p.length:Int))with
    |some es'=>.ok (.tup []) (h.set r [.tup es'])
    |none=>.fail)
   |_=>.fail):=rfl
 grind [wa,pQ,uk,bo]
def cu(l:List Gp):List AV:=l.map fun e=>.tup [.agg [.str e.1,.str e.2.1],e.2.2.av]
theorem DO(a b c d:ba):qO T 20 96 (.agg [.str a,.str b]) (.agg [.str c,.str d])=some (a== c&&b== d):=by
 have e2:qO T 17 9 (.str b) (.str d)=some (b== d):=rfl;have e1:qO T 18 9 (.str a) (.str c)=some (a== c):=rfl;have e:qO T 20 96 (.agg [.str a,.str b]) (.agg [.str c,.str d])=(match qO T 18 9 (.str a) (.str c)with
   |some true=>(match qO T 17 9 (.str b) (.str d)with
    |some true=>some true
    |some false=>some false
    |none=>none)
   |some false=>some false
   |none=>none):=rfl
 grind
theorem sT(s t:ba):∀(l:List Gp)(j:Nat),(l.find? (kX s t)=none/\eO T 96 (.agg [.str s,.str t]) (cu l) j=some none)\/∃(e:Gp)(a:Nat)(k:AV),l.find? (kX s t)=some e/\eO T 96 (.agg [.str s,.str t]) (cu l) j=some (some (a,k,e.2.2.av))
 |[],j=>.inl ⟨rfl,rfl⟩
 | e:: l,j=>by
  show (_/\eO T 96 (.agg [.str s,.str t]) (.tup [.agg [.str e.1,.str e.2.1],e.2.2.av]:: cu l) j=_)\/∃(e':Gp)(a:Nat)(k:AV),_/\eO T 96 (.agg [.str s,.str t]) (.tup [.agg [.str e.1,.str e.2.1],e.2.2.av]:: cu l) j=_;unfold eO;rw[DO,Z3];have hc:(s== e.1&&t== e.2.1)=kX s t e:=by
   unfold kX;rw[YT];simp only[XJ,Yt];exact⟨fun h=>⟨h.1.symm,h.2.symm⟩,fun h=>⟨h.1.symm,h.2.symm⟩⟩
  rw[hc];cases hx:kX s t e with
  |true=>grind
  |false=>exact sT s t l (j+1)
theorem J8{h:Hp}{r:Nat}{l:List Gp}(hr:h[r]? = some [.tup (cu l)])(s t:ba){o:Option Fnc}(ho:l.find? (kX s t)=o.map fun x=>(s,t,x)):d8 T 71 (.mp r) (.agg [.str s,.str t]) true h= .ok (.tup [kK o,.bool o.isSome]) h:=by
 have e:oN T 71 (cu l) (.agg [.str s,.str t]) true=(match eO T 96 (.agg [.str s,.str t]) (cu l) 0 with
   |some (some (_,_,v))=>some (.tup [v,.bool true])
   |some none=>some (.tup [kK none,.bool false])
   |none=>none):=rfl
 unfold d8 mY;simp only[hr];rw[e];rcases sT s t l 0 with⟨h1,h2⟩|⟨x,j,k,h1,h2⟩
 ·rw[h2];cases o with
  |none=>rfl
  |some y=>grind
 ·rw[h2];cases o with
  |none=>grind
  |some y=>
   rw[h1]at ho
   have:=Yu ho
   rw[this];rfl
theorem HO{h:Hp}{r:Nat}{l:List Gp}(hr:h[r]? = some [.tup (cu l)])(s t:ba){x:Fnc}(ho:l.find? (kX s t)=some (s,t,x)):d8 T 71 (.mp r) (.agg [.str s,.str t]) false h= .ok x.av h:=by
 have e:oN T 71 (cu l) (.agg [.str s,.str t]) false=(match eO T 96 (.agg [.str s,.str t]) (cu l) 0 with
   |some (some (_,_,v))=>some v
   |some none=>some (kK none)
   |none=>none):=rfl
 grind [d8,mY,sT]
theorem Ox{h:Hp}{r:Nat}{l:List Gp}(hr:h[r]? = some [.tup (cu l)])(s t:ba)(x:Fnc)(hn:l.find? (kX s t)=none):oE T 71 (.mp r) (.agg [.str s,.str t]) x.av h= .ok (.tup []) (h.set r [.tup (cu (l++[(s,t,x)]))]):=by
 have e:oE T 71 (.mp r) (.agg [.str s,.str t]) x.av h=(match h[r]? with
   |some [.tup es]=>(match wa T 96 es (.agg [.str s,.str t]) x.av with
    |some es'=>.ok (.tup []) (h.set r [.tup es'])
    |none=>.fail)
   |_=>.fail):=rfl
 grind [wa,sT,cu]
def map_ok{L:MLay}{p:List Mod}(hi:L.ci=[.tup (bo p 0)])(hf:L.cf=[.tup (cu (aY 0 p))])(hn:(p.map (·.name)).Nodup)(hh:D4 p):MapOk T 70 71 L p where
 idx h hr s h0:=HP (by rw[hr,hi]) s h0
 fn h hr s t:=J8 (by rw[hr,hf]) s t (wV s t hn hh)
 fn1 h hr s t x hx:=HO (by rw[hr,hf]) s t (by rw[wV s t hn hh,hx];rfl)
theorem Gz(l:List ba)(i k:Nat)(hk:k=i+1)(h:k<l.length):asc (l.drop i)=(ck (l[i]'(Z5)) l[k]&&asc (l.drop k)):=by
 subst hk;have e1:l.drop i=l[i]:: l.drop (i+1):=List.drop_eq_getElem_cons Z5;have e2:l.drop (i+1)=l[i+1]:: l.drop (i+2):=List.drop_eq_getElem_cons h;rw[e1,e2];rfl
def Kd(call)(l:List ba)(hb:l.length<=4611686018427387904):∀(n:Nat)(i:Int),l.length-i.toNat=n->1<=i->ak (L175_0 call ak) [strs l,.int .i64 i]=ao (.bool (asc (l.drop (i.toNat-1)))):=by
 intro n
 induction n with
 | zero=>
  intro i hn hi;rw[FL175_0];simp only[L175_0];have h1:¬(i<(l.length:Int)):=Z5
  have h2:asc (l.drop (i.toNat-1))=true:=by
   have:(l.drop (i.toNat-1)).length<=1:=by simp;omega
   match hq:l.drop (i.toNat-1),this with
   |[],_=>rfl
   |[x],_=>rfl
   |x:: y:: r,h=>simp at h
  simp[h1,h2]
 |succ n ih=>
  intro i hn hi;have h1:i<(l.length:Int):=Z5
  rw[FL175_0];simp only[L175_0];simp (disch:=omega) [h1,aW,oU]
  grind [Gz]
def t175(l:List ba)(hb:l.length<=4611686018427387904):af pg 175 [strs l]=ao (.bool (asc l)):=by
 rw[C175];simp[S175,Kd (af pg) l hb (l.length-1) 1 rfl Z5]
def Ka(f:AV)(F:Val->Bool)(l:List Val)(hb:l.length<=4611686018427387904)(hf:∀x∈l,cV (af pg) f [Val.av x]=ao (.bool (F x))):∀(n:Nat)(i:Int),l.length-i.toNat=n->0<=i->i<=l.length->
  ak (L134_0 (af pg) ak) [vals l,f,.int .i64 l.length,.int .i64 i]=ao (.int .i64 (bb F (l.drop i.toNat) i)):=by
 intro n
 induction n with
 |zero=>
  intro i hn hi hl;rw[FL134_0];simp only[L134_0];have h1:¬(i<(l.length:Int)):=Z5
  have h2:l.drop i.toNat=[]:=List.drop_eq_nil_of_le Z5;simp[h1,h2,bb]
 |succ n ih=>
  intro i hn hi hl;have h1:i<(l.length:Int):=Z5
  have hlt:i.toNat<l.length:=Z5
  have h2:bb F (l.drop i.toNat) i=if F l[i.toNat]=true then i else bb F (l.drop (i.toNat+1)) (i+1):=by rw[List.drop_eq_getElem_cons hlt];rfl
  have h3:=hf l[i.toNat] (XU hlt);have h4:=ih (i+1) Z5 Z5 Z5;rw[show (i+1).toNat=i.toNat+1 by omega]at h4;rw[FL134_0];simp only[L134_0];simp (disch:=omega) [h1,aW,ta,h3,h2];simp_all
def t134(f:AV)(F:Val->Bool)(l:List Val)(hb:l.length<=4611686018427387904)(hc:∀g,cl g f=f)(hf:∀x∈l,cV (af pg) f [Val.av x]=ao (.bool (F x))):af pg 134 [vals l,f]=ao (.int .i64 (bb F l 0)):=by
 rw[C134];simp[S134,hc,Ka f F l hb hf l.length 0 rfl Z5 Z5]
def t74(f:AV)(F:Val->Bool)(l:List Val)(hb:l.length<=4611686018427387904)(hc:∀g,cl g f=f)(hf:∀x∈l,cV (af pg) f [Val.av x]=ao (.bool (F x))):af pg 74 [vals l,f]=ao (.bool (l.any F)):=by
 rw[C74];simp[S74,hc,t134 f F l hb hc hf,wZ]
theorem t135:∀(d:Nat),d<=4->∀(v:Val),v.sz<=4611686018427387904->af pg 135 [v.av,.int .i64 d]=ao (.bool (cQ d v))
 |0,_,v,_=>by
  rw[C135];simp[S135,cQ]
 | d+1,hd,v,hv=>by
  have ih:=t135 d Z5;have h1:=t175 v.names (X4 v.sz_names hv);have hf:∀x∈v.values,cV (af pg) (.fn (.func 176) [] [.ip [.int .i64 ((d:Int)+1)]]) [x.av]=ao (.bool !(cQ d x)):=by
   intro x hx;have hsz:=Xs hx
   have:=ih x Z5
   show af pg 176 [x.av,.ip [.int .i64 ((d:Int)+1)]]=_;rw[C176];simp (disch:=omega) [S176,cl,fk,aW,this,show (d:Int)+1-1=d by omega]
  have h2:=t74 (.fn (.func 176) [] [.ip [.int .i64 ((d:Int)+1)]]) (fun x=>!(cQ d x)) v.values (by have:=v.sz_len;omega) (fun g=>rfl) hf;have h0:¬((d:Int)+1=0):=Z5
  rw[C135];simp[S135,cQ,h0,h1,h2];have hall:(!v.values.any fun x=>!cQ d x)=v.values.all (cQ d):=by simp[List.not_any_eq_all_not]
  rw[hall];split
  ·rfl
  ·congr 2
   grind
mutual
def kR:Val->Val->Bool
 |.mk k n ns vs,.mk k' n' ns' vs'=>k== k'&&n== n'&&ns== ns'&&ry vs vs'
def ry:List Val->List Val->Bool
 |[],[]=>true
 |v:: vs,w:: ws=>kR v w&&ry vs ws
 |_,_=>false
end
theorem nQ:(a b:List Val)->ry a b=iW kR a b
 |[],[]=>rfl
 |[],_:: _=>rfl
 |_:: _,[]=>rfl
 |v:: a,w:: b=>by simp only[ry,iW,nQ a b]
def IF(v w:Val):kR v w=(v.kind== w.kind&&v.n== w.n&&v.names== w.names&&iW kR v.values w.values):=by
 cases v;cases w;grind [kR,nQ,Val.kind,Val.n,Val.names,Val.values]
def t76(v:Val)(hv:v.sz<=4611686018427387904):af pg 76 [v.av]=ao (.bool (cQ 4 v)):=by
 rw[C76]
 have:=t135 4 Z5 v hv
 simp at this;simp[S76,this]
def t75(v:Val)(hv:v.sz<=4611686018427387904):af pg 75 [v.av]=ao (.bool (!cQ 4 v)):=by
 have hld:ax T 30 (.ip (aa v.av))=some v.av:=by cases v;rfl
 simp_all[C75,S75,t76]
def t29(l:List Val)(n:Int)(hb:l.length<=4611686018427387904)(hv:∀v∈l,v.sz<=4611686018427387904):af pg 29 [vals l,.int .i64 n]=ao (.bool (fp l n)):=by
 have ha:=t74 (.fn (.func 75) [] []) (fun v=>!cQ 4 v) l hb (fun g=>rfl) (fun v hm=>by
  show af pg 75 ([]++[v.av]++[])=_;exact t75 v (hv v hm))
 have hl:bu T 28 (vals l)=some (.int .i64 l.length):=qE _;rw[C29,show cl aF (vals l)=vals l by simp,show cl aF (.int .i64 n)= .int .i64 n from rfl];simp -implicitDefEqProofs only[S29,hl,ae,aI,ha,aj,aT,aE,am,br];rw[show fp l n=(((l.length:Int)== n)&&!(l.any fun v=>!cQ 4 v)) by
  grind [fp]]
 simp_all
def Ax{p:List Mod}{k:Nat}(h:k<p.length):aA T 22 (mods p) (.int .i64 (k:Int))=some (.ip (aa (p[k]!).av)):=by
 have:=bv (T:=T) (t:=22) (e:=53) (f:=Mod.av) (l:=p) (n:=(k:Int)) rfl rfl rfl (fun _=>rfl) Z5 Z5
 rw[XP]at this;exact this
def yu{p:List Vars}{k:Nat}(h:k<p.length):aA T 23 (bn p) (.int .i64 (k:Int))=some (.ip (aa (p[k]!).av)):=by
 have:=bv (T:=T) (t:=23) (e:=58) (f:=Vars.av) (l:=p) (n:=(k:Int)) rfl rfl rfl (fun _=>rfl) Z5 Z5
 rw[XP]at this;exact this
def Aw{p:List Frm}{k:Nat}(h:k<p.length):aA T 24 (gT p) (.int .i64 (k:Int))=some (.ip (aa (p[k]!).av)):=by
 have:=bv (T:=T) (t:=24) (e:=44) (f:=Frm.av) (l:=p) (n:=(k:Int)) rfl rfl rfl (fun _=>rfl) Z5 Z5
 rw[XP]at this;exact this
def p5(p:List Mod):bu T 22 (mods p)=some (.int .i64 p.length):=by
 simp_all
def q5(p:List Vars):bu T 23 (bn p)=some (.int .i64 p.length):=by
 simp_all
theorem mM(p:List Frm):bu T 24 (gT p)=some (.int .i64 p.length):=by
 have h:bu T 24 (gT p)=some (.int .i64 (p.map Frm.av).length):=rfl
 grind
theorem Sr(a b:ba):cB T .neq 9 (.str a) (.str b)=some (.bool (a != b)):=rfl
theorem Rb(a b:ba):cB T .eql 9 (.str a) (.str b)=some (.bool (a== b)):=rfl
section
variable (m:Ap.Mod) (w:Vars)
theorem NL:ah T 53 (.ip (aa m.av)) 0=some (.ip ((aa m.av).drop 0)):=rfl
theorem Vb:ah T 53 (.ip (aa m.av)) 2=some (.ip ((aa m.av).drop 2)):=rfl
theorem N6:ax T 9 (.ip ((aa m.av).drop 0))=some (.str m.name):=rfl
theorem VU:ax T 47 (.ip ((aa m.av).drop 2))=some (ca m.vars):=rfl
theorem Tu:ax T 53 (.ip (aa m.av))=some m.av:=rfl
theorem Rp:ah T 58 (.ip (aa w.av)) 0=some (.ip ((aa w.av).drop 0)):=rfl
theorem Hb:ah T 58 (.ip (aa w.av)) 1=some (.ip ((aa w.av).drop 1)):=rfl
theorem Sm:ax T 9 (.ip ((aa w.av).drop 0))=some (.str w.module):=rfl
theorem HG:ax T 28 (.ip ((aa w.av).drop 1))=some (vals w.values):=rfl
theorem Xf:ax T 58 (.ip (aa w.av))=some w.av:=rfl
end
def GD(m:Ap.Mod)(w:Vars):Bool:=w.module== m.name&&(w.values.length== m.vars.length&&w.values.all (cQ 4))
theorem BO(p:List Ap.Mod)(st:List Vars):eF p st=iW GD p st:=rfl
def t38(p:List Ap.Mod)(st:List Vars)(hp:p.length<=4611686018427387904)(hs:st.length<=4611686018427387904)(hm:∀m∈p,m.vars.length<=4611686018427387904)(hv:∀w∈st,w.values.length<=4611686018427387904/\∀v∈w.values,v.sz<=4611686018427387904):
  af pg 38 [mods p,bn st]=ao (.bool (eF p st)):=by
 rw[C38,show cl aF (mods p)=mods p by simp,show cl aF (bn st)=bn st by simp,BO];by_cases hl:p.length=st.length
 ·have hl':((p.length:Int) != (st.length:Int))=false:=by simp[hl]
  have h:=pS (FL38_0 (af pg)) (fun k=>[mods p,bn st,.int .i64 st.length,.int .i64 (k:Int)]) p.length (fun k=>GD p[k]! st[k]!) (by
   simp_all[L38_0]) (fun k hk=>by
   have h1:(k:Int)<(st.length:Int):=Z5
   have hk':k<st.length:=Z5
   have i1:=yu hk';have i2:=Ax hk;have hw:IntKind.i64.wrap ((k:Int)+1)=((k+1:Nat):Int):=aR Z5;have m1:p[k]! ∈p:=by rw[XN p k hk];exact XU hk
   have m2:st[k]! ∈st:=by rw[XN st k hk'];exact XU hk'
   have b1:=hm _ m1;have b2:=hv _ m2;generalize p[k]! = m at i2 b1;generalize st[k]! = w at i1 b2;have r1:=t29 w.values m.vars.length b2.1 b2.2;have c1:ct 2 w.av=ao (.agg (aa w.av)):=bc rfl;have lv:bu T 47 (ca m.vars)=some (.int .i64 m.vars.length):=mh _;have er:fp w.values m.vars.length=(w.values.length== m.vars.length&&w.values.all (cQ 4)):=by
    unfold fp;congr 1;rw[YT];simp;omega
   rw[er]at r1;have eb:GD m w= !((w.module != m.name)||!(w.values.length== m.vars.length&&w.values.all (cQ 4))):=by
    unfold GD;cases hq:w.module== m.name<;>simp[bne,hq]
   rw[eb];simp -implicitDefEqProofs only[L38_0,am,au,aB,ae,ai,XI,XK h1,i1,Xf,c1,aj,aK,Rp,Sm,i2,NL,N6,Sr,Hb,HG,Vb,VU,lv,r1,da,aT,aE,eD,bm,hw]
   grind) 0 (X2 _)
  have h':ak (L38_0 (af pg) ak) [mods p,bn st,.int .i64 st.length,.int .i64 0]=_:=h;rw[Zl,mm GD p st hl]at h';simp_all[S38]
 simp_all[np,S38]
section
variable (f:Frm)
theorem JO:ah T 44 (.ip (aa f.av)) 0=some (.ip ((aa f.av).drop 0)):=rfl
theorem NK:ah T 44 (.ip (aa f.av)) 1=some (.ip ((aa f.av).drop 1)):=rfl
theorem Fi:ah T 44 (.ip (aa f.av)) 2=some (.ip ((aa f.av).drop 2)):=rfl
theorem JP:ah T 44 (.ip (aa f.av)) 3=some (.ip ((aa f.av).drop 3)):=rfl
theorem Fj:ah T 44 (.ip (aa f.av)) 4=some (.ip ((aa f.av).drop 4)):=rfl
theorem J1:ax T 9 (.ip ((aa f.av).drop 0))=some (.str f.mod):=rfl
theorem N5:ax T 9 (.ip ((aa f.av).drop 1))=some (.str f.fn):=rfl
theorem FB:ax T 3 (.ip ((aa f.av).drop 2))=some (.int .i64 f.pc):=rfl
theorem J2:ax T 28 (.ip ((aa f.av).drop 3))=some (vals f.locals):=rfl
theorem FC:ax T 28 (.ip ((aa f.av).drop 4))=some (vals f.stack):=rfl
theorem VO:ax T 44 (.ip (aa f.av))=some f.av:=rfl
variable (x:Fnc)
theorem fX3:ah T 93 (.ip (aa x.av)) 3=some (.ip ((aa x.av).drop 6)):=rfl
theorem Xg:ax T 25 (.ip ((aa x.av).drop 6))=some (ints x.hts):=rfl
theorem Rr:ah T 91 (.ip ((aa x.av).drop 2)) 3=some (.ip (((aa x.av).drop 2).drop 3)):=rfl
theorem So:ax T 89 (.ip (((aa x.av).drop 2).drop 3))=some (nF x.cod.code):=rfl
theorem cX:ct 7 x.av=ao (.agg (aa x.av)):=bc rfl
end
def Hz{l:List Int}{k:Nat}(h:k<l.length):aA T 25 (ints l) (.int .i64 (k:Int))=some (.ip (aa (.int .i64 l[k]!))):=by
 have:=bv (T:=T) (t:=25) (e:=3) (f:=fun n:Int=>AV.int .i64 n) (l:=l) (n:=(k:Int)) rfl rfl rfl (fun _=>rfl) Z5 Z5
 rw[XP]at this;exact this
theorem VQ(n:Int):ax T 3 (.ip (aa (.int .i64 n)))=some (.int .i64 n):=rfl
theorem ww(a b:ba):cH T false 96 [(0,.str a),(1,.str b)]=some (.agg [.str a,.str b]):=rfl
theorem NC(a b c d:ba):cB T .eql 96 (.agg [.str a,.str b]) (.agg [.str c,.str d])=some (.bool (a== c&&b== d)):=by
 have e:cB T .eql 96 (.agg [.str a,.str b]) (.agg [.str c,.str d])=(qO T 20 96 (.agg [.str a,.str b]) (.agg [.str c,.str d])).map .bool:=rfl;rw[e,DO];rfl
def nJ:Option Frm->AV
 |none=>.nilp
 |some g=>.ip (aa g.av)
theorem t39{L:MLay}{p:List Ap.Mod}{h:Hp}{row:List AV}(hr:h[L.rm]? = some row)(h14:row[14]? = some (.mp L.rf))(hf:h[L.rf]? = some L.cf)(MO:MapOk T 70 71 L p)(P:PBd p)(f:Frm)(next:Option Frm)(bl:f.locals.length<=4611686018427387904/\∀v∈f.locals,v.sz<=4611686018427387904)(bs:f.stack.length<=4611686018427387904/\∀v∈f.stack,v.sz<=4611686018427387904):
  af pg 39 [.hp L.rm 0,f.av,nJ next] h= .ok (.bool (i7 p f next)) h:=by
 have g1:bg T 71 (.hp L.rm (0+14)) h= .ok (.mp L.rf) h:=bT rfl rfl hr h14;have g2:=MO.fn h hf f.mod f.fn;generalize hc:af pg 39 [.hp L.rm 0,f.av,nJ next] h=code;rw[C39]at hc;simp -implicitDefEqProofs only[S39,aJ,ae,FH73_2,JO,J1,NK,N5,ww]at hc;rw[ap g1,ap g2]at hc;subst hc;unfold i7;cases hx:fj p f.mod f.fn with
 |none=>
  have e0:dA (.tup [kK none,.bool false]) 0=some (kK none):=rfl;have e1:dA (.tup [kK none,.bool false]) 1=some (.bool false):=rfl;have c1:ct 7 (kK none)=ao (.agg (aa (kK none))):=bc rfl;simp -implicitDefEqProofs only[Zt,e0,e1,c1,ae,aj,aT,Yi,fy,am,List.replicate,bC,ai,XS];rfl
 | some x=>
  have F:=lz hx;obtain⟨H,_,_⟩:=iG F.hgt;have hcl:=(P.code _ _ _ hx).1;have e0:dA (.tup [kK (some x),.bool true]) 0=some x.av:=rfl;have e1:dA (.tup [kK (some x),.bool true]) 1=some (.bool true):=rfl;have lc:bu T 89 (nF x.cod.code)=some (.int .i64 x.cod.code.length):=AG _;have r1:=t29 f.locals x.cod.locals bl.1 bl.2;simp -implicitDefEqProofs only[ZL,e0,e1,cX,ae,aj,aT,XZ,aS,am,bD,aK,Fi,FB,aB,fX2,Rr,So,lc,jm,JP,J2,NR,Oc,r1];by_cases hneg:f.pc<0
  ·have n1:decide (f.pc<0)=true:=Yd hneg;have n2:decide (0<=f.pc)=false:=Yp Z5;simp -implicitDefEqProofs only[n1,n2,fy,aj,am,List.replicate,bC,ae,ai,XS,YV];rfl
  have n1:decide (f.pc<0)=false:=Yp hneg;have n2:decide (0<=f.pc)=true:=Yd Z5;by_cases hlt:(x.cod.code.length:Int)<=f.pc
  ·have n3:decide ((x.cod.code.length:Int)<=f.pc)=true:=Yd hlt;have n4:decide (f.pc<(x.cod.code.length:Int))=false:=Yp Z5;simp -implicitDefEqProofs only[n1,n2,n3,n4,aS,fy,aj,am,List.replicate,bC,bD,ae,ai,XS,YV,Zi];rfl
  have n3:decide ((x.cod.code.length:Int)<=f.pc)=false:=Yp hlt;have n4:decide (f.pc<(x.cod.code.length:Int))=true:=Yd Z5;cases hrl:fp f.locals x.cod.locals with
  |false=>
   simp -implicitDefEqProofs only[n1,n2,n3,n4,hrl,aS,fy,aj,am,List.replicate,bC,bD,ae,ai,XS,Yi,YV,Zi];rfl
  | true=>
   obtain⟨k,hk⟩:∃k:Nat,f.pc=(k:Int):=⟨f.pc.toNat,Z5⟩;have hkc:k<x.cod.code.length:=Z5
   have hkh:k<x.hts.length:=by rw[H.len];exact hkc
   have i1:=Hz hkh;have ge:=H.ge k hkc;have lo:=H.lo k hkc;rw[hk]at n1 n2 n3 n4 |-;rw[XP];simp -implicitDefEqProofs only[n1,n2,n3,n4,hrl,aS,aj,am,bD,ae,ai,XZ,XH,XO,YN,fX3,Xg,Fi,FB,hk,i1,VQ];generalize x.hts[k]! = ht at ge lo;cases next with
   |none=>
    have en:cB T .eql 108 (nJ none) .nilp=some (.bool true):=rfl;have r2:=t29 f.stack ht bs.1 bs.2;simp -implicitDefEqProofs only[en,ae,ai,XS,jm,Fj,FC,r2,aj,aE,am,br];rfl
   | some g=>
    have en:cB T .eql 108 (nJ (some g)) .nilp=some (.bool false):=rfl;have hw:IntKind.i64.wrap (ht-1)=ht-1:=aW Z5 Z5;have r2:=t29 f.stack (ht-1) bs.1 bs.2;simp -implicitDefEqProofs only[en,ae,ai,XH,XO,Fi,FB,hk,aI];by_cases h0:k=0
    ·have z1:((k:Int)== 0)=true:=by simp[h0]
     have z2:decide ((k:Int)≠0)=false:=Yp (by simp[h0]);simp -implicitDefEqProofs only[z1,z2,fy,aj,am,List.replicate,bC,ae,ai,XS,YV];rfl
    have z1:((k:Int)== 0)=false:=by simp[h0]
    have z2:decide ((k:Int)≠0)=true:=Yd Z5;cases hrs:fp f.stack (ht-1)with
    |false=>
     simp -implicitDefEqProofs only[z1,z2,aS,aj,am,bD,ae,ai,Fj,FC,fI,hw,r2,hrs,aT,Yi,XS,YV,Zi];rfl
    | true=>
     have hw2:IntKind.i64.wrap ((k:Int)-1)=((k-1:Nat):Int):=by rw[aW Z5 Z5];omega
     have i2:=RX (l:=x.cod.code) (n:=k-1) Z5;have ek:((k:Int)-1).toNat=k-1:=Z5
     have cj:∀i:Ins,ct 5 i.av=ao (.agg (aa i.av)):=fun i=>bc rfl;have ng:ko (nJ (some g))=some (.ip (aa g.av)):=rfl;simp -implicitDefEqProofs only[z1,z2,aS,aj,am,bD,ae,ai,Fj,FC,fI,hw,r2,hrs,aT,XZ,XH,XO,fX2,Rr,So,Fi,FB,hk,hw2,i2,Gm,cj,aK,fJ3,Sd,Rb,jn,ek,YN,JO,J1];generalize x.cod.code[k-1]! = i;have key:∀s:ba,K39_0 (af pg) ak [nJ (some g),.ip (aa i.av),.str s] h= .ok (.bool (decide (i.op=14)&&decide (s=g.mod)&&decide (i.s=g.fn))) h:=by
      intro s;simp -implicitDefEqProofs only[K39_0,am,au,fJ0,vV,ae,aI,fJ2,Ts,ww,ng,JO,J1,NK,N5,NC,aE,aj,br];have q:(i.op== 14&&(s== g.mod&&i.s== g.fn))=(decide (i.op=14)&&decide (s=g.mod)&&decide (i.s=g.fn)):=by
       rw[YT];simp[and_assoc]
      rw[q];rfl
     unfold vY
     grind
end Go.Proofs.YtbndmpiddinalacGreatDoor
