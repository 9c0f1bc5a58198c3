/- What the functions compute, part 10. Conditions: bounds. -/
import Derived.Test.YtkidiopjcgeifaaGreatTi
set_option linter.defProp false
set_option linter.unusedSimpArgs false
set_option linter.unusedVariables false
namespace Go.Proofs.YtkidiopjcgeifaaGreat
open Go Go.Av Go.Av.Ap
set_option maxRecDepth 100000
def Ic(s:aA)(v:AV)(h:aO v=true):cn 2 (.agg [.str s,v])=true:=by
 simp only[cn,cW,ab,adz,List.all_nil];rw[h];rfl
variable {p:List Mod}
def Ik{nm:SNm}{tag:Nat->Nat}{dv cv sv:AV}{m:Ms}{h:Hp}(R:RepT (rowP p nm.told) nm tag dv cv sv m h)(hnil:m.state=[]->nm.cells=[]/\nm.names=[])(x:Vars)(hb:x.values.length<=274877906944)(hs:m.state.length<=1099511627776):
  ∃av h1 sv' h2 h3 nm',aa pg 117 [vals x.values] h= .ok av h1/\aO av=true/\bM T 65 (.hp 0 11) h= .ok sv h/\appH T 65 false sv (.sl [.agg [.str x.module,av]]) h1= .ok sv' h2/\cG T 65 (.hp 0 11) sv' h2= .ok (.tup []) h3/\
   nm'.names=nm.names++[x.module]/\nm'.told=nm.told/\gF p nm' { m with state:=m.state++[x.values] } h3:=by
 have e0:aa pg 117 [vals x.values]=eG T 31 (aa pg) [vals x.values]:=ct hOther rfl _;have e1:=vI (T:=T) (t:=31) rfl rfl rfl rfl rfl Vc (aa pg) x.values (show x.values.length*64<=140737488355328 by omega) h;have hl:bM T 65 (.hp 0 11) h= .ok sv h:=eD rfl rfl R.r0 rfl
 -- the clone
 have hcl:∃av h1 tag1,aa pg 117 [vals x.values] h= .ok av h1/\RepT (rowP p nm.told) nm tag1 dv cv sv m h1/\aO av=true/\((x.values=[]/\(av= .sl []\/av= .he))\/∃r,av= .hs r 0 x.values.length 4 true/\tag1 r=6+m.state.length/\h1[r]? = some (bF x.values)):=by
  rw[e0];by_cases hv:x.values=[]
  ·rw[acL hv]at e1;exact⟨_,h,tag,e1,R,rfl,.inl ⟨hv,by first|exact .inl rfl|exact .inr rfl⟩⟩
  ·rw[acE hv]at e1;exact⟨_,_,_,e1,(R.more (bF x.values) (6+m.state.length)).1,rfl,.inr ⟨h.length,rfl,AI,AI⟩⟩
 obtain⟨av,h1,tag1,c1,R1,ok1,A1⟩:=hcl;obtain⟨h2,sv',tag',p1,K,H,hc⟩:=zb (T:=T) (t:=65) rfl rfl rfl rfl Vc rfl Vc (x:=.agg [.str x.module,av]) R1.st (fun h0=>by
  have h00:m.state=[]:=acW h0;obtain⟨n1,n2⟩:=hnil h00;rw[h00,n2];exact⟨n1.symm,rfl⟩) (fun cs h=>h.2.ok) (Ic _ _ ok1) (show (m.state.length+1)*40<=140737488355328 by omega)
 have h0:=(K 0 _ R1.r0 (by rw[R1.t0];decide)).1;have hac:ab sv'=[sv']:=(jf hc).2.1
 have:=R1.pushState (n:=x.module) (l:=x.values) K A1 H
 refine⟨av,h1,sv',h2,_,⟨nm.names++[x.module],sv',nm.cells++[.str x.module,av],nm.told⟩,c1,ok1,hl,p1,iz rfl h0 (jf hc).1 (show 11+1<=12 by decide) Vc,rfl,rfl,tag',dv,cv,sv',?_⟩;rw[hac];exact this
def G9(s:aA)(v:AV)(h:aO v=true):bW T false 197 [(0,.str s),(1,v)]=some (.agg [.str s,v]):=by
 cases v with
 |any=>cases h
 |agg _=>cases h
 |tup _=>cases h
 |_=>rfl
theorem Eu(x:AV)(hx:cW x=some 2):aI T 65 1 [(0,x)]=some (.sl [x]):=by
 have h1:aI T 65 1 [(0,x)]=(lV 2 (List.replicate 1 (.agg [.str [],.sl []])) [(0,x)]).map .sl:=rfl
 grind [lV]
theorem BC{p:List Mod}(st:List Vars)(hst:st.length<=1099511627776)(hv:∀x∈st,x.values.length<=274877906944)(y0 y2 y3 y7 y8 y9 y10 y11 y12 y13 y14:AV):∀(B A:List Vars)(nm:SNm)(m:Ms)(h:Hp),A++B=st->m.state=A.map (·.values)->nm.names=A.map (·.module)->(m.state=[]->nm.cells=[])->nm.told=false->gF p nm m h->
  ∃nm' h',nm'.names=st.map (·.module)/\nm'.told=false/\gF p nm' { m with state:=st.map (·.values) } h'/\
   ae (L51_0 (aa pg) ae) [y0,.ip [.hp 0 0],y2,y3,cH st,qi st.length,qi A.length,y7,y8,y9,y10,y11,y12,y13,y14] h=
   ae (L51_0 (aa pg) ae) [y0,.ip [.hp 0 0],y2,y3,cH st,qi st.length,qi st.length,y7,y8,y9,y10,y11,y12,y13,y14] h'
 |[],A,nm,m,h,e,hs,hn,hc,ht,R=>by
  simp only[adL]at e;subst e;refine⟨nm,h,hn,ht,?_,rfl⟩;rw[<- hs];exact R
 | x:: B,A,nm,m,h,e,hs,hn,hc,ht,R=>by
  have hll:A.length+(B.length+1)=st.length:=by rw[<- e];simp
  have h1:(A.length:Int)<(st.length:Int):=WD
  have hx:st[A.length]'(WD)=x:=by subst e;simp
  have hm:x∈st:=by rw[<- e];simp
  have hix:=O4 (l:=st) (n:=(A.length:Int)) WD h1;rw[show ((A.length:Int)).toNat=A.length by omega,acF st A.length WD,hx]at hix;have hmsl:m.state.length=A.length:=by rw[hs];simp
  obtain⟨tag,dv,cv,sv,R0⟩:=R;obtain⟨av,h2,sv',h3,h4,nm',c1,ok1,l1,p1,s1,n1,t1,R'⟩:=Ik R0 (fun h0=>⟨hc h0,by
   grind⟩) x (hv x hm) WD
  obtain⟨nm2,h',j1,j2,j3,j4⟩:=BC (p:=p) st hst hv y0 y2 y3 y7 y8 y9 y10 y11 y12 y13 y14 B (A++[x]) nm' _ h4 qr (by simp[hs]) qr (fun h0=>by simp at h0) (t1.trans ht) R';refine⟨nm2,h',j1,j2,j3,?_⟩;rw[<- j4];generalize hcode:ae (L51_0 (aa pg) ae) [y0,.ip [.hp 0 0],y2,y3,cH st,qi st.length,qi A.length,y7,y8,y9,y10,y11,y12,y13,y14] h=code;have hlp:ay T 201 (.ip [.hp 0 0])=some (.hp 0 0):=rfl;have hvv:AV.agg (ab x.av)=x.av:=rfl;have hac:ab x.av=[.str x.module,vals x.values]:=rfl;have hw:IntKind.i64.wrap ((A.length:Int)+1)=((A.length+1:Nat):Int):=aH WD;have ls:∀g:AV->M AV,aG (bM T 65 (.hp 0 11)) g h=g sv h:=fun g=>cK l1;rw[FL51_0]at hcode;simp -implicitDefEqProofs only[L51_0,ak,au,aC,af,ah,h1,acX,acK,hix,NW,bZ (BK x),aj,cJ,hlp,fQ,FH203_4,FH67_4,ac8,Nat.reduceAdd,ls]at hcode;simp -implicitDefEqProofs only[af,aj,cJ,hac,FA197_0,FA197_1,ac5,ac0,LD9,LD31]at hcode;rw[cK c1]at hcode;simp -implicitDefEqProofs only[G9 _ _ ok1,Eu (.agg [.str x.module,av]) rfl,af]at hcode;rw[cK p1]at hcode;rw[cK s1]at hcode;simp_all
def Kb(l:List Val)(hl:bw l<=4611686018427387904):aa pg 114 [vals l,.fn (.func 115) [] []]=ao (.bool !(l.all (cI 4))):=Ct 115 t115 l hl
def nmF:SNm:=⟨[],.hn,[],false⟩
def Oj(p:List Mod)(world:List Int)(fuel:Int):List AV:=[mods p,ints world,qi fuel,qi 0,qi 0,qi 0,qi 0,.hn,.hn,.hn,.hn,.hn]
def zh(p:List Mod)(world:List Int)(fuel:Int):gF p nmF (bv world fuel []) [Oj p world fuel]:=
 ⟨fun _=>0,.hn,.hn,.hn,rfl,rfl,.inl ⟨rfl,rfl⟩,.inl ⟨rfl,rfl⟩,.inl ⟨rfl,rfl⟩,rfl,fun h=>by cases h⟩
theorem HG{nm:SNm}{m:Ms}{h:Hp}(R:gF p nm m h)(e:Int)(v:Val):∃h1 cells,(cG T 62 (.hp 0 5) v.av h= .ok (.tup []) h1)/\∃h2,cG T 38 (.hp 0 4) (qi e) h1= .ok (.tup []) h2/\bM T 67 (.hp 0 4) h2= .ok (.agg cells) h2/\
  aG (aK 8 [] (.agg cells)) (fun w=>ao (AV.agg [aD (ab w) 0,aD (ab w) 1,aD (ab w) 2,aD (ab w) 3,aD (ab w) 4,aD (ab w) 5,aD (ab w) 6,aD (ab w) 7])) h2= .ok (.agg cells) h2/\jt 6 h2 (.agg cells)=Out.av ⟨e,v,m.deeds,m.calls,List.zipWith Vars.mk nm.names m.state⟩:=by
 obtain⟨tag,dv,cv,sv,R⟩:=R;have hlt:0<h.length:=(acJ.1 R.r0).1;have s1:=iz (T:=T) (t:=62) rfl R.r0 (v:=v.av) (k:=5) (iP v) (show 5+4<=12 by decide) Vc;have e1:setCells (rowP p nm.told m dv cv sv) 5 (ab v.av)=[Do nm.told p,zO nm.told m.world,qi m.fuel,qi m.frames,qi 0,qi v.kind,qi v.n,strs v.names,vals v.values,dv,cv,sv]:=by
  rw[i7];rfl
 rw[e1]at s1;have s2:=iz (T:=T) (t:=38) rfl (h:=h.set 0 [Do nm.told p,zO nm.told m.world,qi m.fuel,qi m.frames,qi 0,qi v.kind,qi v.n,strs v.names,vals v.values,dv,cv,sv]) (l:=0) (k:=4) (v:=qi e) (adu hlt) rfl (show 4+1<=12 by decide) Vc;rw[List.set_set]at s2;have e2:setCells [Do nm.told p,zO nm.told m.world,qi m.fuel,qi m.frames,qi 0,qi v.kind,qi v.n,strs v.names,vals v.values,dv,cv,sv] 4 (ab (qi e))=[Do nm.told p,zO nm.told m.world,qi m.fuel,qi m.frames,qi e,qi v.kind,qi v.n,strs v.names,vals v.values,dv,cv,sv]:=rfl;rw[e2]at s2;refine⟨_,[qi e,qi v.kind,qi v.n,strs v.names,vals v.values,dv,cv,sv],s1,_,s2,?_,?_,?_⟩
 ·exact uN (T:=T) (t:=67) rfl rfl (adu hlt) (show 4+8<=12 by decide)
 ·have hd:aO dv=true:=by rcases R.ds with⟨_,rfl⟩|⟨q,cs,rfl,_⟩<;>rfl
  have hc:aO cv=true:=by rcases R.cs with⟨_,rfl⟩|⟨q,cs,rfl,_⟩<;>rfl
  have hs:aO sv=true:=by rcases R.st with⟨_,rfl⟩|⟨q,cs,rfl,_⟩<;>rfl
  have hok:cn 8 (.agg [qi e,qi v.kind,qi v.n,strs v.names,vals v.values,dv,cv,sv])=true:=by
   simp only[cn,cW,ab,adz,List.all_nil,hd,hc,hs];rfl
  rw[cw hok];rfl
 ·-- the rows but the first one are as they were
  have K:Kp tag tag (fun k=>k=0) h (h.set 0 [Do nm.told p,zO nm.told m.world,qi m.fuel,qi m.frames,qi e,qi v.kind,qi v.n,strs v.names,vals v.values,dv,cv,sv]):=abW R.t0 _;have d1:=KN (d:=4) (R.ds.keep K (c':=fun cs=>cs=eU m.deeds) Vc fun _ h=>h);have d2:=KM (d:=4) (R.cs.keep K Vc fun _ h=>h.keep K Vc);have d3:=HJ (d:=4) (c0:=nm.cells) (R.st.keep K Vc fun _ h=>⟨h.1,h.2.keep K WD⟩);rw[tv];simp only[cl,eB,d1,d2,d3,lU,ta];rfl
theorem Nl{m:M AV}{a r:AV}{h':Hp}(h1:m []= .ok a h')(h2:jt 6 h' a=r):aF m=ao r:=by
 funext h
 grind [aF,ao]
def J1(o:Out):aG (aK 8 [] o.av) (fun w=>ao (AV.agg [aD (ab w) 0,aD (ab w) 1,aD (ab w) 2,aD (ab w) 3,aD (ab w) 4,aD (ab w) 5,aD (ab w) 6,aD (ab w) 7]))=ao o.av:=by
 simp_all
theorem nY(e:Int):bW T false 67 [(0,qi e)]=some (xP e).av:=rfl
theorem KJ(LB:LimB p)(st:List Vars)(args:List Val)(world:List Int)(fuel at_:Int)(f:Fun)(hst:st.length<=1099511627776)(hv:∀x∈st,x.values.length<=274877906944)(hat0:0<=at_)(hat:at_<p.length)(hf:f∈(p[at_.toNat]?.getD default).funcs)(hlen:args.length=f.params.length)(hr:∀v∈args,Rv v)(hb:dR p st=true)(hfu:0<=fuel/\fuel<=100000)(y7 y8 y9 y10 y11 y12 y13 y14:AV):
  ∃a h',ae (L51_0 (aa pg) ae) [.ip (ab (vals args)),.ip [.hp 0 0],.ip [qi at_],.ip (ab f.av),cH st,qi st.length,qi 0,y7,y8,y9,y10,y11,y12,y13,y14] [Oj p world fuel]= .ok a h'/\
   jt 6 h' a=(wk (st.map (·.module)) (cS p (bh p 100000) at_ f args (bv world fuel (st.map (·.values))))).av:=by
 obtain⟨nm,h1,n1,n2,R1,e1⟩:=BC (p:=p) st hst hv (.ip (ab (vals args))) (.ip [qi at_]) (.ip (ab f.av)) y7 y8 y9 y10 y11 y12 y13 y14 st [] nmF (bv world fuel []) _ rfl rfl rfl (fun _=>rfl) rfl (zh p world fuel);have hz:((([]:List Vars).length:Nat):Int)=0:=rfl;rw[hz]at e1;rw[e1];have hbr:=kF hb;have e2:({ bv world fuel []with state:=st.map (·.values) }:Ms)=bv world fuel (st.map (·.values)):=rfl;rw[e2]at R1;have G:GoodM p (bv world fuel (st.map (·.values))):=by
  refine⟨⟨fun l hl v hv=>?_,fun c hc=>by simp[bv]at hc⟩,by simp[mu,bv];omega,by simp[bv],by simp[bv];omega,fun i x hx=>?_⟩
  ·grind
  ·grind
 have hen:=PO (nm:=nm) LB 100000 at_ f args _ _ hat0 hat hf hlen hr R1 G (by simp[mu,bv];omega) (by simp[bv];omega);have hlp:ay T 201 (.ip [.hp 0 0])=some (.hp 0 0):=rfl;have hla:ay T 3 (.ip [qi at_])=some (.int .i64 at_):=rfl;have hlf:ay T 56 (.ip (ab f.av))=some f.av:=AI
 have hlv:ay T 31 (.ip (ab (vals args)))=some (vals args):=rfl;have hcall:∀h,aa pg 119 [.ip [.hp 0 0],.ip [qi at_],.ip (ab f.av),.ip (ab (vals args))] h=aG (aa pg 120 [.hp 0 0,qi at_,f.av,vals args]) (fun v=>aG (aK 4 [] v) fun w=>ao (AV.agg [aD (ab w) 0,aD (ab w) 1,aD (ab w) 2,aD (ab w) 3])) h:=fun h=>by
  simp_all[C119,S119]
 have htry:=t118 (.fn (.func 119) [] [.ip [.hp 0 0],.ip [qi at_],.ip (ab f.av),.ip (ab (vals args))]) h1;have hcv:ba (aa pg) (.fn (.func 119) [] [.ip [.hp 0 0],.ip [qi at_],.ip (ab f.av),.ip (ab (vals args))]) []=aa pg 119 [.ip [.hp 0 0],.ip [qi at_],.ip (ab f.av),.ip (ab (vals args))]:=rfl;rw[hcv,hcall]at htry;have how:=eO hen;generalize hcode:ae (L51_0 (aa pg) ae) [.ip (ab (vals args)),.ip [.hp 0 0],.ip [qi at_],.ip (ab f.av),cH st,qi st.length,qi st.length,y7,y8,y9,y10,y11,y12,y13,y14] h1=code;rw[FL51_0]at hcode;simp -implicitDefEqProofs only[L51_0,ak,au,aC,af,ah,ae7,adg,acA,acI,hlp]at hcode;generalize cS p (bh p 100000) at_ f args (bv world fuel (st.map (·.values)))=r at how |-
 -- what the catch leaves
 have hfin:∃(e:Int)(v:Val)(s:Ms)(h2:Hp),wk (st.map (·.module)) r=⟨e,v,s.deeds,s.calls,List.zipWith Vars.mk (st.map (·.module)) s.state⟩/\gF p nm s h2/\aa pg 118 [.fn (.func 119) [] [.ip [.hp 0 0],.ip [qi at_],.ip (ab f.av),.ip (ab (vals args))]] h1= .ok (.tup [v.av,qi e]) h2:=by
  cases r with
  |ok v s=>
   obtain⟨h',g1,g2⟩:=how;rw[g1]at htry;simp only[DX,iP,acD]at htry;refine⟨0,v,s,h',rfl,g2,?_⟩;simp_all
  |er c s=>
   obtain⟨h',g1,g2⟩:=how;rw[g1]at htry;exact⟨c,default,s,h',rfl,g2,htry⟩
 obtain⟨e,v,s,h2,o1,R2,t1⟩:=hfin;obtain⟨h3,cells,s1,h4,s2,l1,w1,fz⟩:=HG R2 e v;rw[cK t1]at hcode;simp -implicitDefEqProofs only[cC,acV,adc,af,fQ,FH203_4,FH67_0,FH67_1,ac8,Nat.reduceAdd]at hcode
 grind [cK]
theorem U0(a b:Int):bN T .neq 38 (qi a) (qi b)=some (.bool (a != b)):=rfl
theorem t51(LB:LimB p)(st:List Vars)(module fn:aA)(args:List Val)(world:List Int)(fuel:Int)(hst:st.length<=1099511627776)(hv:∀x∈st,x.values.length<=274877906944/\bw x.values<=4611686018427387904)(hargs:bw args<=4611686018427387904):aa pg 51 [mods p,cH st,.str module,.str fn,vals args,ints world,qi fuel]=ao (gY p st module fn args world fuel).av:=by
 have hnm:=t109 p LB.lim.len;have hbl:=t111 p st LB.lim.len (fun m hm=>(LB.lim.funcs m hm).2) (fun x hx=>(hv x hx).2);have hany:=Kb args hargs;have hcl1:∀s:aA,cl ai (.str s)= .str s:=fun _=>rfl;have hcl2:∀n:Int,cl ai (qi n)= qi n:=fun _=>rfl;rw[C51,oT,ED,hcl1,hcl1,ta,I5,hcl2]
 have key:∃a h',S51 (aa pg) ae (mods p) (cH st) (.str module) (.str fn) (vals args) (ints world) (qi fuel) []= .ok a h'/\jt 6 h' a=(gY p st module fn args world fuel).av:=by
  have done:∀(o:Out)(c:M AV),c []=ao o.av []->∃a h',c []= .ok a h'/\jt 6 h' a=o.av:=fun o c h=>⟨o.av,[],h,ux _ o⟩;generalize hcode:S51 (aa pg) ae (mods p) (cH st) (.str module) (.str fn) (vals args) (ints world) (qi fuel) []=code;simp -implicitDefEqProofs only[S51,hnm,aj,U0,af,ah]at hcode;unfold gY;by_cases hn:fP p=0
  ·have hn':(fP p != 0)=false:=by simp[hn]
   have hnn:¬(fP p≠0):=fun h=>h hn;simp only[hn',acA,acI]at hcode;simp only[acE hnn];have hg1:dI (.bool (decide (fuel<0))) false 1 (ao [.bool (decide (100000<fuel))])=ao [gv (decide (fuel<0)) false (.bool (decide (100000<fuel)))]:=aV _ _ _;have hg2:dI (.bool (decide (fuel<0)||decide (100000<fuel))) false 1 (ao [.bool !(dR p st)])=ao [gv (decide (fuel<0)||decide (100000<fuel)) false (.bool !(dR p st))]:=aV _ _ _;simp -implicitDefEqProofs only[aC,Cv,af,hg1,aj,ak,iR,hbl,b9,hg2,ah]at hcode;by_cases hb:fuel<0\/100000<fuel\/dR p st=false
   ·have hb':(decide (fuel<0)||decide (100000<fuel)||!(dR p st))=true:=by
     simp only[adm,acP,ade];rcases hb with h|h|h
     ·grind
     ·grind
     ·exact .inr h
    simp only[hb',acK,nY,af,J1]at hcode;simp only[acL hb];rw[<- hcode];exact⟨_,[],rfl,ux _ _⟩
   ·have hb':(decide (fuel<0)||decide (100000<fuel)||!(dR p st))=false:=by
     rw[<- aej];simp only[adm,acP,ade];rintro ((h|h)|h)
     ·grind
     ·grind
     ·grind
    have hbe:dR p st=true:=by
     cases h:dR p st with
     |true=>rfl
     |false=>grind
    have hfu:0<=fuel/\fuel<=100000:=WD
    have hB:bW T true 203 [(0,mods p),(1,ints world),(2,qi fuel)]=some (.agg (Oj p world fuel)):=rfl;have hnew:∀g:AV->M AV,aG (newH (Oj p world fuel)) g []=g (.hp 0 0) [Oj p world fuel]:=fun g=>rfl;have hcell:bB 1 (.hp 0 0)=ao (.agg [.hp 0 0]):=rfl;have hcelli:∀n:Int,bB 1 (qi n)=ao (.agg [qi n]):=fun _=>rfl;have hlp:ay T 201 (.ip [.hp 0 0])=some (.hp 0 0):=rfl;have hla:∀n:Int,ay T 3 (.ip [qi n])=some (.int .i64 n):=fun _=>rfl;have hmd:=t112 (zh p world fuel) LB.lim module;have hlt:eM p module<p.length\/p=[]:=by
     rcases qn (fun(x:Mod)=>x.name== module) p 0 with k|k
     ·grind [eM]
     ·have:eM p module=aL (fun(x:Mod)=>x.name== module) p 0:=rfl
      grind
    have hlt':eM p module<p.length:=by
     rcases hlt with h|h
     ·exact h
     ·subst h;show aL _ [] 0<_;simp[aL]
    have hfn:=t113 (zh p world fuel) LB.lim (eM p module) hlt' fn;simp only[hb',acA,acI]at hcode;simp only[acE hb];simp -implicitDefEqProofs only[hB,af,cJ,hnew,hcell,aj,hlp]at hcode;rw[cK hmd]at hcode;simp -implicitDefEqProofs only[hcelli,aj,cJ,hlp,af,hla]at hcode;rw[cK hfn]at hcode;cases hf:iA p (eM p module) fn with
    |none=>
     rw[hf]at hcode;simp -implicitDefEqProofs only[yo,cC,acV,adc,af,mC,aj,b9,adG,ah,acK,nY,J1]at hcode;rw[<- hcode];exact⟨_,_,rfl,ux _ _⟩
    | some f=>
     rw[hf]at hcode;obtain⟨f1,f2,f3⟩:=mL hf;have hac:∀f:Fun,ab (.agg (ab f.av))=ab f.av:=fun _=>rfl;have hpar:ay T 23 (.ip (List.drop 2 (ab f.av)))=some (aE f.params):=AI
     have hlv:ay T 31 (.ip (ab (vals args)))=some (vals args):=rfl;have hg3:dI (.bool ((args.length:Int) != (f.params.length:Int))) false 1 (ao [.bool !(args.all (cI 4))])=ao [gv ((args.length:Int) != (f.params.length:Int)) false (.bool !(args.all (cI 4)))]:=aV _ _ _;simp -implicitDefEqProofs only[yo,cC,acV,adc,af,mC,aj,b9,adb,ah,acA,acI,hlv,Cj,hac,FA56_2,hpar,oM,jI,hany,hg3,ak,iR]at hcode;simp only;by_cases hr:args.length=f.params.length/\args.all (cI 4)=true
     ·have hr':(((args.length:Int) != (f.params.length:Int))||!(args.all (cI 4)))=false:=by
       have:((args.length:Int) != (f.params.length:Int))=false:=by simp[hr.1]
       rw[this,hr.2];rfl
      simp -implicitDefEqProofs only[hr',acA,acI,Sv,af]at hcode;simp only[acL hr];obtain⟨a,h',g1,g2⟩:=KJ LB st args world fuel (eM p module) f hst (fun x hx=>(hv x hx).1) WD hlt' f3 hr.1 (fun v hv=>(acQ.1 hr.2) v hv) hbe hfu (qi 0) (qi 0) (qi 0) (.sl []) (.sl []) (.sl []) (.sl []) (.sl [])
      grind
     ·have hr':(((args.length:Int) != (f.params.length:Int))||!(args.all (cI 4)))=true:=by
       by_cases h1:args.length=f.params.length
       ·grind
       ·grind
      simp -implicitDefEqProofs only[hr',acK,nY,af,J1]at hcode;simp only[acE hr];rw[<- hcode];exact⟨_,_,rfl,ux _ _⟩
  ·have hn':(fP p != 0)=true:=by simp[hn]
   simp only[hn',acK,nY,af,J1]at hcode;simp only[acL hn];rw[<- hcode];exact⟨_,[],rfl,ux _ _⟩
 grind [Nl]
structure LimR (p:List Mod):Prop where
 body:LimB p
 init:∀m∈p,m.init.length<=274877906944/\∀e∈m.init,bj e
theorem kP:(l:List Val)->(∀v∈l,Rv v)->bw l<=l.length*200000
 |[],_=>by simp[bw]
 |v:: l,h=>by
  have h1:=zl (h v ad8);have h2:=kP l fun w hw=>h w (adA _ hw)
  grind [bw]
theorem wa:(p:List Mod)->(st:List Vars)->iG p= .ok st->∀x∈st,∃m∈p,x.values.length=m.init.length
 |[],st,h,x,hx=>by cases h;cases hx
 | m :: ms,st,h,x,hx=>by
  unfold iG at h;split at h
  ·split at h
   ·cases h
   ·rename_i vs hvs;split at h
    ·cases h
    ·rename_i r hr;cases h;rcases ac2.1 hx with rfl|hx
     ·grind [qq]
     ·obtain⟨m',h1,h2⟩:=wa ms r hr x hx
      grind
  ·cases h
theorem t16(L:LimR p)(module fn:aA)(args:List Val)(world:List Int)(fuel:Int)(hargs:bw args<=4611686018427387904):
  aa pg 16 [mods p,.str module,.str fn,vals args,ints world,qi fuel]=ao (eI p module fn args world fuel).av:=by
 have hfr:=t50 p L.body.lim.len (fun m hm=>⟨(L.body.lim.funcs m hm).2,L.init m hm⟩);have hcl1:∀s:aA,cl ai (.str s)= .str s:=fun _=>rfl;have hcl2:∀n:Int,cl ai (qi n)= qi n:=fun _=>rfl;have hS:S16 (aa pg) ae (mods p) (.str module) (.str fn) (vals args) (ints world) (qi fuel)=ao (eI p module fn args world fuel).av:=by
  unfold eI;simp -implicitDefEqProofs only[S16,hfr,aj];cases hx:lr p with
  | error e=>
   have he:(e != 0)=true:=by
    have:=HH hx
    simpa using this
   simp_all[tt,nY]
  | ok st=>
   have hb:=kF (yk hx);have hlen:∀x∈st,x.values.length<=274877906944:=fun x hx'=>by
    unfold lr at hx;split at hx
    ·obtain⟨m,h1,h2⟩:=wa p st hx x hx';rw[h2];exact (L.init m h1).1
    ·cases hx
   have hfrom:=t51 L.body st module fn args world fuel (by rw[hb.1];exact L.body.lim.len) (fun x hx'=>⟨hlen x hx',adi (kP _ (hb.2.1 x hx')) qr⟩) hargs;have h0:((0:Int) != 0)=false:=rfl;simp_all[tt]
 rw[C16,oT,hcl1,hcl1,ta,I5,hcl2,hS];exact aZ fun g=>ux g _
def Pf{e x:Exp}(h:x∈e.args):SizeOf.sizeOf x<SizeOf.sizeOf e:=by
 cases e with
 |mk o n s m ns es=>
  have h1:=ad3 h;have h3:SizeOf.sizeOf x<SizeOf.sizeOf es:=h1
  grind
def LO(Q:Prop)(most:Int)(m:M AV):Prop:=∃n,m=ao (.int .i64 n)/\1<=n/\n<=most+1/\(n<=most->Q)
theorem xR:(l:List Exp)->(∀x∈l,bj x)->tg l
 |[],_=>trivial
 |x:: l,h=>⟨h x ad8,xR l fun y hy=>h y (adA _ hy)⟩
def Kz{e:Exp}(h1:e.names.length<=8796093022208)(h2:e.args.length<=274877906944)(h3:∀x∈e.args,bj x):bj e:=by
 obtain⟨o,n,s,m,ns,es⟩:=e;exact⟨h1,h2,xR es h3⟩
def IQ(e:Exp):Prop:=∀most depth:Int,0<=most->most<=1099511627->depth<=1099511627776->LO (bj e) most (aa pg 66 [e.av,qi most,qi depth])
def VA(e:Exp)(hL:e.Lim)(ih:∀x∈e.args,IQ x)(most depth:Int)(h0:0<=most)(h1:most<=1099511627)(h2:depth<=1099511627776)(h3:1<=depth):
  ∀(r:Nat)(n i:Int),e.args.length-i.toNat=r->0<=i->i<=e.args.length->1<=n->n<=most+1->i+1<=n->LO (e.args.length<=most/\∀x∈e.args.drop i.toNat,bj x) most (ae (L66_0 (aa pg) ae) [.int .i64 most,.int .i64 depth,.ip (ab e.av),.int .i64 n,.int .i64 i]):=by
 intro r
 induction r with
 |zero=>
  intro n i hr hi hb hn hm hin;rw[FL66_0];simp only[L66_0];have h1:¬(i<(e.args.length:Int)):=WD
  simp[h1];exact⟨n,rfl,hn,hm,fun h=>⟨WD,fun x hx=>by grind [List.drop_eq_nil_of_le]⟩⟩
 | succ r IH=>
  intro n i hr hi hb hn hm hin;have hlen:=hL.len;have h5:i<(e.args.length:Int):=WD
  have hlt:i.toNat<e.args.length:=WD
  rw[FL66_0];simp only[L66_0];by_cases hs:n<=most
  ·obtain⟨k,hk,hk1,hk2,hk3⟩:=ih e.args[i.toNat] (List.getElem_mem hlt) (most-n) (depth-1) WD WD WD;obtain⟨n',q1,q2,q3,q4⟩:=IH (n+k) (i+1) WD WD WD WD WD WD;have h4:LO (e.args.length<=most/\∀x∈e.args.drop i.toNat,bj x) most (ae (L66_0 (aa pg) ae) [.int .i64 most,.int .i64 depth,.ip (ab e.av),.int .i64 (n+k),.int .i64 (i+1)]):=by
    by_cases hk4:k<=most-n
    ·refine⟨n',q1,q2,q3,fun h=>⟨(q4 h).1,fun x hx=>?_⟩⟩;rw[List.drop_eq_getElem_cons hlt]at hx
     grind
    ·have hstop:ae (L66_0 (aa pg) ae) [.int .i64 most,.int .i64 depth,.ip (ab e.av),.int .i64 (n+k),.int .i64 (i+1)]=ao (.int .i64 (n+k)):=by
      rw[FL66_0];simp only[L66_0];have h6:¬(n+k<=most):=WD
      simp[h6]
     exact⟨n+k,hstop,WD,WD,fun h=>WD⟩
   simp (disch:=omega) [h5,hs,lj,acF e.args i.toNat hlt,aW,hk];simpa using h4
  ·simp[h5,hs];exact⟨n,rfl,hn,hm,fun h=>absurd h hs⟩
def t66:∀(N:Nat)(e:Exp),SizeOf.sizeOf e<=N->e.Lim->IQ e:=by
 intro N
 induction N with
 |zero=>intro e he;cases e;simp at he
 | succ N ih=>
  intro e he hL most depth h0 h1 h2;rw[C66];have h4:1<=depth->_:=fun h3=>VA e hL (fun x hx=>ih x (by have:=Pf hx;omega) (hL.kid hx)) most depth h0 h1 h2 h3 e.args.length 1 0 rfl WD WD WD WD WD;simp[S66];by_cases hc:depth<1
  ·simp[hc];rw[aW WD WD];exact⟨_,rfl,WD,WD,fun h=>WD⟩
  ·by_cases hk:10<(e.names.length:Int)
   ·simp[hc,hk];rw[aW WD WD];exact⟨_,rfl,WD,WD,fun h=>WD⟩
   ·simp[hc,hk];obtain⟨n,hn,b1,b2,b3⟩:=h4 WD;simp at hn;rw[hn,tC];refine⟨n,rfl,b1,b2,fun h=>Kz hL.names ?_ fun x hx=>(b3 h).2 x (by simpa using hx)⟩
    grind
def t26(e:Exp)(h:e.Lim):∃b,aa pg 26 [e.av]=ao (.bool b)/\(b=true->bj e):=by
 obtain⟨n,hn,_,_,b3⟩:=t66 _ e (acC _) h 60 14 WD WD WD;rw[C26];exact⟨decide (n<=60),by simp[S26,hn],fun h=>b3 (by simpa using h)⟩
def IP(e:Ty):Prop:=∀most depth:Int,0<=most->most<=1099511627776->depth<=1099511627776->LO True most (aa pg 65 [e.av,qi most,qi depth])
def MX{e:Ty}{x:ca}(h:x∈e.fields):SizeOf.sizeOf x.2<SizeOf.sizeOf e:=by
 cases e with
 |mk k fs=>
  have h1:=ad3 h;have h2:SizeOf.sizeOf x.2<SizeOf.sizeOf x:=by cases x;simp;omega
  have h3:SizeOf.sizeOf x<SizeOf.sizeOf fs:=h1
  grind
def Vz(e:Ty)(hL:e.Lim)(ih:∀x∈e.fields,IP x.2)(most depth:Int)(h0:0<=most)(h1:most<=1099511627776)(h2:depth<=1099511627776)(h3:1<=depth):
  ∀(r:Nat)(n i:Int),e.fields.length-i.toNat=r->0<=i->i<=e.fields.length->1<=n->n<=most+1->LO True most (ae (L65_0 (aa pg) ae) [.int .i64 most,.int .i64 depth,.ip (ab e.av),.int .i64 n,.int .i64 i]):=by
 intro r
 induction r with
 |zero=>
  intro n i hr hi hb hn hm;rw[FL65_0];simp only[L65_0];have h1:¬(i<(e.fields.length:Int)):=WD
  simp[h1];exact⟨n,rfl,hn,hm,fun _=>trivial⟩
 | succ r IH=>
  intro n i hr hi hb hn hm;have hlen:=hL.len;have h5:i<(e.fields.length:Int):=WD
  have hlt:i.toNat<e.fields.length:=WD
  rw[FL65_0];simp only[L65_0];by_cases hs:n<=most
  ·obtain⟨k,hk,hk1,hk2,_⟩:=ih e.fields[i.toNat] (List.getElem_mem hlt) (most-n) (depth-1) WD WD WD;have h4:=IH (n+k) (i+1) WD WD WD WD WD;simp (disch:=omega) [h5,hs,lP,acF e.fields i.toNat hlt,aW,hk];simpa using h4
  ·simp[h5,hs];exact⟨n,rfl,hn,hm,fun _=>trivial⟩
def t65:∀(N:Nat)(e:Ty),SizeOf.sizeOf e<=N->e.Lim->IP e:=by
 intro N
 induction N with
 |zero=>intro e he;cases e;simp at he
 | succ N ih=>
  intro e he hL most depth h0 h1 h2;rw[C65];have h4:1<=depth->_:=fun h3=>Vz e hL (fun x hx=>ih x.2 (by have:=MX hx;omega) (hL.kid hx)) most depth h0 h1 h2 h3 e.fields.length 1 0 rfl WD WD WD WD;simp[S65];by_cases hc:depth<1
  ·rw[acL hc,aW WD WD,tC];exact⟨_,rfl,WD,WD,fun _=>trivial⟩
  ·rw[acE hc];obtain⟨n,hn,b⟩:=h4 WD;simp_all
def t25(e:Ty)(h:e.Lim):∃b,aa pg 25 [e.av]=ao (.bool b):=by
 obtain⟨n,hn,_,_,b3⟩:=t65 _ e (acC _) h 40 6 WD WD WD;rw[C25];exact⟨decide (n<=40),by simp[S25,hn]⟩
def BB(P:Prop)(m:M AV):Prop:=∃b,m=ao (.bool b)/\(b=true->P)
def BB.no{P:Prop}:BB P (ao (.bool false)):=⟨false,rfl,fun h=>by cases h⟩
def BB.imp{P Q:Prop}{m:M AV}(h:BB P m)(f:P->Q):BB Q m:=by
 obtain⟨b,h1,h2⟩:=h;exact⟨b,h1,fun e=>f (h2 e)⟩
def Vn(l:List ca)(hl:l.length<=140737488355328)(hL:∀e∈l,e.2.Lim):∀(r:Nat)(i:Int),l.length-i.toNat=r->0<=i->i<=l.length->BB (l.length<=8) (ae (L24_0 (aa pg) ae) [aE l,qi i]):=by
 intro r
 induction r with
 |zero=>
  intro i hr hi hb;rw[FL24_0];simp only[L24_0];have h1:¬(i<(l.length:Int)):=WD
  simp[h1];exact⟨_,rfl,fun h=>qr⟩
 | succ r IH=>
  intro i hr hi hb;have h5:i<(l.length:Int):=WD
  have hlt:i.toNat<l.length:=WD
  rw[FL24_0];simp only[L24_0];by_cases hs:i<9
  ·obtain⟨k,hk⟩:=t25 l[i.toNat].2 (hL _ (List.getElem_mem hlt));have h4:=IH (i+1) WD WD WD;simp (disch:=omega) [h5,hs,lP,acF l i.toNat hlt,aW,hk];cases k with
   |false=>exact .no
   |true=>
    grind
  ·simp[h5,hs];refine⟨_,rfl,fun h=>?_⟩
   grind
def t24(l:List ca)(hl:l.length<=140737488355328)(hL:∀e∈l,e.2.Lim):BB (l.length<=8) (aa pg 24 [aE l]):=by
 rw[C24];obtain⟨b,hb,h2⟩:=Vn l hl hL l.length 0 rfl WD WD;refine⟨b,?_,h2⟩;simp[S24,hb]
def Vo(l:List Exp)(hl:l.length<=140737488355328)(hL:∀e∈l,e.Lim):∀(r:Nat)(i:Int),l.length-i.toNat=r->0<=i->i<=l.length->BB (l.length<=8/\∀e∈l.drop i.toNat,bj e) (ae (L27_0 (aa pg) ae) [bg l,qi i]):=by
 intro r
 induction r with
 |zero=>
  intro i hr hi hb;rw[FL27_0];simp only[L27_0];have h1:¬(i<(l.length:Int)):=WD
  simp[h1];exact⟨_,rfl,fun h=>by grind [List.drop_eq_nil_of_le]⟩
 | succ r IH=>
  intro i hr hi hb;have h5:i<(l.length:Int):=WD
  have hlt:i.toNat<l.length:=WD
  rw[FL27_0];simp only[L27_0];by_cases hs:i<9
  ·obtain⟨k,hk,hq⟩:=t26 l[i.toNat] (hL _ (List.getElem_mem hlt));have h4:=IH (i+1) WD WD WD;simp (disch:=omega) [h5,hs,lj,acF l i.toNat hlt,aW,hk];cases k with
   |false=>exact .no
   |true=>
    simp;refine h4.imp fun h=>⟨h.1,fun x hx=>?_⟩;rw[List.drop_eq_getElem_cons hlt]at hx
    grind
  ·simp[h5,hs];refine⟨_,rfl,fun h=>?_⟩
   grind
def t27(l:List Exp)(hl:l.length<=140737488355328)(hL:∀e∈l,e.Lim):BB (l.length<=8/\∀e∈l,bj e) (aa pg 27 [bg l]):=by
 rw[C27];obtain⟨b,hb,h2⟩:=Vo l hl hL l.length 0 rfl WD WD;refine⟨b,?_,fun h=>qr⟩;simp[S27,hb]
structure FewMod (m:Mod):Prop where
 uses:m.uses.length<=6
 funcs:m.funcs.length<=6
 vars:m.vars.length<=8
 init:m.init.length<=8/\∀e∈m.init,bj e
 body:∀f∈m.funcs,bj f.body/\f.params.length<=8
def Y7(m:Mod)(M0:m.Lim):∀(r:Nat)(j:Int),m.funcs.length-j.toNat=r->0<=j->j<=m.funcs.length->
  BB (m.funcs.length<=6/\(m.uses.length<=6/\m.vars.length<=8)/\(m.init.length<=8/\∀e∈m.init,bj e)/\∀f∈m.funcs.drop j.toNat,bj f.body/\f.params.length<=8) (ae (L7_0 (aa pg) ae) [.ip (ab m.av),qi j]):=by
 obtain⟨b1,h1,q1⟩:=t24 m.vars M0.vars M0.vty;obtain⟨b2,h2,q2⟩:=t27 m.init M0.init M0.ies;obtain⟨b3,h3,_⟩:=t24 m.old M0.old M0.oty;obtain⟨b4,h4,_⟩:=t27 m.forward M0.forward M0.fes;obtain⟨b5,h5,_⟩:=t27 m.back M0.back M0.bes
 have fin:∀j:Int,¬(j<(m.funcs.length:Int))\/¬(j<7)->BB (m.funcs.length<=6/\(m.uses.length<=6/\m.vars.length<=8)/\(m.init.length<=8/\∀e∈m.init,bj e)) (ae (L7_0 (aa pg) ae) [.ip (ab m.av),qi j]):=by
  intro j hj;rw[FL7_0];simp only[L7_0];by_cases g1:j<(m.funcs.length:Int)
  ·have g2:¬(j<7):=WD
   have g3:¬((m.funcs.length:Int)<=6):=WD
   simp[g1,g2,g3];exact .no
  ·cases hq:(decide ((m.funcs.length:Int)<=6)&&decide ((m.uses.length:Int)<=6))with
   |false=>exact⟨false,by simp[g1];rw[hq];simp,fun h=>by cases h⟩
   | true=>
    have hf:m.funcs.length<=6:=by simp at hq;omega
    have hu:m.uses.length<=6:=by simp at hq;omega
    cases b1 with
    |false=>exact⟨false,by simp[g1];simp_all,fun h=>by cases h⟩
    | true=>cases b2 with
     |false=>exact⟨false,by simp[g1];simp_all,fun h=>by cases h⟩
     | true=>cases b3 with
      |false=>exact⟨false,by simp[g1];simp_all,fun h=>by cases h⟩
      |true=>cases b4 with
       |false=>exact⟨false,by simp[g1];simp_all,fun h=>by cases h⟩
       |true=>exact⟨b5,by simp[g1];simp_all,fun _=>⟨hf,⟨hu,q1 rfl⟩,q2 rfl⟩⟩
 intro r
 induction r with
 |zero=>
  intro j hr hi hb;refine (fin j (.inl WD)).imp fun h=>⟨h.1,h.2.1,h.2.2,fun x hx=>?_⟩
  grind [List.drop_eq_nil_of_le]
 | succ r IH=>
  intro j hr hi hb;have g5:j<(m.funcs.length:Int):=WD
  have hlt:j.toNat<m.funcs.length:=WD
  by_cases hs:j<7
  ·have F0:=M0.fns _ (List.getElem_mem hlt);have hfn:=M0.funcs;obtain⟨p1,e1,w1⟩:=t24 m.funcs[j.toNat].params F0.params F0.pty;obtain⟨p2,e2⟩:=t25 m.funcs[j.toNat].result F0.result;obtain⟨p3,e3,w3⟩:=t26 m.funcs[j.toNat].body F0.body;have h4:=IH (j+1) WD WD WD;rw[FL7_0];simp only[L7_0];simp (disch:=omega) [g5,hs,sW,acF m.funcs j.toNat hlt,aW,e1];cases p1 with
   |false=>simp;exact .no
   | true=>
    simp (disch:=omega) [sW,acF m.funcs j.toNat hlt,e2];cases p2 with
    |false=>simp;exact .no
    | true=>
     simp (disch:=omega) [sW,acF m.funcs j.toNat hlt,e3];cases p3 with
     |false=>simp;exact .no
     |true=>
      simp;refine h4.imp fun h=>⟨h.1,h.2.1,h.2.2.1,fun x hx=>?_⟩;rw[List.drop_eq_getElem_cons hlt]at hx
      grind
  grind
def t7(m:Mod)(M0:m.Lim):BB (FewMod m) (aa pg 7 [m.av]):=by
 rw[C7];obtain⟨b,hb,h2⟩:=Y7 m M0 m.funcs.length 0 rfl WD WD;refine⟨b,?_,fun h=>⟨(h2 h).2.1.1,(h2 h).1,(h2 h).2.1.2,(h2 h).2.2.1,qr⟩⟩;simp at hb;simp[S7,hb]
def MR(h1:p.length<=4)(h2:∀m∈p,FewMod m):LimR p:=by
 refine⟨⟨⟨WD,fun m hm=>?_⟩,fun m hm f hf=>?_⟩,fun m hm=>?_⟩
 ·have:=(h2 m hm).funcs
  have:=(h2 m hm).vars
  grind
 ·have:=(h2 m hm).body f hf
  grind
 ·exact⟨by have:=(h2 m hm).init.1;omega,(h2 m hm).init.2⟩
def MV{F:(List AV->M AV)->List AV->M AV}(hF:∀vs,ae F vs=F (ae F) vs)(st:Nat->List AV)(n:Nat)(hend:∃b,F (ae F) (st n)=ao (.bool b))(hstep:∀k,k<n->(∃b,F (ae F) (st k)=ao (.bool b))\/F (ae F) (st k)=ae F (st (k+1))):
  ∀k,k<=n->∃b,ae F (st k)=ao (.bool b):=by
 have key:∀r k,n-k=r->k<=n->∃b,ae F (st k)=ao (.bool b):=by
  intro r
  induction r with
  |zero=>
   intro k hr hk;obtain rfl:k=n:=WD
   rw[hF];exact hend
  | succ r ih=>
   intro k hr hk;rw[hF];rcases hstep k (WD)with h|h
   ·exact h
   ·rw[h];exact ih (k+1) WD WD
 exact fun k hk=>key (n-k) k rfl hk
def aa7(s:Sig)(hs:s.Lim):∃b,aa pg 64 [s.av]=ao (.bool b):=by
 have hlen:=hs.plen;obtain⟨br,hbr⟩:=t25 s.result hs.result;obtain⟨b,hb⟩:=MV (FL64_0 (aa pg)) (fun k=>[.ip (ab s.av),qi (k:Int)]) s.params.length (by
  cases br<;>by_cases h:(s.params.length:Int)<=8<;>simp[L64_0,hbr,h]) (fun k hk=>by
  have h1:(k:Int)<(s.params.length:Int):=WD
  have hix:=Ci (l:=s.params) (n:=(k:Int)) WD h1;rw[acG,acF s.params k hk]at hix;have hm':=List.getElem_mem hk;generalize s.params[k]=t at hix hm';have w3:IntKind.i64.wrap ((k:Int)+1)=(k:Int)+1:=by rw[aH WD];simp
  obtain⟨b,hb⟩:=t25 t (hs.ptys t hm');by_cases h9:(k:Int)<9
  ·have h9':k<9:=WD
   cases b with
   |false=>simp_all[L64_0]
   |true=>simp_all[L64_0]
  ·have h9':¬k<9:=WD
   refine .inl ?_;cases br<;>by_cases h:(s.params.length:Int)<=8<;>simp[L64_0,h1,hk,h9,h9',hbr,h]) 0 (acU _)
 grind [C64,S64,CG,mj]
def aa6(f:Face)(hf:f.Lim):∃b,aa pg 22 [f.av]=ao (.bool b):=by
 have hlen:=hf.len;obtain⟨b,hb⟩:=MV (FL22_0 (aa pg)) (fun k=>[.ip (ab f.av),qi (k:Int)]) f.funcs.length (by
  by_cases h:(f.funcs.length:Int)<=8<;>simp[L22_0,h]) (fun k hk=>by
  have h1:(k:Int)<(f.funcs.length:Int):=WD
  have hix:=O2 (l:=f.funcs) (n:=(k:Int)) WD h1;rw[acG,acF f.funcs k hk]at hix;have hm':=List.getElem_mem hk;generalize f.funcs[k]=t at hix hm';have w3:IntKind.i64.wrap ((k:Int)+1)=(k:Int)+1:=by rw[aH WD];simp
  obtain⟨b,hb⟩:=aa7 t (hf.sigs t hm');by_cases h9:(k:Int)<9
  ·have h9':k<9:=WD
   cases b with
   |false=>simp_all[L22_0]
   |true=>simp_all[L22_0]
  ·have h9':¬k<9:=WD
   refine .inl ?_;by_cases h:(f.funcs.length:Int)<=8<;>simp[L22_0,h1,hk,h9,h9',h]) 0 (acU _)
 grind [C22,S22,CE,mj]
def Y5(a b c:Mod)(ha:a.Lim)(hb:b.Lim)(hc:c.Lim)(fs:List Face)(hl:fs.length<=140737488355328)(hf:∀f∈fs,f.Lim):
  ∀(r i:Nat),fs.length-i=r->i<=fs.length->BB (FewMod a/\FewMod b/\FewMod c) (ae (L5_0 (aa pg) ae) [faces fs,.ip (ab a.av),.ip (ab b.av),.ip (ab c.av),qi i]):=by
 obtain⟨b1,h1,q1⟩:=t7 a ha;obtain⟨b2,h2,q2⟩:=t7 b hb;obtain⟨b3,h3,q3⟩:=t7 c hc;have lm:∀m:Mod,ay T 29 (.ip (ab m.av))=some m.av:=fun m=>AI
 have fin:∀i:Nat,¬((i:Int)<(fs.length:Int))\/¬((i:Int)<5)->BB (FewMod a/\FewMod b/\FewMod c) (ae (L5_0 (aa pg) ae) [faces fs,.ip (ab a.av),.ip (ab b.av),.ip (ab c.av),qi i]):=by
  intro i hi;have hc1:(decide ((i:Int)<(fs.length:Int))&&decide ((i:Int)<5))=false:=by rcases hi with h|h<;>simp[h]
  rw[FL5_0];by_cases h4:(fs.length:Int)<=4
  ·cases b1 with
   |false=>exact⟨false,by simp -implicitDefEqProofs only[L5_0,ak,au,uo,af,aC,lR,aV,eW,hc1,ah,acA,acI,h4,acX,cD,lm,h1,aj,dD,mh,cy,List.replicate],fun h=>by cases h⟩
   |true=>cases b2 with
    |false=>exact⟨false,by simp -implicitDefEqProofs only[L5_0,ak,au,uo,af,aC,lR,aV,eW,hc1,ah,acA,acI,h4,acX,cD,lm,h1,h2,aj,dD,mh,cy,List.replicate],fun h=>by cases h⟩
    |true=>exact⟨b3,by simp -implicitDefEqProofs only[L5_0,ak,au,uo,af,aC,lR,aV,eW,hc1,ah,acA,acI,h4,acX,cD,lm,h1,h2,h3,aj,dD],fun h=>⟨q1 rfl,q2 rfl,q3 h⟩⟩
  ·exact⟨false,by simp -implicitDefEqProofs only[L5_0,ak,au,uo,af,aC,lR,aV,eW,hc1,ah,acA,acI,h4,adg,aj,mh,cy,List.replicate],fun h=>by cases h⟩
 intro r
 induction r with
 |zero=>grind
 | succ r ih=>
  intro i hr hi;by_cases h5:(i:Int)<5
  ·have hlt:i<fs.length:=WD
   have g1:(i:Int)<(fs.length:Int):=WD
   have hix:=WF (l:=fs) (n:=(i:Int)) WD g1;rw[acG,acF fs i hlt]at hix;obtain⟨bf,hbf⟩:=aa6 fs[i] (hf _ (List.getElem_mem hlt));have hw:IntKind.i64.wrap ((i:Int)+1)=((i+1:Nat):Int):=aH WD;have h4:=ih (i+1) WD WD;generalize fs[i]=f at hix hbf;have lf:ay T 43 (.ip (ab f.av))=some f.av:=AI
   rw[FL5_0];simp -implicitDefEqProofs only[L5_0,ak,au,uo,af,aC,g1,h5,acX,aV,eW,aer,ah,acK,hix,lf,hbf,aj,b9];cases bf with
   |false=>exact⟨false,AI,fun h=>by cases h⟩
   |true=>simp_all
  grind
def t5(a b c:Mod)(ha:a.Lim)(hb:b.Lim)(hc:c.Lim)(fs:List Face)(hl:fs.length<=140737488355328)(hf:∀f∈fs,f.Lim):BB (FewMod a/\FewMod b/\FewMod c) (aa pg 5 [a.av,b.av,c.av,faces fs]):=by
 obtain⟨r,e,q⟩:=Y5 a b c ha hb hc fs hl hf fs.length 0 rfl (acU _);refine⟨r,?_,q⟩
 grind [C5,fL,xF,S5,mj]
end Go.Proofs.YtkidiopjcgeifaaGreat
namespace Go.Proofs.YtkidiopjcgeifaaGreat.Mg
open Go Go.Av Go.Av.Ap
set_option maxRecDepth 100000
def mT(m n:Mod)(k:Nat)(s:aA):Prop:=match k with
 |1=>aJ nP (varsOf m) s=aJ nP (varsOf n) s
 |2=>aJ Fun.name m.funcs s=aJ Fun.name n.funcs s
 |_=>True
theorem pz{m:Mod}(h:m.init.length=m.vars.length):(varsOf m).map nP=m.vars.map (·.1):=by
 have e4:(varsOf m).map Prod.fst=m.vars:=aeT WD;rw[<- e4,adW];rfl
def jx{m:Mod}(h:Sz m)(k:Nat):(dU m k).length<=1000:=by
 have:=h.uses;have:=h.vars;have:=h.funcs
 unfold dU
 grind
theorem Ng(y:AV):gv false false y=y:=rfl
theorem Bg{α:Type}(nm:α->aA)(l:List α)(s:aA):(aL (fun x=>x== s) (l.map nm) 0= -1/\aJ nm l s=[])\/∃(i:Nat)(hi:i<l.length),aL (fun x=>x== s) (l.map nm) 0=(i:Int)/\aJ nm l s=[l[i]]/\nm l[i]=s:=by
 grind [Be,aJ,oh]
def Jq(l:List aA)(s:aA):aL (fun x=>x== s) l 0= -1\/∃(i:Nat)(_:i<l.length),aL (fun x=>x== s) l 0=(i:Int):=by
 grind [oh]
theorem yg{α:Type}{nm:α->aA}{l:List α}{s:aA}(h:aL (fun x=>x== s) (l.map nm) 0= -1):aJ nm l s=[]:=by
 grind [Bg]
def tp{α:Type}{nm:α->aA}{l:List α}{s:aA}{i:Nat}(h:aL (fun x=>x== s) (l.map nm) 0=(i:Int)):∃hi:i<l.length,aJ nm l s=[l[i]]/\nm l[i]=s:=by
 rcases Bg nm l s with⟨h1,_⟩|⟨j,hj,h1,h2,h3⟩
 all_goals grind
def Kd{P:Prop}{m:M AV}(b:Bool)(e:m=ao (.bool b))(h:b=true->P):BB P m:=⟨b,e,h⟩
theorem t14(m n:Mod)(hm:m.Lim)(sm:Sz m)(sn:Sz n)(im:m.init.length=m.vars.length)(iN:n.init.length=n.vars.length)(k:Nat)(hk:k<4)(s:aA):BB (mT m n k s) (aa pg 14 [m.av,n.av,qi k,.str s]):=by
 have lm:∀m:Mod,ay T 29 (.ip (ab m.av))=some m.av:=fun m=>AI
 have o1:=t13 m sm k hk;have o2:=t13 n sn k hk;have d1:=t39 (dU m k) s (by have:=jx sm k;omega);have d2:=t39 (dU n k) s (by have:=jx sn k;omega);rw[C14,fL,fL,show cl ai (qi (k:Int))= qi (k:Int)from rfl,show cl ai (.str s)= .str s from rfl]
 have key:BB (mT m n k s) (S14 (aa pg) ae m.av n.av (qi k) (.str s)):=by
  rcases Jq (dU m k) s with e1|⟨i,hi,e1⟩
  ·have h1:decide ((-1:Int)<0)=true:=rfl;rw[e1]at d1;refine Kd ((-1:Int)== aL (fun x=>x== s) (dU n k) 0) (by simp -implicitDefEqProofs only[S14,lm,af,o1,o2,aj,d1,d2,aC,h1,ot,dD,ah,acK,ej]) fun h=>?_;have e2:aL (fun x=>x== s) (dU n k) 0= -1:=by simpa using(ada.1 h).symm
   match k,hk with
   |0,_=>trivial
   |1,_=>
    show aJ nP (varsOf m) s=aJ nP (varsOf n) s
    grind [dU,pz,yg]
   |2,_=>
    show aJ Fun.name m.funcs s=aJ Fun.name n.funcs s;rw[yg e1,yg e2]
   |3,_=>trivial
  ·have n1:¬((i:Int)<0):=WD
   rw[e1]at d1;rcases Jq (dU n k) s with e2|⟨j,hj,e2⟩
   ·have h1:decide ((-1:Int)<0)=true:=rfl;rw[e2]at d2;have h2:((i:Int)== -1)=false:=by rw[acM];omega
    refine Kd false (by simp -implicitDefEqProofs only[S14,lm,af,o1,o2,aj,d1,d2,aC,n1,adg,h1,Ng,aV,ak,cy,ah,acK,ej,h2]) fun h=>by cases h
   ·rw [e2]at d2;have n2:¬((j:Int)<0):=WD
    have f2:∀cs,ar T 29 (.ip cs) 2=some (.ip (cs.drop 2)):=fun _=>rfl;have f3:∀cs,ar T 29 (.ip cs) 3=some (.ip (cs.drop 3)):=fun _=>rfl;have f4:∀cs,ar T 29 (.ip cs) 4=some (.ip (cs.drop 4)):=fun _=>rfl;have f6:∀cs,ar T 29 (.ip cs) 6=some (.ip (cs.drop 6)):=fun _=>rfl;have g1:∀cs,ar T 79 (.ip cs) 1=some (.ip (cs.drop 1)):=fun _=>rfl;have w0:∀cs,ar T 27 (.ip cs) 0=some (.ip (cs.drop 0)):=fun _=>rfl;have w1:∀cs,ar T 27 (.ip cs) 1=some (.ip (cs.drop 1)):=fun _=>rfl;have w2:∀cs,ar T 27 (.ip cs) 2=some (.ip (cs.drop 2)):=fun _=>rfl;have l2:∀m:Mod,ay T 23 (.ip ((ab m.av).drop 2))=some (aE m.vars):=fun m=>AI
    have l3:∀m:Mod,ay T 24 (.ip ((ab m.av).drop 3))=some (bg m.init):=fun m=>AI
    have l4:∀m:Mod,ay T 25 (.ip ((ab m.av).drop 4))=some (eL m.funcs):=fun m=>AI
    have l6:∀m:Mod,ay T 23 (.ip (((ab m.av).drop 6).drop 0))=some (aE m.old):=fun m=>AI
    have l7:∀m:Mod,ay T 24 (.ip (((ab m.av).drop 6).drop 1))=some (bg m.forward):=fun m=>AI
    have l8:∀m:Mod,ay T 24 (.ip (((ab m.av).drop 6).drop 2))=some (bg m.back):=fun m=>AI
    have lt:∀f:ca,ay T 52 (.ip ((ab (aR f)).drop 1))=some f.2.av:=fun f=>AI
    have le:∀e:Exp,ay T 54 (.ip (ab e.av))=some e.av:=fun e=>AI
    have lf:∀f:Fun,ay T 56 (.ip (ab f.av))=some f.av:=fun f=>AI
    have b00:((0:Int)== 0)=true:=rfl;have b10:((1:Int)== 0)=false:=rfl;have b11:((1:Int)== 1)=true:=rfl;have b20:((2:Int)== 0)=false:=rfl;have b21:((2:Int)== 1)=false:=rfl;have b22:((2:Int)== 2)=true:=rfl;have b30:((3:Int)== 0)=false:=rfl;have b31:((3:Int)== 1)=false:=rfl;have b32:((3:Int)== 2)=false:=rfl;have hv:=hm.vars;have hI:=hm.init;have hf:=hm.funcs
    match k,hk with
    |0,_=>
     have o1':aa pg 13 [m.av,qi 0]=ao (strs (dU m 0)):=o1;have o2':aa pg 13 [n.av,qi 0]=ao (strs (dU n 0)):=o2;refine Kd true ?_ fun _=>trivial;show S14 (aa pg) ae m.av n.av (qi 0) (.str s)=_;simp -implicitDefEqProofs only[S14,lm,af,o1',o2',aj,d1,d2,aC,n1,n2,adg,Ng,aV,ak,cy,ah,acA,acI,ej,b00,acK]
    | 1,_=>
     have o1':aa pg 13 [m.av,qi 1]=ao (strs (dU m 1)):=o1;have o2':aa pg 13 [n.av,qi 1]=ao (strs (dU n 1)):=o2;have q1:dU m 1=(varsOf m).map nP:=(pz im).symm;have q2:dU n 1=(varsOf n).map nP:=(pz iN).symm;have e1':=e1;have e2':=e2;rw[q1]at e1';rw[q2]at e2';obtain⟨i0,r1,r2⟩:=tp e1';obtain⟨j0,r3,r4⟩:=tp e2';have i0':=i0;have j0':=j0;unfold varsOf at i0' j0';rw[List.length_zip]at i0' j0';have i1:i<m.vars.length:=WD
     have i2:i<m.init.length:=WD
     have j1:j<n.vars.length:=WD
     have j2:j<n.init.length:=WD
     have g3:(varsOf m)[i]=(m.vars[i],m.init[i]):=afe;have g4:(varsOf n)[j]=(n.vars[j],n.init[j]):=afe;have hnv:=sn.vars;have x1:=lP (l:=m.vars) (n:=(i:Int)) WD WD;rw[acG,acF m.vars i i1]at x1;have x2:=lP (l:=n.vars) (n:=(j:Int)) WD WD;rw[acG,acF n.vars j j1]at x2;have x3:=lj (l:=m.init) (n:=(i:Int)) WD WD;rw[acG,acF m.init i i2]at x3;have x4:=lj (l:=n.init) (n:=(j:Int)) WD WD;rw[acG,acF n.init j j2]at x4;have y1:=t40 _ m.vars[i].2 n.vars[j].2 (acC _) (hm.vty _ (List.getElem_mem i1));have y2:=t41 _ m.init[i] n.init[j] (acC _) (hm.ies _ (List.getElem_mem i2));rw[g3]at r1 r2;rw[g4]at r3 r4;generalize m.vars[i]=u at *;generalize m.init[i]=v at *;generalize n.vars[j]=w at *;generalize n.init[j]=z at *;refine Kd (jF u.2 w.2&&j9 v z) ?_ fun h=>?_
     ·show S14 (aa pg) ae m.av n.av (qi 1) (.str s)=_;simp -implicitDefEqProofs only[S14,lm,af,o1',o2',aj,d1,d2,aC,n1,n2,adg,Ng,aV,ak,cy,ah,acA,acI,ej,b10,b11,acK,
       f2,l2,x1,x2,g1,lt,y1,bE,f3,l3,x3,x4,le,y2,eW]
     ·show aJ nP (varsOf m) s=aJ nP (varsOf n) s;rw[acB,oI,rp]at h;rw[r1,r3];obtain⟨a,b⟩:=u;obtain⟨c,d⟩:=w;have r2:a=s:=r2;have r4:c=s:=r4
      grind
    | 2,_=>
     have o1':aa pg 13 [m.av,qi 2]=ao (strs (dU m 2)):=o1;have o2':aa pg 13 [n.av,qi 2]=ao (strs (dU n 2)):=o2;obtain⟨i1,r1,r2⟩:=tp (nm:=Fun.name) (l:=m.funcs) e1;obtain⟨j1,r3,r4⟩:=tp (nm:=Fun.name) (l:=n.funcs) e2;have hnf:=sn.funcs;have x1:=sW (l:=m.funcs) (n:=(i:Int)) WD WD;rw[acG,acF m.funcs i i1]at x1;have x2:=sW (l:=n.funcs) (n:=(j:Int)) WD WD;rw[acG,acF n.funcs j j1]at x2;have y1:=t42 m.funcs[i] n.funcs[j] (hm.fns _ (List.getElem_mem i1));generalize m.funcs[i]=u at *;generalize n.funcs[j]=w at *;refine Kd (ic u w) ?_ fun h=>?_
     ·show S14 (aa pg) ae m.av n.av (qi 2) (.str s)=_;simp -implicitDefEqProofs only[S14,lm,af,o1',o2',aj,d1,d2,aC,n1,n2,adg,Ng,aV,ak,cy,ah,acA,acI,ej,b20,b21,b22,acK,
       f4,l4,x1,x2,lf,y1,bE]
     ·show aJ Fun.name m.funcs s=aJ Fun.name n.funcs s
      grind [JN]
    | 3,_=>
     have o1':aa pg 13 [m.av,qi 3]=ao (strs (dU m 3)):=o1;have o2':aa pg 13 [n.av,qi 3]=ao (strs (dU n 3)):=o2;have y1:=a43 m.old n.old (by have:=hm.old;omega) hm.oty;have y2:=a44 m.forward n.forward (by have:=hm.forward;omega) hm.fes;have y3:=a44 m.back n.back (by have:=hm.back;omega) hm.bes;refine Kd (nT m.old n.old&&po m.forward n.forward&&po m.back n.back) ?_ fun _=>trivial;show S14 (aa pg) ae m.av n.av (qi 3) (.str s)=_;simp -implicitDefEqProofs only[S14,lm,af,o1',o2',aj,d1,d2,aC,n1,n2,adg,Ng,aV,ak,cy,ah,acA,acI,ej,b30,b31,b32,acK,
      f6,w0,w1,w2,l6,l7,l8,y1,y2,y3,bE,eW]
 obtain⟨b,e,h⟩:=key;rw[e];exact⟨b,mj b,h⟩
end Go.Proofs.YtkidiopjcgeifaaGreat.Mg
namespace Go.Proofs.YtkidiopjcgeifaaGreat
open Go Go.Av Go.Av.Ap
set_option maxRecDepth 100000
def Sl(F:Int->Prop)(most:Int)(m:M AV):Prop:=∃n,m=ao (.int .i64 n)/\1<=n/\n<=most+1/\(n<=most->F n)
def LS(e:Val):Prop:=∀most:Int,0<=most->most<=1000->Sl (fun n=>(e.sz:Int)<=140737488355341*n) most (aa pg 23 [e.av,qi most])
def Vm(e:Val)(hL:e.Lim)(ih:∀x∈e.values,LS x)(most:Int)(h0:0<=most)(h1:most<=1000):
  ∀(r:Nat)(n i:Int),e.values.length-i.toNat=r->0<=i->i<=e.values.length->1<=n->n<=most+1->Sl (fun k=>(bw (e.values.drop i.toNat):Int)<=140737488355341*(k-n)) most (ae (L23_0 (aa pg) ae) [.int .i64 most,.ip (ab e.av),.int .i64 n,.int .i64 i]):=by
 intro r
 induction r with
 |zero=>
  intro n i hr hi hb hn hm;rw[FL23_0];simp only[L23_0];have h1:¬(i<(e.values.length:Int)):=WD
  simp[h1];exact⟨n,rfl,hn,hm,fun h=>by grind [List.drop_eq_nil_of_le,bw]⟩
 | succ r IH=>
  intro n i hr hi hb hn hm;have hlen:=hL.len;have h5:i<(e.values.length:Int):=WD
  have hlt:i.toNat<e.values.length:=WD
  by_cases hs:n<=most
  ·obtain⟨k,hk,hk1,hk2,hk3⟩:=ih e.values[i.toNat] (List.getElem_mem hlt) (most-n) WD WD;obtain⟨n',q1,q2,q3,q4⟩:=IH (n+k) (i+1) WD WD WD WD WD;have h4:Sl (fun k=>(bw (e.values.drop i.toNat):Int)<=140737488355341*(k-n)) most (ae (L23_0 (aa pg) ae) [.int .i64 most,.ip (ab e.av),.int .i64 (n+k),.int .i64 (i+1)]):=by
    by_cases hk4:k<=most-n
    ·refine⟨n',q1,q2,q3,fun h=>?_⟩
     grind [List.drop_eq_getElem_cons,bw]
    ·have hstop:ae (L23_0 (aa pg) ae) [.int .i64 most,.ip (ab e.av),.int .i64 (n+k),.int .i64 (i+1)]=ao (.int .i64 (n+k)):=by
      rw[FL23_0];simp only[L23_0];have h6:¬(n+k<=most):=WD
      simp[h6]
     exact⟨n+k,hstop,WD,WD,fun h=>WD⟩
   rw[FL23_0];simp only[L23_0];simp (disch:=omega) [h5,hs,un,acF e.values i.toNat hlt,aW,hk];simpa using h4
  ·rw[FL23_0];simp only[L23_0];simp[h5,hs];exact⟨n,rfl,hn,hm,fun h=>absurd h hs⟩
def ON{e x:Val}(h:x∈e.values):SizeOf.sizeOf x<SizeOf.sizeOf e:=by
 cases e with
 |mk k n ns vs=>
  have h1:=ad3 h;have h3:SizeOf.sizeOf x<SizeOf.sizeOf vs:=h1
  grind
def t23:∀(N:Nat)(e:Val),SizeOf.sizeOf e<=N->e.Lim->LS e:=by
 intro N
 induction N with
 |zero=>intro e he;cases e;simp at he
 |succ N ih=>
  intro e he hL most h0 h1;rw[C23];obtain⟨n,hn,b1,b2,b3⟩:=Vm e hL (fun x hx=>ih x (by have:=ON hx;omega) (hL.kid hx)) most h0 h1 e.values.length 1 0 rfl WD WD WD WD;simp at hn;simp[S23];rw[hn,tC];refine⟨n,rfl,b1,b2,fun h=>?_⟩;have e1:=b3 h;have e2:e.sz=1+e.names.length+bw e.values:=by cases e;rfl
  have e3:=hL.names
  grind
def Y6(l:List Val)(hl:l.length<=140737488355328)(hL:∀v∈l,v.Lim):∀(r:Nat)(i:Int),l.length-i.toNat=r->0<=i->i<=l.length->BB (l.length<=6/\(bw (l.drop i.toNat):Int)<=14073748835534100*((l.length:Int)-i)) (ae (L6_0 (aa pg) ae) [vals l,.int .i64 6,.int .i64 i]):=by
 intro r
 induction r with
 |zero=>
  intro i hr hi hb;rw[FL6_0];simp only[L6_0];have h1:¬(i<(l.length:Int)):=WD
  simp[h1];refine⟨_,rfl,fun h=>?_⟩
  grind [List.drop_eq_nil_of_le,bw]
 | succ r IH=>
  intro i hr hi hb;have h5:i<(l.length:Int):=WD
  have hlt:i.toNat<l.length:=WD
  rw[FL6_0];simp only[L6_0];by_cases hs:i<=6
  ·obtain⟨k,hk,hk1,hk2,hk3⟩:=t23 _ l[i.toNat] (acC _) (hL _ (List.getElem_mem hlt)) 100 WD WD;have h4:=IH (i+1) WD WD WD;simp (disch:=omega) [h5,hs,un,acF l i.toNat hlt,aW,hk];by_cases hg:100<k
   ·simp[hg];exact .no
   ·by_cases hn:20<(l[i.toNat].names.length:Int)
    ·simp (disch:=omega) [hg,hn,un,acF l i.toNat hlt];exact .no
    ·simp (disch:=omega) [hg,hn,un,acF l i.toNat hlt];refine h4.imp fun h=>⟨h.1,?_⟩;have e2:=hk3 WD;have e1:=h.2;rw[List.drop_eq_getElem_cons hlt];simp only[bw];rw[show (i+1).toNat=i.toNat+1 by omega]at e1;omega
  ·simp[h5,hs];refine⟨_,rfl,fun h=>?_⟩;simp at h;omega
def t6(l:List Val)(hl:l.length<=140737488355328)(hL:∀v∈l,v.Lim):BB (bw l<=4611686018427387904) (aa pg 6 [vals l,qi 6]):=by
 rw[C6];obtain⟨b,hb,h2⟩:=Y6 l hl hL l.length 0 rfl WD WD;refine⟨b,?_,fun h=>?_⟩
 ·simp[S6,hb]
 ·have:=h2 h
  simp at this;omega
def t124:∀(n:Nat)(v w:Val),v.sz<=n->v.sz<=4611686018427387904->aa pg 124 [v.av,w.av]=ao (.bool (gR v w)):=by
 intro n
 induction n with
 |zero=>intro v w h;have:=v.sz_pos;omega
 | succ n ih=>
  intro v w hn hv;have h1:=t61 v.names w.names (adi v.sz_names hv);have h2:=t123 (.fn (.func 124) [] []) gR v.values w.values (by have:=v.sz_len;omega) (fun g=>rfl) (fun x hx y _=>by
   have:=abm hx
   exact ih x y WD WD)
  simp_all[C124,Gj,S124]
def Qf(f:AV)(F:Ap.Call->Ap.Call->Bool)(a:List Ap.Call)(b:List Ap.Call)(hb:a.length<=4611686018427387904)(hab:a.length=b.length)(hf:∀x∈a,∀y∈b,ba (aa pg) f [Ap.Call.av x,Ap.Call.av y]=ao (.bool (F x y))):∀(n:Nat)(i:Int),a.length-i.toNat=n->0<=i->i<=a.length->
  ae (L121_0 (aa pg) ae) [calls b,f,calls a,qi a.length,qi i]=ao (.bool (bp F (a.drop i.toNat) (b.drop i.toNat))):=by
 intro n
 induction n with
 |zero=>
  intro i hn hi hl;rw[FL121_0];simp only[L121_0];have h1:¬(i<(a.length:Int)):=WD
  have h2:a.drop i.toNat=[]:=List.drop_eq_nil_of_le WD;have h3:b.drop i.toNat=[]:=List.drop_eq_nil_of_le WD;simp[h1,h2,h3,bp]
 |succ n ih=>
  intro i hn hi hl;have h1:i<(a.length:Int):=WD
  have h1':i<(b.length:Int):=WD
  have hlt:i.toNat<a.length:=WD
  have hlt':i.toNat<b.length:=WD
  have h3:=hf a[i.toNat] (List.getElem_mem hlt) b[i.toNat] (List.getElem_mem hlt');have h4:=ih (i+1) WD WD WD;rw[show (i+1).toNat=i.toNat+1 by omega]at h4;rw[FL121_0,ij F a b i.toNat hlt hlt'];simp only[L121_0];simp (disch:=omega) [h1,aW,O3,O3,h4];simp_all
def t121(f:AV)(F:Ap.Call->Ap.Call->Bool)(a:List Ap.Call)(b:List Ap.Call)(hb:a.length<=4611686018427387904)(hc:∀g,cl g f=f)(hf:∀x∈a,∀y∈b,ba (aa pg) f [Ap.Call.av x,Ap.Call.av y]=ao (.bool (F x y))):aa pg 121 [calls a,calls b,f]=ao (.bool (bp F a b)):=by
 rw[C121];by_cases h:a.length=b.length
 ·have:=Qf f F a b hb h hf a.length 0 rfl WD WD
  simp_all[S121]
 simp_all[S121,cR]
def Qh(f:AV)(F:Vars->Vars->Bool)(a:List Vars)(b:List Vars)(hb:a.length<=4611686018427387904)(hab:a.length=b.length)(hf:∀x∈a,∀y∈b,ba (aa pg) f [Vars.av x,Vars.av y]=ao (.bool (F x y))):∀(n:Nat)(i:Int),a.length-i.toNat=n->0<=i->i<=a.length->
  ae (L125_0 (aa pg) ae) [cH b,f,cH a,qi a.length,qi i]=ao (.bool (bp F (a.drop i.toNat) (b.drop i.toNat))):=by
 intro n
 induction n with
 |zero=>
  intro i hn hi hl;rw[FL125_0];simp only[L125_0];have h1:¬(i<(a.length:Int)):=WD
  have h2:a.drop i.toNat=[]:=List.drop_eq_nil_of_le WD;have h3:b.drop i.toNat=[]:=List.drop_eq_nil_of_le WD;simp[h1,h2,h3,bp]
 |succ n ih=>
  intro i hn hi hl;have h1:i<(a.length:Int):=WD
  have h1':i<(b.length:Int):=WD
  have hlt:i.toNat<a.length:=WD
  have hlt':i.toNat<b.length:=WD
  have h3:=hf a[i.toNat] (List.getElem_mem hlt) b[i.toNat] (List.getElem_mem hlt');have h4:=ih (i+1) WD WD WD;rw[show (i+1).toNat=i.toNat+1 by omega]at h4;rw[FL125_0,ij F a b i.toNat hlt hlt'];simp only[L125_0];simp (disch:=omega) [h1,aW,O4,O4,h4];simp_all
def t125(f:AV)(F:Vars->Vars->Bool)(a:List Vars)(b:List Vars)(hb:a.length<=4611686018427387904)(hc:∀g,cl g f=f)(hf:∀x∈a,∀y∈b,ba (aa pg) f [Vars.av x,Vars.av y]=ao (.bool (F x y))):aa pg 125 [cH a,cH b,f]=ao (.bool (bp F a b)):=by
 rw[C125];by_cases h:a.length=b.length
 ·have:=Qh f F a b hb h hf a.length 0 rfl WD WD
  simp_all[S125]
 simp_all[S125,cR]
def pZ(d e:Deed):Bool:=d.effect== e.effect&&d.arg== e.arg&&d.answer== e.answer
theorem MA(d e:Deed):bN T .neq 126 d.av e.av=some (.bool (!(pZ d e))):=by
 have h:vK T 20 126 d.av e.av=some (pZ d e):=by
  have h0:vK T 20 126 d.av e.av=(match some (d.effect== e.effect)with
   | some true=>(match some (d.arg== e.arg)with
    |some true=>(match some (d.answer== e.answer)with
     |some true=>some true
     |some false=>some false
     |none=>none)
    |some false=>some false
    |none=>none)
   |some false=>some false
   |none=>none):=rfl
  rw[h0];unfold pZ;cases h1:d.effect== e.effect<;>cases h2:d.arg== e.arg<;>cases h3:d.answer== e.answer<;>rfl
 show (vK T 20 126 d.av e.av).map _=_;rw[h];rfl
def Qi(a b:List Deed)(hb:a.length<=4611686018427387904)(hab:a.length=b.length):∀(n:Nat)(i:Int),a.length-i.toNat=n->0<=i->i<=a.length->
  ae (L127_0 (aa pg) ae) [deeds a,deeds b,qi a.length,qi i]=ao (.bool (bp pZ (a.drop i.toNat) (b.drop i.toNat))):=by
 intro n
 induction n with
 |zero=>
  intro i hn hi hl;rw[FL127_0];simp only[L127_0];have h1:¬(i<(a.length:Int)):=WD
  have h2:a.drop i.toNat=[]:=List.drop_eq_nil_of_le WD;have h3:b.drop i.toNat=[]:=List.drop_eq_nil_of_le WD;simp[h1,h2,h3,bp]
 |succ n ih=>
  intro i hn hi hl;have h1:i<(a.length:Int):=WD
  have h1':i<(b.length:Int):=WD
  have hlt:i.toNat<a.length:=WD
  have hlt':i.toNat<b.length:=WD
  have h4:=ih (i+1) WD WD WD;rw[show (i+1).toNat=i.toNat+1 by omega]at h4;rw[FL127_0,ij pZ a b i.toNat hlt hlt'];simp only[L127_0];simp (disch:=omega) [h1,aW,WG,h4,MA]
def t127(a b:List Deed)(hb:a.length<=4611686018427387904):aa pg 127 [deeds a,deeds b]=ao (.bool (bp pZ a b)):=by
 rw[C127];by_cases h:a.length=b.length
 ·have:=Qi a b hb h a.length 0 rfl WD WD
  simp_all[S127]
 simp_all[S127,cR]
def xz(x y:Ap.Call):Bool:=x.module== y.module&&x.func== y.func&&bp gR x.args y.args
def zM(x y:Vars):Bool:=x.module== y.module&&bp gR x.values y.values
def qa(a b:Out):Bool:=a.err== b.err&&gR a.value b.value&&bp pZ a.deeds b.deeds&&bp xz a.calls b.calls&&bp zM a.state b.state
def jl{l:List Val}{x:Val}(h:x∈l):x.sz<=bw l:=by
 induction l with
 |nil=>cases h
 |cons y l ih=>
  simp only[bw]
  grind
def kD(l:List Val):l.length<=bw l:=by
 induction l with
 |nil=>simp[bw]
 |cons y l ih=>
  simp only[bw,acR]
  have:=y.sz_pos
  omega
def Cc(a b:List Val)(ha:bw a<=4611686018427387904):aa pg 123 [vals a,vals b,.fn (.func 124) [] []]=ao (.bool (bp gR a b)):=
 t123 (.fn (.func 124) [] []) gR a b (by have:=kD a;omega) (fun g=>rfl) (fun x hx y _=>by
  have:=jl hx
  exact t124 x.sz x y (acC _) WD)
def t122(x y:Ap.Call)(h:bw x.args<=4611686018427387904):aa pg 122 [x.av,y.av]=ao (.bool (xz x y)):=by
 simp_all[Cc,C122,S122,xz]
def t126(x y:Vars)(h:bw x.values<=4611686018427387904):aa pg 126 [x.av,y.av]=ao (.bool (zM x y)):=by
 simp_all[Cc,C126,S126,zM]
structure OutLim (o:Out):Prop where
 deeds:o.deeds.length<=140737488355328
 calls:o.calls.length<=140737488355328
 args:∀c∈o.calls,bw c.args<=4611686018427387904
 state:o.state.length<=140737488355328/\∀x∈o.state,bw x.values<=4611686018427387904
 value:o.value.sz<=4611686018427387904
def t52(a b:Out)(h:OutLim a):aa pg 52 [a.av,b.av]=ao (.bool (qa a b)):=by
 have h1:=t121 (.fn (.func 122) [] []) xz a.calls b.calls (by have:=h.calls;omega) (fun g=>rfl) (fun x hx y _=>t122 x y (h.args x hx));have h2:=t125 (.fn (.func 126) [] []) zM a.state b.state (by have:=h.state.1;omega) (fun g=>rfl) (fun x hx y _=>t126 x y (h.state.2 x hx));have h3:=t124 a.value.sz a.value b.value (acC _) h.value;have h4:=t127 a.deeds b.deeds (by have:=h.deeds;omega);simp_all[C52,S52,qa]
mutual
theorem m5:(v:Val)->gR v v=true
 |.mk k n ns vs=>by simp only[gR,adU,jG vs,aea]
theorem jG:(l:List Val)->qI l l=true
 |[]=>rfl
 |v:: l=>by simp only[qI,m5 v,jG l,aea]
end
theorem qQ{α:Type}(F:α->α->Bool)(h:∀x,F x x=true):(l:List α)->bp F l l=true
 |[]=>rfl
 |x:: l=>by simp only[bp,h x,qQ F h l,aea]
def EN(a:Out):qa a a=true:=by
 simp_all[pZ,qQ,xz,m5,zM,qa]
def Lj{B n:Nat}{o:Out}(h:OutB B n o)(hr:Cm o)(hB:B<=274877906944)(hn:n<=140737488355328):OutLim o where
 deeds:=by have:=h.deeds;omega
 calls:=by have:=h.calls;omega
 args:=fun c hc=>adi (kP _ (hr.2.1 c hc)) (by have:=h.args c hc;omega)
 state:=⟨adi h.state hn,fun x hx=>adi (kP _ (hr.2.2 x hx)) (by have:=h.vals x hx;omega)⟩
 value:=adi (zl hr.1) WD
def HB{p:List Mod}(h1:p.length<=4)(h2:∀m∈p,FewMod m)(module fn:aA)(args:List Val)(world:List Int)(fuel:Int):OutLim (eI p module fn args world fuel):=
 Lj (B:=8) (n:=p.length) (Q4 p module fn args world fuel fun m hm=>⟨(h2 m hm).vars,fun f hf=>((h2 m hm).body f hf).2⟩) (Lt ..) WD WD
end Go.Proofs.YtkidiopjcgeifaaGreat
namespace Go.Proofs.YtkidiopjcgeifaaGreat.So
open Go Go.Av Go.Av.Ap Go.Proofs.YtkidiopjcgeifaaGreat.Mg
set_option maxRecDepth 100000
def yc{F:(List AV->M AV)->List AV->M AV}(hF:∀vs,ae F vs=F (ae F) vs)(st:Nat->List AV)(n:Nat)(hend:F (ae F) (st n)=ao (.bool true))(hstep:∀k,k<n->F (ae F) (st k)=ae F (st (k+1))):ae F (st 0)=ao (.bool true):=by
 have h:=wW hF st n (fun _=>true) hend (fun k hk=>qr) 0 (acU _)
 grind
def M5{l:List Val}{k:Nat}(hk:k<l.length):l[k]! ∈l:=qr
def Nw(l:List Deed):ff T 63 (deeds l)=some (.int .i64 l.length):=AI
def Y3(l:List Ap.Call):ff T 64 (calls l)=some (.int .i64 l.length):=AI
def Ve{p:List Vars}{k:Nat}(h:k<p.length):ax T 65 (cH p) (qi (k:Int))=some (.ip (ab (p[k]!).av)):=by
 have:=bi (T:=T) (t:=65) (e:=197) (f:=Vars.av) (l:=p) (n:=(k:Int)) rfl rfl rfl (fun _=>rfl) WD WD
 rw[acG]at this;exact this
def Vh(p:List Vars):ff T 65 (cH p)=some (.int .i64 p.length):=by
 simp_all
section
variable (w:Vars)
theorem abj:ar T 197 (.ip (ab w.av)) 0=some (.ip ((ab w.av).drop 0)):=rfl
theorem abk:ar T 197 (.ip (ab w.av)) 1=some (.ip ((ab w.av).drop 1)):=rfl
theorem abJ:ay T 9 (.ip ((ab w.av).drop 0))=some (.str w.module):=rfl
theorem abK:ay T 31 (.ip ((ab w.av).drop 1))=some (vals w.values):=rfl
end
section
variable (k n:Int) (ns:List aA) (vs:List Val)
theorem abf:ar T 62 (.ip [qi k,qi n,strs ns,vals vs]) 0=some (.ip [qi k,qi n,strs ns,vals vs]):=rfl
theorem abg:ar T 62 (.ip [qi k,qi n,strs ns,vals vs]) 1=some (.ip [qi n,strs ns,vals vs]):=rfl
theorem abh:ar T 62 (.ip [qi k,qi n,strs ns,vals vs]) 2=some (.ip [strs ns,vals vs]):=rfl
theorem abi:ar T 62 (.ip [qi k,qi n,strs ns,vals vs]) 3=some (.ip [vals vs]):=rfl
theorem abE:ay T 3 (.ip [qi k,qi n,strs ns,vals vs])=some (.int .i64 k):=rfl
theorem abF:ay T 3 (.ip [qi n,strs ns,vals vs])=some (.int .i64 n):=rfl
theorem abG:ay T 22 (.ip [strs ns,vals vs])=some (strs ns):=rfl
theorem abH:ay T 31 (.ip [vals vs])=some (vals vs):=rfl
end
def abI(v:Val):ay T 62 (.ip (ab v.av))=some v.av:=by cases v;rfl
def OP(a b:List Val)(hb:a.length<=4611686018427387904)(hf:∀x∈a,∀y∈b,aa pg 53 [x.av,y.av]=ao (.bool (gR x y))):aa pg 128 [vals a,vals b]=ao (.bool (bp gR a b)):=by
 have la:∀l:List Val,ff T 31 (vals l)=some (.int .i64 l.length):=fun l=>Cj _;rw[C128,show cl ai (vals a)=vals a by simp,show cl ai (vals b)=vals b by simp];by_cases h:a.length=b.length
 ·have h0:((a.length:Int) != (b.length:Int))=false:=by simp[h]
  have hh:=wW (FL128_0 (aa pg)) (fun k=>[vals a,vals b,qi (k:Int)]) a.length (fun k=>gR a[k]! b[k]!) (by
   simp_all[L128_0]) (fun k hk=>by
   have h1:(k:Int)<(a.length:Int):=WD
   have i1:=un (l:=a) (n:=(k:Int)) WD h1;have i2:=un (l:=b) (n:=(k:Int)) WD WD;rw[acG]at i1 i2;have hw:IntKind.i64.wrap ((k:Int)+1)=((k+1:Nat):Int):=aH WD;have m1:a[k]! ∈a:=M5 hk;have m2:b[k]! ∈b:=M5 WD;have f1:=hf _ m1 _ m2;generalize a[k]! = s at i1 f1;generalize b[k]! = t at i2 f1;simp -implicitDefEqProofs only[L128_0,ak,au,la,aC,af,ah,acP,acL h1,i1,i2,abI,f1,bE,aj,b9,aY,hw]
   grind) 0 (acU _)
  have hh':ae (L128_0 (aa pg) ae) [vals a,vals b,qi 0]=_:=hh;rw[aeN,rQ gR a b h]at hh';simp_all[S128]
 simp_all[cR,S128]
def ab8:∀(n:Nat)(v w:Val),v.sz<=n->v.sz<=4611686018427387904->aa pg 53 [v.av,w.av]=ao (.bool (gR v w)):=by
 intro n
 induction n with
 |zero=>intro v w h;have:=v.sz_pos;omega
 |succ n ih=>
  intro v w h hv;have h1:=t102 v.names w.names (adi v.sz_names hv);have h2:=OP v.values w.values (by have:=v.sz_len;omega) (fun x hx y _=>ih x y (by have:=abm hx;omega) (by have:=abm hx;omega));rw[C53,show cl ai v.av=v.av by simp,show cl ai w.av=w.av by simp,Gj];simp -implicitDefEqProofs only[S53,i7,abf,abE,af,ej,abg,abF,aV,aj,ak,eW,abh,abG,h1,abi,abH,h2];simp_all
def x53(v w:Val)(hv:v.sz<=4611686018427387904):aa pg 53 [v.av,w.av]=ao (.bool (gR v w)):=ab8 v.sz v w (acC _) hv
def ab7(a b:List Val)(hb:a.length<=4611686018427387904)(hf:∀x∈a,x.sz<=4611686018427387904):aa pg 128 [vals a,vals b]=ao (.bool (bp gR a b)):=OP a b hb fun x hx y _=>x53 x y (hf x hx)
mutual
theorem m5:(v:Val)->gR v v=true
 |.mk k n ns vs=>by simp[gR,jG vs]
theorem jG:(l:List Val)->qI l l=true
 |[]=>rfl
 |v:: l=>by simp[qI,m5 v,jG l]
end
def J9(l:List Val):bp gR l l=true:=by rw[<- qJ];exact jG l
def J5(l:List Val):Prop:=l.length<=4611686018427387904/\∀x∈l,x.sz<=4611686018427387904
def Zj(l:List Val)(h:J5 l):aa pg 128 [vals l,vals l]=ao (.bool true):=by rw[ab7 l l h.1 h.2,J9]
def NS(a:aA):bN T .neq 9 (.str a) (.str a)=some (.bool false):=AN
def VF(a:Int):bN T .neq 3 (qi a) (qi a)=some (.bool false):=AN
def VE(a:Int):bN T .neq 38 (qi a) (qi a)=some (.bool false):=AN
def r55(l:List Vars)(hl:l.length<=4611686018427387904)(h:∀w∈l,J5 w.values):aa pg 55 [cH l,cH l]=ao (.bool true):=by
 have hh:=yc (FL55_0 (aa pg)) (fun k=>[cH l,cH l,qi (k:Int)]) l.length (by
  simp_all[L55_0]) (fun k hk=>by
  have h1:(k:Int)<(l.length:Int):=WD
  have i1:=Ve hk;have hw:IntKind.i64.wrap ((k:Int)+1)=((k+1:Nat):Int):=aH WD;have m1:l[k]! ∈l:=by rw[acF l k hk];exact List.getElem_mem hk
  have f1:=Zj _ (h _ m1);generalize l[k]! = w at i1 f1;simp -implicitDefEqProofs only[L55_0,ak,au,Vh,aC,af,ah,acP,acL h1,i1,abj,abJ,NS,abk,abK,f1,bE,aj,b9,adb,aV,ak,iR,Bool.or_self,acA,acI,aY,hw])
 have hh':ae (L55_0 (aa pg) ae) [cH l,cH l,qi 0]=_:=hh;rw[C55,show cl ai (cH l)=cH l by simp];simp_all[S55]
section
variable (c:Ap.Call)
theorem aa8:ar T 72 (.ip (ab c.av)) 0=some (.ip ((ab c.av).drop 0)):=rfl
theorem aa9:ar T 72 (.ip (ab c.av)) 1=some (.ip ((ab c.av).drop 1)):=rfl
theorem abx:ay T 9 (.ip ((ab c.av).drop 0))=some (.str c.module):=rfl
theorem aby:ay T 9 (.ip ((ab c.av).drop 1))=some (.str c.func):=rfl
theorem aba:ar T 72 (.ip (ab c.av)) 2=some (.ip ((ab c.av).drop 2)):=rfl
theorem abz:ay T 31 (.ip ((ab c.av).drop 2))=some (vals c.args):=rfl
end
def r54(l:List Ap.Call)(hl:l.length<=4611686018427387904)(h:∀w∈l,J5 w.args):aa pg 54 [calls l,calls l]=ao (.bool true):=by
 have hh:=yc (FL54_0 (aa pg)) (fun k=>[calls l,calls l,qi (k:Int)]) l.length (by
  simp_all[L54_0]) (fun k hk=>by
  have h1:(k:Int)<(l.length:Int):=WD
  have i1:=O3 (l:=l) (n:=(k:Int)) WD h1;rw[acG]at i1;have hw:IntKind.i64.wrap ((k:Int)+1)=((k+1:Nat):Int):=aH WD;have m1:l[k]! ∈l:=by rw[acF l k hk];exact List.getElem_mem hk
  have f1:=Zj _ (h _ m1);generalize l[k]! = w at i1 f1;simp -implicitDefEqProofs only[L54_0,ak,au,Y3,aC,af,ah,acP,acL h1,i1,aa8,abx,NS,aa9,aby,aba,abz,f1,bE,aj,b9,adb,aV,ak,iR,Bool.or_self,acA,acI,aY,hw])
 have hh':ae (L54_0 (aa pg) ae) [calls l,calls l,qi 0]=_:=hh;rw[C54,show cl ai (calls l)=calls l by simp];simp_all[S54]
theorem Yv(d:Deed):bN T .neq 126 d.av d.av=some (.bool false):=by
 have e2:∀n a,vK T (n+1) 3 (qi a) (qi a)=some true:=fun n a=>by
  have:vK T (n+1) 3 (qi a) (qi a)=some (a== a):=rfl
  grind
 have e:bN T .neq 126 d.av d.av=(vK T 20 126 d.av d.av).map fun b=>AV.bool !b:=rfl;have f:vK T 20 126 d.av d.av=(match vK T 18 3 (qi d.effect) (qi d.effect)with
   | some true=>(match vK T 17 3 (qi d.arg) (qi d.arg)with
    |some true=>(match vK T 16 3 (qi d.answer) (qi d.answer)with
     |some true=>some true
     |some false=>some false
     |none=>none)
    |some false=>some false
    |none=>none)
   |some false=>some false
   |none=>none):=rfl
 grind
structure CmpO (o:Out):Prop where
 value:o.value.sz<=4611686018427387904
 deeds:o.deeds.length<=4611686018427387904
 calls:o.calls.length<=4611686018427387904/\∀c∈o.calls,J5 c.args
 state:o.state.length<=4611686018427387904/\∀w∈o.state,J5 w.values
section
variable (o:Out)
theorem abb:ar T 67 (.ip (ab o.av)) 0=some (.ip ((ab o.av).drop 0)):=rfl
theorem abc:ar T 67 (.ip (ab o.av)) 1=some (.ip ((ab o.av).drop 1)):=rfl
theorem U5:ar T 67 (.ip (ab o.av)) 2=some (.ip ((ab o.av).drop 5)):=rfl
theorem abd:ar T 67 (.ip (ab o.av)) 3=some (.ip ((ab o.av).drop 6)):=rfl
theorem abe:ar T 67 (.ip (ab o.av)) 4=some (.ip ((ab o.av).drop 7)):=rfl
theorem abA:ay T 38 (.ip ((ab o.av).drop 0))=some (.int .i64 o.err):=rfl
theorem abB:ay T 62 (.ip ((ab o.av).drop 1))=some o.value.av:=by
 simp_all
theorem Vf:ay T 63 (.ip ((ab o.av).drop 5))=some (deeds o.deeds):=rfl
theorem abC:ay T 64 (.ip ((ab o.av).drop 6))=some (calls o.calls):=rfl
theorem abD:ay T 65 (.ip ((ab o.av).drop 7))=some (cH o.state):=rfl
end
theorem Y2(d:Deed):ay T 126 (.ip (ab d.av))=some d.av:=rfl
def r18(o:Out)(h:CmpO o):aa pg 18 [o.av,o.av]=ao (.bool true):=by
 have c1:=r54 o.calls h.calls.1 h.calls.2;have c2:=r55 o.state h.state.1 h.state.2;have c3:=x53 o.value o.value h.value;rw[m5]at c3;have hd:=h.deeds;have hh:=yc (FL18_0 (aa pg)) (fun k=>[.ip (ab o.av),.ip (ab o.av),qi (k:Int)]) o.deeds.length (by
  have h1:¬((o.deeds.length:Int)<(o.deeds.length:Int)):=WD
  simp -implicitDefEqProofs only[L18_0,ak,au,U5,Vf,Nw,aC,af,ah,acP,acE h1,abd,abC,c1,abe,abD,c2,aV,aj,eW,aea]) (fun k hk=>by
  have h1:(k:Int)<(o.deeds.length:Int):=WD
  have i1:=WG (l:=o.deeds) (n:=(k:Int)) WD h1;rw[acG]at i1;have hw:IntKind.i64.wrap ((k:Int)+1)=((k+1:Nat):Int):=aH WD;generalize o.deeds[k]! = w at i1;simp -implicitDefEqProofs only[L18_0,ak,au,U5,Vf,Nw,aC,af,ah,acP,acL h1,i1,Y2,Yv,acA,acI,aY,hw])
 have hh':ae (L18_0 (aa pg) ae) [.ip (ab o.av),.ip (ab o.av),qi 0]=_:=hh;rw[C18,show cl ai o.av=o.av by simp];simp -implicitDefEqProofs only[S18,abb,abA,af,VE,U5,Vf,Nw,VF,abc,abB,c3,aj,b9,adb,aV,ak,iR,Bool.or_self,ah,acA,acI,hh'];simp_all
end Go.Proofs.YtkidiopjcgeifaaGreat.So
namespace Go.Proofs.YtkidiopjcgeifaaGreat
open Go Go.Av Go.Av.Ap
set_option maxRecDepth 100000
structure OutsAt (x:AV) (h:Hp) (os:List Out):Prop where
 len:ff T 73 x=some (.int .i64 os.length)
 get:∀(i:Nat)(_:i<os.length),∃a,ax T 73 x (qi (i:Int))=some a/\bM T 67 a h= .ok os[i].av h
def iw(R:Ap.Call->Out):List Ap.Call->List Out->Nat->Nat×Bool
 |[],_,i=>(i,true)
 |_:: _,[],i=>(i,false)
 |c:: cs,o:: os,i=>if qa (R c) o=true then iw R cs os (i+1)else(i,false)
def I1{α β:Type}{m:M α}{a:α}{h h':Hp}(e:m h= .ok a h')(f:α->M β):aG m f h=f a h':=by simp only[aG,e]
def Nf{m:M (List AV)}{c:Bool}{h:Hp}(e:m h= .ok [.bool c] h)(b:Bool)(f:List AV->M AV):aG (dI (.bool b) false 1 m) f h=f [gv b false (.bool c)] h:=by
 cases b with
 |true=>rfl
 |false=>exact I1 e f
def Vl{p:List Mod}(L:LimR p)(cs:List Ap.Call)(w:List Int)(hcs:cs.length<=1000)(hargs:∀c∈cs,bw c.args<=4611686018427387904)(hout:∀c∈cs,OutLim (eI p c.module c.func c.args w 100000)){x:AV}{h:Hp}{os:List Out}(H:OutsAt x h os):∀(r i:Nat),cs.length-i=r->i<=cs.length->
  ae (L17_0 (aa pg) ae) [mods p,calls cs,ints w,x,calls cs,qi cs.length,qi i] h
   = .ok (.tup [qi ((iw (fun c=>eI p c.module c.func c.args w 100000) (cs.drop i) (os.drop i) i).1:Nat),.bool (iw (fun c=>eI p c.module c.func c.args w 100000) (cs.drop i) (os.drop i) i).2]) h:=by
 intro r
 induction r with
 |zero=>
  intro i hr hi;have e1:cs.drop i=[]:=List.drop_eq_nil_of_le WD;have e2:i=cs.length:=WD
  have e3:¬((i:Int)<(cs.length:Int)):=WD
  rw[FL17_0,e1];simp_all[L17_0,iw,ao]
 | succ r ih=>
  intro i hr hi;have hlt:i<cs.length:=WD
  have h1:(i:Int)<(cs.length:Int):=WD
  have hix:=O3 (l:=cs) (n:=(i:Int)) WD h1;rw[acG,acF cs i hlt]at hix;have hmem:=List.getElem_mem hlt;have ih':=ih (i+1) WD WD;have hw:IntKind.i64.wrap ((i:Int)+1)=((i+1:Nat):Int):=aH WD;have hrun:=t16 L cs[i].module cs[i].func cs[i].args w 100000 (hargs _ hmem);have ho:=hout _ hmem;rw[List.drop_eq_getElem_cons hlt]at *;generalize cs[i]=c at *;generalize hcode:ae (L17_0 (aa pg) ae) [mods p,calls cs,ints w,x,calls cs,qi cs.length,qi i] h=code;rw[FL17_0]at hcode;simp -implicitDefEqProofs only[L17_0,ak,au,aC,af,ah,h1,acX,acK,hix,H.len,oQ]at hcode;have hl:ay T 72 (.ip (ab c.av))=some c.av:=AI
  simp -implicitDefEqProofs only[hl,af,Ey,aj]at hcode;by_cases hos:i<os.length
  ·obtain⟨a,ha,hla⟩:=H.get i hos;have hge:decide ((os.length:Int)<=(i:Int))=false:=by simp;omega
   have heq:=t52 (eI p c.module c.func c.args w 100000) os[i] ho;have hbody:(aG (bM T 67 a) fun v17=>aG (gP (aa pg 52 [(eI p c.module c.func c.args w 100000).av,v17])) fun v18=>aG (bJ (Sa UnOp.not v18)) fun v19=>ao [v19]) h= .ok [.bool !(qa (eI p c.module c.func c.args w 100000) os[i])] h:=by
    rw[I1 hla,heq,bE,aj,b9,af];rfl
   simp -implicitDefEqProofs only[Eb,FA72_0,FA72_1,FA72_2,af,ac0,ac5,LD9,LD31,hrun,bE,aj,ha]at hcode;rw[Nf hbody]at hcode;simp -implicitDefEqProofs only[hge,YO,ak,cy,af,ah]at hcode;rw[List.drop_eq_getElem_cons hos];simp only[iw];cases he:qa (eI p c.module c.func c.args w 100000) os[i]with
   |true=>
    rw[he]at hcode;simp -implicitDefEqProofs only[adb,acA,acI,aY,af,hw]at hcode;rw[<- hcode,acL rfl];exact ih'
   |false=>
    rw[he]at hcode;simp -implicitDefEqProofs only[adG,acK]at hcode;rw[<- hcode,acE AI];rfl
  ·have hge:decide ((os.length:Int)<=(i:Int))=true:=by simp;omega
   have e1:os.drop i=[]:=List.drop_eq_nil_of_le WD;rw[e1];simp -implicitDefEqProofs only[hge,ot,aj,dD,af,ah,acK]at hcode;rw[<- hcode];simp[iw,ao]
def t17{p:List Mod}(L:LimR p)(cs:List Ap.Call)(w:List Int)(hcs:cs.length<=1000)(hargs:∀c∈cs,bw c.args<=4611686018427387904)(hout:∀c∈cs,OutLim (eI p c.module c.func c.args w 100000)){x:AV}{h:Hp}{os:List Out}(H:OutsAt x h os):
  aa pg 17 [mods p,calls cs,ints w,x] h
   = .ok (.tup [qi ((iw (fun c=>eI p c.module c.func c.args w 100000) cs os 0).1:Nat),.bool (iw (fun c=>eI p c.module c.func c.args w 100000) cs os 0).2]) h:=by
 have:=Vl L cs w hcs hargs hout H cs.length 0 rfl WD
 rw[C17];simp -implicitDefEqProofs only[S17,Su,af];exact this
end Go.Proofs.YtkidiopjcgeifaaGreat
namespace Go.Proofs.YtkidiopjcgeifaaGreat.Mg
open Go Go.Av Go.Av.Ap
set_option maxRecDepth 100000
def t11(a b:List ca)(hb:a.length<=4611686018427387904):aa pg 11 [aE a,aE b]=ao (.bool (bp (fun x y:ca=>x.1== y.1) a b)):=by
 rw[C11];by_cases hl:a.length=b.length
 ·have h:=wX (FL11_0 (aa pg)) (fun k=>[aE a,aE b,qi (k:Int)]) (fun x y:ca=>x.1== y.1) a b hl (by simp[L11_0]) (fun k hk'=>by
   have h1:(k:Int)<(a.length:Int):=WD
   have i1:=lP (l:=a) (n:=(k:Int)) WD h1;have i2:=lP (l:=b) (n:=(k:Int)) WD WD;rw[acG]at i1 i2;have hw:IntKind.i64.wrap ((k:Int)+1)=((k+1:Nat):Int):=aH WD;generalize a[k]! = x at *;generalize b[k]! = y at *;have f0:∀f:ca,ar T 79 (.ip (ab (aR f))) 0=some (.ip (ab (aR f))):=fun _=>rfl;have l0:∀f:ca,ay T 9 (.ip (ab (aR f)))=some (.str f.1):=fun f=>AI
   cases hn:(x.1== y.1)<;>simp only[L11_0,ak,au,oM,af,aC,h1,acX,ah,acK,i1,i2,f0,l0,neS,hn,adb,adG,acA,acI,aY,hw])
  have h':ae (L11_0 (aa pg) ae) [aE a,aE b,qi 0]=_:=h;simp[S11,hl,h']
 ·simp[S11,hl,cR _ a b hl]
theorem FK:∀ {a b:List ca},bp (fun x y:ca=>x.1== y.1) a b=true->a.map (·.1)=b.map (·.1)
 |[],[],_=>rfl
 |[],_:: _,h=>by cases h
 |_:: _,[],h=>by cases h
 |x:: a,y:: b,h=>by
  simp only[bp,acB,ada]at h;simp only[ac3,h.1,FK h.2]
def Mx{l:List Val}(h:bw l<=4611686018427387904):So.J5 l:=⟨by have:=kD l;omega,fun x hx=>by have:=jl hx;omega⟩
def PI{o:Out}(h:OutLim o):So.CmpO o:=⟨h.value,by have:=h.deeds;omega,⟨by have:=h.calls;omega,fun c hc=>Mx (h.args c hc)⟩,⟨by have:=h.state.1;omega,fun w hw=>Mx (h.state.2 w hw)⟩⟩
theorem N3(o:Out)(h:Hp):OutsAt (.sl [o.av]) h [o] where
 len:=rfl
 get:=fun i hi=>by
  have:i=0:=by simpa using hi
  subst this;exact⟨.ip (ab o.av),rfl,by simp[bM]⟩
structure FinP (p q:List Mod) (n s:aA) (args:List Val) (w:List Int):Prop where
 old:LimR p
 now:LimR q
 asz:bw args<=4611686018427387904
 out:∀fuel,OutLim (eI p n s args w fuel)
 same:∀fuel,eI p n s args w fuel=eI q n s args w fuel
theorem abl{old now:List Mod}{a b c:Mod}{s:aA}{args:List Val}{w:List Int}(l:List aX)(X:FinP old now b.name s args w):
  ae (L3_1 (aa pg) ae) [vals args,ints w,.ip (ab a.av),.ip (ab b.av),.ip (ab c.av),.bool true,.str s,mods old,mods now,dx l,qi l.length]=ao (.bool true):=by
 have g:¬((l.length:Int)<(l.length:Int)):=WD
 have hlen:ff T 57 (dx l)=some (.int .i64 l.length):=by simp[dx]
 have hr1:=t16 X.old b.name s args w 20000 X.asz;have hr2:=t16 X.now b.name s args w 20000 X.asz;have hp:aa pg 17 [mods now,calls [⟨b.name,s,args⟩],ints w,.sl [(eI old b.name s args w 20000).av]]=ao (.tup [qi ((iw (fun c=>eI now c.module c.func c.args w 100000) [⟨b.name,s,args⟩] [eI old b.name s args w 20000] 0).1:Nat),.bool (iw (fun c=>eI now c.module c.func c.args w 100000) [⟨b.name,s,args⟩] [eI old b.name s args w 20000] 0).2]):=
  funext fun h=>t17 X.now [⟨b.name,s,args⟩] w AI (fun c hc=>by
   rw[adk]at hc;subst hc;exact X.asz) (fun c hc=>by
   rw[adk]at hc;subst hc;rw[<- X.same];exact X.out _) (N3 _ h)
 have hso:=So.r18 _ (PI (X.out 20000));have hpx:(eI old b.name s args w 20000).err≠16->iw (fun c=>eI now c.module c.func c.args w 100000) [⟨b.name,s,args⟩] [eI old b.name s args w 20000] 0=(1,true):=fun he=>by
  have hf:=Ol old b.name s args w 20000 80000 Vc Vc Vc;rw[acE he]at hf;have hf:eI old b.name s args w 100000=eI old b.name s args w 20000:=hf;have he2:qa (eI now b.name s args w 100000) (eI old b.name s args w 20000)=true:=by rw[<- X.same,hf,EN]
  simp_all[iw]
 rw[<- X.same 20000]at hr2;generalize iw (fun c=>eI now c.module c.func c.args w 100000) [⟨b.name,s,args⟩] [eI old b.name s args w 20000] 0=px at *;generalize eI old b.name s args w 20000=x at *;have f0:∀cs,ar T 29 (.ip cs) 0=some (.ip (cs.drop 0)):=fun _=>rfl;have l0:∀m:Mod,ay T 9 (.ip ((ab m.av).drop 0))=some (.str m.name):=fun m=>AI
 have bA:bW T false 72 [(0,.str b.name),(1,.str s),(2,vals args)]=some (Ap.Call.av ⟨b.name,s,args⟩):=rfl;have bS:aI T 64 1 [(0,Ap.Call.av ⟨b.name,s,args⟩)]=some (calls [⟨b.name,s,args⟩]):=rfl;have lO:ay T 67 (.ip (ab x.av))=some x.av:=AI
 have bO:aI T 73 1 [(0,x.av)]=some (.sl [x.av]):=rfl;have fE:ar T 67 (.ip (ab x.av)) 0=some (.ip ((ab x.av).drop 0)):=rfl;have lE:ay T 38 (.ip ((ab x.av).drop 0))=some (.int .i64 x.err):=rfl;have eE:bN T .eql 38 (qi x.err) (qi 16)=some (.bool (x.err== 16)):=rfl;rw[FL3_1];simp -implicitDefEqProofs only[L3_1,ak,au,hlen,af,aC,g,adg,ah,acA,acI,f0,l0,hr1,hr2,aj,Hf,bA,bS,lO,bO,hp,cC,acV,adc,
  cD,hso,dD,fE,lE,eE]
 cases he:(x.err== 16)with
 |true=>simp
 |false=>
  simp_all
end Go.Proofs.YtkidiopjcgeifaaGreat.Mg
namespace Go.Proofs.YtkidiopjcgeifaaGreat
open Go Go.Av Go.Av.Ap
set_option maxRecDepth 100000
theorem nX{α β:Type}{m:M α}{f:α->M β}{h h':Hp}{a:α}(e:m h= .ok a h'):aG m f h=f a h':=by simp only[aG,e]
section
variable {V:Type} {f:V->AV} {t et:Nat} {ei:TI} {h:Hp} {l:Nat} {es:List (aX×V)}
theorem Bv(hm:jY T t=some (60,et))(he:T et=some ei)(hl:h[l]? = some [.tup (es.map (gB f))])(k:aX)(ok:Bool):
  iO T t (.mp l) (dj k) ok h= .ok (match jL es k with|some v=>(bif ok then .tup [f v,.bool true]else f v)|none=>(bif ok then .tup [jm ei,.bool false]else jm ei)) h:=by
 grind [iO,mE,NG]
theorem zc(hm:jY T t=some (60,et))(hl:h[l]? = some [.tup (es.map (gB f))])(k:aX)(v:V):
  tZ T t (.mp l) (dj k) (f v) h= .ok (.tup []) (h.set l [.tup ((kX es k v).map (gB f))]):=by
 unfold tZ;have hc:GO T 20 60 (dj k)=true:=rfl;simp_all[JH]
end
def V4:∃ei,T 56=some ei/\jm ei=J2.av:=⟨_,rfl,rfl⟩
theorem V5:∃ei,T 60=some ei/\jm ei=dj ([],[]):=⟨_,rfl,rfl⟩
def sX(p:List Mod)(h:Hp)(l:Nat):Prop:=h[l]? = some [.tup ((mN p).map (gB Fun.av))]
def tJ{p:List Mod}{h:Hp}{l:Nat}(hl:sX p h l)(k:aX)(ok:Bool):iO T 118 (.mp l) (dj k) ok h= .ok (bif ok then .tup [((dq p k).getD J2).av,.bool (dq p k).isSome]else((dq p k).getD J2).av) h:=by
 obtain⟨ei,h1,h2⟩:=V4;rw[Bv R5 h1 hl,Jp,h2]
 grind
def Qr(l:List aA)(hb:l.length<=1099511627776):∀(n:Nat)(i:Int),l.length-i.toNat=n->0<=i->i<=l.length->
  ae (L169_0 (aa pg) ae) [.str [],strs l,qi l.length,qi i]=ao (.str (((l.drop i.toNat).find? fun x=>!(x== [])).getD [])):=by
 intro n
 induction n with
 |zero=>
  intro i hn hi hl;rw[FL169_0];simp only[L169_0];have h1:¬(i<(l.length:Int)):=WD
  have h2:l.drop i.toNat=[]:=List.drop_eq_nil_of_le WD;simp[h1,h2]
 | succ n ih=>
  intro i hn hi hl;have h1:i<(l.length:Int):=WD
  have hlt:i.toNat<l.length:=WD
  have h4:=ih (i+1) WD WD WD;rw[show (i+1).toNat=i.toNat+1 by omega]at h4;rw[FL169_0,List.drop_eq_getElem_cons hlt];simp only[L169_0,adS];by_cases h0:l[i.toNat]=[]
  ·simp (disch:=omega) [h1,aW,pH,h4,h0,acF l i.toNat hlt]
  ·have h0':(l[i.toNat]== [])=false:=acM.2 h0;simp (disch:=omega) [h1,aW,pH,h0,h0',acF l i.toNat hlt]
def t169(a b:aA):aa pg 169 [strs [a,b]]=ao (.str (if a=[]then b else a)):=by
 rw[C169]
 have:=Qr [a,b] AI 2 0 rfl WD AI
 simp at this;simp[S169,this]
 grind
theorem t168(p:List Mod)(f:aX)(e:Exp)(h:Hp)(la lf:Nat)(o:List (aX×Bool))(ha:sX p h la)(hf:h[lf]? = some [.tup (o.map (gB AV.bool))]):
  aa pg 168 [e.av,.ip [.str f.1,.str f.2],.ip [.mp la],.ip [.mp lf]] h= .ok (.tup []) (h.set lf [.tup ((qk p f o e).map (gB AV.bool))]):=by
 rw[C168];have hB:∀x y:aA,aI T 22 2 [(0,.str x),(1,.str y)]=some (strs [x,y]):=fun x y=>rfl;have hB2:∀x y:aA,bW T false 60 [(0,.str x),(1,.str y)]=some (dj (x,y)):=fun x y=>rfl;have hset:h.set lf [.tup (o.map (gB AV.bool))]=h:=by
  apply adZ;intro i;rw[adR];split
  ·grind
  ·rfl
 have hlook:=tJ ha (xc f e) true;have hput:=zc (f:=AV.bool) Y9 hf (xc f e) true;have htg:xc f e=(if e.m=[]then f.1 else e.m,e.s):=rfl;simp[S168,hB,t169,hB2,bE];rw[<- htg];have hcm:bB 2 (dj (xc f e))=ao (dj (xc f e)):=by rw[bZ (yT _),xp,EX]
 simp[hcm];rw[nX hlook];unfold qk xy;cases hfi:dq p (xc f e)with
 |none=>simp[hfi,hset];rfl
 |some g=>
  simp[hfi];split
  ·rw[nX hput];rfl
  ·rw[hset];rfl
end Go.Proofs.YtkidiopjcgeifaaGreat
