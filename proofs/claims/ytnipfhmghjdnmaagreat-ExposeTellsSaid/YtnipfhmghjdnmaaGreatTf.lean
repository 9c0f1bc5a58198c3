/- What the functions of the seat compute, part 6: the texts of the claim, one behind the other. Conditions: bounds, as each theorem names them. -/
import Derived.Test.YtnipfhmghjdnmaaGreatTe
set_option linter.defProp false
set_option linter.unusedSimpArgs false
set_option linter.unusedVariables false
namespace Go.Proofs.YtnipfhmghjdnmaaGreat
open Go Go.Av Go.Av.Ap
set_option maxRecDepth 100000
def Ct(t:Bool)(p:List Mod)(full:List Int)(e:Int)(m:Ms)(dv cv sv:AV):List AV:=[r8 t p,.int .i64 e,.int .i64 0,.int .i64 0,.hn,.hn,dv,cv,sv,qf t full,.int .i64 ((full.length:Int)-(m.world.length:Int)),.int .i64 m.fuel,.int .i64 m.frames]
structure RepR (p:List Mod) (full:List Int) (nm:SNm) (e:Int) (m:Ms) (h:Hp):Prop where
 sub:m.world <:+ full
 tld:nm.told=true->full=[]
 rep:M7 (Ct nm.told p full e) nm m h
def qx(p:List Mod)(full:List Int)(nm:SNm)(e:Int)(m:Ms)(h:Hp):Prop:=∃s,RepR p full nm e s h/\s.deeds=m.deeds/\s.calls=m.calls/\s.state=m.state
def gb(p:List Mod)(full:List Int)(nm:SNm)(r:Rs Val)(o:Av.R AV):Prop:=match r with
 |.ok v m=>∃h,o= .ok v.av h/\RepR p full nm 0 m h
 |.er e m=>∃(w:Val)(h:Hp),o= .ok w.av h/\qx p full nm e m h
section
variable {p:List Mod} {full:List Int} {nm:SNm} {e:Int} {m:Ms} {h:Hp}
theorem RepR.r0(R:RepR p full nm e m h):∃dv cv sv,h[0]? = some (Ct nm.told p full e m dv cv sv):=by
 obtain⟨tag,dv,cv,sv,R⟩:=R.rep;exact⟨dv,cv,sv,R.r0⟩
theorem RepR.lErr(R:RepR p full nm e m h)(g:AV->M AV):ae (aX T 69 (.hp 0 1)) g h=g (.int .i64 e) h:=by
 obtain⟨dv,cv,sv,R⟩:=R.r0;exact aZ (bO rfl rfl R rfl)
theorem RepR.lFuel(R:RepR p full nm e m h)(g:AV->M AV):ae (aX T 3 (.hp 0 11)) g h=g (.int .i64 m.fuel) h:=by
 obtain⟨dv,cv,sv,R⟩:=R.r0;exact aZ (bO rfl rfl R rfl)
theorem RepR.lFrames(R:RepR p full nm e m h)(g:AV->M AV):ae (aX T 3 (.hp 0 12)) g h=g (.int .i64 m.frames) h:=by
 obtain⟨dv,cv,sv,R⟩:=R.r0;exact aZ (bO rfl rfl R rfl)
theorem RepR.lAt(R:RepR p full nm e m h)(g:AV->M AV):ae (aX T 3 (.hp 0 10)) g h=g (.int .i64 ((full.length:Int)-(m.world.length:Int))) h:=by
 obtain⟨dv,cv,sv,R⟩:=R.r0;exact aZ (bO rfl rfl R rfl)
theorem RepR.lWorld(R:RepR p full nm e m h)(g:AV->M AV):ae (aX T 45 (.hp 0 9)) g h=g (qf nm.told full) h:=by
 obtain⟨dv,cv,sv,R⟩:=R.r0;exact aZ (bO rfl rfl R rfl)
theorem RepR.lProg(R:RepR p full nm e m h)(g:AV->M AV):ae (aX T 22 (.hp 0 0)) g h=g (r8 nm.told p) h:=by
 obtain⟨dv,cv,sv,R⟩:=R.r0;exact aZ (bO rfl rfl R rfl)
theorem _root_.Go.Av.Ap.RepT.turn{row row':Ms->AV->AV->AV->List AV}{nm:SNm}{tag:Nat->Nat}{dv cv sv:AV}{m m':Ms}{h:Hp}(R:RepT row nm tag dv cv sv m h)(h1:m'.deeds=m.deeds)(h2:m'.calls=m.calls)(h3:m'.state=m.state)(h4:m.world=[]->m'.world=[]):
  RepT row' nm tag dv cv sv m' (h.set 0 (row' m' dv cv sv)):=by
 have hlt:0<h.length:=(NO.1 R.r0).1;have K:Kp tag tag (fun k=>k=0) h (h.set 0 (row' m' dv cv sv)):=fun r cs hr hk=>by
  have:r≠0:=fun e=>hk (by rw[e];exact R.t0);exact⟨by rw[OW (Qr this)];exact hr,rfl⟩
 refine⟨by rw[OZ hlt],R.t0,?_,?_,?_,R.sve,fun t=>h4 (R.wok t)⟩
 ·rw[h1];exact R.ds.keep K (by decide) fun _ h=>h
 ·rw[h2];exact R.cs.keep K (by decide) fun _ h=>h.keep K (by decide)
 ·rw[h3];exact R.st.keep K (by decide) fun _ h=>⟨h.1,h.2.keep K (by omega)⟩
theorem RepR.sErr(R:RepR p full nm e m h)(e':Int):∃h',(∀g:AV->M AV,ae (cj T 69 (.hp 0 1) (.int .i64 e')) g h=g (.tup []) h')/\RepR p full nm e' m h':=by
 obtain⟨tag,dv,cv,sv,R0⟩:=R.rep;exact⟨_,fun g=>aZ (dx rfl R0.r0 rfl (show 1+1<=13 by decide) (by decide)),R.sub,R.tld,tag,dv,cv,sv,R0.turn rfl rfl rfl id⟩
theorem RepR.sFuel(R:RepR p full nm e m h)(f:Int):∃h',(∀g:AV->M AV,ae (cj T 3 (.hp 0 11) (.int .i64 f)) g h=g (.tup []) h')/\RepR p full nm e { m with fuel:=f } h':=by
 obtain⟨tag,dv,cv,sv,R0⟩:=R.rep;exact⟨_,fun g=>aZ (dx rfl R0.r0 rfl (show 11+1<=13 by decide) (by decide)),R.sub,R.tld,tag,dv,cv,sv,R0.turn (m':={ m with fuel:=f }) (row':=Ct nm.told p full e) rfl rfl rfl id⟩
theorem RepR.sFrames(R:RepR p full nm e m h)(f:Int):∃h',(∀g:AV->M AV,ae (cj T 3 (.hp 0 12) (.int .i64 f)) g h=g (.tup []) h')/\RepR p full nm e { m with frames:=f } h':=by
 obtain⟨tag,dv,cv,sv,R0⟩:=R.rep;exact⟨_,fun g=>aZ (dx rfl R0.r0 rfl (show 12+1<=13 by decide) (by decide)),R.sub,R.tld,tag,dv,cv,sv,R0.turn (m':={ m with frames:=f }) (row':=Ct nm.told p full e) rfl rfl rfl id⟩
theorem RepR.sAt(R:RepR p full nm e m h){x:Int}{w:List Int}(hw:m.world=x:: w):∃h',(∀g:AV->M AV,ae (cj T 3 (.hp 0 10) (.int .i64 ((full.length:Int)-(m.world.length:Int)+1))) g h=g (.tup []) h')/\RepR p full nm e { m with world:=m.world.tail } h':=by
 obtain⟨tag,dv,cv,sv,R0⟩:=R.rep;refine⟨_,fun g=>aZ (dx rfl R0.r0 rfl (show 10+1<=13 by decide) (by decide)),?_,R.tld,tag,dv,cv,sv,?_⟩
 ·exact (List.tail_suffix m.world).trans R.sub
 ·have e1:(full.length:Int)-(m.world.length:Int)+1=(full.length:Int)-((m.world.tail).length:Int):=by rw[hw];simp;omega
  have:=R0.turn (m':={ m with world:=m.world.tail }) (row':=Ct nm.told p full e) rfl rfl rfl (fun h=>by rw[h];rfl)
  rw[e1];exact this
theorem RepR.er(R:RepR p full nm e m h):qx p full nm e m h:=⟨m,R,rfl,rfl,rfl⟩
theorem qx.lErr(R:qx p full nm e m h)(g:AV->M AV):ae (aX T 69 (.hp 0 1)) g h=g (.int .i64 e) h:=by
 obtain⟨s,R,_⟩:=R;exact R.lErr g
theorem kT(v:Val):ap 4 [] v.av=M.pure v.av:=by
 unfold ap jt;rw[eA,Val.av_eq];rfl
theorem cz(v:Val):(M.pure (AV.agg [nth (aa v.av) 0,nth (aa v.av) 1,nth (aa v.av) 2,nth (aa v.av) 3]):M AV)=M.pure v.av:=by
 rw[bW,Val.av_eq];rfl
theorem iN:aN T false 71 []=some (default:Val).av:=rfl
theorem mL(a b:Int):ao T .eql 69 (.int .i64 a) (.int .i64 b)=some (.bool (a== b)):=rfl
theorem t155(R:RepR p full nm 0 m h)(c:Int)(hc:c≠0):∃h',ai pg 155 [.hp 0 0,.int .i64 c] h= .ok (default:Val).av h'/\RepR p full nm c m h':=by
 obtain⟨h',s1,R'⟩:=R.sErr c;refine⟨h',?_,R'⟩;generalize hcode:ai pg 155 [.hp 0 0,.int .i64 c] h=code;rw[C155]at hcode;simp -implicitDefEqProofs only[S155,eQ,aQ,am,FH171_1,FH75_0,NU,Oi,R.lErr,mL,OB,az,NS,s1,K155_0,iN,kT,aA,cz]at hcode;rw[<- hcode];rfl
theorem cp(R:RepR p full nm 0 m h)(c:Int)(hc:c≠0):gb p full nm (.er c m) (ae (ai pg 155 [.hp 0 0,.int .i64 c]) (fun v=>ae (ap 4 [] v) fun v=>M.pure (AV.agg [nth (aa v) 0,nth (aa v) 1,nth (aa v) 2,nth (aa v) 3])) h):=by
 obtain⟨h',e1,R'⟩:=t155 R c hc;refine⟨default,h',?_,R'.er⟩;rw[aZ e1,kT,aA,cz];rfl
theorem iZ{v:Val}(R:RepR p full nm 0 m h):gb p full nm (.ok v m) (M.pure v.av h):=⟨h,rfl,R⟩
theorem qq{v:Val}(R:RepR p full nm 0 m h):gb p full nm (.ok v m) (ae (ap 4 [] v.av) (fun v=>M.pure (AV.agg [nth (aa v) 0,nth (aa v) 1,nth (aa v) 2,nth (aa v) 3])) h):=by
 rw[kT,aA,cz];exact⟨h,rfl,R⟩
theorem e8{c:M AV}{x:X Val}{f:Val->X Val}{k:AV->M AV}(H:gb p full nm (x m) (c h))(he:∀a s,x m= .er a s->a≠0)(hok:∀v s h',x m= .ok v s->RepR p full nm 0 s h'->gb p full nm (f v s) (k v.av h'))(her:∀a s (w:Val) h',a≠0->qx p full nm a s h'->∃w':Val,∃h'',k w.av h'= .ok w'.av h''/\qx p full nm a s h''):gb p full nm (x.bind f m) (ae c k h):=by
 unfold X.bind;cases hx:x m with
 |ok v s=>
  rw[hx]at H;obtain⟨h',e1,R'⟩:=H;rw[aZ e1];exact hok v s h' hx R'
 |er a s=>
  rw[hx]at H;obtain⟨w,h',e1,R'⟩:=H;obtain⟨w',h'',e2,R2⟩:=her a s w h' (he a s hx) R';exact⟨w',h'',by rw[aZ e1,e2],R2⟩
end
theorem t157(b:Bool):ai pg 157 [.bool b]=M.pure (cC b).av:=by
 rw[C157];have hb:aN T false 71 [(0,.int .i64 1)]=some (Val.mk 1 0 [] []).av:=rfl;have hc1:cI (.int .i64 1)=M.pure (.int .i64 1):=rfl;have hcl:cl aw (.bool b)= .bool b:=rfl;rw[hcl];have hS:S157 (ai pg) aj (.bool b)=M.pure (cC b).av:=by
  simp only[S157,hb,am,kT,aA,eQ,az,hc1,K157_0];cases b<;>rfl
 rw[hS,EM]
theorem t156(n:Int):ai pg 156 [.int .i64 n]=M.pure (.int .i64 (aW n)):=by
 rw[C156];have hcl:cl aw (.int .i64 n)= .int .i64 n:=rfl;rw[hcl];have hS:S156 (ai pg) aj (.int .i64 n)=M.pure (.int .i64 (aW n)):=by
  simp only[S156,K156_0,K156_1,K156_2,eQ,dj,na,lN,am,az,aL,aY];by_cases h0:n=0
  ·subst h0;rfl
  by_cases h1:n=1
  ·subst h1;rfl
  by_cases h2:n=2
  ·subst h2;rfl
  by_cases h17:n=17
  ·subst h17;rfl
  by_cases h10:n=10
  ·subst h10;rfl
  by_cases h14:n=14
  ·subst h14;rfl
  by_cases h16:n=16
  ·subst h16;rfl
  by_cases h18:n=18
  ·subst h18;rfl
  by_cases h11:n=11
  ·subst h11;rfl
  by_cases h13:n=13
  ·subst h13;rfl
  by_cases h15:n=15
  ·subst h15;rfl
  by_cases h2':2<n
  ·by_cases h12:n<=12
   ·have:n=3\/n=4\/n=5\/n=6\/n=7\/n=8\/n=9\/n=12:=by omega
    rcases this with rfl|rfl|rfl|rfl|rfl|rfl|rfl|rfl<;>rfl
   ·have:aW n= -2:=by
     unfold aW;rw[if_neg (by omega),if_neg (by omega),if_neg (by omega),if_neg (by omega),if_neg (by omega)]
    simp[h0,h1,h2,h17,h10,h14,h16,h18,h11,h13,h15,h2',h12,this]
  ·have:aW n= -2:=by
    unfold aW;rw[if_neg (by omega),if_neg (by omega),if_neg (by omega),if_neg (by omega),if_neg (by omega)]
   simp[h0,h1,h2,h17,h10,h14,h16,h18,h11,h13,h15,h2',this]
 rw[hS,de]
theorem t162(o:Int)(ns:List bk)(vs:List Val)(s:bk)(v:Val)(h1:ns.length<=1099511627776)(h2:vs.length<=1099511627776):ai pg 162 [aD o ns vs,.str s,v.av]=M.pure (aD o (ns++[s]) (vs++[v])):=by
 have hcl:∀g,cl g (aD o (ns++[s]) (vs++[v]))=aD o (ns++[s]) (vs++[v]):=fun g=>by simp[aD,cl,eV]
 have hcl2:cl aw (aD o ns vs)=aD o ns vs:=by simp[aD,cl,eV]
 rw[C162,hcl2,yV,li];have hS:S162 (ai pg) aj (aD o ns vs) (.str s) v.av=M.pure (aD o (ns++[s]) (vs++[v])):=by
  have hc:aK 3 (aD o ns vs)=M.pure (aD o ns vs):=rfl;have hz1:au T 28 0 []=some (strs []):=rfl;have hz2:au T 61 0 []=some (vals []):=rfl;have hb1:au T 28 1 [(0,.str s)]=some (strs [s]):=rfl;have hv:af T 71 (.ip (aa v.av))=some v.av:=by simp
  have hb2:au T 61 1 [(0,v.av)]=some (vals [v]):=by rw[v.av_eq];simp[vals,dP,v.av_eq];rfl
  have a1:=yC (a:=[]) (b:=ns) (by simp;omega);have a2:=yC (a:=ns) (b:=[s]) (by simp;omega);have a3:=sI (a:=[]) (b:=vs) (by simp;omega);have a4:=sI (a:=vs) (b:=[v]) (by simp;omega);rw[N4]at a1 a3;have c1:∀l,cI (strs l)=M.pure (strs l):=fun _=>rfl;have c2:∀l,cI (vals l)=M.pure (vals l):=fun _=>rfl;have hn:∀ns' vs',ap 3 [] (AV.agg [.int .i64 o,strs ns',vals vs'])=M.pure (aD o ns' vs'):=fun _ _=>rfl;simp only[S162,hc,aA,hz1,hz2,hb1,hv,hb2,am,bu,aL,aY,a1,a2,a3,a4,c1,c2,hn];rfl
 rw[hS,bb hcl]
def t49(p:List Mod)(hp:p.length<=1099511627776)(s:bk):ai pg 49 [mods p,.str s]=M.pure (.int .i64 (fG p s)):=by
 have loop:∀(n:Nat)(i:Int),p.length-i.toNat=n->0<=i->i<=p.length->aj (L49_0 (ai pg) aj) [mods p,.str s,.int .i64 i]=M.pure (.int .i64 (bj (fun m=>m.name== s) (p.drop i.toNat) i)):=by
  intro n
  induction n with
  |zero=>
   intro i hn hi hl;rw[FL49_0];simp only[L49_0];have h1:¬(i<(p.length:Int)):=by omega
   have h2:p.drop i.toNat=[]:=NN (by omega);simp[h1,h2,bj]
  |succ n ih=>
   intro i hn hi hl;have h1:i<(p.length:Int):=by omega
   have hlt:i.toNat<p.length:=by omega
   have h2:bj (fun m:Mod=>m.name== s) (p.drop i.toNat) i=if(p[i.toNat].name== s)=true then i else bj (fun m:Mod=>m.name== s) (p.drop (i.toNat+1)) (i+1):=by rw[NI hlt];rfl
   have h4:=ih (i+1) (by omega) (by omega) (by omega);rw[show (i+1).toNat=i.toNat+1 by omega]at h4;rw[FL49_0];simp only[L49_0];simp (disch:=omega) [h1,aF,fJ,h2];by_cases hs:p[i.toNat].name=s
   ·simp[hs]
   ·simpa [hs]using h4
 have hl:=loop p.length 0 rfl (by omega) (by omega);rw[C49,ix,yV];have hS:S49 (ai pg) aj (mods p) (.str s)=M.pure (.int .i64 (fG p s)):=hl;rw[hS,de]
def t50(p:List Mod)(hp:p.length<=1099511627776)(hf:∀m∈p,m.funcs.length<=1099511627776)(a:Int)(ha:a<p.length)(s:bk):ai pg 50 [mods p,.int .i64 a,.str s]=M.pure (.int .i64 (if a<0 then -1 else dX (p[a.toNat]?.getD default).funcs s)):=by
 rw[C50,ix,yV,uB];by_cases h0:a<0
 ·have hS:S50 (ai pg) aj (mods p) (.int .i64 a) (.str s)=M.pure (.int .i64 (-1)):=by simp[S50,h0]
  rw[hS,de,NE h0]
 ·have hal:a.toNat<p.length:=by omega
  have hx:p[a.toNat]?.getD default=p[a.toNat]:=by rw[NH hal];rfl
  have hfl:=hf _ (NW hal);have loop:∀(n:Nat)(i:Int),p[a.toNat].funcs.length-i.toNat=n->0<=i->i<=p[a.toNat].funcs.length->aj (L50_0 (ai pg) aj) [mods p,.int .i64 a,.str s,.int .i64 i]=M.pure (.int .i64 (bj (fun m=>m.name== s) (p[a.toNat].funcs.drop i.toNat) i)):=by
   intro n
   induction n with
   |zero=>
    intro i hn hi hl;rw[FL50_0];simp only[L50_0];have h1:¬(i<(p[a.toNat].funcs.length:Int)):=by omega
    have h2:p[a.toNat].funcs.drop i.toNat=[]:=NN (by omega);simp (disch:=omega) [h1,h2,bj,fJ,hal]
   |succ n ih=>
    intro i hn hi hl;have h1:i<(p[a.toNat].funcs.length:Int):=by omega
    have hlt:i.toNat<p[a.toNat].funcs.length:=by omega
    have h2:bj (fun m:Fun=>m.name== s) (p[a.toNat].funcs.drop i.toNat) i=if(p[a.toNat].funcs[i.toNat].name== s)=true then i else bj (fun m:Fun=>m.name== s) (p[a.toNat].funcs.drop (i.toNat+1)) (i+1):=by rw[NI hlt];rfl
    have h4:=ih (i+1) (by omega) (by omega) (by omega);rw[show (i+1).toNat=i.toNat+1 by omega]at h4;rw[FL50_0];simp only[L50_0];simp (disch:=omega) [h1,aF,fJ,mr,h2,hal,hlt];by_cases hs:p[a.toNat].funcs[i.toNat].name=s
    ·simp[hs]
    ·simpa [hs]using h4
  have hl:=loop p[a.toNat].funcs.length 0 rfl (by omega) (by omega);have hS:S50 (ai pg) aj (mods p) (.int .i64 a) (.str s)=M.pure (.int .i64 (dX p[a.toNat].funcs s)):=by
   have hlt:decide (a<0)=false:=by simpa using h0
   simp only[S50,bV,am,az,hlt,NC,NK];exact hl
  rw[hS,de,if_neg h0,hx]
end Go.Proofs.YtnipfhmghjdnmaaGreat
namespace Go.Proofs.YtnipfhmghjdnmaaGreat
open Go Go.Av Go.Av.Ap
set_option maxRecDepth 100000
def oS(a b:Int):fN true [.int .i64 a,.int .i64 b]=some (.int .i64 (max a b)):=by
 simp only[fN,Cf,NF];congr 2;omega
theorem t185:∀(d:Nat),d<=100->∀(v:Val),v.sz<=4611686018427387904->ai pg 185 [v.av,.int .i64 d]=M.pure (.int .i64 ((min (cK v) (max d 1):Nat):Int)):=by
 intro d
 induction d with
 |zero=>
  intro _ v hv;have h1:min (cK v) (max 0 1)=1:=by rw[fF];omega
  rw[C185,li,uB];have hS:S185 (ai pg) aj v.av (.int .i64 ((0:Nat):Int))=M.pure (.int .i64 1):=by simp[S185]
  rw[hS,de,h1];rfl
 | succ d ih=>
  intro hd v hv;by_cases h0:d=0
  ·subst h0;have h1:min (cK v) (max (0+1) 1)=1:=by rw[fF];omega
   rw[C185,li,uB];have hS:S185 (ai pg) aj v.av (.int .i64 ((0+1:Nat):Int))=M.pure (.int .i64 1):=by simp[S185]
   rw[hS,de,h1];rfl
  have ih':=ih (by omega);have hlen:=v.sz_len;have hl:∀(B A:List Val)(c:Nat),A++B=v.values->c<=d->aj (L185_0 (ai pg) aj) [.int .i64 ((d+1:Nat):Int),.ip (aa v.av),.int .i64 (c:Nat),.int .i64 A.length]=M.pure (.int .i64 ((max c (min (cV B) d)+1:Nat))):=by
   intro B
   induction B with
   |nil=>
    intro A c e hc;simp only[OE]at e;subst e;rw[FL185_0];simp (disch:=omega) [L185_0,cV,aF]
   | cons x B ih2=>
    intro A c e hc;have hll:A.length+(B.length+1)=v.values.length:=by rw[<- e];simp
    have h1:(A.length:Int)<(v.values.length:Int):=by omega
    have hx:v.values[A.length]! = x:=by
     rw[<- e,ND _ _ (by simp)];simp
    have hm:x∈v.values:=by rw[<- e];simp
    have hx':v.values[A.length]'(by omega)=x:=by rw[<- hx,ND]
    have h3:=ih' x (by have:=Ns hm;omega);have hd1:max d 1=d:=by omega
    rw[hd1]at h3;have h4:=ih2 (A++[x]) (max c (min (cK x) d)) (by rw[<- e];simp) (by omega);have hwd:IntKind.i64.wrap (((d:Int)+1)-1)=(d:Int):=by rw[aF (by omega) (by omega)];omega
    have hwA:IntKind.i64.wrap ((A.length:Int)+1)=(A.length:Int)+1:=aF (by omega) (by omega);have hmx:∀a b:Nat,max (a:Int) ((min b d:Nat):Int)=((max a (min b d):Nat):Int):=fun a b=>by omega
    have hlv:cV (x:: B)=max (cK x) (cV B):=rfl;have hfin:max (max c (min (cK x) d)) (min (cV B) d)=max c (min (cV (x:: B)) d):=by rw[hlv];omega
    have hl1:aJ T 61 (vals v.values)=some (.int .i64 v.values.length):=ov _;have hix:=ou (l:=v.values) (n:=(A.length:Int)) (by omega) h1;rw[show ((A.length:Int)).toNat=A.length by omega,hx]at hix;have hld:af T 71 (.ip (aa x.av))=some x.av:=by simp
    have hlvs:af T 61 (.ip ([AV.int .i64 v.kind,.int .i64 v.n,strs v.names,vals v.values].drop 3))=some (vals v.values):=rfl;rw[FL185_0];simp only[L185_0,aL,aY,bW,FA71_3,hlvs,hl1,bV,am,az,h1,OH,NS,hix,gD,Q0,Q1,hwd];rw[<- bW x,hld];simp only[am,h3,aA,oS,hmx,dD,hwA];simp only[N3,Oy,bW,Q0,Q1]at h4;rw[h4,<- hfin]
  have hfin:min (cK v) (max (d+1) 1)=max 0 (min (cV v.values) d)+1:=by rw[fF];omega
  have:=hl v.values [] 0 rfl (by omega)
  rw[C185,li,uB];have hgt:decide (((d+1:Nat):Int)<=1)=false:=by simp;omega
  have hS:S185 (ai pg) aj v.av (.int .i64 ((d+1:Nat):Int))=M.pure (.int .i64 ((max 0 (min (cV v.values) d)+1:Nat))):=by
   simp only[S185,lN,am,az,hgt,NC,NK];exact this
  rw[hS,de,hfin]
def t181(v:Val)(hv:v.sz<=4611686018427387904):ai pg 181 [v.av]=M.pure (.int .i64 ((min (cK v) 6:Nat):Int)):=by
 rw[C181,li];have h:=t185 6 (by omega) v hv;have hld:af T 71 (.ip (aa v.av))=some v.av:=by simp
 have hS:S181 (ai pg) aj v.av=M.pure (.int .i64 ((min (cK v) 6:Nat):Int)):=by
  simp only[S181,hld,am];rw[show (AV.int IntKind.i64 6)= .int .i64 ((6:Nat):Int)from rfl,h];rfl
 rw[hS,de]
section
variable {p:List Mod} {full:List Int} {nm:SNm} {m:Ms} {h:Hp}
theorem uJ{c:Int}(hc:c≠0)(R:qx p full nm c m h)(sc x:AV):ai pg 113 [.hp 0 0,sc,x] h= .ok (default:Val).av h:=by
 have hne:(c != 0)=true:=by simpa using hc
 generalize hcode:ai pg 113 [.hp 0 0,sc,x] h=code;rw[C113]at hcode;simp -implicitDefEqProofs only[S113,aQ,am,FH171_1,FH75_0,NU,Oi,R.lErr,gn,hne,az,NS,iN,kT,aA,cz]at hcode;rw[<- hcode];rfl
theorem Ek{c:Int}(hc:c≠0)(R:qx p full nm c m h)(x y z:AV):ai pg 182 [.hp 0 0,x,y,z] h= .ok (default:Val).av h:=by
 have hne:(c != 0)=true:=by simpa using hc
 generalize hcode:ai pg 182 [.hp 0 0,x,y,z] h=code;rw[C182]at hcode;simp -implicitDefEqProofs only[S182,aQ,am,FH171_1,FH75_0,NU,Oi,R.lErr,gn,hne,az,NS,iN,kT,aA,cz]at hcode;rw[<- hcode];rfl
theorem eS(v:Val):aK 4 v.av=M.pure (.agg (aa v.av)):=bG (eA v)
theorem t183(R:RepR p full nm 0 m h)(op:Int)(a b:Val)(hop:op=3\/op=4\/op=5\/op=6\/op=7)(ra:Rv a)(rb:Rv b):gb p full nm (jK op a b m) (ai pg 183 [.hp 0 0,.int .i64 op,a.av,b.av] h):=by
 have hv:∀x y (z w:Val),z.names=[]->z.values=[]->(AV.agg [.int .i64 x,.int .i64 y,strs z.names,vals z.values])=(Val.mk x y [] []).av:=fun x y z w h1 h2=>by rw[h1,h2];rfl
 have hplain:∀z:Val,Rv z->z.kind=0->z.names=[]/\z.values=[]:=fun z hz hk=>by
  have:=hz
  unfold Rv at this;simp only[bU,hk]at this;simp only[OB,Bool.true_or,NS,NG,Ol]at this;exact⟨NV this.1.1,NV this.1.2⟩
 have f1:∀z:Val,af T 3 (.ip ([AV.int .i64 z.kind,.int .i64 z.n,strs z.names,vals z.values].drop 0))=some (.int .i64 z.kind):=fun _=>rfl;have f2:∀z:Val,af T 3 (.ip ([AV.int .i64 z.kind,.int .i64 z.n,strs z.names,vals z.values].drop 1))=some (.int .i64 z.n):=fun _=>rfl;have c1:∀n,cI (.int .i64 n)=M.pure (.int .i64 n):=fun _=>rfl;have hres:∀n:Int,a.kind=0->∀x1 x2 x3 x4:AV,K183_0 (ai pg) aj [.int .i64 a.kind,.int .i64 n,strs a.names,vals a.values,x1,x2,x3,x4]=M.pure (Val.mk 0 n [] []).av:=fun n hk x1 x2 x3 x4=>by
  obtain⟨e1,e2⟩:=hplain a ra hk;rw[hk,e1,e2];rfl
 generalize hcode:ai pg 183 [.hp 0 0,.int .i64 op,a.av,b.av] h=code;rw[C183]at hcode;simp -implicitDefEqProofs only[S183,eS,aA,bd,bW,aL,aY,dj,gC,bV,dD,gD,Ar,am,FA71_0,FA71_1,f1,f2,bP,ec,gT,az,eQ,c1]at hcode;have htr:∀b:Bool,ae (ai pg 157 [AV.bool b]) (fun v13=>ae (ap 4 [] v13) fun v14=>M.pure (AV.agg [nth (aa v14) 0,nth (aa v14) 1,nth (aa v14) 2,nth (aa v14) 3]))=M.pure (cC b).av:=fun b=>by
  rw[t157,aA,kT,aA,cz]
 have hne13:(13:Int)≠0:=by decide
 rw[<- hcode];unfold jK;by_cases h7:op=7
 ·subst h7;by_cases hk:a.kind=b.kind/\a.kind≠2
  ·have e1:((7:Int)== 7&&a.kind== b.kind&&a.kind != 2)=true:=by simp[hk.1];rw[<- hk.1];exact hk.2
   simp only[e1,NS,NE hk,htr];exact iZ R
  ·have e1:((7:Int)== 7&&a.kind== b.kind&&a.kind != 2)=false:=by
    rw[<- Pm];simp only[NG,Ol,Qv];exact fun h=>hk ⟨h.1.2,h.2⟩
   have e2:((7:Int)== 7||a.kind != 0||b.kind != 0)=true:=rfl;simp only[e1,e2,NC,NS,NK,if_neg hk];exact cp R 13 hne13
 ·have h7b:(op== 7)=false:=by simpa using h7
  have e1:(op== 7&&a.kind== b.kind&&a.kind != 2)=false:=by rw[h7b];rfl
  simp only[e1,NC,NK,if_neg h7];by_cases hk:a.kind=0/\b.kind=0
  ·have e2:(op== 7||a.kind != 0||b.kind != 0)=false:=by rw[h7b,hk.1,hk.2];rfl
   simp only[e2,NC,NK,NE hk];rcases hop with rfl|rfl|rfl|rfl|rfl
   ·have:=hres (IntKind.i64.wrap (a.n+b.n)) hk.1 (.int .i64 0) (.int .i64 0) (.sl []) (.sl [])
    simp only[show ((3:Int)== 6)=false from rfl,show ((3:Int)== 3)=true from rfl,NC,NK,NS,this];exact iZ R
   ·have:=hres (IntKind.i64.wrap (a.n-b.n)) hk.1 (.int .i64 0) (.int .i64 0) (.sl []) (.sl [])
    simp only[show ((4:Int)== 6)=false from rfl,show ((4:Int)== 3)=false from rfl,show ((4:Int)== 4)=true from rfl,NC,NK,NS,this,show ¬((4:Int)=3)from by decide];exact iZ R
   ·have:=hres (IntKind.i64.wrap (a.n*b.n)) hk.1 (.int .i64 0) (.int .i64 0) (.sl []) (.sl [])
    simp only[show ((5:Int)== 6)=false from rfl,show ((5:Int)== 3)=false from rfl,show ((5:Int)== 4)=false from rfl,NC,NK,NS,this,show ¬((5:Int)=3)from by decide,show ¬((5:Int)=4)from by decide];exact iZ R
   ·simp only[show ((6:Int)== 6)=true from rfl,NS,htr,show ¬((6:Int)=3)from by decide,show ¬((6:Int)=4)from by decide,show ¬((6:Int)=5)from by decide,NK];exact iZ R
   ·exact absurd rfl h7
  ·have e2:(op== 7||a.kind != 0||b.kind != 0)=true:=by
    rw[h7b];by_cases h0:a.kind=0
    ·have:b.kind≠0:=fun h=>hk ⟨h0,h⟩;simp[h0,this]
    ·simp[h0]
   simp only[e2,NS,if_neg hk];exact cp R 13 hne13
def CF(p:List Mod)(full:List Int)(nm:SNm)(n:Nat):Prop:=∀own ns vs e m h,RepR p full nm 0 m h->GoodM p m->m.fuel<=n->Sc p own ns vs m->bc e->gb p full nm (ba p n own ns vs e m) (ai pg 113 [.hp 0 0,aD own ns vs,e.av] h)
theorem iz{n:Nat}{own:Int}{ns:List bk}{vs:List Val}{e:Exp}{a:Int}{s:Ms}(h:ba p n own ns vs e m= .er a s):a≠0:=wA h
theorem Fq{c:Int}(hc:c≠0)(R:qx p full nm c m h)(own:Int)(ns:List bk)(vs:List Val)(en:List bk)(e:Exp)(hb:e.args.length<=8)(x5 x6 x7 x8:AV):
  ∀(B A:List Exp)(acc:List Val),A++B=e.args->acc.length=A.length->∃w:Val,aj (L158_0 (ai pg) aj) [.hp 0 0,.ip (aa (aD own ns vs)),.ip (aa e.av),.int .i64 A.length,x5,x6,x7,x8,.int .i64 2,.int .i64 0,strs en,vals acc] h= .ok w.av h
 | [],A,acc,e0,ha=>by
  simp only[OE]at e0;subst e0;refine⟨.mk 2 0 en acc,?_⟩;have hl1:aJ T 29 (cb e.args)=some (.int .i64 e.args.length):=f7 _;have hne:(c== 0)=false:=by simpa using hc
  have hw:(ae (ap 4 [] (AV.agg [.int .i64 2,.int .i64 0,strs en,vals acc])) (fun w=>M.pure (AV.agg [nth (aa w) 0,nth (aa w) 1,nth (aa w) 2,nth (aa w) 3])):M AV)=M.pure (Val.mk 2 0 en acc).av:=by
   have h1:=kT (Val.mk 2 0 en acc);have h2:=cz (Val.mk 2 0 en acc);rw[Val.av_eq]at h1 h2 |-;rw[show (AV.agg [.int .i64 2,.int .i64 0,strs en,vals acc])= .agg [.int .i64 (Val.mk 2 0 en acc).kind,.int .i64 (Val.mk 2 0 en acc).n,strs (Val.mk 2 0 en acc).names,vals (Val.mk 2 0 en acc).values]from rfl,h1,aA,h2]
  generalize hcode:aj (L158_0 (ai pg) aj) [.hp 0 0,.ip (aa (aD own ns vs)),.ip (aa e.av),.int .i64 e.args.length,x5,x6,x7,x8,.int .i64 2,.int .i64 0,strs en,vals acc] h=code;rw[FL158_0]at hcode;simp -implicitDefEqProofs only[L158_0,aL,aY,aO,FA31_5,N5,NZ,LD29,hl1,bV,am,az,Po,OU,NC,NK,aQ,FH171_1,FH75_0,NU,Oi,R.lErr,mL,hne,aB,NQ,aA,List.replicate,aL,aM,hw]at hcode;rw[<- hcode];rfl
 |x:: B,A,acc,e0,ha=>by
  have hll:A.length+(B.length+1)=e.args.length:=by rw[<- e0];simp
  have h1:(A.length:Int)<(e.args.length:Int):=by omega
  have hx:e.args[A.length]'(by omega)=x:=by simp[<- e0]
  have hi:=kQ (l:=e.args) (n:=(A.length:Int)) (by omega) h1;rw[show ((A.length:Int)).toNat=A.length by omega,ND e.args A.length (by omega),hx]at hi;have hl1:aJ T 29 (cb e.args)=some (.int .i64 e.args.length):=f7 _;have hex:af T 31 (.ip (aa x.av))=some x.av:=by simp
  have hsc:af T 174 (.ip (aa (aD own ns vs)))=some (aD own ns vs):=rfl;have hev:=uJ hc R (aD own ns vs) x.av;have hb2:au T 61 1 [(0,(default:Val).av)]=some (vals [default]):=rfl;have ha2:ck T 61 (vals acc) (vals [default])=some (vals (acc++[default])):=sI (by simp;omega);have hc1:∀l,cI (vals l)=M.pure (vals l):=fun _=>rfl;have hw:IntKind.i64.wrap ((A.length:Int)+1)=((A.length+1:Nat):Int):=fb (by omega);obtain⟨w,ih⟩:=Fq hc R own ns vs en e hb x5 x6 x7 x8 B (A++[x]) (acc++[default]) (by rw[<- e0];simp) (by simp[ha]);refine⟨w,?_⟩;rw[<- ih];generalize hcode:aj (L158_0 (ai pg) aj) [.hp 0 0,.ip (aa (aD own ns vs)),.ip (aa e.av),.int .i64 A.length,x5,x6,x7,x8,.int .i64 2,.int .i64 0,strs en,vals acc] h=code;rw[FL158_0]at hcode;simp -implicitDefEqProofs only[L158_0,aL,aY,aO e,FA31_5,N5,NZ,LD29,hl1,bV,am,az,h1,OH,NS,hi,hex,hsc]at hcode;rw[aZ hev]at hcode;simp -implicitDefEqProofs only[hb2,am,ha2,hc1,aA,dD,hw]at hcode;rw[<- hcode];simp only[N3,Oy,aO]
theorem tN{n:Nat}(IH:CF p full nm n)(own:Int)(ns:List bk)(vs:List Val)(en:List bk)(e:Exp)(x5 x6 x7 x8:AV)(hes:∀x∈e.args,bc x)(h8:e.args.length<=8):
  ∀(B A:List Exp)(acc:List Val)(m:Ms)(h:Hp),A++B=e.args->acc.length=A.length->(∀v∈acc,Rv v)->en.length<=8->RepR p full nm 0 m h->GoodM p m->m.fuel<=n->Sc p own ns vs m->
  gb p full nm ((listX (ba p n own ns vs) B).bind (fun ws=>if cK (.mk 2 0 en (acc++ws))<=4 then .ok (.mk 2 0 en (acc++ws))else .er 6) m)
   (aj (L158_0 (ai pg) aj) [.hp 0 0,.ip (aa (aD own ns vs)),.ip (aa e.av),.int .i64 A.length,x5,x6,x7,x8,.int .i64 2,.int .i64 0,strs en,vals acc] h)
 | [],A,acc,m,h,e0,ha,hr,hen,R,G,hn,hs=>by
  simp only[OE]at e0;subst e0;have hsz:(Val.mk 2 0 en acc).sz<=4611686018427387904:=by
   have h2:=mo acc hr;simp only[Val.sz];have:acc.length*200000<=8*200000:=NY _ (by omega);omega
  have hlv:=t181 (.mk 2 0 en acc) hsz;rw[Val.av_eq]at hlv;simp only[Nt,Ny,Nr,Nq]at hlv;have hw:(ae (ap 4 [] (AV.agg [.int .i64 2,.int .i64 0,strs en,vals acc])) (fun w=>M.pure (AV.agg [nth (aa w) 0,nth (aa w) 1,nth (aa w) 2,nth (aa w) 3])):M AV)=M.pure (Val.mk 2 0 en acc).av:=by
   have h1:=kT (Val.mk 2 0 en acc);have h2:=cz (Val.mk 2 0 en acc);rw[Val.av_eq]at h1 h2 |-;rw[show (AV.agg [.int .i64 2,.int .i64 0,strs en,vals acc])= .agg [.int .i64 (Val.mk 2 0 en acc).kind,.int .i64 (Val.mk 2 0 en acc).n,strs (Val.mk 2 0 en acc).names,vals (Val.mk 2 0 en acc).values]from rfl,h1,aA,h2]
  have hl1:aJ T 29 (cb e.args)=some (.int .i64 e.args.length):=f7 _;simp only[listX,gY,OE];generalize hcode:aj (L158_0 (ai pg) aj) [.hp 0 0,.ip (aa (aD own ns vs)),.ip (aa e.av),.int .i64 e.args.length,x5,x6,x7,x8,.int .i64 2,.int .i64 0,strs en,vals acc] h=code;rw[FL158_0]at hcode;simp -implicitDefEqProofs only[L158_0,aL,aY,aO,FA31_5,N5,NZ,LD29,hl1,bV,am,az,Po,OU,NC,NK,aQ,FH171_1,FH75_0,NU,Oi,R.lErr,mL,OB,hlv,na,bP,aA,ec,PG,hw]at hcode;rw[<- hcode];by_cases h4:cK (.mk 2 0 en acc)<=4
  ·have h4':¬(4<((min (cK (.mk 2 0 en acc)) 6:Nat):Int)):=by omega
   simp only[h4,h4',OU,NC,NS,NK];exact iZ R
  ·have h4':(4<((min (cK (.mk 2 0 en acc)) 6:Nat):Int)):=by omega
   simp only[h4,h4',OH,NS,NK];exact cp R 6 (by decide)
 | x:: B,A,acc,m,h,e0,ha,hr,hen,R,G,hn,hs=>by
  have hll:A.length+(B.length+1)=e.args.length:=by rw[<- e0];simp
  have h1:(A.length:Int)<(e.args.length:Int):=by omega
  have hx:e.args[A.length]'(by omega)=x:=by simp[<- e0]
  have hm:x∈e.args:=by rw[<- e0];simp
  have hi:=kQ (l:=e.args) (n:=(A.length:Int)) (by omega) h1;rw[show ((A.length:Int)).toNat=A.length by omega,ND e.args A.length (by omega),hx]at hi;have hl1:aJ T 29 (cb e.args)=some (.int .i64 e.args.length):=f7 _;have hex:af T 31 (.ip (aa x.av))=some x.av:=by simp
  have hsc:af T 174 (.ip (aa (aD own ns vs)))=some (aD own ns vs):=rfl;have hb2:∀v:Val,au T 61 1 [(0,v.av)]=some (vals [v]):=fun v=>by rw[v.av_eq];simp[vals,dP,v.av_eq];rfl
  have ha2:∀v:Val,ck T 61 (vals acc) (vals [v])=some (vals (acc++[v])):=fun v=>sI (by simp;omega);have hc1:∀l,cI (vals l)=M.pure (vals l):=fun _=>rfl;have hw:IntKind.i64.wrap ((A.length:Int)+1)=((A.length+1:Nat):Int):=fb (by omega);generalize hcode:aj (L158_0 (ai pg) aj) [.hp 0 0,.ip (aa (aD own ns vs)),.ip (aa e.av),.int .i64 A.length,x5,x6,x7,x8,.int .i64 2,.int .i64 0,strs en,vals acc] h=code;rw[FL158_0]at hcode;simp -implicitDefEqProofs only[L158_0,aL,aY,aO e,FA31_5,N5,NZ,LD29,hl1,bV,am,az,h1,OH,NS,hi,hex,hsc]at hcode;rw[<- hcode];simp only[listX,eU,gY];refine e8 (IH own ns vs x m h R G hn hs (hes x hm)) (fun a s h=>iz h) (fun v s h' hv Rs=>?_) (fun a s w h' hc RE=>?_)
  ·obtain⟨G2,rv,f2⟩:=G.eval hs.right hv;simp only[hb2,am,ha2,hc1,aA,dD,hw];have ih:=tN IH own ns vs en e x5 x6 x7 x8 hes h8 B (A++[x]) (acc++[v]) s h' (by rw[<- e0];simp) (by simp[ha]) (fun w hw=>by
    rcases N6.1 hw with k|k
    ·exact hr w k
    ·simp only[OA]at k;subst k;exact rv) hen Rs G2 (by omega) (hs.less f2)
   simp only[Oz,Pl,N3,Oy,aO]at ih;exact ih
  ·simp only[hb2,am,ha2,hc1,aA,dD,hw];obtain⟨w',ih⟩:=Fq hc RE own ns vs en e h8 x5 x6 x7 x8 B (A++[x]) (acc++[w]) (by rw[<- e0];simp) (by simp[ha]);simp only[N3,Oy,aO]at ih;exact⟨w',h',ih,RE⟩
theorem t158{n:Nat}(IH:CF p full nm n)(own:Int)(ns:List bk)(vs:List Val)(e:Exp)(R:RepR p full nm 0 m h)(G:GoodM p m)(hn:m.fuel<=n)(hs:Sc p own ns vs m)(he:bc e):gb p full nm (gI (ba p n own ns vs) e m) (ai pg 158 [.hp 0 0,aD own ns vs,e.av] h):=by
 obtain⟨l1,l2⟩:=eY he;unfold gI;have ha:=t180 e.names (by omega);have hB:aN T true 71 [(0,.int .i64 2),(2,strs e.names)]=some (.agg [.int .i64 2,.int .i64 0,strs e.names,.hn]):=rfl;have hC:ap 4 [3] (.agg [.int .i64 2,.int .i64 0,strs e.names,.hn])=M.pure (.agg [.int .i64 2,.int .i64 0,strs e.names,.hn]):=rfl;have hz1:au T 28 0 []=some (strs []):=rfl;have a1:=yC (a:=[]) (b:=e.names) (by simp;omega);rw[N4]at a1;generalize hcode:ai pg 158 [.hp 0 0,aD own ns vs,e.av] h=code;rw[C158]at hcode;simp -implicitDefEqProofs only[S158,aO,FA31_4,FA31_5,N5,NZ,LD28,LD29,kV,f7,am,gC,ha,aA,bP,aL,aY,kH,gT,az,na,hz1,a1,hB,hC,bd]at hcode;rw[<- hcode];by_cases hl:e.names.length=e.args.length
 ·by_cases hasc:sG e.names=true
  ·have e1:(((e.names.length:Int) != (e.args.length:Int))||!sG e.names)=false:=by simp[hl,hasc]
   simp only[e1,NC,NK,NE (And.intro hl hasc)];by_cases h8:e.names.length<=8
   ·have h8':decide ((8:Int)<(e.names.length:Int))=false:=by simp;omega
    simp only[h8',NC,NK,NE h8]
    have:=tN IH own ns vs e.names e (.int .i64 0) (.int .i64 0) (.sl []) (.sl []) (fun x hx=>bg he hx) (by omega) e.args [] [] m h rfl rfl (fun v hv=>by cases hv) h8 R G hn hs
    simp only[N4,aO]at this;exact this
   ·have h8':decide ((8:Int)<(e.names.length:Int))=true:=by simp;omega
    simp only[h8',NS,if_neg h8];exact cp R 6 (by decide)
  ·have e1:(((e.names.length:Int) != (e.args.length:Int))||!sG e.names)=true:=by simp[hasc]
   have hx:¬(e.names.length=e.args.length/\sG e.names=true):=fun h=>hasc h.2;simp only[e1,NS,if_neg hx];exact cp R 13 (by decide)
 ·have e1:(((e.names.length:Int) != (e.args.length:Int))||!sG e.names)=true:=by
   have:((e.names.length:Int) != (e.args.length:Int))=true:=by simp;omega
   rw[this];rfl
  have hx:¬(e.names.length=e.args.length/\sG e.names=true):=fun h=>hl h.1;simp only[e1,NS,if_neg hx];exact cp R 13 (by decide)
end
end Go.Proofs.YtnipfhmghjdnmaaGreat
namespace Go.Proofs.YtnipfhmghjdnmaaGreat
open Go Go.Av Go.Av.Ap
set_option maxRecDepth 100000
section
variable {p:List Mod} {full:List Int} {nm:SNm} {m:Ms} {h:Hp}
theorem JG(R:RepR p full nm 0 m h):∃dv cv sv tag,RepT (Ct nm.told p full 0) nm tag dv cv sv m h/\∀g:AV->M AV,ae (aX T 24 (.hp 0 7)) g h=g cv h:=by
 obtain⟨tag,dv,cv,sv,R0⟩:=R.rep;exact⟨dv,cv,sv,tag,R0,fun g=>aZ (bO rfl rfl R0.r0 rfl)⟩
theorem zI(s t:bk)(v:AV)(h:bh v=true):cE 3 (.agg [.str s,.str t,v])=true:=by
 simp only[cE,cM,aa,OT,List.all_nil];rw[h];rfl
theorem zN(R:RepR p full nm 0 m h)(c:Ap.Call)(hb:m.calls.length<=2000000):
  ∃cv cv' h1 h2,(∀g:AV->M AV,ae (aX T 24 (.hp 0 7)) g h=g cv h)/\(∀g:AV->M AV,ae (appH T 24 false cv (.sl [.agg [.str c.module,.str c.func,vals c.args]])) g h=g cv' h1)/\(∀g:AV->M AV,ae (cj T 24 (.hp 0 7) cv') g h1=g (.tup []) h2)/\RepR p full nm 0 { m with calls:=m.calls++[c] } h2:=by
 obtain⟨dv,cv,sv,tag,R0,l1⟩:=JG R;obtain⟨h1,cv',tag',e1,K,H,hc⟩:=nV (T:=T) (t:=24) rfl rfl rfl rfl (by decide) rfl (by decide) (x:=.agg [.str c.module,.str c.func,vals c.args]) R0.cs (fun h0=>by
  have:m.calls=[]:=NV h0;rw[this];rfl) (fun cs h=>h.ok.1) (zI _ _ _ rfl) (show (m.calls.length+1)*56<=140737488355328 by omega)
 have h0:=(K 0 _ R0.r0 (by rw[R0.t0];decide)).1;have hac:aa cv'=[cv']:=(ep hc).2.1
 have:=R0.pushCall (m':={ m with calls:=m.calls++[c] }) (c:=c) K (.inl rfl) H rfl rfl rfl id
 refine⟨cv,cv',h1,_,l1,fun g=>aZ e1,fun g=>aZ (dx rfl h0 (ep hc).1 (show 7+1<=13 by decide) (by decide)),R.sub,R.tld,tag',dv,cv',sv,?_⟩;rw[hac];exact this
theorem Cc(x0:AV)(f:Fun)(a:Int)(l:List Val)(y4 y5 y6 y7:AV)(hl:l.length=f.params.length)(hb:f.params.length<=274877906944):∀(n i:Nat),l.length-i=n->i<=l.length->
  aj (L182_0 (ai pg) aj) [x0,vals l,.ip (aa f.av),.int .i64 i,y4,y5,y6,y7,.int .i64 a,strs ((f.params.take i).map (·.1)),vals (l.take i)]=aj (L182_0 (ai pg) aj) [x0,vals l,.ip (aa f.av),.int .i64 l.length,y4,y5,y6,y7,.int .i64 a,strs (f.params.map (·.1)),vals l]:=by
 intro n
 induction n with
 |zero=>
  intro i hn hi;obtain rfl:i=l.length:=by omega
  rw[Pp,OY (by omega)]
 |succ n ih=>
  intro i hn hi;have hlt:i<l.length:=by omega
  have hlt2:i<f.params.length:=by omega
  rw[<- ih (i+1) (by omega) (by omega)];have h1:(i:Int)<(l.length:Int):=by omega
  have hix:=ou (l:=l) (n:=(i:Int)) (by omega) h1;rw[show ((i:Int)).toNat=i by omega,ND l i hlt]at hix;have hip:=un (l:=f.params) (n:=(i:Int)) (by omega) (by omega);rw[show ((i:Int)).toNat=i by omega,ND f.params i hlt2]at hip;have hw:=t162 a ((f.params.take i).map (·.1)) (l.take i) f.params[i].1 l[i] (by simp;omega) (by simp;omega);have hsv:(AV.agg [.int .i64 a,strs ((f.params.take i).map (·.1)),vals (l.take i)])=aD a ((f.params.take i).map (·.1)) (l.take i):=rfl;have hll:aJ T 61 (vals l)=some (.int .i64 l.length):=ov _;have hps:af T 50 (.ip ((aa f.av).drop 2))=some (di f.params):=by simp
  have hfn:af T 9 (.ip ((aa (dW f.params[i])).drop 0))=some (.str f.params[i].1):=by simp
  have hld:af T 71 (.ip (aa l[i].av))=some l[i].av:=by simp
  have hcn:∀o ns vs,ap 3 [] (aD o ns vs)=M.pure (aD o ns vs):=fun _ _ _=>rfl;have hwi:IntKind.i64.wrap ((i:Int)+1)=((i+1:Nat):Int):=fb (by omega);have e1:(f.params.take (i+1)).map (·.1)=(f.params.take i).map (·.1)++[f.params[i].1]:=by rw[Qq hlt2,Ps];rfl
  have e2:l.take (i+1)=l.take i++[l[i]]:=Qq hlt;rw[FL182_0,e1,e2];simp only[L182_0,aL,aY,hll,bV,am,az,h1,OH,NS,FA90_2,hps,hip,FA105_0,hfn,hix,hld,hsv,hw,cX,aA,hcn,bu,dD,hwi]
theorem ww{n:Nat}(LB:LimB p)(IH:CF p full nm n)(a:Int)(f:Fun)(l:List Val)(m:Ms)(h0:0<=a)(ha:a<p.length)(hf:f∈(p[a.toNat]?.getD default).funcs)(hl:l.length=f.params.length)(hr:∀v∈l,Rv v)(G:GoodM p m)(hmu:mu m<1000000)(hn:m.fuel<=n)(y4 y5 y6 y7:AV):
  ∀ (m1:Ms) (h1:Hp),RepR p full nm 0 m1 h1->m1= { m with calls:=if f.pub=true then m.calls++[⟨(p[a.toNat]?.getD default).name,f.name,l⟩]else m.calls } ->m.frames<60->
   gb p full nm (((ba p n a (f.params.map (·.1)) l f.body).bind fun v=>.upd (fun m=>{ m with frames:=m.frames-1 }) (.ok v)) (iy p a f l m))
    (K182_0 (ai pg) aj [.hp 0 0,.int .i64 a,vals l,.ip (aa f.av),y4,y5,y6,y7] h1):=by
 have hlt:a.toNat<p.length:=by omega
 have hmp:p[a.toNat]?.getD default∈p:=by rw[NH hlt];exact NW hlt
 obtain⟨hbody,hparams⟩:=LB.body _ hmp f hf;have hfb:=G.bud;have hfu:=G.fuel;have hfr:=G.fr;intro m1 h1 R1 e1 h60;have hB:aN T false 174 [(0,.int .i64 a)]=some (aD a [] []):=rfl;have hcn:∀o ns vs,ap 3 [] (aD o ns vs)=M.pure (aD o ns vs):=fun _ _ _=>rfl;have hloop:=Cc (.hp 0 0) f a l y4 y5 y6 y7 hl hparams _ 0 rfl (by omega);have hw1:IntKind.i64.wrap (m.frames+1)=m.frames+1:=aF (by omega) (by omega);obtain⟨h2,s2,R2⟩:=R1.sFrames (m.frames+1);have e2:{ m1 with frames:=m.frames+1 } = iy p a f l m:=by rw[e1];rfl
 have hm1f:m1.frames=m.frames:=by rw[e1]
 rw[e2]at R2;have l2:=R1.lFrames;rw[hm1f]at l2;have hex:af T 31 (.ip ((aa f.av).drop 6))=some f.body.av:=by simp
 have hll:aJ T 61 (vals l)=some (.int .i64 l.length):=ov _;have hm2:(if f.pub=true then m.calls++[(⟨(p[a.toNat]?.getD default).name,f.name,l⟩:Ap.Call)]else m.calls).length<=m.calls.length+1:=by
  split
  ·simp
  ·omega
 have G2:GoodM p (iy p a f l m):=by
  refine⟨⟨G.right.1,fun c hc=>?_⟩,?_,by simp only[iy];omega,hfu,G.shape⟩
  ·simp only[iy]at hc;split at hc
   ·rcases N6.1 hc with k|k
    ·exact G.right.2 c k
    ·simp only[OA]at k;subst k;exact hr
   ·exact G.right.2 c hc
  ·simp only[mu,iy]at hmu |-;omega
 have hns:((f.params.map (·.1)).length:Int)+(iy p a f l m).fuel<=549755813888:=by
  simp only[Pn,iy];simp only[mu]at hfb;omega
 have hsv:(AV.agg [.int .i64 a,strs (f.params.map (·.1)),vals l])=aD a (f.params.map (·.1)) l:=rfl;generalize hcode:K182_0 (ai pg) aj [.hp 0 0,.int .i64 a,vals l,.ip (aa f.av),y4,y5,y6,y7] h1=code;simp -implicitDefEqProofs only[K182_0,aL,aY,hB,am,hcn,aA,bu]at hcode;have hloop':aj (L182_0 (ai pg) aj) [.hp 0 0,vals l,.ip (aa f.av),.int .i64 0,y4,y5,y6,y7,.int .i64 a,strs [],vals []]=_:=hloop;rw[hloop',FL182_0]at hcode;simp -implicitDefEqProofs only[L182_0,aL,aY,hll,bV,am,az,Po,OU,NC,NK,aQ,FH171_5,NU,l2,dD,hw1,s2,FA90_5,hex,hsv]at hcode;rw[<- hcode];refine e8 (IH a (f.params.map (·.1)) l f.body _ _ R2 G2 hn ⟨ha,⟨by simp[hl],hr⟩,hns⟩ hbody) (fun a s h=>iz h) (fun v s h3 hv R3=>?_) (fun c s w h3 hc RE=>?_)
 ·obtain⟨G3,_,_⟩:=G2.eval ⟨by simp[hl],hr⟩ hv;obtain⟨h4,s4,R4⟩:=R3.sFrames (s.frames-1);have hfr3:=G3.fr;have hw2:IntKind.i64.wrap (s.frames-1)=s.frames-1:=aF (by omega) (by omega);have hvl:af T 71 (.ip (aa v.av))=some v.av:=by simp
  generalize hcode2:ae (aK 4 v.av) _ h3=code2;simp -implicitDefEqProofs only[eS,aA,bd,aQ,am,FH171_5,NU,R3.lFrames,gD,hw2,s4]at hcode2;have hvl':af T 71 (.ip (aa (AV.agg (aa v.av))))=some v.av:=hvl;simp -implicitDefEqProofs only[bd,hvl,am,kT,aA,cz]at hcode2;rw[<- hcode2];exact⟨h4,rfl,R4⟩
 ·obtain⟨s',R3,k1,k2,k3⟩:=RE;obtain⟨h4,s4,R4⟩:=R3.sFrames (IntKind.i64.wrap (s'.frames-1));have hvl:af T 71 (.ip (aa w.av))=some w.av:=by simp
  refine⟨w,h4,?_,_,R4,k1,k2,k3⟩;generalize hcode2:ae (aK 4 w.av) _ h3=code2;simp -implicitDefEqProofs only[eS,aA,bd,aQ,am,FH171_5,NU,R3.lFrames,gD,s4]at hcode2;simp -implicitDefEqProofs only[bd,hvl,am,kT,aA,cz]at hcode2;rw[<- hcode2];rfl
theorem t182{n:Nat}(LB:LimB p)(IH:CF p full nm n)(a:Int)(f:Fun)(l:List Val)(R:RepR p full nm 0 m h)(h0:0<=a)(ha:a<p.length)(hf:f∈(p[a.toNat]?.getD default).funcs)(hl:l.length=f.params.length)(hr:∀v∈l,Rv v)(G:GoodM p m)(hmu:mu m<1000000)(hn:m.fuel<=n):
  gb p full nm (ff p (ba p n) a f l m) (ai pg 182 [.hp 0 0,.int .i64 a,f.av,vals l] h):=by
 have hlt:a.toNat<p.length:=by omega
 have hmp:p[a.toNat]?.getD default∈p:=by rw[NH hlt];exact NW hlt
 obtain⟨hbody,hparams⟩:=LB.body _ hmp f hf;have hfb:=G.bud;have hfu:=G.fuel;have tail:=ww LB IH a f l m h0 ha hf hl hr G hmu hn (.int .i64 0) (.int .i64 0) (.sl []) (.sl []);have hpv:r8 nm.told p=mods p:=iD (fun e=>by subst e;simp at hlt);have hfp:af T 4 (.ip ((aa f.av).drop 1))=some (.bool f.pub):=by simp
 have hfn:af T 9 (.ip ((aa f.av).drop 0))=some (.str f.name):=by simp
 generalize hcode:ai pg 182 [.hp 0 0,.int .i64 a,f.av,vals l] h=code;rw[C182]at hcode;simp -implicitDefEqProofs only[S182,aQ,am,FH171_1,FH75_0,FH171_5,NU,Oi,R.lErr,gn,Pu,az,NC,NK,R.lFrames,gB]at hcode;by_cases h60:m.frames<60
 ·have hd:decide (60<=m.frames)=false:=by simp;omega
  rw[jN,NE h60];simp -implicitDefEqProofs only[hd,NC,NK,eQ,FA90_1,hfp,am,az]at hcode;by_cases hp:f.pub=true
  ·simp only[hp,NS]at hcode tail;have hi:=fJ (l:=p) (n:=a) h0 ha;rw[ND p a.toNat hlt]at hi;have e3:p[a.toNat]?.getD default=p[a.toNat]:=by rw[NH hlt];rfl
   obtain⟨cv,cv',h1,h2,c1,c2,c3,R2⟩:=zN R ⟨p[a.toNat].name,f.name,l⟩ (by simp only[mu]at hmu;omega);have hB:aN T false 63 [(0,.str p[a.toNat].name),(1,.str f.name),(2,vals l)]=some (.agg [.str p[a.toNat].name,.str f.name,vals l]):=qL _ _ _ rfl;have hBS:=pt (.agg [.str p[a.toNat].name,.str f.name,vals l]) rfl;have hz1:au T 61 0 []=some (vals []):=rfl;have a1:=sI (a:=[]) (b:=l) (by simp;omega);rw[N4]at a1;simp -implicitDefEqProofs only[aQ,am,FH171_0,FH171_1,FH75_3,NU,Nat.reduceAdd,c1,R.lProg,hpv,hi,gd,FA55_0,NZ,LD9,FA90_0,hfn,hz1,a1,hB,hBS,c2,c3]at hcode;simp -implicitDefEqProofs only[fp,NZ,LD9,am,hB,hBS,c2,aQ,FH171_1,FH75_3,NU,Nat.reduceAdd,c3]at hcode tail;rw[<- hcode];exact tail _ h2 R2 (by rw[e3]) h60
  ·simp only[hp,NC,NK]at hcode tail;rw[<- hcode];exact tail m h R rfl h60
 ·have hd:decide (60<=m.frames)=true:=by simp;omega
  rw[jN,if_neg h60];simp -implicitDefEqProofs only[hd,NS]at hcode;rw[<- hcode];exact cp R 6 (by decide)
end
end Go.Proofs.YtnipfhmghjdnmaaGreat
namespace Go.Proofs.YtnipfhmghjdnmaaGreat
open Go Go.Av Go.Av.Ap
set_option maxRecDepth 100000
section
variable {p:List Mod} {full:List Int} {nm:SNm} {m:Ms} {h:Hp}
theorem Hn(LB:LimB p)(t:Bool)(s:bk):ai pg 49 [r8 t p,.str s]=M.pure (.int .i64 (fG p s)):=by
 have:=t49 p LB.lim.len s
 by_cases hp:p=[]
 ·subst hp;cases t with
  |false=>exact this
  |true=>
   rw[C49]at this |-;exact this
 ·rw[iD hp];exact this
theorem Hm(LB:LimB p)(t:Bool)(a:Int)(ha:a<p.length)(s:bk):ai pg 50 [r8 t p,.int .i64 a,.str s]=M.pure (.int .i64 (if a<0 then -1 else dX (p[a.toNat]?.getD default).funcs s)):=by
 have:=t50 p LB.lim.len (fun m hm=>(LB.lim.funcs m hm).1) a ha s
 by_cases hp:p=[]
 ·subst hp;cases t with
  |false=>exact this
  |true=>
   rw[C50]at this |-;exact this
 ·rw[iD hp];exact this
theorem Ax{c:Int}(hc:c≠0)(R:qx p full nm c m h)(own:Int)(ns:List bk)(vs:List Val)(a:Int)(f:Fun)(e:Exp)(hb:e.args.length<=274877906944)(y7 y8 y9 y10:AV):
  ∀(B A:List Exp)(acc:List Val),A++B=e.args->acc.length=A.length->∃w:Val,aj (L159_0 (ai pg) aj) [.hp 0 0,.ip (aa (aD own ns vs)),.ip (aa e.av),.int .i64 a,.ip (aa f.av),vals acc,.int .i64 A.length,y7,y8,y9,y10] h= .ok w.av h
 |[],A,acc,e0,ha=>by
  simp only[OE]at e0;subst e0;refine⟨default,?_⟩;have hl1:aJ T 29 (cb e.args)=some (.int .i64 e.args.length):=f7 _;have hfl:af T 90 (.ip (aa f.av))=some f.av:=by simp
  have hen:=Ek hc R (.int .i64 a) f.av (vals acc);generalize hcode:aj (L159_0 (ai pg) aj) [.hp 0 0,.ip (aa (aD own ns vs)),.ip (aa e.av),.int .i64 a,.ip (aa f.av),vals acc,.int .i64 e.args.length,y7,y8,y9,y10] h=code;rw[FL159_0]at hcode;simp -implicitDefEqProofs only[L159_0,aL,aY,aO,FA31_5,N5,NZ,LD29,hl1,bV,am,az,Po,OU,NC,NK,hfl]at hcode;rw[aZ hen,kT,aA,cz]at hcode;rw[<- hcode];rfl
 |x:: B,A,acc,e0,ha=>by
  have hll:A.length+(B.length+1)=e.args.length:=by rw[<- e0];simp
  have h1:(A.length:Int)<(e.args.length:Int):=by omega
  have hx:e.args[A.length]'(by omega)=x:=by simp[<- e0]
  have hi:=kQ (l:=e.args) (n:=(A.length:Int)) (by omega) h1;rw[show ((A.length:Int)).toNat=A.length by omega,ND e.args A.length (by omega),hx]at hi;have hl1:aJ T 29 (cb e.args)=some (.int .i64 e.args.length):=f7 _;have hex:af T 31 (.ip (aa x.av))=some x.av:=by simp
  have hsc:af T 174 (.ip (aa (aD own ns vs)))=some (aD own ns vs):=rfl;have hev:=uJ hc R (aD own ns vs) x.av;have hb2:au T 61 1 [(0,(default:Val).av)]=some (vals [default]):=rfl;have ha2:ck T 61 (vals acc) (vals [default])=some (vals (acc++[default])):=sI (by simp;omega);have hw:IntKind.i64.wrap ((A.length:Int)+1)=((A.length+1:Nat):Int):=fb (by omega);obtain⟨w,ih⟩:=Ax hc R own ns vs a f e hb y7 y8 y9 y10 B (A++[x]) (acc++[default]) (by rw[<- e0];simp) (by simp[ha]);refine⟨w,?_⟩;rw[<- ih];generalize hcode:aj (L159_0 (ai pg) aj) [.hp 0 0,.ip (aa (aD own ns vs)),.ip (aa e.av),.int .i64 a,.ip (aa f.av),vals acc,.int .i64 A.length,y7,y8,y9,y10] h=code;rw[FL159_0]at hcode;simp -implicitDefEqProofs only[L159_0,aL,aY,aO e,FA31_5,N5,NZ,LD29,hl1,bV,am,az,h1,OH,NS,hi,hex,hsc]at hcode;rw[aZ hev]at hcode;simp -implicitDefEqProofs only[hb2,am,ha2,dD,hw]at hcode;rw[<- hcode];simp only[N3,Oy,aO]
theorem rP{n:Nat}(LB:LimB p)(IH:CF p full nm n)(own:Int)(ns:List bk)(vs:List Val)(a:Int)(f:Fun)(e:Exp)(y7 y8 y9 y10:AV)(h0:0<=a)(hat:a<p.length)(hf:f∈(p[a.toNat]?.getD default).funcs)(hes:∀x∈e.args,bc x)(hb:e.args.length<=274877906944)(hlen:e.args.length=f.params.length):
  ∀(B A:List Exp)(acc:List Val)(m:Ms)(h:Hp),A++B=e.args->acc.length=A.length->(∀v∈acc,Rv v)->RepR p full nm 0 m h->GoodM p m->mu m<1000000->m.fuel<=n->Sc p own ns vs m->
  gb p full nm ((listX (ba p n own ns vs) B).bind (fun ws=>ff p (ba p n) a f (acc++ws)) m)
   (aj (L159_0 (ai pg) aj) [.hp 0 0,.ip (aa (aD own ns vs)),.ip (aa e.av),.int .i64 a,.ip (aa f.av),vals acc,.int .i64 A.length,y7,y8,y9,y10] h)
 | [],A,acc,m,h,e0,hac,hr,R,G,hmu,hn,hs=>by
  simp only[OE]at e0;subst e0;have hfl:af T 90 (.ip (aa f.av))=some f.av:=by simp
  have hl1:aJ T 29 (cb e.args)=some (.int .i64 e.args.length):=f7 _;have IE':=t182 LB IH a f acc R h0 hat hf (by omega) hr G hmu hn;generalize hcode:aj (L159_0 (ai pg) aj) [.hp 0 0,.ip (aa (aD own ns vs)),.ip (aa e.av),.int .i64 a,.ip (aa f.av),vals acc,.int .i64 e.args.length,y7,y8,y9,y10] h=code;rw[FL159_0]at hcode;simp -implicitDefEqProofs only[L159_0,aL,aY,aO,FA31_5,N5,NZ,LD29,hl1,bV,am,az,Po,OU,NC,NK,hfl]at hcode;simp only[listX,gY,OE];rw[<- hcode];generalize ff p (ba p n) a f acc m=r at IE' |-;cases r with
  |ok v s=>
   obtain⟨h',e1,R'⟩:=IE';rw[aZ e1,kT,aA,cz];exact⟨h',rfl,R'⟩
  |er c s=>
   obtain⟨w,h',e1,R'⟩:=IE';rw[aZ e1,kT,aA,cz];exact⟨w,h',rfl,R'⟩
 | x:: B,A,acc,m,h,e0,hac,hr,R,G,hmu,hn,hs=>by
  have hll:A.length+(B.length+1)=e.args.length:=by rw[<- e0];simp
  have h1:(A.length:Int)<(e.args.length:Int):=by omega
  have hx:e.args[A.length]'(by omega)=x:=by simp[<- e0]
  have hm:x∈e.args:=by rw[<- e0];simp
  have hi:=kQ (l:=e.args) (n:=(A.length:Int)) (by omega) h1;rw[show ((A.length:Int)).toNat=A.length by omega,ND e.args A.length (by omega),hx]at hi;have hl1:aJ T 29 (cb e.args)=some (.int .i64 e.args.length):=f7 _;have hex:af T 31 (.ip (aa x.av))=some x.av:=by simp
  have hsc:af T 174 (.ip (aa (aD own ns vs)))=some (aD own ns vs):=rfl;have hb2:∀v:Val,au T 61 1 [(0,v.av)]=some (vals [v]):=fun v=>by rw[v.av_eq];simp[vals,dP,v.av_eq];rfl
  have ha2:∀v:Val,ck T 61 (vals acc) (vals [v])=some (vals (acc++[v])):=fun v=>sI (by simp;omega);have hw:IntKind.i64.wrap ((A.length:Int)+1)=((A.length+1:Nat):Int):=fb (by omega);generalize hcode:aj (L159_0 (ai pg) aj) [.hp 0 0,.ip (aa (aD own ns vs)),.ip (aa e.av),.int .i64 a,.ip (aa f.av),vals acc,.int .i64 A.length,y7,y8,y9,y10] h=code;rw[FL159_0]at hcode;simp -implicitDefEqProofs only[L159_0,aL,aY,aO e,FA31_5,N5,NZ,LD29,hl1,bV,am,az,h1,OH,NS,hi,hex,hsc]at hcode;rw[<- hcode];simp only[listX,eU,gY];refine e8 (IH own ns vs x m h R G hn hs (hes x hm)) (fun a s h=>iz h) (fun v s h' hv Rs=>?_) (fun c s w h' hc RE=>?_)
  ·obtain⟨G2,rv,f2⟩:=G.eval hs.right hv;obtain⟨t1,_⟩:=lY n own ns vs x m v s G.fuel hv;simp only[hb2,am,ha2,dD,hw];have ih:=rP LB IH own ns vs a f e y7 y8 y9 y10 h0 hat hf hes hb hlen B (A++[x]) (acc++[v]) s h' (by rw[<- e0];simp) (by simp[hac]) (fun w hw=>by
    rcases N6.1 hw with k|k
    ·exact hr w k
    ·simp only[OA]at k;subst k;exact rv) Rs G2 (by omega) (by omega) (hs.less f2)
   simp only[Oz,Pl,N3,Oy,aO]at ih;exact ih
  ·simp only[hb2,am,ha2,dD,hw];obtain⟨w',ih⟩:=Ax hc RE own ns vs a f e hb y7 y8 y9 y10 B (A++[x]) (acc++[w]) (by rw[<- e0];simp) (by simp[hac]);simp only[N3,Oy,aO]at ih;exact⟨w',h',ih,RE⟩
theorem r9{n:Nat}(LB:LimB p)(IH:CF p full nm n)(own:Int)(ns:List bk)(vs:List Val)(e:Exp)(a:Int)(hat:a<p.length)(R:RepR p full nm 0 m h)(G:GoodM p m)(hmu:mu m<1000000)(hn:m.fuel<=n)(hs:Sc p own ns vs m)(he:bc e)(y1 y2 y3 y4:AV):
  gb p full nm ((match jm p a e.s with
   |none=>.er 12
   | some f=>if e.m=[]\/f.pub=true then
     (if e.args.length=f.params.length then(listX (ba p n own ns vs) e.args).bind fun l=>ff p (ba p n) a f l else .er 13)
    else .er 12:X Val) m)
   (K159_0 (ai pg) aj [.hp 0 0,.ip (aa (aD own ns vs)),.ip (aa e.av),.int .i64 a,y1,y2,y3,y4] h):=by
 obtain⟨l1,l2⟩:=eY he;have hfu:=Hm LB nm.told a hat e.s;generalize hcode:K159_0 (ai pg) aj [.hp 0 0,.ip (aa (aD own ns vs)),.ip (aa e.av),.int .i64 a,y1,y2,y3,y4] h=code;simp -implicitDefEqProofs only[K159_0,aL,aY,aQ,am,FH171_0,NU,R.lProg,aO,FA31_2,N5,NZ,LD9,hfu,cX,aA,bV,az]at hcode;rw[<- hcode];clear hcode;by_cases h0:a<0
 ·have hx:(if a<0 then(-1:Int)else dX (p[a.toNat]?.getD default).funcs e.s)= -1:=NE h0;have hnone:jm p a e.s=none:=by unfold jm;rw[NE h0]
  rw[hx,hnone];simp only[show decide ((-1:Int)<0)=true from rfl,NS];exact cp R 12 (by decide)
 have hx:(if a<0 then(-1:Int)else dX (p[a.toNat]?.getD default).funcs e.s)=dX (p[a.toNat]?.getD default).funcs e.s:=if_neg h0;rw[hx];have hlt:a.toNat<p.length:=by omega
 have e3:p[a.toNat]?.getD default=p[a.toNat]:=by rw[NH hlt];rfl
 have hfd:jm p a e.s=if dX (p[a.toNat]?.getD default).funcs e.s<0 then none else(p[a.toNat]?.getD default).funcs[(dX (p[a.toNat]?.getD default).funcs e.s).toNat]?:=by
  unfold jm;rw[if_neg h0]
 rw[hfd,e3];generalize hI:dX p[a.toNat].funcs e.s=I;by_cases hi:I<0
 ·rw[NE hi];simp only[hi,OH,NS];exact cp R 12 (by decide)
 rw[if_neg hi];have hil:I<p[a.toNat].funcs.length:=by
  rcases gO (fun(x:Fun)=>x.name== e.s) p[a.toNat].funcs 0 with k|k
  ·have:dX p[a.toNat].funcs e.s= -1:=k;omega
  ·have:dX p[a.toNat].funcs e.s=bj (fun(x:Fun)=>x.name== e.s) p[a.toNat].funcs 0:=rfl;omega
 have hit:I.toNat<p[a.toNat].funcs.length:=by omega
 rw[NH hit];have hpv:r8 nm.told p=mods p:=iD (fun e=>by subst e;simp at hlt);have hix:=fJ (l:=p) (n:=a) (by omega) hat;rw[ND p a.toNat hlt]at hix;have hif:=mr (l:=p[a.toNat].funcs) (n:=I) (by omega) hil;rw[ND _ I.toNat hit]at hif;have hmem:p[a.toNat].funcs[I.toNat]∈(p[a.toNat]?.getD default).funcs:=by rw[e3];exact NW hit
 have hmp:p[a.toNat]?.getD default∈p:=by rw[e3];exact NW hlt
 generalize p[a.toNat].funcs[I.toNat]=f at *;have hfl:af T 90 (.ip (aa f.av))=some f.av:=by simp
 have hpub:af T 4 (.ip (List.drop 1 (aa f.av)))=some (.bool f.pub):=by simp
 have hpar:af T 50 (.ip (List.drop 2 (aa f.av)))=some (di f.params):=by simp
 have hfs:af T 51 (.ip (List.drop 4 (aa p[a.toNat].av)))=some (kp p[a.toNat].funcs):=by simp
 have hgu:aB (.bool (!(e.m== []))) true 1 (M.pure [.bool !f.pub])=M.pure [gv (!(e.m== [])) true (.bool !f.pub)]:=bP _ _ _;have hpk:aM (.bool (!(e.m== []))) (gv (!(e.m== [])) true (.bool !f.pub)) (.bool false)=some (.bool ((!(e.m== []))&&!f.pub)):=ec _ _;have hlp:aJ T 50 (di f.params)=some (.int .i64 f.params.length):=qz _;have hle:aJ T 29 (cb e.args)=some (.int .i64 e.args.length):=f7 _;have hid:decide (I<0)=false:=by simp;omega
 generalize hcode:(if decide (I<0)=true then _ else _:M AV) h=code;simp -implicitDefEqProofs only[hid,NC,NK,aQ,am,FH171_0,NU,R.lProg,hpv,hix,FA55_4,hfs,hif,hfl,iP,aA,bd,FA31_3,N5,NZ,LD9,oe,FA90_1,FA90_2,hpub,hpar,kH,hgu,aL,hpk,az,FA31_5,LD29,hlp,hle,gC]at hcode;rw[<- hcode];by_cases h1:e.m=[]\/f.pub=true
 ·have h1':((!(e.m== []))&&!f.pub)=false:=by
   rcases h1 with h1|h1<;>simp[h1]
  simp only[h1',NC,NK,NE h1];by_cases h2:e.args.length=f.params.length
  ·have h2':((f.params.length:Int) != (e.args.length:Int))=false:=by simp[h2]
   simp only[h2',NC,NK,NE h2]
   have:=rP LB IH own ns vs a f e y1 y2 y3 y4 (by omega) hat hmem (fun x hx=>bg he hx) l2 h2 e.args [] [] m h rfl rfl (fun v hv=>by cases hv) R G hmu hn hs
   simp only[N4,aO]at this;exact this
  ·have h2':((f.params.length:Int) != (e.args.length:Int))=true:=by simp;omega
   simp only[h2',NS,if_neg h2];exact cp R 13 (by decide)
 ·have h1':((!(e.m== []))&&!f.pub)=true:=by
   have a1:¬e.m=[]:=fun h=>h1 (.inl h);have a2:¬f.pub=true:=fun h=>h1 (.inr h);simp[a1,a2]
  simp only[h1',NS,if_neg h1];exact cp R 12 (by decide)
theorem t159{n:Nat}(LB:LimB p)(IH:CF p full nm n)(own:Int)(ns:List bk)(vs:List Val)(e:Exp)(R:RepR p full nm 0 m h)(G:GoodM p m)(hmu:mu m<1000000)(hn:m.fuel<=n)(hs:Sc p own ns vs m)(he:bc e):gb p full nm (mb p (ba p n) own ns vs e m) (ai pg 159 [.hp 0 0,aD own ns vs,e.av] h):=by
 unfold mb;have hown:af T 3 (.ip [.int .i64 own,strs ns,vals vs])=some (.int .i64 own):=rfl;have hmd:=Hn LB nm.told e.m;generalize hcode:ai pg 159 [.hp 0 0,aD own ns vs,e.av] h=code;rw[C159]at hcode;simp -implicitDefEqProofs only[S159,bu,aO,FA174_0,FA31_3,N5,NZ,hown,LD9,am,eQ,oe,az]at hcode;by_cases h0:e.m=[]
 ·have h0':(!(e.m== []))=false:=by simp[h0]
  simp only[h0',NC,NK]at hcode;simp only[NE h0];rw[<- hcode]
  have:=r9 LB IH own ns vs e own hs.own R G hmu hn hs he (.int .i64 0) (.int .i64 0) (.sl []) (.sl [])
  simp only[bu,aO]at this;exact this
 ·have h0':(!(e.m== []))=true:=by simp[h0]
  simp -implicitDefEqProofs only[h0',NS,aQ,am,FH171_0,NU,R.lProg,hmd,cX,aA]at hcode;simp only[if_neg h0];rw[<- hcode];have hlt:fG p e.m<p.length:=by
   rcases gO (fun(x:Mod)=>x.name== e.m) p 0 with k|k
   ·show bj _ p 0<_;rw[k];omega
   ·show bj _ p 0<_;omega
  have:=r9 LB IH own ns vs e (fG p e.m) hlt R G hmu hn hs he (.int .i64 0) (.int .i64 0) (.sl []) (.sl [])
  simp only[bu,aO]at this;exact this
end
end Go.Proofs.YtnipfhmghjdnmaaGreat
namespace Go.Proofs.YtnipfhmghjdnmaaGreat
open Go Go.Av Go.Av.Ap
set_option maxRecDepth 100000
section
variable {p:List Mod} {full:List Int} {nm:SNm} {m:Ms} {h:Hp}
theorem zO(R:RepR p full nm 0 m h)(d:Deed)(hb:m.deeds.length<=2000000):
  ∃dv dv' h1 h2,(∀g:AV->M AV,ae (aX T 72 (.hp 0 6)) g h=g dv h)/\(∀g:AV->M AV,ae (appH T 72 false dv (.sl [d.av])) g h=g dv' h1)/\(∀g:AV->M AV,ae (cj T 72 (.hp 0 6) dv') g h1=g (.tup []) h2)/\RepR p full nm 0 { m with deeds:=m.deeds++[d] } h2:=by
 obtain⟨tag,dv,cv,sv,R0⟩:=R.rep;obtain⟨h1,dv',tag',e1,K,H,hc⟩:=nV (T:=T) (t:=72) rfl rfl rfl rfl (by decide) rfl (by decide) (x:=d.av) R0.ds (fun h0=>by
  have:m.deeds=[]:=NV h0;rw[this];rfl) (fun cs h=>by rw[h];exact nf _) (lU d) (show (m.deeds.length+1)*24<=140737488355328 by omega)
 have h0:=(K 0 _ R0.r0 (by rw[R0.t0];decide)).1;have hac:aa dv'=[dv']:=(ep hc).2.1
 have:=R0.pushDeed (m':={ m with deeds:=m.deeds++[d] }) K H rfl rfl rfl id
 refine⟨dv,dv',h1,_,fun g=>aZ (bO rfl rfl R0.r0 rfl),fun g=>aZ e1,fun g=>aZ (dx rfl h0 (ep hc).1 (show 6+1<=13 by decide) (by decide)),R.sub,R.tld,tag',dv',cv,sv,?_⟩;rw[hac];exact this
theorem t6(R:RepR p full nm 0 m h)(hb:m.deeds.length<=2000000)(e:Exp)(v:Val)(n:Int)(x1 x2 x3 x4:AV):
  gb p full nm (X.ok (jW n) { m with deeds:=m.deeds++[⟨e.n,v.n,n⟩] }) (K160_0 (ai pg) aj [.hp 0 0,.ip (aa e.av),.ip (aa v.av),.int .i64 n,x1,x2,x3,x4] h):=by
 obtain⟨dv,dv',h1,h2,l1,e1,s1,R2⟩:=zO R ⟨e.n,v.n,n⟩ hb;have hB:aN T false 80 [(0,.int .i64 e.n),(1,.int .i64 v.n),(2,.int .i64 n)]=some (Deed.av ⟨e.n,v.n,n⟩):=rfl;have hBS:au T 72 1 [(0,Deed.av ⟨e.n,v.n,n⟩)]=some (.sl [Deed.av ⟨e.n,v.n,n⟩]):=rfl;have hV:aN T false 71 [(0,.int .i64 0),(1,.int .i64 n)]=some (jW n).av:=rfl;generalize hcode:K160_0 (ai pg) aj [.hp 0 0,.ip (aa e.av),.ip (aa v.av),.int .i64 n,x1,x2,x3,x4] h=code;simp -implicitDefEqProofs only[K160_0,aL,aY,aQ,am,FH171_1,FH75_2,NU,Nat.reduceAdd,l1,aO,FA31_1,N5,NZ,LD3,bW,FA71_1,hB,hBS,e1,s1,hV,kT,aA,cz]at hcode;rw[<- hcode];exact iZ R2
theorem CE{full w:List Int}{x:Int}{wl:List Int}(h:w <:+ full)(hw:w=x:: wl):∃k:Nat,(full.length:Int)-(w.length:Int)=(k:Int)/\∃hk:k<full.length,full[k]=x:=by
 obtain⟨pre,e⟩:=h;subst e;subst hw;refine⟨pre.length,by simp,by simp,by simp⟩
theorem t160{n:Nat}(IH:CF p full nm n)(hfl:full.length<=1099511627776)(own:Int)(ns:List bk)(vs:List Val)(e a:Exp)(hea:e.args=[a])(R:RepR p full nm 0 m h)(G:GoodM p m)(hmu:mu m<1000000)(hn:m.fuel<=n)(hs:Sc p own ns vs m)(he:bc e):
  gb p full nm (sJ (ba p n own ns vs a) e m) (ai pg 160 [.hp 0 0,aD own ns vs,e.av] h):=by
 have ha:bc a:=bg he (by rw[hea];simp);have hex:af T 31 (.ip (aa a.av))=some a.av:=by simp
 have hscl:af T 174 (.ip [.int .i64 own,strs ns,vals vs])=some (aD own ns vs):=rfl;have hix:=kQ (l:=e.args) (n:=0) (by omega) (by rw[hea];simp);have hx0:e.args[(0:Int).toNat]! = a:=by rw[hea];rfl
 rw[hx0]at hix;generalize hcode:ai pg 160 [.hp 0 0,aD own ns vs,e.av] h=code;rw[C160]at hcode;simp -implicitDefEqProofs only[S160,bu,aO e,FA31_5,N5,NZ,LD29,am,hscl,hix,hex]at hcode;rw[<- hcode];unfold sJ;refine e8 (IH own ns vs a m h R G hn hs ha) (fun a s h=>iz h) (fun v s1 h2 hv R2=>?_) (fun c s w h' hc RE=>?_)
 ·obtain⟨G2,rv,f2⟩:=G.eval hs.right hv;have hk0:af T 3 (.ip ([AV.int .i64 v.kind,.int .i64 v.n,strs v.names,vals v.values].drop 0))=some (.int .i64 v.kind):=rfl;have he1:af T 3 (.ip ([AV.int .i64 e.op,.int .i64 e.n,.str e.s,.str e.m,strs e.names,cb e.args].drop 1))=some (.int .i64 e.n):=rfl;generalize hcode2:ae (aK 4 v.av) _ h2=code2;simp -implicitDefEqProofs only[eS,aA,bd,bW,aQ,am,FH171_1,FH75_0,NU,Oi,R2.lErr,gn,Pu,az,NC,NK,FA71_0,hk0,gC,FA31_1,he1,bP,aL,ec,eQ]at hcode2;rw[<- hcode2];by_cases hk:v.kind=0
  ·have hk':(v.kind != 0)=false:=by simp[hk]
   simp only[hk',NC,NK,NE hk];by_cases hn4:e.n=1\/e.n=2\/e.n=4\/e.n=8
   ·have hn':(e.n != 1&&e.n != 2&&e.n != 4&&e.n != 8)=false:=by
     rw[<- Pm];simp only[NG,Qv];omega
    simp only[hn',NC,NK,NE hn4];have hmu2:=(lY n own ns vs a m v s1 G.fuel hv).1;have hdl:s1.deeds.length<=2000000:=by
     have:=G2.fuel
     simp only[mu]at hmu2 hmu;omega
    show gb p full nm (X.ok (jW (s1.world.headD 0)) { s1 with world:=s1.world.tail,deeds:=s1.deeds++[⟨e.n,v.n,s1.world.headD 0⟩] }) _;have lenw:aJ T 45 (qf nm.told full)=some (.int .i64 full.length):=by
     unfold qf;split
     ·rename_i ht;rw[R2.tld ht];rfl
     ·exact CM _
    generalize hcode3:ae (ah (ab T 171 (.hp 0 0) 3)) _ h2=code3;simp -implicitDefEqProofs only[aQ,am,FH171_2,FH171_3,NU,R2.lAt,R2.lWorld,lenw,bV,az]at hcode3;cases hwd:s1.world with
    | nil=>
     have hlt:decide ((full.length:Int)-(s1.world.length:Int)<(full.length:Int))=false:=by rw[hwd];simp
     simp only[hlt,NC,NK]at hcode3
     have:=t6 R2 hdl e v 0 (.int .i64 0) (.int .i64 0) (.sl []) (.sl [])
     simp only[aO,bW]at this;rw[hcode3]at this;have e5:({ s1 with deeds:=s1.deeds++[⟨e.n,v.n,0⟩] }:Ms)= { s1 with world:=([]:List Int).tail,deeds:=s1.deeds++[⟨e.n,v.n,([]:List Int).headD 0⟩] }:=by
      cases s1;simp only at hwd;subst hwd;rfl
     rw[e5]at this;exact this
    | cons x wl=>
     have hlt:decide ((full.length:Int)-(s1.world.length:Int)<(full.length:Int))=true:=by rw[hwd];simp;omega
     obtain⟨k,hk1,hk2,hk3⟩:=CE R2.sub hwd;have hne:full≠[]:=fun e=>by rw[e]at hk2;exact absurd hk2 (by simp)
     have hwv:qf nm.told full=ints full:=by
      unfold qf;rw[if_neg];intro ht;exact hne (R2.tld ht)
     have hixw:=Bi (l:=full) (n:=(k:Int)) (by omega) (by omega);rw[show ((k:Int)).toNat=k by omega,ND full k hk2,hk3]at hixw;obtain⟨h3,s3,R3⟩:=R2.sAt hwd;have hw1:IntKind.i64.wrap ((full.length:Int)-(s1.world.length:Int)+1)=(full.length:Int)-(s1.world.length:Int)+1:=aF (by omega) (by omega);have hac1:aa (AV.int IntKind.i64 x)=[.int .i64 x]:=rfl;have hld1:af T 3 (.ip [.int .i64 x])=some (.int .i64 x):=rfl;have hwl:ak T 45 (ints full) (.int .i64 ((full.length:Int)-(s1.world.length:Int)))=some (.ip [.int .i64 x]):=by rw[hk1];exact hixw
     simp -implicitDefEqProofs only[hlt,NS,R2.lWorld,R2.lAt,hwv,hwl,am,hld1,dD,hw1,s3]at hcode3;rw[hwd]at R3;simp only[List.tail_cons]at R3
     have:=t6 R3 hdl e v x (.int .i64 0) (.int .i64 0) (.sl []) (.sl [])
     simp only[aO,bW]at this;rw[hcode3]at this;exact this
   ·have hn':(e.n != 1&&e.n != 2&&e.n != 4&&e.n != 8)=true:=by
     simp only[NG,Qv];omega
    simp only[hn',NS,if_neg hn4];exact cp R2 14 (by decide)
  ·have hk':(v.kind != 0)=true:=by simpa using hk
   simp only[hk',NS,if_neg hk];exact cp R2 13 (by decide)
 ·have hne:(c != 0)=true:=by simpa using hc
  have hvl:af T 71 (.ip (aa w.av))=some w.av:=by simp
  refine⟨w,h',?_,RE⟩;generalize hcode2:ae (aK 4 w.av) _ h'=code2;simp -implicitDefEqProofs only[eS,aA,bd,aQ,am,FH171_1,FH75_0,NU,Oi,RE.lErr,gn,hne,az,NS,hvl,kT,cz]at hcode2;rw[<- hcode2];rfl
theorem Cb(x0 x1:AV)(l:List ie)(hl:l.length<=1099511627776)(e:Exp)(y5 y6 y7 y8:AV):∀(n i:Nat),l.length-i=n->i<=l.length->
  aj (L161_0 (ai pg) aj) [x0,x1,.ip (aa e.av),di l,.int .i64 i,y5,y6,y7,y8]=aj (L161_0 (ai pg) aj) [x0,x1,.ip (aa e.av),di l,.int .i64 (if bj (fun(f:ie)=>f.1== e.s) (l.drop i) i<0 then(l.length:Int)else bj (fun(f:ie)=>f.1== e.s) (l.drop i) i),y5,y6,y7,y8]:=by
 intro n
 induction n with
 |zero=>
  intro i hn hi;obtain rfl:i=l.length:=by omega
  rw[QS];rfl
 | succ n ih=>
  intro i hn hi;have hlt:i<l.length:=by omega
  have h1:(i:Int)<(l.length:Int):=by omega
  rw[NI hlt];simp only[bj];by_cases hs:l[i].1=e.s
  ·simp only[hs,OB,NS];rw[if_neg (by omega)]
  ·have hsb:(l[i].1== e.s)=false:=by simpa using hs
   simp only[hsb,NC,NK];have ih':=ih (i+1) (by omega) (by omega);simp only[Q0,Q1]at ih';rw[<- ih'];have hix:=un (l:=l) (n:=(i:Int)) (by omega) h1;rw[show ((i:Int)).toNat=i by omega,ND l i hlt]at hix;have hll:aJ T 50 (di l)=some (.int .i64 l.length):=qz _;have hfn:af T 9 (.ip ((aa (dW l[i])).drop 0))=some (.str l[i].1):=by simp
   have hes:af T 9 (.ip ((aa e.av).drop 2))=some (.str e.s):=by simp
   have hw:IntKind.i64.wrap ((i:Int)+1)=(i:Int)+1:=aF (by omega) (by omega)
   conv=>lhs;rw[FL161_0]
   simp only[L161_0,aL,aY,hll,bV,am,h1,OH,hix,FA105_0,hfn,FA31_2,hes,oe,hsb,Bool.not_false,bP,aA,ec,P7,az,NS,dD,hw]
theorem t161{n:Nat}(LB:LimB p)(IH:CF p full nm n)(own:Int)(ns:List bk)(vs:List Val)(e:Exp)(hop:e.op=17\/e.op=18/\∃a,e.args=[a])(R:RepR p full nm 0 m h)(G:GoodM p m)(hn:m.fuel<=n)(hs:Sc p own ns vs m)(he:bc e):
  gb p full nm (sX p (ba p n own ns vs) own e m) (ai pg 161 [.hp 0 0,aD own ns vs,e.av] h):=by
 have hscl:af T 174 (.ip [.int .i64 own,strs ns,vals vs])=some (aD own ns vs):=rfl;have hown:af T 3 (.ip [.int .i64 own,strs ns,vals vs])=some (.int .i64 own):=rfl;generalize hcode:ai pg 161 [.hp 0 0,aD own ns vs,e.av] h=code;rw[C161]at hcode;simp -implicitDefEqProofs only[S161,bu,FA174_0,NZ,hown,am,bV,az]at hcode;unfold sX;by_cases ho:own<0
 ·have ho':decide (own<0)=true:=by simpa using ho
  simp only[ho',NS]at hcode;simp only[NE ho];rw[<- hcode];exact cp R 12 (by decide)
 have ho':decide (own<0)=false:=by simpa using ho
 simp only[if_neg ho];have hol:=hs.own;have hlt:own.toNat<p.length:=by omega
 have hix:=fJ (l:=p) (n:=own) (by omega) hol;rw[ND p own.toNat hlt]at hix;have e3:p[own.toNat]?.getD default=p[own.toNat]:=by rw[NH hlt];rfl
 have hvl:=(LB.lim.funcsAt own.toNat).2;rw[e3]at hvl |-;have hpv:r8 nm.told p=mods p:=iD (fun e=>by subst e;simp at hlt);have hfv:af T 50 (.ip (List.drop 2 (aa p[own.toNat].av)))=some (di p[own.toNat].vars):=by simp
 simp -implicitDefEqProofs only[ho',NC,NK,aQ,am,FH171_0,NU,R.lProg,hpv,hix,FA55_2,hfv]at hcode;have hloop:=Cb (.hp 0 0) (.ip [.int .i64 own,strs ns,vals vs]) p[own.toNat].vars hvl e (.int .i64 0) (.int .i64 0) (.sl []) (.sl []) _ 0 rfl (by omega);rw[NZ]at hloop;have hloop':aj (L161_0 (ai pg) aj) [.hp 0 0,.ip [.int .i64 own,strs ns,vals vs],.ip (aa e.av),di p[own.toNat].vars,.int .i64 0,.int .i64 0,.int .i64 0,.sl [],.sl []]=_:=hloop;rw[hloop']at hcode;have hidx:bj (fun(f:ie)=>f.1== e.s) p[own.toNat].vars ((0:Nat):Int)=f4 p[own.toNat].vars e.s:=rfl;rw[hidx]at hcode;have hll:aJ T 50 (di p[own.toNat].vars)=some (.int .i64 p[own.toNat].vars.length):=qz _;have heop:af T 3 (.ip ((aa e.av).drop 0))=some (.int .i64 e.op):=by simp
 have hes:af T 9 (.ip ((aa e.av).drop 2))=some (.str e.s):=by simp
 have hrng:=gO (fun(x:ie)=>x.1== e.s) p[own.toNat].vars 0;have hdef:f4 p[own.toNat].vars e.s=bj (fun(x:ie)=>x.1== e.s) p[own.toNat].vars 0:=rfl;rw[<- hdef]at hrng;rw[FL161_0]at hcode;by_cases hi:f4 p[own.toNat].vars e.s<0
 ·simp only[NE hi]at hcode |-;simp -implicitDefEqProofs only[L161_0,aL,aY,hll,bV,am,Po,OU,tE,List.replicate,aA,aL,lG,az,NC,NK,gB,PC,OH,NS]at hcode;rw[<- hcode];exact cp R 12 (by decide)
 simp only[if_neg hi]at hcode |-
 have hname:(p[own.toNat].vars[(f4 p[own.toNat].vars e.s).toNat]!.1== e.s)=true:=by
  have key:∀(l:List ie)(i:Int),0<=i->¬bj (fun(x:ie)=>x.1== e.s) l i<0->(l[(bj (fun(x:ie)=>x.1== e.s) l i-i).toNat]!.1== e.s)=true:=by
   intro l
   induction l with
   |nil=>intro i hi h;exact absurd (show (-1:Int)<0 by decide) h
   | cons x l ih=>
    intro i hi h;simp only[bj]at h|-;split at h
    ·rename_i hx;rw[NE hx];simp only[Int.sub_self,Int.toNat_zero,List.getElem!_cons_zero];exact hx
    ·rename_i hx;rw[if_neg hx]
     have:=ih (i+1) (by omega) h
     rcases gO (fun(x:ie)=>x.1== e.s) l (i+1)with k|k
     ·omega
     ·have e5:(bj (fun(x:ie)=>x.1== e.s) l (i+1)-i).toNat=(bj (fun(x:ie)=>x.1== e.s) l (i+1)-(i+1)).toNat+1:=by omega
      rw[e5,List.getElem!_cons_succ];exact this
  have:=key p[own.toNat].vars 0 (by omega) hi
  simpa [hdef]using this
 generalize hI:f4 p[own.toNat].vars e.s=I at *;have hil:I<p[own.toNat].vars.length:=by omega
 have hI0:0<=I:=by omega
 have hixI:=un (l:=p[own.toNat].vars) (n:=I) hI0 hil;have hfn:af T 9 (.ip ((aa (dW p[own.toNat].vars[I.toNat]!)).drop 0))=some (.str p[own.toNat].vars[I.toNat]!.1):=by simp
 have h1:decide (I<(p[own.toNat].vars.length:Int))=true:=by simpa using hil
 have h2:decide ((p[own.toNat].vars.length:Int)<=I)=false:=by simp;omega
 simp -implicitDefEqProofs only[L161_0,aL,aY,hll,bV,am,h1,hixI,FA105_0,hfn,FA31_2,hes,oe,hname,Pv,bP,aA,ec,Qe,az,NC,NK,gB,h2,FA31_0,heop,dj]at hcode;obtain⟨l,hl1,hl2⟩:=G.shape own.toNat _ (NH hlt);have hne:l≠[]:=fun e=>by rw[e]at hl2;simp at hl2;omega
 have hsl:own.toNat<m.state.length:=(NO.1 hl1).1;have hk:I.toNat<l.length:=by omega
 have Rk:=R;obtain⟨tag,dv,cv,sv,R0⟩:=R.rep;have lsv:∀g:AV->M AV,ae (aX T 73 (.hp 0 8)) g h=g nm.sv h:=fun g=>aZ (bO rfl rfl R0.r0 (by rw[<- R0.sve];rfl));obtain⟨q,r,v1,v2,v3,v4,v5,v6⟩:=R0.var (fun _=>rfl) hl1 hne;have hx1:∀st:List (List Val),own.toNat<st.length->nm.sv= .hs q 0 st.length 2 true->ak T 73 nm.sv (.int .i64 own)=some (.hp q (own.toNat*2)):=fun st hst hsv=>by
  rw[hsv]
  have:=Mb (t:=73) rfl rfl rfl (l:=q) (off:=0) (len:=st.length) (sz:=2) (ag:=true) (n:=own) (by omega) (by omega)
  rw[this];simp
 have hx1':=hx1 m.state hsl v1;have lv:∀g:AV->M AV,ae (aX T 61 (.hp q (own.toNat*2+1))) g h=g (.hs r 0 l.length 4 true) h:=fun g=>aZ (bO rfl rfl v2 v3);have hx2:ak T 61 (.hs r 0 l.length 4 true) (.int .i64 I)=some (.hp r (I.toNat*4)):=by
  have:=Mb (t:=61) rfl rfl rfl (l:=r) (off:=0) (len:=l.length) (sz:=4) (ag:=true) (n:=I) (by omega) (by omega)
  rw[this];simp
 have hsc2:af T 3 (.ip ([AV.int .i64 own,strs ns,vals vs].drop 0))=some (.int .i64 own):=rfl;rcases hop with h17|⟨h18,a,hea⟩
 ·have h17b:(e.op== 17)=true:=by simp[h17]
  have h18b:¬(e.op=18):=by omega
  simp only[if_neg h18b];have hld2:aX T 71 (.hp r (I.toNat*4)) h= .ok (l[I.toNat]).av h:=by
   have:=oN (T:=T) (t:=71) rfl rfl (h:=h) (l:=r) (k:=I.toNat*4) v5 (by rw[fY];show I.toNat*4+4<=_;omega)
   rw[this];have hg:=kI (l:=l) (k:=I.toNat) hk;show Av.R.ok (AV.agg (((bF l).drop (I.toNat*4)).take 4)) _=_;rw[hg,Val.av_eq];rfl
  have ld2:∀g:AV->M AV,ae (aX T 71 (.hp r (I.toNat*4))) g h=g (l[I.toNat]).av h:=fun g=>aZ hld2;simp -implicitDefEqProofs only[h17b,NS,aQ,am,FH171_1,FH75_4,NU,Nat.reduceAdd,lsv,FA174_0,hsc2,hx1',FH155_1,lv,hx2,ld2,kT,aA,cz]at hcode;rw[<- hcode];have hgs:me m.state own.toNat I.toNat=l[I.toNat]:=by
   simp[me,Oj,hl1,hk]
  show gb p full nm (X.ok (me m.state own.toNat I.toNat) m) _;rw[hgs];exact iZ Rk
 ·have h17b:(e.op== 17)=false:=by simp[h18]
  have ha:bc a:=bg he (by rw[hea];simp);have hex:af T 31 (.ip (aa a.av))=some a.av:=by simp
  have hixa:=kQ (l:=e.args) (n:=0) (by omega) (by rw[hea];simp);have hx0:e.args[(0:Int).toNat]! = a:=by rw[hea];rfl
  have e0:e.args[0]! = a:=hx0;rw[hx0]at hixa;have hes5:af T 29 (.ip ((aa e.av).drop 5))=some (cb e.args):=by simp
  simp only[NE h18,e0];simp -implicitDefEqProofs only[h17b,NC,NK,hscl,am,FA31_5,hes5,hixa,hex]at hcode;rw[<- hcode];refine e8 (IH own ns vs a m h Rk G hn hs ha) (fun a s h=>iz h) (fun v s1 h2 hv R2=>?_) (fun c s w h' hc RE=>?_)
  ·obtain⟨G2,rv,f2⟩:=G.eval hs.right hv;obtain⟨tag2,dv2,cv2,sv2,R20⟩:=R2.rep;obtain⟨l',hl1',hl2'⟩:=G2.shape own.toNat _ (NH hlt);have hne':l'≠[]:=fun e=>by rw[e]at hl2';simp at hl2';omega
   have hsl':own.toNat<s1.state.length:=(NO.1 hl1').1;obtain⟨q',r',w1,w2,w3,w4,w5,w6⟩:=R20.var (fun _=>rfl) hl1' hne';have hll:l'.length=l.length:=by omega
   have hqq:q'=q:=by
    rw[v1]at w1;simp only[AV.hs.injEq]at w1;exact w1.1.symm
   subst hqq;have hrr:r'=r:=by
    rw[v3]at w3;simp only[NB,AV.hs.injEq]at w3;exact w3.1.symm
   subst hrr;have lsv2:∀g:AV->M AV,ae (aX T 73 (.hp 0 8)) g h2=g nm.sv h2:=fun g=>aZ (bO rfl rfl R20.r0 (by rw[<- R20.sve];rfl));have hx1'':=hx1 s1.state hsl' w1;have lv2:∀g:AV->M AV,ae (aX T 61 (.hp q' (own.toNat*2+1))) g h2=g (.hs r' 0 l.length 4 true) h2:=fun g=>aZ (bO rfl rfl w2 (by rw[<- hll];exact w3));have hst:cj T 71 (.hp r' (I.toNat*4)) v.av h2= .ok (.tup []) (h2.set r' (bF (l'.set I.toNat v))):=by
    have:=dx (T:=T) (t:=71) rfl w5 (v:=v.av) (k:=I.toNat*4) (eA v) (by rw[fY];show I.toNat*4+4<=_;omega) (by decide)
    rw[this,oi (by omega)]
   have R3:=w6 I.toNat v (by omega);have hvl2:af T 71 (.ip (aa v.av))=some v.av:=by simp
   generalize hcode2:ae (aK 4 v.av) _ h2=code2;have st2:∀g:AV->M AV,ae (cj T 71 (.hp r' (I.toNat*4)) v.av) g h2=g (.tup []) (h2.set r' (bF (l'.set I.toNat v))):=fun g=>aZ hst;simp -implicitDefEqProofs only[eS,aA,bd,eQ,aQ,am,FH171_1,FH75_0,FH75_4,NU,Oi,Nat.reduceAdd,R2.lErr,mL,OB,az,NS,lsv2,FA174_0,hsc2,hx1'',FH155_1,lv2,hvl2,hx2,st2,K161_0,aL,kT,cz]at hcode2;rw[<- hcode2];exact⟨_,rfl,R2.sub,R2.tld,tag2,dv2,cv2,sv2,R3⟩
  ·have hneb:(c== 0)=false:=by simpa using hc
   have hvl2:af T 71 (.ip (aa w.av))=some w.av:=by simp
   refine⟨w,h',?_,RE⟩;generalize hcode2:ae (aK 4 w.av) _ h'=code2;simp -implicitDefEqProofs only[eS,aA,bd,eQ,aQ,am,FH171_1,FH75_0,NU,Oi,RE.lErr,mL,hneb,az,NC,NK,K161_0,aL,hvl2,kT,cz]at hcode2;rw[<- hcode2];rfl
end
end Go.Proofs.YtnipfhmghjdnmaaGreat
