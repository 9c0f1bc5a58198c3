/- What the functions compute, part 8. Conditions: bounds. -/
import Derived.Test.YtbndmpiddinalacGreatDoorTg
set_option linter.defProp false
set_option linter.unusedSimpArgs false
set_option linter.unusedVariables false
namespace Go.Proofs.YtbndmpiddinalacGreatDoor
open Go Go.Av Go.Av.Ap
set_option maxRecDepth 100000
theorem rW:∀(A B:List Ap.Mod)(i:Nat),aY i (A++B)=aY i A++aY (i+A.length) B
 |[],B,i=>rfl
 |m:: A,B,i=>by
  show kh i m m.funcs++aY (i+1) (A++B)=_;rw[rW A B (i+1),show i+1+A.length=i+(m:: A).length by simp;omega,<- Yz];rfl
def Hi(i:Nat)(m:Ap.Mod)(C D:List Fun):kh i m (C++D)=kh i m C++kh i m D:=Zp ..
def iD(n:Nat):List AV:=[.hn,.hn,.hn,.hn,.int .i64 0,.int .i64 0,.int .i64 0,.hn,.hn,.hn,.hn,.hn,.bool false,.mp n,.mp (n+1)]
def lI(p:List Ap.Mod)(n:Nat):List AV:=[mods p,.hn,.hn,.hn,.int .i64 0,.int .i64 0,.int .i64 0,.hn,.hn,.hn,.hn,.hn,.bool false,.mp n,.mp (n+1)]
def hY(h:Hp)(a b c:List AV):Hp:=h++[a,b,c]
section
variable (h:Hp) (a b c:List AV)
theorem Li:(hY h a b c)[h.length]? = some a:=by simp[hY]
theorem RB:(hY h a b c)[h.length+1]? = some b:=by simp[hY]
theorem Hv:(hY h a b c)[h.length+2]? = some c:=by simp[hY]
theorem NZ(x:List AV):(hY h a b c).set h.length x=hY h x b c:=by simp[hY]
theorem N0(x:List AV):(hY h a b c).set (h.length+1) x=hY h a x c:=by simp[hY]
theorem N1(x:List AV):(hY h a b c).set (h.length+2) x=hY h a b x:=by simp[hY]
end
def Np(m:Ap.Mod):ct 9 m.av=ao (.agg (aa m.av)):=bc rfl
def Uy(c:Cod):ct 4 c.av=ao (.agg (aa c.av)):=bc rfl
theorem wO(a b:AV):dA (.tup [a,b]) 0=some a:=rfl
theorem wP(a b:AV):dA (.tup [a,b]) 1=some b:=rfl
theorem uF(h:Hp){p:List Ap.Mod}(hp:p.length<=20):∀B A:List Ap.Mod,A++B=p->
  (Jg A B=true->∃h',ak (L27_3 (af pg) ak) [mods p,.hp (h.length+2) 0,mods p,.int .i64 p.length,.int .i64 A.length] (hY h [.tup (bo A 0)] [.tup []] (iD h.length))= .ok (.tup [.nilp,.int .i64 5]) h')/\
  (Jg A B=false->ak (L27_3 (af pg) ak) [mods p,.hp (h.length+2) 0,mods p,.int .i64 p.length,.int .i64 A.length] (hY h [.tup (bo A 0)] [.tup []] (iD h.length))=
   ak (L27_2 (af pg) ak) [mods p,.hp (h.length+2) 0,mods p,.int .i64 p.length,.int .i64 0] (hY h [.tup (bo p 0)] [.tup []] (iD h.length)))
 |[],A,e=>by
  rw[X9]at e;subst e;refine⟨fun h=>(by cases h),fun _=>?_⟩;have h1:¬((A.length:Int)<(A.length:Int)):=Z5
  rw[FL27_3];simp_all[L27_3]
 | m:: B,A,e=>by
  have hlen:A.length+(B.length+1)=p.length:=by rw[<- e];simp
  have h1:(A.length:Int)<(p.length:Int):=Z5
  have hx:p[A.length]! = m:=by rw[XN p A.length Z5];simp[<- e]
  have hix:=Ax (p:=p) (k:=A.length) Z5;rw[hx]at hix;have hw:IntKind.i64.wrap ((A.length:Int)+1)=((A++[m]).length:Nat):=by rw[aW Z5 Z5];simp
  have g1:bg T 70 (.hp (h.length+2) (0+13)) (hY h [.tup (bo A 0)] [.tup []] (iD h.length))= .ok (.mp h.length) (hY h [.tup (bo A 0)] [.tup []] (iD h.length)):=bT rfl rfl (Hv ..) rfl;obtain⟨v,g2⟩:=FI (Li h [.tup (bo A 0)] [.tup []] (iD h.length)) m.name;have ih:=uF h hp B (A++[m]) Z7;have key:ak (L27_3 (af pg) ak) [mods p,.hp (h.length+2) 0,mods p,.int .i64 p.length,.int .i64 A.length] (hY h [.tup (bo A 0)] [.tup []] (iD h.length))=
    if(A.any fun x=>x.name== m.name)=true then .ok (.tup [.nilp,.int .i64 5]) (hY h [.tup (bo A 0)] [.tup []] (iD h.length))
    else ak (L27_3 (af pg) ak) [mods p,.hp (h.length+2) 0,mods p,.int .i64 p.length,.int .i64 (A++[m]).length] (hY h [.tup (bo (A++[m]) 0)] [.tup []] (iD h.length)):=by
   rw[FL27_3];simp -implicitDefEqProofs only[L27_3,am,au,aB,ae,ai,XI,XK h1,hix,Tu,Np,aj,aK,aJ,FH73_1,NL,N6];rw[ap g1,ap g2];simp -implicitDefEqProofs only[wO,wP,ae,ai];cases ha:A.any fun x=>x.name== m.name with
   |true=>
    rw[XK rfl,XK rfl];rfl
   |false=>
    have g3:=Kw (Li h [.tup (bo A 0)] [.tup []] (iD h.length)) m ha;rw[NZ]at g3;rw[XG Z6,XG Z6,ap g1,ap g3];simp_all
  rw[key,Jg]
  grind
theorem uG(H:Hp){p:List Ap.Mod}(hp:p.length<=20)(hL:∀m∈p,m.Lim)(a1:AV):∀B A:List Ap.Mod,A++B=p->
  ak (L27_2 (af pg) ak) [mods p,a1,mods p,.int .i64 p.length,.int .i64 A.length] H=
   if B.all ij=true then ak (L27_1 (af pg) ak) [mods p,a1,mods p,.int .i64 p.length,.int .i64 0] H else .ok (.tup [.nilp,.int .i64 1]) H
 |[],A,e=>by
  rw[X9]at e;subst e;have h1:¬((A.length:Int)<(A.length:Int)):=Z5
  rw[FL27_2];simp_all[L27_2]
 | m:: B,A,e=>by
  have hlen:A.length+(B.length+1)=p.length:=by rw[<- e];simp
  have h1:(A.length:Int)<(p.length:Int):=Z5
  have hx:p[A.length]! = m:=by rw[XN p A.length Z5];simp[<- e]
  have hm:m∈p:=by rw[<- e];simp
  have hix:=Ax (p:=p) (k:=A.length) Z5;rw[hx]at hix;have hw:IntKind.i64.wrap ((A.length:Int)+1)=((A++[m]).length:Nat):=by rw[aW Z5 Z5];simp
  have ih:=uG H hp hL a1 B (A++[m]) Z7;have r:=t68 m (hL m hm);rw[FL27_2];simp -implicitDefEqProofs only[L27_2,am,au,aB,ae,ai,XI,XK h1,hix,Tu,Np,aj,aK,r,aT,X7];cases hr:ij m with
  |false=>rfl
  |true=>
   simp_all
section
variable (f:Fun)
theorem Va:ah T 123 (.ip (aa f.av)) 1=some (.ip ((aa f.av).drop 1)):=rfl
theorem VP:ax T 4 (.ip ((aa f.av).drop 1))=some (.bool f.pub):=rfl
variable (m:Ap.Mod)
theorem Vd:ah T 53 (.ip (aa m.av)) 4=some (.ip ((aa m.av).drop 4)):=rfl
theorem VV:ax T 49 (.ip ((aa m.av).drop 4))=some (iP m.funcs):=rfl
end
def RU{l:List Fun}{k:Nat}(h:k<l.length):aA T 49 (iP l) (.int .i64 (k:Int))=some (.ip (aa (l[k]!).av)):=by
 grind [BE]
theorem Sa(c:Cod):ax T 91 (.ip (aa c.av))=some c.av:=rfl
theorem Uw(a:Int)(b:Bool)(c:Cod)(l:List Int):cH T false 93 [(0,.int .i64 a),(1,.bool b),(2,c.av),(3,ints l)]=some (Fnc.av ⟨a,b,c,l⟩):=rfl
theorem AL(h:Hp)(p:List Ap.Mod)(I:List AV)(V:List AV->M AV){m:Ap.Mod}(K:ModOk m)(hc:∀f∈m.funcs,dL 12 f.body<=1000){i:Nat}(hi:i<=20)(F:List Gp)(hF:F.find? (fun e=>e.1== m.name)=none)(x4:Int):∀D C:List Fun,C++D=m.funcs->
  ((D.all fun f=>(dq (dx m.vars f)).isSome)=true->ak (L27_0 (af pg) ak V) [mods p,.hp (h.length+2) 0,.int .i64 i,.ip (aa m.av),mods p,.int .i64 x4,.int .i64 i,yd (m.funcs.map (dx m.vars)),.int .i64 m.funcs.length,.int .i64 C.length] (hY h I [.tup (cu (F++kh i m C))] (iD h.length))=
   V [mods p,.hp (h.length+2) 0,mods p,.int .i64 x4,.int .i64 ((i+1:Nat):Int)] (hY h I [.tup (cu (F++kh i m m.funcs))] (iD h.length)))/\
  ((D.all fun f=>(dq (dx m.vars f)).isSome)=false->∃h',ak (L27_0 (af pg) ak V) [mods p,.hp (h.length+2) 0,.int .i64 i,.ip (aa m.av),mods p,.int .i64 x4,.int .i64 i,yd (m.funcs.map (dx m.vars)),.int .i64 m.funcs.length,.int .i64 C.length] (hY h I [.tup (cu (F++kh i m C))] (iD h.length))=
   .ok (.tup [.nilp,.int .i64 13]) h')
 |[],C,e=>by
  rw[X9]at e;subst e;refine⟨fun _=>?_,fun h=>(by cases h)⟩;have h1:¬((m.funcs.length:Int)<(m.funcs.length:Int)):=Z5
  have hw:IntKind.i64.wrap ((i:Int)+1)=((i+1:Nat):Int):=by rw[aW Z5 Z5];omega
  rw[FL27_0];simp_all[L27_0]
 | f :: D,C,e=>by
  have hfl:=K.flen;have hlen:C.length+(D.length+1)=m.funcs.length:=by rw[<- e];simp
  have h1:(C.length:Int)<(m.funcs.length:Int):=Z5
  have hx:m.funcs[C.length]! = f:=by rw[XN m.funcs C.length Z5];simp[<- e]
  have hf:f∈m.funcs:=by rw[<- e];simp
  have hy:(m.funcs.map (dx m.vars))[C.length]! = dx m.vars f:=by
   rw[XN _ C.length WD,ZX];congr 1;rw[<- hx,XN m.funcs C.length Z5]
  have ik:=W2 (l:=m.funcs.map (dx m.vars)) (n:=C.length) WD;rw[hy]at ik;have hix:=RU (l:=m.funcs) (k:=C.length) Z5;rw[hx]at hix;have hw:IntKind.i64.wrap ((C.length:Int)+1)=((C++[f]).length:Nat):=by rw[aW Z5 Z5];simp
  have FO:=K.fns f hf;have cb:=DI (vars:=m.vars) FO (hc f hf);have r:=t70 (dx m.vars f) cb.1 (GT FO).2;have ih:=AL h p I V K hc hi F hF x4 D (C++[f]) Z7;have g1:bg T 71 (.hp (h.length+2) (0+14)) (hY h I [.tup (cu (F++kh i m C))] (iD h.length))= .ok (.mp (h.length+1)) (hY h I [.tup (cu (F++kh i m C))] (iD h.length)):=bT rfl rfl (Hv ..) rfl;have hnf:(F++kh i m C).find? (kX m.name f.name)=none:=by
   rw[Zh];have e1:F.find? (kX m.name f.name)=none:=by
    rw[ZM]at hF |-;intro x hx
    have:=hF x hx
    unfold kX;simp only[XJ,not_and];intro h;exact absurd h this
   have e2:(kh i m C).find? (kX m.name f.name)=none:=by
    rw[lP,XK rfl];have:C.find? (fun g=>g.name== f.name)=none:=by
     rw[ZM];intro g hg;have hn:=K.fnames;rw[<- e,Zp,YA]at hn
     have:=(ZO.1 hn).2.2 g.name (Y5.2 ⟨g,hg,rfl⟩) f.name Z8
     simpa using this
    rw[this];rfl
   rw[e1,e2];rfl
  have g3:=Ox (RB h I [.tup (cu (F++kh i m C))] (iD h.length)) m.name f.name (yo i m f) hnf;rw[N0,Yz,show kh i m C++[(m.name,f.name,yo i m f)]=kh i m (C++[f]) by rw[Hi];rfl]at g3;rw[FL27_0,X7];simp -implicitDefEqProofs only[L27_0,am,au,aB,ae,ai,XI,XK h1,ik,Sa,Uy,aj,aK,r];cases hh:dq (dx m.vars f)with
  |none=>
   refine⟨fun h=>(by cases h),fun _=>⟨hY h I [.tup (cu (F++kh i m C))] (iD h.length),?_⟩⟩;have en:dA (OX none) 1=some (.bool false):=rfl;have en0:∃v,dA (OX none) 0=some v:=⟨_,rfl⟩;obtain⟨v,en0⟩:=en0;simp -implicitDefEqProofs only[en,en0,ae,aT,Yi,ai,XS];rfl
  |some hl=>
   have en:dA (OX (some hl)) 1=some (.bool true):=rfl;have en0:dA (OX (some hl)) 0=some (ints hl):=rfl;have ef:yo i m f=⟨i,f.pub,dx m.vars f,hl⟩:=by unfold yo;rw[hh];rfl
   rw[ef]at g3;have ef2:(dx m.vars f).func=f.name:=rfl;simp -implicitDefEqProofs only[en,en0,ae,aT,XZ,XH,XO,aJ,FH73_2,ZL,YN,ai];rw[ap g1];simp -implicitDefEqProofs only[NL,N6,fK0,VS,ef2,ww,Vd,VV,hix,Va,VP,Uw,ae];rw[ap g3];simp -implicitDefEqProofs only[bm,hw,ae];exact ih
def Wt(p:List Ap.Mod)(hp:p.length<=1000000):af pg 71 [mods p]=ao (mods p):=by
 have e:af pg 71 [mods p]=ew T 22 (af pg) [mods p]:=d7 hJ rfl _;rw[e]
 have:=lL (T:=T) (t:=22) (e:=53) rfl rfl rfl (f:=Mod.av) (fun m=>qg m) (a:=[]) (b:=p) Z7 Z6
 simp only[Ye]at this;show bS (dH T 22 (.sl (([]:List Ap.Mod).map Mod.av)) (.sl (p.map Mod.av)))=_;rw[this];rfl
theorem xf(h:Hp){p:List Ap.Mod}(hp:p.length<=20)(hL:∀m∈p,m.Lim)(hr:∀m∈p,ij m=true)(hc:∀m∈p,∀f∈m.funcs,dL 12 f.body<=1000)(hn:(p.map (·.name)).Nodup)(I:List AV):∀B A:List Ap.Mod,A++B=p->
  ((B.all fun m=>m.funcs.all fun f=>(dq (dx m.vars f)).isSome)=true->ak (L27_1 (af pg) ak) [mods p,.hp (h.length+2) 0,mods p,.int .i64 p.length,.int .i64 A.length] (hY h I [.tup (cu (aY 0 A))] (iD h.length))=
   .ok (.tup [.hp (h.length+2) 0,.int .i64 0]) (hY h I [.tup (cu (aY 0 p))] (lI p h.length)))/\
  ((B.all fun m=>m.funcs.all fun f=>(dq (dx m.vars f)).isSome)=false->∃h',ak (L27_1 (af pg) ak) [mods p,.hp (h.length+2) 0,mods p,.int .i64 p.length,.int .i64 A.length] (hY h I [.tup (cu (aY 0 A))] (iD h.length))=
   .ok (.tup [.nilp,.int .i64 13]) h')
 | [],A,e=>by
  rw[X9]at e;subst e;refine⟨fun _=>?_,fun h=>(by cases h)⟩;have h1:¬((A.length:Int)<(A.length:Int)):=Z5
  have s1:bN T 22 (.hp (h.length+2) (0+0+0)) (mods A) (hY h I [.tup (cu (aY 0 A))] (iD h.length))= .ok (.tup []) (hY h I [.tup (cu (aY 0 A))] (lI A h.length)):=by
   rw[bU (T:=T) (t:=22) rfl (Hv ..) rfl (by show (_:Nat)<=15;decide) Z6,N1];rfl
  rw[FL27_1];simp -implicitDefEqProofs only[L27_1,am,au,aB,ae,ai,XI,XG h1,Wt A Z5,aj,aJ,FH73_0,FH36_0];rw[ap s1];rfl
 | m :: B,A,e=>by
  have hlen:A.length+(B.length+1)=p.length:=by rw[<- e];simp
  have h1:(A.length:Int)<(p.length:Int):=Z5
  have hx:p[A.length]! = m:=by rw[XN p A.length Z5];simp[<- e]
  have hm:m∈p:=by rw[<- e];simp
  have hix:=Ax (p:=p) (k:=A.length) Z5;rw[hx]at hix;have r:=t69 m (hL m hm);rw[XK (hr m hm)]at r;have lk:=V7 (m.funcs.map (dx m.vars));rw[YM]at lk;have hF:(aY 0 A).find? (fun e=>e.1== m.name)=none:=by
   have key:∀(l:List Ap.Mod)(i:Nat),(∀x∈l,x.name≠m.name)->(aY i l).find? (fun e=>e.1== m.name)=none:=by
    intro l
    induction l with
    |nil=>intro i _;rfl
    | cons x l ih=>
     intro i hh;rw[aY,Zh,ih (i+1) fun y hy=>hh y (by simp[hy])];have:(kh i x x.funcs).find? (fun e=>e.1== m.name)=none:=by
      rw[ZM];intro e he;unfold kh at he;obtain⟨f,_,rfl⟩:=Y5.1 he;simpa using hh x Z8
     grind
   refine key A 0 fun x hx=>?_;rw[<- e,Zp,YA]at hn;exact (ZO.1 hn).2.2 x.name (Y5.2 ⟨x,hx,rfl⟩) m.name Z8
  have L0:=AL h p I (ak (L27_1 (af pg) ak)) (uJ (hr m hm)) (hc m hm) (i:=A.length) Z5 (aY 0 A) hF p.length m.funcs [] rfl;have ih:=xf h hp hL hr hc hn I B (A++[m]) Z7;have ea:aY 0 A++kh A.length m m.funcs=aY 0 (A++[m]):=by
   rw[rW,XX];simp[aY]
  have e0:aY 0 A++kh A.length m []=aY 0 A:=by simp[kh]
  rw[ea,e0,show ((A.length+1:Nat):Int)=((A++[m]).length:Nat) by simp]at L0;have key:ak (L27_1 (af pg) ak) [mods p,.hp (h.length+2) 0,mods p,.int .i64 p.length,.int .i64 A.length] (hY h I [.tup (cu (aY 0 A))] (iD h.length))=
    ak (L27_0 (af pg) ak (ak (L27_1 (af pg) ak))) [mods p,.hp (h.length+2) 0,.int .i64 A.length,.ip (aa m.av),mods p,.int .i64 p.length,.int .i64 A.length,yd (m.funcs.map (dx m.vars)),.int .i64 m.funcs.length,.int .i64 0] (hY h I [.tup (cu (aY 0 A))] (iD h.length)):=by
   rw[FL27_1];simp -implicitDefEqProofs only[L27_1,am,au,aB,ae,ai,XI,XK h1,hix,Tu,Np,aj,aK,r,lk]
  grind
theorem t27(h:Hp){p:List Ap.Mod}(hL:∀m∈p,m.Lim)(hc:∀m∈p,∀f∈m.funcs,dL 12 f.body<=1000):
  (jw p=0->af pg 27 [mods p] h= .ok (.tup [.hp (h.length+2) 0,.int .i64 0]) (hY h [.tup (bo p 0)] [.tup (cu (aY 0 p))] (lI p h.length)))/\
  (jw p≠0->∃h',af pg 27 [mods p] h= .ok (.tup [.nilp,.int .i64 (jw p)]) h'):=by
 unfold jw jR;by_cases h20:20<p.length
 ·rw[XK h20,XK Z6];refine⟨fun h=>(by cases h),fun _=>⟨h,?_⟩⟩;have h1:(20:Int)<(p.length:Int):=Z5
  rw[C27];simp -implicitDefEqProofs only[S27,p5,ae,dO,ai,XI,XK h1];rfl
 ·rw [XG h20];have hp:p.length<=20:=Z5
  have h1:¬((20:Int)<(p.length:Int)):=Z5
  have n1:ga h= .ok (.mp h.length) (h++[[.tup []]]):=rfl;have n2:ga (h++[[.tup []]])= .ok (.mp (h.length+1)) (h++[[.tup []]]++[[.tup []]]):=by
   show R.ok (AV.mp (h++[[AV.tup []]]).length) _=_;rw[X1];rfl
  have b1:cH T true 73 [(1,.mp h.length),(2,.mp (h.length+1))]=some (.agg (iD h.length)):=rfl;have n3:newH (iD h.length) (h++[[.tup []]]++[[.tup []]])= .ok (.hp (h.length+2) 0) (hY h [.tup []] [.tup []] (iD h.length)):=by
   have:newH (iD h.length) (h++[[.tup []]]++[[.tup []]])= .ok (.hp (h++[[AV.tup []]]++[[AV.tup []]]).length 0) ((h++[[.tup []]]++[[.tup []]])++[iD h.length]):=rfl;rw[this];simp[hY]
  have start:af pg 27 [mods p] h=ak (L27_3 (af pg) ak) [mods p,.hp (h.length+2) 0,mods p,.int .i64 p.length,.int .i64 0] (hY h [.tup []] [.tup []] (iD h.length)):=by
   rw[C27];simp -implicitDefEqProofs only[S27,p5,ae,dO,ai,XI,XG h1];rw[ap n1,ap n2,b1,ae,aK,ap n3]
  have Ln:=uF h hp p [] rfl;have e0:bo ([]:List Ap.Mod) 0=[]:=rfl;rw[e0]at Ln;rw[start,vB];cases ht:Jg [] p with
  |true=>
   grind
  | false=>
   rw[XG (show ¬(false:Bool)=true by decide),XG (show ¬(0:Int)≠0 by decide)];have L2:=Ln.2 ht;have L1:=uG (hY h [.tup (bo p 0)] [.tup []] (iD h.length)) hp hL (.hp (h.length+2) 0) p [] rfl;have L2':ak (L27_3 (af pg) ak) [mods p,.hp (h.length+2) 0,mods p,.int .i64 p.length,.int .i64 0] (hY h [.tup []] [.tup []] (iD h.length))=_:=L2.trans L1;rw[L2'];cases hr:p.all ij with
   |false=>
    grind
   | true=>
    rw[XG (show ¬(true:Bool)=false by decide),XK (show (true:Bool)=true from rfl)];have hn:(p.map (·.name)).Nodup:=sG (by rw[vB];exact ht);have L3:=xf h hp hL (XY.1 hr) hc hn [.tup (bo p 0)] p [] rfl;cases hh:p.all fun m=>m.funcs.all fun f=>(dq (dx m.vars f)).isSome with
    |false=>
     rw[XK (show (false:Bool)=false from rfl)];exact⟨fun h=>absurd h Z6,fun _=>L3.2 hh⟩
    |true=>
     rw[XG (show ¬(true:Bool)=false by decide)];exact⟨fun _=>L3.1 hh,fun h=>absurd rfl h⟩
def kG{x:AV}(h:ay x=true):fW x=ao x:=by unfold fW;rw[h];rfl
def Q6(l:List Int)(hp:l.length<=1000000):af pg 30 [ints l]=ao (ints l):=by
 have e:af pg 30 [ints l]=ew T 25 (af pg) [ints l]:=d7 hJ rfl _;rw[e]
 have:=Pk (a:=[]) (b:=l) WD
 simp only[Ye]at this;show bS (dH T 25 (ints []) (ints l))=_;rw[this];rfl
def TD(x:AV)(h:Hp):af pg 90 [x] h=cz T 24 (af pg) [x] h:=by
 have e:af pg 90 [x]=cz T 24 (af pg) [x]:=d7 hJ rfl _;rw[e]
def TE(x:AV)(h:Hp):af pg 91 [x] h=cz T 31 (af pg) [x] h:=by
 have e:af pg 91 [x]=cz T 31 (af pg) [x]:=d7 hJ rfl _;rw[e]
def TF(x:AV)(h:Hp):af pg 92 [x] h=cz T 32 (af pg) [x] h:=by
 have e:af pg 92 [x]=cz T 32 (af pg) [x]:=d7 hJ rfl _;rw[e]
def fM(l:List Frm):List AV:=l.flatMap fun f=>aa f.av
theorem rN(tag:Nat->Nat)(h:Hp):∀l:List Ap.Call,eX tag h l (l.flatMap fun c=>aa c.av)
 |[]=>rfl
 |c:: l=>⟨vals c.args,l.flatMap fun c=>aa c.av,rfl,.inl rfl,rN tag h l⟩
def Wq{tag:Nat->Nat}{h:Hp}{k:Nat}{l:List Val}{v:AV}(H:dm tag k h l v):bY 1 v=true/\aa v=[v]:=by
 rcases dm.shape H with rfl|rfl|⟨r,rfl⟩<;>exact⟨rfl,rfl⟩
theorem sf{fr:List Frm}{r:Nat}(Q:(Nat->Nat)->Hp->Prop)(hQ:∀ {tag tag':Nat->Nat} {h h':Hp} {ks:Nat->Prop},Kp tag tag' ks h h'->(∀k,ks k->k=7)->Q tag h->Q tag' h')(hn:fr.length<=1000000)(hv:∀f∈fr,f.locals.length<=1000000/\f.stack.length<=1000000)(a2 a3 a5 a6 a7 a8 a9 a10 a11 a12 a13 a14 a15 a16 a17 a18 a19 a20 a21 a22 a23 a24 a25 a26 a27:AV):∀(B A:List Frm)(tag:Nat->Nat)(h:Hp)(cs:List AV),A++B=fr->Q tag h->tag r=7->h[r]? = some (cs++fM B)->ep tag h 0 A cs->
  ∃ h' tag' cs',ak (L40_0 (af pg) ak) [.int .i64 fr.length,.int .i64 A.length,a2,a3,.hs r 0 fr.length 5 true,a5,a6,a7,a8,a9,a10,a11,a12,a13,a14,a15,a16,a17,a18,a19,a20,a21,a22,a23,a24,a25,a26,a27] h=
    ak (L40_0 (af pg) ak) [.int .i64 fr.length,.int .i64 fr.length,a2,a3,.hs r 0 fr.length 5 true,a5,a6,a7,a8,a9,a10,a11,a12,a13,a14,a15,a16,a17,a18,a19,a20,a21,a22,a23,a24,a25,a26,a27] h'/\
   Q tag' h'/\tag' r=7/\h'[r]? = some cs'/\ep tag' h' 0 fr cs'
 |[],A,tag,h,cs,e,H,ht,hr,HF=>by
  rw[X9]at e;subst e;refine⟨h,tag,cs,rfl,H,ht,?_,HF⟩;rw[hr];simp[fM]
 | f:: B,A,tag,h,cs,e,H,ht,hr,HF=>by
  have hlen:A.length+(B.length+1)=fr.length:=by rw[<- e];simp
  have h1:(A.length:Int)<(fr.length:Int):=Z5
  have hf:f∈fr:=by rw[<- e];simp
  have hcl:=HF.len;have hix:aA T 24 (.hs r 0 fr.length 5 true) (.int .i64 (A.length:Int))=some (.hp r (0+A.length*5)):=by
   show (if(0:Int)<=(A.length:Int)/\(A.length:Int)<((fr.length:Nat):Int)then some (AV.hp r (0+(A.length:Int).toNat*5))else none)=_;rw[XK Z5];simp
  have hrow:h[r]? = some (cs++iR f (vals f.locals) (vals f.stack)++fM B):=by rw[hr,Yz];rfl
  have g1:bg T 28 (.hp r (0+A.length*5+3)) h= .ok (vals f.locals) h:=bT rfl rfl hrow (by
   rw[Yz,Yj Z5,show 0+A.length*5+3-cs.length=3 by omega];rfl)
  have g2:bg T 28 (.hp r (0+A.length*5+4)) h= .ok (vals f.stack) h:=bT rfl rfl hrow (by
   rw[Yz,Yj Z5,show 0+A.length*5+4-cs.length=4 by omega];rfl)
  obtain⟨h2,tag2,lv,e2,K2,V2⟩:=mA (T:=T) (t:=28) (e:=30) rfl rfl rfl rfl rfl Z6 (af pg) tag h f.locals (X4 (XR _ (hv f hf).1) Z6) (11+3*A.length);obtain⟨h3,tag3,sv,e3,K3,V3⟩:=mA (T:=T) (t:=28) (e:=30) rfl rfl rfl rfl rfl Z6 (af pg) tag2 h2 f.stack (X4 (XR _ (hv f hf).2) Z6) (12+3*A.length);have K23:=K2.trans K3;have r3:=K23 _ _ hrow Z7;have t3:tag3 r=7:=r3.2.trans ht;have o2:=Wq V2;have o3:=Wq V3;have hl0:0+A.length*5=cs.length:=Z5
  have s1:bN T 28 (.hp r (0+A.length*5+3)) lv h3= .ok (.tup []) (h3.set r (cs++iR f lv (vals f.stack)++fM B)):=by
   rw[bU (T:=T) (t:=28) rfl r3.1 o2.1 (by rw[Yz,X1,X1];show 0+A.length*5+3+1<=cs.length+(5+_);omega) Z6,hl0,set_mid (D:=iR f lv (vals f.stack)) (by show 3<5;decide) rfl (by rw[o2.2];rfl) o2.2]
  have k4:(h3.set r (cs++iR f lv (vals f.stack)++fM B))[r]? = some (cs++iR f lv (vals f.stack)++fM B):=Yg (XQ.1 r3.1).1;have s2:bN T 28 (.hp r (0+A.length*5+4)) sv (h3.set r (cs++iR f lv (vals f.stack)++fM B))= .ok (.tup []) ((h3.set r (cs++iR f lv (vals f.stack)++fM B)).set r (cs++iR f lv sv++fM B)):=by
   rw[bU (T:=T) (t:=28) rfl k4 o3.1 (by rw[Yz,X1,X1];show 0+A.length*5+4+1<=cs.length+(5+_);omega) Z6,hl0,set_mid (D:=iR f lv sv) (by show 4<5;decide) rfl (by rw[o3.2];rfl) o3.2]
  rw[List.set_set]at s2;have K4:Kp tag3 tag3 (fun k=>k=7) h3 (h3.set r (cs++iR f lv sv++fM B)):=Xr t3 _;have K:=K23.trans K4;have H4:=hQ (K.mono (js:=fun k=>k=7) fun k hk=>hk.elim (fun h=>h.elim False.elim False.elim) id) (fun k hk=>hk) H;have F4:ep tag3 (h3.set r (cs++iR f lv sv++fM B)) 0 A cs:=HF.keep K fun j _ _=>
   ⟨fun hh=>hh.elim (fun h=>h.elim id id) fun h=>Z5,fun hh=>hh.elim (fun h=>h.elim id id) fun h=>Z5⟩
  have F5:=F4.snoc (f:=f) (by rw[XX];exact (V2.keep K3 id).keep K4 Z5) (by rw[XX];exact V3.keep K4 Z5);have r5:(h3.set r (cs++iR f lv sv++fM B))[r]? = some ((cs++iR f lv sv)++fM B):=Yg (XQ.1 r3.1).1;have hw1:IntKind.i64.wrap ((A.length:Int)+1)=((A++[f]).length:Nat):=by rw[aW Z5 Z5];simp
  obtain⟨h',tag',cs',k1,k2,k3,k5,k6⟩:=sf Q hQ hn hv a2 a3 a5 a6 a7 a8 a9 a10 a11 a12 a13 a14 a15 a16 a17 a18 a19 a20 a21 a22 a23 a24 a25 a26 a27 B (A++[f]) tag3 _ (cs++iR f lv sv) Z7 H4 t3 r5 F5;refine⟨h',tag',cs',?_,k2,k3,k5,k6⟩;rw[<- k1,FL40_0];simp -implicitDefEqProofs only[L40_0,am,au,aB,ae,ai,XI,XK h1,hix,aJ,FH44_3,FH44_4];rw[ap g1,ap g2,ap ((xN _ h).trans e2),ap ((xN _ h2).trans e3),ap s1,ap s2];simp_all
structure ClB (p:Proc):Prop where
 mods:p.mods.length<=1000000
 state:p.state.length<=1000000/\∀w∈p.state,w.values.length<=1000000
 frames:p.frames.length<=1000000/\∀f∈p.frames,f.locals.length<=1000000/\f.stack.length<=1000000
 world:p.world.length<=1000000
 deeds:p.out.deeds.length<=1000000
 calls:p.out.calls.length<=1000000
 ostate:p.out.state.length<=1000000/\∀w∈p.out.state,w.values.length<=1000000
structure MC (tag:Nat->Nat) (sv fv dv cv ov:AV) (p:Proc) (h:Hp):Prop where
 st:gb tag 5 2 p.state.length (fun cs=>oA tag h 0 p.state cs) sv h
 fr:gb tag 7 5 p.frames.length (fun cs=>ep tag h 0 p.frames cs) fv h
 ds:gb tag 2 3 p.out.deeds.length (fun cs=>cs=cR p.out.deeds) dv h
 cs:gb tag 3 3 p.out.calls.length (fun cs=>eX tag h p.out.calls cs) cv h
 os:gb tag 9 2 p.out.state.length (fun cs=>vI tag h p.out.state cs) ov h
 oz:p.out.state=[]->ov= .hn
def sL(p:Proc)(sv fv dv cv ov:AV):List AV:=[mods p.mods,sv,fv,ints p.world,.int .i64 p.out.err,.int .i64 p.out.value.kind,.int .i64 p.out.value.n,strs p.out.value.names,vals p.out.value.values,dv,cv,ov,.bool p.ended]
def ye{tag:Nat->Nat}{sv fv dv cv ov:AV}{p:Proc}{h:Hp}(H:MC tag sv fv dv cv ov p h):bY 13 (.agg (sL p sv fv dv cv ov))=true:=by
 show (_&&(ay (mods p.mods)&&(ay sv&&(ay fv&&(ay (ints p.world)&&(ay (.int .i64 p.out.err)&&(ay (.int .i64 p.out.value.kind)&&(ay (.int .i64 p.out.value.n)&&(ay (strs p.out.value.names)&&(ay (vals p.out.value.values)&&(ay dv&&(ay cv&&(ay ov&&(ay (.bool p.ended)&&true))))))))))))))=true;rw[H.st.okC,H.fr.okC,H.ds.okC,H.cs.okC,H.os.okC];rfl
theorem t40(p:Proc)(hb:ClB p)(tag:Nat->Nat)(h:Hp):
  ∃h' tag' sv fv dv cv ov,af pg 40 [p.av] h= .ok (.agg (sL p sv fv dv cv ov)) h'/\Kp tag tag' (fun k=>2<=k) h h'/\MC tag' sv fv dv cv ov p h':=by
 have c0:ct 13 p.av=ao (.agg p.cells):=bc rfl;have mono:∀ {tag tag2 tag3:Nat->Nat} {h h2 h3:Hp} {ks:Nat->Prop},Kp tag tag2 (fun k=>2<=k) h h2->Kp tag2 tag3 ks h2 h3->(∀k,ks k->2<=k)->Kp tag tag3 (fun k=>2<=k) h h3:=fun K1 K2 hk=>(K1.trans K2).mono fun k h=>h.elim id (hk k)
 -- the state
 obtain⟨h1,tag1,sv,e1,K1,S1,_⟩:=DJ (st:=p.state) (fun i=>10+3*i) 5 (fun j=>Z5) (fun tag2 h2=>Kp tag tag2 (fun k=>2<=k) h h2) (fun K hk H=>mono H K fun k h=>Z7) (fun r cs hr _=>⟨hr,rfl⟩) hb.state.1 hb.state.2;have T1:=S1.mono (c':=fun cs=>oA tag1 h1 0 p.state cs) fun cs h=>h.st
 -- the frames
 have hfl:(p.frames.map Frm.av).length=p.frames.length:=YM _;obtain⟨h2,tag2,fv,e2,K2,S2,sh⟩:=tB (T:=T) (t:=24) (e:=44) (sz:=5) rfl rfl rfl rfl Z6 rfl Z6 (af pg) tag1 h1 (p.frames.map Frm.av) (eU (fun f=>rfl) _) (by rw[hfl];exact X4 (XR _ hb.frames.1) Z6) 7;have e2':af pg 90 [gT p.frames] h1= .ok fv h2:=(TD _ h1).trans e2;have hcells:(p.frames.map Frm.av).flatMap aa=fM p.frames:=by rw[List.flatMap_map];rfl
 rw[hfl,hcells]at S2 sh;have K12:=mono K1 K2 fun k h=>h.elim;have T2:gb tag2 5 2 p.state.length (fun cs=>oA tag2 h2 0 p.state cs) sv h2:=T1.keep K2 id fun _ h=>h.keep K2 fun _=>id;have hln:bu T 24 fv=some (.int .i64 p.frames.length):=by
  rcases sh with⟨rfl,h0⟩|⟨rfl,_⟩
  ·have:p.frames=[]:=by simpa using h0
   rw[this];rfl
  ·rfl
 -- the loop
 have loop:∀(a2 a3 a5 a6 a7 a8 a9 a10 a11 a12 a13 a14 a15 a16 a17 a18 a19 a20 a21 a22 a23 a24 a25 a26 a27:AV),∃h3 tag3,ak (L40_0 (af pg) ak) [.int .i64 p.frames.length,.int .i64 0,a2,a3,fv,a5,a6,a7,a8,a9,a10,a11,a12,a13,a14,a15,a16,a17,a18,a19,a20,a21,a22,a23,a24,a25,a26,a27] h2=
    ak (L40_0 (af pg) ak) [.int .i64 p.frames.length,.int .i64 p.frames.length,a2,a3,fv,a5,a6,a7,a8,a9,a10,a11,a12,a13,a14,a15,a16,a17,a18,a19,a20,a21,a22,a23,a24,a25,a26,a27] h3/\
   Kp tag tag3 (fun k=>2<=k) h h3/\gb tag3 5 2 p.state.length (fun cs=>oA tag3 h3 0 p.state cs) sv h3/\gb tag3 7 5 p.frames.length (fun cs=>ep tag3 h3 0 p.frames cs) fv h3:=by
  intro a2 a3 a5 a6 a7 a8 a9 a10 a11 a12 a13 a14 a15 a16 a17 a18 a19 a20 a21 a22 a23 a24 a25 a26 a27;by_cases h0:p.frames=[]
  ·rw[h0];have hfv:fv= .he:=by
    rcases sh with⟨h,_⟩|⟨h,hh⟩
    ·exact h
    ·rcases S2 with⟨_,hv,_⟩|⟨r,cs,rest,_,_,hcs,hne,hl,_,hc⟩
     all_goals grind
   exact⟨h2,tag2,rfl,K12,T2,.inl ⟨rfl,.inr hfv,rfl⟩⟩
  ·have hpos:0<p.frames.length:=YE.2 h0;rcases S2 with⟨hz,_⟩|⟨r,cs,rest,rfl,ht,hr,hne,hl,hok,rfl⟩
   ·omega
   ·rcases sh with⟨h,_⟩|⟨h,hh⟩
    ·cases h
    ·cases h;have hr2:h2[h1.length]? = some ([]++fM p.frames):=by rw[hh];simp
     obtain⟨h3,tag3,cs',k1,k2,k3,k4,k5⟩:=sf (fr:=p.frames) (r:=h1.length) (fun tag3 h3=>Kp tag tag3 (fun k=>2<=k) h h3/\gb tag3 5 2 p.state.length (fun cs=>oA tag3 h3 0 p.state cs) sv h3)
      (fun K hk H=>⟨mono H.1 K fun k h=>Z7,H.2.keep K (fun h=>Z7) fun _ h=>h.keep K fun j hh=>Z7⟩) hb.frames.1 hb.frames.2 a2 a3 a5 a6 a7 a8 a9 a10 a11 a12 a13 a14 a15 a16 a17 a18 a19 a20 a21 a22 a23 a24 a25 a26 a27
      p.frames [] tag2 h2 [] rfl ⟨K12,T2⟩ ht hr2 rfl
     refine⟨h3,tag3,k1,k2.1,k2.2,.inr ⟨h1.length,cs',[],rfl,k3,Z7,?_,k5.len,by rw[X9];exact k5.ok,k5⟩⟩;intro hh
     have:=Ym List.length hh
     rw[X9,k5.len]at this
     grind
 obtain⟨h3,tag3,e3,K3,T3,F3⟩:=loop (mods p.mods) sv (ints p.world) (.int .i64 p.out.err) (.int .i64 p.out.value.kind) (.int .i64 p.out.value.n) (strs p.out.value.names) (vals p.out.value.values) (deeds p.out.deeds) (calls p.out.calls) (bn p.out.state) (.bool p.ended) (.sl []) (.sl []) (.sl []) (.sl []) (.int .i64 0) (.int .i64 0) (.int .i64 0) (.sl []) (.sl []) (.sl []) (.sl []) (.sl []) (.bool false)
 -- deeds and calls
 have hdl:(p.out.deeds.map Deed.av).length=p.out.deeds.length:=YM _;obtain⟨h4,tag4,dv,e4,K4,S4,_⟩:=tB (T:=T) (t:=31) (e:=102) (sz:=3) rfl rfl rfl rfl Z6 rfl Z6 (af pg) tag3 h3 (p.out.deeds.map Deed.av) (eU (fun f=>rfl) _) (by rw[hdl];exact X4 (XR _ hb.deeds) Z6) 2;have e4':af pg 91 [deeds p.out.deeds] h3= .ok dv h4:=(TE _ h3).trans e4;rw[hdl]at S4;have hxl:(p.out.calls.map Ap.Call.av).length=p.out.calls.length:=YM _;obtain⟨h5,tag5,cv,e5,K5,S5,_⟩:=tB (T:=T) (t:=32) (e:=65) (sz:=3) rfl rfl rfl rfl Z6 rfl Z6 (af pg) tag4 h4 (p.out.calls.map Ap.Call.av) (eU (fun f=>rfl) _) (by rw[hxl];exact X4 (XR _ hb.calls) Z6) 3;have e5':af pg 92 [calls p.out.calls] h4= .ok cv h5:=(TF _ h4).trans e5;rw[hxl]at S5;have K45:=K4.trans K5;have z45:¬(False\/False):=fun h=>h.elim id id;have T5:gb tag5 5 2 p.state.length (fun cs=>oA tag5 h5 0 p.state cs) sv h5:=T3.keep K45 z45 fun _ h=>h.keep K45 fun _=>z45;have F5:gb tag5 7 5 p.frames.length (fun cs=>ep tag5 h5 0 p.frames cs) fv h5:=F3.keep K45 z45 fun _ h=>h.keep K45 fun _ _ _=>⟨z45,z45⟩;have D5:gb tag5 2 3 p.out.deeds.length (fun cs=>cs=cR p.out.deeds) dv h5:=(S4.mono (c':=fun cs=>cs=cR p.out.deeds) fun cs h=>by rw[h,List.flatMap_map];rfl).keep K5 id fun _ h=>h;have X5:gb tag5 3 3 p.out.calls.length (fun cs=>eX tag5 h5 p.out.calls cs) cv h5:=S5.mono fun cs h=>by
  grind [List.flatMap_map,rN]
 have K35:=mono K3 K45 fun k h=>(z45 h).elim
 -- the state of the outcome
 obtain⟨h6,tag6,ov,e6,⟨K6,T6,F6,D6,X6⟩,S6,z6⟩:=DJ (st:=p.out.state) (fun _=>8) 9 (fun j=>Z5) (fun tag2 h2=>Kp tag tag2 (fun k=>2<=k) h h2/\gb tag2 5 2 p.state.length (fun cs=>oA tag2 h2 0 p.state cs) sv h2/\gb tag2 7 5 p.frames.length (fun cs=>ep tag2 h2 0 p.frames cs) fv h2/\
   gb tag2 2 3 p.out.deeds.length (fun cs=>cs=cR p.out.deeds) dv h2/\gb tag2 3 3 p.out.calls.length (fun cs=>eX tag2 h2 p.out.calls cs) cv h2) (fun K hk H=>by
   have n:∀k,k≠9->¬_:=fun k h1 hh=>h1 (hk k hh);exact⟨mono H.1 K fun k h=>Z7,H.2.1.keep K (n _ Z5) fun _ h=>h.keep K fun j=>n _ Z5,H.2.2.1.keep K (n _ Z5) fun _ h=>h.keep K fun j _ _=>⟨n _ Z5,n _ Z5⟩,H.2.2.2.1.keep K (n _ Z5) fun _ h=>h,H.2.2.2.2.keep K (n _ Z5) fun _ h=>h.keep K (n _ Z5)⟩)
   ⟨K35,T5,F5,D5,X5⟩ hb.ostate.1 hb.ostate.2
 have M6:MC tag6 sv fv dv cv ov p h6:=⟨T6,F6,D6,X6,S6.mono fun cs h=>h.vs,z6⟩;have hrow:bH 13 [] (.agg (sL p sv fv dv cv ov))=ao (.agg (sL p sv fv dv cv ov)):=by
  rw[gh (ye M6)];rfl
 unfold sL at hrow;refine⟨h6,tag6,sv,fv,dv,cv,ov,?_,K6,M6⟩;rw[C40];have p0':ab p.cells 0=mods p.mods:=rfl;have p1':ab p.cells 1=bn p.state:=rfl;have p2':ab p.cells 2=gT p.frames:=rfl;have p3':ab p.cells 3=ints p.world:=rfl;have p4':ab p.cells 4= .int .i64 p.out.err:=rfl;have p5':ab p.cells 5= .int .i64 p.out.value.kind:=rfl;have p6':ab p.cells 6= .int .i64 p.out.value.n:=rfl;have p7':ab p.cells 7=strs p.out.value.names:=rfl;have p8':ab p.cells 8=vals p.out.value.values:=rfl;have p9':ab p.cells 9=deeds p.out.deeds:=rfl;have p10':ab p.cells 10=calls p.out.calls:=rfl;have p11':ab p.cells 11=bn p.out.state:=rfl;have p12':ab p.cells 12= .bool p.ended:=rfl;have k1:fW (mods p.mods)=ao (mods p.mods):=kG rfl;have k2:fW (ints p.world)=ao (ints p.world):=kG rfl;simp -implicitDefEqProofs only[S40,c0,aj,aK,p0',p1',p2',p3',p4',p5',p6',p7',p8',p9',p10',p11',p12',Wt p.mods hb.mods,k1];rw[ap e1,kG T1.okC,aj,Q6 p.world hb.world,aj,k2,aj,ap e2',kG (show ay fv=true by rcases sh with⟨rfl,_⟩|⟨rfl,_⟩<;>rfl),aj,hln,ae,e3,FL40_0];have hx:¬((p.frames.length:Int)<(p.frames.length:Int)):=Z5
 simp -implicitDefEqProofs only[L40_0,am,au,aB,ae,ai,XI,XG hx];rw[ap e4',ap e5',ap e6,kG M6.ds.okC,aj,kG M6.cs.okC,aj,kG M6.os.okC,aj,hrow,aj];rfl
section
variable (p:Proc)
theorem Fl:ah T 36 (.ip (aa p.av)) 0=some (.ip ((aa p.av).drop 0)):=rfl
theorem Fo:ah T 36 (.ip (aa p.av)) 1=some (.ip ((aa p.av).drop 1)):=rfl
theorem vR:ah T 36 (.ip (aa p.av)) 2=some (.ip ((aa p.av).drop 2)):=rfl
theorem Cp:ah T 36 (.ip (aa p.av)) 4=some (.ip ((aa p.av).drop 4)):=rfl
theorem Ha:ah T 36 (.ip (aa p.av)) 5=some (.ip ((aa p.av).drop 12)):=rfl
theorem FE:ax T 22 (.ip ((aa p.av).drop 0))=some (mods p.mods):=rfl
theorem FF:ax T 23 (.ip ((aa p.av).drop 1))=some (bn p.state):=rfl
theorem vW:ax T 24 (.ip ((aa p.av).drop 2))=some (gT p.frames):=rfl
theorem J3:ax T 4 (.ip ((aa p.av).drop 12))=some (.bool p.ended):=rfl
theorem AB:ax T 36 (.ip (aa p.av))=some p.av:=rfl
theorem Vi:ah T 34 (.ip ((aa p.av).drop 4)) 0=some (.ip ((aa p.av).drop 4)):=rfl
theorem NN:ah T 34 (.ip ((aa p.av).drop 4)) 1=some (.ip ((aa p.av).drop 5)):=rfl
theorem NP:ah T 34 (.ip ((aa p.av).drop 4)) 4=some (.ip ((aa p.av).drop 11)):=rfl
theorem V0:ax T 26 (.ip ((aa p.av).drop 4))=some (.int .i64 p.out.err):=rfl
theorem Sf:ax T 30 (.ip ((aa p.av).drop 5))=some p.out.value.av:=by
 show some (AV.agg [.int .i64 p.out.value.kind,.int .i64 p.out.value.n,strs p.out.value.names,vals p.out.value.values])=_;rw[Hj]
theorem N9:ax T 23 (.ip ((aa p.av).drop 11))=some (bn p.out.state):=rfl
end
def Uz(v:Val):ct 4 v.av=ao (.agg [.int .i64 v.kind,.int .i64 v.n,strs v.names,vals v.values]):=Z9
section
variable (k n:Int) (ns:List ba) (vs:List Val)
theorem Rl:ah T 30 (.ip [.int .i64 k,.int .i64 n,strs ns,vals vs]) 0=some (.ip [.int .i64 k,.int .i64 n,strs ns,vals vs]):=rfl
theorem Rm:ah T 30 (.ip [.int .i64 k,.int .i64 n,strs ns,vals vs]) 1=some (.ip [.int .i64 n,strs ns,vals vs]):=rfl
theorem Rn:ah T 30 (.ip [.int .i64 k,.int .i64 n,strs ns,vals vs]) 2=some (.ip [strs ns,vals vs]):=rfl
theorem Ro:ah T 30 (.ip [.int .i64 k,.int .i64 n,strs ns,vals vs]) 3=some (.ip [vals vs]):=rfl
theorem Si:ax T 3 (.ip [.int .i64 k,.int .i64 n,strs ns,vals vs])=some (.int .i64 k):=rfl
theorem Sj:ax T 3 (.ip [.int .i64 n,strs ns,vals vs])=some (.int .i64 n):=rfl
theorem Sk:ax T 27 (.ip [strs ns,vals vs])=some (strs ns):=rfl
theorem Sl:ax T 28 (.ip [vals vs])=some (vals vs):=rfl
end
def MC.keep{tag tag':Nat->Nat}{ks:Nat->Prop}{sv fv dv cv ov:AV}{p:Proc}{h h':Hp}(H:MC tag sv fv dv cv ov p h)(K:Kp tag tag' ks h h')(hk:∀k,ks k->k<=1):MC tag' sv fv dv cv ov p h':=by
 have n:∀k,2<=k->¬ks k:=fun k h1 hh=>Z7
 exact⟨H.st.keep K (n _ Z5) fun _ h=>h.keep K fun j=>n _ Z5,H.fr.keep K (n _ Z5) fun _ h=>h.keep K fun j _ _=>⟨n _ Z5,n _ Z5⟩,H.ds.keep K (n _ Z5) fun _ h=>h,
  H.cs.keep K (n _ Z5) fun _ h=>h.keep K (n _ Z5),H.os.keep K (n _ Z5) fun _ h=>h.keep K (n _ Z5),H.oz⟩
structure OpR (L:MLay) (p:Proc) (h:Hp):Prop where
 ex:∃tag sv fv dv cv ov,MC tag sv fv dv cv ov p h/\h[L.rm]? = some (sL p sv fv dv cv ov++[.mp L.ri,.mp L.rf])/\tag L.rm=0/\(h[L.ri]? = some L.ci/\tag L.ri=1)/\h[L.rf]? = some L.cf/\tag L.rf=1
theorem OpR.pr{L:MLay}{p:Proc}{h:Hp}(H:OpR L p h):∃row,PR L p h row:=by
 obtain⟨tag,sv,fv,dv,cv,ov,M1,hr,_⟩:=H.ex;have c1:=pJ (d:=4) M1.st;have c2:=wJ (d:=4) M1.fr;have c3:=qL (d:=4) M1.ds;have c4:=qK (d:=4) M1.cs;have c5:=Le (d:=4) M1.os;have ht:(sL p sv fv dv cv ov++[AV.mp L.ri,.mp L.rf]).take 13=sL p sv fv dv cv ov:=rfl;refine⟨_,hr,rfl,Z7,?_,?_⟩
 ·rw[ht]
  have:=ye M1
  simp_all[bY]
 ·rw[ht,gn];simp only[sL,cl,fk,lh,nX,my,ke,c1,c2,c3,c4,c5];rfl
def OpR.mr{L:MLay}{p:Proc}{h:Hp}(H:OpR L p h)(ho:p.out.state=[]):vK L p h:=by
 obtain⟨tag,sv,fv,dv,cv,ov,M1,hr,hm,hi,hf,tf⟩:=H.ex;have hov:=M1.oz ho;subst hov;refine⟨tag,sv,fv,dv,cv,aa p.out.value.av,?_,hm,hi.1,hi.2,hf,tf,M1.st,M1.fr,M1.ds,M1.cs,.inl rfl,ho⟩;rw[hr,bQ];rfl
structure OpB (p:Proc):Prop where
 cl:ClB p
 lim:∀m∈p.mods,m.Lim
 cnt:∀m∈p.mods,∀f∈m.funcs,dL 12 f.body<=1000
 vlen:∀m∈p.mods,m.vars.length<=4611686018427387904
 st:∀w∈p.state,∀v∈w.values,v.sz<=4611686018427387904
 fr:∀f∈p.frames,(∀v∈f.locals,v.sz<=4611686018427387904)/\∀v∈f.stack,v.sz<=4611686018427387904
 val:p.out.value.names.length<=1000000/\p.out.value.values.length<=140737488355328
def p7{p:List Ap.Mod}(h:jw p=0)(hc:∀m∈p,∀f∈m.funcs,dL 12 f.body<=1000):PBd p/\(p.map (·.name)).Nodup/\D4 p/\∀m∈p,ij m=true:=by
 unfold jw jR at h;by_cases h20:20<p.length
 ·grind
 rw[XG h20]at h;cases ht:vA p with
 |true=>grind
 | false=>
  rw[ht,XG (show ¬(false:Bool)=true by decide),XG (show ¬(0:Int)≠0 by decide)]at h;cases hr:p.all ij with
  |false=>grind
  | true=>
   rw[hr,XG (show ¬(true:Bool)=false by decide)]at h;cases hh:p.all fun m=>m.funcs.all fun f=>(dq (dx m.vars f)).isSome with
   |false=>grind
   |true=>
    have hr':=XY.1 hr;refine⟨Ow Z5 hr' hc,sG ht,fun m hm f hf=>?_,hr'⟩
    grind
theorem xg{L:MLay}{p:Proc}{h:Hp}{row:List AV}(hr:h[L.rm]? = some row)(h14:row[14]? = some (.mp L.rf))(hf:h[L.rf]? = some L.cf)(MO:MapOk T 70 71 L p.mods)(P:PBd p.mods)(hb:OpB p):∀B A:List Frm,A++B=p.frames->
  ak (L19_0 (af pg) ak) [.ip (aa p.av),.hp L.rm 0,gT p.frames,.int .i64 p.frames.length,.int .i64 A.length] h=
   if eu p.mods B none=true then ak (L19_0 (af pg) ak) [.ip (aa p.av),.hp L.rm 0,gT p.frames,.int .i64 p.frames.length,.int .i64 p.frames.length] h else .ok (.tup [.nilp,.bool false]) h
 |[],A,e=>by
  rw[X9]at e;subst e;rw[XK (by rfl)]
 | f:: B,A,e=>by
  have hlen:A.length+(B.length+1)=p.frames.length:=by rw[<- e];simp
  have hle:=hb.cl.frames.1;have h1:(A.length:Int)<(p.frames.length:Int):=Z5
  have hfm:f∈p.frames:=by rw[<- e];simp
  have hx:p.frames[A.length]! = f:=by rw[XN p.frames A.length Z5];simp[<- e]
  have hix:=Aw (p:=p.frames) (k:=A.length) Z5;rw[hx]at hix;have hw:IntKind.i64.wrap ((A.length:Int)+1)=((A++[f]).length:Nat):=by rw[aW Z5 Z5];simp
  have ih:=xg hr h14 hf MO P hb B (A++[f]) Z7;have cf:ct 5 f.av=ao (.agg (aa f.av)):=bc rfl;have bl:=hb.cl.frames.2 f hfm;have bz:=hb.fr f hfm;have g:=t39 hr h14 hf MO P f (B.head?.or none) ⟨Z5,bz.1⟩ ⟨Z5,bz.2⟩;have hk:K19_0 (af pg) ak (ak (L19_0 (af pg) ak)) [.ip (aa p.av),.hp L.rm 0,.ip (aa f.av),nJ (B.head?.or none),gT p.frames,.int .i64 p.frames.length,.int .i64 A.length] h=
    if i7 p.mods f (B.head?.or none)=true then ak (L19_0 (af pg) ak) [.ip (aa p.av),.hp L.rm 0,gT p.frames,.int .i64 p.frames.length,.int .i64 (A++[f]).length] h else .ok (.tup [.nilp,.bool false]) h:=by
   rw[K19_0];simp -implicitDefEqProofs only[am,au,VO,ae];rw[ap g];simp -implicitDefEqProofs only[aT,ae,ai];cases i7 p.mods f (B.head?.or none)with
   |false=>rfl
   |true=>simp_all
  have start:ak (L19_0 (af pg) ak) [.ip (aa p.av),.hp L.rm 0,gT p.frames,.int .i64 p.frames.length,.int .i64 A.length] h=
    K19_0 (af pg) ak (ak (L19_0 (af pg) ak)) [.ip (aa p.av),.hp L.rm 0,.ip (aa f.av),nJ (B.head?.or none),gT p.frames,.int .i64 p.frames.length,.int .i64 A.length] h:=by
   rw[FL19_0];simp -implicitDefEqProofs only[L19_0,am,au,aB,ae,ai,XI,XK h1,hix,VO,cf,aj,aK,jn,bm,hw,vR,vW,mM];cases B with
   |nil=>
    have h2:¬(((A++[f]).length:Int)<(p.frames.length:Int)):=by simp at hlen |-;omega
    rw[XG h2];rfl
   |cons g2 B=>
    have h2:(((A++[f]).length:Int)<(p.frames.length:Int)):=by simp at hlen |-;omega
    have hy:p.frames[(A++[f]).length]! = g2:=by rw[XN p.frames _ Z5];simp[<- e]
    have hiy:=Aw (p:=p.frames) (k:=(A++[f]).length) Z5;rw[hy]at hiy;rw[XK h2];simp -implicitDefEqProofs only[hiy,ae];rfl
  rw[start,hk,ih,eu]
  grind
theorem t19(p:Proc)(hb:OpB p):(dV p=false->∃h',af pg 19 [p.av] []= .ok (.tup [.nilp,.bool false]) h')/\
  (dV p=true->∃h' L,af pg 19 [p.av] []= .ok (.tup [.hp L.rm 0,.bool true]) h'/\MapOk T 70 71 L p.mods/\OpR L p h'):=by
 have hld:=t27 [] hb.lim hb.cnt;have hst:=t38 p.mods p.state (by have:=hb.cl.mods;omega) (by have:=hb.cl.state.1;omega) hb.vlen (fun w hw=>⟨by have:=hb.cl.state.2 w hw;omega,hb.st w hw⟩);generalize hc:af pg 19 [p.av] []=code;rw[C19]at hc;simp -implicitDefEqProofs only[S19,Fl,FE,ae]at hc;unfold dV;by_cases hl:jw p.mods=0
 ·rw [Yd hl];obtain⟨P,hnd,hho,hrm⟩:=p7 hl hb.cnt;have g1:=hld.1 hl;rw[ap g1]at hc;have ne0:((0:Int) != 0)=false:=rfl;simp -implicitDefEqProofs only[wO,wP,ae,gC,ne0,aS,Fl,FE,Fo,FF,hst,aj,aT,am,bD,ai]at hc;cases hbl:eF p.mods p.state with
  |false=>
   rw[hbl]at hc;simp -implicitDefEqProofs only[Yi,XS]at hc;exact⟨fun _=>⟨_,hc.symm⟩,fun h=>(by simp at h)⟩
  | true=>
   rw[hbl]at hc;have hs1:IntKind.i64.wrap ((p.out.value.names.length:Int)+(p.out.value.values.length:Int))=((p.out.value.names.length+p.out.value.values.length:Nat):Int):=by have:=hb.val;rw[aW Z5 Z5];omega
   have hs2:IntKind.i64.wrap (((p.out.value.names.length+p.out.value.values.length:Nat):Int)+(p.out.state.length:Int))=((p.out.value.names.length+p.out.value.values.length+p.out.state.length:Nat):Int):=by have:=hb.val;have:=hb.cl.ostate.1;rw[aW Z5 Z5];omega
   have ls:bu T 27 (strs p.out.value.names)=some (.int .i64 p.out.value.names.length):=g9 _;have lv:bu T 28 (vals p.out.value.values)=some (.int .i64 p.out.value.values.length):=qE _;have neb:∀a b:Bool,cB T .neq 4 (.bool a) (.bool b)=some (.bool (a != b)):=fun a b=>rfl;have eqe:∀a b:Int,cB T .eql 26 (.int .i64 a) (.int .i64 b)=some (.bool (a== b)):=fun a b=>rfl;simp -implicitDefEqProofs only[XZ,XH,XO,Cp,NN,Sf,ae,Uz,aj,aK,Vi,V0,eqe,Rl,Si,aI,aE,am,br,Rm,Sj,Rn,Sk,Ro,Sl,ls,lv,bm,hs1,NP,N9,q5,hs2,Ha,J3,vR,vW,mM,neb,dO,aT]at hc;have hno:(p.out.err== 0&&p.out.value.kind== 0&&p.out.value.n== 0&&(((p.out.value.names.length+p.out.value.values.length+p.out.state.length:Nat):Int)== 0))=qb p.out:=by
    unfold qb;congr 1;rw[YT];simp only[Yt,XI];omega
   rw[hno]at hc;have hem:((p.frames.length:Int)== 0)=p.frames.isEmpty:=by
    cases p.frames with
    |nil=>rfl
    |cons a l=>
     grind
   rw[hem]at hc;rw[YN,YN];have h60:decide ((60:Int)<(p.frames.length:Int))= !(decide (p.frames.length<=60)):=by
    rw[YT];simp;omega
   rw[h60]at hc;have hee:(p.ended != p.frames.isEmpty)= !(p.ended== p.frames.isEmpty):=rfl;rw[hee]at hc;obtain⟨b1,hb1⟩:∃b,(p.ended== p.frames.isEmpty)=b:=⟨_,rfl⟩;obtain⟨b2,hb2⟩:∃b,decide (p.frames.length<=60)=b:=⟨_,rfl⟩;obtain⟨b3,hb3⟩:∃b,qb p.out=b:=⟨_,rfl⟩;obtain⟨b4,hb4⟩:∃b,p.ended=b:=⟨_,rfl⟩;rw[hb1,hb2,hb3,hb4]at hc;rw[hb1,hb2,hb3,hb4];have go:b1=true->b2=true->(b4||b3)=true->code=ak (L19_0 (af pg) ak) [.ip (aa p.av),.hp 2 0,gT p.frames,.int .i64 p.frames.length,.int .i64 0] (hY [] [.tup (bo p.mods 0)] [.tup (cu (aY 0 p.mods))] (lI p.mods 0)):=by
    intro h1 h2 h3;subst h1 h2;rw[<- hc];cases b4<;>cases b3<;>first|exact absurd h3 (Z6)|rfl
   have stop:(b1&&b2&&(b4||b3))=false->code= .ok (.tup [.nilp,.bool false]) (hY [] [.tup (bo p.mods 0)] [.tup (cu (aY 0 p.mods))] (lI p.mods 0)):=by
    intro h;rw[<- hc];cases b1<;>cases b2<;>cases b4<;>cases b3<;>first|grind|rfl
   cases hall:(b1&&b2&&(b4||b3))with
   |false=>
    grind
   | true=>
    rw[YN];simp only[XJ]at hall;have hgo:=go hall.1.1 hall.1.2 hall.2;let L:MLay:=⟨2,0,1,[.tup (bo p.mods 0)],[.tup (cu (aY 0 p.mods))]⟩;have MO:MapOk T 70 71 L p.mods:=map_ok rfl rfl hnd hho;have hl:=xg (L:=L) (p:=p) (h:=hY [] [.tup (bo p.mods 0)] [.tup (cu (aY 0 p.mods))] (lI p.mods 0)) (row:=lI p.mods 0) rfl rfl rfl MO P hb p.frames [] rfl;have hgo2:=hgo.trans hl;unfold gW;cases hch:eu p.mods p.frames none with
    |false=>
     grind
    | true=>
     rw[hch,XK rfl]at hgo2;refine⟨fun h=>(by cases h),fun _=>?_⟩;obtain⟨h1,tag1,sv,fv,dv,cv,ov,e1,K1,M1⟩:=t40 p hb.cl (fun r=>if r=2 then 0 else 1) (hY [] [.tup (bo p.mods 0)] [.tup (cu (aY 0 p.mods))] (lI p.mods 0));have k2:=K1 2 (lI p.mods 0) rfl Z7;have k0:=K1 0 [.tup (bo p.mods 0)] rfl Z7;have k1:=K1 1 [.tup (cu (aY 0 p.mods))] rfl Z7;have t2:tag1 2=0:=k2.2;have t0:tag1 0=1:=k0.2;have t1:tag1 1=1:=k1.2;have s1:bN T 36 (.hp 2 (0+0)) (.agg (sL p sv fv dv cv ov)) h1= .ok (.tup []) (h1.set 2 (sL p sv fv dv cv ov++[.mp 0,.mp 1])):=by
      rw[bU (T:=T) (t:=36) rfl k2.1 (ye M1) (by show (_:Nat)<=15;decide) Z6];rfl
     have K2:Kp tag1 tag1 (fun k=>k=0) h1 (h1.set 2 (sL p sv fv dv cv ov++[.mp 0,.mp 1])):=Xr t2 _;have q0:=K2 0 _ k0.1 (by rw[t0];decide);have q1:=K2 1 _ k1.1 (by rw[t1];decide);refine⟨_,L,?_,MO,⟨⟨tag1,sv,fv,dv,cv,ov,M1.keep K2 (fun k h=>Z5),Yg (XQ.1 k2.1).1,t2,⟨q0.1,t0⟩,q1.1,t1⟩⟩⟩;rw[hgo2,FL19_0];have hx:¬((p.frames.length:Int)<(p.frames.length:Int)):=Z5
     simp -implicitDefEqProofs only[L19_0,am,au,aB,ae,ai,XI,XG hx,AB];rw[ap e1];simp -implicitDefEqProofs only[aJ,FH73_0,ae];rw[ap s1];rfl
 ·rw[Yp hl];obtain⟨h',g1⟩:=hld.2 hl;rw[ap g1]at hc;have ne0:(jw p.mods != 0)=true:=by simpa using hl
  simp -implicitDefEqProofs only[wO,wP,ae,gC,ne0,fy,aj,am,List.replicate,bC,ai,XS]at hc;simp only[YV];exact⟨fun _=>⟨_,hc.symm⟩,fun h=>(by cases h)⟩
def t8(p:Proc)(hb:OpB p):af pg 8 [p.av]=ao (.bool (dV p)):=by
 obtain⟨o1,o2⟩:=t19 p hb;rw[C8,nY];cases hr:dV p with
 |false=>
  obtain⟨h',e⟩:=o1 hr;refine fZ (a:=.bool false) (h':=h') ?_ rfl;simp -implicitDefEqProofs only[S8,AB,ae];rw[ap e];rfl
 |true=>
  obtain⟨h',L,e,_⟩:=o2 hr;refine fZ (a:=.bool true) (h':=h') ?_ rfl;simp -implicitDefEqProofs only[S8,AB,ae];rw[ap e];rfl
theorem iB:cH T false 36 []=some p0.av:=rfl
def kU:bH 13 [] p0.av=ao (.agg p0.cells):=gh rfl
def uV{p:Proc}(hb:OpB p)(hr:dV p=true):RightP p/\PBd p.mods:=by
 have H:=kz.1 hr;exact⟨H,(p7 H.load hb.cnt).1⟩
def Eo{L:MLay}{p:Proc}{h:Hp}(H:RightP p)(he:p.ended=false)(R:OpR L p h):vK L p h:=by
 refine R.mr ?_;have hout:=H.out.resolve_left (by rw[he];simp);simp_all[qb]
def xW{L:MLay}{p:Proc}{h:Hp}(H:vK L p h\/I9 L p h):∃row,PR L p h row:=by
 rcases H with⟨tag,sv,fv,dv,cv,vc,H⟩|H
 ·exact⟨_,XE H⟩
 ·exact H.pr
def m8(p:Proc):Proc×Int:=if dV p=true then(if p.ended=true then(p,7)else(j0 p,0))else(p0,1)
def t6(p:Proc)(hb:OpB p)(S:dV p=true->p.ended=false->SzP 900000 p):af pg 6 [p.av]=ao (.tup [(m8 p).1.av,.int .i64 (m8 p).2]):=by
 obtain⟨o1,o2⟩:=t19 p hb;rw[C6,nY];unfold m8;cases hr:dV p with
 |false=>
  obtain⟨h',e⟩:=o1 hr;rw[XG Z6];refine fZ (a:=.tup [p0.av,.int .i64 1]) (h':=h') ?_ rfl;simp -implicitDefEqProofs only[S6,AB,ae];rw[ap e];simp -implicitDefEqProofs only[wO,wP,ae,aT,Yi,ai,XS,iB,kU,aj];rfl
 | true=>
  obtain⟨h1,L,e,MO,R⟩:=o2 hr;obtain⟨H,P⟩:=uV hb hr;rw[XK (show (true:Bool)=true from rfl)];obtain⟨row,Q⟩:=R.pr;have g1:bg T 4 (.hp L.rm (0+0+12)) h1= .ok (.bool p.ended) h1:=Q.ended rfl rfl;cases he:p.ended with
  |true=>
   rw[he]at g1;rw[XK (show (true:Bool)=true from rfl)];have g2:bg T 36 (.hp L.rm (0+0)) h1= .ok (.agg (row.take 13)) h1:=Q.load rfl rfl rfl;obtain⟨cn,c0,c1,c2,c3,c4,c5,c6,c7,c8,c9,c10,c11,c12,hc⟩:=Q.cells;refine fZ (a:=.tup [.agg (row.take 13),.int .i64 7]) (h':=h1) ?_ (Q.tup 7);simp -implicitDefEqProofs only[S6,AB,ae];rw[ap e];simp -implicitDefEqProofs only[wO,wP,ae,aT,XZ,ai,XH,XO,aJ,FH73_0,FH36_5];rw[ap g1];simp -implicitDefEqProofs only[ai,XS];rw[ap g2,cn,aj,aK,hc];rfl
  |false=>
   rw[he]at g1;rw[XG (show ¬(false:Bool)=true by decide)];obtain⟨h2,e2,R2⟩:=IX (Eo H he R) MO H he P (S hr he) Z6;obtain⟨row2,Q2⟩:=xW R2;have g2:bg T 36 (.hp L.rm (0+0)) h2= .ok (.agg (row2.take 13)) h2:=Q2.load rfl rfl rfl;obtain⟨cn,c0,c1,c2,c3,c4,c5,c6,c7,c8,c9,c10,c11,c12,hc⟩:=Q2.cells;refine fZ (a:=.tup [.agg (row2.take 13),.int .i64 0]) (h':=h2) ?_ (Q2.tup 0);simp -implicitDefEqProofs only[S6,AB,ae];rw[ap e];simp -implicitDefEqProofs only[wO,wP,ae,aT,XZ,ai,XH,XO,aJ,FH73_0,FH36_5];rw[ap g1];simp -implicitDefEqProofs only[ai,XH,XO];rw[ap e2,ap g2,cn,aj,aK,hc];rfl
def FK{L:MLay}(n:Nat)(hn:n<=100000)(z0 z1 z2 z3 z4 z5 z6 z7 z8 z9 z10 z11 z12:AV):∀(k i:Nat)(q:Proc)(h:Hp),i+k=n->(q.ended=true->∃row,PR L q h row)->(q.ended=false->vK L q h)->MapOk T 70 71 L q.mods->RightP q->PBd q.mods->(q.ended=false->SzP (500000+i) q)->
  ∃h' row,ak (L7_0 (af pg) ak (K7_0 (af pg) ak)) [.hp L.rm 0,.int .i64 n,.int .i64 i,z0,z1,z2,z3,z4,z5,z6,z7,z8,z9,z10,z11,z12] h= .ok (.tup [.agg (row.take 13),.int .i64 (if(jG k q).ended=true then 0 else 16)]) h'/\PR L (jG k q) h' row:=by
 have fin:∀(q:Proc)(h:Hp)(row:List AV),PR L q h row->K7_0 (af pg) ak [.hp L.rm 0,z0,z1,z2,z3,z4,z5,z6,z7,z8,z9,z10,z11,z12] h= .ok (.tup [.agg (row.take 13),.int .i64 (if q.ended=true then 0 else 16)]) h:=by
  intro q h row Q;have g1:bg T 4 (.hp L.rm (0+0+12)) h= .ok (.bool q.ended) h:=Q.ended rfl rfl;have g2:bg T 36 (.hp L.rm (0+0)) h= .ok (.agg (row.take 13)) h:=Q.load rfl rfl rfl;obtain⟨cn,c0,c1,c2,c3,c4,c5,c6,c7,c8,c9,c10,c11,c12,hc⟩:=Q.cells;rw[K7_0];simp -implicitDefEqProofs only[am,au,aJ,ae,FH73_0,FH36_5];rw[ap g1];simp -implicitDefEqProofs only[aT,ae,ai];cases q.ended with
  |true=>
   simp -implicitDefEqProofs only[XZ,XH,XO,XS];rw[ap g2,cn,aj,aK,hc];rfl
  |false=>
   simp -implicitDefEqProofs only[Yi,XH,XO,XS];rw[ap g2,cn,aj,aK,hc];rfl
 intro k
 induction k with
 | zero=>
  intro i q h hi hE hR MO H P S;obtain⟨row,Q⟩:∃row,PR L q h row:=by
   cases he:q.ended with
   |true=>exact hE he
   |false=>exact xW (.inl (hR he))
  refine⟨h,row,?_,Q⟩;have h1:¬((i:Int)<(n:Int)):=Z5
  rw[FL7_0];simp -implicitDefEqProofs only[L7_0,am,au,aB,ae,ai,XI,XG h1];exact fin q h row Q
 | succ k ih=>
  intro i q h hi hE hR MO H P S;have h1:(i:Int)<(n:Int):=Z5
  cases he:q.ended with
  |true=>
   obtain⟨row,Q⟩:=hE he;have g1:bg T 4 (.hp L.rm (0+0+12)) h= .ok (.bool q.ended) h:=Q.ended rfl rfl;rw[he]at g1;rw[Dk _ he];refine⟨h,row,?_,Q⟩;rw[FL7_0];simp -implicitDefEqProofs only[L7_0,am,au,aB,ae,ai,XI,XK h1,aJ,FH73_0,FH36_5];rw[ap g1];simp -implicitDefEqProofs only[ai,XS]
   grind
  | false=>
   obtain⟨row,Q⟩:=xW (.inl (hR he));have g1:bg T 4 (.hp L.rm (0+0+12)) h= .ok (.bool q.ended) h:=Q.ended rfl rfl;rw[he]at g1;obtain⟨h2,e2,R2⟩:=IX (hR he) MO H he P (S he) Z5;have hm:(j0 q).mods=q.mods:=by
    obtain⟨fs,f,x,p1,p2,p3⟩:=kA H he;exact (vr H he p1 p2 p3).mods
   have hw:IntKind.i64.wrap ((i:Int)+1)=((i+1:Nat):Int):=by rw[aW Z5 Z5];omega
   obtain⟨h',row',k1,k2⟩:=ih (i+1) (j0 q) h2 Z5 (fun _=>xW R2) (fun he2=>by
    rcases R2 with h|h
    ·exact h
    ·obtain⟨_,_,_,_,_,_,_,h3,_⟩:=h
     grind) Z7 (pD H he) Z7 (fun _=>EC H he P (S he))
   rw[xJ (by rw[he];decide)];refine⟨h',row',?_,k2⟩;rw[<- k1,FL7_0];simp -implicitDefEqProofs only[L7_0,am,au,aB,ae,ai,XI,XK h1,aJ,FH73_0,FH36_5];rw[ap g1];simp -implicitDefEqProofs only[ai,XH,XO];rw[ap e2];simp_all
def qn(p:Proc)(n:Int):Proc×Int:=if dV p=true/\0<=n/\n<=100000 then(jG n.toNat p,if(jG n.toNat p).ended=true then 0 else 16)else(p0,1)
def t7(p:Proc)(n:Int)(hb:OpB p)(S:dV p=true->p.ended=false->SzP 500000 p):af pg 7 [p.av,.int .i64 n]=ao (.tup [(qn p n).1.av,.int .i64 (qn p n).2]):=by
 obtain⟨o1,o2⟩:=t19 p hb;rw[C7,nY,show cl aF (.int .i64 n)= .int .i64 n from rfl];unfold qn;cases hr:dV p with
 |false=>
  obtain⟨h',e⟩:=o1 hr;rw[XG Z8];refine fZ (a:=.tup [p0.av,.int .i64 1]) (h':=h') ?_ rfl;simp -implicitDefEqProofs only[S7,AB,ae];rw[ap e];simp -implicitDefEqProofs only[wO,wP,ae,aT,Yi,fy,aj,am,List.replicate,bC,ai,XS,iB,kU];rfl
 | true=>
  obtain⟨h1,L,e,MO,R⟩:=o2 hr;obtain⟨H,P⟩:=uV hb hr;by_cases hn0:n<0
  ·rw[XG Z5];have n1:decide (n<0)=true:=Yd hn0;refine fZ (a:=.tup [p0.av,.int .i64 1]) (h':=h1) ?_ rfl;simp -implicitDefEqProofs only[S7,AB,ae];rw[ap e];simp -implicitDefEqProofs only[wO,wP,ae,aT,XZ,aS,aB,n1,fy,aj,am,List.replicate,bC,bD,ai,XS,iB,kU];rfl
  have n1:decide (n<0)=false:=Yp hn0;by_cases hn1:100000<n
  ·rw[XG Z5];have n2:decide ((100000:Int)<n)=true:=Yd hn1;refine fZ (a:=.tup [p0.av,.int .i64 1]) (h':=h1) ?_ rfl;simp -implicitDefEqProofs only[S7,AB,ae];rw[ap e];simp -implicitDefEqProofs only[wO,wP,ae,aT,XZ,aS,aB,n1,dO,n2,aj,am,bD,ai,XS,iB,kU];rfl
  have n2:decide ((100000:Int)<n)=false:=Yp hn1;rw[XK ⟨rfl,Z5,Z5⟩];obtain⟨m,rfl⟩:∃m:Nat,n=(m:Int):=⟨n.toNat,Z5⟩;rw[XP];obtain⟨h',row,k1,k2⟩:=FK (L:=L) m Z5 (.sl []) (.sl []) (.sl []) (.sl []) (.int .i64 0) (.int .i64 0) (.int .i64 0) (.sl []) (.sl []) (.sl []) (.sl []) (.sl []) (.bool false) m 0 p h1 Z5 (fun _=>R.pr) (fun he=>Eo H he R) MO H P (S hr);refine fZ (a:=.tup [.agg (row.take 13),.int .i64 (if(jG m p).ended=true then 0 else 16)]) (h':=h') ?_ (k2.tup _);simp -implicitDefEqProofs only[S7,AB,ae];rw[ap e];simp -implicitDefEqProofs only[wO,wP,ae,aT,XZ,aS,aB,n1,dO,n2,aj,am,bD,ai,XH,XO,jn];exact k1
def tU{F:(List AV->M AV)->List AV->M AV}(hF:∀vs,ak F vs=F (ak F) vs)(st:Nat->List AV)(n:Nat)(hend:∃b,F (ak F) (st n)=ao (.bool b))(hstep:∀k,k<n->(∃b,F (ak F) (st k)=ao (.bool b))\/F (ak F) (st k)=ak F (st (k+1))):
  ∀k,k<=n->∃b,ak F (st k)=ao (.bool b):=by
 have key:∀r k,n-k=r->k<=n->∃b,ak F (st k)=ao (.bool b):=by
  intro r
  induction r with
  |zero=>
   grind
  |succ r ih=>
   grind
 grind
def xA{t:Ty}{f:fu}(h:f∈t.fields):SizeOf.sizeOf f.2<SizeOf.sizeOf t:=by
 cases t with
 |mk k fs=>
  have h1:=Y7 (show f∈fs from h)
  grind
def Re:∀(n:Nat)(t:Ty),SizeOf.sizeOf t<=n->t.Lim->∀most:Int,0<=most->most<=1000->∃r:Int,af pg 146 [t.av,.int .i64 most]=ao (.int .i64 r)/\1<=r/\r<=most+1:=by
 intro n
 induction n with
 |zero=>
  intro t h;cases t;simp at h
 | succ n ih=>
  intro t hs ht most h0 h1;have hlen:=ht.len;have hl:∀(k i:Nat),t.fields.length-i=k->i<=t.fields.length->∀m:Int,1<=m->m<=most+1->∃r:Int,ak (L146_0 (af pg) ak) [.int .i64 most,.ip (aa t.av),.int .i64 m,.int .i64 i]=ao (.int .i64 r)/\1<=r/\r<=most+1:=by
   intro k
   induction k with
   |zero=>
    intro i hk hi m hm1 hm2;rw[FL146_0];have h1:¬((i:Int)<(t.fields.length:Int)):=Z5
    exact⟨m,by simp[L146_0,h1],hm1,hm2⟩
   | succ k ihk=>
    intro i hk hi m hm1 hm2;rw[FL146_0];have hlt:i<t.fields.length:=Z5
    have h1':(i:Int)<(t.fields.length:Int):=Z5
    by_cases hm:m<=most
    ·have hix:=vJ (l:=t.fields) (n:=(i:Int)) Z5 h1';rw[XP,XN t.fields i hlt]at hix;have hm':=XU hlt;generalize t.fields[i]=f at hix hm';have hsz:=xA hm';obtain⟨r,e1,e2,e3⟩:=ih f.2 Z5 (ht.kid hm') (most-m) Z5 Z5;obtain⟨r2,g1,g2,g3⟩:=ihk (i+1) Z5 Z5 (m+r) Z5 Z5;have w1:IntKind.i64.wrap (most-m)=most-m:=aW Z5 Z5;have w2:IntKind.i64.wrap (m+r)=m+r:=aW Z5 Z5;have w3:IntKind.i64.wrap ((i:Int)+1)=((i+1:Nat):Int):=aR Z5;refine⟨r2,?_,g2,g3⟩;rw[<- g1];simp only[L146_0,am,au,EJ,FA119_1,ae,X3,X0,LD47,mh,aB,dh,h1',hm,X8,aS,aj,bC,ai,XS,hix,kC,FA143_1,LD119,Yb,Yk,XX,Nat.reduceAdd,XM,Yr,Yq,yp,fI,w1,e1,bm,w2,w3]
    ·exact⟨m,by simp[L146_0,h1',hm],hm1,hm2⟩
  obtain⟨r,e1,e2,e3⟩:=hl t.fields.length 0 rfl Z5 1 Z5 Z5
  grind [C146,S146,DG,xY,nG]
def Rf:∀(n:Nat)(t:Ty),SizeOf.sizeOf t<=n->t.Lim->∃b,af pg 147 [t.av]=ao (.bool b):=by
 intro n
 induction n with
 |zero=>
  intro t h;cases t;simp at h
 | succ n ih=>
  intro t hs ht;have hlen:=ht.len;obtain⟨b,hb⟩:=tU (FL147_0 (af pg)) (fun k=>[.ip (aa t.av),.int .i64 (k:Int)]) t.fields.length ⟨true,by simp[L147_0]⟩ (fun k hk=>by
   have h1:(k:Int)<(t.fields.length:Int):=Z5
   have hix:=vJ (l:=t.fields) (n:=(k:Int)) Z5 h1;rw[XP,XN t.fields k hk]at hix;have hm':=XU hk;generalize t.fields[k]=f at hix hm';have hsz:=xA hm';have w3:IntKind.i64.wrap ((k:Int)+1)=(k:Int)+1:=by rw[aR Z5];simp
   obtain⟨b,hb⟩:=ih f.2 Z5 (ht.kid hm');by_cases hn:30<(f.1.length:Int)
   ·simp_all[L147_0]
   ·have hn':¬30<f.1.length:=Z5
    cases b with
    |false=>simp_all[L147_0]
    |true=>exact .inr (by simp[L147_0,h1,hk,hix,hn,hn',hb,w3])) 0 (X2 _)
  grind [C147,S147,DG,ec]
def Ri(t:Ty)(ht:t.Lim):∃b,af pg 86 [t.av]=ao (.bool b):=by
 obtain⟨r,e1,e2,e3⟩:=Re _ t (XM _) ht 40 Z5 Z5;obtain⟨b,hb⟩:=Rf _ t (XM _) ht;rw[C86];by_cases h:r<=40
 ·exact⟨b,by simp[S86,e1,hb,h]⟩
 ·exact⟨false,by simp[S86,e1,h]⟩
def vl{e x:Exp}(h:x∈e.args):SizeOf.sizeOf x<SizeOf.sizeOf e:=by
 cases e with
 |mk o n s m ns es=>
  have h1:SizeOf.sizeOf x<SizeOf.sizeOf es:=Y7 h
  grind
def Rh:∀(n:Nat)(e:Exp),SizeOf.sizeOf e<=n->e.Lim->∀most:Int,0<=most->most<=1000->∃r:Int,af pg 148 [e.av,.int .i64 most]=ao (.int .i64 r)/\1<=r/\r<=most+1:=by
 intro n
 induction n with
 |zero=>
  intro e h;cases e;simp at h
 | succ n ih=>
  intro e hs he most h0 h1;have hlen:=he.len;have hl:∀(k i:Nat),e.args.length-i=k->i<=e.args.length->∀m:Int,1<=m->m<=most+1->∃r:Int,ak (L148_0 (af pg) ak) [.int .i64 most,.ip (aa e.av),.int .i64 m,.int .i64 i]=ao (.int .i64 r)/\1<=r/\r<=most+1:=by
   intro k
   induction k with
   |zero=>
    intro i hk hi m hm1 hm2;rw[FL148_0];have h1:¬((i:Int)<(e.args.length:Int)):=Z5
    exact⟨m,by simp[L148_0,h1],hm1,hm2⟩
   | succ k ihk=>
    intro i hk hi m hm1 hm2;rw[FL148_0];have hlt:i<e.args.length:=Z5
    have h1':(i:Int)<(e.args.length:Int):=Z5
    by_cases hm:m<=most
    ·have hix:=nf (l:=e.args) (n:=(i:Int)) Z5 h1';rw[XP,XN e.args i hlt]at hix;have hm':=XU hlt;generalize e.args[i]=f at hix hm';have hsz:=vl hm';obtain⟨r,e1,e2,e3⟩:=ih f Z5 (he.kid hm') (most-m) Z5 Z5;obtain⟨r2,g1,g2,g3⟩:=ihk (i+1) Z5 Z5 (m+r) Z5 Z5;have w1:IntKind.i64.wrap (most-m)=most-m:=aW Z5 Z5;have w2:IntKind.i64.wrap (m+r)=m+r:=aW Z5 Z5;have w3:IntKind.i64.wrap ((i:Int)+1)=((i+1:Nat):Int):=aR Z5;refine⟨r2,?_,g2,g3⟩;rw[<- g1];simp only[L148_0,am,au,cr,FA121_5,ae,X3,X0,LD48,oV,aB,dh,h1',hm,X8,aS,aj,bC,ai,XS,hix,LD121,Yb,Yk,XX,Nat.reduceAdd,XM,Yr,Yq,kL,fI,w1,e1,bm,w2,w3]
    ·exact⟨m,by simp[L148_0,h1',hm],hm1,hm2⟩
  obtain⟨r,e1,e2,e3⟩:=hl e.args.length 0 rfl Z5 1 Z5 Z5
  grind [C148,S148,tz,xY,nG]
def Lg:∀(n:Nat)(e:Exp),SizeOf.sizeOf e<=n->e.Lim->∃b,af pg 149 [e.av]=ao (.bool b):=by
 intro n
 induction n with
 |zero=>
  intro e h;cases e;simp at h
 | succ n ih=>
  intro e hs he;have hlen:=he.len;have hnl:=he.names;have end0:∃b,L149_0 (af pg) ak (ak (L149_0 (af pg) ak)) [.ip (aa e.av),.int .i64 (e.args.length:Int)]=ao (.bool b):=by
   exact⟨decide ((e.s.length:Int)<=30)&&decide ((e.m.length:Int)<=30)&&decide ((e.names.length:Int)<=12),by simp[L149_0]⟩
  obtain⟨b0,hb0⟩:=tU (FL149_0 (af pg)) (fun k=>[.ip (aa e.av),.int .i64 (k:Int)]) e.args.length end0 (fun k hk=>by
   have h1:(k:Int)<(e.args.length:Int):=Z5
   have hix:=nf (l:=e.args) (n:=(k:Int)) Z5 h1;rw[XP,XN e.args k hk]at hix;have hm':=XU hk;generalize e.args[k]=f at hix hm';have hsz:=vl hm';have w3:IntKind.i64.wrap ((k:Int)+1)=(k:Int)+1:=by rw[aR Z5];simp
   obtain⟨b,hb⟩:=ih f Z5 (he.kid hm');cases b with
   |false=>simp_all[L149_0]
   |true=>simp_all[L149_0]) 0 (X2 _)
  have hb0':ak (L149_0 (af pg) ak) [.ip (aa e.av),.int .i64 0]=ao (.bool b0):=hb0;simp only[cr]at hb0';obtain⟨b,hb⟩:=tU (FL149_1 (af pg)) (fun k=>[.ip (aa e.av),.int .i64 (k:Int)]) e.names.length ⟨b0,by simp[L149_1,hb0']⟩ (fun k hk=>by
   have h1:(k:Int)<(e.names.length:Int):=Z5
   have hix:=oU (l:=e.names) (n:=(k:Int)) Z5 h1;rw[XP,XN e.names k hk]at hix;generalize e.names[k]=f at hix;have w3:IntKind.i64.wrap ((k:Int)+1)=(k:Int)+1:=by rw[aR Z5];simp
   by_cases h12:k<=12
   ·have h12':(k:Int)<=12:=Z5
    by_cases h30:30<f.length
    ·have h30':30<(f.length:Int):=Z5
     simp_all[L149_1]
    ·have h30':¬30<(f.length:Int):=Z5
     exact .inr (by simp[L149_1,h1,hk,hix,h12,h12',h30,h30',w3])
   ·have h12':¬(k:Int)<=12:=Z5
    exact .inl ⟨b0,by simp[L149_1,h1,hk,h12,h12',hb0']⟩) 0 (X2 _)
  grind [C149,S149,tz,ec]
def U7(e:Exp)(he:e.Lim):∃b,af pg 87 [e.av]=ao (.bool b):=by
 obtain⟨r,e1,e2,e3⟩:=Rh _ e (XM _) he 120 Z5 Z5;obtain⟨b,hb⟩:=Lg _ e (XM _) he;rw[C87];by_cases h:r<=120
 ·exact⟨b,by simp[S87,e1,hb,h]⟩
 ·exact⟨false,by simp[S87,e1,h]⟩
def NI(l:List fu)(hb:l.length<=140737488355328)(ht:∀f∈l,f.2.Lim):∃b,af pg 85 [ca l]=ao (.bool b):=by
 obtain⟨b,hb⟩:=tU (FL85_0 (af pg)) (fun k=>[ca l,.int .i64 (k:Int)]) l.length ⟨decide ((l.length:Int)<=10),by simp[L85_0]⟩ (fun k hk=>by
  have h1:(k:Int)<(l.length:Int):=Z5
  have hix:=vJ (l:=l) (n:=(k:Int)) Z5 h1;rw[XP,XN l k hk]at hix;have hm':=XU hk;generalize l[k]=f at hix hm';have w3:IntKind.i64.wrap ((k:Int)+1)=(k:Int)+1:=by rw[aR Z5];simp
  obtain⟨b,hb⟩:=Ri f.2 (ht f hm');by_cases h9:k<=10
  ·have h9':(k:Int)<=10:=Z5
   by_cases h30:30<f.1.length
   ·have h30':30<(f.1.length:Int):=Z5
    simp_all[L85_0]
   ·have h30':¬30<(f.1.length:Int):=Z5
    cases b with
    |false=>simp_all[L85_0]
    |true=>exact .inr (by simp[L85_0,h1,hk,hix,hb,h9,h9',h30,h30',w3])
  ·have h9':¬(k:Int)<=10:=Z5
   exact .inl ⟨decide ((l.length:Int)<=10),by simp[L85_0,h1,hk,h9,h9']⟩) 0 (X2 _)
 grind [C85,S85,xX,ec]
def NJ(l:List Exp)(hb:l.length<=140737488355328)(ht:∀f∈l,f.Lim):∃b,af pg 88 [dn l]=ao (.bool b):=by
 obtain⟨b,hb⟩:=tU (FL88_0 (af pg)) (fun k=>[dn l,.int .i64 (k:Int)]) l.length ⟨decide ((l.length:Int)<=10),by simp[L88_0]⟩ (fun k hk=>by
  have h1:(k:Int)<(l.length:Int):=Z5
  have hix:=nf (l:=l) (n:=(k:Int)) Z5 h1;rw[XP,XN l k hk]at hix;have hm':=XU hk;generalize l[k]=f at hix hm';have w3:IntKind.i64.wrap ((k:Int)+1)=(k:Int)+1:=by rw[aR Z5];simp
  obtain⟨b,hb⟩:=U7 f (ht f hm');by_cases h9:k<=10
  ·have h9':(k:Int)<=10:=Z5
   cases b with
   |false=>simp_all[L88_0]
   |true=>simp_all[L88_0]
  ·have h9':¬(k:Int)<=10:=Z5
   exact .inl ⟨decide ((l.length:Int)<=10),by simp[L88_0,h1,hk,h9,h9']⟩) 0 (X2 _)
 grind [C88,S88,JG,ec]
def Kb(f:AV)(F:Mod->Bool)(l:List Mod)(hb:l.length<=4611686018427387904)(hf:∀x∈l,cV (af pg) f [Mod.av x]=ao (.bool (F x))):∀(n:Nat)(i:Int),l.length-i.toNat=n->0<=i->i<=l.length->
  ak (L139_0 (af pg) ak) [mods l,f,.int .i64 l.length,.int .i64 i]=ao (.int .i64 (bb F (l.drop i.toNat) i)):=by
 intro n
 induction n with
 |zero=>
  intro i hn hi hl;rw[FL139_0];simp only[L139_0];have h1:¬(i<(l.length:Int)):=Z5
  have h2:l.drop i.toNat=[]:=List.drop_eq_nil_of_le Z5;simp[h1,h2,bb]
 |succ n ih=>
  intro i hn hi hl;have h1:i<(l.length:Int):=Z5
  have hlt:i.toNat<l.length:=Z5
  have h2:bb F (l.drop i.toNat) i=if F l[i.toNat]=true then i else bb F (l.drop (i.toNat+1)) (i+1):=by rw[List.drop_eq_getElem_cons hlt];rfl
  have h3:=hf l[i.toNat] (XU hlt);have h4:=ih (i+1) Z5 Z5 Z5;rw[show (i+1).toNat=i.toNat+1 by omega]at h4;rw[FL139_0];simp only[L139_0];simp (disch:=omega) [h1,aW,EI,h3,h2];simp_all
def t139(f:AV)(F:Mod->Bool)(l:List Mod)(hb:l.length<=4611686018427387904)(hc:∀g,cl g f=f)(hf:∀x∈l,cV (af pg) f [Mod.av x]=ao (.bool (F x))):af pg 139 [mods l,f]=ao (.int .i64 (bb F l 0)):=by
 rw[C139];simp[S139,hc,Kb f F l hb hf l.length 0 rfl Z5 Z5]
def t129(f:AV)(F:Mod->Bool)(l:List Mod)(hb:l.length<=4611686018427387904)(hc:∀g,cl g f=f)(hf:∀x∈l,cV (af pg) f [Mod.av x]=ao (.bool (F x))):af pg 129 [mods l,f]=ao (.bool (l.any F)):=by
 rw[C129];simp[S129,hc,t139 f F l hb hc hf,wZ]
def Kc(f:AV)(F:Fun->Bool)(l:List Fun)(hb:l.length<=4611686018427387904)(hf:∀x∈l,cV (af pg) f [Fun.av x]=ao (.bool (F x))):∀(n:Nat)(i:Int),l.length-i.toNat=n->0<=i->i<=l.length->
  ak (L141_0 (af pg) ak) [iP l,f,.int .i64 l.length,.int .i64 i]=ao (.int .i64 (bb F (l.drop i.toNat) i)):=by
 intro n
 induction n with
 |zero=>
  intro i hn hi hl;rw[FL141_0];simp only[L141_0];have h1:¬(i<(l.length:Int)):=Z5
  have h2:l.drop i.toNat=[]:=List.drop_eq_nil_of_le Z5;simp[h1,h2,bb]
 |succ n ih=>
  intro i hn hi hl;have h1:i<(l.length:Int):=Z5
  have hlt:i.toNat<l.length:=Z5
  have h2:bb F (l.drop i.toNat) i=if F l[i.toNat]=true then i else bb F (l.drop (i.toNat+1)) (i+1):=by rw[List.drop_eq_getElem_cons hlt];rfl
  have h3:=hf l[i.toNat] (XU hlt);have h4:=ih (i+1) Z5 Z5 Z5;rw[show (i+1).toNat=i.toNat+1 by omega]at h4;rw[FL141_0];simp only[L141_0];simp (disch:=omega) [h1,aW,BE,h3,h2];simp_all
def t141(f:AV)(F:Fun->Bool)(l:List Fun)(hb:l.length<=4611686018427387904)(hc:∀g,cl g f=f)(hf:∀x∈l,cV (af pg) f [Fun.av x]=ao (.bool (F x))):af pg 141 [iP l,f]=ao (.int .i64 (bb F l 0)):=by
 rw[C141];simp[S141,hc,Kc f F l hb hf l.length 0 rfl Z5 Z5]
def t140(m:Mod)(s:ba):af pg 140 [m.av,.ip [.str s]]=ao (.bool (m.name== s)):=by
 rw[C140];simp[S140,cl,fk]
def t142(f:Fun)(s:ba):af pg 142 [f.av,.ip [.str s]]=ao (.bool (f.name== s)):=by
 rw[C142];simp[S142,cl,fk]
def t130(m w:Mod):af pg 130 [m.av,.ip (aa w.av)]=ao (.bool (m.name== w.name)):=by
 rw[C130];simp[S130,cl,fk]
def Te(p:List Mod)(hp:p.length<=4611686018427387904)(s:ba):af pg 139 [mods p,.fn (.func 140) [] [.ip [.str s]]]=ao (.int .i64 (dI p s)):=
 t139 _ _ p hp (fun g=>rfl) (fun m _=>t140 m s)
def Tf(p:List Fun)(hp:p.length<=4611686018427387904)(s:ba):af pg 141 [iP p,.fn (.func 142) [] [.ip [.str s]]]=ao (.int .i64 (mZ p s)):=
 t141 _ _ p hp (fun g=>rfl) (fun m _=>t142 m s)
def t168(n:Int):af pg 168 [.int .i64 n]=ao (Val.mk 0 n [] []).av:=by
 rw[C168];rfl
def t169(b:Bool):af pg 169 [.bool b]=ao (dW b).av:=by
 rw[C169];cases b<;>rfl
def t144(b:Bool)(n:Int):af pg 144 [.bool b,.int .i64 n]=if b=true then ao (.tup [])else jV (.iface 26 (.int .i64 n)):=by
 rw[C144];cases b<;>rfl
def Nx(l:List ba):dc T 27 (strs l) none (some (.int .i64 l.length)) (some (.int .i64 l.length))=some (strs l):=by
 have:=sD (T:=T) (t:=27) (e:=9) rfl rfl rfl (l.map AV.str)
 simpa [strs]using this
def Nw(l:List Val):dc T 28 (vals l) none (some (.int .i64 l.length)) (some (.int .i64 l.length))=some (vals l):=by
 have:=sD (T:=T) (t:=28) (e:=30) rfl rfl rfl (d5 l)
 simpa [vals,dX]using this
def t177(l:List ba):af pg 177 [strs l]=ao (strs l):=by
 rw[C177];simp[S177,Nx,dB (a:=strs l) fun g=>my g l]
def t178(l:List Val):af pg 178 [vals l]=ao (vals l):=by
 rw[C178];simp[S178,Nw]
def bG(o:Int)(ns:List ba)(vs:List Val):AV:=.agg [.int .i64 o,strs ns,vals vs]
@[simp] theorem fH(o:Int)(ns:List ba)(vs:List Val):aa (bG o ns vs)=[.int .i64 o,strs ns,vals vs]:=rfl
theorem cd(o:Int)(ns:List ba)(vs:List Val):AV.agg [.int .i64 o,strs ns,vals vs]=bG o ns vs:=rfl
def zI(g)(o:Int)(ns:List ba)(vs:List Val):cl g (bG o ns vs)=bG o ns vs:=by
 simp_all[bG,cl,fk]
def pu(o:Int)(ns:List ba)(vs:List Val):bY 3 (bG o ns vs)=true:=by grind [bY,ay,strs,vals,bG,dC,aa]
def Cz(o:Int)(ns:List ba)(vs:List Val):bj (ao (bG o ns vs))=ao (bG o ns vs):=dB fun g=>zI g o ns vs
set_option maxHeartbeats 1000000 in
def t167(n:Int):af pg 167 [.int .i64 n]=ao (.int .i64 (bO n)):=by
 rw[C167];unfold bO;simp only[S167,K167_0,K167_1,K167_2,K167_3,cl,uv,aI,ae,ai,am,au,Yt];by_cases h0:n=0
 ·simp[h0]
 by_cases h1:n=1
 ·simp[h1]
 by_cases h2:n=2
 ·simp[h2]
 by_cases h17:n=17
 ·simp[h17]
 by_cases h10:n=10
 ·simp[h10]
 by_cases h14:n=14
 ·simp[h14]
 by_cases h16:n=16
 ·simp[h16]
 by_cases h18:n=18
 ·simp[h18]
 by_cases h3:n=3
 ·simp[h3]
 by_cases h4:n=4
 ·simp[h4]
 by_cases h5:n=5
 ·simp[h5]
 by_cases h6:n=6
 ·simp[h6]
 by_cases h7:n=7
 ·simp[h7]
 by_cases h8:n=8
 ·simp[h8]
 by_cases h9:n=9
 ·simp[h9]
 by_cases h12:n=12
 ·simp[h12]
 by_cases h11:n=11
 ·simp[h11]
 by_cases h13:n=13
 all_goals simp_all
theorem t145(o:Int)(ns:List ba)(vs:List Val)(s:ba)(v:Val)(h1:ns.length<=1099511627776)(h2:vs.length<=1099511627776):
  af pg 145 [bG o ns vs,.str s,v.av]=ao (bG o (ns++[s]) (vs++[v])):=by
 have hb1:aM T 27 1 [(0,.str s)]=some (strs [s]):=rfl;have hb2:aM T 28 1 [(0,v.av)]=some (vals [v]):=by rw[v.av_eq];simp[vals,d5,v.av_eq];rfl
 have ha1:dH T 27 (strs ns) (strs [s])=some (strs (ns++[s])):=Ji WD;have ha2:dH T 28 (vals vs) (vals [v])=some (vals (vs++[v])):=EH WD;have hb3:cH T false 212 [(0,.int .i64 o),(1,strs (ns++[s])),(2,vals (vs++[v]))]=some (bG o (ns++[s]) (vs++[v])):=rfl;simp_all[C145,zI,S145,t177,t178,cd,pu,Cz]
def pL(e:Int):AV:=.iface 26 (.int .i64 e)
def dj(b:Bool)(e:Int)(x:M AV):M AV:=if b=true then x else jV (pL e)
def bq(b:Bool)(e:Int)(f:AV->M AV):ar (af pg 144 [.bool b,.int .i64 e]) f=dj b e (f (.tup [])):=by
 rw[t144];unfold dj;cases b<;>rfl
def gP:X Val->M AV:=fun x=>match x ⟨0,0,[],[],[],[]⟩with
 |.ok v _=>ao v.av
 |.er e _=>jV (pL e)
def t170(op:Int)(a b:Val)(h:op=3\/op=4\/op=5\/op=6\/op=7):af pg 170 [.int .i64 op,a.av,b.av]=gP (oY op a b):=by
 rw[C170];unfold oY;have hn:=t168;have ht:=t169;simp only[S170,aI,ae,ai,bQ];by_cases h7:op=7
 ·by_cases hk:a.kind=b.kind
  ·by_cases h2:a.kind=2
   ·simp_all[bq,dj,gP,X.er]
   ·have h2':¬b.kind=2:=Z5
    simp[h7,hk,h2',bq,dj,gP,X.ok,ht]
  simp_all[bq,dj,gP,X.er]
 ·by_cases ha:a.kind=0
  ·by_cases hb:b.kind=0
   ·simp only[h7,ha,hb,Yf,ZS,XS,XO,Yt,FA30_0,FA30_1,X0,LD3,ae,aI,aE,aj,br,am,bq,dj,YL,X3,ai,bm,fI,Dz,aB,hn,ht];by_cases h3:op=3
    ·simp[h3,gP,X.ok,cg,wr];rfl
    by_cases h4:op=4
    ·simp[h4,gP,X.ok,cg,wr];rfl
    by_cases h5:op=5
    ·simp[h5,gP,X.ok,cg,wr];rfl
    simp[h3,h4,h5,gP,X.ok]
   simp_all[bq,dj,gP,X.er]
  simp_all[bq,dj,gP,X.er]
def t150(l:List ba)(s:ba)(hb:l.length<=1099511627776):af pg 150 [strs l,.str s]=ao (.int .i64 (bb (fun x=>s== x) l 0)):=by
 have hl:∀(n:Nat)(i:Int),l.length-i.toNat=n->0<=i->i<=l.length->ak (L150_0 (af pg) ak) [strs l,.str s,.int .i64 l.length,.int .i64 i]=ao (.int .i64 (bb (fun x=>s== x) (l.drop i.toNat) i)):=by
  intro n
  induction n with
  |zero=>
   intro i hn hi hl;rw[FL150_0];simp only[L150_0];have h1:¬(i<(l.length:Int)):=Z5
   have h2:l.drop i.toNat=[]:=List.drop_eq_nil_of_le Z5;simp[h1,h2,bb]
  |succ n ih=>
   intro i hn hi hl;have h1:i<(l.length:Int):=Z5
   have hlt:i.toNat<l.length:=Z5
   have h2:bb (fun x=>s== x) (l.drop i.toNat) i=if(s== l[i.toNat])=true then i else bb (fun x=>s== x) (l.drop (i.toNat+1)) (i+1):=by rw[List.drop_eq_getElem_cons hlt];rfl
   have h4:=ih (i+1) Z5 Z5 Z5;rw[show (i+1).toNat=i.toNat+1 by omega]at h4;rw[FL150_0];simp only[L150_0];simp (disch:=omega) [h1,aW,oU,h2];simp_all
 rw[C150];simp[S150,cl,hl l.length 0 rfl Z5 Z5]
def t186:∀(n:Nat)(v:Val),v.sz<=n->v.sz<=1099511627776->af pg 186 [v.av]=ao (.int .i64 (dS v:Nat)):=by
 intro n
 induction n with
 |zero=>intro v h;have:=v.sz_pos;omega
 | succ n ih=>
  intro v hn hv;have hlen:=v.sz_len;have hlv:∀(l:List Val),de l<=1099511627776->dP l<=1099511627776:=by
   intro l
   induction l with
   |nil=>intro _;simp[dP]
   | cons x l ih2=>
    intro h;simp only[de]at h
    have:=ih2 Z5
    have hx:∀(k:Nat)(y:Val),y.sz<=k->dS y<=y.sz:=by
     intro k
     induction k with
     |zero=>intro y hy;have:=y.sz_pos;omega
     |succ k ihk=>
      intro y hy;rw[jb];have h1:=y.sz_values;have h2:dP y.values<=de y.values:=(ib _ _).2 fun z hz=>X4 (ihk z (by have:=Xs hz;omega)) (kT hz);omega
    simp only[dP]
    grind
  have hl:∀(B A:List Val)(c:Nat),A++B=v.values->c<=1099511627776->ak (L186_0 (af pg) ak) [.int .i64 (c:Nat),vals v.values,.int .i64 v.values.length,.int .i64 A.length]=ao (.int .i64 ((max c (dP B)+1:Nat))):=by
   intro B
   induction B with
   |nil=>
    intro A c e hc;simp only[X9]at e;subst e;rw[FL186_0];simp (disch:=omega) [L186_0,dP,aW]
   | cons x B ih2=>
    intro A c e hc;have hll:A.length+(B.length+1)=v.values.length:=by rw[<- e];simp
    have h1:(A.length:Int)<(v.values.length:Int):=Z5
    have hx:v.values[A.length]! = x:=by
     rw[<- e,XN _ _ Z8];simp
    have hm:x∈v.values:=by rw[<- e];simp
    have hx':v.values[A.length]'(Z5)=x:=by rw[<- hx,XN]
    have h3:=ih x (by have:=Xs hm;omega) (by have:=Xs hm;omega);have hxb:dS x<=1099511627776:=X4 ((ib v.values _).1 (hlv v.values (by have:=v.sz_values;omega)) x hm) (XM _);have h4:=ih2 (A++[x]) (max c (dS x)) Z7 Z5;rw[FL186_0];have hmx:(max (c:Int) (dS x:Int))=((max c (dS x):Nat):Int):=Z5
    simp (disch:=omega) [L186_0,h1,aW,ta,hx',h3,hmx]at h4 |-;rw[h4];simp only[dP]
  rw[C186]
  have:=hl v.values [] 0 rfl Z5
  simp_all[S186,jb]
def t187(f:fu)(e:Exp):af pg 187 [dZ f,.ip (aa e.av)]=ao (.bool (f.1== e.s)):=by
 rw[C187];simp[S187,cl,fk]
def Tg(l:List fu)(hl:l.length<=1099511627776)(e:Exp):af pg 184 [ca l,.fn (.func 187) [] [.ip (aa e.av)]]=ao (.int .i64 (lQ l e.s)):=
 t184 _ _ l Z5 (fun g=>by simp[cl,fk]) (fun f _=>t187 f e)
def Kx(t:Bool)(p:List Mod):AV:=if t=true then(match p with|[]=>.hn|_=>mods p)else mods p
def sX{t:Bool}{p:List Mod}(h:p≠[]):Kx t p=mods p:=by
 cases t with
 |false=>rfl
 |true=>cases p with
  |nil=>grind
  |cons _ _=>rfl
def Gj(t:Bool)(w:List Int):AV:=if t=true then .hn else ints w
def rowP(p:List Mod)(t:Bool)(m:Ms)(dv cv sv:AV):List AV:=[Kx t p,Gj t m.world,.int .i64 m.fuel,.int .i64 m.frames,.int .i64 0,.int .i64 0,.int .i64 0,.hn,.hn,dv,cv,sv]
abbrev hG(p:List Mod)(nm:SNm):=WV (rowP p nm.told) nm
structure LimP (p:List Mod):Prop where
 len:p.length<=1099511627776
 funcs:∀m∈p,m.funcs.length<=1099511627776/\m.vars.length<=1099511627776
def LimP.funcsAt{p:List Mod}(L:LimP p)(i:Nat):(p[i]?.getD default).funcs.length<=1099511627776/\(p[i]?.getD default).vars.length<=1099511627776:=by
 cases h:p[i]? with
 |none=>exact⟨X2 _,X2 _⟩
 |some m=>exact L.funcs m (Ys h)
theorem pW{α:Type}(F:α->Bool):(l:List α)->(i:Int)->bb F l i= -1\/(i<=bb F l i/\bb F l i<i+l.length)
 |[],i=>.inl rfl
 | x:: l,i=>by
  simp only[bb];split
  ·grind
  ·rcases pW F l (i+1)with h|h
   all_goals grind
def t79{p:List Mod}{nm:SNm}{m:Ms}{h:Hp}(R:hG p nm m h)(L:LimP p)(s:ba):af pg 79 [.hp 0 0,.str s] h= .ok (.int .i64 (dI p s)) h:=by
 obtain⟨tag,dv,cv,sv,R⟩:=R;have h0:bg T 22 (.hp 0 (0+0)) h= .ok (Kx nm.told p) h:=bT rfl rfl R.r0 rfl;have hpv:∀f:AV,af pg 139 [Kx nm.told p,f]=af pg 139 [mods p,f]:=fun f=>by
  by_cases hp:p=[]
  ·subst hp;cases nm.told with
   |false=>rfl
   |true=>rw[C139,C139];rfl
  ·rw[sX hp]
 rw[C79];simp only[S79,aJ,ae,FH166_0];rw[ap h0,hpv]
 have:=Te p (by have:=L.len;omega) s
 simp only[mj,this,aj];rfl
def Cu:Option Fun->AV
 |some f=>.tup [f.av,.bool true]
 |none=>.tup [Fun.av default,.bool false]
theorem t80{p:List Mod}{nm:SNm}{m:Ms}{h:Hp}(R:hG p nm m h)(L:LimP p)(a:Int)(ha:a<p.length)(s:ba):af pg 80 [.hp 0 0,.int .i64 a,.str s] h= .ok (Cu (lS p a s)) h:=by
 obtain⟨tag,dv,cv,sv,R⟩:=R;have h0:p≠[]->bg T 22 (.hp 0 (0+0)) h= .ok (mods p) h:=fun hp=>bT rfl rfl R.r0 (by rw[<- sX (t:=nm.told) hp];rfl);have hz:cH T false 123 []=some (Fun.av default):=rfl;have hzz:∀f:Fun,AV.agg [ab (aa f.av) 0,ab (aa f.av) 1,ab (aa f.av) 2,ab (aa f.av) 3,ab (aa f.av) 4,ab (aa f.av) 5,ab (aa f.av) 6,ab (aa f.av) 7,ab (aa f.av) 8,ab (aa f.av) 9,ab (aa f.av) 10,ab (aa f.av) 11]=f.av:=fun f=>Z8
 have hcf:∀f:Fun,bH 12 [] f.av=ao (.agg (aa f.av)):=fun f=>gh (qf f);have hac:∀f:Fun,aa (.agg (aa f.av))=aa f.av:=fun _=>rfl;rw[C80];unfold lS;simp only[S80,aB,ae,ai];by_cases h1:a<0
 ·simp only[h1,X8,XS,hz,ae,hcf,aj,hac,hzz];rfl
 ·simp only[h1,Y4,XH,XO,aJ,ae,FH166_0];rw[ap (h0 (fun e=>Z7))];have hi:=EI (l:=p) (n:=a) Z5 ha;have hlt:a.toNat<p.length:=Z5
  have e1:p[a.toNat]! = p[a.toNat]?.getD default:=by rw[XN p a.toNat hlt,XW hlt];rfl
  have hlen:=(L.funcsAt a.toNat).1;have hx:=Tf (p[a.toNat]?.getD default).funcs Z5 s;generalize hm:p[a.toNat]?.getD default=md at hx hlen e1;rw[hi,e1];simp only[ae,eY,FA53_4,X3,X0,LD49,mj,hx,aj,aB,ai];by_cases h2:mZ md.funcs s<0
  ·simp only[h2,X8,XS,hz,ae,hcf,aj,hac,hzz];rfl
  ·simp only[h2,Y4,XH,XO];rcases pW (fun f=>f.name== s) md.funcs 0 with h3|h3
   ·grind [mZ]
   ·have h4:mZ md.funcs s<(md.funcs.length:Int):=by unfold mZ;omega
    have h5:(mZ md.funcs s).toNat<md.funcs.length:=Z5
    rw[BE Z5 h4,XN md.funcs _ h5,XW h5];have hld:ax T 123 (.ip (aa (md.funcs[(mZ md.funcs s).toNat]).av))=some (md.funcs[(mZ md.funcs s).toNat]).av:=Z8
    simp only[ae,hld,hcf,aj,hac,hzz];rfl
def kb{α:Type}(p:List Mod)(nm:SNm)(enc:α->AV)(r:Rs α)(c:R AV):Prop:=match r with
 |.ok v s=>∃h',c= .ok (enc v) h'/\hG p nm s h'
 |.er e s=>∃h',c= .pan (pL e) h'/\hG p nm s h'
def cK{α β:Type}{p:List Mod}{nm:SNm}{enc:α->AV}{enc':β->AV}{x:X α}{f:α->X β}{c:M AV}{d:AV->M AV}{m:Ms}{h:Hp}(H:kb p nm enc (x m) (c h))(K:∀a s h',x m= .ok a s->hG p nm s h'->kb p nm enc' (f a s) (d (enc a) h')):kb p nm enc' (x.bind f m) (ar c d h):=by
 unfold X.bind;cases hr:x m with
 |ok a s=>
  rw[hr]at H;obtain⟨h',h1,h2⟩:=H;rw[ap h1]
  grind
 |er e s=>
  rw[hr]at H;obtain⟨h',h1,h2⟩:=H;exact⟨h',DC h1,h2⟩
theorem eW{α:Type}{p:List Mod}{nm:SNm}{enc:α->AV}{a:α}{m:Ms}{h:Hp}(R:hG p nm m h):kb p nm enc (X.ok a m) (ao (enc a) h):=⟨h,rfl,R⟩
theorem gw{α:Type}{p:List Mod}{nm:SNm}{enc:α->AV}{e:Int}{m:Ms}{h:Hp}(R:hG p nm m h):kb p nm enc (X.er e m) (jV (pL e) h):=⟨h,rfl,R⟩
def Ls(v:Val):ar (bH 4 [] v.av) (fun w=>ao (AV.agg [ab (aa w) 0,ab (aa w) 1,ab (aa w) 2,ab (aa w) 3]))=ao v.av:=Z8
def j9(m:Ms):Ms:={ m with fuel:=m.fuel-1 }
def Io{p:List Mod}{nm:SNm}{tag:Nat->Nat}{dv cv sv:AV}{m:Ms}{h:Hp}(R:RepT (rowP p nm.told) nm tag dv cv sv m h):RepT (rowP p nm.told) nm tag dv cv sv (j9 m) (h.set 0 (rowP p nm.told (j9 m) dv cv sv)):=R.set0 rfl rfl rfl id
def step0{p:List Mod}{nm:SNm}{m:Ms}{h:Hp}(R:hG p nm m h):∃h1,hG p nm (j9 m) h1/\
  (∀f:AV->M AV,ar (bg T 3 (.hp 0 2)) f h=f (.int .i64 m.fuel) h)/\(∀f:AV->M AV,ar (bN T 3 (.hp 0 2) (.int .i64 (m.fuel-1))) f h=f (.tup []) h1):=by
 obtain⟨tag,dv,cv,sv,R⟩:=R;refine⟨_,⟨tag,dv,cv,sv,Io R⟩,fun f=>ap (bT rfl rfl R.r0 rfl),fun f=>ap (bU rfl R.r0 rfl (show 2+1<=12 by decide) Z6)⟩
def G5{p:List Mod}{nm:SNm}{m:Ms}{h:Hp}(R:hG p nm m h)(hf:¬0<m.fuel)(sc:AV)(e:Exp):af pg 133 [.hp 0 0,sc,e.av] h= .pan (pL 16) h:=by
 obtain⟨tag,dv,cv,sv,R⟩:=R;have h0:∀f:AV->M AV,ar (bg T 3 (.hp 0 2)) f h=f (.int .i64 m.fuel) h:=fun f=>ap (bT rfl rfl R.r0 rfl);rw[C133];simp[S133,h0,hf,bq,dj,jV]
def rI(e:Exp):Prop:=¬bO e.op= -2/\(bO e.op= -1\/bO e.op=e.args.length)
def NF{p:List Mod}{nm:SNm}{m:Ms}{h:Hp}(R:hG p nm m h)(G:GoodM p m)(hf:0<m.fuel)(sc:AV)(e:Exp)(hc:¬rI e):∃h1,hG p nm (j9 m) h1/\af pg 133 [.hp 0 0,sc,e.av] h= .pan (pL 13) h1:=by
 obtain⟨h1,R1,hl,hs⟩:=step0 R;refine⟨h1,R1,?_⟩;have hw:IntKind.i64.wrap (m.fuel-1)=m.fuel-1:=aW Z5 (by have:=G.bud;simp only[mu]at this;omega);unfold rI at hc;rw[C133];simp[S133,hl,hs,hf,bq,dj,hw,t167,hc];rfl
mutual
def bX:Exp->Prop
 |.mk _ _ _ _ ns es=>ns.length<=8796093022208/\es.length<=274877906944/\oc es
def oc:List Exp->Prop
 |[]=>True
 |e:: es=>bX e/\oc es
end
theorem rS:{l:List Exp} ->oc l->∀e∈l,bX e
 |[],_,_,h=>by cases h
 |x:: l,H,e,h=>by
  simp only[oc]at H;rcases Yn.1 h with rfl|h
  ·exact H.1
  ·exact rS H.2 e h
def bB{e x:Exp}(H:bX e)(h:x∈e.args):bX x:=by
 obtain⟨o,n,s,m,ns,es⟩:=e;simp only[bX]at H;exact rS H.2.2 x h
def mF{e:Exp}(H:bX e):e.names.length<=8796093022208/\e.args.length<=274877906944:=by
 obtain⟨o,n,s,m,ns,es⟩:=e;simp only[bX]at H;exact⟨H.1,H.2.1⟩
structure LimB (p:List Mod):Prop where
 lim:LimP p
 body:∀m∈p,∀f∈m.funcs,bX f.body/\f.params.length<=274877906944
structure Sc (p:List Mod) (own:Int) (ns:List ba) (vs:List Val) (m:Ms):Prop where
 own:own<p.length
 right:nj ns vs
 len:(ns.length:Int)+m.fuel<=549755813888
def sJ(p:List Mod)(nm:SNm)(n:Nat):Prop:=∀own ns vs e m h,hG p nm m h->GoodM p m->m.fuel<=n->Sc p own ns vs m->bX e->kb p nm Val.av (cP p n own ns vs e m) (af pg 133 [.hp 0 0,bG own ns vs,e.av] h)
def Lu(p:List Mod)(nm:SNm)(n:Nat):Prop:=∀own ns vs e m h,hG p nm m h->GoodM p m->m.fuel<=n->Sc p own ns vs m->bX e->kb p nm AV.bool (boolX (cP p n own ns vs e) m) (af pg 171 [.hp 0 0,bG own ns vs,e.av] h)
def KV(p:List Mod)(nm:SNm)(n:Nat):Prop:=∀own ns vs e m h,hG p nm m h->GoodM p m->m.fuel<=n->Sc p own ns vs m->bX e->kb p nm Val.av (mT (cP p n own ns vs) e m) (af pg 172 [.hp 0 0,bG own ns vs,e.av] h)
def Gn(p:List Mod)(nm:SNm)(n:Nat):Prop:=∀own ns vs e m h,hG p nm m h->GoodM p m->mu m<1000000->m.fuel<=n->Sc p own ns vs m->bX e->kb p nm Val.av (tw p (cP p n) own ns vs e m) (af pg 173 [.hp 0 0,bG own ns vs,e.av] h)
def vF(p:List Mod)(r:Exp->X Val)(own:Int)(e:Exp):X Val:=if e.op=16 then BG (r e.args[0]!) e else Dj p r own e
def Dm(p:List Mod)(nm:SNm)(n:Nat):Prop:=∀own ns vs e m h,e.op=16\/e.op=17\/e.op=18->rI e->hG p nm m h->GoodM p m->mu m<1000000->m.fuel<=n->Sc p own ns vs m->bX e->kb p nm Val.av (vF p (cP p n own ns vs) own e m) (af pg 174 [.hp 0 0,bG own ns vs,e.av] h)
def Sc.less{p:List Mod}{own:Int}{ns:List ba}{vs:List Val}{m s:Ms}(H:Sc p own ns vs m)(h:s.fuel<=m.fuel):Sc p own ns vs s:=⟨H.own,H.right,by have:=H.len;omega⟩
theorem t171{p:List Mod}{nm:SNm}{n:Nat}(IH:sJ p nm n):Lu p nm n:=by
 intro own ns vs e m h R G hn hs he;unfold boolX;have hsc:ax T 212 (.ip (aa (bG own ns vs)))=some (bG own ns vs):=rfl;have hex:ax T 121 (.ip (aa e.av))=some e.av:=Z8
 rw[C171];simp only[S171,hsc,hex,ae];refine cK (IH own ns vs e m h R G hn hs he) fun v s h' hv Rs=>?_;simp only[bc (d3 v),aj,aK,bQ,FA30_0,FA30_1,X0,LD3,ae,aI,bq,dj,X3]
 grind [eW,gw]
theorem xc:∀(ns:List ba)(vs:List Val)(n:ba)(v:Val)(s:ba),ns.length=vs.length->lr (ns++[n]) (vs++[v]) s=if n=s then some v else lr ns vs s
 |[],[],n,v,s,_=>by simp[lr]
 |a:: ns,b:: vs,n,v,s,h=>by
  simp only[Yx,lr,xc ns vs n v s (by simpa using h)]
  grind
 |[],_:: _,_,_,_,h=>by simp at h
 |_:: _,[],_,_,_,h=>by simp at h
def HN(o:Option Val):M AV:=match o with
 |some v=>ao v.av
 |none=>jV (pL 12)
theorem AP(kk:List AV->M AV)(own:Int)(ns:List ba)(vs:List Val)(e:Exp)(x1 x2 x3 x4:AV)(hl:ns.length=vs.length)(hb:ns.length<=1099511627776):∀(i:Nat),i<=ns.length->
  ak (L133_0 (af pg) ak kk) [.hp 0 0,.ip [.int .i64 own,strs ns,vals vs],.ip (aa e.av),.int .i64 ((i:Int)-1),x1,x2,x3,x4]=HN (lr (ns.take i) (vs.take i) e.s)
 |0,_=>by
  have hi:l5 T 26 (.int .i64 12)=some (pL 12):=rfl;rw[FL133_0];simp only[L133_0,am,au,jm,ae,ai,hi];simp[lr,HN,Kt];rfl
 |i+1,hi=>by
  have ih:=AP kk own ns vs e x1 x2 x3 x4 hl hb i Z5;have h1:i<ns.length:=Z5
  have h2:i<vs.length:=Z5
  have h3:(ns.take (i+1))=ns.take i++[ns[i]]:=Z8
  have h4:(vs.take (i+1))=vs.take i++[vs[i]]:=Z8
  rw[h3,h4,xc _ _ _ _ _ WD,FL133_0];have e1:((i+1:Nat):Int)-1=(i:Int):=Z5
  rw[e1];simp only[L133_0];simp (disch:=omega) [aW,oU,ta,h1,h2]
  grind [cr,HN]
end Go.Proofs.YtbndmpiddinalacGreatDoor
