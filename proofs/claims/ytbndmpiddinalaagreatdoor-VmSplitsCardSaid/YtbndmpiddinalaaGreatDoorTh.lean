/- What the functions compute, part 8. Conditions: bounds. -/
import Derived.Test.YtbndmpiddinalaaGreatDoorTg
set_option linter.defProp false
set_option linter.unusedSimpArgs false
set_option linter.unusedVariables false
namespace Go.Proofs.YtbndmpiddinalaaGreatDoor
open Go Go.Av Go.Av.Ap
set_option maxRecDepth 100000
theorem rN:∀(A B:List Ap.Mod)(i:Nat),aT i (A++B)=aT i A++aT (i+A.length) B
 |[],B,i=>rfl
 |m:: A,B,i=>by
  show kb i m m.funcs++aT (i+1) (A++B)=_;rw[rN A B (i+1),show i+1+A.length=i+(m:: A).length by simp;omega,<- Yd];rfl
def G5(i:Nat)(m:Ap.Mod)(C D:List Fun):kb i m (C++D)=kb i m C++kb i m D:=Y5 ..
def iA(n:Nat):List AV:=[.hn,.hn,.hn,.hn,.int .i64 0,.int .i64 0,.int .i64 0,.hn,.hn,.hn,.hn,.hn,.bool false,.mp n,.mp (n+1)]
def lC(p:List Ap.Mod)(n:Nat):List AV:=[mods p,.hn,.hn,.hn,.int .i64 0,.int .i64 0,.int .i64 0,.hn,.hn,.hn,.hn,.hn,.bool false,.mp n,.mp (n+1)]
def g8(h:Hp)(a b c:List AV):Hp:=h++[a,b,c]
section
variable (h:Hp) (a b c:List AV)
theorem KQ:(g8 h a b c)[h.length]? = some a:=by simp[g8]
theorem Rt:(g8 h a b c)[h.length+1]? = some b:=by simp[g8]
theorem Hf:(g8 h a b c)[h.length+2]? = some c:=by simp[g8]
theorem Ny(x:List AV):(g8 h a b c).set h.length x=g8 h x b c:=by simp[g8]
theorem Nz(x:List AV):(g8 h a b c).set (h.length+1) x=g8 h a x c:=by simp[g8]
theorem NA(x:List AV):(g8 h a b c).set (h.length+2) x=g8 h a b x:=by simp[g8]
end
def MS(m:Ap.Mod):cg 9 m.av=am (.agg (aa m.av)):=aZ rfl
def Uk(c:Cod):cg 4 c.av=am (.agg (aa c.av)):=aZ rfl
theorem vF(a b:AV):dt (.tup [a,b]) 0=some a:=rfl
theorem vG(a b:AV):dt (.tup [a,b]) 1=some b:=rfl
theorem uz(h:Hp){p:List Ap.Mod}(hp:p.length<=20):∀B A:List Ap.Mod,A++B=p->
  (I3 A B=true->∃h',ak (L20_3 (af pg) ak) [mods p,.hp (h.length+2) 0,mods p,.int .i64 p.length,.int .i64 A.length] (g8 h [.tup (bh A 0)] [.tup []] (iA h.length))= .ok (.tup [.nilp,.int .i64 5]) h')/\
  (I3 A B=false->ak (L20_3 (af pg) ak) [mods p,.hp (h.length+2) 0,mods p,.int .i64 p.length,.int .i64 A.length] (g8 h [.tup (bh A 0)] [.tup []] (iA h.length))=
   ak (L20_2 (af pg) ak) [mods p,.hp (h.length+2) 0,mods p,.int .i64 p.length,.int .i64 0] (g8 h [.tup (bh p 0)] [.tup []] (iA h.length)))
 |[],A,e=>by
  rw[XN]at e;subst e;refine⟨fun h=>(by cases h),fun _=>?_⟩;have h1:¬((A.length:Int)<(A.length:Int)):=ZL
  rw[FL20_3];simp_all[L20_3]
 | m:: B,A,e=>by
  have hlen:A.length+(B.length+1)=p.length:=by rw[<- e];simp
  have h1:(A.length:Int)<(p.length:Int):=ZL
  have hx:p[A.length]! = m:=by rw[Xv p A.length ZL];simp[<- e]
  have hix:=Ao (p:=p) (k:=A.length) ZL;rw[hx]at hix;have hw:IntKind.i64.wrap ((A.length:Int)+1)=((A++[m]).length:Nat):=by rw[aS ZL ZL];simp
  have g1:bb T 78 (.hp (h.length+2) (0+13)) (g8 h [.tup (bh A 0)] [.tup []] (iA h.length))= .ok (.mp h.length) (g8 h [.tup (bh A 0)] [.tup []] (iA h.length)):=bL rfl rfl (Hf ..) rfl;obtain⟨v,g2⟩:=Fi (KQ h [.tup (bh A 0)] [.tup []] (iA h.length)) m.name;have ih:=uz h hp B (A++[m]) ZN;have key:ak (L20_3 (af pg) ak) [mods p,.hp (h.length+2) 0,mods p,.int .i64 p.length,.int .i64 A.length] (g8 h [.tup (bh A 0)] [.tup []] (iA h.length))=
    if(A.any fun x=>x.name== m.name)=true then .ok (.tup [.nilp,.int .i64 5]) (g8 h [.tup (bh A 0)] [.tup []] (iA h.length))
    else ak (L20_3 (af pg) ak) [mods p,.hp (h.length+2) 0,mods p,.int .i64 p.length,.int .i64 (A++[m]).length] (g8 h [.tup (bh (A++[m]) 0)] [.tup []] (iA h.length)):=by
   rw[FL20_3];simp -implicitDefEqProofs only[L20_3,ao,au,aB,ae,ai,Xp,Xr h1,hix,Tg,MS,aj,aI,aJ,FH81_1,Nk,NE];rw[ap g1,ap g2];simp -implicitDefEqProofs only[vF,vG,ae,ai];cases ha:A.any fun x=>x.name== m.name with
   |true=>
    rw[Xr rfl,Xr rfl];rfl
   |false=>
    have g3:=Ke (KQ h [.tup (bh A 0)] [.tup []] (iA h.length)) m ha;rw[Ny]at g3;rw[Xn ZM,Xn ZM,ap g1,ap g3];simp_all
  rw[key,I3]
  grind
theorem uA(H:Hp){p:List Ap.Mod}(hp:p.length<=20)(hL:∀m∈p,m.Lim)(a1:AV):∀B A:List Ap.Mod,A++B=p->
  ak (L20_2 (af pg) ak) [mods p,a1,mods p,.int .i64 p.length,.int .i64 A.length] H=
   if B.all ib=true then ak (L20_1 (af pg) ak) [mods p,a1,mods p,.int .i64 p.length,.int .i64 0] H else .ok (.tup [.nilp,.int .i64 1]) H
 |[],A,e=>by
  rw[XN]at e;subst e;have h1:¬((A.length:Int)<(A.length:Int)):=ZL
  rw[FL20_2];simp_all[L20_2]
 | m:: B,A,e=>by
  have hlen:A.length+(B.length+1)=p.length:=by rw[<- e];simp
  have h1:(A.length:Int)<(p.length:Int):=ZL
  have hx:p[A.length]! = m:=by rw[Xv p A.length ZL];simp[<- e]
  have hm:m∈p:=by rw[<- e];simp
  have hix:=Ao (p:=p) (k:=A.length) ZL;rw[hx]at hix;have hw:IntKind.i64.wrap ((A.length:Int)+1)=((A++[m]).length:Nat):=by rw[aS ZL ZL];simp
  have ih:=uA H hp hL a1 B (A++[m]) ZN;have r:=t41 m (hL m hm);rw[FL20_2];simp -implicitDefEqProofs only[L20_2,ao,au,aB,ae,ai,Xp,Xr h1,hix,Tg,MS,aj,aI,r,bc,XL];cases hr:ib m with
  |false=>rfl
  |true=>
   simp_all
section
variable (f:Fun)
theorem UN:ah T 110 (.ip (aa f.av)) 1=some (.ip ((aa f.av).drop 1)):=rfl
theorem Vt:ax T 4 (.ip ((aa f.av).drop 1))=some (.bool f.pub):=rfl
variable (m:Ap.Mod)
theorem UP:ah T 53 (.ip (aa m.av)) 4=some (.ip ((aa m.av).drop 4)):=rfl
theorem Vy:ax T 49 (.ip ((aa m.av).drop 4))=some (iN m.funcs):=rfl
end
def RG{l:List Fun}{k:Nat}(h:k<l.length):aA T 49 (iN l) (.int .i64 (k:Int))=some (.ip (aa (l[k]!).av)):=by
 grind [Bu]
theorem RX(c:Cod):ax T 74 (.ip (aa c.av))=some c.av:=rfl
theorem Ui(a:Int)(b:Bool)(c:Cod)(l:List Int):cE T false 76 [(0,.int .i64 a),(1,.bool b),(2,c.av),(3,ints l)]=some (Fnc.av ⟨a,b,c,l⟩):=rfl
theorem AE(h:Hp)(p:List Ap.Mod)(I:List AV)(V:List AV->M AV){m:Ap.Mod}(K:ModOk m)(hc:∀f∈m.funcs,dO 12 f.body<=1000){i:Nat}(hi:i<=20)(F:List F0)(hF:F.find? (fun e=>e.1== m.name)=none)(x4:Int):∀D C:List Fun,C++D=m.funcs->
  ((D.all fun f=>(dj (dn m.vars f)).isSome)=true->ak (L20_0 (af pg) ak V) [mods p,.hp (h.length+2) 0,.int .i64 i,.ip (aa m.av),mods p,.int .i64 x4,.int .i64 i,yb (m.funcs.map (dn m.vars)),.int .i64 m.funcs.length,.int .i64 C.length] (g8 h I [.tup (ck (F++kb i m C))] (iA h.length))=
   V [mods p,.hp (h.length+2) 0,mods p,.int .i64 x4,.int .i64 ((i+1:Nat):Int)] (g8 h I [.tup (ck (F++kb i m m.funcs))] (iA h.length)))/\
  ((D.all fun f=>(dj (dn m.vars f)).isSome)=false->∃h',ak (L20_0 (af pg) ak V) [mods p,.hp (h.length+2) 0,.int .i64 i,.ip (aa m.av),mods p,.int .i64 x4,.int .i64 i,yb (m.funcs.map (dn m.vars)),.int .i64 m.funcs.length,.int .i64 C.length] (g8 h I [.tup (ck (F++kb i m C))] (iA h.length))=
   .ok (.tup [.nilp,.int .i64 13]) h')
 |[],C,e=>by
  rw[XN]at e;subst e;refine⟨fun _=>?_,fun h=>(by cases h)⟩;have h1:¬((m.funcs.length:Int)<(m.funcs.length:Int)):=ZL
  have hw:IntKind.i64.wrap ((i:Int)+1)=((i+1:Nat):Int):=by rw[aS ZL ZL];omega
  rw[FL20_0];simp_all[L20_0]
 | f :: D,C,e=>by
  have hfl:=K.flen;have hlen:C.length+(D.length+1)=m.funcs.length:=by rw[<- e];simp
  have h1:(C.length:Int)<(m.funcs.length:Int):=ZL
  have hx:m.funcs[C.length]! = f:=by rw[Xv m.funcs C.length ZL];simp[<- e]
  have hf:f∈m.funcs:=by rw[<- e];simp
  have hy:(m.funcs.map (dn m.vars))[C.length]! = dn m.vars f:=by
   rw[Xv _ C.length ZQ,ZC];congr 1;rw[<- hx,Xv m.funcs C.length ZL]
  have ik:=WK (l:=m.funcs.map (dn m.vars)) (n:=C.length) ZQ;rw[hy]at ik;have hix:=RG (l:=m.funcs) (k:=C.length) ZL;rw[hx]at hix;have hw:IntKind.i64.wrap ((C.length:Int)+1)=((C++[f]).length:Nat):=by rw[aS ZL ZL];simp
  have FO:=K.fns f hf;have cb:=Dq (vars:=m.vars) FO (hc f hf);have r:=t43 (dn m.vars f) cb.1 (GE FO).2;have ih:=AE h p I V K hc hi F hF x4 D (C++[f]) ZN;have g1:bb T 79 (.hp (h.length+2) (0+14)) (g8 h I [.tup (ck (F++kb i m C))] (iA h.length))= .ok (.mp (h.length+1)) (g8 h I [.tup (ck (F++kb i m C))] (iA h.length)):=bL rfl rfl (Hf ..) rfl;have hnf:(F++kb i m C).find? (kS m.name f.name)=none:=by
   rw[YY];have e1:F.find? (kS m.name f.name)=none:=by
    rw[Zs]at hF |-;intro x hx
    have:=hF x hx
    unfold kS;simp only[Xq,not_and];intro h;exact absurd h this
   have e2:(kb i m C).find? (kS m.name f.name)=none:=by
    rw[lL,Xr rfl];have:C.find? (fun g=>g.name== f.name)=none:=by
     rw[Zs];intro g hg;have hn:=K.fnames;rw[<- e,Y5,Ye]at hn
     have:=(Zu.1 hn).2.2 g.name (YK.2 ⟨g,hg,rfl⟩) f.name ZO
     simpa using this
    rw[this];rfl
   rw[e1,e2];rfl
  have g3:=N5 (Rt h I [.tup (ck (F++kb i m C))] (iA h.length)) m.name f.name (ym i m f) hnf;rw[Nz,Yd,show kb i m C++[(m.name,f.name,ym i m f)]=kb i m (C++[f]) by rw[G5];rfl]at g3;rw[FL20_0,XL];simp -implicitDefEqProofs only[L20_0,ao,au,aB,ae,ai,Xp,Xr h1,ik,RX,Uk,aj,aI,r];cases hh:dj (dn m.vars f)with
  |none=>
   refine⟨fun h=>(by cases h),fun _=>⟨g8 h I [.tup (ck (F++kb i m C))] (iA h.length),?_⟩⟩;have en:dt (Ow none) 1=some (.bool false):=rfl;have en0:∃v,dt (Ow none) 0=some v:=⟨_,rfl⟩;obtain⟨v,en0⟩:=en0;simp -implicitDefEqProofs only[en,en0,ae,bc,X3,ai,XA];rfl
  |some hl=>
   have en:dt (Ow (some hl)) 1=some (.bool true):=rfl;have en0:dt (Ow (some hl)) 0=some (ints hl):=rfl;have ef:ym i m f=⟨i,f.pub,dn m.vars f,hl⟩:=by unfold ym;rw[hh];rfl
   rw[ef]at g3;have ef2:(dn m.vars f).func=f.name:=rfl;simp -implicitDefEqProofs only[en,en0,ae,bc,XH,Xo,Xu,aJ,FH81_2,Zr,Yr,ai];rw[ap g1];simp -implicitDefEqProofs only[Nk,NE,fK0,Vv,ef2,wo,UP,Vy,hix,UN,Vt,Ui,ae];rw[ap g3];simp -implicitDefEqProofs only[bj,hw,ae];exact ih
def V9(p:List Ap.Mod)(hp:p.length<=1000000):af pg 44 [mods p]=am (mods p):=by
 have e:af pg 44 [mods p]=ep T 22 (af pg) [mods p]:=d8 gZ rfl _;rw[e]
 have:=lG (T:=T) (t:=22) (e:=53) rfl rfl rfl (f:=Mod.av) (fun m=>qa m) (a:=[]) (b:=p) ZN ZM
 simp only[XW]at this;show bP (dG T 22 (.sl (([]:List Ap.Mod).map Mod.av)) (.sl (p.map Mod.av)))=_;rw[this];rfl
theorem xc(h:Hp){p:List Ap.Mod}(hp:p.length<=20)(hL:∀m∈p,m.Lim)(hr:∀m∈p,ib m=true)(hc:∀m∈p,∀f∈m.funcs,dO 12 f.body<=1000)(hn:(p.map (·.name)).Nodup)(I:List AV):∀B A:List Ap.Mod,A++B=p->
  ((B.all fun m=>m.funcs.all fun f=>(dj (dn m.vars f)).isSome)=true->ak (L20_1 (af pg) ak) [mods p,.hp (h.length+2) 0,mods p,.int .i64 p.length,.int .i64 A.length] (g8 h I [.tup (ck (aT 0 A))] (iA h.length))=
   .ok (.tup [.hp (h.length+2) 0,.int .i64 0]) (g8 h I [.tup (ck (aT 0 p))] (lC p h.length)))/\
  ((B.all fun m=>m.funcs.all fun f=>(dj (dn m.vars f)).isSome)=false->∃h',ak (L20_1 (af pg) ak) [mods p,.hp (h.length+2) 0,mods p,.int .i64 p.length,.int .i64 A.length] (g8 h I [.tup (ck (aT 0 A))] (iA h.length))=
   .ok (.tup [.nilp,.int .i64 13]) h')
 | [],A,e=>by
  rw[XN]at e;subst e;refine⟨fun _=>?_,fun h=>(by cases h)⟩;have h1:¬((A.length:Int)<(A.length:Int)):=ZL
  have s1:bU T 22 (.hp (h.length+2) (0+0+0)) (mods A) (g8 h I [.tup (ck (aT 0 A))] (iA h.length))= .ok (.tup []) (g8 h I [.tup (ck (aT 0 A))] (lC A h.length)):=by
   rw[bX (T:=T) (t:=22) rfl (Hf ..) rfl (by show (_:Nat)<=15;decide) ZM,NA];rfl
  rw[FL20_1];simp -implicitDefEqProofs only[L20_1,ao,au,aB,ae,ai,Xp,Xn h1,V9 A ZL,aj,aJ,FH81_0,FH39_0];rw[ap s1];rfl
 | m :: B,A,e=>by
  have hlen:A.length+(B.length+1)=p.length:=by rw[<- e];simp
  have h1:(A.length:Int)<(p.length:Int):=ZL
  have hx:p[A.length]! = m:=by rw[Xv p A.length ZL];simp[<- e]
  have hm:m∈p:=by rw[<- e];simp
  have hix:=Ao (p:=p) (k:=A.length) ZL;rw[hx]at hix;have r:=t42 m (hL m hm);rw[Xr (hr m hm)]at r;have lk:=VJ (m.funcs.map (dn m.vars));rw[Yt]at lk;have hF:(aT 0 A).find? (fun e=>e.1== m.name)=none:=by
   have key:∀(l:List Ap.Mod)(i:Nat),(∀x∈l,x.name≠m.name)->(aT i l).find? (fun e=>e.1== m.name)=none:=by
    intro l
    induction l with
    |nil=>intro i _;rfl
    | cons x l ih=>
     intro i hh;rw[aT,YY,ih (i+1) fun y hy=>hh y (by simp[hy])];have:(kb i x x.funcs).find? (fun e=>e.1== m.name)=none:=by
      rw[Zs];intro e he;unfold kb at he;obtain⟨f,_,rfl⟩:=YK.1 he;simpa using hh x ZO
     grind
   refine key A 0 fun x hx=>?_;rw[<- e,Y5,Ye]at hn;exact (Zu.1 hn).2.2 x.name (YK.2 ⟨x,hx,rfl⟩) m.name ZO
  have L0:=AE h p I (ak (L20_1 (af pg) ak)) (uD (hr m hm)) (hc m hm) (i:=A.length) ZL (aT 0 A) hF p.length m.funcs [] rfl;have ih:=xc h hp hL hr hc hn I B (A++[m]) ZN;have ea:aT 0 A++kb A.length m m.funcs=aT 0 (A++[m]):=by
   rw[rN,XE];simp[aT]
  have e0:aT 0 A++kb A.length m []=aT 0 A:=by simp[kb]
  rw[ea,e0,show ((A.length+1:Nat):Int)=((A++[m]).length:Nat) by simp]at L0;have key:ak (L20_1 (af pg) ak) [mods p,.hp (h.length+2) 0,mods p,.int .i64 p.length,.int .i64 A.length] (g8 h I [.tup (ck (aT 0 A))] (iA h.length))=
    ak (L20_0 (af pg) ak (ak (L20_1 (af pg) ak))) [mods p,.hp (h.length+2) 0,.int .i64 A.length,.ip (aa m.av),mods p,.int .i64 p.length,.int .i64 A.length,yb (m.funcs.map (dn m.vars)),.int .i64 m.funcs.length,.int .i64 0] (g8 h I [.tup (ck (aT 0 A))] (iA h.length)):=by
   rw[FL20_1];simp -implicitDefEqProofs only[L20_1,ao,au,aB,ae,ai,Xp,Xr h1,hix,Tg,MS,aj,aI,r,lk]
  grind
theorem t20(h:Hp){p:List Ap.Mod}(hL:∀m∈p,m.Lim)(hc:∀m∈p,∀f∈m.funcs,dO 12 f.body<=1000):
  (jv p=0->af pg 20 [mods p] h= .ok (.tup [.hp (h.length+2) 0,.int .i64 0]) (g8 h [.tup (bh p 0)] [.tup (ck (aT 0 p))] (lC p h.length)))/\
  (jv p≠0->∃h',af pg 20 [mods p] h= .ok (.tup [.nilp,.int .i64 (jv p)]) h'):=by
 unfold jv jN;by_cases h20:20<p.length
 ·rw[Xr h20,Xr ZM];refine⟨fun h=>(by cases h),fun _=>⟨h,?_⟩⟩;have h1:(20:Int)<(p.length:Int):=ZL
  rw[C20];simp -implicitDefEqProofs only[S20,pU,ae,dQ,ai,Xp,Xr h1];rfl
 ·rw [Xn h20];have hp:p.length<=20:=ZL
  have h1:¬((20:Int)<(p.length:Int)):=ZL
  have n1:fW h= .ok (.mp h.length) (h++[[.tup []]]):=rfl;have n2:fW (h++[[.tup []]])= .ok (.mp (h.length+1)) (h++[[.tup []]]++[[.tup []]]):=by
   show R.ok (AV.mp (h++[[AV.tup []]]).length) _=_;rw[XI];rfl
  have b1:cE T true 81 [(1,.mp h.length),(2,.mp (h.length+1))]=some (.agg (iA h.length)):=rfl;have n3:newH (iA h.length) (h++[[.tup []]]++[[.tup []]])= .ok (.hp (h.length+2) 0) (g8 h [.tup []] [.tup []] (iA h.length)):=by
   have:newH (iA h.length) (h++[[.tup []]]++[[.tup []]])= .ok (.hp (h++[[AV.tup []]]++[[AV.tup []]]).length 0) ((h++[[.tup []]]++[[.tup []]])++[iA h.length]):=rfl;rw[this];simp[g8]
  have start:af pg 20 [mods p] h=ak (L20_3 (af pg) ak) [mods p,.hp (h.length+2) 0,mods p,.int .i64 p.length,.int .i64 0] (g8 h [.tup []] [.tup []] (iA h.length)):=by
   rw[C20];simp -implicitDefEqProofs only[S20,pU,ae,dQ,ai,Xp,Xn h1];rw[ap n1,ap n2,b1,ae,aI,ap n3]
  have Ln:=uz h hp p [] rfl;have e0:bh ([]:List Ap.Mod) 0=[]:=rfl;rw[e0]at Ln;rw[start,vu];cases ht:I3 [] p with
  |true=>
   grind
  | false=>
   rw[Xn (show ¬(false:Bool)=true by decide),Xn (show ¬(0:Int)≠0 by decide)];have L2:=Ln.2 ht;have L1:=uA (g8 h [.tup (bh p 0)] [.tup []] (iA h.length)) hp hL (.hp (h.length+2) 0) p [] rfl;have L2':ak (L20_3 (af pg) ak) [mods p,.hp (h.length+2) 0,mods p,.int .i64 p.length,.int .i64 0] (g8 h [.tup []] [.tup []] (iA h.length))=_:=L2.trans L1;rw[L2'];cases hr:p.all ib with
   |false=>
    grind
   | true=>
    rw[Xn (show ¬(true:Bool)=false by decide),Xr (show (true:Bool)=true from rfl)];have hn:(p.map (·.name)).Nodup:=sy (by rw[vu];exact ht);have L3:=xc h hp hL (XF.1 hr) hc hn [.tup (bh p 0)] p [] rfl;cases hh:p.all fun m=>m.funcs.all fun f=>(dj (dn m.vars f)).isSome with
    |false=>
     rw[Xr (show (false:Bool)=false from rfl)];exact⟨fun h=>absurd h ZM,fun _=>L3.2 hh⟩
    |true=>
     rw[Xn (show ¬(true:Bool)=false by decide)];exact⟨fun _=>L3.1 hh,fun h=>absurd rfl h⟩
def kz{x:AV}(h:ay x=true):gG x=am x:=by unfold gG;rw[h];rfl
def QK(l:List Int)(hp:l.length<=1000000):af pg 23 [ints l]=am (ints l):=by
 have e:af pg 23 [ints l]=ep T 24 (af pg) [ints l]:=d8 gZ rfl _;rw[e]
 have:=OQ (a:=[]) (b:=l) ZQ
 simp only[XW]at this;show bP (dG T 24 (ints []) (ints l))=_;rw[this];rfl
def OR(x:AV)(h:Hp):af pg 112 [x] h=cu T 29 (af pg) [x] h:=by
 have e:af pg 112 [x]=cu T 29 (af pg) [x]:=d8 gZ rfl _;rw[e]
def OS(x:AV)(h:Hp):af pg 113 [x] h=cu T 34 (af pg) [x] h:=by
 have e:af pg 113 [x]=cu T 34 (af pg) [x]:=d8 gZ rfl _;rw[e]
def OT(x:AV)(h:Hp):af pg 114 [x] h=cu T 35 (af pg) [x] h:=by
 have e:af pg 114 [x]=cu T 35 (af pg) [x]:=d8 gZ rfl _;rw[e]
def fJ(l:List Frm):List AV:=l.flatMap fun f=>aa f.av
theorem rE(tag:Nat->Nat)(h:Hp):∀l:List Ap.Call,eV tag h l (l.flatMap fun c=>aa c.av)
 |[]=>rfl
 |c:: l=>⟨vals c.args,l.flatMap fun c=>aa c.av,rfl,.inl rfl,rE tag h l⟩
def V6{tag:Nat->Nat}{h:Hp}{k:Nat}{l:List Val}{v:AV}(H:de tag k h l v):bT 1 v=true/\aa v=[v]:=by
 rcases de.shape H with rfl|rfl|⟨r,rfl⟩<;>exact⟨rfl,rfl⟩
theorem rW{fr:List Frm}{r:Nat}(Q:(Nat->Nat)->Hp->Prop)(hQ:∀ {tag tag':Nat->Nat} {h h':Hp} {ks:Nat->Prop},Kp tag tag' ks h h'->(∀k,ks k->k=7)->Q tag h->Q tag' h')(hn:fr.length<=1000000)(hv:∀f∈fr,f.locals.length<=1000000/\f.stack.length<=1000000)(a2 a3 a5 a6 a7 a8 a9 a10 a11 a12 a13 a14 a15 a16 a17 a18 a19 a20 a21 a22 a23 a24 a25 a26 a27:AV):∀(B A:List Frm)(tag:Nat->Nat)(h:Hp)(cs:List AV),A++B=fr->Q tag h->tag r=7->h[r]? = some (cs++fJ B)->eh tag h 0 A cs->
  ∃ h' tag' cs',ak (L57_0 (af pg) ak) [.int .i64 fr.length,.int .i64 A.length,a2,a3,.hs r 0 fr.length 5 true,a5,a6,a7,a8,a9,a10,a11,a12,a13,a14,a15,a16,a17,a18,a19,a20,a21,a22,a23,a24,a25,a26,a27] h=
    ak (L57_0 (af pg) ak) [.int .i64 fr.length,.int .i64 fr.length,a2,a3,.hs r 0 fr.length 5 true,a5,a6,a7,a8,a9,a10,a11,a12,a13,a14,a15,a16,a17,a18,a19,a20,a21,a22,a23,a24,a25,a26,a27] h'/\
   Q tag' h'/\tag' r=7/\h'[r]? = some cs'/\eh tag' h' 0 fr cs'
 |[],A,tag,h,cs,e,H,ht,hr,HF=>by
  rw[XN]at e;subst e;refine⟨h,tag,cs,rfl,H,ht,?_,HF⟩;rw[hr];simp[fJ]
 | f:: B,A,tag,h,cs,e,H,ht,hr,HF=>by
  have hlen:A.length+(B.length+1)=fr.length:=by rw[<- e];simp
  have h1:(A.length:Int)<(fr.length:Int):=ZL
  have hf:f∈fr:=by rw[<- e];simp
  have hcl:=HF.len;have hix:aA T 29 (.hs r 0 fr.length 5 true) (.int .i64 (A.length:Int))=some (.hp r (0+A.length*5)):=by
   show (if(0:Int)<=(A.length:Int)/\(A.length:Int)<((fr.length:Nat):Int)then some (AV.hp r (0+(A.length:Int).toNat*5))else none)=_;rw[Xr ZL];simp
  have hrow:h[r]? = some (cs++iO f (vals f.locals) (vals f.stack)++fJ B):=by rw[hr,Yd];rfl
  have g1:bb T 23 (.hp r (0+A.length*5+3)) h= .ok (vals f.locals) h:=bL rfl rfl hrow (by
   rw[Yd,XT ZL,show 0+A.length*5+3-cs.length=3 by omega];rfl)
  have g2:bb T 23 (.hp r (0+A.length*5+4)) h= .ok (vals f.stack) h:=bL rfl rfl hrow (by
   rw[Yd,XT ZL,show 0+A.length*5+4-cs.length=4 by omega];rfl)
  obtain⟨h2,tag2,lv,e2,K2,V2⟩:=mo (T:=T) (t:=23) (e:=33) rfl rfl rfl rfl rfl ZM (af pg) tag h f.locals (XM (Xy _ (hv f hf).1) ZM) (11+3*A.length);obtain⟨h3,tag3,sv,e3,K3,V3⟩:=mo (T:=T) (t:=23) (e:=33) rfl rfl rfl rfl rfl ZM (af pg) tag2 h2 f.stack (XM (Xy _ (hv f hf).2) ZM) (12+3*A.length);have K23:=K2.trans K3;have r3:=K23 _ _ hrow ZN;have t3:tag3 r=7:=r3.2.trans ht;have o2:=V6 V2;have o3:=V6 V3;have hl0:0+A.length*5=cs.length:=ZL
  have s1:bU T 23 (.hp r (0+A.length*5+3)) lv h3= .ok (.tup []) (h3.set r (cs++iO f lv (vals f.stack)++fJ B)):=by
   rw[bX (T:=T) (t:=23) rfl r3.1 o2.1 (by rw[Yd,XI,XI];show 0+A.length*5+3+1<=cs.length+(5+_);omega) ZM,hl0,set_mid (D:=iO f lv (vals f.stack)) (by show 3<5;decide) rfl (by rw[o2.2];rfl) o2.2]
  have k4:(h3.set r (cs++iO f lv (vals f.stack)++fJ B))[r]? = some (cs++iO f lv (vals f.stack)++fJ B):=XS (Xx.1 r3.1).1;have s2:bU T 23 (.hp r (0+A.length*5+4)) sv (h3.set r (cs++iO f lv (vals f.stack)++fJ B))= .ok (.tup []) ((h3.set r (cs++iO f lv (vals f.stack)++fJ B)).set r (cs++iO f lv sv++fJ B)):=by
   rw[bX (T:=T) (t:=23) rfl k4 o3.1 (by rw[Yd,XI,XI];show 0+A.length*5+4+1<=cs.length+(5+_);omega) ZM,hl0,set_mid (D:=iO f lv sv) (by show 4<5;decide) rfl (by rw[o3.2];rfl) o3.2]
  rw[List.set_set]at s2;have K4:Kp tag3 tag3 (fun k=>k=7) h3 (h3.set r (cs++iO f lv sv++fJ B)):=W8 t3 _;have K:=K23.trans K4;have H4:=hQ (K.mono (js:=fun k=>k=7) fun k hk=>hk.elim (fun h=>h.elim False.elim False.elim) id) (fun k hk=>hk) H;have F4:eh tag3 (h3.set r (cs++iO f lv sv++fJ B)) 0 A cs:=HF.keep K fun j _ _=>
   ⟨fun hh=>hh.elim (fun h=>h.elim id id) fun h=>ZL,fun hh=>hh.elim (fun h=>h.elim id id) fun h=>ZL⟩
  have F5:=F4.snoc (f:=f) (by rw[XE];exact (V2.keep K3 id).keep K4 ZL) (by rw[XE];exact V3.keep K4 ZL);have r5:(h3.set r (cs++iO f lv sv++fJ B))[r]? = some ((cs++iO f lv sv)++fJ B):=XS (Xx.1 r3.1).1;have hw1:IntKind.i64.wrap ((A.length:Int)+1)=((A++[f]).length:Nat):=by rw[aS ZL ZL];simp
  obtain⟨h',tag',cs',k1,k2,k3,k5,k6⟩:=rW Q hQ hn hv a2 a3 a5 a6 a7 a8 a9 a10 a11 a12 a13 a14 a15 a16 a17 a18 a19 a20 a21 a22 a23 a24 a25 a26 a27 B (A++[f]) tag3 _ (cs++iO f lv sv) ZN H4 t3 r5 F5;refine⟨h',tag',cs',?_,k2,k3,k5,k6⟩;rw[<- k1,FL57_0];simp -implicitDefEqProofs only[L57_0,ao,au,aB,ae,ai,Xp,Xr h1,hix,aJ,FH62_3,FH62_4];rw[ap g1,ap g2,ap ((xI _ h).trans e2),ap ((xI _ h2).trans e3),ap s1,ap s2];simp_all
structure ClB (p:Proc):Prop where
 mods:p.mods.length<=1000000
 state:p.state.length<=1000000/\∀w∈p.state,w.values.length<=1000000
 frames:p.frames.length<=1000000/\∀f∈p.frames,f.locals.length<=1000000/\f.stack.length<=1000000
 world:p.world.length<=1000000
 deeds:p.out.deeds.length<=1000000
 calls:p.out.calls.length<=1000000
 ostate:p.out.state.length<=1000000/\∀w∈p.out.state,w.values.length<=1000000
structure MC (tag:Nat->Nat) (sv fv dv cv ov:AV) (p:Proc) (h:Hp):Prop where
 st:fX tag 5 2 p.state.length (fun cs=>om tag h 0 p.state cs) sv h
 fr:fX tag 7 5 p.frames.length (fun cs=>eh tag h 0 p.frames cs) fv h
 ds:fX tag 2 3 p.out.deeds.length (fun cs=>cs=cO p.out.deeds) dv h
 cs:fX tag 3 3 p.out.calls.length (fun cs=>eV tag h p.out.calls cs) cv h
 os:fX tag 9 2 p.out.state.length (fun cs=>vE tag h p.out.state cs) ov h
 oz:p.out.state=[]->ov= .hn
def sF(p:Proc)(sv fv dv cv ov:AV):List AV:=[mods p.mods,sv,fv,ints p.world,.int .i64 p.out.err,.int .i64 p.out.value.kind,.int .i64 p.out.value.n,strs p.out.value.names,vals p.out.value.values,dv,cv,ov,.bool p.ended]
def yc{tag:Nat->Nat}{sv fv dv cv ov:AV}{p:Proc}{h:Hp}(H:MC tag sv fv dv cv ov p h):bT 13 (.agg (sF p sv fv dv cv ov))=true:=by
 show (_&&(ay (mods p.mods)&&(ay sv&&(ay fv&&(ay (ints p.world)&&(ay (.int .i64 p.out.err)&&(ay (.int .i64 p.out.value.kind)&&(ay (.int .i64 p.out.value.n)&&(ay (strs p.out.value.names)&&(ay (vals p.out.value.values)&&(ay dv&&(ay cv&&(ay ov&&(ay (.bool p.ended)&&true))))))))))))))=true;rw[H.st.okC,H.fr.okC,H.ds.okC,H.cs.okC,H.os.okC];rfl
theorem t57(p:Proc)(hb:ClB p)(tag:Nat->Nat)(h:Hp):
  ∃h' tag' sv fv dv cv ov,af pg 57 [p.av] h= .ok (.agg (sF p sv fv dv cv ov)) h'/\Kp tag tag' (fun k=>2<=k) h h'/\MC tag' sv fv dv cv ov p h':=by
 have c0:cg 13 p.av=am (.agg p.cells):=aZ rfl;have mono:∀ {tag tag2 tag3:Nat->Nat} {h h2 h3:Hp} {ks:Nat->Prop},Kp tag tag2 (fun k=>2<=k) h h2->Kp tag2 tag3 ks h2 h3->(∀k,ks k->2<=k)->Kp tag tag3 (fun k=>2<=k) h h3:=fun K1 K2 hk=>(K1.trans K2).mono fun k h=>h.elim id (hk k)
 -- the state
 obtain⟨h1,tag1,sv,e1,K1,S1,_⟩:=Ds (st:=p.state) (fun i=>10+3*i) 5 (fun j=>ZL) (fun tag2 h2=>Kp tag tag2 (fun k=>2<=k) h h2) (fun K hk H=>mono H K fun k h=>ZN) (fun r cs hr _=>⟨hr,rfl⟩) hb.state.1 hb.state.2;have T1:=S1.mono (c':=fun cs=>om tag1 h1 0 p.state cs) fun cs h=>h.st
 -- the frames
 have hfl:(p.frames.map Frm.av).length=p.frames.length:=Yt _;obtain⟨h2,tag2,fv,e2,K2,S2,sh⟩:=tv (T:=T) (t:=29) (e:=62) (sz:=5) rfl rfl rfl rfl ZM rfl ZM (af pg) tag1 h1 (p.frames.map Frm.av) (eQ (fun f=>rfl) _) (by rw[hfl];exact XM (Xy _ hb.frames.1) ZM) 7;have e2':af pg 112 [lx p.frames] h1= .ok fv h2:=(OR _ h1).trans e2;have hcells:(p.frames.map Frm.av).flatMap aa=fJ p.frames:=by rw[List.flatMap_map];rfl
 rw[hfl,hcells]at S2 sh;have K12:=mono K1 K2 fun k h=>h.elim;have T2:fX tag2 5 2 p.state.length (fun cs=>om tag2 h2 0 p.state cs) sv h2:=T1.keep K2 id fun _ h=>h.keep K2 fun _=>id;have hln:bm T 29 fv=some (.int .i64 p.frames.length):=by
  rcases sh with⟨rfl,h0⟩|⟨rfl,_⟩
  ·have:p.frames=[]:=by simpa using h0
   rw[this];rfl
  ·rfl
 -- the loop
 have loop:∀(a2 a3 a5 a6 a7 a8 a9 a10 a11 a12 a13 a14 a15 a16 a17 a18 a19 a20 a21 a22 a23 a24 a25 a26 a27:AV),∃h3 tag3,ak (L57_0 (af pg) ak) [.int .i64 p.frames.length,.int .i64 0,a2,a3,fv,a5,a6,a7,a8,a9,a10,a11,a12,a13,a14,a15,a16,a17,a18,a19,a20,a21,a22,a23,a24,a25,a26,a27] h2=
    ak (L57_0 (af pg) ak) [.int .i64 p.frames.length,.int .i64 p.frames.length,a2,a3,fv,a5,a6,a7,a8,a9,a10,a11,a12,a13,a14,a15,a16,a17,a18,a19,a20,a21,a22,a23,a24,a25,a26,a27] h3/\
   Kp tag tag3 (fun k=>2<=k) h h3/\fX tag3 5 2 p.state.length (fun cs=>om tag3 h3 0 p.state cs) sv h3/\fX tag3 7 5 p.frames.length (fun cs=>eh tag3 h3 0 p.frames cs) fv h3:=by
  intro a2 a3 a5 a6 a7 a8 a9 a10 a11 a12 a13 a14 a15 a16 a17 a18 a19 a20 a21 a22 a23 a24 a25 a26 a27;by_cases h0:p.frames=[]
  ·rw[h0];have hfv:fv= .he:=by
    rcases sh with⟨h,_⟩|⟨h,hh⟩
    ·exact h
    ·rcases S2 with⟨_,hv,_⟩|⟨r,cs,rest,_,_,hcs,hne,hl,_,hc⟩
     all_goals grind
   exact⟨h2,tag2,rfl,K12,T2,.inl ⟨rfl,.inr hfv,rfl⟩⟩
  ·have hpos:0<p.frames.length:=Yl.2 h0;rcases S2 with⟨hz,_⟩|⟨r,cs,rest,rfl,ht,hr,hne,hl,hok,rfl⟩
   ·omega
   ·rcases sh with⟨h,_⟩|⟨h,hh⟩
    ·cases h
    ·cases h;have hr2:h2[h1.length]? = some ([]++fJ p.frames):=by rw[hh];simp
     obtain⟨h3,tag3,cs',k1,k2,k3,k4,k5⟩:=rW (fr:=p.frames) (r:=h1.length) (fun tag3 h3=>Kp tag tag3 (fun k=>2<=k) h h3/\fX tag3 5 2 p.state.length (fun cs=>om tag3 h3 0 p.state cs) sv h3)
      (fun K hk H=>⟨mono H.1 K fun k h=>ZN,H.2.keep K (fun h=>ZN) fun _ h=>h.keep K fun j hh=>ZN⟩) hb.frames.1 hb.frames.2 a2 a3 a5 a6 a7 a8 a9 a10 a11 a12 a13 a14 a15 a16 a17 a18 a19 a20 a21 a22 a23 a24 a25 a26 a27
      p.frames [] tag2 h2 [] rfl ⟨K12,T2⟩ ht hr2 rfl
     refine⟨h3,tag3,k1,k2.1,k2.2,.inr ⟨h1.length,cs',[],rfl,k3,ZN,?_,k5.len,by rw[XN];exact k5.ok,k5⟩⟩;intro hh
     have:=XY List.length hh
     rw[XN,k5.len]at this
     grind
 obtain⟨h3,tag3,e3,K3,T3,F3⟩:=loop (mods p.mods) sv (ints p.world) (.int .i64 p.out.err) (.int .i64 p.out.value.kind) (.int .i64 p.out.value.n) (strs p.out.value.names) (vals p.out.value.values) (deeds p.out.deeds) (calls p.out.calls) (br p.out.state) (.bool p.ended) (.sl []) (.sl []) (.sl []) (.sl []) (.int .i64 0) (.int .i64 0) (.int .i64 0) (.sl []) (.sl []) (.sl []) (.sl []) (.sl []) (.bool false)
 -- deeds and calls
 have hdl:(p.out.deeds.map Deed.av).length=p.out.deeds.length:=Yt _;obtain⟨h4,tag4,dv,e4,K4,S4,_⟩:=tv (T:=T) (t:=34) (e:=102) (sz:=3) rfl rfl rfl rfl ZM rfl ZM (af pg) tag3 h3 (p.out.deeds.map Deed.av) (eQ (fun f=>rfl) _) (by rw[hdl];exact XM (Xy _ hb.deeds) ZM) 2;have e4':af pg 113 [deeds p.out.deeds] h3= .ok dv h4:=(OS _ h3).trans e4;rw[hdl]at S4;have hxl:(p.out.calls.map Ap.Call.av).length=p.out.calls.length:=Yt _;obtain⟨h5,tag5,cv,e5,K5,S5,_⟩:=tv (T:=T) (t:=35) (e:=127) (sz:=3) rfl rfl rfl rfl ZM rfl ZM (af pg) tag4 h4 (p.out.calls.map Ap.Call.av) (eQ (fun f=>rfl) _) (by rw[hxl];exact XM (Xy _ hb.calls) ZM) 3;have e5':af pg 114 [calls p.out.calls] h4= .ok cv h5:=(OT _ h4).trans e5;rw[hxl]at S5;have K45:=K4.trans K5;have z45:¬(False\/False):=fun h=>h.elim id id;have T5:fX tag5 5 2 p.state.length (fun cs=>om tag5 h5 0 p.state cs) sv h5:=T3.keep K45 z45 fun _ h=>h.keep K45 fun _=>z45;have F5:fX tag5 7 5 p.frames.length (fun cs=>eh tag5 h5 0 p.frames cs) fv h5:=F3.keep K45 z45 fun _ h=>h.keep K45 fun _ _ _=>⟨z45,z45⟩;have D5:fX tag5 2 3 p.out.deeds.length (fun cs=>cs=cO p.out.deeds) dv h5:=(S4.mono (c':=fun cs=>cs=cO p.out.deeds) fun cs h=>by rw[h,List.flatMap_map];rfl).keep K5 id fun _ h=>h;have X5:fX tag5 3 3 p.out.calls.length (fun cs=>eV tag5 h5 p.out.calls cs) cv h5:=S5.mono fun cs h=>by
  grind [List.flatMap_map,rE]
 have K35:=mono K3 K45 fun k h=>(z45 h).elim
 -- the state of the outcome
 obtain⟨h6,tag6,ov,e6,⟨K6,T6,F6,D6,X6⟩,S6,z6⟩:=Ds (st:=p.out.state) (fun _=>8) 9 (fun j=>ZL) (fun tag2 h2=>Kp tag tag2 (fun k=>2<=k) h h2/\fX tag2 5 2 p.state.length (fun cs=>om tag2 h2 0 p.state cs) sv h2/\fX tag2 7 5 p.frames.length (fun cs=>eh tag2 h2 0 p.frames cs) fv h2/\
   fX tag2 2 3 p.out.deeds.length (fun cs=>cs=cO p.out.deeds) dv h2/\fX tag2 3 3 p.out.calls.length (fun cs=>eV tag2 h2 p.out.calls cs) cv h2) (fun K hk H=>by
   have n:∀k,k≠9->¬_:=fun k h1 hh=>h1 (hk k hh);exact⟨mono H.1 K fun k h=>ZN,H.2.1.keep K (n _ ZL) fun _ h=>h.keep K fun j=>n _ ZL,H.2.2.1.keep K (n _ ZL) fun _ h=>h.keep K fun j _ _=>⟨n _ ZL,n _ ZL⟩,H.2.2.2.1.keep K (n _ ZL) fun _ h=>h,H.2.2.2.2.keep K (n _ ZL) fun _ h=>h.keep K (n _ ZL)⟩)
   ⟨K35,T5,F5,D5,X5⟩ hb.ostate.1 hb.ostate.2
 have M6:MC tag6 sv fv dv cv ov p h6:=⟨T6,F6,D6,X6,S6.mono fun cs h=>h.vs,z6⟩;have hrow:bF 13 [] (.agg (sF p sv fv dv cv ov))=am (.agg (sF p sv fv dv cv ov)):=by
  rw[iq (yc M6)];rfl
 unfold sF at hrow;refine⟨h6,tag6,sv,fv,dv,cv,ov,?_,K6,M6⟩;rw[C57];have p0':ab p.cells 0=mods p.mods:=rfl;have p1':ab p.cells 1=br p.state:=rfl;have p2':ab p.cells 2=lx p.frames:=rfl;have p3':ab p.cells 3=ints p.world:=rfl;have p4':ab p.cells 4= .int .i64 p.out.err:=rfl;have p5':ab p.cells 5= .int .i64 p.out.value.kind:=rfl;have p6':ab p.cells 6= .int .i64 p.out.value.n:=rfl;have p7':ab p.cells 7=strs p.out.value.names:=rfl;have p8':ab p.cells 8=vals p.out.value.values:=rfl;have p9':ab p.cells 9=deeds p.out.deeds:=rfl;have p10':ab p.cells 10=calls p.out.calls:=rfl;have p11':ab p.cells 11=br p.out.state:=rfl;have p12':ab p.cells 12= .bool p.ended:=rfl;have k1:gG (mods p.mods)=am (mods p.mods):=kz rfl;have k2:gG (ints p.world)=am (ints p.world):=kz rfl;simp -implicitDefEqProofs only[S57,c0,aj,aI,p0',p1',p2',p3',p4',p5',p6',p7',p8',p9',p10',p11',p12',V9 p.mods hb.mods,k1];rw[ap e1,kz T1.okC,aj,QK p.world hb.world,aj,k2,aj,ap e2',kz (show ay fv=true by rcases sh with⟨rfl,_⟩|⟨rfl,_⟩<;>rfl),aj,hln,ae,e3,FL57_0];have hx:¬((p.frames.length:Int)<(p.frames.length:Int)):=ZL
 simp -implicitDefEqProofs only[L57_0,ao,au,aB,ae,ai,Xp,Xn hx];rw[ap e4',ap e5',ap e6,kz M6.ds.okC,aj,kz M6.cs.okC,aj,kz M6.os.okC,aj,hrow,aj];rfl
section
variable (p:Proc)
theorem GV:ah T 39 (.ip (aa p.av)) 0=some (.ip ((aa p.av).drop 0)):=rfl
theorem Nm:ah T 39 (.ip (aa p.av)) 1=some (.ip ((aa p.av).drop 1)):=rfl
theorem EV:ah T 39 (.ip (aa p.av)) 2=some (.ip ((aa p.av).drop 2)):=rfl
theorem Nn:ah T 39 (.ip (aa p.av)) 4=some (.ip ((aa p.av).drop 4)):=rfl
theorem GW:ah T 39 (.ip (aa p.av)) 5=some (.ip ((aa p.av).drop 12)):=rfl
theorem Ht:ax T 22 (.ip ((aa p.av).drop 0))=some (mods p.mods):=rfl
theorem NG:ax T 28 (.ip ((aa p.av).drop 1))=some (br p.state):=rfl
theorem Ff:ax T 29 (.ip ((aa p.av).drop 2))=some (lx p.frames):=rfl
theorem JN:ax T 4 (.ip ((aa p.av).drop 12))=some (.bool p.ended):=rfl
theorem DN:ax T 39 (.ip (aa p.av))=some p.av:=rfl
theorem UV:ah T 37 (.ip ((aa p.av).drop 4)) 0=some (.ip ((aa p.av).drop 4)):=rfl
theorem Q8:ah T 37 (.ip ((aa p.av).drop 4)) 1=some (.ip ((aa p.av).drop 5)):=rfl
theorem UW:ah T 37 (.ip ((aa p.av).drop 4)) 4=some (.ip ((aa p.av).drop 11)):=rfl
theorem VE:ax T 30 (.ip ((aa p.av).drop 4))=some (.int .i64 p.out.err):=rfl
theorem VF:ax T 33 (.ip ((aa p.av).drop 5))=some p.out.value.av:=by
 show some (AV.agg [.int .i64 p.out.value.kind,.int .i64 p.out.value.n,strs p.out.value.names,vals p.out.value.values])=_;rw[G6]
theorem VG:ax T 28 (.ip ((aa p.av).drop 11))=some (br p.out.state):=rfl
end
def Ul(v:Val):cg 4 v.av=am (.agg [.int .i64 v.kind,.int .i64 v.n,strs v.names,vals v.values]):=ZP
section
variable (k n:Int) (ns:List aW) (vs:List Val)
theorem Q9:ah T 33 (.ip [.int .i64 k,.int .i64 n,strs ns,vals vs]) 0=some (.ip [.int .i64 k,.int .i64 n,strs ns,vals vs]):=rfl
theorem Ra:ah T 33 (.ip [.int .i64 k,.int .i64 n,strs ns,vals vs]) 1=some (.ip [.int .i64 n,strs ns,vals vs]):=rfl
theorem Rb:ah T 33 (.ip [.int .i64 k,.int .i64 n,strs ns,vals vs]) 2=some (.ip [strs ns,vals vs]):=rfl
theorem Rc:ah T 33 (.ip [.int .i64 k,.int .i64 n,strs ns,vals vs]) 3=some (.ip [vals vs]):=rfl
theorem R9:ax T 3 (.ip [.int .i64 k,.int .i64 n,strs ns,vals vs])=some (.int .i64 k):=rfl
theorem Sa:ax T 3 (.ip [.int .i64 n,strs ns,vals vs])=some (.int .i64 n):=rfl
theorem Sb:ax T 31 (.ip [strs ns,vals vs])=some (strs ns):=rfl
theorem Sd:ax T 23 (.ip [vals vs])=some (vals vs):=rfl
end
def MC.keep{tag tag':Nat->Nat}{ks:Nat->Prop}{sv fv dv cv ov:AV}{p:Proc}{h h':Hp}(H:MC tag sv fv dv cv ov p h)(K:Kp tag tag' ks h h')(hk:∀k,ks k->k<=1):MC tag' sv fv dv cv ov p h':=by
 have n:∀k,2<=k->¬ks k:=fun k h1 hh=>ZN
 exact⟨H.st.keep K (n _ ZL) fun _ h=>h.keep K fun j=>n _ ZL,H.fr.keep K (n _ ZL) fun _ h=>h.keep K fun j _ _=>⟨n _ ZL,n _ ZL⟩,H.ds.keep K (n _ ZL) fun _ h=>h,
  H.cs.keep K (n _ ZL) fun _ h=>h.keep K (n _ ZL),H.os.keep K (n _ ZL) fun _ h=>h.keep K (n _ ZL),H.oz⟩
structure OpR (L:MLay) (p:Proc) (h:Hp):Prop where
 ex:∃tag sv fv dv cv ov,MC tag sv fv dv cv ov p h/\h[L.rm]? = some (sF p sv fv dv cv ov++[.mp L.ri,.mp L.rf])/\tag L.rm=0/\(h[L.ri]? = some L.ci/\tag L.ri=1)/\h[L.rf]? = some L.cf/\tag L.rf=1
theorem OpR.pr{L:MLay}{p:Proc}{h:Hp}(H:OpR L p h):∃row,PR L p h row:=by
 obtain⟨tag,sv,fv,dv,cv,ov,M1,hr,_⟩:=H.ex;have c1:=pE (d:=4) M1.st;have c2:=wF (d:=4) M1.fr;have c3:=qF (d:=4) M1.ds;have c4:=qE (d:=4) M1.cs;have c5:=KN (d:=4) M1.os;have ht:(sF p sv fv dv cv ov++[AV.mp L.ri,.mp L.rf]).take 13=sF p sv fv dv cv ov:=rfl;refine⟨_,hr,rfl,ZN,?_,?_⟩
 ·rw[ht]
  have:=yc M1
  simp_all[bT]
 ·rw[ht,gP];simp only[sF,cl,fl,mm,pD,nT,kX,c1,c2,c3,c4,c5];rfl
def OpR.mr{L:MLay}{p:Proc}{h:Hp}(H:OpR L p h)(ho:p.out.state=[]):vI L p h:=by
 obtain⟨tag,sv,fv,dv,cv,ov,M1,hr,hm,hi,hf,tf⟩:=H.ex;have hov:=M1.oz ho;subst hov;refine⟨tag,sv,fv,dv,cv,aa p.out.value.av,?_,hm,hi.1,hi.2,hf,tf,M1.st,M1.fr,M1.ds,M1.cs,.inl rfl,ho⟩;rw[hr,bH];rfl
structure OpB (p:Proc):Prop where
 cl:ClB p
 lim:∀m∈p.mods,m.Lim
 cnt:∀m∈p.mods,∀f∈m.funcs,dO 12 f.body<=1000
 vlen:∀m∈p.mods,m.vars.length<=4611686018427387904
 st:∀w∈p.state,∀v∈w.values,v.sz<=4611686018427387904
 fr:∀f∈p.frames,(∀v∈f.locals,v.sz<=4611686018427387904)/\∀v∈f.stack,v.sz<=4611686018427387904
 val:p.out.value.names.length<=1000000/\p.out.value.values.length<=1000000
def pW{p:List Ap.Mod}(h:jv p=0)(hc:∀m∈p,∀f∈m.funcs,dO 12 f.body<=1000):PBd p/\(p.map (·.name)).Nodup/\DJ p/\∀m∈p,ib m=true:=by
 unfold jv jN at h;by_cases h20:20<p.length
 ·grind
 rw[Xn h20]at h;cases ht:vt p with
 |true=>grind
 | false=>
  rw[ht,Xn (show ¬(false:Bool)=true by decide),Xn (show ¬(0:Int)≠0 by decide)]at h;cases hr:p.all ib with
  |false=>grind
  | true=>
   rw[hr,Xn (show ¬(true:Bool)=false by decide)]at h;cases hh:p.all fun m=>m.funcs.all fun f=>(dj (dn m.vars f)).isSome with
   |false=>grind
   |true=>
    have hr':=XF.1 hr;refine⟨N4 ZL hr' hc,sy ht,fun m hm f hf=>?_,hr'⟩
    grind
theorem xd{L:MLay}{p:Proc}{h:Hp}{row:List AV}(hr:h[L.rm]? = some row)(h14:row[14]? = some (.mp L.rf))(hf:h[L.rf]? = some L.cf)(MO:MapOk T 78 79 L p.mods)(P:PBd p.mods)(hb:OpB p):∀B A:List Frm,A++B=p.frames->
  ak (L28_0 (af pg) ak) [.ip (aa p.av),.hp L.rm 0,lx p.frames,.int .i64 p.frames.length,.int .i64 A.length] h=
   if eF p.mods B none=true then ak (L28_0 (af pg) ak) [.ip (aa p.av),.hp L.rm 0,lx p.frames,.int .i64 p.frames.length,.int .i64 p.frames.length] h else .ok (.tup [.nilp,.bool false]) h
 |[],A,e=>by
  rw[XN]at e;subst e;rw[Xr (by rfl)]
 | f:: B,A,e=>by
  have hlen:A.length+(B.length+1)=p.frames.length:=by rw[<- e];simp
  have hle:=hb.cl.frames.1;have h1:(A.length:Int)<(p.frames.length:Int):=ZL
  have hfm:f∈p.frames:=by rw[<- e];simp
  have hx:p.frames[A.length]! = f:=by rw[Xv p.frames A.length ZL];simp[<- e]
  have hix:=Hj (p:=p.frames) (k:=A.length) ZL;rw[hx]at hix;have hw:IntKind.i64.wrap ((A.length:Int)+1)=((A++[f]).length:Nat):=by rw[aS ZL ZL];simp
  have ih:=xd hr h14 hf MO P hb B (A++[f]) ZN;have cf:cg 5 f.av=am (.agg (aa f.av)):=aZ rfl;have bl:=hb.cl.frames.2 f hfm;have bz:=hb.fr f hfm;have g:=t56 hr h14 hf MO P f (B.head?.or none) ⟨ZL,bz.1⟩ ⟨ZL,bz.2⟩;have hk:K28_0 (af pg) ak (ak (L28_0 (af pg) ak)) [.ip (aa p.av),.hp L.rm 0,.ip (aa f.av),nE (B.head?.or none),lx p.frames,.int .i64 p.frames.length,.int .i64 A.length] h=
    if iZ p.mods f (B.head?.or none)=true then ak (L28_0 (af pg) ak) [.ip (aa p.av),.hp L.rm 0,lx p.frames,.int .i64 p.frames.length,.int .i64 (A++[f]).length] h else .ok (.tup [.nilp,.bool false]) h:=by
   rw[K28_0];simp -implicitDefEqProofs only[ao,au,Vs,ae];rw[ap g];simp -implicitDefEqProofs only[bc,ae,ai];cases iZ p.mods f (B.head?.or none)with
   |false=>rfl
   |true=>simp_all
  have start:ak (L28_0 (af pg) ak) [.ip (aa p.av),.hp L.rm 0,lx p.frames,.int .i64 p.frames.length,.int .i64 A.length] h=
    K28_0 (af pg) ak (ak (L28_0 (af pg) ak)) [.ip (aa p.av),.hp L.rm 0,.ip (aa f.av),nE (B.head?.or none),lx p.frames,.int .i64 p.frames.length,.int .i64 A.length] h:=by
   rw[FL28_0];simp -implicitDefEqProofs only[L28_0,ao,au,aB,ae,ai,Xp,Xr h1,hix,Vs,cf,aj,aI,jn,bj,hw,EV,Ff,uq];cases B with
   |nil=>
    have h2:¬(((A++[f]).length:Int)<(p.frames.length:Int)):=by simp at hlen |-;omega
    rw[Xn h2];rfl
   |cons g2 B=>
    have h2:(((A++[f]).length:Int)<(p.frames.length:Int)):=by simp at hlen |-;omega
    have hy:p.frames[(A++[f]).length]! = g2:=by rw[Xv p.frames _ ZL];simp[<- e]
    have hiy:=Hj (p:=p.frames) (k:=(A++[f]).length) ZL;rw[hy]at hiy;rw[Xr h2];simp -implicitDefEqProofs only[hiy,ae];rfl
  rw[start,hk,ih,eF]
  grind
theorem t28(p:Proc)(hb:OpB p):(gL p=false->∃h',af pg 28 [p.av] []= .ok (.tup [.nilp,.bool false]) h')/\
  (gL p=true->∃h' L,af pg 28 [p.av] []= .ok (.tup [.hp L.rm 0,.bool true]) h'/\MapOk T 78 79 L p.mods/\OpR L p h'):=by
 have hld:=t20 [] hb.lim hb.cnt;have hst:=t55 p.mods p.state (by have:=hb.cl.mods;omega) (by have:=hb.cl.state.1;omega) hb.vlen (fun w hw=>⟨by have:=hb.cl.state.2 w hw;omega,hb.st w hw⟩);generalize hc:af pg 28 [p.av] []=code;rw[C28]at hc;simp -implicitDefEqProofs only[S28,GV,Ht,ae]at hc;unfold gL;by_cases hl:jv p.mods=0
 ·rw [XU hl];obtain⟨P,hnd,hho,hrm⟩:=pW hl hb.cnt;have g1:=hld.1 hl;rw[ap g1]at hc;have ne0:((0:Int) != 0)=false:=rfl;simp -implicitDefEqProofs only[vF,vG,ae,gw,ne0,bn,GV,Ht,Nm,NG,hst,aj,bc,ao,ca,ai]at hc;cases hbl:eD p.mods p.state with
  |false=>
   rw[hbl]at hc;simp -implicitDefEqProofs only[X3,XA]at hc;exact⟨fun _=>⟨_,hc.symm⟩,fun h=>(by simp at h)⟩
  | true=>
   rw[hbl]at hc;have hs1:IntKind.i64.wrap ((p.out.value.names.length:Int)+(p.out.value.values.length:Int))=((p.out.value.names.length+p.out.value.values.length:Nat):Int):=by have:=hb.val;rw[aS ZL ZL];omega
   have hs2:IntKind.i64.wrap (((p.out.value.names.length+p.out.value.values.length:Nat):Int)+(p.out.state.length:Int))=((p.out.value.names.length+p.out.value.values.length+p.out.state.length:Nat):Int):=by have:=hb.val;have:=hb.cl.ostate.1;rw[aS ZL ZL];omega
   have ls:bm T 31 (strs p.out.value.names)=some (.int .i64 p.out.value.names.length):=gW _;have lv:bm T 23 (vals p.out.value.values)=some (.int .i64 p.out.value.values.length):=qy _;have neb:∀a b:Bool,cz T .neq 4 (.bool a) (.bool b)=some (.bool (a != b)):=fun a b=>rfl;have eqe:∀a b:Int,cz T .eql 30 (.int .i64 a) (.int .i64 b)=some (.bool (a== b)):=fun a b=>rfl;simp -implicitDefEqProofs only[XH,Xo,Xu,Nn,Q8,VF,ae,Ul,aj,aI,UV,VE,eqe,Q9,R9,aH,aG,ao,bN,Ra,Sa,Rb,Sb,Rc,Sd,ls,lv,bj,hs1,UW,VG,Hy,hs2,GW,JN,EV,Ff,uq,neb,dQ,bc]at hc;have hno:(p.out.err== 0&&p.out.value.kind== 0&&p.out.value.n== 0&&(((p.out.value.names.length+p.out.value.values.length+p.out.state.length:Nat):Int)== 0))=rY p.out:=by
    unfold rY;congr 1;rw[Yy];simp only[Yb,Xp];omega
   rw[hno]at hc;have hem:((p.frames.length:Int)== 0)=p.frames.isEmpty:=by
    cases p.frames with
    |nil=>rfl
    |cons a l=>
     grind
   rw[hem]at hc;rw[Yr,Yr];have h60:decide ((60:Int)<(p.frames.length:Int))= !(decide (p.frames.length<=60)):=by
    rw[Yy];simp;omega
   rw[h60]at hc;have hee:(p.ended != p.frames.isEmpty)= !(p.ended== p.frames.isEmpty):=rfl;rw[hee]at hc;obtain⟨b1,hb1⟩:∃b,(p.ended== p.frames.isEmpty)=b:=⟨_,rfl⟩;obtain⟨b2,hb2⟩:∃b,decide (p.frames.length<=60)=b:=⟨_,rfl⟩;obtain⟨b3,hb3⟩:∃b,rY p.out=b:=⟨_,rfl⟩;obtain⟨b4,hb4⟩:∃b,p.ended=b:=⟨_,rfl⟩;rw[hb1,hb2,hb3,hb4]at hc;rw[hb1,hb2,hb3,hb4];have go:b1=true->b2=true->(b4||b3)=true->code=ak (L28_0 (af pg) ak) [.ip (aa p.av),.hp 2 0,lx p.frames,.int .i64 p.frames.length,.int .i64 0] (g8 [] [.tup (bh p.mods 0)] [.tup (ck (aT 0 p.mods))] (lC p.mods 0)):=by
    intro h1 h2 h3;subst h1 h2;rw[<- hc];cases b4<;>cases b3<;>first|exact absurd h3 (ZM)|rfl
   have stop:(b1&&b2&&(b4||b3))=false->code= .ok (.tup [.nilp,.bool false]) (g8 [] [.tup (bh p.mods 0)] [.tup (ck (aT 0 p.mods))] (lC p.mods 0)):=by
    intro h;rw[<- hc];cases b1<;>cases b2<;>cases b4<;>cases b3<;>first|grind|rfl
   cases hall:(b1&&b2&&(b4||b3))with
   |false=>
    grind
   | true=>
    rw[Yr];simp only[Xq]at hall;have hgo:=go hall.1.1 hall.1.2 hall.2;let L:MLay:=⟨2,0,1,[.tup (bh p.mods 0)],[.tup (ck (aT 0 p.mods))]⟩;have MO:MapOk T 78 79 L p.mods:=map_ok rfl rfl hnd hho;have hl:=xd (L:=L) (p:=p) (h:=g8 [] [.tup (bh p.mods 0)] [.tup (ck (aT 0 p.mods))] (lC p.mods 0)) (row:=lC p.mods 0) rfl rfl rfl MO P hb p.frames [] rfl;have hgo2:=hgo.trans hl;unfold iD;cases hch:eF p.mods p.frames none with
    |false=>
     grind
    | true=>
     rw[hch,Xr rfl]at hgo2;refine⟨fun h=>(by cases h),fun _=>?_⟩;obtain⟨h1,tag1,sv,fv,dv,cv,ov,e1,K1,M1⟩:=t57 p hb.cl (fun r=>if r=2 then 0 else 1) (g8 [] [.tup (bh p.mods 0)] [.tup (ck (aT 0 p.mods))] (lC p.mods 0));have k2:=K1 2 (lC p.mods 0) rfl ZN;have k0:=K1 0 [.tup (bh p.mods 0)] rfl ZN;have k1:=K1 1 [.tup (ck (aT 0 p.mods))] rfl ZN;have t2:tag1 2=0:=k2.2;have t0:tag1 0=1:=k0.2;have t1:tag1 1=1:=k1.2;have s1:bU T 39 (.hp 2 (0+0)) (.agg (sF p sv fv dv cv ov)) h1= .ok (.tup []) (h1.set 2 (sF p sv fv dv cv ov++[.mp 0,.mp 1])):=by
      rw[bX (T:=T) (t:=39) rfl k2.1 (yc M1) (by show (_:Nat)<=15;decide) ZM];rfl
     have K2:Kp tag1 tag1 (fun k=>k=0) h1 (h1.set 2 (sF p sv fv dv cv ov++[.mp 0,.mp 1])):=W8 t2 _;have q0:=K2 0 _ k0.1 (by rw[t0];decide);have q1:=K2 1 _ k1.1 (by rw[t1];decide);refine⟨_,L,?_,MO,⟨⟨tag1,sv,fv,dv,cv,ov,M1.keep K2 (fun k h=>ZL),XS (Xx.1 k2.1).1,t2,⟨q0.1,t0⟩,q1.1,t1⟩⟩⟩;rw[hgo2,FL28_0];have hx:¬((p.frames.length:Int)<(p.frames.length:Int)):=ZL
     simp -implicitDefEqProofs only[L28_0,ao,au,aB,ae,ai,Xp,Xn hx,DN];rw[ap e1];simp -implicitDefEqProofs only[aJ,FH81_0,ae];rw[ap s1];rfl
 ·rw[X1 hl];obtain⟨h',g1⟩:=hld.2 hl;rw[ap g1]at hc;have ne0:(jv p.mods != 0)=true:=by simpa using hl
  simp -implicitDefEqProofs only[vF,vG,ae,gw,ne0,gz,aj,ao,List.replicate,cw,ai,XA]at hc;simp only[YB];exact⟨fun _=>⟨_,hc.symm⟩,fun h=>(by cases h)⟩
def t10(p:Proc)(hb:OpB p):af pg 10 [p.av]=am (.bool (gL p)):=by
 obtain⟨o1,o2⟩:=t28 p hb;rw[C10,sL];cases hr:gL p with
 |false=>
  obtain⟨h',e⟩:=o1 hr;refine gB (a:=.bool false) (h':=h') ?_ rfl;simp -implicitDefEqProofs only[S10,DN,ae];rw[ap e];rfl
 |true=>
  obtain⟨h',L,e,_⟩:=o2 hr;refine gB (a:=.bool true) (h':=h') ?_ rfl;simp -implicitDefEqProofs only[S10,DN,ae];rw[ap e];rfl
theorem jj:cE T false 39 []=some p0.av:=rfl
def kP:bF 13 [] p0.av=am (.agg p0.cells):=iq rfl
def uP{p:Proc}(hb:OpB p)(hr:gL p=true):RightP p/\PBd p.mods:=by
 have H:=xq.1 hr;exact⟨H,(pW H.load hb.cnt).1⟩
def D7{L:MLay}{p:Proc}{h:Hp}(H:RightP p)(he:p.ended=false)(R:OpR L p h):vI L p h:=by
 refine R.mr ?_;have hout:=H.out.resolve_left (by rw[he];simp);simp_all[rY]
def xV{L:MLay}{p:Proc}{h:Hp}(H:vI L p h\/IV L p h):∃row,PR L p h row:=by
 rcases H with⟨tag,sv,fv,dv,cv,vc,H⟩|H
 ·exact⟨_,Xl H⟩
 ·exact H.pr
def Ei(p:Proc):Proc×Int:=if gL p=true then(if p.ended=true then(p,7)else(jW p,0))else(p0,1)
def t11(p:Proc)(hb:OpB p)(S:gL p=true->p.ended=false->SzP 900000 p):af pg 11 [p.av]=am (.tup [(Ei p).1.av,.int .i64 (Ei p).2]):=by
 obtain⟨o1,o2⟩:=t28 p hb;rw[C11,sL];unfold Ei;cases hr:gL p with
 |false=>
  obtain⟨h',e⟩:=o1 hr;rw[Xn ZM];refine gB (a:=.tup [p0.av,.int .i64 1]) (h':=h') ?_ rfl;simp -implicitDefEqProofs only[S11,DN,ae];rw[ap e];simp -implicitDefEqProofs only[vF,vG,ae,bc,X3,ai,XA,jj,kP,aj];rfl
 | true=>
  obtain⟨h1,L,e,MO,R⟩:=o2 hr;obtain⟨H,P⟩:=uP hb hr;rw[Xr (show (true:Bool)=true from rfl)];obtain⟨row,Q⟩:=R.pr;have g1:bb T 4 (.hp L.rm (0+0+12)) h1= .ok (.bool p.ended) h1:=Q.ended rfl rfl;cases he:p.ended with
  |true=>
   rw[he]at g1;rw[Xr (show (true:Bool)=true from rfl)];have g2:bb T 39 (.hp L.rm (0+0)) h1= .ok (.agg (row.take 13)) h1:=Q.load rfl rfl rfl;obtain⟨cn,c0,c1,c2,c3,c4,c5,c6,c7,c8,c9,c10,c11,c12,hc⟩:=Q.cells;refine gB (a:=.tup [.agg (row.take 13),.int .i64 7]) (h':=h1) ?_ (Q.tup 7);simp -implicitDefEqProofs only[S11,DN,ae];rw[ap e];simp -implicitDefEqProofs only[vF,vG,ae,bc,XH,ai,Xo,Xu,aJ,FH81_0,FH39_5];rw[ap g1];simp -implicitDefEqProofs only[ai,XA];rw[ap g2,cn,aj,aI,hc];rfl
  |false=>
   rw[he]at g1;rw[Xn (show ¬(false:Bool)=true by decide)];obtain⟨h2,e2,R2⟩:=IA (D7 H he R) MO H he P (S hr he) ZM;obtain⟨row2,Q2⟩:=xV R2;have g2:bb T 39 (.hp L.rm (0+0)) h2= .ok (.agg (row2.take 13)) h2:=Q2.load rfl rfl rfl;obtain⟨cn,c0,c1,c2,c3,c4,c5,c6,c7,c8,c9,c10,c11,c12,hc⟩:=Q2.cells;refine gB (a:=.tup [.agg (row2.take 13),.int .i64 0]) (h':=h2) ?_ (Q2.tup 0);simp -implicitDefEqProofs only[S11,DN,ae];rw[ap e];simp -implicitDefEqProofs only[vF,vG,ae,bc,XH,ai,Xo,Xu,aJ,FH81_0,FH39_5];rw[ap g1];simp -implicitDefEqProofs only[ai,Xo,Xu];rw[ap e2,ap g2,cn,aj,aI,hc];rfl
def Fl{L:MLay}(n:Nat)(hn:n<=100000)(z0 z1 z2 z3 z4 z5 z6 z7 z8 z9 z10 z11 z12:AV):∀(k i:Nat)(q:Proc)(h:Hp),i+k=n->(q.ended=true->∃row,PR L q h row)->(q.ended=false->vI L q h)->MapOk T 78 79 L q.mods->RightP q->PBd q.mods->(q.ended=false->SzP (500000+i) q)->
  ∃h' row,ak (L9_0 (af pg) ak (K9_0 (af pg) ak)) [.hp L.rm 0,.int .i64 n,.int .i64 i,z0,z1,z2,z3,z4,z5,z6,z7,z8,z9,z10,z11,z12] h= .ok (.tup [.agg (row.take 13),.int .i64 (if(fc k q).ended=true then 0 else 16)]) h'/\PR L (fc k q) h' row:=by
 have fin:∀(q:Proc)(h:Hp)(row:List AV),PR L q h row->K9_0 (af pg) ak [.hp L.rm 0,z0,z1,z2,z3,z4,z5,z6,z7,z8,z9,z10,z11,z12] h= .ok (.tup [.agg (row.take 13),.int .i64 (if q.ended=true then 0 else 16)]) h:=by
  intro q h row Q;have g1:bb T 4 (.hp L.rm (0+0+12)) h= .ok (.bool q.ended) h:=Q.ended rfl rfl;have g2:bb T 39 (.hp L.rm (0+0)) h= .ok (.agg (row.take 13)) h:=Q.load rfl rfl rfl;obtain⟨cn,c0,c1,c2,c3,c4,c5,c6,c7,c8,c9,c10,c11,c12,hc⟩:=Q.cells;rw[K9_0];simp -implicitDefEqProofs only[ao,au,aJ,ae,FH81_0,FH39_5];rw[ap g1];simp -implicitDefEqProofs only[bc,ae,ai];cases q.ended with
  |true=>
   simp -implicitDefEqProofs only[XH,Xo,Xu,XA];rw[ap g2,cn,aj,aI,hc];rfl
  |false=>
   simp -implicitDefEqProofs only[X3,Xo,Xu,XA];rw[ap g2,cn,aj,aI,hc];rfl
 intro k
 induction k with
 | zero=>
  intro i q h hi hE hR MO H P S;obtain⟨row,Q⟩:∃row,PR L q h row:=by
   cases he:q.ended with
   |true=>exact hE he
   |false=>exact xV (.inl (hR he))
  refine⟨h,row,?_,Q⟩;have h1:¬((i:Int)<(n:Int)):=ZL
  rw[FL9_0];simp -implicitDefEqProofs only[L9_0,ao,au,aB,ae,ai,Xp,Xn h1];exact fin q h row Q
 | succ k ih=>
  intro i q h hi hE hR MO H P S;have h1:(i:Int)<(n:Int):=ZL
  cases he:q.ended with
  |true=>
   obtain⟨row,Q⟩:=hE he;have g1:bb T 4 (.hp L.rm (0+0+12)) h= .ok (.bool q.ended) h:=Q.ended rfl rfl;rw[he]at g1;rw[mQ _ he];refine⟨h,row,?_,Q⟩;rw[FL9_0];simp -implicitDefEqProofs only[L9_0,ao,au,aB,ae,ai,Xp,Xr h1,aJ,FH81_0,FH39_5];rw[ap g1];simp -implicitDefEqProofs only[ai,XA]
   grind
  | false=>
   obtain⟨row,Q⟩:=xV (.inl (hR he));have g1:bb T 4 (.hp L.rm (0+0+12)) h= .ok (.bool q.ended) h:=Q.ended rfl rfl;rw[he]at g1;obtain⟨h2,e2,R2⟩:=IA (hR he) MO H he P (S he) ZL;have hm:(jW q).mods=q.mods:=by
    obtain⟨fs,f,x,p1,p2,p3⟩:=l7 H he;exact (vj H he p1 p2 p3).mods
   have hw:IntKind.i64.wrap ((i:Int)+1)=((i+1:Nat):Int):=by rw[aS ZL ZL];omega
   obtain⟨h',row',k1,k2⟩:=ih (i+1) (jW q) h2 ZL (fun _=>xV R2) (fun he2=>by
    rcases R2 with h|h
    ·exact h
    ·obtain⟨_,_,_,_,_,_,_,h3,_⟩:=h
     grind) ZN (px H he) ZN (fun _=>Ek H he P (S he))
   rw[mb (by rw[he];decide)];refine⟨h',row',?_,k2⟩;rw[<- k1,FL9_0];simp -implicitDefEqProofs only[L9_0,ao,au,aB,ae,ai,Xp,Xr h1,aJ,FH81_0,FH39_5];rw[ap g1];simp -implicitDefEqProofs only[ai,Xo,Xu];rw[ap e2];simp_all
def sJ(p:Proc)(n:Int):Proc×Int:=if gL p=true/\0<=n/\n<=100000 then(fc n.toNat p,if(fc n.toNat p).ended=true then 0 else 16)else(p0,1)
def t9(p:Proc)(n:Int)(hb:OpB p)(S:gL p=true->p.ended=false->SzP 500000 p):af pg 9 [p.av,.int .i64 n]=am (.tup [(sJ p n).1.av,.int .i64 (sJ p n).2]):=by
 obtain⟨o1,o2⟩:=t28 p hb;rw[C9,sL,show cl aE (.int .i64 n)= .int .i64 n from rfl];unfold sJ;cases hr:gL p with
 |false=>
  obtain⟨h',e⟩:=o1 hr;rw[Xn ZO];refine gB (a:=.tup [p0.av,.int .i64 1]) (h':=h') ?_ rfl;simp -implicitDefEqProofs only[S9,DN,ae];rw[ap e];simp -implicitDefEqProofs only[vF,vG,ae,bc,X3,gz,aj,ao,List.replicate,cw,ai,XA,jj,kP];rfl
 | true=>
  obtain⟨h1,L,e,MO,R⟩:=o2 hr;obtain⟨H,P⟩:=uP hb hr;by_cases hn0:n<0
  ·rw[Xn ZL];have n1:decide (n<0)=true:=XU hn0;refine gB (a:=.tup [p0.av,.int .i64 1]) (h':=h1) ?_ rfl;simp -implicitDefEqProofs only[S9,DN,ae];rw[ap e];simp -implicitDefEqProofs only[vF,vG,ae,bc,XH,bn,aB,n1,gz,aj,ao,List.replicate,cw,ca,ai,XA,jj,kP];rfl
  have n1:decide (n<0)=false:=X1 hn0;by_cases hn1:100000<n
  ·rw[Xn ZL];have n2:decide ((100000:Int)<n)=true:=XU hn1;refine gB (a:=.tup [p0.av,.int .i64 1]) (h':=h1) ?_ rfl;simp -implicitDefEqProofs only[S9,DN,ae];rw[ap e];simp -implicitDefEqProofs only[vF,vG,ae,bc,XH,bn,aB,n1,dQ,n2,aj,ao,ca,ai,XA,jj,kP];rfl
  have n2:decide ((100000:Int)<n)=false:=X1 hn1;rw[Xr ⟨rfl,ZL,ZL⟩];obtain⟨m,rfl⟩:∃m:Nat,n=(m:Int):=⟨n.toNat,ZL⟩;rw[Xw];obtain⟨h',row,k1,k2⟩:=Fl (L:=L) m ZL (.sl []) (.sl []) (.sl []) (.sl []) (.int .i64 0) (.int .i64 0) (.int .i64 0) (.sl []) (.sl []) (.sl []) (.sl []) (.sl []) (.bool false) m 0 p h1 ZL (fun _=>R.pr) (fun he=>D7 H he R) MO H P (S hr);refine gB (a:=.tup [.agg (row.take 13),.int .i64 (if(fc m p).ended=true then 0 else 16)]) (h':=h') ?_ (k2.tup _);simp -implicitDefEqProofs only[S9,DN,ae];rw[ap e];simp -implicitDefEqProofs only[vF,vG,ae,bc,XH,bn,aB,n1,dQ,n2,aj,ao,ca,ai,Xo,Xu,jn];exact k1
def tN{F:(List AV->M AV)->List AV->M AV}(hF:∀vs,ak F vs=F (ak F) vs)(st:Nat->List AV)(n:Nat)(hend:∃b,F (ak F) (st n)=am (.bool b))(hstep:∀k,k<n->(∃b,F (ak F) (st k)=am (.bool b))\/F (ak F) (st k)=ak F (st (k+1))):
  ∀k,k<=n->∃b,ak F (st k)=am (.bool b):=by
 have key:∀r k,n-k=r->k<=n->∃b,ak F (st k)=am (.bool b):=by
  intro r
  induction r with
  |zero=>
   grind
  |succ r ih=>
   grind
 grind
def xw{t:Ty}{f:fu}(h:f∈t.fields):SizeOf.sizeOf f.2<SizeOf.sizeOf t:=by
 cases t with
 |mk k fs=>
  have h1:=YN (show f∈fs from h)
  grind
def UH:∀(n:Nat)(t:Ty),SizeOf.sizeOf t<=n->t.Lim->∀most:Int,0<=most->most<=1000->∃r:Int,af pg 88 [t.av,.int .i64 most]=am (.int .i64 r)/\1<=r/\r<=most+1:=by
 intro n
 induction n with
 |zero=>
  intro t h;cases t;simp at h
 | succ n ih=>
  intro t hs ht most h0 h1;have hlen:=ht.len;have hl:∀(k i:Nat),t.fields.length-i=k->i<=t.fields.length->∀m:Int,1<=m->m<=most+1->∃r:Int,ak (L88_0 (af pg) ak) [.int .i64 most,.ip (aa t.av),.int .i64 m,.int .i64 i]=am (.int .i64 r)/\1<=r/\r<=most+1:=by
   intro k
   induction k with
   |zero=>
    intro i hk hi m hm1 hm2;rw[FL88_0];have h1:¬((i:Int)<(t.fields.length:Int)):=ZL
    exact⟨m,by simp[L88_0,h1],hm1,hm2⟩
   | succ k ihk=>
    intro i hk hi m hm1 hm2;rw[FL88_0];have hlt:i<t.fields.length:=ZL
    have h1':(i:Int)<(t.fields.length:Int):=ZL
    by_cases hm:m<=most
    ·have hix:=vH (l:=t.fields) (n:=(i:Int)) ZL h1';rw[Xw,Xv t.fields i hlt]at hix;have hm':=XB hlt;generalize t.fields[i]=f at hix hm';have hsz:=xw hm';obtain⟨r,e1,e2,e3⟩:=ih f.2 ZL (ht.kid hm') (most-m) ZL ZL;obtain⟨r2,g1,g2,g3⟩:=ihk (i+1) ZL ZL (m+r) ZL ZL;have w1:IntKind.i64.wrap (most-m)=most-m:=aS ZL ZL;have w2:IntKind.i64.wrap (m+r)=m+r:=aS ZL ZL;have w3:IntKind.i64.wrap ((i:Int)+1)=((i+1:Nat):Int):=aV ZL;refine⟨r2,?_,g2,g3⟩;rw[<- g1];simp only[L88_0,ao,au,Er,FA106_1,ae,XK,XG,LD47,mc,aB,fk,h1',hm,XP,bn,aj,cw,ai,XA,hix,ku,FA158_1,LD106,XQ,X0,XE,Nat.reduceAdd,Xt,X4,X2,yn,fF,w1,e1,bj,w2,w3]
    ·exact⟨m,by simp[L88_0,h1',hm],hm1,hm2⟩
  obtain⟨r,e1,e2,e3⟩:=hl t.fields.length 0 rfl ZL 1 ZL ZL
  grind [C88,S88,Dp,xX,nB]
def UI:∀(n:Nat)(t:Ty),SizeOf.sizeOf t<=n->t.Lim->∃b,af pg 89 [t.av]=am (.bool b):=by
 intro n
 induction n with
 |zero=>
  intro t h;cases t;simp at h
 | succ n ih=>
  intro t hs ht;have hlen:=ht.len;obtain⟨b,hb⟩:=tN (FL89_0 (af pg)) (fun k=>[.ip (aa t.av),.int .i64 (k:Int)]) t.fields.length ⟨true,by simp[L89_0]⟩ (fun k hk=>by
   have h1:(k:Int)<(t.fields.length:Int):=ZL
   have hix:=vH (l:=t.fields) (n:=(k:Int)) ZL h1;rw[Xw,Xv t.fields k hk]at hix;have hm':=XB hk;generalize t.fields[k]=f at hix hm';have hsz:=xw hm';have w3:IntKind.i64.wrap ((k:Int)+1)=(k:Int)+1:=by rw[aV ZL];simp
   obtain⟨b,hb⟩:=ih f.2 ZL (ht.kid hm');by_cases hn:30<(f.1.length:Int)
   ·simp_all[L89_0]
   ·have hn':¬30<f.1.length:=ZL
    cases b with
    |false=>simp_all[L89_0]
    |true=>exact .inr (by simp[L89_0,h1,hk,hix,hn,hn',hb,w3])) 0 (XJ _)
  grind [C89,S89,Dp,fS]
def Q5(t:Ty)(ht:t.Lim):∃b,af pg 38 [t.av]=am (.bool b):=by
 obtain⟨r,e1,e2,e3⟩:=UH _ t (Xt _) ht 40 ZL ZL;obtain⟨b,hb⟩:=UI _ t (Xt _) ht;rw[C38];by_cases h:r<=40
 ·exact⟨b,by simp[S38,e1,hb,h]⟩
 ·exact⟨false,by simp[S38,e1,h]⟩
def vd{e x:Exp}(h:x∈e.args):SizeOf.sizeOf x<SizeOf.sizeOf e:=by
 cases e with
 |mk o n s m ns es=>
  have h1:SizeOf.sizeOf x<SizeOf.sizeOf es:=YN h
  grind
def UJ:∀(n:Nat)(e:Exp),SizeOf.sizeOf e<=n->e.Lim->∀most:Int,0<=most->most<=1000->∃r:Int,af pg 90 [e.av,.int .i64 most]=am (.int .i64 r)/\1<=r/\r<=most+1:=by
 intro n
 induction n with
 |zero=>
  intro e h;cases e;simp at h
 | succ n ih=>
  intro e hs he most h0 h1;have hlen:=he.len;have hl:∀(k i:Nat),e.args.length-i=k->i<=e.args.length->∀m:Int,1<=m->m<=most+1->∃r:Int,ak (L90_0 (af pg) ak) [.int .i64 most,.ip (aa e.av),.int .i64 m,.int .i64 i]=am (.int .i64 r)/\1<=r/\r<=most+1:=by
   intro k
   induction k with
   |zero=>
    intro i hk hi m hm1 hm2;rw[FL90_0];have h1:¬((i:Int)<(e.args.length:Int)):=ZL
    exact⟨m,by simp[L90_0,h1],hm1,hm2⟩
   | succ k ihk=>
    intro i hk hi m hm1 hm2;rw[FL90_0];have hlt:i<e.args.length:=ZL
    have h1':(i:Int)<(e.args.length:Int):=ZL
    by_cases hm:m<=most
    ·have hix:=m7 (l:=e.args) (n:=(i:Int)) ZL h1';rw[Xw,Xv e.args i hlt]at hix;have hm':=XB hlt;generalize e.args[i]=f at hix hm';have hsz:=vd hm';obtain⟨r,e1,e2,e3⟩:=ih f ZL (he.kid hm') (most-m) ZL ZL;obtain⟨r2,g1,g2,g3⟩:=ihk (i+1) ZL ZL (m+r) ZL ZL;have w1:IntKind.i64.wrap (most-m)=most-m:=aS ZL ZL;have w2:IntKind.i64.wrap (m+r)=m+r:=aS ZL ZL;have w3:IntKind.i64.wrap ((i:Int)+1)=((i+1:Nat):Int):=aV ZL;refine⟨r2,?_,g2,g3⟩;rw[<- g1];simp only[L90_0,ao,au,cd,FA108_5,ae,XK,XG,LD48,oP,aB,fk,h1',hm,XP,bn,aj,cw,ai,XA,hix,LD108,XQ,X0,XE,Nat.reduceAdd,Xt,X4,X2,kE,fF,w1,e1,bj,w2,w3]
    ·exact⟨m,by simp[L90_0,h1',hm],hm1,hm2⟩
  obtain⟨r,e1,e2,e3⟩:=hl e.args.length 0 rfl ZL 1 ZL ZL
  grind [C90,S90,tr,xX,nB]
def Q6:∀(n:Nat)(e:Exp),SizeOf.sizeOf e<=n->e.Lim->∃b,af pg 91 [e.av]=am (.bool b):=by
 intro n
 induction n with
 |zero=>
  intro e h;cases e;simp at h
 | succ n ih=>
  intro e hs he;have hlen:=he.len;have hnl:=he.names;have end0:∃b,L91_0 (af pg) ak (ak (L91_0 (af pg) ak)) [.ip (aa e.av),.int .i64 (e.args.length:Int)]=am (.bool b):=by
   exact⟨decide ((e.s.length:Int)<=30)&&decide ((e.m.length:Int)<=30)&&decide ((e.names.length:Int)<=12),by simp[L91_0]⟩
  obtain⟨b0,hb0⟩:=tN (FL91_0 (af pg)) (fun k=>[.ip (aa e.av),.int .i64 (k:Int)]) e.args.length end0 (fun k hk=>by
   have h1:(k:Int)<(e.args.length:Int):=ZL
   have hix:=m7 (l:=e.args) (n:=(k:Int)) ZL h1;rw[Xw,Xv e.args k hk]at hix;have hm':=XB hk;generalize e.args[k]=f at hix hm';have hsz:=vd hm';have w3:IntKind.i64.wrap ((k:Int)+1)=(k:Int)+1:=by rw[aV ZL];simp
   obtain⟨b,hb⟩:=ih f ZL (he.kid hm');cases b with
   |false=>simp_all[L91_0]
   |true=>simp_all[L91_0]) 0 (XJ _)
  have hb0':ak (L91_0 (af pg) ak) [.ip (aa e.av),.int .i64 0]=am (.bool b0):=hb0;simp only[cd]at hb0';obtain⟨b,hb⟩:=tN (FL91_1 (af pg)) (fun k=>[.ip (aa e.av),.int .i64 (k:Int)]) e.names.length ⟨b0,by simp[L91_1,hb0']⟩ (fun k hk=>by
   have h1:(k:Int)<(e.names.length:Int):=ZL
   have hix:=oO (l:=e.names) (n:=(k:Int)) ZL h1;rw[Xw,Xv e.names k hk]at hix;generalize e.names[k]=f at hix;have w3:IntKind.i64.wrap ((k:Int)+1)=(k:Int)+1:=by rw[aV ZL];simp
   by_cases h12:k<=12
   ·have h12':(k:Int)<=12:=ZL
    by_cases h30:30<f.length
    ·have h30':30<(f.length:Int):=ZL
     simp_all[L91_1]
    ·have h30':¬30<(f.length:Int):=ZL
     exact .inr (by simp[L91_1,h1,hk,hix,h12,h12',h30,h30',w3])
   ·have h12':¬(k:Int)<=12:=ZL
    exact .inl ⟨b0,by simp[L91_1,h1,hk,h12,h12',hb0']⟩) 0 (XJ _)
  grind [C91,S91,tr,fS]
def UF(e:Exp)(he:e.Lim):∃b,af pg 39 [e.av]=am (.bool b):=by
 obtain⟨r,e1,e2,e3⟩:=UJ _ e (Xt _) he 120 ZL ZL;obtain⟨b,hb⟩:=Q6 _ e (Xt _) he;rw[C39];by_cases h:r<=120
 ·exact⟨b,by simp[S39,e1,hb,h]⟩
 ·exact⟨false,by simp[S39,e1,h]⟩
def Nh(l:List fu)(hb:l.length<=140737488355328)(ht:∀f∈l,f.2.Lim):∃b,af pg 37 [bR l]=am (.bool b):=by
 obtain⟨b,hb⟩:=tN (FL37_0 (af pg)) (fun k=>[bR l,.int .i64 (k:Int)]) l.length ⟨decide ((l.length:Int)<=10),by simp[L37_0]⟩ (fun k hk=>by
  have h1:(k:Int)<(l.length:Int):=ZL
  have hix:=vH (l:=l) (n:=(k:Int)) ZL h1;rw[Xw,Xv l k hk]at hix;have hm':=XB hk;generalize l[k]=f at hix hm';have w3:IntKind.i64.wrap ((k:Int)+1)=(k:Int)+1:=by rw[aV ZL];simp
  obtain⟨b,hb⟩:=Q5 f.2 (ht f hm');by_cases h9:k<=10
  ·have h9':(k:Int)<=10:=ZL
   by_cases h30:30<f.1.length
   ·have h30':30<(f.1.length:Int):=ZL
    simp_all[L37_0]
   ·have h30':¬30<(f.1.length:Int):=ZL
    cases b with
    |false=>simp_all[L37_0]
    |true=>exact .inr (by simp[L37_0,h1,hk,hix,hb,h9,h9',h30,h30',w3])
  ·have h9':¬(k:Int)<=10:=ZL
   exact .inl ⟨decide ((l.length:Int)<=10),by simp[L37_0,h1,hk,h9,h9']⟩) 0 (XJ _)
 grind [C37,S37,xW,fS]
def Ni(l:List Exp)(hb:l.length<=140737488355328)(ht:∀f∈l,f.Lim):∃b,af pg 40 [df l]=am (.bool b):=by
 obtain⟨b,hb⟩:=tN (FL40_0 (af pg)) (fun k=>[df l,.int .i64 (k:Int)]) l.length ⟨decide ((l.length:Int)<=10),by simp[L40_0]⟩ (fun k hk=>by
  have h1:(k:Int)<(l.length:Int):=ZL
  have hix:=m7 (l:=l) (n:=(k:Int)) ZL h1;rw[Xw,Xv l k hk]at hix;have hm':=XB hk;generalize l[k]=f at hix hm';have w3:IntKind.i64.wrap ((k:Int)+1)=(k:Int)+1:=by rw[aV ZL];simp
  obtain⟨b,hb⟩:=UF f (ht f hm');by_cases h9:k<=10
  ·have h9':(k:Int)<=10:=ZL
   cases b with
   |false=>simp_all[L40_0]
   |true=>simp_all[L40_0]
  ·have h9':¬(k:Int)<=10:=ZL
   exact .inl ⟨decide ((l.length:Int)<=10),by simp[L40_0,h1,hk,h9,h9']⟩) 0 (XJ _)
 grind [C40,S40,Jr,fS]
def JV(f:AV)(F:Mod->Bool)(l:List Mod)(hb:l.length<=4611686018427387904)(hf:∀x∈l,cS (af pg) f [Mod.av x]=am (.bool (F x))):∀(n:Nat)(i:Int),l.length-i.toNat=n->0<=i->i<=l.length->
  ak (L142_0 (af pg) ak) [mods l,f,.int .i64 l.length,.int .i64 i]=am (.int .i64 (aY F (l.drop i.toNat) i)):=by
 intro n
 induction n with
 |zero=>
  intro i hn hi hl;rw[FL142_0];simp only[L142_0];have h1:¬(i<(l.length:Int)):=ZL
  have h2:l.drop i.toNat=[]:=List.drop_eq_nil_of_le ZL;simp[h1,h2,aY]
 |succ n ih=>
  intro i hn hi hl;have h1:i<(l.length:Int):=ZL
  have hlt:i.toNat<l.length:=ZL
  have h2:aY F (l.drop i.toNat) i=if F l[i.toNat]=true then i else aY F (l.drop (i.toNat+1)) (i+1):=by rw[List.drop_eq_getElem_cons hlt];rfl
  have h3:=hf l[i.toNat] (XB hlt);have h4:=ih (i+1) ZL ZL ZL;rw[show (i+1).toNat=i.toNat+1 by omega]at h4;rw[FL142_0];simp only[L142_0];simp (disch:=omega) [h1,aS,Ep,h3,h2];simp_all
def t142(f:AV)(F:Mod->Bool)(l:List Mod)(hb:l.length<=4611686018427387904)(hc:∀g,cl g f=f)(hf:∀x∈l,cS (af pg) f [Mod.av x]=am (.bool (F x))):af pg 142 [mods l,f]=am (.int .i64 (aY F l 0)):=by
 rw[C142];simp[S142,hc,JV f F l hb hf l.length 0 rfl ZL ZL]
def t102(f:AV)(F:Mod->Bool)(l:List Mod)(hb:l.length<=4611686018427387904)(hc:∀g,cl g f=f)(hf:∀x∈l,cS (af pg) f [Mod.av x]=am (.bool (F x))):af pg 102 [mods l,f]=am (.bool (l.any F)):=by
 rw[C102];simp[S102,hc,t142 f F l hb hc hf,wT]
def JW(f:AV)(F:Fun->Bool)(l:List Fun)(hb:l.length<=4611686018427387904)(hf:∀x∈l,cS (af pg) f [Fun.av x]=am (.bool (F x))):∀(n:Nat)(i:Int),l.length-i.toNat=n->0<=i->i<=l.length->
  ak (L144_0 (af pg) ak) [iN l,f,.int .i64 l.length,.int .i64 i]=am (.int .i64 (aY F (l.drop i.toNat) i)):=by
 intro n
 induction n with
 |zero=>
  intro i hn hi hl;rw[FL144_0];simp only[L144_0];have h1:¬(i<(l.length:Int)):=ZL
  have h2:l.drop i.toNat=[]:=List.drop_eq_nil_of_le ZL;simp[h1,h2,aY]
 |succ n ih=>
  intro i hn hi hl;have h1:i<(l.length:Int):=ZL
  have hlt:i.toNat<l.length:=ZL
  have h2:aY F (l.drop i.toNat) i=if F l[i.toNat]=true then i else aY F (l.drop (i.toNat+1)) (i+1):=by rw[List.drop_eq_getElem_cons hlt];rfl
  have h3:=hf l[i.toNat] (XB hlt);have h4:=ih (i+1) ZL ZL ZL;rw[show (i+1).toNat=i.toNat+1 by omega]at h4;rw[FL144_0];simp only[L144_0];simp (disch:=omega) [h1,aS,Bu,h3,h2];simp_all
def t144(f:AV)(F:Fun->Bool)(l:List Fun)(hb:l.length<=4611686018427387904)(hc:∀g,cl g f=f)(hf:∀x∈l,cS (af pg) f [Fun.av x]=am (.bool (F x))):af pg 144 [iN l,f]=am (.int .i64 (aY F l 0)):=by
 rw[C144];simp[S144,hc,JW f F l hb hf l.length 0 rfl ZL ZL]
def t143(m:Mod)(s:aW):af pg 143 [m.av,.ip [.str s]]=am (.bool (m.name== s)):=by
 rw[C143];simp[S143,cl,fl]
def t145(f:Fun)(s:aW):af pg 145 [f.av,.ip [.str s]]=am (.bool (f.name== s)):=by
 rw[C145];simp[S145,cl,fl]
def t103(m w:Mod):af pg 103 [m.av,.ip (aa w.av)]=am (.bool (m.name== w.name)):=by
 rw[C103];simp[S103,cl,fl]
def SP(p:List Mod)(hp:p.length<=4611686018427387904)(s:aW):af pg 142 [mods p,.fn (.func 143) [] [.ip [.str s]]]=am (.int .i64 (dD p s)):=
 t142 _ _ p hp (fun g=>rfl) (fun m _=>t143 m s)
def SQ(p:List Fun)(hp:p.length<=4611686018427387904)(s:aW):af pg 144 [iN p,.fn (.func 145) [] [.ip [.str s]]]=am (.int .i64 (mU p s)):=
 t144 _ _ p hp (fun g=>rfl) (fun m _=>t145 m s)
def t160(n:Int):af pg 160 [.int .i64 n]=am (Val.mk 0 n [] []).av:=by
 rw[C160];rfl
def t161(b:Bool):af pg 161 [.bool b]=am (dR b).av:=by
 rw[C161];cases b<;>rfl
def t147(b:Bool)(n:Int):af pg 147 [.bool b,.int .i64 n]=if b=true then am (.tup [])else jR (.iface 30 (.int .i64 n)):=by
 rw[C147];cases b<;>rfl
def M3(l:List aW):cU T 31 (strs l) none (some (.int .i64 l.length)) (some (.int .i64 l.length))=some (strs l):=by
 have:=sr (T:=T) (t:=31) (e:=9) rfl rfl rfl (l.map AV.str)
 simpa [strs]using this
def M2(l:List Val):cU T 23 (vals l) none (some (.int .i64 l.length)) (some (.int .i64 l.length))=some (vals l):=by
 have:=sr (T:=T) (t:=23) (e:=33) rfl rfl rfl (dY l)
 simpa [vals,dS]using this
def t176(l:List aW):af pg 176 [strs l]=am (strs l):=by
 rw[C176];simp[S176,M3,dw (a:=strs l) fun g=>nT g l]
def t177(l:List Val):af pg 177 [vals l]=am (vals l):=by
 rw[C177];simp[S177,M2]
def bB(o:Int)(ns:List aW)(vs:List Val):AV:=.agg [.int .i64 o,strs ns,vals vs]
@[simp] theorem fE(o:Int)(ns:List aW)(vs:List Val):aa (bB o ns vs)=[.int .i64 o,strs ns,vals vs]:=rfl
theorem bS(o:Int)(ns:List aW)(vs:List Val):AV.agg [.int .i64 o,strs ns,vals vs]=bB o ns vs:=rfl
def zE(g)(o:Int)(ns:List aW)(vs:List Val):cl g (bB o ns vs)=bB o ns vs:=by
 simp_all[bB,cl,fl]
def pm(o:Int)(ns:List aW)(vs:List Val):bT 3 (bB o ns vs)=true:=by grind [bT,ay,strs,vals,bB,dy,aa]
def Cp(o:Int)(ns:List aW)(vs:List Val):be (am (bB o ns vs))=am (bB o ns vs):=dw fun g=>zE g o ns vs
set_option maxHeartbeats 1000000 in
def t159(n:Int):af pg 159 [.int .i64 n]=am (.int .i64 (bE n)):=by
 rw[C159];unfold bE;simp only[S159,K159_0,K159_1,K159_2,K159_3,cl,uk,aH,ae,ai,ao,au,Yb];by_cases h0:n=0
 ·simp[h0]
 by_cases h1:n=1
 ·simp[h1]
 by_cases h2:n=2
 ·simp[h2]
 by_cases h17:n=17
 ·simp[h17]
 by_cases h10:n=10
 ·simp[h10]
 by_cases h14:n=14
 ·simp[h14]
 by_cases h16:n=16
 ·simp[h16]
 by_cases h18:n=18
 ·simp[h18]
 by_cases h3:n=3
 ·simp[h3]
 by_cases h4:n=4
 ·simp[h4]
 by_cases h5:n=5
 ·simp[h5]
 by_cases h6:n=6
 ·simp[h6]
 by_cases h7:n=7
 ·simp[h7]
 by_cases h8:n=8
 ·simp[h8]
 by_cases h9:n=9
 ·simp[h9]
 by_cases h12:n=12
 ·simp[h12]
 by_cases h11:n=11
 ·simp[h11]
 by_cases h13:n=13
 all_goals simp_all
theorem t148(o:Int)(ns:List aW)(vs:List Val)(s:aW)(v:Val)(h1:ns.length<=1099511627776)(h2:vs.length<=1099511627776):
  af pg 148 [bB o ns vs,.str s,v.av]=am (bB o (ns++[s]) (vs++[v])):=by
 have hb1:aP T 31 1 [(0,.str s)]=some (strs [s]):=rfl;have hb2:aP T 23 1 [(0,v.av)]=some (vals [v]):=by rw[v.av_eq];simp[vals,dY,v.av_eq];rfl
 have ha1:dG T 31 (strs ns) (strs [s])=some (strs (ns++[s])):=I5 ZQ;have ha2:dG T 23 (vals vs) (vals [v])=some (vals (vs++[v])):=I4 ZQ;have hb3:cE T false 193 [(0,.int .i64 o),(1,strs (ns++[s])),(2,vals (vs++[v]))]=some (bB o (ns++[s]) (vs++[v])):=rfl;simp_all[C148,zE,S148,t176,t177,bS,pm,Cp]
def pG(e:Int):AV:=.iface 30 (.int .i64 e)
def da(b:Bool)(e:Int)(x:M AV):M AV:=if b=true then x else jR (pG e)
def bk(b:Bool)(e:Int)(f:AV->M AV):ar (af pg 147 [.bool b,.int .i64 e]) f=da b e (f (.tup [])):=by
 rw[t147];unfold da;cases b<;>rfl
def gJ:X Val->M AV:=fun x=>match x ⟨0,0,[],[],[],[]⟩with
 |.ok v _=>am v.av
 |.er e _=>jR (pG e)
def t162(op:Int)(a b:Val)(h:op=3\/op=4\/op=5\/op=6\/op=7):af pg 162 [.int .i64 op,a.av,b.av]=gJ (oS op a b):=by
 rw[C162];unfold oS;have hn:=t160;have ht:=t161;simp only[S162,aH,ae,ai,bH];by_cases h7:op=7
 ·by_cases hk:a.kind=b.kind
  ·by_cases h2:a.kind=2
   ·simp_all[bk,da,gJ,X.er]
   ·have h2':¬b.kind=2:=ZL
    simp[h7,hk,h2',bk,da,gJ,X.ok,ht]
  simp_all[bk,da,gJ,X.er]
 ·by_cases ha:a.kind=0
  ·by_cases hb:b.kind=0
   ·simp only[h7,ha,hb,XR,Zy,XA,Xu,Yb,FA33_0,FA33_1,XG,LD3,ae,aH,aG,aj,bN,ao,bk,da,Ym,XK,ai,bj,fF,Dk,aB,hn,ht];by_cases h3:op=3
    ·simp[h3,gJ,X.ok,cp,wr];rfl
    by_cases h4:op=4
    ·simp[h4,gJ,X.ok,cp,wr];rfl
    by_cases h5:op=5
    ·simp[h5,gJ,X.ok,cp,wr];rfl
    simp[h3,h4,h5,gJ,X.ok]
   simp_all[bk,da,gJ,X.er]
  simp_all[bk,da,gJ,X.er]
def t165(l:List aW)(s:aW)(hb:l.length<=1099511627776):af pg 165 [strs l,.str s]=am (.int .i64 (aY (fun x=>s== x) l 0)):=by
 have hl:∀(n:Nat)(i:Int),l.length-i.toNat=n->0<=i->i<=l.length->ak (L165_0 (af pg) ak) [strs l,.str s,.int .i64 l.length,.int .i64 i]=am (.int .i64 (aY (fun x=>s== x) (l.drop i.toNat) i)):=by
  intro n
  induction n with
  |zero=>
   intro i hn hi hl;rw[FL165_0];simp only[L165_0];have h1:¬(i<(l.length:Int)):=ZL
   have h2:l.drop i.toNat=[]:=List.drop_eq_nil_of_le ZL;simp[h1,h2,aY]
  |succ n ih=>
   intro i hn hi hl;have h1:i<(l.length:Int):=ZL
   have hlt:i.toNat<l.length:=ZL
   have h2:aY (fun x=>s== x) (l.drop i.toNat) i=if(s== l[i.toNat])=true then i else aY (fun x=>s== x) (l.drop (i.toNat+1)) (i+1):=by rw[List.drop_eq_getElem_cons hlt];rfl
   have h4:=ih (i+1) ZL ZL ZL;rw[show (i+1).toNat=i.toNat+1 by omega]at h4;rw[FL165_0];simp only[L165_0];simp (disch:=omega) [h1,aS,oO,h2];simp_all
 rw[C165];simp[S165,cl,hl l.length 0 rfl ZL ZL]
def t183:∀(n:Nat)(v:Val),v.sz<=n->v.sz<=1099511627776->af pg 183 [v.av]=am (.int .i64 (dL v:Nat)):=by
 intro n
 induction n with
 |zero=>intro v h;have:=v.sz_pos;omega
 | succ n ih=>
  intro v hn hv;have hlen:=v.sz_len;have hlv:∀(l:List Val),cV l<=1099511627776->dI l<=1099511627776:=by
   intro l
   induction l with
   |nil=>intro _;simp[dI]
   | cons x l ih2=>
    intro h;simp only[cV]at h
    have:=ih2 ZL
    have hx:∀(k:Nat)(y:Val),y.sz<=k->dL y<=y.sz:=by
     intro k
     induction k with
     |zero=>intro y hy;have:=y.sz_pos;omega
     |succ k ihk=>
      intro y hy;rw[i7];have h1:=y.sz_values;have h2:dI y.values<=cV y.values:=(g9 _ _).2 fun z hz=>XM (ihk z (by have:=W9 hz;omega)) (kN hz);omega
    simp only[dI]
    grind
  have hl:∀(B A:List Val)(c:Nat),A++B=v.values->c<=1099511627776->ak (L183_0 (af pg) ak) [.int .i64 (c:Nat),vals v.values,.int .i64 v.values.length,.int .i64 A.length]=am (.int .i64 ((max c (dI B)+1:Nat))):=by
   intro B
   induction B with
   |nil=>
    intro A c e hc;simp only[XN]at e;subst e;rw[FL183_0];simp (disch:=omega) [L183_0,dI,aS]
   | cons x B ih2=>
    intro A c e hc;have hll:A.length+(B.length+1)=v.values.length:=by rw[<- e];simp
    have h1:(A.length:Int)<(v.values.length:Int):=ZL
    have hx:v.values[A.length]! = x:=by
     rw[<- e,Xv _ _ ZO];simp
    have hm:x∈v.values:=by rw[<- e];simp
    have hx':v.values[A.length]'(ZL)=x:=by rw[<- hx,Xv]
    have h3:=ih x (by have:=W9 hm;omega) (by have:=W9 hm;omega);have hxb:dL x<=1099511627776:=XM ((g9 v.values _).1 (hlv v.values (by have:=v.sz_values;omega)) x hm) (Xt _);have h4:=ih2 (A++[x]) (max c (dL x)) ZN ZL;rw[FL183_0];have hmx:(max (c:Int) (dL x:Int))=((max c (dL x):Nat):Int):=ZL
    simp (disch:=omega) [L183_0,h1,aS,sY,hx',h3,hmx]at h4 |-;rw[h4];simp only[dI]
  rw[C183]
  have:=hl v.values [] 0 rfl ZL
  simp_all[S183,i7]
def t184(f:fu)(e:Exp):af pg 184 [dU f,.ip (aa e.av)]=am (.bool (f.1== e.s)):=by
 rw[C184];simp[S184,cl,fl]
def SR(l:List fu)(hl:l.length<=1099511627776)(e:Exp):af pg 181 [bR l,.fn (.func 184) [] [.ip (aa e.av)]]=am (.int .i64 (lM l e.s)):=
 t181 _ _ l ZL (fun g=>by simp[cl,fl]) (fun f _=>t184 f e)
def Kf(t:Bool)(p:List Mod):AV:=if t=true then(match p with|[]=>.hn|_=>mods p)else mods p
def sT{t:Bool}{p:List Mod}(h:p≠[]):Kf t p=mods p:=by
 cases t with
 |false=>rfl
 |true=>cases p with
  |nil=>grind
  |cons _ _=>rfl
def FT(t:Bool)(w:List Int):AV:=if t=true then .hn else ints w
def rowP(p:List Mod)(t:Bool)(m:Ms)(dv cv sv:AV):List AV:=[Kf t p,FT t m.world,.int .i64 m.fuel,.int .i64 m.frames,.int .i64 0,.int .i64 0,.int .i64 0,.hn,.hn,dv,cv,sv]
abbrev gX(p:List Mod)(nm:SNm):=WC (rowP p nm.told) nm
structure LimP (p:List Mod):Prop where
 len:p.length<=1099511627776
 funcs:∀m∈p,m.funcs.length<=1099511627776/\m.vars.length<=1099511627776
def LimP.funcsAt{p:List Mod}(L:LimP p)(i:Nat):(p[i]?.getD default).funcs.length<=1099511627776/\(p[i]?.getD default).vars.length<=1099511627776:=by
 cases h:p[i]? with
 |none=>exact⟨XJ _,XJ _⟩
 |some m=>exact L.funcs m (X7 h)
theorem pQ{α:Type}(F:α->Bool):(l:List α)->(i:Int)->aY F l i= -1\/(i<=aY F l i/\aY F l i<i+l.length)
 |[],i=>.inl rfl
 | x:: l,i=>by
  simp only[aY];split
  ·grind
  ·rcases pQ F l (i+1)with h|h
   all_goals grind
def t82{p:List Mod}{nm:SNm}{m:Ms}{h:Hp}(R:gX p nm m h)(L:LimP p)(s:aW):af pg 82 [.hp 0 0,.str s] h= .ok (.int .i64 (dD p s)) h:=by
 obtain⟨tag,dv,cv,sv,R⟩:=R;have h0:bb T 22 (.hp 0 (0+0)) h= .ok (Kf nm.told p) h:=bL rfl rfl R.r0 rfl;have hpv:∀f:AV,af pg 142 [Kf nm.told p,f]=af pg 142 [mods p,f]:=fun f=>by
  by_cases hp:p=[]
  ·subst hp;cases nm.told with
   |false=>rfl
   |true=>rw[C142,C142];rfl
  ·rw[sT hp]
 rw[C82];simp only[S82,aJ,ae,FH170_0];rw[ap h0,hpv]
 have:=SP p (by have:=L.len;omega) s
 simp only[mf,this,aj];rfl
def Ck:Option Fun->AV
 |some f=>.tup [f.av,.bool true]
 |none=>.tup [Fun.av default,.bool false]
theorem t83{p:List Mod}{nm:SNm}{m:Ms}{h:Hp}(R:gX p nm m h)(L:LimP p)(a:Int)(ha:a<p.length)(s:aW):af pg 83 [.hp 0 0,.int .i64 a,.str s] h= .ok (Ck (lO p a s)) h:=by
 obtain⟨tag,dv,cv,sv,R⟩:=R;have h0:p≠[]->bb T 22 (.hp 0 (0+0)) h= .ok (mods p) h:=fun hp=>bL rfl rfl R.r0 (by rw[<- sT (t:=nm.told) hp];rfl);have hz:cE T false 110 []=some (Fun.av default):=rfl;have hzz:∀f:Fun,AV.agg [ab (aa f.av) 0,ab (aa f.av) 1,ab (aa f.av) 2,ab (aa f.av) 3,ab (aa f.av) 4,ab (aa f.av) 5,ab (aa f.av) 6,ab (aa f.av) 7,ab (aa f.av) 8,ab (aa f.av) 9,ab (aa f.av) 10,ab (aa f.av) 11]=f.av:=fun f=>ZO
 have hcf:∀f:Fun,bF 12 [] f.av=am (.agg (aa f.av)):=fun f=>iq (p9 f);have hac:∀f:Fun,aa (.agg (aa f.av))=aa f.av:=fun _=>rfl;rw[C83];unfold lO;simp only[S83,aB,ae,ai];by_cases h1:a<0
 ·simp only[h1,XP,XA,hz,ae,hcf,aj,hac,hzz];rfl
 ·simp only[h1,YJ,Xo,Xu,aJ,ae,FH170_0];rw[ap (h0 (fun e=>ZN))];have hi:=Ep (l:=p) (n:=a) ZL ha;have hlt:a.toNat<p.length:=ZL
  have e1:p[a.toNat]! = p[a.toNat]?.getD default:=by rw[Xv p a.toNat hlt,XC hlt];rfl
  have hlen:=(L.funcsAt a.toNat).1;have hx:=SQ (p[a.toNat]?.getD default).funcs ZL s;generalize hm:p[a.toNat]?.getD default=md at hx hlen e1;rw[hi,e1];simp only[ae,eW,FA53_4,XK,XG,LD49,mf,hx,aj,aB,ai];by_cases h2:mU md.funcs s<0
  ·simp only[h2,XP,XA,hz,ae,hcf,aj,hac,hzz];rfl
  ·simp only[h2,YJ,Xo,Xu];rcases pQ (fun f=>f.name== s) md.funcs 0 with h3|h3
   ·grind [mU]
   ·have h4:mU md.funcs s<(md.funcs.length:Int):=by unfold mU;omega
    have h5:(mU md.funcs s).toNat<md.funcs.length:=ZL
    rw[Bu ZL h4,Xv md.funcs _ h5,XC h5];have hld:ax T 110 (.ip (aa (md.funcs[(mU md.funcs s).toNat]).av))=some (md.funcs[(mU md.funcs s).toNat]).av:=ZO
    simp only[ae,hld,hcf,aj,hac,hzz];rfl
def jZ{α:Type}(p:List Mod)(nm:SNm)(enc:α->AV)(r:Rs α)(c:R AV):Prop:=match r with
 |.ok v s=>∃h',c= .ok (enc v) h'/\gX p nm s h'
 |.er e s=>∃h',c= .pan (pG e) h'/\gX p nm s h'
def cG{α β:Type}{p:List Mod}{nm:SNm}{enc:α->AV}{enc':β->AV}{x:X α}{f:α->X β}{c:M AV}{d:AV->M AV}{m:Ms}{h:Hp}(H:jZ p nm enc (x m) (c h))(K:∀a s h',x m= .ok a s->gX p nm s h'->jZ p nm enc' (f a s) (d (enc a) h')):jZ p nm enc' (x.bind f m) (ar c d h):=by
 unfold X.bind;cases hr:x m with
 |ok a s=>
  rw[hr]at H;obtain⟨h',h1,h2⟩:=H;rw[ap h1]
  grind
 |er e s=>
  rw[hr]at H;obtain⟨h',h1,h2⟩:=H;exact⟨h',Dl h1,h2⟩
theorem eU{α:Type}{p:List Mod}{nm:SNm}{enc:α->AV}{a:α}{m:Ms}{h:Hp}(R:gX p nm m h):jZ p nm enc (X.ok a m) (am (enc a) h):=⟨h,rfl,R⟩
theorem gn{α:Type}{p:List Mod}{nm:SNm}{enc:α->AV}{e:Int}{m:Ms}{h:Hp}(R:gX p nm m h):jZ p nm enc (X.er e m) (jR (pG e) h):=⟨h,rfl,R⟩
def KY(v:Val):ar (bF 4 [] v.av) (fun w=>am (AV.agg [ab (aa w) 0,ab (aa w) 1,ab (aa w) 2,ab (aa w) 3]))=am v.av:=ZO
def jX(m:Ms):Ms:={ m with fuel:=m.fuel-1 }
def H8{p:List Mod}{nm:SNm}{tag:Nat->Nat}{dv cv sv:AV}{m:Ms}{h:Hp}(R:RepT (rowP p nm.told) nm tag dv cv sv m h):RepT (rowP p nm.told) nm tag dv cv sv (jX m) (h.set 0 (rowP p nm.told (jX m) dv cv sv)):=R.set0 rfl rfl rfl id
def step0{p:List Mod}{nm:SNm}{m:Ms}{h:Hp}(R:gX p nm m h):∃h1,gX p nm (jX m) h1/\
  (∀f:AV->M AV,ar (bb T 3 (.hp 0 2)) f h=f (.int .i64 m.fuel) h)/\(∀f:AV->M AV,ar (bU T 3 (.hp 0 2) (.int .i64 (m.fuel-1))) f h=f (.tup []) h1):=by
 obtain⟨tag,dv,cv,sv,R⟩:=R;refine⟨_,⟨tag,dv,cv,sv,H8 R⟩,fun f=>ap (bL rfl rfl R.r0 rfl),fun f=>ap (bX rfl R.r0 rfl (show 2+1<=12 by decide) ZM)⟩
def GN{p:List Mod}{nm:SNm}{m:Ms}{h:Hp}(R:gX p nm m h)(hf:¬0<m.fuel)(sc:AV)(e:Exp):af pg 106 [.hp 0 0,sc,e.av] h= .pan (pG 16) h:=by
 obtain⟨tag,dv,cv,sv,R⟩:=R;have h0:∀f:AV->M AV,ar (bb T 3 (.hp 0 2)) f h=f (.int .i64 m.fuel) h:=fun f=>ap (bL rfl rfl R.r0 rfl);rw[C106];simp[S106,h0,hf,bk,da,jR]
def ry(e:Exp):Prop:=¬bE e.op= -2/\(bE e.op= -1\/bE e.op=e.args.length)
def Nc{p:List Mod}{nm:SNm}{m:Ms}{h:Hp}(R:gX p nm m h)(G:GoodM p m)(hf:0<m.fuel)(sc:AV)(e:Exp)(hc:¬ry e):∃h1,gX p nm (jX m) h1/\af pg 106 [.hp 0 0,sc,e.av] h= .pan (pG 13) h1:=by
 obtain⟨h1,R1,hl,hs⟩:=step0 R;refine⟨h1,R1,?_⟩;have hw:IntKind.i64.wrap (m.fuel-1)=m.fuel-1:=aS ZL (by have:=G.bud;simp only[mu]at this;omega);unfold ry at hc;rw[C106];simp[S106,hl,hs,hf,bk,da,hw,t159,hc];rfl
mutual
def bO:Exp->Prop
 |.mk _ _ _ _ ns es=>ns.length<=8796093022208/\es.length<=274877906944/\nV es
def nV:List Exp->Prop
 |[]=>True
 |e:: es=>bO e/\nV es
end
theorem rJ:{l:List Exp} ->nV l->∀e∈l,bO e
 |[],_,_,h=>by cases h
 |x:: l,H,e,h=>by
  simp only[nV]at H;rcases XZ.1 h with rfl|h
  ·exact H.1
  ·exact rJ H.2 e h
def bu{e x:Exp}(H:bO e)(h:x∈e.args):bO x:=by
 obtain⟨o,n,s,m,ns,es⟩:=e;simp only[bO]at H;exact rJ H.2.2 x h
def mA{e:Exp}(H:bO e):e.names.length<=8796093022208/\e.args.length<=274877906944:=by
 obtain⟨o,n,s,m,ns,es⟩:=e;simp only[bO]at H;exact⟨H.1,H.2.1⟩
structure LimB (p:List Mod):Prop where
 lim:LimP p
 body:∀m∈p,∀f∈m.funcs,bO f.body/\f.params.length<=274877906944
structure Sc (p:List Mod) (own:Int) (ns:List aW) (vs:List Val) (m:Ms):Prop where
 own:own<p.length
 right:na ns vs
 len:(ns.length:Int)+m.fuel<=549755813888
def sD(p:List Mod)(nm:SNm)(n:Nat):Prop:=∀own ns vs e m h,gX p nm m h->GoodM p m->m.fuel<=n->Sc p own ns vs m->bO e->jZ p nm Val.av (cL p n own ns vs e m) (af pg 106 [.hp 0 0,bB own ns vs,e.av] h)
def K7(p:List Mod)(nm:SNm)(n:Nat):Prop:=∀own ns vs e m h,gX p nm m h->GoodM p m->m.fuel<=n->Sc p own ns vs m->bO e->jZ p nm AV.bool (boolX (cL p n own ns vs e) m) (af pg 163 [.hp 0 0,bB own ns vs,e.av] h)
def KB(p:List Mod)(nm:SNm)(n:Nat):Prop:=∀own ns vs e m h,gX p nm m h->GoodM p m->m.fuel<=n->Sc p own ns vs m->bO e->jZ p nm Val.av (mO (cL p n own ns vs) e m) (af pg 164 [.hp 0 0,bB own ns vs,e.av] h)
def FZ(p:List Mod)(nm:SNm)(n:Nat):Prop:=∀own ns vs e m h,gX p nm m h->GoodM p m->mu m<1000000->m.fuel<=n->Sc p own ns vs m->bO e->jZ p nm Val.av (tn p (cL p n) own ns vs e m) (af pg 166 [.hp 0 0,bB own ns vs,e.av] h)
def vB(p:List Mod)(r:Exp->X Val)(own:Int)(e:Exp):X Val:=if e.op=16 then Bz (r e.args[0]!) e else C1 p r own e
def Da(p:List Mod)(nm:SNm)(n:Nat):Prop:=∀own ns vs e m h,e.op=16\/e.op=17\/e.op=18->ry e->gX p nm m h->GoodM p m->mu m<1000000->m.fuel<=n->Sc p own ns vs m->bO e->jZ p nm Val.av (vB p (cL p n own ns vs) own e m) (af pg 167 [.hp 0 0,bB own ns vs,e.av] h)
def Sc.less{p:List Mod}{own:Int}{ns:List aW}{vs:List Val}{m s:Ms}(H:Sc p own ns vs m)(h:s.fuel<=m.fuel):Sc p own ns vs s:=⟨H.own,H.right,by have:=H.len;omega⟩
theorem t163{p:List Mod}{nm:SNm}{n:Nat}(IH:sD p nm n):K7 p nm n:=by
 intro own ns vs e m h R G hn hs he;unfold boolX;have hsc:ax T 193 (.ip (aa (bB own ns vs)))=some (bB own ns vs):=rfl;have hex:ax T 108 (.ip (aa e.av))=some e.av:=ZO
 rw[C163];simp only[S163,hsc,hex,ae];refine cG (IH own ns vs e m h R G hn hs he) fun v s h' hv Rs=>?_;simp only[aZ (dV v),aj,aI,bH,FA33_0,FA33_1,XG,LD3,ae,aH,bk,da,XK]
 grind [eU,gn]
theorem wZ:∀(ns:List aW)(vs:List Val)(n:aW)(v:Val)(s:aW),ns.length=vs.length->lj (ns++[n]) (vs++[v]) s=if n=s then some v else lj ns vs s
 |[],[],n,v,s,_=>by simp[lj]
 |a:: ns,b:: vs,n,v,s,h=>by
  simp only[Yi,lj,wZ ns vs n v s (by simpa using h)]
  grind
 |[],_:: _,_,_,_,h=>by simp at h
 |_:: _,[],_,_,_,h=>by simp at h
def HD(o:Option Val):M AV:=match o with
 |some v=>am v.av
 |none=>jR (pG 12)
theorem AH(kk:List AV->M AV)(own:Int)(ns:List aW)(vs:List Val)(e:Exp)(x1 x2 x3 x4:AV)(hl:ns.length=vs.length)(hb:ns.length<=1099511627776):∀(i:Nat),i<=ns.length->
  ak (L106_0 (af pg) ak kk) [.hp 0 0,.ip [.int .i64 own,strs ns,vals vs],.ip (aa e.av),.int .i64 ((i:Int)-1),x1,x2,x3,x4]=HD (lj (ns.take i) (vs.take i) e.s)
 |0,_=>by
  have hi:lU T 30 (.int .i64 12)=some (pG 12):=rfl;rw[FL106_0];simp only[L106_0,ao,au,jl,ae,ai,hi];simp[lj,HD,Kb];rfl
 |i+1,hi=>by
  have ih:=AH kk own ns vs e x1 x2 x3 x4 hl hb i ZL;have h1:i<ns.length:=ZL
  have h2:i<vs.length:=ZL
  have h3:(ns.take (i+1))=ns.take i++[ns[i]]:=ZO
  have h4:(vs.take (i+1))=vs.take i++[vs[i]]:=ZO
  rw[h3,h4,wZ _ _ _ _ _ ZQ,FL106_0];have e1:((i+1:Nat):Int)-1=(i:Int):=ZL
  rw[e1];simp only[L106_0];simp (disch:=omega) [aS,oO,sY,h1,h2]
  grind [cd,HD]
end Go.Proofs.YtbndmpiddinalaaGreatDoor
