/- What the functions compute, part 6. Conditions: bounds. -/
import Derived.Test.YtbndmpiddinalaaGreatDoorTe
import Derived.Test.YtbndmpiddinalaaGreatDoorLd
set_option linter.defProp false
set_option linter.unusedSimpArgs false
set_option linter.unusedVariables false
namespace Go.Proofs.YtbndmpiddinalaaGreatDoor
open Go Go.Av Go.Av.Ap
set_option maxRecDepth 100000
section
variable (f:Fun) (m:Ap.Mod)
theorem fF0:ah T 110 (.ip (aa f.av)) 0=some (.ip ((aa f.av).drop 0)):=rfl
theorem fF2:ah T 110 (.ip (aa f.av)) 2=some (.ip ((aa f.av).drop 2)):=rfl
theorem fF5:ah T 110 (.ip (aa f.av)) 5=some (.ip ((aa f.av).drop 6)):=rfl
theorem WR:ax T 9 (.ip ((aa f.av).drop 0))=some (.str f.name):=ZP
theorem Wk:ax T 47 (.ip ((aa f.av).drop 2))=some (bR f.params):=ZP
theorem WS:ax T 108 (.ip ((aa f.av).drop 6))=some f.body.av:=ZP
theorem WT:ax T 110 (.ip (aa f.av))=some f.av:=ZP
theorem fM2:ah T 53 (.ip (aa m.av)) 2=some (.ip ((aa m.av).drop 2)):=rfl
theorem fM4:ah T 53 (.ip (aa m.av)) 4=some (.ip ((aa m.av).drop 4)):=rfl
theorem WV:ax T 47 (.ip ((aa m.av).drop 2))=some (bR m.vars):=rfl
theorem WW:ax T 49 (.ip ((aa m.av).drop 4))=some (iN m.funcs):=rfl
theorem Wm:ax T 53 (.ip (aa m.av))=some m.av:=rfl
end
theorem fD0(f:fu):ah T 158 (.ip (aa (dU f))) 0=some (.ip ((aa (dU f)).drop 0)):=rfl
def WN(f:fu):ax T 9 (.ip ((aa (dU f)).drop 0))=some (.str f.1):=ZP
def WO(f:fu):ax T 158 (.ip (aa (dU f)))=some (dU f):=ZP
def A9(p:Cod×Nat):AV:=.agg [.str p.1.func,.int .i64 p.1.params,.int .i64 p.1.locals,.hs p.2 0 p.1.code.length 5 true]
theorem Fq(b:Bool):Kz UnOp.not (.bool b)=some (.bool (!b)):=rfl
def Tq(h:Hp)(acc:List (Cod×Nat)):Prop:=∀p∈acc,h[p.2]? = some (rowOf Ins.av p.1.code)
theorem KU(v6:List AV->M AV)(a0 a1 a2 a3 a5 a6 a7:AV)(ps:List fu)(hb:ps.length<=1000000):∀(B A:List fu),A++B=ps->
  ak (L42_0 (af pg) ak v6) [a0,a1,a2,a3,strs (A.map (·.1)),a5,a6,a7,bR ps,.int .i64 ps.length,.int .i64 A.length]=ak (L42_0 (af pg) ak v6) [a0,a1,a2,a3,strs (ps.map (·.1)),a5,a6,a7,bR ps,.int .i64 ps.length,.int .i64 ps.length]
 |[],A,e=>by
  grind
 | x:: B,A,e=>by
  have hlen:A.length+(B.length+1)=ps.length:=by rw[<- e];simp
  have h1:(A.length:Int)<(ps.length:Int):=ZL
  have hix:=vH (l:=ps) (n:=(A.length:Int)) ZL h1;have hx:ps[A.length]! = x:=by rw[Xv ps A.length ZL];simp[<- e]
  rw[Xw,hx]at hix;have hw:IntKind.i64.wrap ((A.length:Int)+1)=((A++[x]).length:Nat):=by rw[aS ZL ZL];simp
  have hap:dG T 31 (strs (A.map (·.1))) (strs [x.1])=some (strs ((A++[x]).map (·.1))):=by
   rw[I5 ZQ];simp
  have ih:=KU v6 a0 a1 a2 a3 a5 a6 a7 ps hb B (A++[x]) ZN;rw[<- ih,FL42_0];simp -implicitDefEqProofs only[L42_0,ao,au,aB,ae,ai,Xp,Xr h1,hix,WO,BV,aj,fD0,WN,V8,hap,bj,hw]
theorem VM(v6:List AV->M AV)(a0 a5 a6:AV){vars:List fu}(hv:vars.length<=1000000){f:Fun}(F:FunOk f){i:Nat}(hi:i<=1000000){acc:List (Cod×Nat)}(ha:acc.length<=1000000){h:Hp}{l:Nat}(H:CS h l vars ([],f.params.length)):
  ∃lb h',l<lb/\h'[lb]? = some (rowOf Ins.av (dn vars f).code)/\sE l h h'/\
   ak (L42_0 (af pg) ak v6) [a0,.sl (acc.map A9),.ip (aa f.av),.hp l 0,strs (f.params.map (·.1)),a5,a6,.int .i64 i,bR f.params,.int .i64 f.params.length,.int .i64 f.params.length] h=v6 [a0,.sl ((acc++[(dn vars f,lb)]).map A9),a5,a6,.int .i64 ((i+1:Nat):Int)] h':=by
 have hpl:=F.plen;have hcap:oq 12<=99000000000:=by simp[oq]
 obtain⟨h1,e1,H1,o1⟩:=t97 hv 12 f.body F.body (f.params.map (·.1)) ZQ ([],f.params.length) h l H ZN;have g1:=cF vars 12 f.body F.body (f.params.map (·.1)) ([],f.params.length);obtain⟨h2,e2,H2,o2⟩:=t98 H1 (cB 18 0) ZN;obtain⟨x,hx,cx⟩:=H2;have hcode:(gE (cB 18 0) (bC vars 12 f.body (f.params.map (·.1)) ([],f.params.length))).1=(dn vars f).code:=rfl;have hloc:(gE (cB 18 0) (bC vars 12 f.body (f.params.map (·.1)) ([],f.params.length))).2=(dn vars f).locals:=rfl;rw[hcode]at cx;rw[hloc]at hx;rcases cx with⟨z,_⟩|⟨_,lb,hlb,rfl,hq⟩
 ·grind [gE]
 ·refine⟨lb,h2,hlb,hq,o1.trans o2,?_⟩;have hn:¬((f.params.length:Int)<(f.params.length:Int)):=ZL
  have hb:cE T false 74 [(0,.str f.name),(1,.int .i64 f.params.length),(2,.int .i64 (dn vars f).locals),(3,.hs lb 0 (dn vars f).code.length 5 true)]=some (A9 (dn vars f,lb)):=rfl;have hbs:∀v:Cod×Nat,aP T 116 1 [(0,A9 v)]=some (.sl ([v].map A9)):=fun _=>rfl;have hap:dG T 116 (.sl (acc.map A9)) (.sl ([(dn vars f,lb)].map A9))=some (.sl ((acc++[(dn vars f,lb)]).map A9)):=
   lG (T:=T) (t:=116) (e:=74) rfl rfl rfl (f:=A9) (fun _=>rfl) ZN ZM
  have hw:IntKind.i64.wrap ((i:Int)+1)=((i+1:Nat):Int):=by rw[aS ZL ZL];omega
  rw[FL42_0];simp -implicitDefEqProofs only[L42_0,ao,au,aB,ae,ai,Xp,Xn hn,fF5,WS];rw[aQ e1];simp -implicitDefEqProofs only[KH,ae];rw[aQ e2];simp -implicitDefEqProofs only[fF0,WR,fF2,Wk,mc,ae,HL,fC1,fC2];rw[aQ (Hw hx),aQ (mG hx)];simp_all
theorem KT{m:Ap.Mod}(K:ModOk m):∀(B A:List Fun)(acc:List (Cod×Nat))(h:Hp),A++B=m.funcs->acc.map (·.1)=A.map (dn m.vars)->Tq h acc->
  ∃acc' h',ak (L42_1 (af pg) ak) [.ip (aa m.av),.sl (acc.map A9),iN m.funcs,.int .i64 m.funcs.length,.int .i64 A.length] h= .ok (.sl (acc'.map A9)) h'/\acc'.map (·.1)=m.funcs.map (dn m.vars)/\Tq h' acc'
 |[],A,acc,h,e,ha,H=>by
  rw[XN]at e;subst e;refine⟨acc,h,?_,ha,H⟩;have h1:¬((m.funcs.length:Int)<(m.funcs.length:Int)):=ZL
  rw[FL42_1];simp -implicitDefEqProofs only[L42_1,ao,au,aB,ae,ai,Xp,Xn h1];rfl
 | x:: B,A,acc,h,e,ha,H=>by
  have hlen:A.length+(B.length+1)=m.funcs.length:=by rw[<- e];simp
  have hf30:=K.flen;have hvl:=K.vlen;have h1:(A.length:Int)<(m.funcs.length:Int):=ZL
  have hix:=Bu (l:=m.funcs) (n:=(A.length:Int)) ZL h1;have hx:m.funcs[A.length]! = x:=by rw[Xv m.funcs A.length ZL];simp[<- e]
  rw[Xw,hx]at hix;have F:=K.fns x ZN;have hpl:=F.plen;have hal:acc.length=A.length:=by have:=XY List.length ha;simpa using this
  have hC:CS (h++[[bR m.vars,.hn,.int .i64 x.params.length]]) h.length m.vars ([],x.params.length):=⟨.hn,ZN,.inl ⟨rfl,rfl⟩⟩;obtain⟨lb,h2,hlb,hq,hlo,e2⟩:=VM (ak (L42_1 (af pg) ak)) (.ip (aa m.av)) (iN m.funcs) (.int .i64 m.funcs.length) ZL F (i:=A.length) ZL (acc:=acc) ZL hC;obtain⟨acc',h3,e3,r3,H3⟩:=KT K B (A++[x]) (acc++[(dn m.vars x,lb)]) h2 ZN ZN (by
   intro p hp;rcases X8.1 hp with hp|hp
   ·have:=H p hp
    have hl:=lT this;rw[hlo p.2 hl,Yq hl];exact this
   grind)
  refine⟨acc',h3,?_,r3,H3⟩;have hbv:cE T true 183 [(0,bR m.vars),(2,.int .i64 x.params.length)]=some (.agg [bR m.vars,.hn,.int .i64 x.params.length]):=rfl;have hnw:newH (aa (.agg [bR m.vars,.hn,.int .i64 x.params.length])) h= .ok (.hp h.length 0) (h++[[bR m.vars,.hn,.int .i64 x.params.length]]):=rfl;have hP:=KU (ak (L42_1 (af pg) ak)) (.ip (aa m.av)) (.sl (acc.map A9)) (.ip (aa x.av)) (.hp h.length 0) (iN m.funcs) (.int .i64 m.funcs.length) (.int .i64 A.length) x.params ZL x.params [] rfl;rw[FL42_1];simp -implicitDefEqProofs only[L42_1,ao,au,aB,ae,ai,Xp,Xr h1,hix,WT,mi,aj,fM2,WV,fF2,Wk,mc,hbv];rw[aQ hnw];show ak (L42_0 (af pg) ak (ak (L42_1 (af pg) ak))) [.ip (aa m.av),.sl (acc.map A9),.ip (aa x.av),.hp h.length 0,strs (([]:List fu).map (·.1)),iN m.funcs,.int .i64 m.funcs.length,.int .i64 A.length,bR x.params,.int .i64 x.params.length,.int .i64 ([]:List fu).length] _=_;simp_all
def EY{h:Hp}(acc:List (Cod×Nat))(H:Tq h acc):frz 6 h (.sl (acc.map A9))=yb (acc.map (·.1)):=by
 have key:∀p∈acc,frz 6 h (A9 p)=p.1.av:=by
  intro p hp;have hi:=EZ (f:=Ins.av) JI (fun _=>rfl) (fun x g=>by simp[Ins.av,Ins.cells,cl,fl]) ZM (H p hp) 5;unfold frz at hi |-;simp only[cl]at hi;simp only[A9,cl,fl,hi];rfl
 unfold frz at key |-;simp only[cl];unfold yb;congr 1;clear H
 induction acc with
 |nil=>rfl
 |cons p acc ih=>
  grind [fl]
def t42(m:Ap.Mod)(hm:m.Lim):af pg 42 [m.av]=am (yb (if ib m=true then m.funcs.map (dn m.vars)else[])):=by
 rw[C42];cases hr:ib m with
 | false=>
  have hS:S42 (af pg) ak (cl aE m.av)=am (.sl []):=by
   rw[xY];simp -implicitDefEqProofs only[S42,Wm,ae,t41 m hm,hr,aj,Fq,X3,ai,XA]
  rw[hS];rfl
 | true=>
  have K:=uD hr;obtain⟨acc,h',e1,r1,H1⟩:=KT K m.funcs [] [] [] rfl rfl (fun p hp=>by cases hp);have hS:S42 (af pg) ak (cl aE m.av) []= .ok (.sl (acc.map A9)) h':=by
   rw[xY];simp -implicitDefEqProofs only[S42,Wm,ae,t41 m hm,hr,aj,Fq,XH,ai,Xo,Xu,fM4,WW,Bv];exact e1
  funext h;unfold be;rw[hS];simp only[EY acc H1,r1,XA];rfl
theorem Wo(s:aW):ax T 9 (.ip (aa (.str s)))=some (.str s):=rfl
section
variable (i:Ins)
theorem fJ0:ah T 138 (.ip (aa i.av)) 0=some (.ip ((aa i.av).drop 0)):=rfl
theorem fJ1:ah T 138 (.ip (aa i.av)) 1=some (.ip ((aa i.av).drop 1)):=rfl
theorem fJ2:ah T 138 (.ip (aa i.av)) 2=some (.ip ((aa i.av).drop 2)):=rfl
theorem fJ3:ah T 138 (.ip (aa i.av)) 3=some (.ip ((aa i.av).drop 3)):=rfl
theorem fJ4:ah T 138 (.ip (aa i.av)) 4=some (.ip ((aa i.av).drop 4)):=rfl
theorem vS:ax T 3 (.ip ((aa i.av).drop 0))=some (.int .i64 i.op):=rfl
theorem Fe:ax T 3 (.ip ((aa i.av).drop 1))=some (.int .i64 i.a):=rfl
theorem Te:ax T 9 (.ip ((aa i.av).drop 2))=some (.str i.s):=rfl
theorem R5:ax T 9 (.ip ((aa i.av).drop 3))=some (.str i.m):=rfl
theorem R6:ax T 31 (.ip ((aa i.av).drop 4))=some (strs i.names):=rfl
theorem FX:ax T 138 (.ip (aa i.av))=some i.av:=rfl
end
section
variable (c:Cod)
theorem fK0:ah T 74 (.ip (aa c.av)) 0=some (.ip ((aa c.av).drop 0)):=rfl
theorem fK1:ah T 74 (.ip (aa c.av)) 1=some (.ip ((aa c.av).drop 1)):=rfl
theorem fK2:ah T 74 (.ip (aa c.av)) 2=some (.ip ((aa c.av).drop 2)):=rfl
theorem fK3:ah T 74 (.ip (aa c.av)) 3=some (.ip ((aa c.av).drop 3)):=rfl
theorem Vv:ax T 9 (.ip ((aa c.av).drop 0))=some (.str c.func):=rfl
theorem Wl:ax T 3 (.ip ((aa c.av).drop 1))=some (.int .i64 c.params):=rfl
theorem Vw:ax T 3 (.ip ((aa c.av).drop 2))=some (.int .i64 c.locals):=rfl
theorem Hs:ax T 72 (.ip ((aa c.av).drop 3))=some (nA c.code):=rfl
end
def WK{l:List Cod}{n:Nat}(h:n<l.length):aA T 116 (yb l) (.int .i64 (n:Int))=some (.ip (aa (Cod.av l[n]!))):=
 bp (T:=T) (t:=116) (e:=74) (f:=Cod.av) rfl rfl rfl (fun _=>rfl) ZL ZL
def RH{l:List Ins}{n:Nat}(h:n<l.length):aA T 72 (nA l) (.int .i64 (n:Int))=some (.ip (aa (Ins.av l[n]!))):=
 bp (T:=T) (t:=72) (e:=138) (f:=Ins.av) rfl rfl rfl (fun _=>rfl) ZL ZL
theorem VJ(l:List Cod):bm T 116 (yb l)=some (.int .i64 l.length):=by
 have h:bm T 116 (yb l)=some (.int .i64 (l.map Cod.av).length):=rfl
 grind
theorem AA(l:List Ins):bm T 72 (nA l)=some (.int .i64 l.length):=by
 have h:bm T 72 (nA l)=some (.int .i64 (l.map Ins.av).length):=rfl
 grind
theorem SE(a b:aW):cz T .eql 9 (.str a) (.str b)=some (.bool (a== b)):=rfl
theorem JQ(t:Nat)(a b:Int):cz T .leq t (.int .i64 a) (.int .i64 b)=some (.bool (decide (a<=b))):=rfl
theorem DV(l:List aW)(hb:l.length<=1000000):∀n k:Nat,l.length-k=n->k<=l.length->
  ak (L158_0 (af pg) ak) [strs l,strs l,.int .i64 l.length,.int .i64 (k:Int)]=am (.bool ((List.range' k n).all (fun k=>cr l[k]! && (decide (k=0)||eE l[k-1]! l[k]!))&&decide (l.length<=8)))
 |0,k,hn,hk=>by
  have h1:¬((k:Int)<(l.length:Int)):=ZL
  have h2:decide ((l.length:Int)<=8)=decide (l.length<=8):=Yn.2 ZL;rw[FL158_0];simp_all[L158_0,Xn]
 | n+1,k,hn,hk=>by
  have h1:(k:Int)<(l.length:Int):=ZL
  have hix:=oO (l:=l) (n:=(k:Int)) ZL h1;rw[Xw]at hix;have hw:IntKind.i64.wrap ((k:Int)+1)=((k+1:Nat):Int):=by rw[aS ZL ZL];omega
  have ih:=DV l hb n (k+1) ZL ZL;have hN:=t92 l[k]!;rw[FL158_0,List.range'_succ,XL];generalize (List.range' (k+1) n).all (fun k=>cr l[k]! && (decide (k=0)||eE l[k-1]! l[k]!))=q at ih |-;generalize decide (l.length<=8)=q8 at ih |-;generalize l[k]! = x at hix hN |-;rcases Ya k with hk0|hk0
  ·subst hk0;simp only[L158_0,ao,au,aB,ae,ai,Xp,Xr h1,hix,Wo,hN,aj,bc];cases hx:cr x with
   |false=>simp
   |true=>
    simp_all
  ·have hp:IntKind.i64.wrap ((k:Int)-1)=((k-1:Nat):Int):=by rw[aS ZL ZL];omega
   have hix2:=oO (l:=l) (n:=((k-1:Nat):Int)) ZL ZL;rw[Xw]at hix2;generalize l[k-1]! = g at hix2 |-;have hk1:decide (k=0)=false:=X1 ZL;have hk2:decide ((0:Int)<(k:Int))=true:=XU ZL;have hge:cz T .geq 9 (.str g) (.str x)=some (.bool (!(bY g x))):=rfl;have ha:eE g x=bY g x:=Yy.2 (ta g x);rw[ha];simp only[L158_0,ao,au,aB,ae,ai,Xp,Xr h1,hix,Wo,hN,aj,bc,dQ,hk1,fF,hp,hix2,bj,hw,ih,hk2,hge];cases cr x<;>cases bY g x<;>simp[gv]
def t158(l:List aW)(hb:l.length<=1000000):af pg 158 [strs l]=am (.bool (jM l)):=by
 have h:=DV l hb l.length 0 rfl (XJ _);rw[xQ cr eE l]at h;have h':ak (L158_0 (af pg) ak) [strs l,strs l,.int .i64 l.length,.int .i64 0]=am (.bool (jM l)):=h;have hcl:cl aE (strs l)=strs l:=ZO
 grind [C158,S158,gW,ae,fS]
def iP(a:Int)(s m:aW)(names:List aW)(ok:Bool):Bool:=((((ok&&decide (a=0))&&(s== []))&&(m== []))&&decide ((names.length:Int)=0))
def nC(a:Int)(s m:aW)(names:List aW)(ok:Bool):K99_0 (af pg) ak [.int .i64 a,.str s,.str m,strs names,.bool ok]=am (.bool (iP a s m names ok)):=by
 simp -implicitDefEqProofs only[K99_0,ao,au,kQ,SE,gW,ae,aG,aj,bN,iP]
theorem RO(a:Int)(s m:aW)(names:List aW)(op:Int)(hb:names.length<=1000000)(h:¬(op=0\/op=1\/op=2\/op=3\/op=10\/op=11)):
  K99_2 (af pg) ak (K99_0 (af pg) ak) [.int .i64 a,.str s,.str m,strs names,.bool true,.int .i64 op,.bool (decide (op=16)||decide (op=17))]=am (.bool (
   if op=16\/op=17 then iP 0 s m names (decide (0<=a)&&decide (a<8))
   else if op=15 then iP 0 s m names (((decide (a=1)||decide (a=2))||decide (a=4))||decide (a=8))
   else if op=13 then iP a [] m names (cr s)
   else if op=14 then iP 0 [] [] names (((decide (0<=a)&&decide (a<=6))&&cr s)&&((m== [])||cr m))
   else if op=12 then iP a s m [] (jM names)
   else if wq op=true then iP a s m names true else false)):=by
 have hN:=t92 s;have hM:=t92 m;have hA:=t158 names hb;have e0:(AV.sl []:AV)=strs []:=rfl;by_cases h16:op=16\/op=17
 ·have hd:(decide (op=16)||decide (op=17))=true:=by simpa using h16
  simp -implicitDefEqProofs only[K99_2,ao,au,hd,ai,XA,JQ,aB,ae,aG,aj,bN,nC,Xr h16]
 have hd:(decide (op=16)||decide (op=17))=false:=by simpa using h16
 rw[Xn h16];simp -implicitDefEqProofs only[K99_2,ao,au,hd,ai,Xo,Xu,kQ,ae,Xp];by_cases h15:op=15
 ·simp_all[nC]
 simp -implicitDefEqProofs only[Xn h15];by_cases h13:op=13
 ·simp_all[nC]
 simp -implicitDefEqProofs only[Xn h13];by_cases h14:op=14
 ·simp -implicitDefEqProofs only[Xr h14,JQ,ae,aG,aj,ao,bN,hN,hM,SE];generalize ((decide (0<=a)&&decide (a<=6))&&cr s)=q;cases q
  ·simp[gv,nC,wS,gz]
  ·cases (m== [])<;>simp[gv,nC]
 simp -implicitDefEqProofs only[Xn h14];by_cases h12:op=12
 ·simp_all[nC]
 simp -implicitDefEqProofs only[Xn h12,jn,K99_1,ao,au,ai,Xp,nC,wq];by_cases h4:op=4
 ·simp[h4]
 by_cases h5:op=5
 ·simp[h5]
 by_cases h6:op=6
 all_goals grind
theorem BX(g:Nat->Nat->Nat->Nat->Bool->AV)(i:Ins):cl g i.av=i.av:=by simp[Ins.av,Ins.cells,cl,fl]
theorem BW(g:Nat->Nat->Nat->Nat->Bool->AV)(c:Cod):cl g c.av=c.av:=by simp[Cod.av,nA,cl,fl,gy g Ins.av (BX g)]
def t99(c:Cod)(i:Ins)(hb:i.names.length<=1000000):af pg 99 [c.av,i.av]=am (.bool (bG c.code.length c.locals i)):=by
 have key:S99 (af pg) ak c.av i.av=am (.bool (bG c.code.length c.locals i)):=by
  have hq:∀k:Int,(i.a== k)=decide (i.a=k):=fun _=>rfl;have hz:(i.names== [])=decide ((i.names.length:Int)=0):=by
   cases i.names<;>simp;omega
  simp -implicitDefEqProofs only[S99,fJ0,fJ1,fJ2,fJ3,fJ4,vS,Fe,Te,R5,R6,ae,jn,kQ,ai,Xp];by_cases h0:i.op=0
  ·simp_all[nC,iP,bG]
  simp -implicitDefEqProofs only[Xn h0];by_cases h1:i.op=1
  ·simp_all[nC,iP,bG]
  simp -implicitDefEqProofs only[Xn h1];have k4:∀b,b=(decide (i.op=2)||decide (i.op=3))->K99_4 (af pg) ak (K99_0 (af pg) ak) [.ip (aa c.av),.int .i64 i.a,.str i.s,.str i.m,strs i.names,.bool true,.int .i64 i.op,.bool b]=am (.bool (bG c.code.length c.locals i)):=by
   intro b hbb;by_cases h2:i.op=2\/i.op=3
   ·have hbt:b=true:=by rw[hbb];simpa using h2
    subst hbt;simp -implicitDefEqProofs only[K99_4,ao,au,ai,XA,JQ,fK2,Vw,aB,ae,aG,aj,bN,nC]
    grind [iP,bG]
   have hbf:b=false:=by rw[hbb];simpa using h2
   subst hbf;have k3:∀b,b=(decide (i.op=10)||decide (i.op=11))->K99_3 (af pg) ak (K99_0 (af pg) ak) [.ip (aa c.av),.int .i64 i.a,.str i.s,.str i.m,strs i.names,.bool true,.int .i64 i.op,.bool b]=am (.bool (bG c.code.length c.locals i)):=by
    intro b hbb;by_cases h10:i.op=10\/i.op=11
    ·have hbt:b=true:=by rw[hbb];simpa using h10
     subst hbt;simp -implicitDefEqProofs only[K99_3,ao,au,ai,XA,JQ,fK3,Hs,AA,aB,ae,aG,aj,bN,nC]
     grind [iP,bG]
    have hbf:b=false:=by rw[hbb];simpa using h10
    subst hbf;have k2:=RO i.a i.s i.m i.names i.op hb ZL;have e2:∀b,b=(decide (i.op=16)||decide (i.op=17))->K99_2 (af pg) ak (K99_0 (af pg) ak) [.int .i64 i.a,.str i.s,.str i.m,strs i.names,.bool true,.int .i64 i.op,.bool b]=am (.bool (bG c.code.length c.locals i)):=by
     rintro _ rfl;rw[k2];unfold bG;rw[Xn h0,Xn h1,Xn h2,Xn h10];by_cases h16:i.op=16\/i.op=17
     ·simp[iP,h16,hz,hq]
     rw[Xn h16,Xn h16];by_cases h15:i.op=15
     ·simp[iP,h15,hz,hq]
     rw[Xn h15,Xn h15];by_cases h13:i.op=13
     ·simp[iP,h13,hz,hq]
     rw[Xn h13,Xn h13];by_cases h14:i.op=14
     ·simp[iP,h14,hz,hq]
     rw[Xn h14,Xn h14];by_cases h12:i.op=12
     ·simp[iP,h12,hz,hq]
     rw[Xn h12,Xn h12];cases wq i.op<;>simp[iP,hz,hq]
    simp -implicitDefEqProofs only[K99_3,ao,au,ai,Xo,Xu,jn,kQ,ae,Xp];by_cases h16:i.op=16
    ·grind
    ·grind
   simp -implicitDefEqProofs only[K99_4,ao,au,ai,Xo,Xu,jn,kQ,ae,Xp];by_cases h10:i.op=10
   ·grind
   ·grind
  by_cases h2:i.op=2
  ·grind
  ·grind
 grind [C99,BW,BX,fS]
def Tc(i:Ins):cg 5 i.av=am i.av:=by rw[aZ (rfl:bT 5 i.av=true)];rfl
def oi{T:TT}{t e:Nat}{ti ei:TI}(ht:T t=some ti)(hk:ti.kind= .slice e)(he:T e=some ei)(es:List AV)(hok:dk ei.size es=true){a:Int}(h0:0<=a)(h1:a<=es.length):cU T t (.sl es) (some (.int .i64 a)) none none=some (.sl (es.drop a.toNat)):=by
 simp_all[cU,ct]
theorem Tf(c:Cod):ax T 74 (.ip (aa c.av))=some c.av:=rfl
def RP(i:Ins)(h:¬(i.op=0\/i.op=1\/i.op=2\/i.op=16))(h2:¬(i.op=4\/i.op=5\/i.op=6\/i.op=7\/i.op=8)):∀b,b=decide (i.op=9\/i.op=13\/i.op=15\/i.op=17)->
  K100_0 (af pg) ak [.ip (aa i.av),.int .i64 i.op,.bool b]=am (.tup [.int .i64 (aF i).1,.int .i64 (aF i).2]):=by
 intro b hb;unfold aF;rw[Xn h,Xn h2];by_cases h9:i.op=9\/i.op=13\/i.op=15\/i.op=17
 ·simp_all[K100_0]
 rw[X1 h9]at hb;subst hb;rw[Xn h9];simp -implicitDefEqProofs only[K100_0,ao,au,ai,Xo,Xu,kQ,ae,Xp];by_cases h12:i.op=12
 ·simp_all[R6]
 simp -implicitDefEqProofs only[Xn h12];by_cases h14:i.op=14
 ·simp -implicitDefEqProofs only[Xr h14,fJ1,Fe,ae]
 grind
def RS(i:Ins)(h:¬(i.op=0\/i.op=1\/i.op=2\/i.op=16)):∀b,b=decide (i.op=4\/i.op=5\/i.op=6\/i.op=7\/i.op=8)->
  K100_1 (af pg) ak [.ip (aa i.av),.int .i64 i.op,.bool b]=am (.tup [.int .i64 (aF i).1,.int .i64 (aF i).2]):=by
 intro b hb;by_cases h2:i.op=4\/i.op=5\/i.op=6\/i.op=7\/i.op=8
 ·simp_all[aF,K100_1]
 rw[X1 h2]at hb;subst hb;have k:=RP i h h2;simp -implicitDefEqProofs only[K100_1,ao,au,ai,Xo,Xu,jn,kQ,ae,Xp]
 grind
def RU(i:Ins):∀b,b=decide (i.op=0\/i.op=1\/i.op=2\/i.op=16)->
  K100_2 (af pg) ak [.ip (aa i.av),.int .i64 i.op,.bool b]=am (.tup [.int .i64 (aF i).1,.int .i64 (aF i).2]):=by
 intro b hb;by_cases h:i.op=0\/i.op=1\/i.op=2\/i.op=16
 ·simp_all[aF,K100_2]
 rw[X1 h]at hb;subst hb;have k:=RS i h;simp -implicitDefEqProofs only[K100_2,ao,au,ai,Xo,Xu,jn,kQ,ae,Xp]
 grind
def t100(i:Ins):af pg 100 [i.av]=am (.tup [.int .i64 (aF i).1,.int .i64 (aF i).2]):=by
 have k:=RU i;have key:S100 (af pg) ak i.av=am (.tup [.int .i64 (aF i).1,.int .i64 (aF i).2]):=by
  simp -implicitDefEqProofs only[S100,fJ0,vS,ae,ai,jn,kQ,Xp];by_cases h0:i.op=0
  ·grind
  rw[Xn h0];by_cases h1:i.op=1
  ·grind
  rw[Xn h1];by_cases h2:i.op=2
  ·grind
  rw[Xn h2];exact k _ ZN
 rw[C100,BX,key];exact dw fun g=>by simp[cl,fl]
def t101(c:Cod){k:Nat}(hk:k<c.code.length)(hb:c.code.length<=1000000):af pg 101 [c.av,.int .i64 (k:Int)]=am (ints (gk c.code[k] k)):=by
 have hix:=RH hk;rw[Xv c.code k hk]at hix;have hw:IntKind.i64.wrap ((k:Int)+1)=k+1:=aS ZL ZL;have b1:∀a:Int,aP T 24 1 [(0,.int .i64 a)]=some (ints [a]):=fun _=>rfl;have b2:∀a b:Int,aP T 24 2 [(0,.int .i64 a),(1,.int .i64 b)]=some (ints [a,b]):=fun _ _=>rfl;have key:S101 (af pg) ak c.av (.int .i64 (k:Int))=am (ints (gk c.code[k] k)):=by
  generalize c.code[k]=i at hix |-;unfold gk;simp -implicitDefEqProofs only[S101,fK3,Hs,ae,hix,FX,Tc,aj,fJ0,vS,kQ,ai,Xp];by_cases h18:i.op=18
  ·simp -implicitDefEqProofs only[Xr h18];rfl
  simp -implicitDefEqProofs only[Xn h18];by_cases h10:i.op=10
  ·simp -implicitDefEqProofs only[Xr h10,fJ1,Fe,ae,b1]
  simp -implicitDefEqProofs only[Xn h10];by_cases h11:i.op=11
  ·simp -implicitDefEqProofs only[Xr h11,fJ1,Fe,ae,bj,hw,b2]
  ·simp_all
 rw[C101,BW,show cl aE (.int .i64 (k:Int))= .int .i64 (k:Int)from rfl,key];exact dw fun g=>ZO
def Hr(hl:List Int):Hp:=[hl.map (AV.int .i64)]
theorem uj{n k:Nat}(h:k<n):aA T 24 (.hs 0 0 n 1 false) (.int .i64 (k:Int))=some (.hp 0 (0+k*1)):=by
 have e:aA T 24 (.hs 0 0 n 1 false) (.int .i64 (k:Int))=if 0<=(k:Int)/\(k:Int)<(n:Int)then some (.hp 0 (0+(k:Int).toNat*1))else none:=rfl
 grind
def qR{hl:List Int}{k:Nat}(h:k<hl.length):bb T 3 (.hp 0 (0+k*1)) (Hr hl)= .ok (.int .i64 hl[k]!) (Hr hl):=by
 refine yt (T:=T) (t:=3) rfl rfl (cs:=hl.map (AV.int .i64)) rfl ?_
 grind
def setCells_one(cs:List AV)(k:Nat)(x:AV)(h:k<cs.length):setCells cs k [x]=cs.set k x:=by
 grind [setCells,List.set_eq_take_append_cons_drop]
def Of{hl:List Int}{k:Nat}(h:k<hl.length)(v:Int):bU T 3 (.hp 0 (0+k*1)) (.int .i64 v) (Hr hl)= .ok (.tup []) (Hr (hl.set k v)):=by
 have st:=sV (T:=T) (t:=3) rfl (v:=.int .i64 v) (h:=Hr hl) (l:=0) (k:=0+k*1) (cs:=hl.map (AV.int .i64)) rfl rfl (show 0+k*1+1<=(hl.map (AV.int .i64)).length by simp;omega) ZM;rw[st];show R.ok (AV.tup []) [setCells (hl.map (AV.int .i64)) (0+k*1) [.int .i64 v]]=_;simp_all[setCells_one,Hr]
theorem JH(a b:Int):cz T .neq 3 (.int .i64 a) (.int .i64 b)=some (.bool (!decide (a=b))):=rfl
theorem NK(v:Int):ax T 3 (.ip (aa (.int .i64 v)))=some (.int .i64 v):=rfl
theorem V7(v:Int):aP T 24 1 [(0,.int .i64 v)]=some (ints [v]):=rfl
theorem qU(v50:List AV->M AV){c:Cod}{n:Nat}(hn:c.code.length=n)(hnb:n<=1000000){k:Nat}(hk:k<n){nd gv:Int}(h0:0<=nd)(g0:0<=gv)(g1:gv<=1){nx:List Int}(hnx:nx.length<=2)(hx:∀v∈nx,0<=v/\v<=n):
  ∀(B A hl td:List Int),A++B=nx->HInv n hl->nd<=hl[k]! ->td.length+B.length<=10000000->
  (∃h',kc n k nd gv B hl td=none/\ak (L43_0 (af pg) ak v50) [.ip (aa c.av),.hs 0 0 n 1 false,ints td,.int .i64 (k:Int),.int .i64 nd,.int .i64 gv,ints nx,.int .i64 nx.length,.int .i64 A.length] (Hr hl)= .ok (.tup [.sl [],.bool false]) h')\/
  (∃hl' td',kc n k nd gv B hl td=some (hl',td')/\ak (L43_0 (af pg) ak v50) [.ip (aa c.av),.hs 0 0 n 1 false,ints td,.int .i64 (k:Int),.int .i64 nd,.int .i64 gv,ints nx,.int .i64 nx.length,.int .i64 A.length] (Hr hl)=v50 [.ip (aa c.av),.hs 0 0 n 1 false,ints td'] (Hr hl'))
 |[],A,hl,td,e,H,hd,hb=>by
  rw[XN]at e;subst e;refine .inr ⟨hl,td,rfl,?_⟩;have h1:¬((A.length:Int)<(A.length:Int)):=ZL
  rw[FL43_0];simp_all[L43_0]
 | v :: B,A,hl,td,e,H,hd,hb=>by
  have hlen:A.length+(B.length+1)=nx.length:=by rw[<- e];simp
  have h1:(A.length:Int)<(nx.length:Int):=ZL
  have hix:=I6 (l:=nx) (n:=(A.length:Int)) ZL h1;have hxx:nx[A.length]! = v:=by rw[Xv nx A.length ZL];simp[<- e]
  rw[Xw,hxx]at hix;have hv:=hx v ZN;have hw:IntKind.i64.wrap ((A.length:Int)+1)=((A++[v]).length:Nat):=by rw[aS ZL ZL];simp
  simp only[XQ]at hb;have hcl:((c.code.length:Nat):Int)=n:=by rw[hn]
  by_cases hvn:v=n
  ·refine .inl ⟨Hr hl,by simp[kc,hvn],?_⟩;rw[FL43_0];simp -implicitDefEqProofs only[L43_0,ao,au,aB,ae,ai,Xp,Xr h1,hix,NK,fK3,Hs,AA,hcl,kQ,Xr hvn];rfl
  obtain⟨p,rfl⟩:∃p:Nat,v=(p:Int):=⟨v.toNat,ZL⟩;have hp:p<n:=ZL
  have hpl:p<hl.length:=by rw[H.len];exact hp
  have hkl:k<hl.length:=by rw[H.len];exact hk
  have hkk:=H.hi k hk;have hs1:IntKind.i64.wrap (hl[k]! - nd)=hl[k]! - nd:=aS ZL ZL;have hs2:IntKind.i64.wrap (hl[k]! - nd+gv)=hl[k]! - nd+gv:=aS ZL ZL;by_cases hneg:hl[p]! < 0
  ·have hI:=H.set hp hneg (x:=hl[k]! - nd+gv) ZL ZL;have hpk:¬p=k:=fun e=>ZN
   have ih:=qU v50 hn hnb hk h0 g0 g1 hnx hx B (A++[(p:Int)]) (hl.set p (hl[k]! - nd+gv)) (td++[(p:Int)]) ZN hI ZN ZQ;have hap:dG T 24 (ints td) (ints [(p:Int)])=some (ints (td++[(p:Int)])):=OQ ZQ;have eS:kc n k nd gv ((p:Int):: B) hl td=kc n k nd gv B (hl.set p (hl[k]! - nd+gv)) (td++[(p:Int)]):=by
    simp only[kc,Xw];rw[Xn hvn,Xr hneg]
   have eL:ak (L43_0 (af pg) ak v50) [.ip (aa c.av),.hs 0 0 n 1 false,ints td,.int .i64 (k:Int),.int .i64 nd,.int .i64 gv,ints nx,.int .i64 nx.length,.int .i64 A.length] (Hr hl)=ak (L43_0 (af pg) ak v50) [.ip (aa c.av),.hs 0 0 n 1 false,ints (td++[(p:Int)]),.int .i64 (k:Int),.int .i64 nd,.int .i64 gv,ints nx,.int .i64 nx.length,.int .i64 (A++[(p:Int)]).length] (Hr (hl.set p (hl[k]! - nd+gv))):=by
    rw[FL43_0];simp -implicitDefEqProofs only[L43_0,ao,au,aB,ae,ai,Xp,Xr h1,hix,NK,fK3,Hs,AA,hcl,kQ,Xn hvn,uj hp,uj hk];rw[aQ (qR hpl)];simp -implicitDefEqProofs only[aB,ae,ai,Xp,Xr hneg];rw[aQ (qR hkl)];simp -implicitDefEqProofs only[fF,bj,ae,hs1,hs2];rw[aQ (Of hpl _)];simp -implicitDefEqProofs only[V7,ae,hap,bj,hw]
   grind
  ·by_cases hq:hl[p]! = hl[k]! - nd+gv
   ·have ih:=qU v50 hn hnb hk h0 g0 g1 hnx hx B (A++[(p:Int)]) hl td ZN H hd ZL;have eS:kc n k nd gv ((p:Int):: B) hl td=kc n k nd gv B hl td:=by
     simp only[kc,Xw];rw[Xn hvn,Xn hneg,Xn (by simpa using hq)]
    have eL:ak (L43_0 (af pg) ak v50) [.ip (aa c.av),.hs 0 0 n 1 false,ints td,.int .i64 (k:Int),.int .i64 nd,.int .i64 gv,ints nx,.int .i64 nx.length,.int .i64 A.length] (Hr hl)=ak (L43_0 (af pg) ak v50) [.ip (aa c.av),.hs 0 0 n 1 false,ints td,.int .i64 (k:Int),.int .i64 nd,.int .i64 gv,ints nx,.int .i64 nx.length,.int .i64 (A++[(p:Int)]).length] (Hr hl):=by
     rw[FL43_0];simp -implicitDefEqProofs only[L43_0,ao,au,aB,ae,ai,Xp,Xr h1,hix,NK,fK3,Hs,AA,hcl,kQ,Xn hvn,uj hp,uj hk];rw[aQ (qR hpl)];simp -implicitDefEqProofs only[aB,ae,ai,Xp,Xn hneg];rw[aQ (qR hpl),aQ (qR hkl)];simp -implicitDefEqProofs only[fF,bj,ae,hs1,hs2,JH,XU hq,XH,Xo,Xu,ai,hw]
    grind
   ·refine .inl ⟨Hr hl,?_,?_⟩
    ·simp_all[kc,Xn]
    ·rw[FL43_0];simp -implicitDefEqProofs only[L43_0,ao,au,aB,ae,ai,Xp,Xr h1,hix,NK,fK3,Hs,AA,hcl,kQ,Xn hvn,uj hp,uj hk];rw[aQ (qR hpl)];simp -implicitDefEqProofs only[aB,ae,ai,Xp,Xn hneg];rw[aQ (qR hpl),aQ (qR hkl)];simp -implicitDefEqProofs only[fF,bj,ae,hs1,hs2,JH,X1 hq,X3,XA,ai];rfl
def wv{α β γ:Type}(m:M α)(f:α->M β)(g:β->M γ):ar (ar m f) g=ar m fun a=>ar (f a) g:=by
 funext h;simp only[ar]
 grind
def J8{n:Nat}{locals:Int}{i:Ins}(h:bG n locals i=true){k:Nat}(hk:k<n):∀v∈gk i k,0<=v/\v<=n:=by
 intro v hv;unfold gk at hv;split at hv
 ·cases hv
 split at hv
 ·grind [bG]
 split at hv
 ·rename_i h11;simp[bG,h11]at h
  grind
 grind
theorem AG{c:Cod}{n:Nat}(hn:c.code.length=n)(hnb:n<=1000000)(hf:∀i∈c.code,bG n c.locals i=true):∀(f:Nat)(hl td:List Int),HInv n hl->td.length+2*qV hl<f->f<=4000000->(∀v∈td,0<=v/\v<n)->
  (∃h',q7 c.code f hl td=none/\ak (L43_1 (af pg) ak) [.ip (aa c.av),.hs 0 0 n 1 false,ints td] (Hr hl)= .ok (.tup [.sl [],.bool false]) h')\/
  (∃hl',q7 c.code f hl td=some hl'/\hl'.length=n/\ak (L43_1 (af pg) ak) [.ip (aa c.av),.hs 0 0 n 1 false,ints td] (Hr hl)= .ok (.tup [.hs 0 0 n 1 false,.bool true]) (Hr hl'))
 |0,hl,td,H,hm,_,ht=>ZL
 |f+1,hl,[],H,hm,_,ht=>by
  refine .inr ⟨hl,rfl,H.len,?_⟩;have h1:¬((0:Int)<(([]:List Int).length:Int)):=ZO
  rw[FL43_1];simp -implicitDefEqProofs only[L43_1,ao,au,m8,dQ,ae,ai,Xp,Xn h1];rfl
 | f+1,hl,v:: td,H,hm,hfb,ht=>by
  have hv:=ht v ZO;obtain⟨k,rfl⟩:∃k:Nat,v=(k:Int):=⟨v.toNat,ZL⟩;have hk:k<n:=ZL
  have hkc:k<c.code.length:=ZL
  have hkl:k<hl.length:=by rw[H.len];exact hk
  have hlen:(0:Int)<(((k:Int):: td).length:Int):=by simp only[XQ];omega
  have hi0:aA T 24 (ints ((k:Int):: td)) (.int .i64 0)=some (.ip (aa (.int .i64 (k:Int)))):=I6 (l:=(k:Int):: td) (n:=0) ZL hlen;have hcut:GH T 24 (ints ((k:Int):: td)) (some (.int .i64 1))=some (ints td):=by
   have:=oi (T:=T) (t:=24) (e:=3) rfl rfl rfl (((k:Int):: td).map (AV.int .i64)) (qY _) (a:=1) ZL ZN
   exact this
  have hix:=RH hkc;rw[Xv c.code k hkc]at hix;have hi:=hf c.code[k] (XB hkc);obtain⟨b1,b2,b3,b4⟩:=gh hi;have hB:=t101 c hkc ZL;have hN:=t100 c.code[k];have hck:c.code[k]! = c.code[k]:=Xv c.code k hkc;simp only[XQ]at hm;have hnl:(gk c.code[k] k).length<=2:=by
   unfold gk
   repeat' split
   all_goals simp
  have hnx:=J8 hi hk;have z1:∀m:M (List AV),aM (.bool true) false 1 m=am [.tup []]:=fun _=>rfl;have z2:∀m:M (List AV),aM (.tup []) true 1 m=am [.tup []]:=fun _=>rfl;have z3:∀m:M (List AV),aM (.bool false) true 1 m=am [.tup []]:=fun _=>rfl;have z4:∀m:M (List AV),aM (.bool false) false 1 m=m:=fun _=>rfl;have z5:∀m:M (List AV),aM (.bool true) true 1 m=m:=fun _=>rfl;by_cases hlt:hl[k]! < (aF c.code[k]).1
  ·refine .inl ⟨Hr hl,?_,?_⟩
   ·simp_all[q7]
   ·rw[FL43_1];simp -implicitDefEqProofs only[L43_1,ao,au,m8,dQ,ae,ai,Xp,Xr hlen,hi0,NK,hcut,fK3,Hs,hix,FX,hN,aj,eK,List.getElem?_cons_zero,X9,uj hk];rw[aQ (qR hkl)];simp -implicitDefEqProofs only[aB,ae,XU hlt,z1,z2,aj,ao,cw,ai,XA];rfl
  by_cases h18:c.code[k].op=18/\hl[k]! ≠1
  ·refine .inl ⟨Hr hl,?_,?_⟩
   ·simp_all[q7]
   ·rw[FL43_1];simp -implicitDefEqProofs only[L43_1,ao,au,m8,dQ,ae,ai,Xp,Xr hlen,hi0,NK,hcut,fK3,Hs,hix,FX,hN,aj,eK,List.getElem?_cons_zero,X9,uj hk];rw[aQ (qR hkl)];simp -implicitDefEqProofs only[aB,ae,X1 hlt,z4,fJ0,vS,kQ,XU h18.1,aj,ao,z5,wv];rw[aQ (qR hkl)];simp -implicitDefEqProofs only[JH,X1 h18.2,X3,ae,aj,ao,cw,ca,ai,XA];rfl
  have hd:(aF c.code[k]).1<=hl[k]!:=ZL
  have eC:ak (L43_1 (af pg) ak) [.ip (aa c.av),.hs 0 0 n 1 false,ints ((k:Int):: td)] (Hr hl)=ak (L43_0 (af pg) ak (ak (L43_1 (af pg) ak))) [.ip (aa c.av),.hs 0 0 n 1 false,ints td,.int .i64 (k:Int),.int .i64 (aF c.code[k]).1,.int .i64 (aF c.code[k]).2,ints (gk c.code[k] k),.int .i64 (gk c.code[k] k).length,.int .i64 0] (Hr hl):=by
   rw[FL43_1];simp -implicitDefEqProofs only[L43_1,ao,au,m8,dQ,ae,ai,Xp,Xr hlen,hi0,NK,hcut,fK3,Hs,hix,FX,hN,aj,eK,List.getElem?_cons_zero,X9,uj hk];rw[aQ (qR hkl)];by_cases h8:c.code[k].op=18
   ·have h1:hl[k]! = 1:=Classical.byContradiction fun e=>h18 ⟨h8,e⟩;simp -implicitDefEqProofs only[aB,ae,X1 hlt,z4,fJ0,vS,kQ,XU h8,aj,ao,z5,wv];rw[aQ (qR hkl)];simp -implicitDefEqProofs only[JH,XU h1,XH,ae,aj,ao,cw,ca,ai,Xo,Xu,Tf,hB,m8]
   ·simp -implicitDefEqProofs only[aB,ae,X1 hlt,z4,fJ0,vS,kQ,X1 h8,aj,ao,z3,cw,ca,ai,Xo,Xu,Tf,hB,m8]
  have eR:q7 c.code (f+1) hl ((k:Int):: td)=match kc n k (aF c.code[k]).1 (aF c.code[k]).2 (gk c.code[k] k) hl td with|none=>none|some (hl',td')=>q7 c.code f hl' td':=by
   simp only[q7,Xw,hck,hn];rw[Xn (fun e=>e.elim hlt h18)];cases kc n k (aF c.code[k]).1 (aF c.code[k]).2 (gk c.code[k] k) hl td<;>rfl
  rw[eC,eR];have hst:=qU (ak (L43_1 (af pg) ak)) hn hnb hk b1 b3 b4 hnl hnx (gk c.code[k] k) [] hl td rfl H hd ZL;rcases hst with⟨h',s1,s2⟩|⟨hl',td',s1,s2⟩
  ·grind
  ·have hin:=qp hk b1 b3 b4 _ hl td H hd hnx (fun x h=>ht x (by simp[h])) s1;have ih:=AG hn hnb hf f hl' td' hin.1 ZL ZL hin.2.2
   grind
def Kl(a b:Nat):((List.replicate a (-1:Int))++List.replicate (b+1) 0).set a (-1)=List.replicate (a+1) (-1)++List.replicate b 0:=by
 rw[List.set_append_right _ _ ZO,Zg,Y6,List.replicate_succ,List.set_cons_zero,List.replicate_succ',Yd];rfl
theorem DW{c:Cod}{n:Nat}(hn:c.code.length=n)(hnb:n<=1000000)(hnm:∀i∈c.code,i.names.length<=1000000):∀(B A:List Ins),A++B=c.code->
  (B.all (bG n c.locals)=false/\∃h',ak (L43_2 (af pg) ak) [.ip (aa c.av),.hs 0 0 n 1 false,nA c.code,.int .i64 n,.int .i64 A.length] (Hr (List.replicate A.length (-1)++List.replicate B.length 0))= .ok (.tup [.sl [],.bool false]) h')\/
  (B.all (bG n c.locals)=true/\ak (L43_2 (af pg) ak) [.ip (aa c.av),.hs 0 0 n 1 false,nA c.code,.int .i64 n,.int .i64 A.length] (Hr (List.replicate A.length (-1)++List.replicate B.length 0))=ak (L43_2 (af pg) ak) [.ip (aa c.av),.hs 0 0 n 1 false,nA c.code,.int .i64 n,.int .i64 n] (Hr (List.replicate n (-1))))
 |[],A,e=>by
  grind
 | i:: B,A,e=>by
  have hlen:A.length+(B.length+1)=n:=by rw[<- hn,<- e];simp
  have h1:(A.length:Int)<(n:Int):=ZL
  have hix:=RH (l:=c.code) (n:=A.length) ZL;rw[Xv c.code A.length ZL,show c.code[A.length]'(ZL)=i by simp[<- e]]at hix;have hw:IntKind.i64.wrap ((A.length:Int)+1)=((A++[i]).length:Nat):=by rw[aS ZL ZL];simp
  have hF:=t99 c i (hnm i ZN);rw[hn]at hF;have hst:=Of (hl:=List.replicate A.length (-1)++List.replicate (B.length+1) 0) (k:=A.length) ZO (-1);rw[Kl]at hst;cases hf:bG n c.locals i with
  |false=>
   refine .inl ⟨by simp[hf],Hr (List.replicate A.length (-1)++List.replicate (i:: B).length 0),?_⟩;rw[FL43_2];simp -implicitDefEqProofs only[L43_2,ao,au,aB,ae,ai,Xp,Xr h1,hix,FX,Tc,aj,Tf,hF,hf,Fq,X3,XA];rfl
  | true=>
   have ih:=DW hn hnb hnm B (A++[i]) ZN;have eA:(A++[i]).length=A.length+1:=ZO
   rw[eA]at ih hw;have eC:ak (L43_2 (af pg) ak) [.ip (aa c.av),.hs 0 0 n 1 false,nA c.code,.int .i64 n,.int .i64 A.length] (Hr (List.replicate A.length (-1)++List.replicate (i:: B).length 0))=ak (L43_2 (af pg) ak) [.ip (aa c.av),.hs 0 0 n 1 false,nA c.code,.int .i64 n,.int .i64 ((A.length+1:Nat):Int)] (Hr (List.replicate (A.length+1) (-1)++List.replicate B.length 0)):=by
    rw[FL43_2,XQ];simp -implicitDefEqProofs only[L43_2,ao,au,aB,ae,ai,Xp,Xr h1,hix,FX,Tc,aj,Tf,hF,hf,Fq,XH,Xo,Xu,uj (n:=n) (k:=A.length) ZL];rw[aQ hst];simp -implicitDefEqProofs only[bj,ae,hw]
   grind
def G8(hl:List Int){n:Nat}(hn:hl.length=n):frz 6 (Hr hl) (.tup [.hs 0 0 n 1 false,.bool true])= .tup [ints hl,.bool true]:=by
 have hc:(hl.map (AV.int .i64)).all ay=true:=by
  rw[XF];intro x hx;obtain⟨v,_,rfl⟩:=YK.1 hx;rfl
 have h1:(decide (0+n*1<=(hl.map (AV.int .i64)).length)&&decide (0<1)&&(false||(Nat.beq 1 1&&(hl.map (AV.int .i64)).all ay)))=true:=by
  rw[hc];simp[hn]
 unfold frz;simp only[cl,fl,Hr,List.getElem?_cons_zero,h1,Xs,Xz];congr 2;unfold ints;congr 1;apply List.ext_getElem
 ·simp[hn]
 ·intro i h2 h3;have hi:i<hl.length:=by simpa using h3
  have hg:ab (hl.map (AV.int .i64)) (0+i*1)= .int .i64 hl[i]:=by
   rw[XE,Nat.mul_one];unfold ab;simp[hi]
  simp only[ZC,List.getElem_range,hg];rfl
def Ow:Option (List Int)->AV
 |none=>.tup [.sl [],.bool false]
 |some hl=>.tup [ints hl,.bool true]
def Fo(n:Nat)(h:0<n):HInv n (0:: List.replicate (n-1) (-1)):=by
 have hneg:qV (0:: List.replicate (n-1) (-1))=n-1:=by
  unfold qV;rw[List.countP_cons_of_neg ZO,List.countP_replicate];simp
 have hl:(0:: List.replicate (n-1) (-1:Int)).length=n:=by simp;omega
 have hv:∀j,j<n->(0:: List.replicate (n-1) (-1:Int))[j]! = 0\/(0:: List.replicate (n-1) (-1:Int))[j]! = -1:=by
  intro j hj;rw[Xv _ j ZN];cases j with
  |zero=>exact .inl rfl
  |succ j=>grind
 refine⟨hl,fun j hj=>?_,fun j hj=>?_⟩
 all_goals grind
def t43(c:Cod)(hnb:c.code.length<=1000000)(hnm:∀i∈c.code,i.names.length<=1000000):af pg 43 [c.av]=am (Ow (dj c)):=by
 have hN:=t92 c.func;have key:∃h',∃v,S43 (af pg) ak c.av []= .ok v h'/\frz 6 h' v=Ow (dj c):=by
  have hh:pd c= !((((!cr c.func||decide (c.params<0))||decide (6<c.params))||decide (c.locals<c.params))||decide ((c.code.length:Int)=0)):=by
   have e5:decide (c.code≠[])= !decide ((c.code.length:Int)=0):=by cases c.code<;>simp;omega
   have e2:decide (0<=c.params)= !decide (c.params<0):=by rw[<- Zn];exact Yn.2 ZL
   have e3:decide (c.params<=6)= !decide (6<c.params):=by rw[<- Zn];exact Yn.2 ZL
   have e4:decide (c.params<=c.locals)= !decide (c.locals<c.params):=by rw[<- Zn];exact Yn.2 ZL
   unfold pd;rw[e2,e3,e4,e5];simp[Bool.not_or]
  cases hd:pd c with
  | false=>
   rw[hd]at hh;have hb:((((!cr c.func||decide (c.params<0))||decide (6<c.params))||decide (c.locals<c.params))||decide ((c.code.length:Int)=0))=true:=by
    cases hx:((((!cr c.func||decide (c.params<0))||decide (6<c.params))||decide (c.locals<c.params))||decide ((c.code.length:Int)=0))with
    |true=>rfl
    |false=>grind
   refine⟨[],.tup [.sl [],.bool false],?_,?_⟩
   ·simp -implicitDefEqProofs only[S43,fK0,Vv,fK1,Wl,fK2,Vw,fK3,Hs,AA,ae,hN,aj,Fq,aB,dQ,kQ,aG,ao,dW,hb,ai,XA];rfl
   ·unfold dj;rw[hd,Xn ZO];rfl
  | true=>
   rw[hd]at hh;have hb:((((!cr c.func||decide (c.params<0))||decide (6<c.params))||decide (c.locals<c.params))||decide ((c.code.length:Int)=0))=false:=by
    cases hx:((((!cr c.func||decide (c.params<0))||decide (6<c.params))||decide (c.locals<c.params))||decide ((c.code.length:Int)=0))with
    |false=>rfl
    |true=>grind
   have hpos:0<c.code.length:=by
    have:=(YC.1 hb).2
    rw[XX]at this;omega
   have hmk:pY T 24 (.int .i64 c.code.length) (.int .i64 c.code.length) []= .ok (.hs 0 0 c.code.length 1 false) (Hr (List.replicate c.code.length 0)):=by
    have e:hG T 24 (.int .i64 c.code.length) (.int .i64 c.code.length)=some (.sl (List.replicate c.code.length (.int .i64 0))):=by
     show (if _/\_/\_/\_/\_ then _ else none)=_;rw[Xr ⟨ZL,ZL,ZL,ZN,rfl⟩];rfl
    have hz:dk 1 (List.replicate c.code.length (AV.int .i64 0))=true:=by
     have:=qY (List.replicate c.code.length (0:Int))
     rw[List.map_replicate]at this;exact this
    unfold pY;rw[e];show (bif dk 1 (List.replicate c.code.length (AV.int .i64 0))&&decide (0<1)&&decide (0<(List.replicate c.code.length (AV.int .i64 0)).length)then R.ok (AV.hs 0 0 (List.replicate c.code.length (AV.int .i64 0)).length 1 false) ([]++[(List.replicate c.code.length (AV.int .i64 0)).flatMap aa])else .fail)=_;rw[hz,Zg,XU hpos];have hfm:(List.replicate c.code.length (AV.int .i64 0)).flatMap aa=(List.replicate c.code.length (0:Int)).map (AV.int .i64):=by
     generalize c.code.length=n
     induction n with
     |zero=>rfl
     |succ n ih=>simp_all[List.replicate_succ]
    rw[hfm];rfl
   have hS:S43 (af pg) ak c.av []=ak (L43_2 (af pg) ak) [.ip (aa c.av),.hs 0 0 c.code.length 1 false,nA c.code,.int .i64 c.code.length,.int .i64 0] (Hr (List.replicate c.code.length 0)):=by
    simp -implicitDefEqProofs only[S43,fK0,Vv,fK1,Wl,fK2,Vw,fK3,Hs,AA,ae,hN,aj,Fq,aB,dQ,kQ,aG,ao,dW,hb,ai,Xo,Xu];rw[aQ hmk]
   rw[hS];rcases DW (c:=c) rfl hnb hnm c.code [] rfl with⟨a1,h',a2⟩|⟨a1,a2⟩
   ·refine⟨h',.tup [.sl [],.bool false],a2,?_⟩;unfold dj;rw[Xn (fun e=>ZN)];rfl
   ·have a2':ak (L43_2 (af pg) ak) [.ip (aa c.av),.hs 0 0 c.code.length 1 false,nA c.code,.int .i64 c.code.length,.int .i64 0] (Hr (List.replicate c.code.length 0))=_:=a2;have h1:¬((c.code.length:Int)<(c.code.length:Int)):=ZL
    have hs0:aA T 24 (.hs 0 0 c.code.length 1 false) (.int .i64 0)=some (.hp 0 (0+0*1)):=uj (k:=0) hpos;have hst:=Of (hl:=List.replicate c.code.length (-1)) (k:=0) ZN 0;have hset:(List.replicate c.code.length (-1:Int)).set 0 0=0:: List.replicate (c.code.length-1) (-1):=by
     obtain⟨m,hm⟩:∃m,c.code.length=m+1:=⟨c.code.length-1,ZL⟩;rw[hm];rfl
    rw[hset]at hst;have hI:=Fo c.code.length hpos;have hng:qV (0:: List.replicate (c.code.length-1) (-1))<=c.code.length:=by have:=hI.hi 0 hpos;rw[Xv _ 0 ZO]at this;simp at this;omega
    have hall:c.code.all (bG c.code.length c.locals)=true:=a1;have hH:dj c=q7 c.code (2*c.code.length+2) (0:: List.replicate (c.code.length-1) (-1)) [0]:=by
     unfold dj;rw[Xr ⟨hd,hall⟩]
    have eL:ak (L43_2 (af pg) ak) [.ip (aa c.av),.hs 0 0 c.code.length 1 false,nA c.code,.int .i64 c.code.length,.int .i64 c.code.length] (Hr (List.replicate c.code.length (-1)))=ak (L43_1 (af pg) ak) [.ip (aa c.av),.hs 0 0 c.code.length 1 false,ints [0]] (Hr (0:: List.replicate (c.code.length-1) (-1))):=by
     rw[FL43_2];simp -implicitDefEqProofs only[L43_2,ao,au,aB,ae,ai,Xp,Xn h1,hs0];rw[aQ hst];simp -implicitDefEqProofs only[V7,ae]
    rw[a2',eL,hH];rcases AG (c:=c) rfl hnb (fun i hi=>XF.1 hall i hi) (2*c.code.length+2) _ [0] hI ZN ZL (fun v hv=>ZN)with⟨h',b1,b2⟩|⟨hl',b1,b2,b3⟩
    ·exact⟨h',_,b2,by rw[b1];rfl⟩
    ·exact⟨_,_,b3,by rw[b1];exact G8 hl' b2⟩
 obtain⟨h',v,k1,k2⟩:=key;rw[C43,BW];funext h;unfold be;rw[k1];simp only[k2];rfl
theorem VK(n' n:Nat):bm T 23 (.hs n' 0 n 4 true)=some (.int .i64 n):=rfl
def de.len{tag:Nat->Nat}{h:Hp}{k:Nat}{l:List Val}{v:AV}(H:de tag k h l v):bm T 23 v=some (.int .i64 l.length):=
 fX.len (T:=T) (t:=23) (e:=33) rfl rfl rfl (fun n'=>VK n' _) rfl rfl H
theorem t115{tag:Nat->Nat}{h:Hp}{q:Nat}{A B:List AV}{i:Nat}{f:Frm}{lv sv:AV}(H:FrAt tag h q A B i f lv sv)(v:Val)(hb:f.stack.length<1000000000):
  ∃h' tag' sv',af pg 115 [.hp q A.length,v.av] h= .ok (.tup []) h'/\FrAt tag' h' q A B i { f with stack:=f.stack++[v] } lv sv'/\Kp tag tag' (fun k=>k=7\/k=12+3*i) h h':=by
 have hz:bT 4 (.agg [.int .i64 0,.int .i64 0,.sl [],.sl []])=true:=rfl;obtain⟨cs,tag1,rfl,hcl,happ,K1,ht1,HS⟩:=fX.push (T:=T) (t:=23) (e:=33) rfl rfl rfl rfl ZM rfl ZM H.st hz ZN;generalize hh1:oF sv h++[aw f.stack++aa (.agg [.int .i64 0,.int .i64 0,.sl [],.sl []])]=h1 at happ K1 HS;have hlen1:h1.length=h.length+1:=by
  rw[<- hh1];have:(oF sv h).length=h.length:=by
   unfold oF;split<;>simp
  simp[this]
 -- the frames' row stays
 obtain⟨kq1,kq2⟩:=K1 q _ H.row (by rw[H.tq];omega);have hrow1:h1[h.length]? = some (aw f.stack++aa (.agg [.int .i64 0,.int .i64 0,.sl [],.sl []])):=by
  rw[<- hh1];have:(oF sv h).length=h.length:=by
   unfold oF;split<;>simp
  rw[<- this];simp
 have hlt:q<h.length:=(Xx.1 H.row).1
 -- the value is written to the last row
 have hset:setCells (aw f.stack++aa (.agg [.int .i64 0,.int .i64 0,.sl [],.sl []])) (f.stack.length*4) (aa v.av)=aw (f.stack++[v]):=by
  have:=ko (l:=f.stack++[⟨0,0,[],[]⟩]) (k:=f.stack.length) ZO v
  rw[kl]at this;rw[show aa (.agg [.int .i64 0,.int .i64 0,.sl [],.sl []])=aw [⟨0,0,[],[]⟩]from rfl,this];simp
 have e2:l8 T true 33 (.hp h.length (0+f.stack.length*4)) v.av h1= .ok (.tup []) (h1.set h.length (aw (f.stack++[v]))):=by
  unfold l8;simp only[XE];rw[hlen1,Nat.beq_refl];simp only[XR,Xs];rw[bX (T:=T) (t:=33) rfl hrow1 ZP ZP ZM,hset]
 generalize hh2:h1.set h.length (aw (f.stack++[v]))=h2 at e2;have hq2:h2[q]? = some (A++iO f lv sv++B):=by rw[<- hh2,List.getElem?_set_ne ZL];exact kq1
 have e3:l8 T false 23 (.hp q (A.length+4)) (.hs h.length 0 (f.stack.length+1) 4 true) h2= .ok (.tup []) (h2.set q (A++iO { f with stack:=f.stack++[v] } lv (.hs h.length 0 (f.stack.length+1) 4 true)++B)):=by
  unfold l8;have:Nat.beq (q+1) h2.length=false:=by
   rw[<- hh2,YM,hlen1];cases hb:Nat.beq (q+1) (h.length+1)with
   |false=>rfl
   |true=>simp_all
  show (bif Nat.beq (q+1) h2.length== false then bU T 23 (.hp q (A.length+4)) _ h2 else .fail)=_;rw[this];simp only[XR,Xs];rw[bX (T:=T) (t:=23) rfl hq2 rfl (by show _+1<=_;simp[iO];omega) ZM];rw[set_mid (D:=iO { f with stack:=f.stack++[v] } lv (.hs h.length 0 (f.stack.length+1) 4 true)) (by simp[iO]) rfl]
 refine⟨h2.set q (A++iO { f with stack:=f.stack++[v] } lv (.hs h.length 0 (f.stack.length+1) 4 true)++B),tag1,.hs h.length 0 (f.stack.length+1) 4 true,?_,⟨?_,kq2.trans H.tq,?_,?_⟩,?_⟩
 ·rw[C115];simp only[S115,aJ,ae,FH62_4];rw[ap (H.get (T:=T) (t:=23) rfl rfl (k:=4) rfl)];have b1:aP T 23 1 [(0,.agg [.int .i64 0,.int .i64 0,.sl [],.sl []])]=some (.sl [.agg [.int .i64 0,.int .i64 0,.sl [],.sl []]]):=rfl;have l1:ax T 33 (.ip (aa v.av))=some v.av:=by cases v;rfl
  simp only[l1,ae,de.len H.st,b1];rw[ap happ];have ix:aA T 23 (.hs h.length 0 (f.stack.length+1) 4 true) (.int .i64 f.stack.length)=some (.hp h.length (0+f.stack.length*4)):=by
   show (if(0:Int)<=(f.stack.length:Int)/\(f.stack.length:Int)<((f.stack.length+1:Nat):Int)then _ else _)=_;rw[Xr ZL];rfl
  simp only[ix,ae];rw[ap e2,ap e3];rfl
 ·grind
 ·refine de.keep (W8 (kq2.trans H.tq) _) ZL ?_;refine de.keep (tag:=tag1) (h:=h1) ?_ (k:=11+3*i) (ks:=fun k=>k=12+3*i) ZL (H.lo.keep K1 ZL);rw[<- hh2];exact W8 ht1 _
 ·refine de.keep (W8 (kq2.trans H.tq) _) ZL ?_;refine .inr ⟨h.length,aw (f.stack++[v]),[],ZO,ht1,?_,?_,?_,?_,rfl⟩
  ·grind
  ·intro hh
   have:=XY List.length hh
   simp[aX]at this
  all_goals grind [aX,iv]
 ·have K2:Kp tag1 tag1 (fun k=>k=12+3*i) h1 h2:=by rw[<- hh2];exact W8 ht1 _
  exact ((K1.trans K2).trans (W8 (kq2.trans H.tq) _)).mono fun k hk=>ZN
def xI(x:AV)(h:Hp):af pg 25 [x] h=cu T 23 (af pg) [x] h:=by
 have e:af pg 25 [x]=cu T 23 (af pg) [x]:=d8 gZ rfl _;rw[e]
theorem Em{sv:AV}{tag:Nat->Nat}{k:Nat}{h:Hp}{l:List Val}(H:de tag k h l sv){n:Nat}(hn:n<=l.length):
  ∃w,cU T 23 sv (some (.int .i64 ((l.length:Int)-n))) none none=some w/\(n=0->w= .hn\/w= .he\/w= .sl [])/\
   (0<n->∃r rest,w= .hs r ((l.length-n)*4) n 4 true/\h[r]? = some (aw l++rest)/\(aw l++rest).all ay=true):=by
 rcases H with⟨h0,hv,_⟩|⟨r,cs,rest,rfl,hr,hcs,hne,hl,hok,rfl⟩
 ·have hn0:n=0:=ZL
  subst hn0;have hl:(l.length:Int)-(0:Nat)=0:=ZL
  rw[hl];rcases hv with rfl|rfl
  ·exact⟨.hn,rfl,fun _=>.inl rfl,fun h=>ZL⟩
  ·exact⟨.he,rfl,fun _=>.inr (.inl rfl),fun h=>ZL⟩
 ·have hs:cU T 23 (.hs r 0 l.length 4 true) (some (.int .i64 ((l.length:Int)-n))) none none=if l.length-n<l.length then some (AV.hs r (0+(l.length-n)*4) (l.length-(l.length-n)) 4 true)else some (AV.sl []):=by
   unfold cU;have hT:T 23=some ((T 23).get (by rfl)):=rfl;show (match ct none l.length l.length with|none=>none|some h=>match ct (some (.int .i64 ((l.length:Int)-n))) 0 h with|none=>none|some l'=>if 4=4 then(if l'<h then some (AV.hs r (0+l'*4) (h-l') 4 true)else some (AV.sl []))else none)=_;simp only[ct];rw[Xr ZL,show ((l.length:Int)-n).toNat=l.length-n by omega];simp
  grind
def tg(a b:Nat)(h:b<=a)(hb:a<1000000000000):cz T .sub 3 (.int .i64 a) (.int .i64 b)=some (.int .i64 ((a:Int)-b)):=by
 grind [fF,aS]
def t118{tag:Nat->Nat}{h:Hp}{q:Nat}{A B:List AV}{i:Nat}{f:Frm}{lv sv:AV}(H:FrAt tag h q A B i f lv sv)(n:Nat)(hn:n<=f.stack.length)(hb:f.stack.length<1000000000):
  ∃w,af pg 118 [.hp q A.length,.int .i64 n] h= .ok w h/\(n=0->w= .hn\/w= .he\/w= .sl [])/\
   (0<n->∃r rest,w= .hs r ((f.stack.length-n)*4) n 4 true/\h[r]? = some (aw f.stack++rest)/\(aw f.stack++rest).all ay=true):=by
 obtain⟨w,h1,h2,h3⟩:=Em H.st hn;refine⟨w,?_,h2,h3⟩;rw[C118];simp only[S118,aJ,ae,FH62_4];have g:=H.get (T:=T) (t:=23) rfl rfl (k:=4) rfl;rw[ap g];rw[ap g];simp only[de.len H.st,ae,tg _ _ hn ZL,h1];rfl
def jk{h:Hp}{r:Nat}{l:List Val}{rest:List AV}(h0:h[r]? = some (aw l++rest)){n j:Nat}(hn:n<=l.length)(hj:j<n):
  aA T 23 (.hs r ((l.length-n)*4) n 4 true) (.int .i64 (j:Int))=some (.hp r ((l.length-n+j)*4))/\bb T 33 (.hp r ((l.length-n+j)*4)) h= .ok (l[l.length-n+j]!).av h:=by
 constructor
 ·show (if(0:Int)<=(j:Int)/\(j:Int)<((n:Nat):Int)then some (AV.hp r ((l.length-n)*4+(j:Int).toNat*4))else none)=_
  grind
 ·rw[nD (T:=T) (t:=33) rfl rfl rfl h0 ZL,Xv l _ ZL]
def t117{tag:Nat->Nat}{h:Hp}{q:Nat}{A B:List AV}{i:Nat}{f:Frm}{lv sv:AV}(H:FrAt tag h q A B i f lv sv)(n:Nat)(hn:n<=f.stack.length)(hb:f.stack.length<1000000000)(kt:Nat)(hkt:kt≠7):
  ∃h' tag' sv' rv,af pg 117 [.hp q A.length,.int .i64 n] h= .ok rv h'/\FrAt tag' h' q A B i { f with stack:=f.stack.take (f.stack.length-n) } lv sv'/\de tag' kt h' (f.stack.drop (f.stack.length-n)) rv/\Kp tag tag' (fun k=>k=7) h h'/\
   ∃ext,h'=(h++ext).set q (A++iO { f with stack:=f.stack.take (f.stack.length-n) } lv sv'++B):=by
 obtain⟨w,h1,h2,h3⟩:=Em H.st hn;have hdl:(f.stack.drop (f.stack.length-n)).length=n:=by simp;omega
 -- the copy
 obtain⟨h4,tag4,rv,e1,K1,V1,hpre⟩:∃h4 tag4 rv,cu T 23 (af pg) [w] h= .ok rv h4/\Kp tag tag4 (fun _=>False) h h4/\de tag4 kt h4 (f.stack.drop (f.stack.length-n)) rv/\∃ext,h4=h++ext:=by
  cases n with
  |zero=>
   have hnil:f.stack.drop (f.stack.length-0)=[]:=ZO
   refine⟨h,tag,.he,?_,fun r cs hr _=>⟨hr,rfl⟩,.inl ⟨by rw[hnil];rfl,.inr rfl,by rw[hnil];rfl⟩,[],ZO⟩;rcases h2 rfl with rfl|rfl|rfl<;>rfl
  |succ n=>
   obtain⟨r,rest,rfl,g1,g2⟩:=h3 ZL
   have:=oT (T:=T) (t:=23) (e:=33) rfl rfl rfl rfl rfl ZM (af pg) g1 g2 (k:=f.stack.length-(n+1)) (n:=n+1) ZL ZN
   rw[Xn ZL]at this;have ht:(f.stack.drop (f.stack.length-(n+1))).take (n+1)=f.stack.drop (f.stack.length-(n+1)):=Yz ZL;rw[ht]at this;refine⟨_,_,_,this,Kp.new tag h _ kt,.inr ⟨h.length,aw (f.stack.drop (f.stack.length-(n+1))),[],by rw[hdl],ZO,ZO,?_,by rw[aX],by grind [iv],rfl⟩,[_],rfl⟩;intro hh
   have:=XY List.length hh
   simp[aX]at this;omega
 obtain⟨kq1,kq2⟩:=K1 q _ H.row id;have g0:=H.get (T:=T) (t:=23) rfl rfl (k:=4) rfl;have g4:bb T 23 (.hp q (A.length+4)) h4= .ok sv h4:=by
  refine bL rfl rfl kq1 ?_;rw[Yq (by simp[iO]),XT ZL,Zb];rfl
 have S4:de tag4 (12+3*i) h4 f.stack sv:=H.st.keep K1 id
 -- what remains
 obtain⟨sv',e2,S5⟩:∃sv',rj T 23 sv none (some (.int .i64 ((f.stack.length:Int)-n))) none=some sv'/\de tag4 (12+3*i) h4 (f.stack.take (f.stack.length-n)) sv':=by
  rcases S4 with⟨h0,hv,h00⟩|⟨r,cs,rest,rfl,hr,hcs,hne,hl,hok,rfl⟩
  ·have hn0:n=0:=ZL
   subst hn0;have hl:(f.stack.length:Int)-(0:Nat)=0:=ZL
   have hnil:f.stack=[]:=XD h0;rw[hl,hnil];rcases hv with rfl|rfl
   ·exact⟨.hn,rfl,.inl ⟨rfl,.inl rfl,rfl⟩⟩
   ·exact⟨.he,rfl,.inl ⟨rfl,.inr rfl,rfl⟩⟩
  ·refine⟨.hs r 0 (f.stack.length-n) 4 true,?_,?_⟩
   ·show (match ct (some (.int .i64 ((f.stack.length:Int)-n))) f.stack.length f.stack.length with|none=>none|some h=>if 4=4 then some (AV.hs r 0 h 4 true)else none)=_;simp only[ct]
    grind
   ·obtain⟨rest2,e,ho⟩:=wa f.stack (f.stack.length-n);refine .inr ⟨r,aw (f.stack.take (f.stack.length-n)),rest2++rest,ZN,hr,ZN,?_,by rw[aX],?_,rfl⟩
    all_goals grind
 have hst:bU T 23 (.hp q (A.length+4)) sv' h4= .ok (.tup []) (h4.set q (A++iO { f with stack:=f.stack.take (f.stack.length-n) } lv sv'++B)):=by
  have hok:bT 1 sv'=true/\aa sv'=[sv']:=by
   rcases S5 with⟨_,rfl|rfl,_⟩|⟨r,cs,rest,rfl,_⟩<;>exact⟨rfl,rfl⟩
  rw[bX (T:=T) (t:=23) rfl kq1 hok.1 (by show _+1<=_;simp[iO];omega) ZM];rw[set_mid (D:=iO { f with stack:=f.stack.take (f.stack.length-n) } lv sv') (by simp[iO]) rfl (by rw[hok.2];rfl) hok.2]
 have hlt:q<h4.length:=(Xx.1 kq1).1;have K2:Kp tag4 tag4 (fun k=>k=7) h4 (h4.set q (A++iO { f with stack:=f.stack.take (f.stack.length-n) } lv sv'++B)):=W8 (kq2.trans H.tq) _;refine⟨_,tag4,sv',rv,?_,⟨XS hlt,kq2.trans H.tq,(H.lo.keep K1 id).keep K2 ZL,S5.keep K2 ZL⟩,V1.keep K2 hkt,(K1.trans K2).mono fun k h=>h.elim False.elim id,ZN⟩
 ·rw[C117];simp only[S117,aJ,ae,FH62_4];rw[ap g0];simp only[de.len H.st,ae,tg _ _ hn ZL];rw[ap g0];simp only[h1,ae];rw[ap ((xI w h).trans e1),ap g4];simp only[e2,ae];rw[ap hst];rfl
def t50(n:Int):af pg 50 [.int .i64 n]=am (cp n).av:=by
 rw[C50];rfl
def t116(b:Bool):af pg 116 [.bool b]=am (Ap.dR b).av:=by
 rw[C116];cases b<;>rfl
def BJ{α:Type}(p q r s t:Bool)(k:AV->M α):
  ar (aM (.bool p) true 1 (am [.bool q])) (fun v13=>ar (bP (gp (.bool p) (ab v13 0) (.bool false))) fun v14=>ar (bP (Kz .not v14)) fun v15=>
   ar (aM v15 true 1 (am [.bool r])) fun v17=>ar (aM (ab v17 0) false 1 (am [.bool s])) fun v21=>
   ar (aM v15 true 1 (ar (bP (gp (ab v17 0) (.bool true) (ab v21 0))) fun v22=>am [v22])) fun v23=>
   ar (aM (ab v23 0) false 1 (am [.bool t])) fun v27=>
   ar (aM v15 true 1 (ar (bP (gp (ab v23 0) (.bool true) (ab v27 0))) fun v28=>am [v28])) fun v29=>
   ar (bP (gp v15 (ab v29 0) (.bool false))) k)=k (.bool (!(p&&q)&&(r||s||t))):=by
 simp_all
theorem t124{tag:Nat->Nat}{h:Hp}{q:Nat}{A B:List AV}{i:Nat}{f:Frm}{lv sv:AV}(H:FrAt tag h q A B i f lv sv)(op:Int)(h2:2<=f.stack.length)(hb:f.stack.length<1000000000):
  match BH op f.stack[f.stack.length-2]! f.stack[f.stack.length-1]! with
  |none=>af pg 124 [.hp q A.length,.int .i64 op] h= .ok (.int .i64 13) h
  |some x=>∃h' tag' sv',af pg 124 [.hp q A.length,.int .i64 op] h= .ok (.int .i64 0) h'/\FrAt tag' h' q A B i { f with stack:=f.stack.take (f.stack.length-2)++[x] } lv sv'/\Kp tag tag' (fun k=>k=7\/k=12+3*i) h h':=by
 obtain⟨w,g1,_,g3⟩:=t118 H 2 h2 hb;obtain⟨r,rest,rfl,hr,_⟩:=g3 ZM;have i0:aA T 23 (.hs r ((f.stack.length-2)*4) 2 4 true) (.int .i64 0)=some (.hp r ((f.stack.length-2+0)*4)):=(jk hr h2 (j:=0) ZM).1;have i1:aA T 23 (.hs r ((f.stack.length-2)*4) 2 4 true) (.int .i64 1)=some (.hp r ((f.stack.length-2+1)*4)):=(jk hr h2 (j:=1) ZM).1;have l0:=(jk hr h2 (j:=0) ZM).2;have l1:=(jk hr h2 (j:=1) ZM).2;rw[show f.stack.length-2+0=f.stack.length-2 by omega]at l0 i0;rw[show f.stack.length-2+1=f.stack.length-1 by omega]at l1 i1;obtain⟨h',tag',sv',rv,e1,F1,_,K1,_⟩:=t117 H 2 h2 hb 3 ZM;have hlen1:(f.stack.take (f.stack.length-2)).length<1000000000:=by simp;omega
 have e0:af pg 118 [.hp q A.length,.int .i64 2] h= .ok (.hs r ((f.stack.length-2)*4) 2 4 true) h:=g1;have e1':af pg 117 [.hp q A.length,.int .i64 2] h= .ok rv h':=e1;have run:∀x:Val,∃h3 tag3 sv3,af pg 115 [.hp q A.length,x.av] h'= .ok (.tup []) h3/\FrAt tag3 h3 q A B i { f with stack:=f.stack.take (f.stack.length-2)++[x] } lv sv3/\Kp tag tag3 (fun k=>k=7\/k=12+3*i) h h3:=fun x=>by
  obtain⟨h3,tag3,sv3,p1,p2,p3⟩:=t115 F1 x hlen1;exact⟨h3,tag3,sv3,p1,p2,(K1.trans p3).mono fun k hk=>ZN⟩
 generalize f.stack[f.stack.length-2]! = a at l0 |-;generalize f.stack[f.stack.length-1]! = b at l1 |-;generalize hc:af pg 124 [.hp q A.length,.int .i64 op] h=code;rw[C124,S124,ap e0,i0,ae,ap l0,i1,ae,ap l1]at hc;simp -implicitDefEqProofs only[aZ (dV a),aZ (dV b),aj,aI,bH,FA33_0,FA33_1,XG,XK,LD3,ae,aH,gw,bj,fF,Dk,aB,BJ,ai]at hc;unfold BH;by_cases hk:(a.kind=0/\b.kind=0)\/(op=8/\a.kind=1/\b.kind=1)
 ·have hg:(!(a.kind== 0&&b.kind== 0)&&((op != 8||a.kind != 1)||b.kind != 1))=false:=by
   rcases hk with⟨h1,h2⟩|⟨h1,h2,h3⟩
   ·simp[h1,h2]
   ·grind
  rw[Xr hk];rw[hg]at hc;simp only[Xo,Xu]at hc;rw[ap e1']at hc;by_cases h4:op=4
  ·subst h4;obtain⟨h3,tag3,sv3,p1,p2,p3⟩:=run (cp (wr (a.n+b.n)));refine⟨h3,tag3,sv3,?_,by simpa using p2,p3⟩;rw[<- hc];simp -implicitDefEqProofs only[XR,XA,aj,t50];rw[show IntKind.i64.wrap (a.n+b.n)=wr (a.n+b.n)from rfl,ap p1];rfl
  have b4:(op== 4)=false:=by simp[h4]
  by_cases h5:op=5
  ·subst h5;obtain⟨h3,tag3,sv3,p1,p2,p3⟩:=run (cp (wr (a.n-b.n)));refine⟨h3,tag3,sv3,?_,by simpa using p2,p3⟩;rw[<- hc];simp -implicitDefEqProofs only[XR,XA,show ((5:Int)== 4)=false from rfl,Xo,Xu,aj,t50];rw[show IntKind.i64.wrap (a.n-b.n)=wr (a.n-b.n)from rfl,ap p1];rfl
  have b5:(op== 5)=false:=by simp[h5]
  by_cases h6:op=6
  ·subst h6;obtain⟨h3,tag3,sv3,p1,p2,p3⟩:=run (cp (wr (a.n*b.n)));refine⟨h3,tag3,sv3,?_,by simpa using p2,p3⟩;rw[<- hc];simp -implicitDefEqProofs only[XR,XA,show ((6:Int)== 4)=false from rfl,show ((6:Int)== 5)=false from rfl,Xo,Xu,aj,t50];rw[show IntKind.i64.wrap (a.n*b.n)=wr (a.n*b.n)from rfl,ap p1];rfl
  have b6:(op== 6)=false:=by simp[h6]
  by_cases h7:op=7
  ·subst h7;obtain⟨h3,tag3,sv3,p1,p2,p3⟩:=run (Ap.dR (decide (a.n<b.n)));refine⟨h3,tag3,sv3,?_,by simpa using p2,p3⟩;rw[<- hc];simp -implicitDefEqProofs only[XR,XA,show ((7:Int)== 4)=false from rfl,show ((7:Int)== 5)=false from rfl,show ((7:Int)== 6)=false from rfl,Xo,Xu,aj,t116];rw[ap p1];rfl
  have b7:(op== 7)=false:=by simp[h7]
  obtain⟨h3,tag3,sv3,p1,p2,p3⟩:=run (Ap.dR (a.n== b.n));refine⟨h3,tag3,sv3,?_,ZN,p3⟩;rw[<- hc];simp -implicitDefEqProofs only[b4,b5,b6,b7,Xo,Xu,t116,aj];rw[ap p1];rfl
 ·have hg:(!(a.kind== 0&&b.kind== 0)&&((op != 8||a.kind != 1)||b.kind != 1))=true:=by
   cases hh:(!(a.kind== 0&&b.kind== 0)&&((op != 8||a.kind != 1)||b.kind != 1))with
   |true=>rfl
   |false=>
    grind
  rw[Xn hk];rw[hg]at hc;simp only[XA]at hc;rw[<- hc];rfl
theorem t58{L:MLay}{tag:Nat->Nat}{sv dv cv:AV}{vc:List AV}{p:Proc}{h:Hp}{q n:Nat}(H:MR L tag sv (.hs q 0 (n+1) 5 true) dv cv vc p h)(hn:n<1000000):af pg 58 [.hp L.rm 0] h= .ok (.hp q (n*5)) h:=by
 have g:bb T 29 (.hp L.rm (0+0+2)) h= .ok (.hs q 0 (n+1) 5 true) h:=H.get (T:=T) (t:=29) rfl rfl rfl;have hl:bm T 29 (.hs q 0 (n+1) 5 true)=some (.int .i64 ((n+1:Nat):Int)):=rfl;have hs:cz T .sub 3 (.int .i64 ((n+1:Nat):Int)) (.int .i64 1)=some (.int .i64 (n:Int)):=by
  have:=tg (n+1) 1 ZL ZL
  rw[show (((n+1:Nat):Int)-((1:Nat):Int))=(n:Int) by omega]at this;exact this
 have hi:aA T 29 (.hs q 0 (n+1) 5 true) (.int .i64 (n:Int))=some (.hp q (n*5)):=by
  show (if(0:Int)<=(n:Int)/\(n:Int)<((n+1:Nat):Int)then some (AV.hp q (0+(n:Int).toNat*5))else none)=_;rw[Xr ZL];simp
 rw[C58];simp only[S58,aJ,ae,FH81_0,FH39_2];rw[ap g,ap g];simp only[hl,hs,hi,ae];rfl
theorem RJ(r n:Nat)(a:Int)(h0:0<=a)(h1:a<n):aA T 23 (.hs r 0 n 4 true) (.int .i64 a)=some (.hp r (0+a.toNat*4)):=by
 have e:aA T 23 (.hs r 0 n 4 true) (.int .i64 a)=if 0<=a/\a<(n:Int)then some (.hp r (0+a.toNat*4))else none:=rfl
 grind
def qk{X Y xs:List AV}{k:Nat}(h:k+xs.length<=X.length):setCells (X++Y) k xs=setCells X k xs++Y:=by
 grind [setCells]
def vI(L:MLay)(p:Proc)(h:Hp):Prop:=∃tag sv fv dv cv vc,MR L tag sv fv dv cv vc p h
def O6(Q:StP)(L:MLay)(sv:AV)(p:Proc)(h:Hp):Prop:=∃tag fv dv cv vc,MRG Q L tag sv fv dv cv vc p h
def O6.x{L:MLay}{sv:AV}{p:Proc}{h:Hp}(H:O6 VX L sv p h):vI L p h:=by
 obtain⟨tag,fv,dv,cv,vc,H⟩:=H;exact⟨tag,sv,fv,dv,cv,vc,H⟩
set_option maxHeartbeats 1000000 in
def t122{L:MLay}{tag:Nat->Nat}{sv dv cv:AV}{vc:List AV}{p:Proc}{h:Hp}{q:Nat}{fs:List Frm}{f:Frm}{A B:List AV}{lv stv:AV}(H:MR L tag sv (.hs q 0 (fs.length+1) 5 true) dv cv vc p h)(M:MapOk T 78 79 L p.mods)(hA:eh tag h 0 fs A)(F:FrAt tag h q A B fs.length f lv stv)(hB:B.all ay=true)(i:Ins)(hi:0<=dD p.mods f.mod){w:Vars}(hw:p.state[(dD p.mods f.mod).toNat]? = some w)(hb:f.stack.length<1000000000)(hwb:w.values.length<1000000000)(ha:0<=i.a)(ho:i.op≠16->1<=f.stack.length):
  if i.a<w.values.length then ∃h',af pg 122 [.hp L.rm 0,.hp q A.length,i.av] h= .ok (.int .i64 0) h'/\
   vI L (if i.op=16 then{ p with frames:=fs++[{ f with stack:=f.stack++[w.values[i.a.toNat]!] }] }else{ p with frames:=fs++[f],state:=p.state.modify (dD p.mods f.mod).toNat fun w=>{ w with values:=w.values.set i.a.toNat f.stack[f.stack.length-1]! } }) h'
  else af pg 122 [.hp L.rm 0,.hp q A.length,i.av] h= .ok (.int .i64 12) h:=by
 generalize hj:(dD p.mods f.mod).toNat=j at hw |-;have hjI:dD p.mods f.mod=(j:Int):=ZL
 have hjl:j<p.state.length:=(Xx.1 hw).1;rcases H.sth with⟨h0,_⟩|⟨r,cs,rest,rfl,hr,hcs,hne,hl,hok,HS⟩
 ·omega
 obtain⟨av,a1,a2⟩:=HS.at j w hw;rw[XE]at a2;have g1:bb T 28 (.hp L.rm (0+0+1)) h= .ok (.hs r 0 p.state.length 2 true) h:=H.get (T:=T) (t:=28) rfl rfl rfl;have g2:bb T 78 (.hp L.rm (0+13)) h= .ok (.mp L.ri) h:=H.get (T:=T) (t:=78) rfl rfl (nZ H.vo.len 4);have g3:bb T 9 (.hp q (A.length+0)) h= .ok (.str f.mod) h:=F.get (T:=T) (t:=9) rfl rfl (k:=0) rfl;have g4:d9 T 78 (.mp L.ri) (.str f.mod) false h= .ok (.int .i64 (j:Int)) h:=by rw[<- hjI];exact M.idx h H.ri f.mod hi
 have g5:aA T 28 (.hs r 0 p.state.length 2 true) (.int .i64 (j:Int))=some (.hp r (0+j*2)):=by
  show (if(0:Int)<=(j:Int)/\(j:Int)<((p.state.length:Nat):Int)then some (AV.hp r (0+(j:Int).toNat*2))else none)=_;rw[Xr ZL];simp
 have g6:bb T 23 (.hp r (0+j*2+1)) h= .ok av h:=by
  refine bL rfl rfl hcs ?_;have:j*2+1<cs.length:=(Xx.1 a1).1;rw[XE,Yq this];exact a1
 have g7:=de.len a2;generalize hc:af pg 122 [.hp L.rm 0,.hp q A.length,i.av] h=code;rw[C122]at hc;simp only[S122,aJ,ae,FH81_0,FH81_1,FH39_1,FH62_0]at hc;rw[ap g1,ap g2,ap g3,ap g4]at hc;simp only[g5,ae,FH58_1]at hc;rw[ap g6]at hc;simp -implicitDefEqProofs only[fJ1,Fe,ae,g7,jl,ai,fJ0,vS,kQ,Xp]at hc;by_cases hlt:i.a<w.values.length
 ·rw [Xr hlt];rw[Xn ZL]at hc;obtain⟨rv,rest2,hav,hrv,hcs2,hok2⟩:∃rv rest2,av= .hs rv 0 w.values.length 4 true/\tag rv=10+3*j/\h[rv]? = some (aw w.values++rest2)/\(aw w.values++rest2).all ay=true:=by
   clear hc;rcases a2 with⟨h0,_⟩|⟨rv,cs2,rest2,e,hrv,hcs2,hne2,hl2,hok2,e2⟩
   all_goals grind
  have ia:aA T 23 av (.int .i64 i.a)=some (.hp rv (0+i.a.toNat*4)):=by rw[hav];exact RJ rv w.values.length i.a ha hlt
  have hal:i.a.toNat<w.values.length:=(Int.toNat_lt ha).2 hlt;by_cases hop:i.op=16
  ·rw[Xr hop]at hc |-;simp only[ia,ae,XE]at hc;rw[ap (nD (T:=T) (t:=33) rfl rfl rfl hcs2 hal)]at hc;obtain⟨h3,tag3,sv3,p1,p2,p3⟩:=t115 F w.values[i.a.toNat] hb;rw[ap p1]at hc;rw[Xv w.values _ hal];have R:=H.unfocus hA (p3.mono fun k hk=>ZN) p2 hB;exact⟨h3,hc.symm,⟨tag3,_,_,_,_,_,R⟩⟩
  ·rw [Xn hop]at hc |-;have hst:=ho hop;obtain⟨w',e1,_,e3⟩:=t118 F 1 hst hb;obtain⟨rs,rests,rfl,hrs,_⟩:=e3 ZM;have e1':af pg 118 [.hp q A.length,.int .i64 1] h= .ok (.hs rs ((f.stack.length-1)*4) 1 4 true) h:=e1;have i0:aA T 23 (.hs rs ((f.stack.length-1)*4) 1 4 true) (.int .i64 0)=some (.hp rs ((f.stack.length-1+0)*4)):=(jk hrs hst (j:=0) ZM).1;have l0:=(jk hrs hst (j:=0) ZM).2;rw[ap e1']at hc;simp only[i0,ae]at hc;rw[ap l0]at hc;simp only[ia,ae,XE]at hc;rw[show f.stack.length-1+0=f.stack.length-1 by omega]at hc;generalize f.stack[f.stack.length-1]! = v at hc |-;have hset:setCells (aw w.values++rest2) (i.a.toNat*4) (aa v.av)=aw (w.values.set i.a.toNat v)++rest2:=by
    rw[qk (by rw[aX];simp;omega),ko hal]
   have s1:bU T 33 (.hp rv (i.a.toNat*4)) v.av h= .ok (.tup []) (h.set rv (aw (w.values.set i.a.toNat v)++rest2)):=by
    rw[bX (T:=T) (t:=33) rfl hcs2 ZP (by grind [aX]) ZM,hset]
   rw[ap s1]at hc;have hrl:rv<h.length:=(Xx.1 hcs2).1;have K:Kp tag tag (fun k=>k=10+3*j) h (h.set rv (aw (w.values.set i.a.toNat v)++rest2)):=W8 hrv _;have km:=K _ _ H.row (by rw[H.tm];omega);have ki:=K _ _ H.ri (by rw[H.ti];omega);have kf:=K _ _ H.rf (by rw[H.tf];omega);have hnr:∀ {k:Nat} {x:AV} {l:List Val},k≠10+3*j->de tag k h l x->de tag k (h.set rv (aw (w.values.set i.a.toNat v)++rest2)) l x:=fun hk hv=>hv.keep K hk;have R:MR L tag (.hs r 0 p.state.length 2 true) (.hs q 0 (fs.length+1) 5 true) dv cv vc { p with frames:=fs++[f],state:=p.state.modify j fun w=>{ w with values:=w.values.set i.a.toNat v } } (h.set rv (aw (w.values.set i.a.toNat v)++rest2)):=by
    refine⟨km.1,H.tm,ki.1,H.ti,kf.1,H.tf,?_,?_,H.ds.keep K ZL fun _ h=>h,H.cs.keep K ZL fun _ h=>h.keep K ZL,H.vo,H.so⟩
    ·have kr:=K _ _ hcs (by rw[hr];omega);refine .inr ⟨r,cs,rest,ZO,hr,kr.1,hne,by simpa using hl,hok,?_⟩
     have:=HS.set j w av hw a1 (h':=h.set rv (aw (w.values.set i.a.toNat v)++rest2)) (ws:=w.values.set i.a.toNat v) ZN (by
      rw[XE];rw[hav];refine .inr ⟨rv,aw (w.values.set i.a.toNat v),rest2,ZO,hrv,XS hrl,?_,by rw[aX],?_,rfl⟩
      ·intro hh
       have:=XY List.length hh
       grind [aX]
      simp_all[iv])
     have e:(p.state.modify j fun w0=>{ w0 with values:=w.values.set i.a.toNat v })=p.state.modify j fun w=>{ w with values:=w.values.set i.a.toNat v }:=by
      apply YE;intro n;rw[Zl,Zl];by_cases hn:j=n
      ·grind
      ·simp[hn]
     grind
    ·have F2:FrAt tag (h.set rv (aw (w.values.set i.a.toNat v)++rest2)) q A B fs.length f lv stv:=⟨(K _ _ F.row (by rw[F.tq];omega)).1,F.tq,hnr ZL F.lo,hnr ZL F.st⟩;have hA2:eh tag (h.set rv (aw (w.values.set i.a.toNat v)++rest2)) 0 fs A:=hA.keep K fun j _ _=>ZN
     refine .inr ⟨q,A++iO f lv stv,B,ZO,F2.tq,F2.row,by simp[iO],by simp[iO,hA.len];omega,?_,?_⟩
     ·rw[YV,YV,hA.ok,hB];simp only[iO,XL,Zm,F.lo.okC,F.st.okC];rfl
     ·exact hA2.snoc (by rw[XE];exact F2.lo) (by rw[XE];exact F2.st)
   exact⟨_,hc.symm,⟨tag,_,_,_,_,_,R⟩⟩
 ·rw[Xn hlt];rw[Xr ZL]at hc;exact hc.symm
theorem EG(a b c:Int):cE T false 102 [(0,.int .i64 a),(1,.int .i64 b),(2,.int .i64 c)]=some (Deed.av ⟨a,b,c⟩):=rfl
theorem BM(d:Deed):aP T 34 1 [(0,d.av)]=some (.sl [d.av]):=rfl
def xE{L:MLay}{tag:Nat->Nat}{sv dv cv:AV}{vc:List AV}{p:Proc}{h:Hp}{q:Nat}{fs:List Frm}{f:Frm}{A B:List AV}{lv stv:AV}(H:MR L tag sv (.hs q 0 (fs.length+1) 5 true) dv cv vc p h)(hA:eh tag h 0 fs A)(F:FrAt tag h q A B fs.length f lv stv)(hB:B.all ay=true)(i:Ins)(v:Val)(a:Int)(hb:f.stack.length<1000000000)(hd:p.out.deeds.length<1000000):
  ∃h',K123_0 (af pg) ak [.hp L.rm 0,.hp q A.length,.ip (aa i.av),.ip (aa v.av),.int .i64 a] h= .ok (.int .i64 0) h'/\
   vI L { p with frames:=fs++[{ f with stack:=f.stack++[cp a] }],out:={ p.out with deeds:=p.out.deeds++[⟨i.a,v.n,a⟩] } } h':=by
 have g1:bb T 34 (.hp L.rm (0+0+4+5)) h= .ok dv h:=H.get (T:=T) (t:=34) rfl rfl (nZ H.vo.len 0);obtain⟨h1,tag1,dv1,e1,K1,o1,o2,r1,R1⟩:=H.deed (T:=T) (t:=34) (e:=102) rfl rfl rfl rfl rfl ZM ⟨i.a,v.n,a⟩ (XM (Xy _ (show p.out.deeds.length+1<=1000000 by omega)) ZM);have s1:bU T 34 (.hp L.rm (0+0+4+5)) dv1 h1= .ok (.tup []) (h1.set L.rm (fC L p sv (.hs q 0 (fs.length+1) 5 true) dv1 cv vc)):=by
  rw[bX (T:=T) (t:=34) rfl r1 o1 (by rw[lW H.vo.len];decide) ZM,o2,NR H.vo.len]
 have t1:=R1.tm;have K2:Kp tag1 tag1 (fun k=>k=0) h1 (h1.set L.rm (fC L p sv (.hs q 0 (fs.length+1) 5 true) dv1 cv vc)):=W8 t1 _;have K12:=K1.trans K2;have F2:=F.keep K12 ⟨ZL,ZL,ZL⟩;have hA2:=hA.keep K12 fun j _ _=>ZN
 obtain⟨h3,tag3,sv3,p1,p2,p3⟩:=t115 F2 (cp a) hb;have R3:=R1.unfocus hA2 (p3.mono fun k hk=>ZN) p2 hB;refine⟨h3,?_,⟨tag3,_,_,_,_,_,R3⟩⟩;rw[K123_0];simp -implicitDefEqProofs only[ao,au,aJ,ae,FH81_0,FH39_4,FH37_2];rw[ap g1];simp -implicitDefEqProofs only[fJ1,Fe,ae,bH,FA33_1,XK,XG,LD3,EG,BM];rw[ap e1,ap s1];simp only[t50,aj];rw[ap p1];rfl
theorem AJ(l:List aW)(x:aW)(hb:l.length<=1000000):∀(B A:List aW),A++B=l->
  ak (L165_0 (af pg) ak) [strs l,.str x,.int .i64 l.length,.int .i64 A.length]=am (.int .i64 (aY (fun y=>y== x) B A.length))
 |[],A,e=>by
  rw[XN]at e;subst e;have h1:¬((A.length:Int)<(A.length:Int)):=ZL
  rw[FL165_0];simp -implicitDefEqProofs only[L165_0,ao,au,aB,ae,ai,Xp,Xn h1];rfl
 |y:: B,A,e=>by
  have hlen:A.length+(B.length+1)=l.length:=by rw[<- e];simp
  have h1:(A.length:Int)<(l.length:Int):=ZL
  have hix:=oO (l:=l) (n:=(A.length:Int)) ZL h1;have hxx:l[A.length]! = y:=by rw[Xv l A.length ZL];simp[<- e]
  rw[Xw,hxx]at hix;have hw:IntKind.i64.wrap ((A.length:Int)+1)=((A++[y]).length:Nat):=by rw[aS ZL ZL];simp
  have ih:=AJ l x hb B (A++[y]) ZN;have hc:(x== y)=(y== x):=BEq.comm;have hld:ax T 9 (.ip (aa (AV.str y)))=some (.str y):=rfl;have hsq:cz T .eql 9 (.str x) (.str y)=some (.bool (x== y)):=yS ..;rw[FL165_0];simp -implicitDefEqProofs only[L165_0,ao,au,aB,ae,ai,Xp,Xr h1,hix,hld,hsq,hc];rw[show aY (fun y=>y== x) (y:: B) A.length=if(y== x)=true then(A.length:Int)else aY (fun y=>y== x) B ((A.length:Int)+1)from rfl];simp_all
def tv165(l:List aW)(x:aW)(hb:l.length<=1000000):af pg 165 [strs l,.str x]=am (.int .i64 (aY (fun y=>y== x) l 0)):=by
 have h:=AJ l x hb l [] rfl;have h':ak (L165_0 (af pg) ak) [strs l,.str x,.int .i64 l.length,.int .i64 0]=am (.int .i64 (aY (fun y=>y== x) l 0)):=h;rw[C165,show cl aE (strs l)=strs l by simp,show cl aE (.str x)= .str x from rfl]
 grind [S165,gW,ae,nB]
def FQ{α:Type}(p a q b r c d:Bool)(k:AV->M α):
  ar (aM (.bool p) true 1 (am [.bool a])) (fun v74=>ar (bP (gp (.bool p) (ab v74 0) (.bool false))) fun v75=>aC v75 (k v75) (ar (aM (.bool q) true 1 (am [.bool b])) fun v82=>
   ar (bP (gp (.bool q) (ab v82 0) (.bool false))) fun v83=>aC v83 (k v83) (ar (aM (.bool r) true 1 (am [.bool c])) fun v90=>ar (aM (ab v90 0) false 1 (am [.bool d])) fun v92=>
   ar (aM (.bool r) true 1 (ar (bP (gp (ab v90 0) (.bool true) (ab v92 0))) fun v93=>am [v93])) fun v94=>ar (bP (gp (.bool r) (ab v94 0) (.bool false))) k)))=k (.bool (p&&a||(q&&b||r&&(c||d)))):=by
 cases p<;>cases a<;>cases q<;>cases b<;>cases r<;>cases c<;>cases d<;>rfl
theorem wK:∀(ns:List aW)(vs:List Val)(s:aW)(i:Int),ns.length=vs.length->0<=i->
  (aY (fun y=>y== s) ns i= -1/\gI ns vs s=none)\/∃k:Nat,k<vs.length/\aY (fun y=>y== s) ns i=i+k/\gI ns vs s=some vs[k]!
 |[],[],_,_,_,_=>.inl ⟨rfl,rfl⟩
 | n:: ns,v:: vs,s,i,h,h0=>by
  have e1:aY (fun y=>y== s) (n:: ns) i=if(n== s)=true then i else aY (fun y=>y== s) ns (i+1):=rfl;have e2:gI (n:: ns) (v:: vs) s=if n=s then some v else gI ns vs s:=rfl;by_cases hn:n=s
  ·grind
  ·rw[e1,Xn (by simp[hn]),e2,Xn hn];rcases wK ns vs s (i+1) (by simpa using h) (ZL)with⟨g1,g2⟩|⟨k,g1,g2,g3⟩
   ·grind
   ·refine .inr ⟨k+1,by simp;omega,by rw[g2];omega,?_⟩
    grind
 |[],_:: _,_,_,h,_=>by simp at h
 |_:: _,[],_,_,h,_=>by simp at h
theorem IL{L:MLay}{tag:Nat->Nat}{sv dv cv:AV}{vc:List AV}{p:Proc}{h:Hp}{q:Nat}{fs:List Frm}{f:Frm}{A B:List AV}{lv stv:AV}(H:MR L tag sv (.hs q 0 (fs.length+1) 5 true) dv cv vc p h)(hA:eh tag h 0 fs A)(F:FrAt tag h q A B fs.length f lv stv)(hB:B.all ay=true)(i:Ins)(v:Val)(at_:Int)(h1:1<=f.stack.length)(hb:f.stack.length<1000000000)(hd:p.out.deeds.length<1000000)(hop:i.op=9\/i.op=13\/i.op=15)(hat:i.op=13->0<=at_/\at_<v.values.length):
  ∃ h',K123_1 (af pg) ak [.hp L.rm 0,.hp q A.length,.ip (aa i.av),.ip (aa v.av),.int .i64 at_,.bool false] h= .ok (.int .i64 0) h'/\
   vI L (if i.op=9 then{ p with frames:=fs++[{ f with stack:=f.stack.take (f.stack.length-1)++[Ap.dR (v.n== 0)] }] }
    else if i.op=13 then{ p with frames:=fs++[{ f with stack:=f.stack.take (f.stack.length-1)++[v.values[at_.toNat]!] }] }
    else{ p with frames:=fs++[{ f with stack:=f.stack.take (f.stack.length-1)++[cp (p.world.headD 0)] }],world:=p.world.tail,out:={ p.out with deeds:=p.out.deeds++[⟨i.a,v.n,p.world.headD 0⟩] } }) h':=by
 obtain⟨h2,tag2,sv2,rv,e2,F2,_,K2,_⟩:=t117 F 1 h1 hb 3 ZM;have R2:=H.unfocus hA (K2.mono fun k hk=>.inl hk) F2 hB;have hA2:=hA.keep K2 fun j _ _=>ZN
 have hl2:(f.stack.take (f.stack.length-1)).length<1000000000:=by simp;omega
 have e2':af pg 117 [.hp q A.length,.int .i64 1] h= .ok rv h2:=e2;have put:∀x:Val,∃h3,af pg 115 [.hp q A.length,x.av] h2= .ok (.tup []) h3/\vI L { p with frames:=fs++[{ f with stack:=f.stack.take (f.stack.length-1)++[x] }] } h3:=fun x=>by
  obtain⟨h3,tag3,sv3,p1,p2,p3⟩:=t115 F2 x hl2;have R3:=R2.unfocus hA2 (p3.mono fun k hk=>ZN) p2 hB;exact⟨h3,p1,⟨tag3,_,_,_,_,_,R3⟩⟩
 generalize hc:K123_1 (af pg) ak [.hp L.rm 0,.hp q A.length,.ip (aa i.av),.ip (aa v.av),.int .i64 at_,.bool false] h=code;rw[K123_1]at hc;simp -implicitDefEqProofs only[ao,au,ai,Xo,Xu]at hc;rw[ap e2']at hc;simp -implicitDefEqProofs only[fJ0,vS,ae,aH,ai]at hc;simp -implicitDefEqProofs only[bH,ae,aH,FA33_1,FA33_3,XK,XG,LD3,LD23]at hc;by_cases h9:i.op=9
 ·obtain⟨h3,p1,R3⟩:=put (Ap.dR (v.n== 0));rw[Xr h9];refine⟨h3,?_,R3⟩;rw[<- hc];simp -implicitDefEqProofs only[h9,XR,XA,t116,aj];rw[ap p1];rfl
 have b9:(i.op== 9)=false:=by simp[h9]
 rw[Xn h9];simp -implicitDefEqProofs only[b9,Xo,Xu]at hc;by_cases h13:i.op=13
 ·obtain⟨k0,k1⟩:=hat h13;obtain⟨h3,p1,R3⟩:=put v.values[at_.toNat]!;rw[Xr h13];refine⟨h3,?_,R3⟩;rw[<- hc];have hix:=sY (l:=v.values) (n:=at_) k0 k1;have hld:∀x:Val,ax T 33 (.ip (aa x.av))=some x.av:=fun x=>by cases x;rfl
  simp -implicitDefEqProofs only[h13,XR,XA,hix,ae,hld];rw[ap p1];rfl
 have b13:(i.op== 13)=false:=by simp[h13]
 rw[Xn h13];simp -implicitDefEqProofs only[b13,Xo,Xu,jn,aJ,ae,FH81_0,FH39_3]at hc;have g1:bb T 24 (.hp L.rm (0+0+3)) h2= .ok (ints p.world) h2:=R2.get (T:=T) (t:=24) rfl rfl rfl;rw[ap g1]at hc;have hlen:bm T 24 (ints p.world)=some (.int .i64 p.world.length):=m8 _;simp -implicitDefEqProofs only[hlen,ae,dQ,ai,Xp]at hc;cases hw:p.world with
 |nil=>
  rw[Xn (by rw[hw];decide)]at hc;obtain⟨h3,p1,R3⟩:=xE R2 hA2 F2 hB i v 0 hl2 hd;simp_all
 | cons a w=>
  rw[Xr (by rw[hw];simp)]at hc;have hix:aA T 24 (ints p.world) (.int .i64 0)=some (.ip (aa (AV.int .i64 a))):=by
   have:=I6 (l:=p.world) (n:=0) ZM (by rw[hw];simp)
   rw[this,hw];rfl
  have hld:ax T 3 (.ip (aa (AV.int .i64 a)))=some (.int .i64 a):=rfl;have hsl:cU T 24 (ints p.world) (some (.int .i64 1)) none none=some (ints w):=by
   have:=Go.Av.oi (T:=T) (t:=24) (e:=3) rfl rfl rfl (p.world.map (AV.int .i64)) (by
    simp_all[dk]) (n:=1) ZM ZN
   rw[hw]at this |-;exact this
  have s1:bU T 24 (.hp L.rm (0+0+3)) (ints w) h2= .ok (.tup []) (h2.set L.rm (fC L { p with world:=w,frames:=fs++[{ f with stack:=f.stack.take (f.stack.length-1) }] } sv (.hs q 0 (fs.length+1) 5 true) dv cv vc)):=by
   rw[bX (T:=T) (t:=24) rfl R2.row rfl (by rw[lW R2.vo.len];decide) ZM];rfl
  have R4:=R2.setRow (p':={ p with world:=w,frames:=fs++[{ f with stack:=f.stack.take (f.stack.length-1) }] }) rfl rfl rfl rfl R2.so R2.vo;have K4:Kp tag2 tag2 (fun k=>k=0) h2 (h2.set L.rm (fC L { p with world:=w,frames:=fs++[{ f with stack:=f.stack.take (f.stack.length-1) }] } sv (.hs q 0 (fs.length+1) 5 true) dv cv vc)):=W8 R2.tm _;have F4:=F2.keep K4 ⟨ZL,ZL,ZL⟩;have hA4:=hA2.keep K4 fun j _ _=>ZN
  obtain⟨h3,p1,R3⟩:=xE R4 hA4 F4 hB i v a hl2 hd;have ea:aa v.av=[.int .i64 v.kind,.int .i64 v.n,strs v.names,vals v.values]:=bH v;rw[<- ea,ap g1]at hc;simp -implicitDefEqProofs only[hix,hld,ae]at hc;rw[ap g1]at hc;simp -implicitDefEqProofs only[hsl,ae]at hc
  grind [ap]
theorem t123{L:MLay}{tag:Nat->Nat}{sv dv cv:AV}{vc:List AV}{p:Proc}{h:Hp}{q:Nat}{fs:List Frm}{f:Frm}{A B:List AV}{lv stv:AV}(H:MR L tag sv (.hs q 0 (fs.length+1) 5 true) dv cv vc p h)(hA:eh tag h 0 fs A)(F:FrAt tag h q A B fs.length f lv stv)(hB:B.all ay=true)(i:Ins)(h1:1<=f.stack.length)(hb:f.stack.length<1000000000)(hd:p.out.deeds.length<1000000)(hop:i.op=9\/i.op=13\/i.op=15)(hv:f.stack[f.stack.length-1]!.names.length=f.stack[f.stack.length-1]!.values.length)(hn:f.stack[f.stack.length-1]!.names.length<=1000000):
  match mS p fs f i with
  |.ok p'=>∃h',af pg 123 [.hp L.rm 0,.hp q A.length,i.av] h= .ok (.int .i64 0) h'/\vI L p' h'
  |.error e=>af pg 123 [.hp L.rm 0,.hp q A.length,i.av] h= .ok (.int .i64 e) h:=by
 obtain⟨w,e0,_,e3⟩:=t118 F 1 h1 hb;obtain⟨rs,rests,rfl,hrs,_⟩:=e3 ZM;have e0':af pg 118 [.hp q A.length,.int .i64 1] h= .ok (.hs rs ((f.stack.length-1)*4) 1 4 true) h:=e0;have i0:aA T 23 (.hs rs ((f.stack.length-1)*4) 1 4 true) (.int .i64 0)=some (.hp rs ((f.stack.length-1+0)*4)):=(jk hrs h1 (j:=0) ZM).1;have l0:=(jk hrs h1 (j:=0) ZM).2;rw[show f.stack.length-1+0=f.stack.length-1 by omega]at i0 l0;have go:=fun(v:Val) (at_:Int)=>IL H hA F hB i v at_ h1 hb hd hop;have e9:i.op=9->mS p fs f i=if f.stack[f.stack.length-1]!.kind=1 then .ok { p with frames:=fs++[{ f with stack:=f.stack.take (f.stack.length-1)++[Ap.dR (f.stack[f.stack.length-1]!.n== 0)] }] }else .error 13:=fun h=>by simp[mS,h]
 have e13:i.op=13->mS p fs f i=match gI f.stack[f.stack.length-1]!.names f.stack[f.stack.length-1]!.values i.s with
   |some x=>if f.stack[f.stack.length-1]!.kind=2 then .ok { p with frames:=fs++[{ f with stack:=f.stack.take (f.stack.length-1)++[x] }] }else .error 13
   |none=>.error 13:=fun h=>by simp[mS,h];rfl
 have e15:i.op=15->mS p fs f i=if f.stack[f.stack.length-1]!.kind=0 then .ok { p with frames:=fs++[{ f with stack:=f.stack.take (f.stack.length-1)++[cp (p.world.headD 0)] }],world:=p.world.tail,out:={ p.out with deeds:=p.out.deeds++[⟨i.a,f.stack[f.stack.length-1]!.n,p.world.headD 0⟩] } }else .error 13:=fun h=>by simp[mS,h]
 generalize f.stack[f.stack.length-1]! = v at hv hn l0 e9 e13 e15;generalize hc:af pg 123 [.hp L.rm 0,.hp q A.length,i.av] h=code;rw[C123,S123,ap e0',i0,ae,ap l0]at hc;simp -implicitDefEqProofs only[aZ (dV v),aj,aI,fJ2,Te,ae]at hc;have fa2:ah T 33 (.ip (aa v.av)) 2=some (.ip [strs v.names,vals v.values]):=by rw[bH];rfl
 have la2:ax T 31 (.ip [strs v.names,vals v.values])=some (strs v.names):=rfl;have fa0:ah T 33 (.ip (aa v.av)) 0=some (.ip (aa v.av)):=by rw[bH];rfl
 have la0:ax T 3 (.ip (aa v.av))=some (.int .i64 v.kind):=by rw[bH];rfl
 simp -implicitDefEqProofs only[fa2,la2,fa0,la0,tv165 v.names i.s hn,ae,aj,jn,fJ0,vS,aH,gw,aB,FQ]at hc;have bad:∀b:Bool,b=true->K123_1 (af pg) ak [.hp L.rm 0,.hp q A.length,.ip (aa i.av),.ip (aa v.av),.int .i64 (aY (fun y=>y== i.s) v.names 0),.bool b] h= .ok (.int .i64 13) h:=by
  rintro _ rfl;rw[K123_1];simp -implicitDefEqProofs only[ao,au,ai,XA];rfl
 rcases hop with h9|h13|h15
 ·rw[e9 h9];by_cases hk:v.kind=1
  ·rw[Xr hk];rw[show (i.op== 9&&v.kind != 1||(i.op== 15&&v.kind != 0||i.op== 13&&(v.kind != 2||decide (aY (fun y=>y== i.s) v.names 0<0))))=false by simp[h9,hk]]at hc;obtain⟨h',g1,g2⟩:=go v (aY (fun y=>y== i.s) v.names 0) (fun h=>ZL)
   grind
  grind
 ·rw[e13 h13];rcases wK v.names v.values i.s 0 hv (ZM)with⟨g1,g2⟩|⟨k,k1,k2,k3⟩
  ·grind
  ·rw[k3];by_cases hk:v.kind=2
   ·simp only[Xr hk];rw[show (i.op== 9&&v.kind != 1||(i.op== 15&&v.kind != 0||i.op== 13&&(v.kind != 2||decide (aY (fun y=>y== i.s) v.names 0<0))))=false by grind]at hc;obtain⟨h',g1,g2⟩:=go v (aY (fun y=>y== i.s) v.names 0) (fun h=>by rw[k2];omega)
    grind
   grind
 ·rw[e15 h15];by_cases hk:v.kind=0
  ·rw[Xr hk];rw[show (i.op== 9&&v.kind != 1||(i.op== 15&&v.kind != 0||i.op== 13&&(v.kind != 2||decide (aY (fun y=>y== i.s) v.names 0<0))))=false by simp[h15,hk]]at hc;obtain⟨h',g1,g2⟩:=go v (aY (fun y=>y== i.s) v.names 0) (fun h=>ZL)
   grind
  grind
end Go.Proofs.YtbndmpiddinalaaGreatDoor
