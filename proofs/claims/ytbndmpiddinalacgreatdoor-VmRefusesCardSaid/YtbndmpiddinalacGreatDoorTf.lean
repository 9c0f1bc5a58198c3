/- What the functions compute, part 6. Conditions: bounds. -/
import Derived.Test.YtbndmpiddinalacGreatDoorTe
set_option linter.defProp false
set_option linter.unusedSimpArgs false
set_option linter.unusedVariables false
namespace Go.Proofs.YtbndmpiddinalacGreatDoor
open Go Go.Av Go.Av.Ap
set_option maxRecDepth 100000
section
variable (f:Fun) (m:Ap.Mod)
theorem fF0:ah T 123 (.ip (aa f.av)) 0=some (.ip ((aa f.av).drop 0)):=rfl
theorem fF2:ah T 123 (.ip (aa f.av)) 2=some (.ip ((aa f.av).drop 2)):=rfl
theorem fF5:ah T 123 (.ip (aa f.av)) 5=some (.ip ((aa f.av).drop 6)):=rfl
theorem W9:ax T 9 (.ip ((aa f.av).drop 0))=some (.str f.name):=Z9
theorem WF:ax T 47 (.ip ((aa f.av).drop 2))=some (ca f.params):=Z9
theorem Xa:ax T 121 (.ip ((aa f.av).drop 6))=some f.body.av:=Z9
theorem Xb:ax T 123 (.ip (aa f.av))=some f.av:=Z9
theorem fM2:ah T 53 (.ip (aa m.av)) 2=some (.ip ((aa m.av).drop 2)):=rfl
theorem fM4:ah T 53 (.ip (aa m.av)) 4=some (.ip ((aa m.av).drop 4)):=rfl
theorem Xd:ax T 47 (.ip ((aa m.av).drop 2))=some (ca m.vars):=rfl
theorem Xe:ax T 49 (.ip ((aa m.av).drop 4))=some (iP m.funcs):=rfl
theorem WH:ax T 53 (.ip (aa m.av))=some m.av:=rfl
end
theorem fD0(f:fu):ah T 143 (.ip (aa (dZ f))) 0=some (.ip ((aa (dZ f)).drop 0)):=rfl
def W5(f:fu):ax T 9 (.ip ((aa (dZ f)).drop 0))=some (.str f.1):=Z9
def W6(f:fu):ax T 143 (.ip (aa (dZ f)))=some (dZ f):=Z9
def Bf(p:Cod×Nat):AV:=.agg [.str p.1.func,.int .i64 p.1.params,.int .i64 p.1.locals,.hs p.2 0 p.1.code.length 5 true]
theorem FN(b:Bool):Jh UnOp.not (.bool b)=some (.bool (!b)):=rfl
def TH(h:Hp)(acc:List (Cod×Nat)):Prop:=∀p∈acc,h[p.2]? = some (rowOf Ins.av p.1.code)
theorem Lm(v6:List AV->M AV)(a0 a1 a2 a3 a5 a6 a7:AV)(ps:List fu)(hb:ps.length<=1000000):∀(B A:List fu),A++B=ps->
  ak (L69_0 (af pg) ak v6) [a0,a1,a2,a3,strs (A.map (·.1)),a5,a6,a7,ca ps,.int .i64 ps.length,.int .i64 A.length]=ak (L69_0 (af pg) ak v6) [a0,a1,a2,a3,strs (ps.map (·.1)),a5,a6,a7,ca ps,.int .i64 ps.length,.int .i64 ps.length]
 |[],A,e=>by
  grind
 | x:: B,A,e=>by
  have hlen:A.length+(B.length+1)=ps.length:=by rw[<- e];simp
  have h1:(A.length:Int)<(ps.length:Int):=Z5
  have hix:=vJ (l:=ps) (n:=(A.length:Int)) Z5 h1;have hx:ps[A.length]! = x:=by rw[XN ps A.length Z5];simp[<- e]
  rw[XP,hx]at hix;have hw:IntKind.i64.wrap ((A.length:Int)+1)=((A++[x]).length:Nat):=by rw[aW Z5 Z5];simp
  have hap:dH T 27 (strs (A.map (·.1))) (strs [x.1])=some (strs ((A++[x]).map (·.1))):=by
   rw[Ji WD];simp
  have ih:=Lm v6 a0 a1 a2 a3 a5 a6 a7 ps hb B (A++[x]) Z7;rw[<- ih,FL69_0];simp -implicitDefEqProofs only[L69_0,am,au,aB,ae,ai,XI,XK h1,hix,W6,B6,aj,fD0,W5,Ws,hap,bm,hw]
theorem Wa(v6:List AV->M AV)(a0 a5 a6:AV){vars:List fu}(hv:vars.length<=1000000){f:Fun}(F:FunOk f){i:Nat}(hi:i<=1000000){acc:List (Cod×Nat)}(ha:acc.length<=1000000){h:Hp}{l:Nat}(H:CS h l vars ([],f.params.length)):
  ∃lb h',l<lb/\h'[lb]? = some (rowOf Ins.av (dx vars f).code)/\sK l h h'/\
   ak (L69_0 (af pg) ak v6) [a0,.sl (acc.map Bf),.ip (aa f.av),.hp l 0,strs (f.params.map (·.1)),a5,a6,.int .i64 i,ca f.params,.int .i64 f.params.length,.int .i64 f.params.length] h=v6 [a0,.sl ((acc++[(dx vars f,lb)]).map Bf),a5,a6,.int .i64 ((i+1:Nat):Int)] h':=by
 have hpl:=F.plen;have hcap:oD 12<=99000000000:=by simp[oD]
 obtain⟨h1,e1,H1,o1⟩:=t124 hv 12 f.body F.body (f.params.map (·.1)) WD ([],f.params.length) h l H Z7;have g1:=cJ vars 12 f.body F.body (f.params.map (·.1)) ([],f.params.length);obtain⟨h2,e2,H2,o2⟩:=t125 H1 (cD 18 0) Z7;obtain⟨x,hx,cx⟩:=H2;have hcode:(gJ (cD 18 0) (bK vars 12 f.body (f.params.map (·.1)) ([],f.params.length))).1=(dx vars f).code:=rfl;have hloc:(gJ (cD 18 0) (bK vars 12 f.body (f.params.map (·.1)) ([],f.params.length))).2=(dx vars f).locals:=rfl;rw[hcode]at cx;rw[hloc]at hx;rcases cx with⟨z,_⟩|⟨_,lb,hlb,rfl,hq⟩
 ·grind [gJ]
 ·refine⟨lb,h2,hlb,hq,o1.trans o2,?_⟩;have hn:¬((f.params.length:Int)<(f.params.length:Int)):=Z5
  have hb:cH T false 91 [(0,.str f.name),(1,.int .i64 f.params.length),(2,.int .i64 (dx vars f).locals),(3,.hs lb 0 (dx vars f).code.length 5 true)]=some (Bf (dx vars f,lb)):=rfl;have hbs:∀v:Cod×Nat,aM T 154 1 [(0,Bf v)]=some (.sl ([v].map Bf)):=fun _=>rfl;have hap:dH T 154 (.sl (acc.map Bf)) (.sl ([(dx vars f,lb)].map Bf))=some (.sl ((acc++[(dx vars f,lb)]).map Bf)):=
   lL (T:=T) (t:=154) (e:=91) rfl rfl rfl (f:=Bf) (fun _=>rfl) Z7 Z6
  have hw:IntKind.i64.wrap ((i:Int)+1)=((i+1:Nat):Int):=by rw[aW Z5 Z5];omega
  rw[FL69_0];simp -implicitDefEqProofs only[L69_0,am,au,aB,ae,ai,XI,XG hn,fF5,Xa];rw[aU e1];simp -implicitDefEqProofs only[K8,ae];rw[aU e2];simp -implicitDefEqProofs only[fF0,W9,fF2,WF,mh,ae,HU,fC1,fC2];rw[aU (HJ hx),aU (mL hx)];simp_all
theorem Ll{m:Ap.Mod}(K:ModOk m):∀(B A:List Fun)(acc:List (Cod×Nat))(h:Hp),A++B=m.funcs->acc.map (·.1)=A.map (dx m.vars)->TH h acc->
  ∃acc' h',ak (L69_1 (af pg) ak) [.ip (aa m.av),.sl (acc.map Bf),iP m.funcs,.int .i64 m.funcs.length,.int .i64 A.length] h= .ok (.sl (acc'.map Bf)) h'/\acc'.map (·.1)=m.funcs.map (dx m.vars)/\TH h' acc'
 |[],A,acc,h,e,ha,H=>by
  rw[X9]at e;subst e;refine⟨acc,h,?_,ha,H⟩;have h1:¬((m.funcs.length:Int)<(m.funcs.length:Int)):=Z5
  rw[FL69_1];simp -implicitDefEqProofs only[L69_1,am,au,aB,ae,ai,XI,XG h1];rfl
 | x:: B,A,acc,h,e,ha,H=>by
  have hlen:A.length+(B.length+1)=m.funcs.length:=by rw[<- e];simp
  have hf30:=K.flen;have hvl:=K.vlen;have h1:(A.length:Int)<(m.funcs.length:Int):=Z5
  have hix:=BE (l:=m.funcs) (n:=(A.length:Int)) Z5 h1;have hx:m.funcs[A.length]! = x:=by rw[XN m.funcs A.length Z5];simp[<- e]
  rw[XP,hx]at hix;have F:=K.fns x Z7;have hpl:=F.plen;have hal:acc.length=A.length:=by have:=Ym List.length ha;simpa using this
  have hC:CS (h++[[ca m.vars,.hn,.int .i64 x.params.length]]) h.length m.vars ([],x.params.length):=⟨.hn,Z7,.inl ⟨rfl,rfl⟩⟩;obtain⟨lb,h2,hlb,hq,hlo,e2⟩:=Wa (ak (L69_1 (af pg) ak)) (.ip (aa m.av)) (iP m.funcs) (.int .i64 m.funcs.length) Z5 F (i:=A.length) Z5 (acc:=acc) Z5 hC;obtain⟨acc',h3,e3,r3,H3⟩:=Ll K B (A++[x]) (acc++[(dx m.vars x,lb)]) h2 Z7 Z7 (by
   intro p hp;rcases Yl.1 hp with hp|hp
   ·have:=H p hp
    have hl:=lY this;rw[hlo p.2 hl,YJ hl];exact this
   grind)
  refine⟨acc',h3,?_,r3,H3⟩;have hbv:cH T true 202 [(0,ca m.vars),(2,.int .i64 x.params.length)]=some (.agg [ca m.vars,.hn,.int .i64 x.params.length]):=rfl;have hnw:newH (aa (.agg [ca m.vars,.hn,.int .i64 x.params.length])) h= .ok (.hp h.length 0) (h++[[ca m.vars,.hn,.int .i64 x.params.length]]):=rfl;have hP:=Lm (ak (L69_1 (af pg) ak)) (.ip (aa m.av)) (.sl (acc.map Bf)) (.ip (aa x.av)) (.hp h.length 0) (iP m.funcs) (.int .i64 m.funcs.length) (.int .i64 A.length) x.params Z5 x.params [] rfl;rw[FL69_1];simp -implicitDefEqProofs only[L69_1,am,au,aB,ae,ai,XI,XK h1,hix,Xb,mo,aj,fM2,Xd,fF2,WF,mh,hbv];rw[aU hnw];show ak (L69_0 (af pg) ak (ak (L69_1 (af pg) ak))) [.ip (aa m.av),.sl (acc.map Bf),.ip (aa x.av),.hp h.length 0,strs (([]:List fu).map (·.1)),iP m.funcs,.int .i64 m.funcs.length,.int .i64 A.length,ca x.params,.int .i64 x.params.length,.int .i64 ([]:List fu).length] _=_;simp_all
def Ft{h:Hp}(acc:List (Cod×Nat))(H:TH h acc):frz 6 h (.sl (acc.map Bf))=yd (acc.map (·.1)):=by
 have key:∀p∈acc,frz 6 h (Bf p)=p.1.av:=by
  intro p hp;have hi:=Fu (f:=Ins.av) JX (fun _=>rfl) (fun x g=>by simp[Ins.av,Ins.cells,cl,fk]) Z6 (H p hp) 5;unfold frz at hi |-;simp only[cl]at hi;simp only[Bf,cl,fk,hi];rfl
 unfold frz at key |-;simp only[cl];unfold yd;congr 1;clear H
 induction acc with
 |nil=>rfl
 |cons p acc ih=>
  grind [fk]
def t69(m:Ap.Mod)(hm:m.Lim):af pg 69 [m.av]=ao (yd (if ij m=true then m.funcs.map (dx m.vars)else[])):=by
 rw[C69];cases hr:ij m with
 | false=>
  have hS:S69 (af pg) ak (cl aF m.av)=ao (.sl []):=by
   rw[xZ];simp -implicitDefEqProofs only[S69,WH,ae,t68 m hm,hr,aj,FN,Yi,ai,XS]
  rw[hS];rfl
 | true=>
  have K:=uJ hr;obtain⟨acc,h',e1,r1,H1⟩:=Ll K m.funcs [] [] [] rfl rfl (fun p hp=>by cases hp);have hS:S69 (af pg) ak (cl aF m.av) []= .ok (.sl (acc.map Bf)) h':=by
   rw[xZ];simp -implicitDefEqProofs only[S69,WH,ae,t68 m hm,hr,aj,FN,XZ,ai,XH,XO,fM4,Xe,BF];exact e1
  funext h;unfold bj;rw[hS];simp only[Ft acc H1,r1,XS];rfl
theorem WJ(s:ba):ax T 9 (.ip (aa (.str s)))=some (.str s):=rfl
section
variable (i:Ins)
theorem fJ0:ah T 113 (.ip (aa i.av)) 0=some (.ip ((aa i.av).drop 0)):=rfl
theorem fJ1:ah T 113 (.ip (aa i.av)) 1=some (.ip ((aa i.av).drop 1)):=rfl
theorem fJ2:ah T 113 (.ip (aa i.av)) 2=some (.ip ((aa i.av).drop 2)):=rfl
theorem fJ3:ah T 113 (.ip (aa i.av)) 3=some (.ip ((aa i.av).drop 3)):=rfl
theorem fJ4:ah T 113 (.ip (aa i.av)) 4=some (.ip ((aa i.av).drop 4)):=rfl
theorem vV:ax T 3 (.ip ((aa i.av).drop 0))=some (.int .i64 i.op):=rfl
theorem FD:ax T 3 (.ip ((aa i.av).drop 1))=some (.int .i64 i.a):=rfl
theorem Ts:ax T 9 (.ip ((aa i.av).drop 2))=some (.str i.s):=rfl
theorem Sd:ax T 9 (.ip ((aa i.av).drop 3))=some (.str i.m):=rfl
theorem Se:ax T 27 (.ip ((aa i.av).drop 4))=some (strs i.names):=rfl
theorem Gm:ax T 113 (.ip (aa i.av))=some i.av:=rfl
end
section
variable (c:Cod)
theorem fK0:ah T 91 (.ip (aa c.av)) 0=some (.ip ((aa c.av).drop 0)):=rfl
theorem fK1:ah T 91 (.ip (aa c.av)) 1=some (.ip ((aa c.av).drop 1)):=rfl
theorem fK2:ah T 91 (.ip (aa c.av)) 2=some (.ip ((aa c.av).drop 2)):=rfl
theorem fK3:ah T 91 (.ip (aa c.av)) 3=some (.ip ((aa c.av).drop 3)):=rfl
theorem VS:ax T 9 (.ip ((aa c.av).drop 0))=some (.str c.func):=rfl
theorem WG:ax T 3 (.ip ((aa c.av).drop 1))=some (.int .i64 c.params):=rfl
theorem VT:ax T 3 (.ip ((aa c.av).drop 2))=some (.int .i64 c.locals):=rfl
theorem HE:ax T 89 (.ip ((aa c.av).drop 3))=some (nF c.code):=rfl
end
def W2{l:List Cod}{n:Nat}(h:n<l.length):aA T 154 (yd l) (.int .i64 (n:Int))=some (.ip (aa (Cod.av l[n]!))):=
 bv (T:=T) (t:=154) (e:=91) (f:=Cod.av) rfl rfl rfl (fun _=>rfl) Z5 Z5
def RX{l:List Ins}{n:Nat}(h:n<l.length):aA T 89 (nF l) (.int .i64 (n:Int))=some (.ip (aa (Ins.av l[n]!))):=
 bv (T:=T) (t:=89) (e:=113) (f:=Ins.av) rfl rfl rfl (fun _=>rfl) Z5 Z5
theorem V7(l:List Cod):bu T 154 (yd l)=some (.int .i64 l.length):=by
 have h:bu T 154 (yd l)=some (.int .i64 (l.map Cod.av).length):=rfl
 grind
theorem AG(l:List Ins):bu T 89 (nF l)=some (.int .i64 l.length):=by
 have h:bu T 89 (nF l)=some (.int .i64 (l.map Ins.av).length):=rfl
 grind
theorem SS(a b:ba):cB T .eql 9 (.str a) (.str b)=some (.bool (a== b)):=rfl
theorem J6(t:Nat)(a b:Int):cB T .leq t (.int .i64 a) (.int .i64 b)=some (.bool (decide (a<=b))):=rfl
theorem Ef(l:List ba)(hb:l.length<=1000000):∀n k:Nat,l.length-k=n->k<=l.length->
  ak (L166_0 (af pg) ak) [strs l,strs l,.int .i64 l.length,.int .i64 (k:Int)]=ao (.bool ((List.range' k n).all (fun k=>cw l[k]! && (decide (k=0)||eG l[k-1]! l[k]!))&&decide (l.length<=8)))
 |0,k,hn,hk=>by
  have h1:¬((k:Int)<(l.length:Int)):=Z5
  have h2:decide ((l.length:Int)<=8)=decide (l.length<=8):=YF.2 Z5;rw[FL166_0];simp_all[L166_0,XG]
 | n+1,k,hn,hk=>by
  have h1:(k:Int)<(l.length:Int):=Z5
  have hix:=oU (l:=l) (n:=(k:Int)) Z5 h1;rw[XP]at hix;have hw:IntKind.i64.wrap ((k:Int)+1)=((k+1:Nat):Int):=by rw[aW Z5 Z5];omega
  have ih:=Ef l hb n (k+1) Z5 Z5;have hN:=t119 l[k]!;rw[FL166_0,List.range'_succ,X7];generalize (List.range' (k+1) n).all (fun k=>cw l[k]! && (decide (k=0)||eG l[k-1]! l[k]!))=q at ih |-;generalize decide (l.length<=8)=q8 at ih |-;generalize l[k]! = x at hix hN |-;rcases Yw k with hk0|hk0
  ·subst hk0;simp only[L166_0,am,au,aB,ae,ai,XI,XK h1,hix,WJ,hN,aj,aT];cases hx:cw x with
   |false=>simp
   |true=>
    simp_all
  ·have hp:IntKind.i64.wrap ((k:Int)-1)=((k-1:Nat):Int):=by rw[aW Z5 Z5];omega
   have hix2:=oU (l:=l) (n:=((k-1:Nat):Int)) Z5 Z5;rw[XP]at hix2;generalize l[k-1]! = g at hix2 |-;have hk1:decide (k=0)=false:=Yp Z5;have hk2:decide ((0:Int)<(k:Int))=true:=Yd Z5;have hge:cB T .geq 9 (.str g) (.str x)=some (.bool (!(ck g x))):=rfl;have ha:eG g x=ck g x:=YT.2 (tk g x);rw[ha];simp only[L166_0,am,au,aB,ae,ai,XI,XK h1,hix,WJ,hN,aj,aT,dO,hk1,fI,hp,hix2,bm,hw,ih,hk2,hge];cases cw x<;>cases ck g x<;>simp[gv]
def t166(l:List ba)(hb:l.length<=1000000):af pg 166 [strs l]=ao (.bool (jQ l)):=by
 have h:=Ef l hb l.length 0 rfl (X2 _);rw[xV cw eG l]at h;have h':ak (L166_0 (af pg) ak) [strs l,strs l,.int .i64 l.length,.int .i64 0]=ao (.bool (jQ l)):=h;have hcl:cl aF (strs l)=strs l:=Z8
 grind [C166,S166,g9,ae,ec]
def iS(a:Int)(s m:ba)(names:List ba)(ok:Bool):Bool:=((((ok&&decide (a=0))&&(s== []))&&(m== []))&&decide ((names.length:Int)=0))
def nH(a:Int)(s m:ba)(names:List ba)(ok:Bool):K126_0 (af pg) ak [.int .i64 a,.str s,.str m,strs names,.bool ok]=ao (.bool (iS a s m names ok)):=by
 simp -implicitDefEqProofs only[K126_0,am,au,kV,SS,g9,ae,aE,aj,br,iS]
theorem R5(a:Int)(s m:ba)(names:List ba)(op:Int)(hb:names.length<=1000000)(h:¬(op=0\/op=1\/op=2\/op=3\/op=10\/op=11)):
  K126_2 (af pg) ak (K126_0 (af pg) ak) [.int .i64 a,.str s,.str m,strs names,.bool true,.int .i64 op,.bool (decide (op=16)||decide (op=17))]=ao (.bool (
   if op=16\/op=17 then iS 0 s m names (decide (0<=a)&&decide (a<8))
   else if op=15 then iS 0 s m names (((decide (a=1)||decide (a=2))||decide (a=4))||decide (a=8))
   else if op=13 then iS a [] m names (cw s)
   else if op=14 then iS 0 [] [] names (((decide (0<=a)&&decide (a<=6))&&cw s)&&((m== [])||cw m))
   else if op=12 then iS a s m [] (jQ names)
   else if wx op=true then iS a s m names true else false)):=by
 have hN:=t119 s;have hM:=t119 m;have hA:=t166 names hb;have e0:(AV.sl []:AV)=strs []:=rfl;by_cases h16:op=16\/op=17
 ·have hd:(decide (op=16)||decide (op=17))=true:=by simpa using h16
  simp -implicitDefEqProofs only[K126_2,am,au,hd,ai,XS,J6,aB,ae,aE,aj,br,nH,XK h16]
 have hd:(decide (op=16)||decide (op=17))=false:=by simpa using h16
 rw[XG h16];simp -implicitDefEqProofs only[K126_2,am,au,hd,ai,XH,XO,kV,ae,XI];by_cases h15:op=15
 ·simp_all[nH]
 simp -implicitDefEqProofs only[XG h15];by_cases h13:op=13
 ·simp_all[nH]
 simp -implicitDefEqProofs only[XG h13];by_cases h14:op=14
 ·simp -implicitDefEqProofs only[XK h14,J6,ae,aE,aj,am,br,hN,hM,SS];generalize ((decide (0<=a)&&decide (a<=6))&&cw s)=q;cases q
  ·simp[gv,nH,wY,fy]
  ·cases (m== [])<;>simp[gv,nH]
 simp -implicitDefEqProofs only[XG h14];by_cases h12:op=12
 ·simp_all[nH]
 simp -implicitDefEqProofs only[XG h12,jn,K126_1,am,au,ai,XI,nH,wx];by_cases h4:op=4
 ·simp[h4]
 by_cases h5:op=5
 ·simp[h5]
 by_cases h6:op=6
 all_goals grind
theorem B8(g:Nat->Nat->Nat->Nat->Bool->AV)(i:Ins):cl g i.av=i.av:=by simp[Ins.av,Ins.cells,cl,fk]
theorem B7(g:Nat->Nat->Nat->Nat->Bool->AV)(c:Cod):cl g c.av=c.av:=by simp[Cod.av,nF,cl,fk,gE g Ins.av (B8 g)]
def t126(c:Cod)(i:Ins)(hb:i.names.length<=1000000):af pg 126 [c.av,i.av]=ao (.bool (bP c.code.length c.locals i)):=by
 have key:S126 (af pg) ak c.av i.av=ao (.bool (bP c.code.length c.locals i)):=by
  have hq:∀k:Int,(i.a== k)=decide (i.a=k):=fun _=>rfl;have hz:(i.names== [])=decide ((i.names.length:Int)=0):=by
   cases i.names<;>simp;omega
  simp -implicitDefEqProofs only[S126,fJ0,fJ1,fJ2,fJ3,fJ4,vV,FD,Ts,Sd,Se,ae,jn,kV,ai,XI];by_cases h0:i.op=0
  ·simp_all[nH,iS,bP]
  simp -implicitDefEqProofs only[XG h0];by_cases h1:i.op=1
  ·simp_all[nH,iS,bP]
  simp -implicitDefEqProofs only[XG h1];have k4:∀b,b=(decide (i.op=2)||decide (i.op=3))->K126_4 (af pg) ak (K126_0 (af pg) ak) [.ip (aa c.av),.int .i64 i.a,.str i.s,.str i.m,strs i.names,.bool true,.int .i64 i.op,.bool b]=ao (.bool (bP c.code.length c.locals i)):=by
   intro b hbb;by_cases h2:i.op=2\/i.op=3
   ·have hbt:b=true:=by rw[hbb];simpa using h2
    subst hbt;simp -implicitDefEqProofs only[K126_4,am,au,ai,XS,J6,fK2,VT,aB,ae,aE,aj,br,nH]
    grind [iS,bP]
   have hbf:b=false:=by rw[hbb];simpa using h2
   subst hbf;have k3:∀b,b=(decide (i.op=10)||decide (i.op=11))->K126_3 (af pg) ak (K126_0 (af pg) ak) [.ip (aa c.av),.int .i64 i.a,.str i.s,.str i.m,strs i.names,.bool true,.int .i64 i.op,.bool b]=ao (.bool (bP c.code.length c.locals i)):=by
    intro b hbb;by_cases h10:i.op=10\/i.op=11
    ·have hbt:b=true:=by rw[hbb];simpa using h10
     subst hbt;simp -implicitDefEqProofs only[K126_3,am,au,ai,XS,J6,fK3,HE,AG,aB,ae,aE,aj,br,nH]
     grind [iS,bP]
    have hbf:b=false:=by rw[hbb];simpa using h10
    subst hbf;have k2:=R5 i.a i.s i.m i.names i.op hb Z5;have e2:∀b,b=(decide (i.op=16)||decide (i.op=17))->K126_2 (af pg) ak (K126_0 (af pg) ak) [.int .i64 i.a,.str i.s,.str i.m,strs i.names,.bool true,.int .i64 i.op,.bool b]=ao (.bool (bP c.code.length c.locals i)):=by
     rintro _ rfl;rw[k2];unfold bP;rw[XG h0,XG h1,XG h2,XG h10];by_cases h16:i.op=16\/i.op=17
     ·simp[iS,h16,hz,hq]
     rw[XG h16,XG h16];by_cases h15:i.op=15
     ·simp[iS,h15,hz,hq]
     rw[XG h15,XG h15];by_cases h13:i.op=13
     ·simp[iS,h13,hz,hq]
     rw[XG h13,XG h13];by_cases h14:i.op=14
     ·simp[iS,h14,hz,hq]
     rw[XG h14,XG h14];by_cases h12:i.op=12
     ·simp[iS,h12,hz,hq]
     rw[XG h12,XG h12];cases wx i.op<;>simp[iS,hz,hq]
    simp -implicitDefEqProofs only[K126_3,am,au,ai,XH,XO,jn,kV,ae,XI];by_cases h16:i.op=16
    ·grind
    ·grind
   simp -implicitDefEqProofs only[K126_4,am,au,ai,XH,XO,jn,kV,ae,XI];by_cases h10:i.op=10
   ·grind
   ·grind
  by_cases h2:i.op=2
  ·grind
  ·grind
 grind [C126,B7,B8,ec]
def Tq(i:Ins):ct 5 i.av=ao i.av:=by rw[bc (rfl:bY 5 i.av=true)];rfl
def ot{T:TT}{t e:Nat}{ti ei:TI}(ht:T t=some ti)(hk:ti.kind= .slice e)(he:T e=some ei)(es:List AV)(hok:db ei.size es=true){a:Int}(h0:0<=a)(h1:a<=es.length):dc T t (.sl es) (some (.int .i64 a)) none none=some (.sl (es.drop a.toNat)):=by
 simp_all[dc,cy]
theorem Tt(c:Cod):ax T 91 (.ip (aa c.av))=some c.av:=rfl
def R6(i:Ins)(h:¬(i.op=0\/i.op=1\/i.op=2\/i.op=16))(h2:¬(i.op=4\/i.op=5\/i.op=6\/i.op=7\/i.op=8)):∀b,b=decide (i.op=9\/i.op=13\/i.op=15\/i.op=17)->
  K127_0 (af pg) ak [.ip (aa i.av),.int .i64 i.op,.bool b]=ao (.tup [.int .i64 (aG i).1,.int .i64 (aG i).2]):=by
 intro b hb;unfold aG;rw[XG h,XG h2];by_cases h9:i.op=9\/i.op=13\/i.op=15\/i.op=17
 ·simp_all[K127_0]
 rw[Yp h9]at hb;subst hb;rw[XG h9];simp -implicitDefEqProofs only[K127_0,am,au,ai,XH,XO,kV,ae,XI];by_cases h12:i.op=12
 ·simp_all[Se]
 simp -implicitDefEqProofs only[XG h12];by_cases h14:i.op=14
 ·simp -implicitDefEqProofs only[XK h14,fJ1,FD,ae]
 grind
def R7(i:Ins)(h:¬(i.op=0\/i.op=1\/i.op=2\/i.op=16)):∀b,b=decide (i.op=4\/i.op=5\/i.op=6\/i.op=7\/i.op=8)->
  K127_1 (af pg) ak [.ip (aa i.av),.int .i64 i.op,.bool b]=ao (.tup [.int .i64 (aG i).1,.int .i64 (aG i).2]):=by
 intro b hb;by_cases h2:i.op=4\/i.op=5\/i.op=6\/i.op=7\/i.op=8
 ·simp_all[aG,K127_1]
 rw[Yp h2]at hb;subst hb;have k:=R6 i h h2;simp -implicitDefEqProofs only[K127_1,am,au,ai,XH,XO,jn,kV,ae,XI]
 grind
def R8(i:Ins):∀b,b=decide (i.op=0\/i.op=1\/i.op=2\/i.op=16)->
  K127_2 (af pg) ak [.ip (aa i.av),.int .i64 i.op,.bool b]=ao (.tup [.int .i64 (aG i).1,.int .i64 (aG i).2]):=by
 intro b hb;by_cases h:i.op=0\/i.op=1\/i.op=2\/i.op=16
 ·simp_all[aG,K127_2]
 rw[Yp h]at hb;subst hb;have k:=R7 i h;simp -implicitDefEqProofs only[K127_2,am,au,ai,XH,XO,jn,kV,ae,XI]
 grind
def t127(i:Ins):af pg 127 [i.av]=ao (.tup [.int .i64 (aG i).1,.int .i64 (aG i).2]):=by
 have k:=R8 i;have key:S127 (af pg) ak i.av=ao (.tup [.int .i64 (aG i).1,.int .i64 (aG i).2]):=by
  simp -implicitDefEqProofs only[S127,fJ0,vV,ae,ai,jn,kV,XI];by_cases h0:i.op=0
  ·grind
  rw[XG h0];by_cases h1:i.op=1
  ·grind
  rw[XG h1];by_cases h2:i.op=2
  ·grind
  rw[XG h2];exact k _ Z7
 rw[C127,B8,key];exact dB fun g=>by simp[cl,fk]
def t128(c:Cod){k:Nat}(hk:k<c.code.length)(hb:c.code.length<=1000000):af pg 128 [c.av,.int .i64 (k:Int)]=ao (ints (gu c.code[k] k)):=by
 have hix:=RX hk;rw[XN c.code k hk]at hix;have hw:IntKind.i64.wrap ((k:Int)+1)=k+1:=aW Z5 Z5;have b1:∀a:Int,aM T 25 1 [(0,.int .i64 a)]=some (ints [a]):=fun _=>rfl;have b2:∀a b:Int,aM T 25 2 [(0,.int .i64 a),(1,.int .i64 b)]=some (ints [a,b]):=fun _ _=>rfl;have key:S128 (af pg) ak c.av (.int .i64 (k:Int))=ao (ints (gu c.code[k] k)):=by
  generalize c.code[k]=i at hix |-;unfold gu;simp -implicitDefEqProofs only[S128,fK3,HE,ae,hix,Gm,Tq,aj,fJ0,vV,kV,ai,XI];by_cases h18:i.op=18
  ·simp -implicitDefEqProofs only[XK h18];rfl
  simp -implicitDefEqProofs only[XG h18];by_cases h10:i.op=10
  ·simp -implicitDefEqProofs only[XK h10,fJ1,FD,ae,b1]
  simp -implicitDefEqProofs only[XG h10];by_cases h11:i.op=11
  ·simp -implicitDefEqProofs only[XK h11,fJ1,FD,ae,bm,hw,b2]
  ·simp_all
 rw[C128,B7,show cl aF (.int .i64 (k:Int))= .int .i64 (k:Int)from rfl,key];exact dB fun g=>Z8
def Hr(hl:List Int):Hp:=[hl.map (AV.int .i64)]
theorem uu{n k:Nat}(h:k<n):aA T 25 (.hs 0 0 n 1 false) (.int .i64 (k:Int))=some (.hp 0 (0+k*1)):=by
 have e:aA T 25 (.hs 0 0 n 1 false) (.int .i64 (k:Int))=if 0<=(k:Int)/\(k:Int)<(n:Int)then some (.hp 0 (0+(k:Int).toNat*1))else none:=rfl
 grind
def qY{hl:List Int}{k:Nat}(h:k<hl.length):bg T 3 (.hp 0 (0+k*1)) (Hr hl)= .ok (.int .i64 hl[k]!) (Hr hl):=by
 refine yw (T:=T) (t:=3) rfl rfl (cs:=hl.map (AV.int .i64)) rfl ?_
 grind
def setCells_one(cs:List AV)(k:Nat)(x:AV)(h:k<cs.length):setCells cs k [x]=cs.set k x:=by
 grind [setCells,List.set_eq_take_append_cons_drop]
def OK{hl:List Int}{k:Nat}(h:k<hl.length)(v:Int):bN T 3 (.hp 0 (0+k*1)) (.int .i64 v) (Hr hl)= .ok (.tup []) (Hr (hl.set k v)):=by
 have st:=s7 (T:=T) (t:=3) rfl (v:=.int .i64 v) (h:=Hr hl) (l:=0) (k:=0+k*1) (cs:=hl.map (AV.int .i64)) rfl rfl (show 0+k*1+1<=(hl.map (AV.int .i64)).length by simp;omega) Z6;rw[st];show R.ok (AV.tup []) [setCells (hl.map (AV.int .i64)) (0+k*1) [.int .i64 v]]=_;simp_all[setCells_one,Hr]
theorem JW(a b:Int):cB T .neq 3 (.int .i64 a) (.int .i64 b)=some (.bool (!decide (a=b))):=rfl
theorem Od(v:Int):ax T 3 (.ip (aa (.int .i64 v)))=some (.int .i64 v):=rfl
theorem Wr(v:Int):aM T 25 1 [(0,.int .i64 v)]=some (ints [v]):=rfl
theorem q7(v50:List AV->M AV){c:Cod}{n:Nat}(hn:c.code.length=n)(hnb:n<=1000000){k:Nat}(hk:k<n){nd gv:Int}(h0:0<=nd)(g0:0<=gv)(g1:gv<=1){nx:List Int}(hnx:nx.length<=2)(hx:∀v∈nx,0<=v/\v<=n):
  ∀(B A hl td:List Int),A++B=nx->HInv n hl->nd<=hl[k]! ->td.length+B.length<=10000000->
  (∃h',kj n k nd gv B hl td=none/\ak (L70_0 (af pg) ak v50) [.ip (aa c.av),.hs 0 0 n 1 false,ints td,.int .i64 (k:Int),.int .i64 nd,.int .i64 gv,ints nx,.int .i64 nx.length,.int .i64 A.length] (Hr hl)= .ok (.tup [.sl [],.bool false]) h')\/
  (∃hl' td',kj n k nd gv B hl td=some (hl',td')/\ak (L70_0 (af pg) ak v50) [.ip (aa c.av),.hs 0 0 n 1 false,ints td,.int .i64 (k:Int),.int .i64 nd,.int .i64 gv,ints nx,.int .i64 nx.length,.int .i64 A.length] (Hr hl)=v50 [.ip (aa c.av),.hs 0 0 n 1 false,ints td'] (Hr hl'))
 |[],A,hl,td,e,H,hd,hb=>by
  rw[X9]at e;subst e;refine .inr ⟨hl,td,rfl,?_⟩;have h1:¬((A.length:Int)<(A.length:Int)):=Z5
  rw[FL70_0];simp_all[L70_0]
 | v :: B,A,hl,td,e,H,hd,hb=>by
  have hlen:A.length+(B.length+1)=nx.length:=by rw[<- e];simp
  have h1:(A.length:Int)<(nx.length:Int):=Z5
  have hix:=Jj (l:=nx) (n:=(A.length:Int)) Z5 h1;have hxx:nx[A.length]! = v:=by rw[XN nx A.length Z5];simp[<- e]
  rw[XP,hxx]at hix;have hv:=hx v Z7;have hw:IntKind.i64.wrap ((A.length:Int)+1)=((A++[v]).length:Nat):=by rw[aW Z5 Z5];simp
  simp only[Yb]at hb;have hcl:((c.code.length:Nat):Int)=n:=by rw[hn]
  by_cases hvn:v=n
  ·refine .inl ⟨Hr hl,by simp[kj,hvn],?_⟩;rw[FL70_0];simp -implicitDefEqProofs only[L70_0,am,au,aB,ae,ai,XI,XK h1,hix,Od,fK3,HE,AG,hcl,kV,XK hvn];rfl
  obtain⟨p,rfl⟩:∃p:Nat,v=(p:Int):=⟨v.toNat,Z5⟩;have hp:p<n:=Z5
  have hpl:p<hl.length:=by rw[H.len];exact hp
  have hkl:k<hl.length:=by rw[H.len];exact hk
  have hkk:=H.hi k hk;have hs1:IntKind.i64.wrap (hl[k]! - nd)=hl[k]! - nd:=aW Z5 Z5;have hs2:IntKind.i64.wrap (hl[k]! - nd+gv)=hl[k]! - nd+gv:=aW Z5 Z5;by_cases hneg:hl[p]! < 0
  ·have hI:=H.set hp hneg (x:=hl[k]! - nd+gv) Z5 Z5;have hpk:¬p=k:=fun e=>Z7
   have ih:=q7 v50 hn hnb hk h0 g0 g1 hnx hx B (A++[(p:Int)]) (hl.set p (hl[k]! - nd+gv)) (td++[(p:Int)]) Z7 hI Z7 WD;have hap:dH T 25 (ints td) (ints [(p:Int)])=some (ints (td++[(p:Int)])):=Pk WD;have eS:kj n k nd gv ((p:Int):: B) hl td=kj n k nd gv B (hl.set p (hl[k]! - nd+gv)) (td++[(p:Int)]):=by
    simp only[kj,XP];rw[XG hvn,XK hneg]
   have eL:ak (L70_0 (af pg) ak v50) [.ip (aa c.av),.hs 0 0 n 1 false,ints td,.int .i64 (k:Int),.int .i64 nd,.int .i64 gv,ints nx,.int .i64 nx.length,.int .i64 A.length] (Hr hl)=ak (L70_0 (af pg) ak v50) [.ip (aa c.av),.hs 0 0 n 1 false,ints (td++[(p:Int)]),.int .i64 (k:Int),.int .i64 nd,.int .i64 gv,ints nx,.int .i64 nx.length,.int .i64 (A++[(p:Int)]).length] (Hr (hl.set p (hl[k]! - nd+gv))):=by
    rw[FL70_0];simp -implicitDefEqProofs only[L70_0,am,au,aB,ae,ai,XI,XK h1,hix,Od,fK3,HE,AG,hcl,kV,XG hvn,uu hp,uu hk];rw[aU (qY hpl)];simp -implicitDefEqProofs only[aB,ae,ai,XI,XK hneg];rw[aU (qY hkl)];simp -implicitDefEqProofs only[fI,bm,ae,hs1,hs2];rw[aU (OK hpl _)];simp -implicitDefEqProofs only[Wr,ae,hap,bm,hw]
   grind
  ·by_cases hq:hl[p]! = hl[k]! - nd+gv
   ·have ih:=q7 v50 hn hnb hk h0 g0 g1 hnx hx B (A++[(p:Int)]) hl td Z7 H hd Z5;have eS:kj n k nd gv ((p:Int):: B) hl td=kj n k nd gv B hl td:=by
     simp only[kj,XP];rw[XG hvn,XG hneg,XG (by simpa using hq)]
    have eL:ak (L70_0 (af pg) ak v50) [.ip (aa c.av),.hs 0 0 n 1 false,ints td,.int .i64 (k:Int),.int .i64 nd,.int .i64 gv,ints nx,.int .i64 nx.length,.int .i64 A.length] (Hr hl)=ak (L70_0 (af pg) ak v50) [.ip (aa c.av),.hs 0 0 n 1 false,ints td,.int .i64 (k:Int),.int .i64 nd,.int .i64 gv,ints nx,.int .i64 nx.length,.int .i64 (A++[(p:Int)]).length] (Hr hl):=by
     rw[FL70_0];simp -implicitDefEqProofs only[L70_0,am,au,aB,ae,ai,XI,XK h1,hix,Od,fK3,HE,AG,hcl,kV,XG hvn,uu hp,uu hk];rw[aU (qY hpl)];simp -implicitDefEqProofs only[aB,ae,ai,XI,XG hneg];rw[aU (qY hpl),aU (qY hkl)];simp -implicitDefEqProofs only[fI,bm,ae,hs1,hs2,JW,Yd hq,XZ,XH,XO,ai,hw]
    grind
   ·refine .inl ⟨Hr hl,?_,?_⟩
    ·simp_all[kj,XG]
    ·rw[FL70_0];simp -implicitDefEqProofs only[L70_0,am,au,aB,ae,ai,XI,XK h1,hix,Od,fK3,HE,AG,hcl,kV,XG hvn,uu hp,uu hk];rw[aU (qY hpl)];simp -implicitDefEqProofs only[aB,ae,ai,XI,XG hneg];rw[aU (qY hpl),aU (qY hkl)];simp -implicitDefEqProofs only[fI,bm,ae,hs1,hs2,JW,Yp hq,Yi,XS,ai];rfl
def wz{α β γ:Type}(m:M α)(f:α->M β)(g:β->M γ):ar (ar m f) g=ar m fun a=>ar (f a) g:=by
 funext h;simp only[ar]
 grind
def Ko{n:Nat}{locals:Int}{i:Ins}(h:bP n locals i=true){k:Nat}(hk:k<n):∀v∈gu i k,0<=v/\v<=n:=by
 intro v hv;unfold gu at hv;split at hv
 ·cases hv
 split at hv
 ·grind [bP]
 split at hv
 ·rename_i h11;simp[bP,h11]at h
  grind
 grind
theorem AO{c:Cod}{n:Nat}(hn:c.code.length=n)(hnb:n<=1000000)(hf:∀i∈c.code,bP n c.locals i=true):∀(f:Nat)(hl td:List Int),HInv n hl->td.length+2*q9 hl<f->f<=4000000->(∀v∈td,0<=v/\v<n)->
  (∃h',rp c.code f hl td=none/\ak (L70_1 (af pg) ak) [.ip (aa c.av),.hs 0 0 n 1 false,ints td] (Hr hl)= .ok (.tup [.sl [],.bool false]) h')\/
  (∃hl',rp c.code f hl td=some hl'/\hl'.length=n/\ak (L70_1 (af pg) ak) [.ip (aa c.av),.hs 0 0 n 1 false,ints td] (Hr hl)= .ok (.tup [.hs 0 0 n 1 false,.bool true]) (Hr hl'))
 |0,hl,td,H,hm,_,ht=>Z5
 |f+1,hl,[],H,hm,_,ht=>by
  refine .inr ⟨hl,rfl,H.len,?_⟩;have h1:¬((0:Int)<(([]:List Int).length:Int)):=Z8
  rw[FL70_1];simp -implicitDefEqProofs only[L70_1,am,au,nh,dO,ae,ai,XI,XG h1];rfl
 | f+1,hl,v:: td,H,hm,hfb,ht=>by
  have hv:=ht v Z8;obtain⟨k,rfl⟩:∃k:Nat,v=(k:Int):=⟨v.toNat,Z5⟩;have hk:k<n:=Z5
  have hkc:k<c.code.length:=Z5
  have hkl:k<hl.length:=by rw[H.len];exact hk
  have hlen:(0:Int)<(((k:Int):: td).length:Int):=by simp only[Yb];omega
  have hi0:aA T 25 (ints ((k:Int):: td)) (.int .i64 0)=some (.ip (aa (.int .i64 (k:Int)))):=Jj (l:=(k:Int):: td) (n:=0) Z5 hlen;have hcut:GW T 25 (ints ((k:Int):: td)) (some (.int .i64 1))=some (ints td):=by
   have:=ot (T:=T) (t:=25) (e:=3) rfl rfl rfl (((k:Int):: td).map (AV.int .i64)) (rk _) (a:=1) Z5 Z7
   exact this
  have hix:=RX hkc;rw[XN c.code k hkc]at hix;have hi:=hf c.code[k] (XU hkc);obtain⟨b1,b2,b3,b4⟩:=gt hi;have hB:=t128 c hkc Z5;have hN:=t127 c.code[k];have hck:c.code[k]! = c.code[k]:=XN c.code k hkc;simp only[Yb]at hm;have hnl:(gu c.code[k] k).length<=2:=by
   unfold gu
   repeat' split
   all_goals simp
  have hnx:=Ko hi hk;have z1:∀m:M (List AV),aO (.bool true) false 1 m=ao [.tup []]:=fun _=>rfl;have z2:∀m:M (List AV),aO (.tup []) true 1 m=ao [.tup []]:=fun _=>rfl;have z3:∀m:M (List AV),aO (.bool false) true 1 m=ao [.tup []]:=fun _=>rfl;have z4:∀m:M (List AV),aO (.bool false) false 1 m=m:=fun _=>rfl;have z5:∀m:M (List AV),aO (.bool true) true 1 m=m:=fun _=>rfl;by_cases hlt:hl[k]! < (aG c.code[k]).1
  ·refine .inl ⟨Hr hl,?_,?_⟩
   ·simp_all[rp]
   ·rw[FL70_1];simp -implicitDefEqProofs only[L70_1,am,au,nh,dO,ae,ai,XI,XK hlen,hi0,Od,hcut,fK3,HE,hix,Gm,hN,aj,eN,List.getElem?_cons_zero,Yv,uu hk];rw[aU (qY hkl)];simp -implicitDefEqProofs only[aB,ae,Yd hlt,z1,z2,aj,am,bC,ai,XS];rfl
  by_cases h18:c.code[k].op=18/\hl[k]! ≠1
  ·refine .inl ⟨Hr hl,?_,?_⟩
   ·simp_all[rp]
   ·rw[FL70_1];simp -implicitDefEqProofs only[L70_1,am,au,nh,dO,ae,ai,XI,XK hlen,hi0,Od,hcut,fK3,HE,hix,Gm,hN,aj,eN,List.getElem?_cons_zero,Yv,uu hk];rw[aU (qY hkl)];simp -implicitDefEqProofs only[aB,ae,Yp hlt,z4,fJ0,vV,kV,Yd h18.1,aj,am,z5,wz];rw[aU (qY hkl)];simp -implicitDefEqProofs only[JW,Yp h18.2,Yi,ae,aj,am,bC,bD,ai,XS];rfl
  have hd:(aG c.code[k]).1<=hl[k]!:=Z5
  have eC:ak (L70_1 (af pg) ak) [.ip (aa c.av),.hs 0 0 n 1 false,ints ((k:Int):: td)] (Hr hl)=ak (L70_0 (af pg) ak (ak (L70_1 (af pg) ak))) [.ip (aa c.av),.hs 0 0 n 1 false,ints td,.int .i64 (k:Int),.int .i64 (aG c.code[k]).1,.int .i64 (aG c.code[k]).2,ints (gu c.code[k] k),.int .i64 (gu c.code[k] k).length,.int .i64 0] (Hr hl):=by
   rw[FL70_1];simp -implicitDefEqProofs only[L70_1,am,au,nh,dO,ae,ai,XI,XK hlen,hi0,Od,hcut,fK3,HE,hix,Gm,hN,aj,eN,List.getElem?_cons_zero,Yv,uu hk];rw[aU (qY hkl)];by_cases h8:c.code[k].op=18
   ·have h1:hl[k]! = 1:=Classical.byContradiction fun e=>h18 ⟨h8,e⟩;simp -implicitDefEqProofs only[aB,ae,Yp hlt,z4,fJ0,vV,kV,Yd h8,aj,am,z5,wz];rw[aU (qY hkl)];simp -implicitDefEqProofs only[JW,Yd h1,XZ,ae,aj,am,bC,bD,ai,XH,XO,Tt,hB,nh]
   ·simp -implicitDefEqProofs only[aB,ae,Yp hlt,z4,fJ0,vV,kV,Yp h8,aj,am,z3,bC,bD,ai,XH,XO,Tt,hB,nh]
  have eR:rp c.code (f+1) hl ((k:Int):: td)=match kj n k (aG c.code[k]).1 (aG c.code[k]).2 (gu c.code[k] k) hl td with|none=>none|some (hl',td')=>rp c.code f hl' td':=by
   simp only[rp,XP,hck,hn];rw[XG (fun e=>e.elim hlt h18)];cases kj n k (aG c.code[k]).1 (aG c.code[k]).2 (gu c.code[k] k) hl td<;>rfl
  rw[eC,eR];have hst:=q7 (ak (L70_1 (af pg) ak)) hn hnb hk b1 b3 b4 hnl hnx (gu c.code[k] k) [] hl td rfl H hd Z5;rcases hst with⟨h',s1,s2⟩|⟨hl',td',s1,s2⟩
  ·grind
  ·have hin:=qw hk b1 b3 b4 _ hl td H hd hnx (fun x h=>ht x (by simp[h])) s1;have ih:=AO hn hnb hf f hl' td' hin.1 Z5 Z5 hin.2.2
   grind
def KH(a b:Nat):((List.replicate a (-1:Int))++List.replicate (b+1) 0).set a (-1)=List.replicate (a+1) (-1)++List.replicate b 0:=by
 rw[List.set_append_right _ _ Z8,ZB,Zq,List.replicate_succ,List.set_cons_zero,List.replicate_succ',Yz];rfl
theorem Eg{c:Cod}{n:Nat}(hn:c.code.length=n)(hnb:n<=1000000)(hnm:∀i∈c.code,i.names.length<=1000000):∀(B A:List Ins),A++B=c.code->
  (B.all (bP n c.locals)=false/\∃h',ak (L70_2 (af pg) ak) [.ip (aa c.av),.hs 0 0 n 1 false,nF c.code,.int .i64 n,.int .i64 A.length] (Hr (List.replicate A.length (-1)++List.replicate B.length 0))= .ok (.tup [.sl [],.bool false]) h')\/
  (B.all (bP n c.locals)=true/\ak (L70_2 (af pg) ak) [.ip (aa c.av),.hs 0 0 n 1 false,nF c.code,.int .i64 n,.int .i64 A.length] (Hr (List.replicate A.length (-1)++List.replicate B.length 0))=ak (L70_2 (af pg) ak) [.ip (aa c.av),.hs 0 0 n 1 false,nF c.code,.int .i64 n,.int .i64 n] (Hr (List.replicate n (-1))))
 |[],A,e=>by
  grind
 | i:: B,A,e=>by
  have hlen:A.length+(B.length+1)=n:=by rw[<- hn,<- e];simp
  have h1:(A.length:Int)<(n:Int):=Z5
  have hix:=RX (l:=c.code) (n:=A.length) Z5;rw[XN c.code A.length Z5,show c.code[A.length]'(Z5)=i by simp[<- e]]at hix;have hw:IntKind.i64.wrap ((A.length:Int)+1)=((A++[i]).length:Nat):=by rw[aW Z5 Z5];simp
  have hF:=t126 c i (hnm i Z7);rw[hn]at hF;have hst:=OK (hl:=List.replicate A.length (-1)++List.replicate (B.length+1) 0) (k:=A.length) Z8 (-1);rw[KH]at hst;cases hf:bP n c.locals i with
  |false=>
   refine .inl ⟨by simp[hf],Hr (List.replicate A.length (-1)++List.replicate (i:: B).length 0),?_⟩;rw[FL70_2];simp -implicitDefEqProofs only[L70_2,am,au,aB,ae,ai,XI,XK h1,hix,Gm,Tq,aj,Tt,hF,hf,FN,Yi,XS];rfl
  | true=>
   have ih:=Eg hn hnb hnm B (A++[i]) Z7;have eA:(A++[i]).length=A.length+1:=Z8
   rw[eA]at ih hw;have eC:ak (L70_2 (af pg) ak) [.ip (aa c.av),.hs 0 0 n 1 false,nF c.code,.int .i64 n,.int .i64 A.length] (Hr (List.replicate A.length (-1)++List.replicate (i:: B).length 0))=ak (L70_2 (af pg) ak) [.ip (aa c.av),.hs 0 0 n 1 false,nF c.code,.int .i64 n,.int .i64 ((A.length+1:Nat):Int)] (Hr (List.replicate (A.length+1) (-1)++List.replicate B.length 0)):=by
    rw[FL70_2,Yb];simp -implicitDefEqProofs only[L70_2,am,au,aB,ae,ai,XI,XK h1,hix,Gm,Tq,aj,Tt,hF,hf,FN,XZ,XH,XO,uu (n:=n) (k:=A.length) Z5];rw[aU hst];simp -implicitDefEqProofs only[bm,ae,hw]
   grind
def Hm(hl:List Int){n:Nat}(hn:hl.length=n):frz 6 (Hr hl) (.tup [.hs 0 0 n 1 false,.bool true])= .tup [ints hl,.bool true]:=by
 have hc:(hl.map (AV.int .i64)).all ay=true:=by
  rw[XY];intro x hx;obtain⟨v,_,rfl⟩:=Y5.1 hx;rfl
 have h1:(decide (0+n*1<=(hl.map (AV.int .i64)).length)&&decide (0<1)&&(false||(Nat.beq 1 1&&(hl.map (AV.int .i64)).all ay)))=true:=by
  rw[hc];simp[hn]
 unfold frz;simp only[cl,fk,Hr,List.getElem?_cons_zero,h1,XL,XT];congr 2;unfold ints;congr 1;apply List.ext_getElem
 ·simp[hn]
 ·intro i h2 h3;have hi:i<hl.length:=by simpa using h3
  have hg:ab (hl.map (AV.int .i64)) (0+i*1)= .int .i64 hl[i]:=by
   rw[XX,Nat.mul_one];unfold ab;simp[hi]
  simp only[ZX,List.getElem_range,hg];rfl
def OX:Option (List Int)->AV
 |none=>.tup [.sl [],.bool false]
 |some hl=>.tup [ints hl,.bool true]
def FL(n:Nat)(h:0<n):HInv n (0:: List.replicate (n-1) (-1)):=by
 have hneg:q9 (0:: List.replicate (n-1) (-1))=n-1:=by
  unfold q9;rw[List.countP_cons_of_neg Z8,List.countP_replicate];simp
 have hl:(0:: List.replicate (n-1) (-1:Int)).length=n:=by simp;omega
 have hv:∀j,j<n->(0:: List.replicate (n-1) (-1:Int))[j]! = 0\/(0:: List.replicate (n-1) (-1:Int))[j]! = -1:=by
  intro j hj;rw[XN _ j Z7];cases j with
  |zero=>exact .inl rfl
  |succ j=>grind
 refine⟨hl,fun j hj=>?_,fun j hj=>?_⟩
 all_goals grind
def t70(c:Cod)(hnb:c.code.length<=1000000)(hnm:∀i∈c.code,i.names.length<=1000000):af pg 70 [c.av]=ao (OX (dq c)):=by
 have hN:=t119 c.func;have key:∃h',∃v,S70 (af pg) ak c.av []= .ok v h'/\frz 6 h' v=OX (dq c):=by
  have hh:pm c= !((((!cw c.func||decide (c.params<0))||decide (6<c.params))||decide (c.locals<c.params))||decide ((c.code.length:Int)=0)):=by
   have e5:decide (c.code≠[])= !decide ((c.code.length:Int)=0):=by cases c.code<;>simp;omega
   have e2:decide (0<=c.params)= !decide (c.params<0):=by rw[<- ZI];exact YF.2 Z5
   have e3:decide (c.params<=6)= !decide (6<c.params):=by rw[<- ZI];exact YF.2 Z5
   have e4:decide (c.params<=c.locals)= !decide (c.locals<c.params):=by rw[<- ZI];exact YF.2 Z5
   unfold pm;rw[e2,e3,e4,e5];simp[Bool.not_or]
  cases hd:pm c with
  | false=>
   rw[hd]at hh;have hb:((((!cw c.func||decide (c.params<0))||decide (6<c.params))||decide (c.locals<c.params))||decide ((c.code.length:Int)=0))=true:=by
    cases hx:((((!cw c.func||decide (c.params<0))||decide (6<c.params))||decide (c.locals<c.params))||decide ((c.code.length:Int)=0))with
    |true=>rfl
    |false=>grind
   refine⟨[],.tup [.sl [],.bool false],?_,?_⟩
   ·simp -implicitDefEqProofs only[S70,fK0,VS,fK1,WG,fK2,VT,fK3,HE,AG,ae,hN,aj,FN,aB,dO,kV,aE,am,eD,hb,ai,XS];rfl
   ·unfold dq;rw[hd,XG Z8];rfl
  | true=>
   rw[hd]at hh;have hb:((((!cw c.func||decide (c.params<0))||decide (6<c.params))||decide (c.locals<c.params))||decide ((c.code.length:Int)=0))=false:=by
    cases hx:((((!cw c.func||decide (c.params<0))||decide (6<c.params))||decide (c.locals<c.params))||decide ((c.code.length:Int)=0))with
    |false=>rfl
    |true=>grind
   have hpos:0<c.code.length:=by
    have:=(Y8.1 hb).2
    rw[Yc]at this;omega
   have hmk:p9 T 25 (.int .i64 c.code.length) (.int .i64 c.code.length) []= .ok (.hs 0 0 c.code.length 1 false) (Hr (List.replicate c.code.length 0)):=by
    have e:ic T 25 (.int .i64 c.code.length) (.int .i64 c.code.length)=some (.sl (List.replicate c.code.length (.int .i64 0))):=by
     show (if _/\_/\_/\_/\_ then _ else none)=_;rw[XK ⟨Z5,Z5,Z5,Z7,rfl⟩];rfl
    have hz:db 1 (List.replicate c.code.length (AV.int .i64 0))=true:=by
     have:=rk (List.replicate c.code.length (0:Int))
     rw[List.map_replicate]at this;exact this
    unfold p9;rw[e];show (bif db 1 (List.replicate c.code.length (AV.int .i64 0))&&decide (0<1)&&decide (0<(List.replicate c.code.length (AV.int .i64 0)).length)then R.ok (AV.hs 0 0 (List.replicate c.code.length (AV.int .i64 0)).length 1 false) ([]++[(List.replicate c.code.length (AV.int .i64 0)).flatMap aa])else .fail)=_;rw[hz,ZB,Yd hpos];have hfm:(List.replicate c.code.length (AV.int .i64 0)).flatMap aa=(List.replicate c.code.length (0:Int)).map (AV.int .i64):=by
     generalize c.code.length=n
     induction n with
     |zero=>rfl
     |succ n ih=>simp_all[List.replicate_succ]
    rw[hfm];rfl
   have hS:S70 (af pg) ak c.av []=ak (L70_2 (af pg) ak) [.ip (aa c.av),.hs 0 0 c.code.length 1 false,nF c.code,.int .i64 c.code.length,.int .i64 0] (Hr (List.replicate c.code.length 0)):=by
    simp -implicitDefEqProofs only[S70,fK0,VS,fK1,WG,fK2,VT,fK3,HE,AG,ae,hN,aj,FN,aB,dO,kV,aE,am,eD,hb,ai,XH,XO];rw[aU hmk]
   rw[hS];rcases Eg (c:=c) rfl hnb hnm c.code [] rfl with⟨a1,h',a2⟩|⟨a1,a2⟩
   ·refine⟨h',.tup [.sl [],.bool false],a2,?_⟩;unfold dq;rw[XG (fun e=>Z7)];rfl
   ·have a2':ak (L70_2 (af pg) ak) [.ip (aa c.av),.hs 0 0 c.code.length 1 false,nF c.code,.int .i64 c.code.length,.int .i64 0] (Hr (List.replicate c.code.length 0))=_:=a2;have h1:¬((c.code.length:Int)<(c.code.length:Int)):=Z5
    have hs0:aA T 25 (.hs 0 0 c.code.length 1 false) (.int .i64 0)=some (.hp 0 (0+0*1)):=uu (k:=0) hpos;have hst:=OK (hl:=List.replicate c.code.length (-1)) (k:=0) Z7 0;have hset:(List.replicate c.code.length (-1:Int)).set 0 0=0:: List.replicate (c.code.length-1) (-1):=by
     obtain⟨m,hm⟩:∃m,c.code.length=m+1:=⟨c.code.length-1,Z5⟩;rw[hm];rfl
    rw[hset]at hst;have hI:=FL c.code.length hpos;have hng:q9 (0:: List.replicate (c.code.length-1) (-1))<=c.code.length:=by have:=hI.hi 0 hpos;rw[XN _ 0 Z8]at this;simp at this;omega
    have hall:c.code.all (bP c.code.length c.locals)=true:=a1;have hH:dq c=rp c.code (2*c.code.length+2) (0:: List.replicate (c.code.length-1) (-1)) [0]:=by
     unfold dq;rw[XK ⟨hd,hall⟩]
    have eL:ak (L70_2 (af pg) ak) [.ip (aa c.av),.hs 0 0 c.code.length 1 false,nF c.code,.int .i64 c.code.length,.int .i64 c.code.length] (Hr (List.replicate c.code.length (-1)))=ak (L70_1 (af pg) ak) [.ip (aa c.av),.hs 0 0 c.code.length 1 false,ints [0]] (Hr (0:: List.replicate (c.code.length-1) (-1))):=by
     rw[FL70_2];simp -implicitDefEqProofs only[L70_2,am,au,aB,ae,ai,XI,XG h1,hs0];rw[aU hst];simp -implicitDefEqProofs only[Wr,ae]
    rw[a2',eL,hH];rcases AO (c:=c) rfl hnb (fun i hi=>XY.1 hall i hi) (2*c.code.length+2) _ [0] hI Z7 Z5 (fun v hv=>Z7)with⟨h',b1,b2⟩|⟨hl',b1,b2,b3⟩
    ·exact⟨h',_,b2,by rw[b1];rfl⟩
    ·exact⟨_,_,b3,by rw[b1];exact Hm hl' b2⟩
 obtain⟨h',v,k1,k2⟩:=key;rw[C70,B7];funext h;unfold bj;rw[k1];simp only[k2];rfl
theorem V8(n' n:Nat):bu T 28 (.hs n' 0 n 4 true)=some (.int .i64 n):=rfl
def dm.len{tag:Nat->Nat}{h:Hp}{k:Nat}{l:List Val}{v:AV}(H:dm tag k h l v):bu T 28 v=some (.int .i64 l.length):=
 gb.len (T:=T) (t:=28) (e:=30) rfl rfl rfl (fun n'=>V8 n' _) rfl rfl H
theorem t93{tag:Nat->Nat}{h:Hp}{q:Nat}{A B:List AV}{i:Nat}{f:Frm}{lv sv:AV}(H:FrAt tag h q A B i f lv sv)(v:Val)(hb:f.stack.length<1000000000):
  ∃h' tag' sv',af pg 93 [.hp q A.length,v.av] h= .ok (.tup []) h'/\FrAt tag' h' q A B i { f with stack:=f.stack++[v] } lv sv'/\Kp tag tag' (fun k=>k=7\/k=12+3*i) h h':=by
 have hz:bY 4 (.agg [.int .i64 0,.int .i64 0,.sl [],.sl []])=true:=rfl;obtain⟨cs,tag1,rfl,hcl,happ,K1,ht1,HS⟩:=gb.push (T:=T) (t:=28) (e:=30) rfl rfl rfl rfl Z6 rfl Z6 H.st hz Z7;generalize hh1:oL sv h++[aw f.stack++aa (.agg [.int .i64 0,.int .i64 0,.sl [],.sl []])]=h1 at happ K1 HS;have hlen1:h1.length=h.length+1:=by
  rw[<- hh1];have:(oL sv h).length=h.length:=by
   unfold oL;split<;>simp
  simp[this]
 -- the frames' row stays
 obtain⟨kq1,kq2⟩:=K1 q _ H.row (by rw[H.tq];omega);have hrow1:h1[h.length]? = some (aw f.stack++aa (.agg [.int .i64 0,.int .i64 0,.sl [],.sl []])):=by
  rw[<- hh1];have:(oL sv h).length=h.length:=by
   unfold oL;split<;>simp
  rw[<- this];simp
 have hlt:q<h.length:=(XQ.1 H.row).1
 -- the value is written to the last row
 have hset:setCells (aw f.stack++aa (.agg [.int .i64 0,.int .i64 0,.sl [],.sl []])) (f.stack.length*4) (aa v.av)=aw (f.stack++[v]):=by
  have:=kw (l:=f.stack++[⟨0,0,[],[]⟩]) (k:=f.stack.length) Z8 v
  rw[kv]at this;rw[show aa (.agg [.int .i64 0,.int .i64 0,.sl [],.sl []])=aw [⟨0,0,[],[]⟩]from rfl,this];simp
 have e2:me T true 30 (.hp h.length (0+f.stack.length*4)) v.av h1= .ok (.tup []) (h1.set h.length (aw (f.stack++[v]))):=by
  unfold me;simp only[XX];rw[hlen1,Nat.beq_refl];simp only[Yf,XL];rw[bU (T:=T) (t:=30) rfl hrow1 Z9 Z9 Z6,hset]
 generalize hh2:h1.set h.length (aw (f.stack++[v]))=h2 at e2;have hq2:h2[q]? = some (A++iR f lv sv++B):=by rw[<- hh2,List.getElem?_set_ne Z5];exact kq1
 have e3:me T false 28 (.hp q (A.length+4)) (.hs h.length 0 (f.stack.length+1) 4 true) h2= .ok (.tup []) (h2.set q (A++iR { f with stack:=f.stack++[v] } lv (.hs h.length 0 (f.stack.length+1) 4 true)++B)):=by
  unfold me;have:Nat.beq (q+1) h2.length=false:=by
   rw[<- hh2,Y6,hlen1];cases hb:Nat.beq (q+1) (h.length+1)with
   |false=>rfl
   |true=>simp_all
  show (bif Nat.beq (q+1) h2.length== false then bN T 28 (.hp q (A.length+4)) _ h2 else .fail)=_;rw[this];simp only[Yf,XL];rw[bU (T:=T) (t:=28) rfl hq2 rfl (by show _+1<=_;simp[iR];omega) Z6];rw[set_mid (D:=iR { f with stack:=f.stack++[v] } lv (.hs h.length 0 (f.stack.length+1) 4 true)) (by simp[iR]) rfl]
 refine⟨h2.set q (A++iR { f with stack:=f.stack++[v] } lv (.hs h.length 0 (f.stack.length+1) 4 true)++B),tag1,.hs h.length 0 (f.stack.length+1) 4 true,?_,⟨?_,kq2.trans H.tq,?_,?_⟩,?_⟩
 ·rw[C93];simp only[S93,aJ,ae,FH44_4];rw[ap (H.get (T:=T) (t:=28) rfl rfl (k:=4) rfl)];have b1:aM T 28 1 [(0,.agg [.int .i64 0,.int .i64 0,.sl [],.sl []])]=some (.sl [.agg [.int .i64 0,.int .i64 0,.sl [],.sl []]]):=rfl;have l1:ax T 30 (.ip (aa v.av))=some v.av:=by cases v;rfl
  simp only[l1,ae,dm.len H.st,b1];rw[ap happ];have ix:aA T 28 (.hs h.length 0 (f.stack.length+1) 4 true) (.int .i64 f.stack.length)=some (.hp h.length (0+f.stack.length*4)):=by
   show (if(0:Int)<=(f.stack.length:Int)/\(f.stack.length:Int)<((f.stack.length+1:Nat):Int)then _ else _)=_;rw[XK Z5];rfl
  simp only[ix,ae];rw[ap e2,ap e3];rfl
 ·grind
 ·refine dm.keep (Xr (kq2.trans H.tq) _) Z5 ?_;refine dm.keep (tag:=tag1) (h:=h1) ?_ (k:=11+3*i) (ks:=fun k=>k=12+3*i) Z5 (H.lo.keep K1 Z5);rw[<- hh2];exact Xr ht1 _
 ·refine dm.keep (Xr (kq2.trans H.tq) _) Z5 ?_;refine .inr ⟨h.length,aw (f.stack++[v]),[],Z8,ht1,?_,?_,?_,?_,rfl⟩
  ·grind
  ·intro hh
   have:=Ym List.length hh
   simp[aZ]at this
  all_goals grind [aZ,iA]
 ·have K2:Kp tag1 tag1 (fun k=>k=12+3*i) h1 h2:=by rw[<- hh2];exact Xr ht1 _
  exact ((K1.trans K2).trans (Xr (kq2.trans H.tq) _)).mono fun k hk=>Z7
def xN(x:AV)(h:Hp):af pg 32 [x] h=cz T 28 (af pg) [x] h:=by
 have e:af pg 32 [x]=cz T 28 (af pg) [x]:=d7 hJ rfl _;rw[e]
theorem EE{sv:AV}{tag:Nat->Nat}{k:Nat}{h:Hp}{l:List Val}(H:dm tag k h l sv){n:Nat}(hn:n<=l.length):
  ∃w,dc T 28 sv (some (.int .i64 ((l.length:Int)-n))) none none=some w/\(n=0->w= .hn\/w= .he\/w= .sl [])/\
   (0<n->∃r rest,w= .hs r ((l.length-n)*4) n 4 true/\h[r]? = some (aw l++rest)/\(aw l++rest).all ay=true):=by
 rcases H with⟨h0,hv,_⟩|⟨r,cs,rest,rfl,hr,hcs,hne,hl,hok,rfl⟩
 ·have hn0:n=0:=Z5
  subst hn0;have hl:(l.length:Int)-(0:Nat)=0:=Z5
  rw[hl];rcases hv with rfl|rfl
  ·exact⟨.hn,rfl,fun _=>.inl rfl,fun h=>Z5⟩
  ·exact⟨.he,rfl,fun _=>.inr (.inl rfl),fun h=>Z5⟩
 ·have hs:dc T 28 (.hs r 0 l.length 4 true) (some (.int .i64 ((l.length:Int)-n))) none none=if l.length-n<l.length then some (AV.hs r (0+(l.length-n)*4) (l.length-(l.length-n)) 4 true)else some (AV.sl []):=by
   unfold dc;have hT:T 28=some ((T 28).get (by rfl)):=rfl;show (match cy none l.length l.length with|none=>none|some h=>match cy (some (.int .i64 ((l.length:Int)-n))) 0 h with|none=>none|some l'=>if 4=4 then(if l'<h then some (AV.hs r (0+l'*4) (h-l') 4 true)else some (AV.sl []))else none)=_;simp only[cy];rw[XK Z5,show ((l.length:Int)-n).toNat=l.length-n by omega];simp
  grind
def qG(a b:Nat)(h:b<=a)(hb:a<1000000000000):cB T .sub 3 (.int .i64 a) (.int .i64 b)=some (.int .i64 ((a:Int)-b)):=by
 grind [fI,aW]
def t96{tag:Nat->Nat}{h:Hp}{q:Nat}{A B:List AV}{i:Nat}{f:Frm}{lv sv:AV}(H:FrAt tag h q A B i f lv sv)(n:Nat)(hn:n<=f.stack.length)(hb:f.stack.length<1000000000):
  ∃w,af pg 96 [.hp q A.length,.int .i64 n] h= .ok w h/\(n=0->w= .hn\/w= .he\/w= .sl [])/\
   (0<n->∃r rest,w= .hs r ((f.stack.length-n)*4) n 4 true/\h[r]? = some (aw f.stack++rest)/\(aw f.stack++rest).all ay=true):=by
 obtain⟨w,h1,h2,h3⟩:=EE H.st hn;refine⟨w,?_,h2,h3⟩;rw[C96];simp only[S96,aJ,ae,FH44_4];have g:=H.get (T:=T) (t:=28) rfl rfl (k:=4) rfl;rw[ap g];rw[ap g];simp only[dm.len H.st,ae,qG _ _ hn Z5,h1];rfl
def jl{h:Hp}{r:Nat}{l:List Val}{rest:List AV}(h0:h[r]? = some (aw l++rest)){n j:Nat}(hn:n<=l.length)(hj:j<n):
  aA T 28 (.hs r ((l.length-n)*4) n 4 true) (.int .i64 (j:Int))=some (.hp r ((l.length-n+j)*4))/\bg T 30 (.hp r ((l.length-n+j)*4)) h= .ok (l[l.length-n+j]!).av h:=by
 constructor
 ·show (if(0:Int)<=(j:Int)/\(j:Int)<((n:Nat):Int)then some (AV.hp r ((l.length-n)*4+(j:Int).toNat*4))else none)=_
  grind
 ·rw[nI (T:=T) (t:=30) rfl rfl rfl h0 Z5,XN l _ Z5]
def t95{tag:Nat->Nat}{h:Hp}{q:Nat}{A B:List AV}{i:Nat}{f:Frm}{lv sv:AV}(H:FrAt tag h q A B i f lv sv)(n:Nat)(hn:n<=f.stack.length)(hb:f.stack.length<1000000000)(kt:Nat)(hkt:kt≠7):
  ∃h' tag' sv' rv,af pg 95 [.hp q A.length,.int .i64 n] h= .ok rv h'/\FrAt tag' h' q A B i { f with stack:=f.stack.take (f.stack.length-n) } lv sv'/\dm tag' kt h' (f.stack.drop (f.stack.length-n)) rv/\Kp tag tag' (fun k=>k=7) h h'/\
   ∃ext,h'=(h++ext).set q (A++iR { f with stack:=f.stack.take (f.stack.length-n) } lv sv'++B):=by
 obtain⟨w,h1,h2,h3⟩:=EE H.st hn;have hdl:(f.stack.drop (f.stack.length-n)).length=n:=by simp;omega
 -- the copy
 obtain⟨h4,tag4,rv,e1,K1,V1,hpre⟩:∃h4 tag4 rv,cz T 28 (af pg) [w] h= .ok rv h4/\Kp tag tag4 (fun _=>False) h h4/\dm tag4 kt h4 (f.stack.drop (f.stack.length-n)) rv/\∃ext,h4=h++ext:=by
  cases n with
  |zero=>
   have hnil:f.stack.drop (f.stack.length-0)=[]:=Z8
   refine⟨h,tag,.he,?_,fun r cs hr _=>⟨hr,rfl⟩,.inl ⟨by rw[hnil];rfl,.inr rfl,by rw[hnil];rfl⟩,[],Z8⟩;rcases h2 rfl with rfl|rfl|rfl<;>rfl
  |succ n=>
   obtain⟨r,rest,rfl,g1,g2⟩:=h3 Z5
   have:=oZ (T:=T) (t:=28) (e:=30) rfl rfl rfl rfl rfl Z6 (af pg) g1 g2 (k:=f.stack.length-(n+1)) (n:=n+1) Z5 Z7
   rw[XG Z5]at this;have ht:(f.stack.drop (f.stack.length-(n+1))).take (n+1)=f.stack.drop (f.stack.length-(n+1)):=YO Z5;rw[ht]at this;refine⟨_,_,_,this,Kp.new tag h _ kt,.inr ⟨h.length,aw (f.stack.drop (f.stack.length-(n+1))),[],by rw[hdl],Z8,Z8,?_,by rw[aZ],by grind [iA],rfl⟩,[_],rfl⟩;intro hh
   have:=Ym List.length hh
   simp[aZ]at this;omega
 obtain⟨kq1,kq2⟩:=K1 q _ H.row id;have g0:=H.get (T:=T) (t:=28) rfl rfl (k:=4) rfl;have g4:bg T 28 (.hp q (A.length+4)) h4= .ok sv h4:=by
  refine bT rfl rfl kq1 ?_;rw[YJ (by simp[iR]),Yj Z5,Zw];rfl
 have S4:dm tag4 (12+3*i) h4 f.stack sv:=H.st.keep K1 id
 -- what remains
 obtain⟨sv',e2,S5⟩:∃sv',rC T 28 sv none (some (.int .i64 ((f.stack.length:Int)-n))) none=some sv'/\dm tag4 (12+3*i) h4 (f.stack.take (f.stack.length-n)) sv':=by
  rcases S4 with⟨h0,hv,h00⟩|⟨r,cs,rest,rfl,hr,hcs,hne,hl,hok,rfl⟩
  ·have hn0:n=0:=Z5
   subst hn0;have hl:(f.stack.length:Int)-(0:Nat)=0:=Z5
   have hnil:f.stack=[]:=XV h0;rw[hl,hnil];rcases hv with rfl|rfl
   ·exact⟨.hn,rfl,.inl ⟨rfl,.inl rfl,rfl⟩⟩
   ·exact⟨.he,rfl,.inl ⟨rfl,.inr rfl,rfl⟩⟩
  ·refine⟨.hs r 0 (f.stack.length-n) 4 true,?_,?_⟩
   ·show (match cy (some (.int .i64 ((f.stack.length:Int)-n))) f.stack.length f.stack.length with|none=>none|some h=>if 4=4 then some (AV.hs r 0 h 4 true)else none)=_;simp only[cy]
    grind
   ·obtain⟨rest2,e,ho⟩:=wg f.stack (f.stack.length-n);refine .inr ⟨r,aw (f.stack.take (f.stack.length-n)),rest2++rest,Z7,hr,Z7,?_,by rw[aZ],?_,rfl⟩
    all_goals grind
 have hst:bN T 28 (.hp q (A.length+4)) sv' h4= .ok (.tup []) (h4.set q (A++iR { f with stack:=f.stack.take (f.stack.length-n) } lv sv'++B)):=by
  have hok:bY 1 sv'=true/\aa sv'=[sv']:=by
   rcases S5 with⟨_,rfl|rfl,_⟩|⟨r,cs,rest,rfl,_⟩<;>exact⟨rfl,rfl⟩
  rw[bU (T:=T) (t:=28) rfl kq1 hok.1 (by show _+1<=_;simp[iR];omega) Z6];rw[set_mid (D:=iR { f with stack:=f.stack.take (f.stack.length-n) } lv sv') (by simp[iR]) rfl (by rw[hok.2];rfl) hok.2]
 have hlt:q<h4.length:=(XQ.1 kq1).1;have K2:Kp tag4 tag4 (fun k=>k=7) h4 (h4.set q (A++iR { f with stack:=f.stack.take (f.stack.length-n) } lv sv'++B)):=Xr (kq2.trans H.tq) _;refine⟨_,tag4,sv',rv,?_,⟨Yg hlt,kq2.trans H.tq,(H.lo.keep K1 id).keep K2 Z5,S5.keep K2 Z5⟩,V1.keep K2 hkt,(K1.trans K2).mono fun k h=>h.elim False.elim id,Z7⟩
 ·rw[C95];simp only[S95,aJ,ae,FH44_4];rw[ap g0];simp only[dm.len H.st,ae,qG _ _ hn Z5];rw[ap g0];simp only[h1,ae];rw[ap ((xN w h).trans e1),ap g4];simp only[e2,ae];rw[ap hst];rfl
def t77(n:Int):af pg 77 [.int .i64 n]=ao (cg n).av:=by
 rw[C77];rfl
def t94(b:Bool):af pg 94 [.bool b]=ao (Ap.dW b).av:=by
 rw[C94];cases b<;>rfl
def BR{α:Type}(p q r s t:Bool)(k:AV->M α):
  ar (aO (.bool p) true 1 (ao [.bool q])) (fun v13=>ar (bS (gx (.bool p) (ab v13 0) (.bool false))) fun v14=>ar (bS (Jh .not v14)) fun v15=>
   ar (aO v15 true 1 (ao [.bool r])) fun v17=>ar (aO (ab v17 0) false 1 (ao [.bool s])) fun v21=>
   ar (aO v15 true 1 (ar (bS (gx (ab v17 0) (.bool true) (ab v21 0))) fun v22=>ao [v22])) fun v23=>
   ar (aO (ab v23 0) false 1 (ao [.bool t])) fun v27=>
   ar (aO v15 true 1 (ar (bS (gx (ab v23 0) (.bool true) (ab v27 0))) fun v28=>ao [v28])) fun v29=>
   ar (bS (gx v15 (ab v29 0) (.bool false))) k)=k (.bool (!(p&&q)&&(r||s||t))):=by
 simp_all
theorem t102{tag:Nat->Nat}{h:Hp}{q:Nat}{A B:List AV}{i:Nat}{f:Frm}{lv sv:AV}(H:FrAt tag h q A B i f lv sv)(op:Int)(h2:2<=f.stack.length)(hb:f.stack.length<1000000000):
  match BP op f.stack[f.stack.length-2]! f.stack[f.stack.length-1]! with
  |none=>af pg 102 [.hp q A.length,.int .i64 op] h= .ok (.int .i64 13) h
  |some x=>∃h' tag' sv',af pg 102 [.hp q A.length,.int .i64 op] h= .ok (.int .i64 0) h'/\FrAt tag' h' q A B i { f with stack:=f.stack.take (f.stack.length-2)++[x] } lv sv'/\Kp tag tag' (fun k=>k=7\/k=12+3*i) h h':=by
 obtain⟨w,g1,_,g3⟩:=t96 H 2 h2 hb;obtain⟨r,rest,rfl,hr,_⟩:=g3 Z6;have i0:aA T 28 (.hs r ((f.stack.length-2)*4) 2 4 true) (.int .i64 0)=some (.hp r ((f.stack.length-2+0)*4)):=(jl hr h2 (j:=0) Z6).1;have i1:aA T 28 (.hs r ((f.stack.length-2)*4) 2 4 true) (.int .i64 1)=some (.hp r ((f.stack.length-2+1)*4)):=(jl hr h2 (j:=1) Z6).1;have l0:=(jl hr h2 (j:=0) Z6).2;have l1:=(jl hr h2 (j:=1) Z6).2;rw[show f.stack.length-2+0=f.stack.length-2 by omega]at l0 i0;rw[show f.stack.length-2+1=f.stack.length-1 by omega]at l1 i1;obtain⟨h',tag',sv',rv,e1,F1,_,K1,_⟩:=t95 H 2 h2 hb 3 Z6;have hlen1:(f.stack.take (f.stack.length-2)).length<1000000000:=by simp;omega
 have e0:af pg 96 [.hp q A.length,.int .i64 2] h= .ok (.hs r ((f.stack.length-2)*4) 2 4 true) h:=g1;have e1':af pg 95 [.hp q A.length,.int .i64 2] h= .ok rv h':=e1;have run:∀x:Val,∃h3 tag3 sv3,af pg 93 [.hp q A.length,x.av] h'= .ok (.tup []) h3/\FrAt tag3 h3 q A B i { f with stack:=f.stack.take (f.stack.length-2)++[x] } lv sv3/\Kp tag tag3 (fun k=>k=7\/k=12+3*i) h h3:=fun x=>by
  obtain⟨h3,tag3,sv3,p1,p2,p3⟩:=t93 F1 x hlen1;exact⟨h3,tag3,sv3,p1,p2,(K1.trans p3).mono fun k hk=>Z7⟩
 generalize f.stack[f.stack.length-2]! = a at l0 |-;generalize f.stack[f.stack.length-1]! = b at l1 |-;generalize hc:af pg 102 [.hp q A.length,.int .i64 op] h=code;rw[C102,S102,ap e0,i0,ae,ap l0,i1,ae,ap l1]at hc;simp -implicitDefEqProofs only[bc (d3 a),bc (d3 b),aj,aK,bQ,FA30_0,FA30_1,X0,X3,LD3,ae,aI,gC,bm,fI,Dz,aB,BR,ai]at hc;unfold BP;by_cases hk:(a.kind=0/\b.kind=0)\/(op=8/\a.kind=1/\b.kind=1)
 ·have hg:(!(a.kind== 0&&b.kind== 0)&&((op != 8||a.kind != 1)||b.kind != 1))=false:=by
   rcases hk with⟨h1,h2⟩|⟨h1,h2,h3⟩
   ·simp[h1,h2]
   ·grind
  rw[XK hk];rw[hg]at hc;simp only[XH,XO]at hc;rw[ap e1']at hc;by_cases h4:op=4
  ·subst h4;obtain⟨h3,tag3,sv3,p1,p2,p3⟩:=run (cg (wr (a.n+b.n)));refine⟨h3,tag3,sv3,?_,by simpa using p2,p3⟩;rw[<- hc];simp -implicitDefEqProofs only[Yf,XS,aj,t77];rw[show IntKind.i64.wrap (a.n+b.n)=wr (a.n+b.n)from rfl,ap p1];rfl
  have b4:(op== 4)=false:=by simp[h4]
  by_cases h5:op=5
  ·subst h5;obtain⟨h3,tag3,sv3,p1,p2,p3⟩:=run (cg (wr (a.n-b.n)));refine⟨h3,tag3,sv3,?_,by simpa using p2,p3⟩;rw[<- hc];simp -implicitDefEqProofs only[Yf,XS,show ((5:Int)== 4)=false from rfl,XH,XO,aj,t77];rw[show IntKind.i64.wrap (a.n-b.n)=wr (a.n-b.n)from rfl,ap p1];rfl
  have b5:(op== 5)=false:=by simp[h5]
  by_cases h6:op=6
  ·subst h6;obtain⟨h3,tag3,sv3,p1,p2,p3⟩:=run (cg (wr (a.n*b.n)));refine⟨h3,tag3,sv3,?_,by simpa using p2,p3⟩;rw[<- hc];simp -implicitDefEqProofs only[Yf,XS,show ((6:Int)== 4)=false from rfl,show ((6:Int)== 5)=false from rfl,XH,XO,aj,t77];rw[show IntKind.i64.wrap (a.n*b.n)=wr (a.n*b.n)from rfl,ap p1];rfl
  have b6:(op== 6)=false:=by simp[h6]
  by_cases h7:op=7
  ·subst h7;obtain⟨h3,tag3,sv3,p1,p2,p3⟩:=run (Ap.dW (decide (a.n<b.n)));refine⟨h3,tag3,sv3,?_,by simpa using p2,p3⟩;rw[<- hc];simp -implicitDefEqProofs only[Yf,XS,show ((7:Int)== 4)=false from rfl,show ((7:Int)== 5)=false from rfl,show ((7:Int)== 6)=false from rfl,XH,XO,aj,t94];rw[ap p1];rfl
  have b7:(op== 7)=false:=by simp[h7]
  obtain⟨h3,tag3,sv3,p1,p2,p3⟩:=run (Ap.dW (a.n== b.n));refine⟨h3,tag3,sv3,?_,Z7,p3⟩;rw[<- hc];simp -implicitDefEqProofs only[b4,b5,b6,b7,XH,XO,t94,aj];rw[ap p1];rfl
 ·have hg:(!(a.kind== 0&&b.kind== 0)&&((op != 8||a.kind != 1)||b.kind != 1))=true:=by
   cases hh:(!(a.kind== 0&&b.kind== 0)&&((op != 8||a.kind != 1)||b.kind != 1))with
   |true=>rfl
   |false=>
    grind
  rw[XG hk];rw[hg]at hc;simp only[XS]at hc;rw[<- hc];rfl
theorem t41{L:MLay}{tag:Nat->Nat}{sv dv cv:AV}{vc:List AV}{p:Proc}{h:Hp}{q n:Nat}(H:MR L tag sv (.hs q 0 (n+1) 5 true) dv cv vc p h)(hn:n<1000000):af pg 41 [.hp L.rm 0] h= .ok (.hp q (n*5)) h:=by
 have g:bg T 24 (.hp L.rm (0+0+2)) h= .ok (.hs q 0 (n+1) 5 true) h:=H.get (T:=T) (t:=24) rfl rfl rfl;have hl:bu T 24 (.hs q 0 (n+1) 5 true)=some (.int .i64 ((n+1:Nat):Int)):=rfl;have hs:cB T .sub 3 (.int .i64 ((n+1:Nat):Int)) (.int .i64 1)=some (.int .i64 (n:Int)):=by
  have:=qG (n+1) 1 Z5 Z5
  rw[show (((n+1:Nat):Int)-((1:Nat):Int))=(n:Int) by omega]at this;exact this
 have hi:aA T 24 (.hs q 0 (n+1) 5 true) (.int .i64 (n:Int))=some (.hp q (n*5)):=by
  show (if(0:Int)<=(n:Int)/\(n:Int)<((n+1:Nat):Int)then some (AV.hp q (0+(n:Int).toNat*5))else none)=_;rw[XK Z5];simp
 rw[C41];simp only[S41,aJ,ae,FH73_0,FH36_2];rw[ap g,ap g];simp only[hl,hs,hi,ae];rfl
theorem RY(r n:Nat)(a:Int)(h0:0<=a)(h1:a<n):aA T 28 (.hs r 0 n 4 true) (.int .i64 a)=some (.hp r (0+a.toNat*4)):=by
 have e:aA T 28 (.hs r 0 n 4 true) (.int .i64 a)=if 0<=a/\a<(n:Int)then some (.hp r (0+a.toNat*4))else none:=rfl
 grind
def qp{X Y xs:List AV}{k:Nat}(h:k+xs.length<=X.length):setCells (X++Y) k xs=setCells X k xs++Y:=by
 grind [setCells]
def vK(L:MLay)(p:Proc)(h:Hp):Prop:=∃tag sv fv dv cv vc,MR L tag sv fv dv cv vc p h
def Py(Q:StP)(L:MLay)(sv:AV)(p:Proc)(h:Hp):Prop:=∃tag fv dv cv vc,MRG Q L tag sv fv dv cv vc p h
def Py.x{L:MLay}{sv:AV}{p:Proc}{h:Hp}(H:Py Wk L sv p h):vK L p h:=by
 obtain⟨tag,fv,dv,cv,vc,H⟩:=H;exact⟨tag,sv,fv,dv,cv,vc,H⟩
set_option maxHeartbeats 1000000 in
def t100{L:MLay}{tag:Nat->Nat}{sv dv cv:AV}{vc:List AV}{p:Proc}{h:Hp}{q:Nat}{fs:List Frm}{f:Frm}{A B:List AV}{lv stv:AV}(H:MR L tag sv (.hs q 0 (fs.length+1) 5 true) dv cv vc p h)(M:MapOk T 70 71 L p.mods)(hA:ep tag h 0 fs A)(F:FrAt tag h q A B fs.length f lv stv)(hB:B.all ay=true)(i:Ins)(hi:0<=dI p.mods f.mod){w:Vars}(hw:p.state[(dI p.mods f.mod).toNat]? = some w)(hb:f.stack.length<1000000000)(hwb:w.values.length<1000000000)(ha:0<=i.a)(ho:i.op≠16->1<=f.stack.length):
  if i.a<w.values.length then ∃h',af pg 100 [.hp L.rm 0,.hp q A.length,i.av] h= .ok (.int .i64 0) h'/\
   vK L (if i.op=16 then{ p with frames:=fs++[{ f with stack:=f.stack++[w.values[i.a.toNat]!] }] }else{ p with frames:=fs++[f],state:=p.state.modify (dI p.mods f.mod).toNat fun w=>{ w with values:=w.values.set i.a.toNat f.stack[f.stack.length-1]! } }) h'
  else af pg 100 [.hp L.rm 0,.hp q A.length,i.av] h= .ok (.int .i64 12) h:=by
 generalize hj:(dI p.mods f.mod).toNat=j at hw |-;have hjI:dI p.mods f.mod=(j:Int):=Z5
 have hjl:j<p.state.length:=(XQ.1 hw).1;rcases H.sth with⟨h0,_⟩|⟨r,cs,rest,rfl,hr,hcs,hne,hl,hok,HS⟩
 ·omega
 obtain⟨av,a1,a2⟩:=HS.at j w hw;rw[XX]at a2;have g1:bg T 23 (.hp L.rm (0+0+1)) h= .ok (.hs r 0 p.state.length 2 true) h:=H.get (T:=T) (t:=23) rfl rfl rfl;have g2:bg T 70 (.hp L.rm (0+13)) h= .ok (.mp L.ri) h:=H.get (T:=T) (t:=70) rfl rfl (oh H.vo.len 4);have g3:bg T 9 (.hp q (A.length+0)) h= .ok (.str f.mod) h:=F.get (T:=T) (t:=9) rfl rfl (k:=0) rfl;have g4:d8 T 70 (.mp L.ri) (.str f.mod) false h= .ok (.int .i64 (j:Int)) h:=by rw[<- hjI];exact M.idx h H.ri f.mod hi
 have g5:aA T 23 (.hs r 0 p.state.length 2 true) (.int .i64 (j:Int))=some (.hp r (0+j*2)):=by
  show (if(0:Int)<=(j:Int)/\(j:Int)<((p.state.length:Nat):Int)then some (AV.hp r (0+(j:Int).toNat*2))else none)=_;rw[XK Z5];simp
 have g6:bg T 28 (.hp r (0+j*2+1)) h= .ok av h:=by
  refine bT rfl rfl hcs ?_;have:j*2+1<cs.length:=(XQ.1 a1).1;rw[XX,YJ this];exact a1
 have g7:=dm.len a2;generalize hc:af pg 100 [.hp L.rm 0,.hp q A.length,i.av] h=code;rw[C100]at hc;simp only[S100,aJ,ae,FH73_0,FH73_1,FH36_1,FH44_0]at hc;rw[ap g1,ap g2,ap g3,ap g4]at hc;simp only[g5,ae,FH58_1]at hc;rw[ap g6]at hc;simp -implicitDefEqProofs only[fJ1,FD,ae,g7,jm,ai,fJ0,vV,kV,XI]at hc;by_cases hlt:i.a<w.values.length
 ·rw [XK hlt];rw[XG Z5]at hc;obtain⟨rv,rest2,hav,hrv,hcs2,hok2⟩:∃rv rest2,av= .hs rv 0 w.values.length 4 true/\tag rv=10+3*j/\h[rv]? = some (aw w.values++rest2)/\(aw w.values++rest2).all ay=true:=by
   clear hc;rcases a2 with⟨h0,_⟩|⟨rv,cs2,rest2,e,hrv,hcs2,hne2,hl2,hok2,e2⟩
   all_goals grind
  have ia:aA T 28 av (.int .i64 i.a)=some (.hp rv (0+i.a.toNat*4)):=by rw[hav];exact RY rv w.values.length i.a ha hlt
  have hal:i.a.toNat<w.values.length:=(Int.toNat_lt ha).2 hlt;by_cases hop:i.op=16
  ·rw[XK hop]at hc |-;simp only[ia,ae,XX]at hc;rw[ap (nI (T:=T) (t:=30) rfl rfl rfl hcs2 hal)]at hc;obtain⟨h3,tag3,sv3,p1,p2,p3⟩:=t93 F w.values[i.a.toNat] hb;rw[ap p1]at hc;rw[XN w.values _ hal];have R:=H.unfocus hA (p3.mono fun k hk=>Z7) p2 hB;exact⟨h3,hc.symm,⟨tag3,_,_,_,_,_,R⟩⟩
  ·rw [XG hop]at hc |-;have hst:=ho hop;obtain⟨w',e1,_,e3⟩:=t96 F 1 hst hb;obtain⟨rs,rests,rfl,hrs,_⟩:=e3 Z6;have e1':af pg 96 [.hp q A.length,.int .i64 1] h= .ok (.hs rs ((f.stack.length-1)*4) 1 4 true) h:=e1;have i0:aA T 28 (.hs rs ((f.stack.length-1)*4) 1 4 true) (.int .i64 0)=some (.hp rs ((f.stack.length-1+0)*4)):=(jl hrs hst (j:=0) Z6).1;have l0:=(jl hrs hst (j:=0) Z6).2;rw[ap e1']at hc;simp only[i0,ae]at hc;rw[ap l0]at hc;simp only[ia,ae,XX]at hc;rw[show f.stack.length-1+0=f.stack.length-1 by omega]at hc;generalize f.stack[f.stack.length-1]! = v at hc |-;have hset:setCells (aw w.values++rest2) (i.a.toNat*4) (aa v.av)=aw (w.values.set i.a.toNat v)++rest2:=by
    rw[qp (by rw[aZ];simp;omega),kw hal]
   have s1:bN T 30 (.hp rv (i.a.toNat*4)) v.av h= .ok (.tup []) (h.set rv (aw (w.values.set i.a.toNat v)++rest2)):=by
    rw[bU (T:=T) (t:=30) rfl hcs2 Z9 (by grind [aZ]) Z6,hset]
   rw[ap s1]at hc;have hrl:rv<h.length:=(XQ.1 hcs2).1;have K:Kp tag tag (fun k=>k=10+3*j) h (h.set rv (aw (w.values.set i.a.toNat v)++rest2)):=Xr hrv _;have km:=K _ _ H.row (by rw[H.tm];omega);have ki:=K _ _ H.ri (by rw[H.ti];omega);have kf:=K _ _ H.rf (by rw[H.tf];omega);have hnr:∀ {k:Nat} {x:AV} {l:List Val},k≠10+3*j->dm tag k h l x->dm tag k (h.set rv (aw (w.values.set i.a.toNat v)++rest2)) l x:=fun hk hv=>hv.keep K hk;have R:MR L tag (.hs r 0 p.state.length 2 true) (.hs q 0 (fs.length+1) 5 true) dv cv vc { p with frames:=fs++[f],state:=p.state.modify j fun w=>{ w with values:=w.values.set i.a.toNat v } } (h.set rv (aw (w.values.set i.a.toNat v)++rest2)):=by
    refine⟨km.1,H.tm,ki.1,H.ti,kf.1,H.tf,?_,?_,H.ds.keep K Z5 fun _ h=>h,H.cs.keep K Z5 fun _ h=>h.keep K Z5,H.vo,H.so⟩
    ·have kr:=K _ _ hcs (by rw[hr];omega);refine .inr ⟨r,cs,rest,Z8,hr,kr.1,hne,by simpa using hl,hok,?_⟩
     have:=HS.set j w av hw a1 (h':=h.set rv (aw (w.values.set i.a.toNat v)++rest2)) (ws:=w.values.set i.a.toNat v) Z7 (by
      rw[XX];rw[hav];refine .inr ⟨rv,aw (w.values.set i.a.toNat v),rest2,Z8,hrv,Yg hrl,?_,by rw[aZ],?_,rfl⟩
      ·intro hh
       have:=Ym List.length hh
       grind [aZ]
      simp_all[iA])
     have e:(p.state.modify j fun w0=>{ w0 with values:=w.values.set i.a.toNat v })=p.state.modify j fun w=>{ w with values:=w.values.set i.a.toNat v }:=by
      apply YY;intro n;rw[ZG,ZG];by_cases hn:j=n
      ·grind
      ·simp[hn]
     grind
    ·have F2:FrAt tag (h.set rv (aw (w.values.set i.a.toNat v)++rest2)) q A B fs.length f lv stv:=⟨(K _ _ F.row (by rw[F.tq];omega)).1,F.tq,hnr Z5 F.lo,hnr Z5 F.st⟩;have hA2:ep tag (h.set rv (aw (w.values.set i.a.toNat v)++rest2)) 0 fs A:=hA.keep K fun j _ _=>Z7
     refine .inr ⟨q,A++iR f lv stv,B,Z8,F2.tq,F2.row,by simp[iR],by simp[iR,hA.len];omega,?_,?_⟩
     ·rw[Ze,Ze,hA.ok,hB];simp only[iR,X7,ZH,F.lo.okC,F.st.okC];rfl
     ·exact hA2.snoc (by rw[XX];exact F2.lo) (by rw[XX];exact F2.st)
   exact⟨_,hc.symm,⟨tag,_,_,_,_,_,R⟩⟩
 ·rw[XG hlt];rw[XK Z5]at hc;exact hc.symm
theorem EY(a b c:Int):cH T false 102 [(0,.int .i64 a),(1,.int .i64 b),(2,.int .i64 c)]=some (Deed.av ⟨a,b,c⟩):=rfl
theorem BV(d:Deed):aM T 31 1 [(0,d.av)]=some (.sl [d.av]):=rfl
def xI{L:MLay}{tag:Nat->Nat}{sv dv cv:AV}{vc:List AV}{p:Proc}{h:Hp}{q:Nat}{fs:List Frm}{f:Frm}{A B:List AV}{lv stv:AV}(H:MR L tag sv (.hs q 0 (fs.length+1) 5 true) dv cv vc p h)(hA:ep tag h 0 fs A)(F:FrAt tag h q A B fs.length f lv stv)(hB:B.all ay=true)(i:Ins)(v:Val)(a:Int)(hb:f.stack.length<1000000000)(hd:p.out.deeds.length<1000000):
  ∃h',K101_0 (af pg) ak [.hp L.rm 0,.hp q A.length,.ip (aa i.av),.ip (aa v.av),.int .i64 a] h= .ok (.int .i64 0) h'/\
   vK L { p with frames:=fs++[{ f with stack:=f.stack++[cg a] }],out:={ p.out with deeds:=p.out.deeds++[⟨i.a,v.n,a⟩] } } h':=by
 have g1:bg T 31 (.hp L.rm (0+0+4+5)) h= .ok dv h:=H.get (T:=T) (t:=31) rfl rfl (oh H.vo.len 0);obtain⟨h1,tag1,dv1,e1,K1,o1,o2,r1,R1⟩:=H.deed (T:=T) (t:=31) (e:=102) rfl rfl rfl rfl rfl Z6 ⟨i.a,v.n,a⟩ (X4 (XR _ (show p.out.deeds.length+1<=1000000 by omega)) Z6);have s1:bN T 31 (.hp L.rm (0+0+4+5)) dv1 h1= .ok (.tup []) (h1.set L.rm (fF L p sv (.hs q 0 (fs.length+1) 5 true) dv1 cv vc)):=by
  rw[bU (T:=T) (t:=31) rfl r1 o1 (by rw[l6 H.vo.len];decide) Z6,o2,Oj H.vo.len]
 have t1:=R1.tm;have K2:Kp tag1 tag1 (fun k=>k=0) h1 (h1.set L.rm (fF L p sv (.hs q 0 (fs.length+1) 5 true) dv1 cv vc)):=Xr t1 _;have K12:=K1.trans K2;have F2:=F.keep K12 ⟨Z5,Z5,Z5⟩;have hA2:=hA.keep K12 fun j _ _=>Z7
 obtain⟨h3,tag3,sv3,p1,p2,p3⟩:=t93 F2 (cg a) hb;have R3:=R1.unfocus hA2 (p3.mono fun k hk=>Z7) p2 hB;refine⟨h3,?_,⟨tag3,_,_,_,_,_,R3⟩⟩;rw[K101_0];simp -implicitDefEqProofs only[am,au,aJ,ae,FH73_0,FH36_4,FH34_2];rw[ap g1];simp -implicitDefEqProofs only[fJ1,FD,ae,bQ,FA30_1,X3,X0,LD3,EY,BV];rw[ap e1,ap s1];simp only[t77,aj];rw[ap p1];rfl
theorem AQ(l:List ba)(x:ba)(hb:l.length<=1000000):∀(B A:List ba),A++B=l->
  ak (L150_0 (af pg) ak) [strs l,.str x,.int .i64 l.length,.int .i64 A.length]=ao (.int .i64 (bb (fun y=>y== x) B A.length))
 |[],A,e=>by
  rw[X9]at e;subst e;have h1:¬((A.length:Int)<(A.length:Int)):=Z5
  rw[FL150_0];simp -implicitDefEqProofs only[L150_0,am,au,aB,ae,ai,XI,XG h1];rfl
 |y:: B,A,e=>by
  have hlen:A.length+(B.length+1)=l.length:=by rw[<- e];simp
  have h1:(A.length:Int)<(l.length:Int):=Z5
  have hix:=oU (l:=l) (n:=(A.length:Int)) Z5 h1;have hxx:l[A.length]! = y:=by rw[XN l A.length Z5];simp[<- e]
  rw[XP,hxx]at hix;have hw:IntKind.i64.wrap ((A.length:Int)+1)=((A++[y]).length:Nat):=by rw[aW Z5 Z5];simp
  have ih:=AQ l x hb B (A++[y]) Z7;have hc:(x== y)=(y== x):=BEq.comm;have hld:ax T 9 (.ip (aa (AV.str y)))=some (.str y):=rfl;have hsq:cB T .eql 9 (.str x) (.str y)=some (.bool (x== y)):=yU ..;rw[FL150_0];simp -implicitDefEqProofs only[L150_0,am,au,aB,ae,ai,XI,XK h1,hix,hld,hsq,hc];rw[show bb (fun y=>y== x) (y:: B) A.length=if(y== x)=true then(A.length:Int)else bb (fun y=>y== x) B ((A.length:Int)+1)from rfl];simp_all
def tv150(l:List ba)(x:ba)(hb:l.length<=1000000):af pg 150 [strs l,.str x]=ao (.int .i64 (bb (fun y=>y== x) l 0)):=by
 have h:=AQ l x hb l [] rfl;have h':ak (L150_0 (af pg) ak) [strs l,.str x,.int .i64 l.length,.int .i64 0]=ao (.int .i64 (bb (fun y=>y== x) l 0)):=h;rw[C150,show cl aF (strs l)=strs l by simp,show cl aF (.str x)= .str x from rfl]
 grind [S150,g9,ae,nG]
def Gh{α:Type}(p a q b r c d:Bool)(k:AV->M α):
  ar (aO (.bool p) true 1 (ao [.bool a])) (fun v74=>ar (bS (gx (.bool p) (ab v74 0) (.bool false))) fun v75=>aC v75 (k v75) (ar (aO (.bool q) true 1 (ao [.bool b])) fun v82=>
   ar (bS (gx (.bool q) (ab v82 0) (.bool false))) fun v83=>aC v83 (k v83) (ar (aO (.bool r) true 1 (ao [.bool c])) fun v90=>ar (aO (ab v90 0) false 1 (ao [.bool d])) fun v92=>
   ar (aO (.bool r) true 1 (ar (bS (gx (ab v90 0) (.bool true) (ab v92 0))) fun v93=>ao [v93])) fun v94=>ar (bS (gx (.bool r) (ab v94 0) (.bool false))) k)))=k (.bool (p&&a||(q&&b||r&&(c||d)))):=by
 cases p<;>cases a<;>cases q<;>cases b<;>cases r<;>cases c<;>cases d<;>rfl
theorem wQ:∀(ns:List ba)(vs:List Val)(s:ba)(i:Int),ns.length=vs.length->0<=i->
  (bb (fun y=>y== s) ns i= -1/\gO ns vs s=none)\/∃k:Nat,k<vs.length/\bb (fun y=>y== s) ns i=i+k/\gO ns vs s=some vs[k]!
 |[],[],_,_,_,_=>.inl ⟨rfl,rfl⟩
 | n:: ns,v:: vs,s,i,h,h0=>by
  have e1:bb (fun y=>y== s) (n:: ns) i=if(n== s)=true then i else bb (fun y=>y== s) ns (i+1):=rfl;have e2:gO (n:: ns) (v:: vs) s=if n=s then some v else gO ns vs s:=rfl;by_cases hn:n=s
  ·grind
  ·rw[e1,XG (by simp[hn]),e2,XG hn];rcases wQ ns vs s (i+1) (by simpa using h) (Z5)with⟨g1,g2⟩|⟨k,g1,g2,g3⟩
   ·grind
   ·refine .inr ⟨k+1,by simp;omega,by rw[g2];omega,?_⟩
    grind
 |[],_:: _,_,_,h,_=>by simp at h
 |_:: _,[],_,_,h,_=>by simp at h
theorem I4{L:MLay}{tag:Nat->Nat}{sv dv cv:AV}{vc:List AV}{p:Proc}{h:Hp}{q:Nat}{fs:List Frm}{f:Frm}{A B:List AV}{lv stv:AV}(H:MR L tag sv (.hs q 0 (fs.length+1) 5 true) dv cv vc p h)(hA:ep tag h 0 fs A)(F:FrAt tag h q A B fs.length f lv stv)(hB:B.all ay=true)(i:Ins)(v:Val)(at_:Int)(h1:1<=f.stack.length)(hb:f.stack.length<1000000000)(hd:p.out.deeds.length<1000000)(hop:i.op=9\/i.op=13\/i.op=15)(hat:i.op=13->0<=at_/\at_<v.values.length):
  ∃ h',K101_1 (af pg) ak [.hp L.rm 0,.hp q A.length,.ip (aa i.av),.ip (aa v.av),.int .i64 at_,.bool false] h= .ok (.int .i64 0) h'/\
   vK L (if i.op=9 then{ p with frames:=fs++[{ f with stack:=f.stack.take (f.stack.length-1)++[Ap.dW (v.n== 0)] }] }
    else if i.op=13 then{ p with frames:=fs++[{ f with stack:=f.stack.take (f.stack.length-1)++[v.values[at_.toNat]!] }] }
    else{ p with frames:=fs++[{ f with stack:=f.stack.take (f.stack.length-1)++[cg (p.world.headD 0)] }],world:=p.world.tail,out:={ p.out with deeds:=p.out.deeds++[⟨i.a,v.n,p.world.headD 0⟩] } }) h':=by
 obtain⟨h2,tag2,sv2,rv,e2,F2,_,K2,_⟩:=t95 F 1 h1 hb 3 Z6;have R2:=H.unfocus hA (K2.mono fun k hk=>.inl hk) F2 hB;have hA2:=hA.keep K2 fun j _ _=>Z7
 have hl2:(f.stack.take (f.stack.length-1)).length<1000000000:=by simp;omega
 have e2':af pg 95 [.hp q A.length,.int .i64 1] h= .ok rv h2:=e2;have put:∀x:Val,∃h3,af pg 93 [.hp q A.length,x.av] h2= .ok (.tup []) h3/\vK L { p with frames:=fs++[{ f with stack:=f.stack.take (f.stack.length-1)++[x] }] } h3:=fun x=>by
  obtain⟨h3,tag3,sv3,p1,p2,p3⟩:=t93 F2 x hl2;have R3:=R2.unfocus hA2 (p3.mono fun k hk=>Z7) p2 hB;exact⟨h3,p1,⟨tag3,_,_,_,_,_,R3⟩⟩
 generalize hc:K101_1 (af pg) ak [.hp L.rm 0,.hp q A.length,.ip (aa i.av),.ip (aa v.av),.int .i64 at_,.bool false] h=code;rw[K101_1]at hc;simp -implicitDefEqProofs only[am,au,ai,XH,XO]at hc;rw[ap e2']at hc;simp -implicitDefEqProofs only[fJ0,vV,ae,aI,ai]at hc;simp -implicitDefEqProofs only[bQ,ae,aI,FA30_1,FA30_3,X3,X0,LD3,LD28]at hc;by_cases h9:i.op=9
 ·obtain⟨h3,p1,R3⟩:=put (Ap.dW (v.n== 0));rw[XK h9];refine⟨h3,?_,R3⟩;rw[<- hc];simp -implicitDefEqProofs only[h9,Yf,XS,t94,aj];rw[ap p1];rfl
 have b9:(i.op== 9)=false:=by simp[h9]
 rw[XG h9];simp -implicitDefEqProofs only[b9,XH,XO]at hc;by_cases h13:i.op=13
 ·obtain⟨k0,k1⟩:=hat h13;obtain⟨h3,p1,R3⟩:=put v.values[at_.toNat]!;rw[XK h13];refine⟨h3,?_,R3⟩;rw[<- hc];have hix:=ta (l:=v.values) (n:=at_) k0 k1;have hld:∀x:Val,ax T 30 (.ip (aa x.av))=some x.av:=fun x=>by cases x;rfl
  simp -implicitDefEqProofs only[h13,Yf,XS,hix,ae,hld];rw[ap p1];rfl
 have b13:(i.op== 13)=false:=by simp[h13]
 rw[XG h13];simp -implicitDefEqProofs only[b13,XH,XO,jn,aJ,ae,FH73_0,FH36_3]at hc;have g1:bg T 25 (.hp L.rm (0+0+3)) h2= .ok (ints p.world) h2:=R2.get (T:=T) (t:=25) rfl rfl rfl;rw[ap g1]at hc;have hlen:bu T 25 (ints p.world)=some (.int .i64 p.world.length):=nh _;simp -implicitDefEqProofs only[hlen,ae,dO,ai,XI]at hc;cases hw:p.world with
 |nil=>
  rw[XG (by rw[hw];decide)]at hc;obtain⟨h3,p1,R3⟩:=xI R2 hA2 F2 hB i v 0 hl2 hd;simp_all
 | cons a w=>
  rw[XK (by rw[hw];simp)]at hc;have hix:aA T 25 (ints p.world) (.int .i64 0)=some (.ip (aa (AV.int .i64 a))):=by
   have:=Jj (l:=p.world) (n:=0) Z6 (by rw[hw];simp)
   rw[this,hw];rfl
  have hld:ax T 3 (.ip (aa (AV.int .i64 a)))=some (.int .i64 a):=rfl;have hsl:dc T 25 (ints p.world) (some (.int .i64 1)) none none=some (ints w):=by
   have:=Go.Av.ot (T:=T) (t:=25) (e:=3) rfl rfl rfl (p.world.map (AV.int .i64)) (by
    simp_all[db]) (n:=1) Z6 Z7
   rw[hw]at this |-;exact this
  have s1:bN T 25 (.hp L.rm (0+0+3)) (ints w) h2= .ok (.tup []) (h2.set L.rm (fF L { p with world:=w,frames:=fs++[{ f with stack:=f.stack.take (f.stack.length-1) }] } sv (.hs q 0 (fs.length+1) 5 true) dv cv vc)):=by
   rw[bU (T:=T) (t:=25) rfl R2.row rfl (by rw[l6 R2.vo.len];decide) Z6];rfl
  have R4:=R2.setRow (p':={ p with world:=w,frames:=fs++[{ f with stack:=f.stack.take (f.stack.length-1) }] }) rfl rfl rfl rfl R2.so R2.vo;have K4:Kp tag2 tag2 (fun k=>k=0) h2 (h2.set L.rm (fF L { p with world:=w,frames:=fs++[{ f with stack:=f.stack.take (f.stack.length-1) }] } sv (.hs q 0 (fs.length+1) 5 true) dv cv vc)):=Xr R2.tm _;have F4:=F2.keep K4 ⟨Z5,Z5,Z5⟩;have hA4:=hA2.keep K4 fun j _ _=>Z7
  obtain⟨h3,p1,R3⟩:=xI R4 hA4 F4 hB i v a hl2 hd;have ea:aa v.av=[.int .i64 v.kind,.int .i64 v.n,strs v.names,vals v.values]:=bQ v;rw[<- ea,ap g1]at hc;simp -implicitDefEqProofs only[hix,hld,ae]at hc;rw[ap g1]at hc;simp -implicitDefEqProofs only[hsl,ae]at hc
  grind [ap]
theorem t101{L:MLay}{tag:Nat->Nat}{sv dv cv:AV}{vc:List AV}{p:Proc}{h:Hp}{q:Nat}{fs:List Frm}{f:Frm}{A B:List AV}{lv stv:AV}(H:MR L tag sv (.hs q 0 (fs.length+1) 5 true) dv cv vc p h)(hA:ep tag h 0 fs A)(F:FrAt tag h q A B fs.length f lv stv)(hB:B.all ay=true)(i:Ins)(h1:1<=f.stack.length)(hb:f.stack.length<1000000000)(hd:p.out.deeds.length<1000000)(hop:i.op=9\/i.op=13\/i.op=15)(hv:f.stack[f.stack.length-1]!.names.length=f.stack[f.stack.length-1]!.values.length)(hn:f.stack[f.stack.length-1]!.names.length<=1000000):
  match mX p fs f i with
  |.ok p'=>∃h',af pg 101 [.hp L.rm 0,.hp q A.length,i.av] h= .ok (.int .i64 0) h'/\vK L p' h'
  |.error e=>af pg 101 [.hp L.rm 0,.hp q A.length,i.av] h= .ok (.int .i64 e) h:=by
 obtain⟨w,e0,_,e3⟩:=t96 F 1 h1 hb;obtain⟨rs,rests,rfl,hrs,_⟩:=e3 Z6;have e0':af pg 96 [.hp q A.length,.int .i64 1] h= .ok (.hs rs ((f.stack.length-1)*4) 1 4 true) h:=e0;have i0:aA T 28 (.hs rs ((f.stack.length-1)*4) 1 4 true) (.int .i64 0)=some (.hp rs ((f.stack.length-1+0)*4)):=(jl hrs h1 (j:=0) Z6).1;have l0:=(jl hrs h1 (j:=0) Z6).2;rw[show f.stack.length-1+0=f.stack.length-1 by omega]at i0 l0;have go:=fun(v:Val) (at_:Int)=>I4 H hA F hB i v at_ h1 hb hd hop;have e9:i.op=9->mX p fs f i=if f.stack[f.stack.length-1]!.kind=1 then .ok { p with frames:=fs++[{ f with stack:=f.stack.take (f.stack.length-1)++[Ap.dW (f.stack[f.stack.length-1]!.n== 0)] }] }else .error 13:=fun h=>by simp[mX,h]
 have e13:i.op=13->mX p fs f i=match gO f.stack[f.stack.length-1]!.names f.stack[f.stack.length-1]!.values i.s with
   |some x=>if f.stack[f.stack.length-1]!.kind=2 then .ok { p with frames:=fs++[{ f with stack:=f.stack.take (f.stack.length-1)++[x] }] }else .error 13
   |none=>.error 13:=fun h=>by simp[mX,h];rfl
 have e15:i.op=15->mX p fs f i=if f.stack[f.stack.length-1]!.kind=0 then .ok { p with frames:=fs++[{ f with stack:=f.stack.take (f.stack.length-1)++[cg (p.world.headD 0)] }],world:=p.world.tail,out:={ p.out with deeds:=p.out.deeds++[⟨i.a,f.stack[f.stack.length-1]!.n,p.world.headD 0⟩] } }else .error 13:=fun h=>by simp[mX,h]
 generalize f.stack[f.stack.length-1]! = v at hv hn l0 e9 e13 e15;generalize hc:af pg 101 [.hp L.rm 0,.hp q A.length,i.av] h=code;rw[C101,S101,ap e0',i0,ae,ap l0]at hc;simp -implicitDefEqProofs only[bc (d3 v),aj,aK,fJ2,Ts,ae]at hc;have fa2:ah T 30 (.ip (aa v.av)) 2=some (.ip [strs v.names,vals v.values]):=by rw[bQ];rfl
 have la2:ax T 27 (.ip [strs v.names,vals v.values])=some (strs v.names):=rfl;have fa0:ah T 30 (.ip (aa v.av)) 0=some (.ip (aa v.av)):=by rw[bQ];rfl
 have la0:ax T 3 (.ip (aa v.av))=some (.int .i64 v.kind):=by rw[bQ];rfl
 simp -implicitDefEqProofs only[fa2,la2,fa0,la0,tv150 v.names i.s hn,ae,aj,jn,fJ0,vV,aI,gC,aB,Gh]at hc;have bad:∀b:Bool,b=true->K101_1 (af pg) ak [.hp L.rm 0,.hp q A.length,.ip (aa i.av),.ip (aa v.av),.int .i64 (bb (fun y=>y== i.s) v.names 0),.bool b] h= .ok (.int .i64 13) h:=by
  rintro _ rfl;rw[K101_1];simp -implicitDefEqProofs only[am,au,ai,XS];rfl
 rcases hop with h9|h13|h15
 ·rw[e9 h9];by_cases hk:v.kind=1
  ·rw[XK hk];rw[show (i.op== 9&&v.kind != 1||(i.op== 15&&v.kind != 0||i.op== 13&&(v.kind != 2||decide (bb (fun y=>y== i.s) v.names 0<0))))=false by simp[h9,hk]]at hc;obtain⟨h',g1,g2⟩:=go v (bb (fun y=>y== i.s) v.names 0) (fun h=>Z5)
   grind
  grind
 ·rw[e13 h13];rcases wQ v.names v.values i.s 0 hv (Z6)with⟨g1,g2⟩|⟨k,k1,k2,k3⟩
  ·grind
  ·rw[k3];by_cases hk:v.kind=2
   ·simp only[XK hk];rw[show (i.op== 9&&v.kind != 1||(i.op== 15&&v.kind != 0||i.op== 13&&(v.kind != 2||decide (bb (fun y=>y== i.s) v.names 0<0))))=false by grind]at hc;obtain⟨h',g1,g2⟩:=go v (bb (fun y=>y== i.s) v.names 0) (fun h=>by rw[k2];omega)
    grind
   grind
 ·rw[e15 h15];by_cases hk:v.kind=0
  ·rw[XK hk];rw[show (i.op== 9&&v.kind != 1||(i.op== 15&&v.kind != 0||i.op== 13&&(v.kind != 2||decide (bb (fun y=>y== i.s) v.names 0<0))))=false by simp[h15,hk]]at hc;obtain⟨h',g1,g2⟩:=go v (bb (fun y=>y== i.s) v.names 0) (fun h=>Z5)
   grind
  grind
end Go.Proofs.YtbndmpiddinalacGreatDoor
