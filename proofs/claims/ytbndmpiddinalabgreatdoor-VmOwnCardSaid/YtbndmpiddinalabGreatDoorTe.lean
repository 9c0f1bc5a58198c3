/- What the functions compute, part 5. Conditions: bounds. -/
import Derived.Test.YtbndmpiddinalabGreatDoorTd
set_option linter.defProp false
set_option linter.unusedSimpArgs false
set_option linter.unusedVariables false
namespace Go.Proofs.YtbndmpiddinalabGreatDoor
open Go Go.Av Go.Av.Ap
set_option maxRecDepth 100000
def aS{α β:Type}{m:M α}{a:α}{h h':Hp}(e:m h= .ok a h')(f:α->M β):au m f h=f a h':=by simp only[au,e]
def l6{h:Hp}{l:Nat}{cs:List AV}(H:h[l]? = some cs):l<h.length:=by
 grind
theorem JO(i:Ins):(aa i.av).length=5:=rfl
def CX(h:Hp)(l:Nat)(c:List Ins)(x:AV):Prop:=(c=[]/\x= .hn)\/(c≠[]/\∃lb,l<lb/\x= .hs lb 0 c.length 5 true/\h[lb]? = some (rowOf Ins.av c))
def CS(h:Hp)(l:Nat)(vars:List fF)(c:jZ):Prop:=∃x,h[l]? = some [ck vars,x,.int .i64 c.2]/\CX h l c.1 x
def sO(l:Nat)(h h':Hp):Prop:=∀i,i<l->h'[i]? = h[i]?
def sO.refl(l:Nat)(h:Hp):sO l h h:=fun _ _=>rfl
def sO.trans{l:Nat}{h h1 h2:Hp}(a:sO l h h1)(b:sO l h1 h2):sO l h h2:=fun i hi=>(b i hi).trans (a i hi)
def sO.set{l k:Nat}{h:Hp}{r:List AV}(hk:l<=k):sO l h (h.set k r):=fun i hi=>ZU
def sO.app{l:Nat}{h t:Hp}(hl:l<=h.length):sO l h (h++t):=fun i hi=>ZU
theorem HO(l:Nat):kq (.hp l 0)=some (.hp l 0):=rfl
theorem fC0(l:Nat):ah T 179 (.hp l 0) 0=some (.hp l 0):=rfl
theorem fC1(l:Nat):ah T 179 (.hp l 0) 1=some (.hp l 1):=rfl
theorem fC2(l:Nat):ah T 179 (.hp l 0) 2=some (.hp l 2):=rfl
def CX.len{h:Hp}{l:Nat}{c:List Ins}{x:AV}(H:CX h l c x):bp T 73 x=some (.int .i64 c.length):=by
 rcases H with⟨rfl,rfl⟩|⟨_,lb,_,rfl,_⟩<;>rfl
def mL{h:Hp}{l:Nat}{a x n:AV}(H:h[l]? = some [a,x,n]):bb T 73 (.hp l 1) h= .ok x h:=yC (T:=T) (t:=73) rfl rfl H rfl
def JV{h:Hp}{l:Nat}{a x n:AV}(H:h[l]? = some [a,x,n]):bb T 49 (.hp l 0) h= .ok a h:=yC (T:=T) (t:=49) rfl rfl H rfl
def Hz{h:Hp}{l:Nat}{a x n:AV}(H:h[l]? = some [a,x,n]):bb T 3 (.hp l 2) h= .ok n h:=yC (T:=T) (t:=3) rfl rfl H rfl
theorem t94{h:Hp}{l:Nat}{vars:List fF}{c:jZ}(H:CS h l vars c)(i:Ins)(hb:c.1.length<=100000000000):
  ∃h',af pg 94 [.hp l 0,i.av] h= .ok (.int .i64 c.1.length) h'/\CS h' l vars (gJ i c)/\sO l h h':=by
 obtain⟨x,hl,hx⟩:=H;have hlt:=l6 hl;have hap:∃h1,appH T 73 false x (.sl [i.av]) h= .ok (.hs h.length 0 (c.1.length+1) 5 true) h1/\h1[h.length]? = some (rowOf Ins.av (c.1++[i]))/\h1[l]? = h[l]? /\sO l h h1/\h.length<h1.length:=by
  have hr:rowOf Ins.av (c.1++[i])=rowOf Ins.av c.1++aa i.av:=by simp[rowOf]
  rcases hx with⟨h1,rfl⟩|⟨h1,lb,hlb,rfl,hq⟩
  ·refine⟨h++[aa i.av],?_,?_,?_,sO.app ZS,ZV⟩
   ·rw[h1];exact QC (T:=T) (t:=73) (e:=133) rfl rfl rfl (x:=i.av) rfl ZT ZT ZT h
   all_goals grind [rowOf]
  ·have hln:=ou (f:=Ins.av) JO c.1;have hok:(rowOf Ins.av c.1).all ay=true:=by
    rw[XJ];intro y hy;simp only[rowOf,List.mem_flatMap,YP]at hy;obtain⟨_,⟨j,_,rfl⟩,hy⟩:=hy;have:y∈j.cells:=hy;simp only[Ins.cells,X7,List.not_mem_nil,or_false]at this;rcases this with rfl|rfl|rfl|rfl|rfl<;>rfl
   refine⟨(h.set lb [])++[rowOf Ins.av c.1++aa i.av],?_,?_,?_,?_,ZV⟩
   ·exact QD (T:=T) (t:=73) (e:=133) rfl rfl rfl (x:=i.av) rfl ZT ZT hq hok hln (Yp.2 h1) ZU
   ·grind
   ·grind
   ·exact (sO.set ZS).trans (sO.app ZX)
 obtain⟨h1,e1,r1,r2,lo,hlen⟩:=hap;rw[hl]at r2;have st:bS T 73 (.hp l 1) (.hs h.length 0 (c.1.length+1) 5 true) h1= .ok (.tup []) (h1.set l [ck vars,.hs h.length 0 (c.1.length+1) 5 true,.int .i64 c.2]):=
  tc (T:=T) (t:=73) rfl (v:=.hs h.length 0 (c.1.length+1) 5 true) r2 rfl (show 1+1<=3 by omega) ZT
 have hl2:(h1.set l [ck vars,.hs h.length 0 (c.1.length+1) 5 true,.int .i64 c.2])[l]? = some [ck vars,.hs h.length 0 (c.1.length+1) 5 true,.int .i64 c.2]:=by
  rw[Yx,Xv rfl,Xv ZS]
 refine⟨_,?_,⟨_,hl2,.inr ⟨by simp[gJ],h.length,ZS,by simp[gJ],?_⟩⟩,lo.trans (sO.set (Xz _))⟩
 ·have ld0:ax T 133 (.ip (aa i.av))=some i.av:=rfl;have bs:aQ T 73 1 [(0,i.av)]=some (.sl [i.av]):=rfl;have ln:bp T 73 (.hs h.length 0 (c.1.length+1) 5 true)=some (.int .i64 ((c.1.length+1:Nat):Int)):=rfl;have hw:IntKind.i64.wrap (((c.1.length+1:Nat):Int)-1)=c.1.length:=by rw[aM ZS ZS];omega
  rw[C94];simp only[S94,HO,ae,fC1];rw[aS (mL hl)];simp only[ld0,bs,ae];rw[aS e1,aS st,aS (mL hl2)];simp only[ln,ae,dY,hw];rfl
 ·rw[Yx,Xr ZS];exact r1
theorem DW(names:List aW)(s:aW)(hb:names.length<=1000000):∀n:Nat,n<=names.length->
  ak (L147_0 (af pg) ak) [strs names,.str s,.int .i64 ((n:Int)-1)]=ao (.int .i64 (uz names s n))
 |0,_=>by
  rw[FL147_0];simp[L147_0,uz]
 |n+1,h=>by
  have ih:=DW names s hb n ZS;have hix:=pI (l:=names) (n:=(n:Int)) ZS ZS;have e:(((n+1:Nat):Int)-1)=n:=ZS
  have hw:IntKind.i64.wrap ((n:Int)-1)=n-1:=aM ZS ZS;have hg:names[n]? = some names[n]!:=by rw[Xx names n ZS];exact XE ZS
  rw[FL147_0,e];simp only[XC]at hix;have hd:decide ((0:Int)<=(n:Int))=true:=XU ZS;simp only[L147_0,am,ar,jq,ae,ai,hd,XF,hix];simp only[uz,hg,Xq];by_cases hn:names[n]! = s
  ·simp[hn]
  ·simp[hn,hw,ih]
def t147(names:List aW)(s:aW)(hb:names.length<=1000000):af pg 147 [strs names,.str s]=ao (.int .i64 (DO names s)):=by
 have h:=DW names s hb names.length (Xz _);have hw:IntKind.i64.wrap ((names.length:Int)-1)=names.length-1:=aM ZS ZS;rw[C147];simp[S147,hw,h,DO]
def t176(x:fF)(s:aW):af pg 176 [dV x,.ip (aa (.str s))]=ao (.bool (x.1== s)):=by
 rw[C176];simp[S176,cl,fp]
def t148{h:Hp}{l:Nat}{vars:List fF}{c:jZ}(H:CS h l vars c)(s:aW)(hb:vars.length<=1000000):af pg 148 [.hp l 0,.str s] h= .ok (.int .i64 (KD vars s)) h:=by
 obtain⟨x,hl,hx⟩:=H;have hi:=t175 (.fn (.func 176) [] [.ip (aa (.str s))]) (fun f=>f.1== s) vars ZS (fun g=>by simp[cl,fp]) (fun x _=>t176 x s);rw[C148];simp only[S148,HO,ae,fC0];rw[aS (JV hl),hi];rfl
def t113(l:List aW)(h:l.length<=8796093022208):af pg 113 [strs l]=ao (strs l):=by
 have e:af pg 113 [strs l]=ep T 31 (af pg) [strs l]:=d9 g8 rfl _;rw[e];show bP (dJ T 31 (.sl []) (strs l))=_
 have:=I8 (a:=[]) (b:=l) ZX
 simp only[X1]at this;show bP (dJ T 31 (strs []) (strs l))=_;rw[this];rfl
theorem t146(n:Int):af pg 146 [.int .i64 n]=ao (lJ n).av:=by
 have hb:cG T false 108 [(0,.int .i64 1),(1,.int .i64 n)]=some (lJ n).av:=rfl;rw[C146];simp[S146,hb]
def wg{A R c:List AV}{off:Nat}(h:off+c.length<=A.length):setCells (A++R) off c=setCells A off c++R:=by
 grind [setCells]
def vl{A R c:List AV}{o:Nat}:setCells (A++R) (A.length+o) c=A++setCells R o c:=by
 simp_all[setCells,List.take_length_add_append,Nat.add_assoc]
theorem qu{α:Type}{f:α->AV}{sz:Nat}(hs:∀x,(aa (f x)).length=sz){y:α}{off:Nat}{c:List AV}(hoff:off+c.length<=sz):∀(l:List α)(k:Nat)(hk:k<l.length),setCells (aa (f l[k])) off c=aa (f y)->setCells (rowOf f l) (k*sz+off) c=rowOf f (l.set k y)
 |x:: l,0,_,h=>by
  simp_all[ji,wg]
 |x:: l,k+1,hk,h=>by
  have e:(k+1)*sz+off=(aa (f x)).length+(k*sz+off):=by rw[hs,Nat.succ_mul];omega
  rw[ji,e,vl,qu hs hoff l k (by simpa using hk) (by simpa using h),Zw,ji]
section
variable (e:Exp)
theorem fE0:ah T 108 (.ip (aa e.av)) 0=some (.ip ((aa e.av).drop 0)):=rfl
theorem fE1:ah T 108 (.ip (aa e.av)) 1=some (.ip ((aa e.av).drop 1)):=rfl
theorem fE2:ah T 108 (.ip (aa e.av)) 2=some (.ip ((aa e.av).drop 2)):=rfl
theorem fE3:ah T 108 (.ip (aa e.av)) 3=some (.ip ((aa e.av).drop 3)):=rfl
theorem fE4:ah T 108 (.ip (aa e.av)) 4=some (.ip ((aa e.av).drop 4)):=rfl
theorem fE5:ah T 108 (.ip (aa e.av)) 5=some (.ip ((aa e.av).drop 5)):=rfl
theorem Wn:ax T 3 (.ip ((aa e.av).drop 0))=some (.int .i64 e.op):=ZW
theorem Vr:ax T 3 (.ip ((aa e.av).drop 1))=some (.int .i64 e.n):=ZW
theorem Ov:ax T 9 (.ip ((aa e.av).drop 2))=some (.str e.s):=ZW
theorem WP:ax T 9 (.ip ((aa e.av).drop 3))=some (.str e.m):=ZW
theorem WQ:ax T 31 (.ip ((aa e.av).drop 4))=some (strs e.names):=ZW
theorem Ny:ax T 50 (.ip ((aa e.av).drop 5))=some (dF e.args):=ZW
theorem Hs:ax T 108 (.ip (aa e.av))=some e.av:=by
 simp_all
end
theorem kY(t:Nat)(a b:Int):cF T .eql t (.int .i64 a) (.int .i64 b)=some (.bool (decide (a=b))):=rfl
theorem KL(a:Int):cG T false 133 [(0,.int .i64 a)]=some (cC a 0).av:=rfl
theorem MI(a n:Int):cG T false 133 [(0,.int .i64 a),(1,.int .i64 n)]=some (cC a n).av:=rfl
theorem WE(a:Int)(l:List aW):cG T false 133 [(0,.int .i64 a),(4,strs l)]=some (Ins.mk a 0 [] [] l).av:=rfl
theorem WF(a:Int)(s:aW):cG T false 133 [(0,.int .i64 a),(2,.str s)]=some (Ins.mk a 0 s [] []).av:=rfl
theorem WG(a n:Int)(s m:aW):cG T false 133 [(0,.int .i64 a),(2,.str s),(3,.str m),(1,.int .i64 n)]=some (Ins.mk a n s m []).av:=rfl
theorem GH{β:Type}(i:Ins)(f:AV->M β):au (bD 5 [] i.av) f=f i.av:=rfl
def Sj(l:List Exp):bp T 50 (dF l)=some (.int .i64 l.length):=qH l
def t151{h:Hp}{l:Nat}{vars:List fF}{c:jZ}(H:CS h l vars c)(hb:vars.length<=1000000)(e:Exp)(hn:e.op=13->e.names.length<=1000000):af pg 151 [.hp l 0,e.av] h= .ok (ru vars e).av h:=by
 rw[C151];simp only[S151,fE0,Wn,ae,kY,ai,Xt];unfold ru;by_cases h3:e.op=3
 ·simp only[Xv h3,KL,ae,GH];rfl
 simp only[Xr h3];by_cases h4:e.op=4
 ·simp only[Xv h4,KL,ae,GH];rfl
 simp only[Xr h4];by_cases h5:e.op=5
 ·simp only[Xv h5,KL,ae,GH];rfl
 simp only[Xr h5];by_cases h6:e.op=6
 ·simp only[Xv h6,KL,ae,GH];rfl
 simp only[Xr h6];by_cases h7:e.op=7
 ·simp only[Xv h7,KL,ae,GH];rfl
 simp only[Xr h7];by_cases h10:e.op=10
 ·simp only[Xv h10,KL,ae,GH];rfl
 simp only[Xr h10];by_cases h13:e.op=13
 ·simp only[Xv h13,fE4,WQ,ae,t113 e.names ZU,aj,WE,GH];rfl
 simp only[Xr h13];by_cases h14:e.op=14
 ·simp only[Xv h14,fE2,Ov,ae,WF,GH];rfl
 simp only[Xr h14];by_cases h15:e.op=15
 ·simp only[Xv h15,fE2,Ov,fE3,WP,fE5,Ny,Sj,ae,WG,GH];rfl
 simp only[Xr h15];by_cases h16:e.op=16
 ·simp only[Xv h16,fE1,Vr,ae,MI,GH];rfl
 simp only[Xr h16,fE2,Ov,ae];rw[aS (t148 H e.s hb)];simp only[MI,ae,GH];rfl
def O5(vars:List fF)(names:List aW)(em:jZ->jZ)(e:Exp)(L:Nat):Prop:=∀(c:jZ)(h:Hp)(l:Nat),CS h l vars c->c.1.length+L<=100000000000->
 ∃h',af pg 93 [.hp l 0,e.av,strs names] h= .ok (.tup []) h'/\CS h' l vars (em c)/\sO l h h'
theorem Wl{lb n k:Nat}(h:k<n):aA T 73 (.hs lb 0 n 5 true) (.int .i64 (k:Int))=some (.hp lb (0+k*5)):=by
 have e:aA T 73 (.hs lb 0 n 5 true) (.int .i64 (k:Int))=if 0<=(k:Int)/\(k:Int)<(n:Int)then some (.hp lb (0+(k:Int).toNat*5))else none:=rfl
 grind
theorem fI1(l k:Nat):ah T 133 (.hp l k) 1=some (.hp l (k+1)):=rfl
def HW{h:Hp}{l:Nat}{vars:List fF}{c:jZ}(H:CS h l vars c)(k:Nat)(n:Int)(hk:k<c.1.length):
  ∃lb h',h[l]? = some [ck vars,.hs lb 0 c.1.length 5 true,.int .i64 c.2]/\bS T 3 (.hp lb (0+k*5+1)) (.int .i64 n) h= .ok (.tup []) h'/\CS h' l vars (rE c.1 k n,c.2)/\sO l h h':=by
 obtain⟨x,hl,hx⟩:=H;rcases hx with⟨h1,rfl⟩|⟨h1,lb,hlb,rfl,hq⟩
 ·grind
 ·have hln:=ou (f:=Ins.av) JO c.1;have hr:setCells (rowOf Ins.av c.1) (k*5+1) [.int .i64 n]=rowOf Ins.av (rE c.1 k n):=by
   unfold rE;rw[Xx c.1 k hk];exact qu JO ZV c.1 k hk rfl
  have hlt:=l6 hq;refine⟨lb,_,hl,tc (T:=T) (t:=3) rfl (v:=.int .i64 n) hq rfl (show 0+k*5+1+1<=(rowOf Ins.av c.1).length by omega) ZT,⟨.hs lb 0 c.1.length 5 true,?_,.inr ⟨?_,lb,hlb,?_,?_⟩⟩,sO.set ZS⟩
  ·grind
  ·grind [nV]
  ·rw[nV]
  simp_all
def t149{vars:List fF}{names:List aW}{em:Exp->jZ->jZ}{yes no:Exp}{L1 L2:Nat}(h1:O5 vars names (em yes) yes L1)(h2:O5 vars names (em no) no L2)(a1:oV (em yes) L1)(a2:oV (em no) L2){c:jZ}{h:Hp}{l:Nat}(H:CS h l vars c)(hb:c.1.length+(L1+L2+2)<=100000000000):∃h',af pg 149 [.hp l 0,yes.av,no.av,strs names] h= .ok (.tup []) h'/\CS h' l vars (iD em yes no c)/\sO l h h':=by
 obtain⟨k1,e1,H1,o1⟩:=t94 H (cC 11 0) ZS;have g1:=dp (cC 11 0) c;dsimp only[iD];generalize gJ (cC 11 0) c=c1 at *;obtain⟨k2,e2,H2,o2⟩:=h1 c1 k1 l H1 ZS;have g2:=a1 c1;generalize em yes c1=c2 at *;obtain⟨k3,e3,H3,o3⟩:=t94 H2 (cC 10 0) ZS;have g3:=dp (cC 10 0) c2;generalize gJ (cC 10 0) c2=c3 at *;obtain⟨lb,k4,r4,e4,H4,o4⟩:=HW H3 c.1.length c3.1.length ZS;have g4:=nV c3.1 c.1.length c3.1.length;obtain⟨k5,e5,H5,o5⟩:=h2 (rE c3.1 c.1.length c3.1.length,c3.2) k4 l H4 ZU;have g5:=a2 (rE c3.1 c.1.length c3.1.length,c3.2);generalize em no (rE c3.1 c.1.length c3.1.length,c3.2)=c5 at *;simp only[g4]at g5;obtain⟨lb2,k6,r6,e6,H6,o6⟩:=HW H5 c2.1.length c5.1.length ZS;refine⟨k6,?_,H6,(((((o1.trans o2).trans o3).trans o4).trans o5).trans o6)⟩;have ln:∀(b n:Nat),bp T 73 (.hs b 0 n 5 true)=some (.int .i64 n):=fun _ _=>rfl;rw[C149];simp -implicitDefEqProofs only[S149,KL,ae];rw[aS e1];simp -implicitDefEqProofs only[Hs,ae];rw[aS e2,aS e3];simp -implicitDefEqProofs only[HO,fC1,ae];rw[aS (mL r4),aS (mL r4)];simp -implicitDefEqProofs only[ln,ae,Wl (lb:=lb) (show c.1.length<c3.1.length by omega),fI1];rw[aS e4,aS e5,aS (mL r6),aS (mL r6)];simp -implicitDefEqProofs only[ln,ae,Wl (lb:=lb2) (show c2.1.length<c5.1.length by omega),fI1];rw[aS e6];rfl
theorem DX{vars:List fF}{names:List aW}{em:Exp->jZ->jZ}{L:Nat}{es:List Exp}(hes:es.length<=1000000){l:Nat}:∀(B A:List Exp)(c:jZ)(h:Hp),A++B=es->(∀x∈B,O5 vars names (em x) x L)->(∀x∈B,oV (em x) L)->CS h l vars c->c.1.length+B.length*L<=100000000000->
  ∃h',ak (L150_0 (af pg) ak) [.hp l 0,strs names,dF es,.int .i64 es.length,.int .i64 A.length] h= .ok (.tup []) h'/\CS h' l vars (B.foldl (fun c x=>em x c) c)/\sO l h h'
 |[],A,c,h,e,_,_,H,_=>by
  subst e;refine⟨h,?_,H,sO.refl _ _⟩;have h1:¬((A.length:Int)<((A++[]).length:Int)):=ZV
  rw[FL150_0];simp only[L150_0,am,ar,aB,ae,ai,Xt,Xr h1];rfl
 |x:: B,A,c,h,e,ho,ha,H,hb=>by
  have hlen:A.length+(B.length+1)=es.length:=by rw[<- e];simp
  have h1:(A.length:Int)<(es.length:Int):=ZS
  have hix:=oB (l:=es) (n:=(A.length:Int)) ZS h1;have hx:es[A.length]! = x:=by rw[Xx es A.length ZS];simp[<- e]
  rw[XC,hx]at hix;have hw:IntKind.i64.wrap ((A.length:Int)+1)=((A++[x]).length:Nat):=by rw[aM ZS ZS];simp
  simp only[XX,Nat.succ_mul]at hb;obtain⟨k1,e1,H1,o1⟩:=ho x ZV c h l H ZS;have g1:=ha x ZV c;obtain⟨k2,e2,H2,o2⟩:=DX hes B (A++[x]) (em x c) k1 ZU (fun y hy=>ho y (by simp[hy])) (fun y hy=>ha y (by simp[hy])) H1 ZS;refine⟨k2,?_,H2,o1.trans o2⟩;rw[FL150_0];simp only[L150_0,am,ar,aB,ae,ai,Xt,Xv h1,hix,Hs,BW,aj];rw[aS e1];simp_all
def t150{vars:List fF}{names:List aW}{em:Exp->jZ->jZ}{L:Nat}{es:List Exp}(hes:es.length<=1000000)(ho:∀x∈es,O5 vars names (em x) x L)(ha:∀x∈es,oV (em x) L){c:jZ}{h:Hp}{l:Nat}(H:CS h l vars c)(hb:c.1.length+es.length*L<=100000000000):
  ∃h',af pg 150 [.hp l 0,dF es,strs names] h= .ok (.tup []) h'/\CS h' l vars (es.foldl (fun c x=>em x c) c)/\sO l h h':=by
 obtain⟨h',e1,H1,o1⟩:=DX hes es [] c h rfl ho ha H hb;simp_all[C150,S150]
def B8{f:FuncId}{args:List AV}{v:AV}(h:af pg f args=ao v):zP (af pg) f args=ao v:=by
 simp_all[zP]
def IK(n:Int):cU (zP (af pg)) (.fn (.func 146) [] []) [.int .i64 n]=ao (lJ n).av:=B8 (t146 n)
section
variable {e:Exp}
theorem JQ(h:0<e.args.length):aA T 50 (dF e.args) (.int .i64 0)=some (.ip (aa e.args[0]!.av)):=oB (l:=e.args) (n:=0) ZS ZS
theorem JR(h:1<e.args.length):aA T 50 (dF e.args) (.int .i64 1)=some (.ip (aa e.args[1]!.av)):=oB (l:=e.args) (n:=1) ZS ZS
theorem Vm(h:2<e.args.length):aA T 50 (dF e.args) (.int .i64 2)=some (.ip (aa e.args[2]!.av)):=oB (l:=e.args) (n:=2) ZS ZS
end
theorem dH{n:Nat}(h:1<=n)(t:Int)(ht:t=0\/t=1):cR n (lJ t)=true:=by
 obtain⟨m,rfl⟩:∃m,n=m+1:=⟨n-1,ZS⟩;rw[fI];rcases ht with rfl|rfl<;>rfl
def WZ(a b:Int):ka true [.int .i64 a,.int .i64 b]=some (.int .i64 (max a b)):=by
 simp_all
theorem dG{α:Type}(a:α):dz (ao a)=ao a:=rfl
theorem Wc(s:aW):aQ T 31 1 [(0,.str s)]=some (strs [s]):=rfl
theorem t93{vars:List fF}(hv:vars.length<=1000000):∀(n:Nat)(e:Exp),cR n e=true->∀names:List aW,names.length+n<=1000000->O5 vars names (bE vars n e names) e (oE n)
 |0,e,h,_,_=>by simp[cR]at h
 | n+1,e,h,names,hn=>by
  have ih:=t93 hv n;have hs:ij e=true:=by rw[fI,Xu]at h;exact h.1
  have hc:=jJ hs;have h8:=Dh hs;intro c hp l H hb;simp only[oE]at hb;rw[C93];simp -implicitDefEqProofs only[S93,fE0,Wn,ae,kY,ai,Xt];unfold bE;by_cases o0:e.op=0
  ·obtain⟨h1,e1,H1,l1⟩:=t94 H (cC 0 e.n) ZS;refine⟨h1,?_,ZU,l1⟩;simp -implicitDefEqProofs only[Xv o0,fE1,Vr,MI,ae];rw[aS e1];rfl
  simp -implicitDefEqProofs only[Xr o0];by_cases o1:e.op=1
  ·obtain⟨h1,e1,H1,l1⟩:=t94 H (cC 1 e.n) ZS;refine⟨h1,?_,ZU,l1⟩;simp -implicitDefEqProofs only[Xv o1,fE1,Vr,MI,ae];rw[aS e1];rfl
  simp -implicitDefEqProofs only[Xr o1];by_cases o2:e.op=2
  ·obtain⟨h1,e1,H1,l1⟩:=t94 H (cC 2 (DO names e.s)) ZS;refine⟨h1,?_,ZU,l1⟩;simp -implicitDefEqProofs only[Xv o2,fE2,Ov,ae,t147 names e.s ZS,aj,MI];rw[aS e1];rfl
  simp -implicitDefEqProofs only[Xr o2];by_cases o17:e.op=17
  ·obtain⟨h1,e1,H1,l1⟩:=t94 H (cC 16 (KD vars e.s)) ZS;refine⟨h1,?_,ZU,l1⟩;simp -implicitDefEqProofs only[Xv o17,fE2,Ov,ae];rw[aS (t148 H e.s hv)];simp -implicitDefEqProofs only[MI,ae];rw[aS e1];rfl
  simp -implicitDefEqProofs only[Xr o17];by_cases o8:e.op=8
  ·have hl:e.args.length=2:=ZS
   have r0:=dt h (k:=0) ZS;have r1:=dt h (k:=1) ZS;have hn1:1<=n:=by obtain⟨m,rfl⟩:=fe r0;omega
   have rt:=dH hn1 0 (.inl rfl);obtain⟨h1,e1,H1,l1⟩:=ih _ r0 names ZS c hp l H ZS;have g1:=cH vars _ _ r0 names c;obtain⟨h2,e2,H2,l2⟩:=t149 (em:=fun x=>bE vars n x names) (ih _ r1 names ZS) (ih _ rt names ZS) (cH vars _ _ r1 names) (cH vars _ _ rt names) H1 ZS;refine⟨h2,?_,ZU,l1.trans l2⟩;simp -implicitDefEqProofs only[Xv o8,fE5,Ny,ae,JQ (e:=e) ZS,Hs];rw[aS e1];simp -implicitDefEqProofs only[ae,JR (e:=e) ZS,Hs,IK,aj];rw[aS e2];rfl
  simp -implicitDefEqProofs only[Xr o8];by_cases o9:e.op=9
  ·have hl:e.args.length=2:=ZS
   have r0:=dt h (k:=0) ZS;have r1:=dt h (k:=1) ZS;have hn1:1<=n:=by obtain⟨m,rfl⟩:=fe r0;omega
   have rt:=dH hn1 1 (.inr rfl);obtain⟨h1,e1,H1,l1⟩:=ih _ r0 names ZS c hp l H ZS;have g1:=cH vars _ _ r0 names c;obtain⟨h2,e2,H2,l2⟩:=t149 (em:=fun x=>bE vars n x names) (ih _ rt names ZS) (ih _ r1 names ZS) (cH vars _ _ rt names) (cH vars _ _ r1 names) H1 ZS;refine⟨h2,?_,ZU,l1.trans l2⟩;simp -implicitDefEqProofs only[Xv o9,fE5,Ny,ae,JQ (e:=e) ZS,Hs];rw[aS e1];simp -implicitDefEqProofs only[ae,JR (e:=e) ZS,Hs,IK,aj];rw[aS e2];rfl
  simp -implicitDefEqProofs only[Xr o9];by_cases o11:e.op=11
  ·have hl:e.args.length=3:=ZS
   have r0:=dt h (k:=0) ZS;have r1:=dt h (k:=1) ZS;have r2:=dt h (k:=2) ZS;obtain⟨h1,e1,H1,l1⟩:=ih _ r0 names ZS c hp l H ZS;have g1:=cH vars _ _ r0 names c;obtain⟨h2,e2,H2,l2⟩:=t149 (em:=fun x=>bE vars n x names) (ih _ r1 names ZS) (ih _ r2 names ZS) (cH vars _ _ r1 names) (cH vars _ _ r2 names) H1 ZS;refine⟨h2,?_,ZU,l1.trans l2⟩;simp -implicitDefEqProofs only[Xv o11,fE5,Ny,ae,JQ (e:=e) ZS,Hs];rw[aS e1];simp -implicitDefEqProofs only[ae,JR (e:=e) ZS,Vm (e:=e) ZS,Hs];rw[aS e2];rfl
  simp -implicitDefEqProofs only[Xr o11];by_cases o12:e.op=12
  ·have hl:e.args.length=2:=ZS
   have r0:=dt h (k:=0) ZS;have r1:=dt h (k:=1) ZS;obtain⟨h1,e1,H1,l1⟩:=ih _ r0 names ZS c hp l H ZS;have g1:=cH vars _ _ r0 names c;simp -implicitDefEqProofs only[Xv o12];generalize bE vars n e.args[0]! names c=c1 at *;obtain⟨h2,e2,H2,l2⟩:=t94 H1 (cC 3 names.length) ZS;have g2:=dp (cC 3 names.length) c1;generalize gJ (cC 3 names.length) c1=c2 at *;obtain⟨x,hx,cx⟩:=H2;have hlt:=l6 hx;have st:bS T 3 (.hp l 2) (.int .i64 (max c2.2 ((names.length:Int)+1))) h2= .ok (.tup []) (h2.set l [ck vars,x,.int .i64 (max c2.2 ((names.length:Int)+1))]):=
    tc (T:=T) (t:=3) rfl (v:=.int .i64 (max c2.2 ((names.length:Int)+1))) hx rfl (show 2+1<=3 by omega) ZT
   have H3:CS (h2.set l [ck vars,x,.int .i64 (max c2.2 ((names.length:Int)+1))]) l vars (c2.1,max c2.2 ((names.length:Int)+1)):=by
    refine⟨x,ZU,?_⟩;rcases cx with cx|⟨z1,lb,z2,z3,z4⟩
    ·exact .inl cx
    ·exact .inr ⟨z1,lb,z2,z3,ZU⟩
   obtain⟨h3,e3,H4,l3⟩:=ih _ r1 (names++[e.s]) ZX _ _ l H3 ZU;refine⟨h3,?_,H4,((l1.trans l2).trans (sO.set (Xz _))).trans l3⟩;have hw:IntKind.i64.wrap ((names.length:Int)+1)=names.length+1:=aM ZS ZS;have hap:dJ T 31 (strs names) (strs [e.s])=some (strs (names++[e.s])):=I8 ZX;simp -implicitDefEqProofs only[fE5,Ny,ae,JQ (e:=e) ZS,Hs];rw[aS e1];simp -implicitDefEqProofs only[ae,iB,MI];rw[aS e2];simp -implicitDefEqProofs only[ae,HO,fC2];rw[aS (Hz hx)];simp -implicitDefEqProofs only[ae,iB,bm,hw,WZ];rw[aS st];simp -implicitDefEqProofs only[ae,fE5,Ny,JR (e:=e) ZS,Hs,t113 names ZS,dG,aj,fE2,Ov,Wc,hap];rw[aS e3];rfl
  simp -implicitDefEqProofs only[Xr o12];have hm:e.args.length*oE n<=8*oE n:=XB _ h8;obtain⟨h1,e1,H1,l1⟩:=t150 (em:=fun x=>bE vars n x names) (L:=oE n) (es:=e.args) ZS (fun x hx=>ih x (gA h hx) names ZS) (fun x hx=>cH vars n x (gA h hx) names) H ZS;have g1:=ua (fun x=>bE vars n x names) (oE n) e.args (fun x hx=>cH vars n x (gA h hx) names) c;dsimp only at g1 H1;generalize e.args.foldl (fun c x=>bE vars n x names c) c=c1 at *;obtain⟨h2,e2,H2,l2⟩:=t94 H1 (ru vars e) ZS;have hpl:=t151 H1 hv e (fun h13=>ZU);refine⟨h2,?_,H2,l1.trans l2⟩;simp -implicitDefEqProofs only[fE5,Ny,ae];rw[aS e1];simp -implicitDefEqProofs only[ae,Hs];rw[aS hpl,aS e2];rfl
theorem GX(k:Int)(es:List Exp):cG T false 108 [(0,.int .i64 k),(5,dF es)]=some (Exp.mk k 0 [] [] [] es).av:=rfl
def B4(e:Exp):cg 6 e.av=ao e.av:=ZW
def GI(e:Exp):bD 6 [] e.av=ao e.av:=ZW
def f6(o n:Int)(s m:aW)(ns:List aW)(es:List Exp):AV.agg [.int .i64 o,.int .i64 n,.str s,.str m,strs ns,dF es]=(Exp.mk o n s m ns es).av:=lS (Exp.mk o n s m ns es)
def We(o n:Int)(s m:aW)(es:List Exp):AV.agg [.int .i64 o,.int .i64 n,.str s,.str m,.sl [],dF es]=(Exp.mk o n s m [] es).av:=lS (Exp.mk o n s m [] es)
def DK(e:Exp)(n:Int):bn (ao (.tup [e.av,.int .i64 n]))=ao (.tup [e.av,.int .i64 n]):=dj fun g=>by simp[cl,fp]
def iT(o n:Int)(s m:aW)(ns:List aW)(es:List Exp):aa (Exp.mk o n s m ns es).av=[.int .i64 o,.int .i64 n,.str s,.str m,strs ns,dF es]:=cu _
def t173(e:Exp):af pg 173 [e.av]=ao (.tup [(iY e).1.av,.int .i64 (iY e).2]):=by
 have hc1:∀n:Int,gL (.int .i64 n)=ao (.int .i64 n):=fun n=>rfl;have hc2:∀s:aW,gL (.str s)=ao (.str s):=fun s=>rfl;have hc3:∀s:List aW,gL (strs s)=ao (strs s):=fun s=>rfl;rw[C173];obtain⟨o,n,s,m,ns,es⟩:=e;have ho:o=0\/o=1\/o=2\/o=17\/o=18\/o=14\/o=16\/o=10\/o=12\/o=11\/o=13\/o=15\/(o≠0/\o≠1/\o≠2/\o≠17/\o≠18/\o≠14/\o≠16/\o≠10/\o≠12/\o≠11/\o≠13/\o≠15):=ZS
 rcases ho with rfl|rfl|rfl|rfl|rfl|rfl|rfl|rfl|rfl|rfl|rfl|rfl|⟨h0,h1,h2,h17,h18,h14,h16,h10,h12,h11,h13,h15⟩
 all_goals first
  | (simp[S173,K173_0,K173_1,K173_2,GX,GI,iT,f6,We,hc1,hc2,hc3,iY,Exp.op,Exp.n,Exp.s,Exp.m,Exp.names,Exp.args]
     exact DK _ _)
  | (simp[S173,K173_0,K173_1,K173_2,GX,GI,iT,f6,We,hc1,hc2,hc3,iY,Exp.op,Exp.n,Exp.s,Exp.m,Exp.names,Exp.args,h0,h1,h2,h17,h18,h14,h16,h10,h12,h11,h13,h15]
     exact DK _ _)
theorem HL(e:Exp)(he:e.Lim):ak (L174_0 (af pg) ak) [.ip (aa e.av),strs e.names,.int .i64 e.names.length,.int .i64 0]=ao (.bool (jS e.names)):=by
 have hlen:=he.names
 have hloop:∀(m i:Nat),e.names.length-i=m->i<=e.names.length->ak (L174_0 (af pg) ak) [.ip (aa e.av),strs e.names,.int .i64 e.names.length,.int .i64 i]=ao (.bool ((List.range' i (e.names.length-i)).all (fun k=>cq e.names[k]! && (decide (k=0)||eE e.names[k-1]! e.names[k]!))&&decide (e.names.length<=8))):=by
  intro m
  induction m with
  |zero=>
   intro i hm hi;rw[FL174_0,hm];have h1:¬((i:Int)<(e.names.length:Int)):=ZS
   have h2:decide ((e.names.length:Int)<=8)=decide (e.names.length<=8):=by rw[Yr];omega
   simp[L174_0,h1,h2]
  | succ m ih=>
   intro i hm hi;have hlt:i<e.names.length:=ZS
   have h1:(i:Int)<(e.names.length:Int):=ZS
   have ih':=ih (i+1) ZS ZS;have er:List.range' i (e.names.length-i)=i:: List.range' (i+1) (e.names.length-(i+1)):=by
    rw[show e.names.length-i=(e.names.length-(i+1))+1 by omega,List.range'_succ]
   have hix:=pI (l:=e.names) (n:=(i:Int)) ZS h1;rw[XC]at hix;have hw:IntKind.i64.wrap ((i:Int)+1)=((i+1:Nat):Int):=aZ ZS;have h2:=t88 e.names[i]!;rw[FL174_0,er,XP];generalize e.names[i]! = s at hix h2 |-;cases hn:cq s with
   |false=>
    simp_all[L174_0]
   | true=>
    rw[hn]at h2;rcases Yc i with hk0|hk0
    ·subst hk0;have hix0:aA T 31 (strs e.names) (.int .i64 0)=some (.ip (aa (.str s))):=hix;have hw0:IntKind.i64.wrap 1=1:=rfl;simp_all[L174_0]
    ·have hp:IntKind.i64.wrap ((i:Int)-1)=((i-1:Nat):Int):=by
      rw[aM ZS ZS];omega
     have h4:((i-1:Nat):Int)<(e.names.length:Int):=ZS
     have hix2:=pI (l:=e.names) (n:=((i-1:Nat):Int)) ZS h4;rw[XC]at hix2;generalize e.names[i-1]! = g at hix2 |-;have hk2:0<(i:Int):=ZS
     have hk3:¬i=0:=ZS
     have hle:cF T .leq 9 (.str s) (.str g)=some (.bool (!(eE g s))):=by
      have:cF T .leq 9 (.str s) (.str g)=some (.bool (bU s g||s== g)):=rfl;rw[this];simp[eE]
     cases hs:eE g s with
     |false=>
      simp_all[L174_0]
     |true=>
      simp_all[L174_0]
 have h:=hloop e.names.length 0 rfl (XN _);rw[Y5,xY]at h;exact h
theorem t174(e:Exp)(he:e.Lim):af pg 174 [e.av]=ao (.bool (iG e)):=by
 rw[C174];have hs:=t88 e.s;have hm:=t88 e.m;have hbn:=HL e he;obtain⟨o,n,s,m,ns,es⟩:=e;simp only[iT,Exp.names]at hbn;simp only[Exp.s,Exp.m]at hs hm;have ho:o=0\/o=1\/o=2\/o=17\/o=18\/o=14\/o=16\/o=12\/o=13\/o=15\/(o≠0/\o≠1/\o≠2/\o≠17/\o≠18/\o≠14/\o≠16/\o≠12/\o≠13/\o≠15):=ZS
 rcases ho with rfl|rfl|rfl|rfl|rfl|rfl|rfl|rfl|rfl|rfl|⟨h0,h1,h2,h17,h18,h14,h16,h12,h13,h15⟩
 ·simp[S174,K174_0,iT,iG,Exp.op,Exp.n,Exp.s,Exp.m,Exp.names,Exp.args];rfl
 ·simp_all[S174,iG,Exp.op]
 ·simp_all[S174,K174_0,iG,Exp.op,Exp.s]
 ·simp_all[S174,K174_0,iG,Exp.op,Exp.s]
 ·simp_all[S174,K174_0,iG,Exp.op,Exp.s]
 ·simp_all[S174,K174_0,iG,Exp.op,Exp.s]
 ·simp_all[S174,iG,Exp.op]
 ·simp_all[S174,K174_0,iG,Exp.op,Exp.s]
 ·simp_all[S174,K174_0,iG,Exp.op,Exp.n,Exp.s,Exp.m,Exp.names,Exp.args]
 ·have e6:cF T .leq 3 (.int .i64 es.length) (.int .i64 6)=some (.bool (decide (es.length<=6))):=by
   have:cF T .leq 3 (.int .i64 es.length) (.int .i64 6)=some (.bool (decide ((es.length:Int)<=6))):=rfl;rw[this];exact X4 (fun b=>some (AV.bool b)) (Yr.2 ZS)
  cases ha:cq s with
  |false=>simp_all[S174,K174_0,iG,Exp.op,Exp.s]
  | true=>
   rw[ha]at hs;by_cases hme:m=[]
   ·simp[S174,K174_0,iT,iG,Exp.op,Exp.n,Exp.s,Exp.m,Exp.names,Exp.args,hs,ha,hme,e6,-fm];try rfl
   ·cases hb:cq m with
    |false=>rw[hb]at hm;simp[S174,K174_0,iT,iG,Exp.op,Exp.n,Exp.s,Exp.m,Exp.names,Exp.args,hs,hm,ha,hb,hme,e6,-fm];try rfl
    |true=>rw[hb]at hm;simp[S174,K174_0,iT,iG,Exp.op,Exp.n,Exp.s,Exp.m,Exp.names,Exp.args,hs,hm,ha,hb,hme,e6,-fm];try rfl
 simp_all[S174,K174_0,iG,Exp.op]
theorem t145:∀(d:Nat),d<=100->∀(e:Exp),e.Lim->af pg 145 [e.av,.int .i64 d]=ao (.bool (cR d e))
 |0,_,e,_=>by
  rw[C145];simp[S145,cR]
 | d+1,hd,e,he=>by
  have hlen:=he.len;have hd1:IntKind.i64.wrap (((d+1:Nat):Int)-1)=(d:Int):=xN ZS;have hloop:∀(m i:Nat),e.args.length-i=m->i<=e.args.length->ak (L145_0 (af pg) ak) [.int .i64 ((d+1:Nat):Int),dF e.args,.int .i64 e.args.length,.int .i64 i]=ao (.bool ((e.args.drop i).all (cR d))):=by
   intro m
   induction m with
   |zero=>
    intro i hm hi;have h1:¬((i:Int)<(e.args.length:Int)):=ZS
    have h2:e.args.drop i=[]:=List.drop_eq_nil_of_le ZS;rw[FL145_0,h2];simp[L145_0,h1]
   |succ m ih=>
    intro i hm hi;have hlt:i<e.args.length:=ZS
    have h1:(i:Int)<(e.args.length:Int):=ZS
    have h2:e.args.drop i=e.args[i]:: e.args.drop (i+1):=List.drop_eq_getElem_cons hlt;have hix:=oB (l:=e.args) (n:=(i:Int)) ZS h1;rw[XC,Xx e.args i hlt]at hix;have hw:IntKind.i64.wrap ((i:Int)+1)=((i+1:Nat):Int):=aZ ZS;have hb:=t145 d ZS e.args[i] (he.kid (XG hlt));have ih':=ih (i+1) ZS ZS;rw[h2,XP,FL145_0];generalize e.args[i]=x at hix hb |-;cases hr:cR d x<;>rw[hr]at hb <;>
    simp only[L145_0,am,ar,aB,ae,h1,XY,ai,XF,hix,cu,LD108,XX,Yi,XI,Nat.reduceAdd,Xz,Yq,Yl,lS,B4,aj,dY,hd1,hb,bi,X3,XR,Xs,Xy,bm,hw,ih',Yu,Yw]
  have hx':ak (L145_0 (af pg) ak) [.int .i64 ((d:Int)+1),dF e.args,.int .i64 e.args.length,.int .i64 0]=ao (.bool (e.args.all (cR d))):=hloop e.args.length 0 rfl (XN _);have hc:=t173 e;have hl:=t174 e he;rw[C145,fI];unfold ij;generalize (iY e).1=c at hc |-;generalize (iY e).2=n at hc |-;have g1:(((d:Int)+1)== 0)=false:=by rw[YW];omega
  have x0:dy (.tup [c.av,.int .i64 n]) 0=some c.av:=rfl;have x1:dy (.tup [c.av,.int .i64 n]) 1=some (.int .i64 n):=rfl;have e1:cF T .neq 3 (.int .i64 c.n) (.int .i64 e.n)=some (.bool (!(c.n== e.n))):=rfl;have e2:cF T .neq 9 (.str c.s) (.str e.s)=some (.bool (!(c.s== e.s))):=rfl;have e3:cF T .neq 9 (.str c.m) (.str e.m)=some (.bool (!(c.m== e.m))):=rfl;have e4:cF T .neq 3 (.int .i64 c.names.length) (.int .i64 e.names.length)=some (.bool (!((c.names.length:Int)== (e.names.length:Int)))):=rfl;have e5:cF T .neq 3 (.int .i64 n) (.int .i64 e.args.length)=some (.bool (!(n== (e.args.length:Int)))):=rfl;have e6:cF T .geq 3 (.int .i64 n) (.int .i64 0)=some (.bool (!(decide (n<0)))):=by
   have:cF T .geq 3 (.int .i64 n) (.int .i64 0)=some (.bool (decide (0<=n))):=rfl;rw[this,<- Zr];exact X4 (fun b=>some (AV.bool b)) (Yr.2 ZS)
  have e7:cF T .lss 3 (.int .i64 e.op) (.int .i64 0)=some (.bool (!(decide (0<=e.op)))):=by
   have:cF T .lss 3 (.int .i64 e.op) (.int .i64 0)=some (.bool (decide (e.op<0))):=rfl;rw[this,<- Zr];exact X4 (fun b=>some (AV.bool b)) (Yr.2 ZS)
  have e8:cF T .geq 3 (.int .i64 e.op) (.int .i64 19)=some (.bool (!(decide (e.op<19)))):=by
   have:cF T .geq 3 (.int .i64 e.op) (.int .i64 19)=some (.bool (decide (19<=e.op))):=rfl;rw[this,<- Zr];exact X4 (fun b=>some (AV.bool b)) (Yr.2 ZS)
  generalize (c.n== e.n)=b1 at e1 |-;generalize (c.s== e.s)=b2 at e2 |-;generalize (c.m== e.m)=b3 at e3 |-;generalize ((c.names.length:Int)== (e.names.length:Int))=b4 at e4 |-;generalize (n== (e.args.length:Int))=b5 at e5 |-;generalize decide (n<0)=b6 at e6 |-;generalize decide (0<=e.op)=b7 at e7 |-;generalize decide (e.op<19)=b8 at e8 |-;generalize iG e=bl at hl |-;generalize e.args.all (cR d)=bx at hx' |-;cases b7 with
  |false=>simp[S145,g1,e7,-aB]
  | true=>
   cases b8 with
   |false=>simp_all[S145]
   |true=>
    cases b6<;>cases b5<;>cases b1<;>cases b2<;>cases b3<;>cases b4<;>cases bl<;>simp[S145,g1,hc,x0,x1,B4,hl,hx',e1,e2,e3,e4,e5,e6,e7,e8,-aB,-jq,-fY]
def t91(e:Exp)(he:e.Lim):af pg 91 [e.av]=ao (.bool (FE e)):=by
 have hb':af pg 145 [e.av,.int .i64 12]=ao (.bool (cR 12 e)):=t145 12 ZS e he;rw[C91];simp[S91,hb']
def setRow(ns:List aW):List AV:=ns.map fun s=>.tup [.str s,.bool true]
theorem M8(a b:aW):qR T 20 9 (.str a) (.str b)=some (a== b):=rfl
theorem qV(s:aW):(ns:List aW)->(i:Nat)->(ns.contains s=false/\eO T 9 (.str s) (setRow ns) i=some none)\/(ns.contains s=true/\∃(j:Nat)(k:AV),eO T 9 (.str s) (setRow ns) i=some (some (j,k,.bool true)))
 |[],i=>.inl ⟨rfl,rfl⟩
 | x:: ns,i=>by
  show (_/\eO T 9 (.str s) (.tup [.str x,.bool true]:: setRow ns) i=_)\/(_/\∃(j:Nat)(k:AV),eO T 9 (.str s) (.tup [.str x,.bool true]:: setRow ns) i=_);unfold eO;rw[M8,List.contains_cons];cases h:s== x with
  |true=>grind
  |false=>
   rcases qV s ns (i+1)with⟨h1,h2⟩|⟨h1,j,k,h2⟩
   all_goals grind
theorem uG{h:Hp}{l:Nat}{ns:List aW}(hl:h[l]? = some [.tup (setRow ns)])(s:aW):ec T 149 (.mp l) (.str s) false h= .ok (.bool (ns.contains s)) h:=by
 have e:oP T 149 (setRow ns) (.str s) false=(match eO T 9 (.str s) (setRow ns) 0 with
   |some (some (_,_,v))=>some v
   |some none=>some (.bool false)
   |none=>none):=rfl
 grind [ec,mX,qV]
theorem yN{h:Hp}{l:Nat}{ns:List aW}(hl:h[l]? = some [.tup (setRow ns)])(s:aW)(hs:ns.contains s=false):oG T 149 (.mp l) (.str s) (.bool true) h= .ok (.tup []) (h.set l [.tup (setRow (ns++[s]))]):=by
 have e:oG T 149 (.mp l) (.str s) (.bool true) h=(match h[l]? with
   |some [.tup es]=>(match we T 9 es (.str s) (.bool true)with
    |some es'=>.ok (.tup []) (h.set l [.tup es'])
    |none=>.fail)
   |_=>.fail):=rfl
 grind [we,qV,setRow]
theorem kg{α β:Type}{m:M α}{a:α}{h h':Hp}(e:m h= .ok a h')(f:α->M β):au m f h=f a h':=by simp only[au,e]
theorem mJ{α:Type}(F:α->Bool):(l:List α)->(i:Int)->(l.find? F=none/\aY F l i= -1)\/∃(k:Nat)(x:α),l.find? F=some x/\l[k]? = some x/\aY F l i=i+k
 |[],i=>.inl ⟨rfl,rfl⟩
 | x:: l,i=>by
  cases h:F x with
  |true=>exact .inr ⟨0,x,by simp[h],rfl,by simp[aY,h]⟩
  |false=>
   rcases mJ F l (i+1)with⟨h1,h2⟩|⟨k,y,h1,h2,h3⟩
   ·grind [aY]
   ·exact .inr ⟨k+1,y,by simp[h,h1],by simpa using h2,by simp[aY,h,h3];omega⟩
theorem NJ(l:List fF)(hb:l.length<=140737488355328)(ht:∀f∈l,f.2.Lim)(most:Int)(q:Nat):∀(n i:Nat),l.length-i=n->i<=l.length->∀(seen:List aW)(h:Hp),h[q]? = some [.tup (setRow seen)]->
  ∃h',ak (L89_0 (af pg) ak) [ck l,.int .i64 most,.mp q,ck l,.int .i64 l.length,.int .i64 i] h= .ok (.bool (AX seen (l.drop i)&&decide ((l.length:Int)<=most))) h':=by
 intro n
 induction n with
 |zero=>
  intro i hn hi seen h hq;rw[FL89_0];have h1:¬((i:Int)<(l.length:Int)):=ZS
  have h2:l.drop i=[]:=List.drop_eq_nil_of_le ZS;rw[h2];exact⟨h,by simp[L89_0,h1,AX,ao]⟩
 | succ n ih=>
  intro i hn hi seen h hq;have hlt:i<l.length:=ZS
  have h1:(i:Int)<(l.length:Int):=ZS
  have h2:l.drop i=l[i]:: l.drop (i+1):=List.drop_eq_getElem_cons hlt;have hw:IntKind.i64.wrap ((i:Int)+1)=((i+1:Nat):Int):=aZ ZS;have hix:=xR (l:=l) (n:=(i:Int)) ZS h1;rw[XC,Xx l i hlt]at hix;have hfl:=ht _ (XG hlt);have ih':=fun s=>ih (i+1) ZS ZS (seen++[s]) (h.set q [.tup (setRow (seen++[s]))]);have hql:q<h.length:=(XA.1 hq).1;rw[h2];generalize l[i]=f at hix hfl |-;have hlk:=uG hq f.1;have hnm:=t88 f.1;have hty:=t90 f.2 hfl;have hcf:cg 3 (dV f)=ao (dV f):=by rw[bc (uP f),mh,Ad]
  generalize hcode:ak (L89_0 (af pg) ak) [ck l,.int .i64 most,.mp q,ck l,.int .i64 l.length,.int .i64 i] h=code;rw[FL89_0]at hcode;simp -implicitDefEqProofs only[L89_0,am,ar,aB,ae,h1,XY,ai,XF,hix,mh,LD154,XX,Yi,XI,Nat.reduceAdd,Xz,Yq,Yl,Ad,hcf,aj,FA154_0,FA154_1,XK,XQ,LD9]at hcode;rw[kg hlk]at hcode;have eo:AX seen (f:: l.drop (i+1))=(!(seen.contains f.1)&&cq f.1&&jV f.2&&AX (seen++[f.1]) (l.drop (i+1))):=rfl;rw[eo];cases hc:seen.contains f.1 with
  |true=>
   rw[hc]at hcode;refine⟨h,?_⟩;rw[<- hcode];simp[ao]
  | false=>
   rw[hc]at hcode;cases hn2:cq f.1 with
   |false=>
    rw[hn2]at hnm;refine⟨h,?_⟩;simp_all[ao]
   | true=>
    rw[hn2]at hnm;cases hr:jV f.2 with
    |false=>
     rw[hr]at hty;refine⟨h,?_⟩;simp_all[ao]
    |true=>
     rw[hr]at hty;obtain⟨h',e'⟩:=ih' f.1 ZU;refine⟨h',?_⟩;have hp:=yN hq f.1 hc;rw[<- hcode];simp -implicitDefEqProofs only[hnm,hty,aj,bv,bi,XR,X3,am,cr,ai,Xs,Xy,LD106,XX,Yi,XI,Nat.reduceAdd,Xz,XF,Yq,Yl,DF,ae];rw[kg hp];simp_all
theorem t89(l:List fF)(hb:l.length<=140737488355328)(ht:∀f∈l,f.2.Lim)(most:Int):af pg 89 [ck l,.int .i64 most]=ao (.bool (iJ l most)):=by
 obtain⟨h',e⟩:=NJ l hb ht most 0 l.length 0 rfl (XN _) [] ([]++[[.tup []]]) rfl;rw[XK]at e;rw[C89];funext hp;have key:S89 (af pg) ak (cl aF (ck l)) (cl aF (.int .i64 most)) []= .ok (.bool (iJ l most)) h':=by
  rw[ye,yf];have hn:ga []= .ok (.mp 0) ([]++[[.tup []]]):=rfl;simp -implicitDefEqProofs only[S89];rw[kg hn];simp only[ni,ae];exact e
 show bn _ hp=R.ok (.bool (iJ l most)) hp;unfold bn;rw[key];rfl
def t92(l:List Exp)(hb:l.length<=140737488355328)(ht:∀e∈l,e.Lim)(n:Int):af pg 92 [dF l,.int .i64 n]=ao (.bool (l.all FE&&((l.length:Int)== n))):=by
 have hloop:∀(m i:Nat),l.length-i=m->i<=l.length->ak (L92_0 (af pg) ak) [dF l,.int .i64 n,dF l,.int .i64 l.length,.int .i64 i]=ao (.bool ((l.drop i).all FE&&((l.length:Int)== n))):=by
  intro m
  induction m with
  |zero=>
   intro i hm hi;rw[FL92_0];have h1:¬((i:Int)<(l.length:Int)):=ZS
   have h2:l.drop i=[]:=List.drop_eq_nil_of_le ZS;simp[L92_0,h1,h2]
  |succ m ih=>
   intro i hm hi;have hlt:i<l.length:=ZS
   have h1:(i:Int)<(l.length:Int):=ZS
   have h2:l.drop i=l[i]:: l.drop (i+1):=List.drop_eq_getElem_cons hlt;have hw:IntKind.i64.wrap ((i:Int)+1)=((i+1:Nat):Int):=aZ ZS;have hix:=oB (l:=l) (n:=(i:Int)) ZS h1;rw[XC,Xx l i hlt]at hix;have hr:=t91 l[i] (ht _ (XG hlt));have ih':=ih (i+1) ZS ZS;rw[h2,XP,FL92_0];generalize l[i]=e at hix hr |-;cases hb2:FE e<;>rw[hb2]at hr <;>
   simp only[L92_0,am,ar,aB,ae,h1,XY,ai,XF,hix,cu,LD108,XX,Yi,XI,Nat.reduceAdd,Xz,Yq,Yl,lS,B4,aj,hr,bi,XR,X3,Xs,Xy,bm,hw,ih',Yw,Yu]
 have h:=hloop l.length 0 rfl (XN _);rw[XK]at h;have h':ak (L92_0 (af pg) ak) [dF l,.int .i64 n,dF l,.int .i64 l.length,.int .i64 0]=ao (.bool (l.all FE&&((l.length:Int)== n))):=h;rw[C92];simp[S92,h']
def JB(f:Fun):cg 12 f.av=ao f.av:=ZW
theorem J4(m:Ap.Mod)(hm:m.Lim)(q:Nat)(R:Bool)(hend:∀h:Hp,∃h',ak (L40_0 (af pg) ak) [.ip (aa m.av),.mp q,iP m.funcs,.int .i64 m.funcs.length,.int .i64 m.funcs.length] h= .ok (.bool R) h'):∀(n i:Nat),m.funcs.length-i=n->i<=m.funcs.length->∀(seen:List aW)(h:Hp),h[q]? = some [.tup (setRow seen)]->
  ∃h',ak (L40_0 (af pg) ak) [.ip (aa m.av),.mp q,iP m.funcs,.int .i64 m.funcs.length,.int .i64 i] h= .ok (.bool (su seen (m.funcs.drop i)&&R)) h':=by
 have hb:=hm.funcs;intro n
 induction n with
 |zero=>
  intro i hn hi seen h hq;have h2:m.funcs.drop i=[]:=List.drop_eq_nil_of_le ZS;obtain rfl:i=m.funcs.length:=ZS
  rw[h2];exact hend h
 | succ n ih=>
  intro i hn hi seen h hq;have hlt:i<m.funcs.length:=ZS
  have h1:(i:Int)<(m.funcs.length:Int):=ZS
  have h2:m.funcs.drop i=m.funcs[i]:: m.funcs.drop (i+1):=List.drop_eq_getElem_cons hlt;have hw:IntKind.i64.wrap ((i:Int)+1)=((i+1:Nat):Int):=aZ ZS;have hix:=Eu (l:=m.funcs) (n:=(i:Int)) ZS h1;rw[XC,Xx m.funcs i hlt]at hix;have hfl:=hm.fns _ (XG hlt);have ih':=fun s=>ih (i+1) ZS ZS (seen++[s]) (h.set q [.tup (setRow (seen++[s]))]);have hql:q<h.length:=(XA.1 hq).1;rw[h2];generalize m.funcs[i]=f at hix hfl |-;have hlk:=uG hq f.name;have hnm:=t88 f.name;have hps:=t89 f.params hfl.params hfl.pty 6;have hty:=t90 f.result hfl.result;have hre:=t91 f.body hfl.body;have hex:cF T .andNot 3 (.int .i64 f.effects) (.int .i64 15)=some (.int .i64 (mD f.effects 15)):=rfl;generalize hcode:ak (L40_0 (af pg) ak) [.ip (aa m.av),.mp q,iP m.funcs,.int .i64 m.funcs.length,.int .i64 i] h=code;rw[FL40_0]at hcode;simp -implicitDefEqProofs only[L40_0,am,ar,aB,ae,h1,XY,ai,XF,hix,mi,LD110,XX,Yi,XI,Nat.reduceAdd,Xz,Yq,Yl,G9,JB,aj,FA110_0,XK,LD9]at hcode;rw[kg hlk]at hcode;have eo:su seen (f:: m.funcs.drop (i+1))=(!(seen.contains f.name)&&E8 f&&su (seen++[f.name]) (m.funcs.drop (i+1))):=rfl;rw[eo];unfold E8;cases hc:seen.contains f.name with
  |true=>
   rw[hc]at hcode;refine⟨h,?_⟩;rw[<- hcode];simp[ao]
  | false=>
   rw[hc]at hcode;cases hn2:cq f.name with
   |false=>rw[hn2]at hnm;refine⟨h,?_⟩;rw[<- hcode];simp[hnm,ao]
   | true=>
    rw[hn2]at hnm;cases hp2:iJ f.params 6 with
    |false=>rw[hp2]at hps;refine⟨h,?_⟩;rw[<- hcode];simp[hnm,hps,ao]
    | true=>
     rw[hp2]at hps;cases hr:jV f.result with
     |false=>rw[hr]at hty;refine⟨h,?_⟩;simp_all[ao]
     | true=>
      rw[hr]at hty;cases hrb:FE f.body with
      |false=>rw[hrb]at hre;refine⟨h,?_⟩;simp_all[ao]
      | true=>
       rw[hrb]at hre;by_cases he:mD f.effects 15=0
       ·obtain⟨h',e'⟩:=ih' f.name ZU;refine⟨h',?_⟩;have hp:=yN hq f.name hc;rw[<- hcode];have e'':=e';simp only[fJ]at e'';simp[hnm,hps,hty,hre,hex,he]
        grind [kg]
       ·refine⟨h,?_⟩;rw[<- hcode];simp_all[mD,ao]
def QY(m:Ap.Mod)(hm:m.Lim)(q:Nat)(h:Hp):∃h',ak (L40_0 (af pg) ak) [.ip (aa m.av),.mp q,iP m.funcs,.int .i64 m.funcs.length,.int .i64 m.funcs.length] h= .ok (.bool (xw m)) h':=by
 have hnm:=t88 m.name;have hv:=t89 m.vars hm.vars hm.vty 8;have hi:=t92 m.init hm.init hm.ies m.vars.length;have ho:=t89 m.old hm.old hm.oty 8;have hf:=fun n=>t92 m.forward hm.forward hm.fes n;have hb:=t92 m.back hm.back hm.bes m.old.length;refine⟨h,?_⟩;rw[FL40_0];unfold xw;generalize iJ m.vars 8=b1 at hv |-;generalize (m.init.all FE&&((m.init.length:Int)== (m.vars.length:Int)))=b2 at hi |-;generalize iJ m.old 8=b3 at ho |-;generalize (m.back.all FE&&((m.back.length:Int)== (m.old.length:Int)))=b4 at hb |-;cases hn:cq m.name with
 |false=>simp_all[L40_0,ao]
 | true =>
  rw[hn]at hnm;by_cases hu:m.uses.length<=12
  ·have hu':¬(12<(m.uses.length:Int)):=ZS
   by_cases hfn:m.funcs.length<=30
   ·have hfn':¬(30<(m.funcs.length:Int)):=ZS
    cases b1 with
    |false=>simp_all[L40_0,ao]
    | true=>
     cases b2 with
     |false=>simp_all[L40_0,ao]
     | true=>
      cases hmv:m.moves with
      |true=>
       have hfv:=hf m.vars.length;rw[Xv rfl];simp_all[L40_0,K40_0,ao]
      | false=>
       have hfv:=hf 0;rw[Xr ZT];generalize (m.forward.all FE&&((m.forward.length:Int)== 0))=b5 at hfv |-;by_cases hz:0<m.old.length
       ·have hz':0<(m.old.length:Int):=ZS
        have hz2:¬m.old.length=0:=ZS
        simp_all[L40_0,ao]
       simp_all[ao,L40_0,K40_0]
   ·have hfn':30<(m.funcs.length:Int):=ZS
    simp[L40_0,hnm,hu,hu',hfn,hfn',ao]
  ·have hu':12<(m.uses.length:Int):=ZS
   simp[L40_0,hnm,hu,hu',ao]
theorem J5(m:Ap.Mod)(hm:m.Lim)(q:Nat)(R:Bool)(hend:∀h:Hp,∃h',ak (L40_1 (af pg) ak) [.ip (aa m.av),.mp q,strs m.uses,.int .i64 m.uses.length,.int .i64 m.uses.length] h= .ok (.bool R) h'):∀(n i:Nat),m.uses.length-i=n->i<=m.uses.length->∀(seen:List aW)(h:Hp),h[q]? = some [.tup (setRow seen)]->
  ∃h',ak (L40_1 (af pg) ak) [.ip (aa m.av),.mp q,strs m.uses,.int .i64 m.uses.length,.int .i64 i] h= .ok (.bool (HT seen (m.uses.drop i)&&R)) h':=by
 have hb:=hm.uses;intro n
 induction n with
 |zero=>
  intro i hn hi seen h hq;have h2:m.uses.drop i=[]:=List.drop_eq_nil_of_le ZS;obtain rfl:i=m.uses.length:=ZS
  rw[h2];exact hend h
 | succ n ih=>
  intro i hn hi seen h hq;have hlt:i<m.uses.length:=ZS
  have h1:(i:Int)<(m.uses.length:Int):=ZS
  have h2:m.uses.drop i=m.uses[i]:: m.uses.drop (i+1):=List.drop_eq_getElem_cons hlt;have hw:IntKind.i64.wrap ((i:Int)+1)=((i+1:Nat):Int):=aZ ZS;have hix:=pI (l:=m.uses) (n:=(i:Int)) ZS h1;rw[XC,Xx m.uses i hlt]at hix;have ih':=fun s=>ih (i+1) ZS ZS (seen++[s]) (h.set q [.tup (setRow (seen++[s]))]);have hql:q<h.length:=(XA.1 hq).1;rw[h2];generalize m.uses[i]=s at hix |-;have hlk:=uG hq s;have hnm:=t88 s;generalize hcode:ak (L40_1 (af pg) ak) [.ip (aa m.av),.mp q,strs m.uses,.int .i64 m.uses.length,.int .i64 i] h=code;rw[FL40_1]at hcode;simp -implicitDefEqProofs only[L40_1,am,ar,aB,ae,h1,XY,ai,XF,hix,oX,LD9]at hcode;rw[kg hlk]at hcode;have eo:HT seen (s:: m.uses.drop (i+1))=(!(seen.contains s)&&cq s&&HT (seen++[s]) (m.uses.drop (i+1))):=rfl;rw[eo];cases hc:seen.contains s with
  |true=>
   rw[hc]at hcode;refine⟨h,?_⟩;rw[<- hcode];simp[ao]
  | false=>
   rw[hc]at hcode;cases hn2:cq s with
   |false=>rw[hn2]at hnm;refine⟨h,?_⟩;rw[<- hcode];simp[hnm,ao]
   |true=>
    rw[hn2]at hnm;obtain⟨h',e'⟩:=ih' s ZU;refine⟨h',?_⟩;have hp:=yN hq s hc;rw[<- hcode];have e'':=e';simp only[fJ]at e'';simp[hnm]
    grind [kg]
theorem t40(m:Ap.Mod)(hm:m.Lim):af pg 40 [m.av]=ao (.bool (ie m)):=by
 have hend:∀h:Hp,∃h',ak (L40_1 (af pg) ak) [.ip (aa m.av),.mp 0,strs m.uses,.int .i64 m.uses.length,.int .i64 m.uses.length] h= .ok (.bool (su [] m.funcs&&xw m)) h':=fun h=>by
  have h1:¬((m.uses.length:Int)<(m.uses.length:Int)):=ZS
  obtain⟨h',e⟩:=J4 m hm h.length (xw m) (fun h=>QY m hm _ h) m.funcs.length 0 rfl (XN _) [] (h++[[.tup []]]) (by simp[setRow]);rw[XK]at e;refine⟨h',?_⟩;rw[FL40_1];have hn:ga h= .ok (.mp h.length) (h++[[.tup []]]):=rfl;simp only[fJ]at e;simp -implicitDefEqProofs only[L40_1,am,ar,aB,ae,h1,YO,ai,Xs,Xy];rw[kg hn];simp_all
 obtain⟨h',e⟩:=J5 m hm 0 _ hend m.uses.length 0 rfl (XN _) [] ([]++[[.tup []]]) rfl;rw[XK]at e;rw[C40];funext hp;have key:S40 (af pg) ak (cl aF m.av) []= .ok (.bool (ie m)) h':=by
  have hn:ga []= .ok (.mp 0) ([]++[[.tup []]]):=rfl;simp only[fJ]at e;rw[yg];simp -implicitDefEqProofs only[S40];rw[kg hn];simp only[fJ,FA55_1,XQ,XK,ae,LD31,iB];exact e
 show bn _ hp=R.ok (.bool (ie m)) hp;unfold bn;rw[key];rfl
section
variable (f:Fun) (m:Ap.Mod)
theorem fF0:ah T 110 (.ip (aa f.av)) 0=some (.ip ((aa f.av).drop 0)):=rfl
theorem fF2:ah T 110 (.ip (aa f.av)) 2=some (.ip ((aa f.av).drop 2)):=rfl
theorem fF5:ah T 110 (.ip (aa f.av)) 5=some (.ip ((aa f.av).drop 6)):=rfl
theorem WR:ax T 9 (.ip ((aa f.av).drop 0))=some (.str f.name):=ZW
theorem Wo:ax T 49 (.ip ((aa f.av).drop 2))=some (ck f.params):=ZW
theorem WS:ax T 108 (.ip ((aa f.av).drop 6))=some f.body.av:=ZW
theorem WT:ax T 110 (.ip (aa f.av))=some f.av:=ZW
theorem fM2:ah T 55 (.ip (aa m.av)) 2=some (.ip ((aa m.av).drop 2)):=rfl
theorem fM4:ah T 55 (.ip (aa m.av)) 4=some (.ip ((aa m.av).drop 4)):=rfl
theorem WV:ax T 49 (.ip ((aa m.av).drop 2))=some (ck m.vars):=rfl
theorem WW:ax T 51 (.ip ((aa m.av).drop 4))=some (iP m.funcs):=rfl
theorem Wr:ax T 55 (.ip (aa m.av))=some m.av:=rfl
end
theorem fD0(f:fF):ah T 154 (.ip (aa (dV f))) 0=some (.ip ((aa (dV f)).drop 0)):=rfl
def WN(f:fF):ax T 9 (.ip ((aa (dV f)).drop 0))=some (.str f.1):=ZW
def WO(f:fF):ax T 154 (.ip (aa (dV f)))=some (dV f):=ZW
def Bd(p:Cod×Nat):AV:=.agg [.str p.1.func,.int .i64 p.1.params,.int .i64 p.1.locals,.hs p.2 0 p.1.code.length 5 true]
theorem Fy(b:Bool):KC UnOp.not (.bool b)=some (.bool (!b)):=rfl
def Tn(h:Hp)(acc:List (Cod×Nat)):Prop:=∀p∈acc,h[p.2]? = some (rowOf Ins.av p.1.code)
theorem KY(v6:List AV->M AV)(a0 a1 a2 a3 a5 a6 a7:AV)(ps:List fF)(hb:ps.length<=1000000):∀(B A:List fF),A++B=ps->
  ak (L41_0 (af pg) ak v6) [a0,a1,a2,a3,strs (A.map (·.1)),a5,a6,a7,ck ps,.int .i64 ps.length,.int .i64 A.length]=ak (L41_0 (af pg) ak v6) [a0,a1,a2,a3,strs (ps.map (·.1)),a5,a6,a7,ck ps,.int .i64 ps.length,.int .i64 ps.length]
 |[],A,e=>by
  grind
 | x:: B,A,e=>by
  have hlen:A.length+(B.length+1)=ps.length:=by rw[<- e];simp
  have h1:(A.length:Int)<(ps.length:Int):=ZS
  have hix:=xR (l:=ps) (n:=(A.length:Int)) ZS h1;have hx:ps[A.length]! = x:=by rw[Xx ps A.length ZS];simp[<- e]
  rw[XC,hx]at hix;have hw:IntKind.i64.wrap ((A.length:Int)+1)=((A++[x]).length:Nat):=by rw[aM ZS ZS];simp
  have hap:dJ T 31 (strs (A.map (·.1))) (strs [x.1])=some (strs ((A++[x]).map (·.1))):=by
   rw[I8 ZX];simp
  have ih:=KY v6 a0 a1 a2 a3 a5 a6 a7 ps hb B (A++[x]) ZU;rw[<- ih,FL41_0];simp -implicitDefEqProofs only[L41_0,am,ar,aB,ae,ai,Xt,Xv h1,hix,WO,BX,aj,fD0,WN,Wc,hap,bm,hw]
theorem VO(v6:List AV->M AV)(a0 a5 a6:AV){vars:List fF}(hv:vars.length<=1000000){f:Fun}(F:FunOk f){i:Nat}(hi:i<=1000000){acc:List (Cod×Nat)}(ha:acc.length<=1000000){h:Hp}{l:Nat}(H:CS h l vars ([],f.params.length)):
  ∃lb h',l<lb/\h'[lb]? = some (rowOf Ins.av (dw vars f).code)/\sO l h h'/\
   ak (L41_0 (af pg) ak v6) [a0,.sl (acc.map Bd),.ip (aa f.av),.hp l 0,strs (f.params.map (·.1)),a5,a6,.int .i64 i,ck f.params,.int .i64 f.params.length,.int .i64 f.params.length] h=v6 [a0,.sl ((acc++[(dw vars f,lb)]).map Bd),a5,a6,.int .i64 ((i+1:Nat):Int)] h':=by
 have hpl:=F.plen;have hcap:oE 12<=99000000000:=by simp[oE]
 obtain⟨h1,e1,H1,o1⟩:=t93 hv 12 f.body F.body (f.params.map (·.1)) ZX ([],f.params.length) h l H ZU;have g1:=cH vars 12 f.body F.body (f.params.map (·.1)) ([],f.params.length);obtain⟨h2,e2,H2,o2⟩:=t94 H1 (cC 18 0) ZU;obtain⟨x,hx,cx⟩:=H2;have hcode:(gJ (cC 18 0) (bE vars 12 f.body (f.params.map (·.1)) ([],f.params.length))).1=(dw vars f).code:=rfl;have hloc:(gJ (cC 18 0) (bE vars 12 f.body (f.params.map (·.1)) ([],f.params.length))).2=(dw vars f).locals:=rfl;rw[hcode]at cx;rw[hloc]at hx;rcases cx with⟨z,_⟩|⟨_,lb,hlb,rfl,hq⟩
 ·grind [gJ]
 ·refine⟨lb,h2,hlb,hq,o1.trans o2,?_⟩;have hn:¬((f.params.length:Int)<(f.params.length:Int)):=ZS
  have hb:cG T false 75 [(0,.str f.name),(1,.int .i64 f.params.length),(2,.int .i64 (dw vars f).locals),(3,.hs lb 0 (dw vars f).code.length 5 true)]=some (Bd (dw vars f,lb)):=rfl;have hbs:∀v:Cod×Nat,aQ T 115 1 [(0,Bd v)]=some (.sl ([v].map Bd)):=fun _=>rfl;have hap:dJ T 115 (.sl (acc.map Bd)) (.sl ([(dw vars f,lb)].map Bd))=some (.sl ((acc++[(dw vars f,lb)]).map Bd)):=
   lL (T:=T) (t:=115) (e:=75) rfl rfl rfl (f:=Bd) (fun _=>rfl) ZU ZT
  have hw:IntKind.i64.wrap ((i:Int)+1)=((i+1:Nat):Int):=by rw[aM ZS ZS];omega
  rw[FL41_0];simp -implicitDefEqProofs only[L41_0,am,ar,aB,ae,ai,Xt,Xr hn,fF5,WS];rw[aS e1];simp -implicitDefEqProofs only[KL,ae];rw[aS e2];simp -implicitDefEqProofs only[fF0,WR,fF2,Wo,ni,ae,HO,fC1,fC2];rw[aS (Hz hx),aS (mL hx)];simp_all
theorem KX{m:Ap.Mod}(K:ModOk m):∀(B A:List Fun)(acc:List (Cod×Nat))(h:Hp),A++B=m.funcs->acc.map (·.1)=A.map (dw m.vars)->Tn h acc->
  ∃acc' h',ak (L41_1 (af pg) ak) [.ip (aa m.av),.sl (acc.map Bd),iP m.funcs,.int .i64 m.funcs.length,.int .i64 A.length] h= .ok (.sl (acc'.map Bd)) h'/\acc'.map (·.1)=m.funcs.map (dw m.vars)/\Tn h' acc'
 |[],A,acc,h,e,ha,H=>by
  rw[XS]at e;subst e;refine⟨acc,h,?_,ha,H⟩;have h1:¬((m.funcs.length:Int)<(m.funcs.length:Int)):=ZS
  rw[FL41_1];simp -implicitDefEqProofs only[L41_1,am,ar,aB,ae,ai,Xt,Xr h1];rfl
 | x:: B,A,acc,h,e,ha,H=>by
  have hlen:A.length+(B.length+1)=m.funcs.length:=by rw[<- e];simp
  have hf30:=K.flen;have hvl:=K.vlen;have h1:(A.length:Int)<(m.funcs.length:Int):=ZS
  have hix:=Eu (l:=m.funcs) (n:=(A.length:Int)) ZS h1;have hx:m.funcs[A.length]! = x:=by rw[Xx m.funcs A.length ZS];simp[<- e]
  rw[XC,hx]at hix;have F:=K.fns x ZU;have hpl:=F.plen;have hal:acc.length=A.length:=by have:=X4 List.length ha;simpa using this
  have hC:CS (h++[[ck m.vars,.hn,.int .i64 x.params.length]]) h.length m.vars ([],x.params.length):=⟨.hn,ZU,.inl ⟨rfl,rfl⟩⟩;obtain⟨lb,h2,hlb,hq,hlo,e2⟩:=VO (ak (L41_1 (af pg) ak)) (.ip (aa m.av)) (iP m.funcs) (.int .i64 m.funcs.length) ZS F (i:=A.length) ZS (acc:=acc) ZS hC;obtain⟨acc',h3,e3,r3,H3⟩:=KX K B (A++[x]) (acc++[(dw m.vars x,lb)]) h2 ZU ZU (by
   intro p hp;rcases Ya.1 hp with hp|hp
   ·have:=H p hp
    have hl:=l6 this;rw[hlo p.2 hl,Yv hl];exact this
   grind)
  refine⟨acc',h3,?_,r3,H3⟩;have hbv:cG T true 179 [(0,ck m.vars),(2,.int .i64 x.params.length)]=some (.agg [ck m.vars,.hn,.int .i64 x.params.length]):=rfl;have hnw:newH (aa (.agg [ck m.vars,.hn,.int .i64 x.params.length])) h= .ok (.hp h.length 0) (h++[[ck m.vars,.hn,.int .i64 x.params.length]]):=rfl;have hP:=KY (ak (L41_1 (af pg) ak)) (.ip (aa m.av)) (.sl (acc.map Bd)) (.ip (aa x.av)) (.hp h.length 0) (iP m.funcs) (.int .i64 m.funcs.length) (.int .i64 A.length) x.params ZS x.params [] rfl;rw[FL41_1];simp -implicitDefEqProofs only[L41_1,am,ar,aB,ae,ai,Xt,Xv h1,hix,WT,mm,aj,fM2,WV,fF2,Wo,ni,hbv];rw[aS hnw];show ak (L41_0 (af pg) ak (ak (L41_1 (af pg) ak))) [.ip (aa m.av),.sl (acc.map Bd),.ip (aa x.av),.hp h.length 0,strs (([]:List fF).map (·.1)),iP m.funcs,.int .i64 m.funcs.length,.int .i64 A.length,ck x.params,.int .i64 x.params.length,.int .i64 ([]:List fF).length] _=_;simp_all
def E9{h:Hp}(acc:List (Cod×Nat))(H:Tn h acc):frz 6 h (.sl (acc.map Bd))=yl (acc.map (·.1)):=by
 have key:∀p∈acc,frz 6 h (Bd p)=p.1.av:=by
  intro p hp;have hi:=Fa (f:=Ins.av) JO (fun _=>rfl) (fun x g=>by simp[Ins.av,Ins.cells,cl,fp]) ZT (H p hp) 5;unfold frz at hi |-;simp only[cl]at hi;simp only[Bd,cl,fp,hi];rfl
 unfold frz at key |-;simp only[cl];unfold yl;congr 1;clear H
 induction acc with
 |nil=>rfl
 |cons p acc ih=>
  grind [fp]
def t41(m:Ap.Mod)(hm:m.Lim):af pg 41 [m.av]=ao (yl (if ie m=true then m.funcs.map (dw m.vars)else[])):=by
 rw[C41];cases hr:ie m with
 | false=>
  have hS:S41 (af pg) ak (cl aF m.av)=ao (.sl []):=by
   rw[yg];simp -implicitDefEqProofs only[S41,Wr,ae,t40 m hm,hr,aj,Fy,X3,ai,XF]
  rw[hS];rfl
 | true=>
  have K:=uM hr;obtain⟨acc,h',e1,r1,H1⟩:=KX K m.funcs [] [] [] rfl rfl (fun p hp=>by cases hp);have hS:S41 (af pg) ak (cl aF m.av) []= .ok (.sl (acc.map Bd)) h':=by
   rw[yg];simp -implicitDefEqProofs only[S41,Wr,ae,t40 m hm,hr,aj,Fy,XR,ai,Xs,Xy,fM4,WW,Gg];exact e1
  funext h;unfold bn;rw[hS];simp only[E9 acc H1,r1,XF];rfl
theorem Wt(s:aW):ax T 9 (.ip (aa (.str s)))=some (.str s):=rfl
section
variable (i:Ins)
theorem fJ0:ah T 133 (.ip (aa i.av)) 0=some (.ip ((aa i.av).drop 0)):=rfl
theorem fJ1:ah T 133 (.ip (aa i.av)) 1=some (.ip ((aa i.av).drop 1)):=rfl
theorem fJ2:ah T 133 (.ip (aa i.av)) 2=some (.ip ((aa i.av).drop 2)):=rfl
theorem fJ3:ah T 133 (.ip (aa i.av)) 3=some (.ip ((aa i.av).drop 3)):=rfl
theorem fJ4:ah T 133 (.ip (aa i.av)) 4=some (.ip ((aa i.av).drop 4)):=rfl
theorem vZ:ax T 3 (.ip ((aa i.av).drop 0))=some (.int .i64 i.op):=rfl
theorem Fj:ax T 3 (.ip ((aa i.av).drop 1))=some (.int .i64 i.a):=rfl
theorem Td:ax T 9 (.ip ((aa i.av).drop 2))=some (.str i.s):=rfl
theorem R6:ax T 9 (.ip ((aa i.av).drop 3))=some (.str i.m):=rfl
theorem R7:ax T 31 (.ip ((aa i.av).drop 4))=some (strs i.names):=rfl
theorem Ga:ax T 133 (.ip (aa i.av))=some i.av:=rfl
end
section
variable (c:Cod)
theorem fK0:ah T 75 (.ip (aa c.av)) 0=some (.ip ((aa c.av).drop 0)):=rfl
theorem fK1:ah T 75 (.ip (aa c.av)) 1=some (.ip ((aa c.av).drop 1)):=rfl
theorem fK2:ah T 75 (.ip (aa c.av)) 2=some (.ip ((aa c.av).drop 2)):=rfl
theorem fK3:ah T 75 (.ip (aa c.av)) 3=some (.ip ((aa c.av).drop 3)):=rfl
theorem Vu:ax T 9 (.ip ((aa c.av).drop 0))=some (.str c.func):=rfl
theorem Wq:ax T 3 (.ip ((aa c.av).drop 1))=some (.int .i64 c.params):=rfl
theorem Vv:ax T 3 (.ip ((aa c.av).drop 2))=some (.int .i64 c.locals):=rfl
theorem Hu:ax T 73 (.ip ((aa c.av).drop 3))=some (nG c.code):=rfl
end
def WK{l:List Cod}{n:Nat}(h:n<l.length):aA T 115 (yl l) (.int .i64 (n:Int))=some (.ip (aa (Cod.av l[n]!))):=
 br (T:=T) (t:=115) (e:=75) (f:=Cod.av) rfl rfl rfl (fun _=>rfl) ZS ZS
def RH{l:List Ins}{n:Nat}(h:n<l.length):aA T 73 (nG l) (.int .i64 (n:Int))=some (.ip (aa (Ins.av l[n]!))):=
 br (T:=T) (t:=73) (e:=133) (f:=Ins.av) rfl rfl rfl (fun _=>rfl) ZS ZS
theorem VL(l:List Cod):bp T 115 (yl l)=some (.int .i64 l.length):=by
 have h:bp T 115 (yl l)=some (.int .i64 (l.map Cod.av).length):=rfl
 grind
theorem AE(l:List Ins):bp T 73 (nG l)=some (.int .i64 l.length):=by
 have h:bp T 73 (nG l)=some (.int .i64 (l.map Ins.av).length):=rfl
 grind
theorem SD(a b:aW):cF T .eql 9 (.str a) (.str b)=some (.bool (a== b)):=rfl
theorem JW(t:Nat)(a b:Int):cF T .leq t (.int .i64 a) (.int .i64 b)=some (.bool (decide (a<=b))):=rfl
theorem DY(l:List aW)(hb:l.length<=1000000):∀n k:Nat,l.length-k=n->k<=l.length->
  ak (L152_0 (af pg) ak) [strs l,strs l,.int .i64 l.length,.int .i64 (k:Int)]=ao (.bool ((List.range' k n).all (fun k=>cq l[k]! && (decide (k=0)||eE l[k-1]! l[k]!))&&decide (l.length<=8)))
 |0,k,hn,hk=>by
  have h1:¬((k:Int)<(l.length:Int)):=ZS
  have h2:decide ((l.length:Int)<=8)=decide (l.length<=8):=Yr.2 ZS;rw[FL152_0];simp_all[L152_0,Xr]
 | n+1,k,hn,hk=>by
  have h1:(k:Int)<(l.length:Int):=ZS
  have hix:=pI (l:=l) (n:=(k:Int)) ZS h1;rw[XC]at hix;have hw:IntKind.i64.wrap ((k:Int)+1)=((k+1:Nat):Int):=by rw[aM ZS ZS];omega
  have ih:=DY l hb n (k+1) ZS ZS;have hN:=t88 l[k]!;rw[FL152_0,List.range'_succ,XP];generalize (List.range' (k+1) n).all (fun k=>cq l[k]! && (decide (k=0)||eE l[k-1]! l[k]!))=q at ih |-;generalize decide (l.length<=8)=q8 at ih |-;generalize l[k]! = x at hix hN |-;rcases Yc k with hk0|hk0
  ·subst hk0;simp only[L152_0,am,ar,aB,ae,ai,Xt,Xv h1,hix,Wt,hN,aj,bi];cases hx:cq x with
   |false=>simp
   |true=>
    simp_all
  ·have hp:IntKind.i64.wrap ((k:Int)-1)=((k-1:Nat):Int):=by rw[aM ZS ZS];omega
   have hix2:=pI (l:=l) (n:=((k-1:Nat):Int)) ZS ZS;rw[XC]at hix2;generalize l[k-1]! = g at hix2 |-;have hk1:decide (k=0)=false:=XO ZS;have hk2:decide ((0:Int)<(k:Int))=true:=XU ZS;have hge:cF T .geq 9 (.str g) (.str x)=some (.bool (!(bU g x))):=rfl;have ha:eE g x=bU g x:=YD.2 (tv g x);rw[ha];simp only[L152_0,am,ar,aB,ae,ai,Xt,Xv h1,hix,Wt,hN,aj,bi,dq,hk1,dY,hp,hix2,bm,hw,ih,hk2,hge];cases cq x<;>cases bU g x<;>simp[gv]
def t152(l:List aW)(hb:l.length<=1000000):af pg 152 [strs l]=ao (.bool (jS l)):=by
 have h:=DY l hb l.length 0 rfl (XN _);rw[xY cq eE l]at h;have h':ak (L152_0 (af pg) ak) [strs l,strs l,.int .i64 l.length,.int .i64 0]=ao (.bool (jS l)):=h;have hcl:cl aF (strs l)=strs l:=ZV
 grind [C152,S152,iB,ae,fA]
def iR(a:Int)(s m:aW)(names:List aW)(ok:Bool):Bool:=((((ok&&decide (a=0))&&(s== []))&&(m== []))&&decide ((names.length:Int)=0))
def nI(a:Int)(s m:aW)(names:List aW)(ok:Bool):K95_0 (af pg) ak [.int .i64 a,.str s,.str m,strs names,.bool ok]=ao (.bool (iR a s m names ok)):=by
 simp -implicitDefEqProofs only[K95_0,am,ar,kY,SD,iB,ae,aE,aj,bg,iR]
theorem RO(a:Int)(s m:aW)(names:List aW)(op:Int)(hb:names.length<=1000000)(h:¬(op=0\/op=1\/op=2\/op=3\/op=10\/op=11)):
  K95_2 (af pg) ak (K95_0 (af pg) ak) [.int .i64 a,.str s,.str m,strs names,.bool true,.int .i64 op,.bool (decide (op=16)||decide (op=17))]=ao (.bool (
   if op=16\/op=17 then iR 0 s m names (decide (0<=a)&&decide (a<8))
   else if op=15 then iR 0 s m names (((decide (a=1)||decide (a=2))||decide (a=4))||decide (a=8))
   else if op=13 then iR a [] m names (cq s)
   else if op=14 then iR 0 [] [] names (((decide (0<=a)&&decide (a<=6))&&cq s)&&((m== [])||cq m))
   else if op=12 then iR a s m [] (jS names)
   else if wz op=true then iR a s m names true else false)):=by
 have hN:=t88 s;have hM:=t88 m;have hA:=t152 names hb;have e0:(AV.sl []:AV)=strs []:=rfl;by_cases h16:op=16\/op=17
 ·have hd:(decide (op=16)||decide (op=17))=true:=by simpa using h16
  simp -implicitDefEqProofs only[K95_2,am,ar,hd,ai,XF,JW,aB,ae,aE,aj,bg,nI,Xv h16]
 have hd:(decide (op=16)||decide (op=17))=false:=by simpa using h16
 rw[Xr h16];simp -implicitDefEqProofs only[K95_2,am,ar,hd,ai,Xs,Xy,kY,ae,Xt];by_cases h15:op=15
 ·simp_all[nI]
 simp -implicitDefEqProofs only[Xr h15];by_cases h13:op=13
 ·simp_all[nI]
 simp -implicitDefEqProofs only[Xr h13];by_cases h14:op=14
 ·simp -implicitDefEqProofs only[Xv h14,JW,ae,aE,aj,am,bg,hN,hM,SD];generalize ((decide (0<=a)&&decide (a<=6))&&cq s)=q;cases q
  ·simp[gv,nI,wZ,gE]
  ·cases (m== [])<;>simp[gv,nI]
 simp -implicitDefEqProofs only[Xr h14];by_cases h12:op=12
 ·simp_all[nI]
 simp -implicitDefEqProofs only[Xr h12,jn,K95_1,am,ar,ai,Xt,nI,wz];by_cases h4:op=4
 ·simp[h4]
 by_cases h5:op=5
 ·simp[h5]
 by_cases h6:op=6
 all_goals grind
theorem B1(g:Nat->Nat->Nat->Nat->Bool->AV)(i:Ins):cl g i.av=i.av:=by simp[Ins.av,Ins.cells,cl,fp]
theorem BZ(g:Nat->Nat->Nat->Nat->Bool->AV)(c:Cod):cl g c.av=c.av:=by simp[Cod.av,nG,cl,fp,gD g Ins.av (B1 g)]
def t95(c:Cod)(i:Ins)(hb:i.names.length<=1000000):af pg 95 [c.av,i.av]=ao (.bool (bH c.code.length c.locals i)):=by
 have key:S95 (af pg) ak c.av i.av=ao (.bool (bH c.code.length c.locals i)):=by
  have hq:∀k:Int,(i.a== k)=decide (i.a=k):=fun _=>rfl;have hz:(i.names== [])=decide ((i.names.length:Int)=0):=by
   cases i.names<;>simp;omega
  simp -implicitDefEqProofs only[S95,fJ0,fJ1,fJ2,fJ3,fJ4,vZ,Fj,Td,R6,R7,ae,jn,kY,ai,Xt];by_cases h0:i.op=0
  ·simp_all[nI,iR,bH]
  simp -implicitDefEqProofs only[Xr h0];by_cases h1:i.op=1
  ·simp_all[nI,iR,bH]
  simp -implicitDefEqProofs only[Xr h1];have k4:∀b,b=(decide (i.op=2)||decide (i.op=3))->K95_4 (af pg) ak (K95_0 (af pg) ak) [.ip (aa c.av),.int .i64 i.a,.str i.s,.str i.m,strs i.names,.bool true,.int .i64 i.op,.bool b]=ao (.bool (bH c.code.length c.locals i)):=by
   intro b hbb;by_cases h2:i.op=2\/i.op=3
   ·have hbt:b=true:=by rw[hbb];simpa using h2
    subst hbt;simp -implicitDefEqProofs only[K95_4,am,ar,ai,XF,JW,fK2,Vv,aB,ae,aE,aj,bg,nI]
    grind [iR,bH]
   have hbf:b=false:=by rw[hbb];simpa using h2
   subst hbf;have k3:∀b,b=(decide (i.op=10)||decide (i.op=11))->K95_3 (af pg) ak (K95_0 (af pg) ak) [.ip (aa c.av),.int .i64 i.a,.str i.s,.str i.m,strs i.names,.bool true,.int .i64 i.op,.bool b]=ao (.bool (bH c.code.length c.locals i)):=by
    intro b hbb;by_cases h10:i.op=10\/i.op=11
    ·have hbt:b=true:=by rw[hbb];simpa using h10
     subst hbt;simp -implicitDefEqProofs only[K95_3,am,ar,ai,XF,JW,fK3,Hu,AE,aB,ae,aE,aj,bg,nI]
     grind [iR,bH]
    have hbf:b=false:=by rw[hbb];simpa using h10
    subst hbf;have k2:=RO i.a i.s i.m i.names i.op hb ZS;have e2:∀b,b=(decide (i.op=16)||decide (i.op=17))->K95_2 (af pg) ak (K95_0 (af pg) ak) [.int .i64 i.a,.str i.s,.str i.m,strs i.names,.bool true,.int .i64 i.op,.bool b]=ao (.bool (bH c.code.length c.locals i)):=by
     rintro _ rfl;rw[k2];unfold bH;rw[Xr h0,Xr h1,Xr h2,Xr h10];by_cases h16:i.op=16\/i.op=17
     ·simp[iR,h16,hz,hq]
     rw[Xr h16,Xr h16];by_cases h15:i.op=15
     ·simp[iR,h15,hz,hq]
     rw[Xr h15,Xr h15];by_cases h13:i.op=13
     ·simp[iR,h13,hz,hq]
     rw[Xr h13,Xr h13];by_cases h14:i.op=14
     ·simp[iR,h14,hz,hq]
     rw[Xr h14,Xr h14];by_cases h12:i.op=12
     ·simp[iR,h12,hz,hq]
     rw[Xr h12,Xr h12];cases wz i.op<;>simp[iR,hz,hq]
    simp -implicitDefEqProofs only[K95_3,am,ar,ai,Xs,Xy,jn,kY,ae,Xt];by_cases h16:i.op=16
    ·grind
    ·grind
   simp -implicitDefEqProofs only[K95_4,am,ar,ai,Xs,Xy,jn,kY,ae,Xt];by_cases h10:i.op=10
   ·grind
   ·grind
  by_cases h2:i.op=2
  ·grind
  ·grind
 grind [C95,BZ,B1,fA]
def Tb(i:Ins):cg 5 i.av=ao i.av:=by rw[bc (rfl:bR 5 i.av=true)];rfl
def oA{T:TT}{t e:Nat}{ti ei:TI}(ht:T t=some ti)(hk:ti.kind= .slice e)(he:T e=some ei)(es:List AV)(hok:dn ei.size es=true){a:Int}(h0:0<=a)(h1:a<=es.length):da T t (.sl es) (some (.int .i64 a)) none none=some (.sl (es.drop a.toNat)):=by
 simp_all[da,cw]
theorem Te(c:Cod):ax T 75 (.ip (aa c.av))=some c.av:=rfl
def RP(i:Ins)(h:¬(i.op=0\/i.op=1\/i.op=2\/i.op=16))(h2:¬(i.op=4\/i.op=5\/i.op=6\/i.op=7\/i.op=8)):∀b,b=decide (i.op=9\/i.op=13\/i.op=15\/i.op=17)->
  K96_0 (af pg) ak [.ip (aa i.av),.int .i64 i.op,.bool b]=ao (.tup [.int .i64 (aG i).1,.int .i64 (aG i).2]):=by
 intro b hb;unfold aG;rw[Xr h,Xr h2];by_cases h9:i.op=9\/i.op=13\/i.op=15\/i.op=17
 ·simp_all[K96_0]
 rw[XO h9]at hb;subst hb;rw[Xr h9];simp -implicitDefEqProofs only[K96_0,am,ar,ai,Xs,Xy,kY,ae,Xt];by_cases h12:i.op=12
 ·simp_all[R7]
 simp -implicitDefEqProofs only[Xr h12];by_cases h14:i.op=14
 ·simp -implicitDefEqProofs only[Xv h14,fJ1,Fj,ae]
 grind
def RS(i:Ins)(h:¬(i.op=0\/i.op=1\/i.op=2\/i.op=16)):∀b,b=decide (i.op=4\/i.op=5\/i.op=6\/i.op=7\/i.op=8)->
  K96_1 (af pg) ak [.ip (aa i.av),.int .i64 i.op,.bool b]=ao (.tup [.int .i64 (aG i).1,.int .i64 (aG i).2]):=by
 intro b hb;by_cases h2:i.op=4\/i.op=5\/i.op=6\/i.op=7\/i.op=8
 ·simp_all[aG,K96_1]
 rw[XO h2]at hb;subst hb;have k:=RP i h h2;simp -implicitDefEqProofs only[K96_1,am,ar,ai,Xs,Xy,jn,kY,ae,Xt]
 grind
def RU(i:Ins):∀b,b=decide (i.op=0\/i.op=1\/i.op=2\/i.op=16)->
  K96_2 (af pg) ak [.ip (aa i.av),.int .i64 i.op,.bool b]=ao (.tup [.int .i64 (aG i).1,.int .i64 (aG i).2]):=by
 intro b hb;by_cases h:i.op=0\/i.op=1\/i.op=2\/i.op=16
 ·simp_all[aG,K96_2]
 rw[XO h]at hb;subst hb;have k:=RS i h;simp -implicitDefEqProofs only[K96_2,am,ar,ai,Xs,Xy,jn,kY,ae,Xt]
 grind
def t96(i:Ins):af pg 96 [i.av]=ao (.tup [.int .i64 (aG i).1,.int .i64 (aG i).2]):=by
 have k:=RU i;have key:S96 (af pg) ak i.av=ao (.tup [.int .i64 (aG i).1,.int .i64 (aG i).2]):=by
  simp -implicitDefEqProofs only[S96,fJ0,vZ,ae,ai,jn,kY,Xt];by_cases h0:i.op=0
  ·grind
  rw[Xr h0];by_cases h1:i.op=1
  ·grind
  rw[Xr h1];by_cases h2:i.op=2
  ·grind
  rw[Xr h2];exact k _ ZU
 rw[C96,B1,key];exact dj fun g=>by simp[cl,fp]
def t97(c:Cod){k:Nat}(hk:k<c.code.length)(hb:c.code.length<=1000000):af pg 97 [c.av,.int .i64 (k:Int)]=ao (ints (gu c.code[k] k)):=by
 have hix:=RH hk;rw[Xx c.code k hk]at hix;have hw:IntKind.i64.wrap ((k:Int)+1)=k+1:=aM ZS ZS;have b1:∀a:Int,aQ T 24 1 [(0,.int .i64 a)]=some (ints [a]):=fun _=>rfl;have b2:∀a b:Int,aQ T 24 2 [(0,.int .i64 a),(1,.int .i64 b)]=some (ints [a,b]):=fun _ _=>rfl;have key:S97 (af pg) ak c.av (.int .i64 (k:Int))=ao (ints (gu c.code[k] k)):=by
  generalize c.code[k]=i at hix |-;unfold gu;simp -implicitDefEqProofs only[S97,fK3,Hu,ae,hix,Ga,Tb,aj,fJ0,vZ,kY,ai,Xt];by_cases h18:i.op=18
  ·simp -implicitDefEqProofs only[Xv h18];rfl
  simp -implicitDefEqProofs only[Xr h18];by_cases h10:i.op=10
  ·simp -implicitDefEqProofs only[Xv h10,fJ1,Fj,ae,b1]
  simp -implicitDefEqProofs only[Xr h10];by_cases h11:i.op=11
  ·simp -implicitDefEqProofs only[Xv h11,fJ1,Fj,ae,bm,hw,b2]
  ·simp_all
 rw[C97,BZ,show cl aF (.int .i64 (k:Int))= .int .i64 (k:Int)from rfl,key];exact dj fun g=>ZV
def Hr(hl:List Int):Hp:=[hl.map (AV.int .i64)]
theorem ux{n k:Nat}(h:k<n):aA T 24 (.hs 0 0 n 1 false) (.int .i64 (k:Int))=some (.hp 0 (0+k*1)):=by
 have e:aA T 24 (.hs 0 0 n 1 false) (.int .i64 (k:Int))=if 0<=(k:Int)/\(k:Int)<(n:Int)then some (.hp 0 (0+(k:Int).toNat*1))else none:=rfl
 grind
def q9{hl:List Int}{k:Nat}(h:k<hl.length):bb T 3 (.hp 0 (0+k*1)) (Hr hl)= .ok (.int .i64 hl[k]!) (Hr hl):=by
 refine yC (T:=T) (t:=3) rfl rfl (cs:=hl.map (AV.int .i64)) rfl ?_
 grind
def setCells_one(cs:List AV)(k:Nat)(x:AV)(h:k<cs.length):setCells cs k [x]=cs.set k x:=by
 grind [setCells,List.set_eq_take_append_cons_drop]
def Ob{hl:List Int}{k:Nat}(h:k<hl.length)(v:Int):bS T 3 (.hp 0 (0+k*1)) (.int .i64 v) (Hr hl)= .ok (.tup []) (Hr (hl.set k v)):=by
 have st:=tc (T:=T) (t:=3) rfl (v:=.int .i64 v) (h:=Hr hl) (l:=0) (k:=0+k*1) (cs:=hl.map (AV.int .i64)) rfl rfl (show 0+k*1+1<=(hl.map (AV.int .i64)).length by simp;omega) ZT;rw[st];show R.ok (AV.tup []) [setCells (hl.map (AV.int .i64)) (0+k*1) [.int .i64 v]]=_;simp_all[setCells_one,Hr]
theorem JN(a b:Int):cF T .neq 3 (.int .i64 a) (.int .i64 b)=some (.bool (!decide (a=b))):=rfl
theorem NE(v:Int):ax T 3 (.ip (aa (.int .i64 v)))=some (.int .i64 v):=rfl
theorem Wb(v:Int):aQ T 24 1 [(0,.int .i64 v)]=some (ints [v]):=rfl
theorem rj(v50:List AV->M AV){c:Cod}{n:Nat}(hn:c.code.length=n)(hnb:n<=1000000){k:Nat}(hk:k<n){nd gv:Int}(h0:0<=nd)(g0:0<=gv)(g1:gv<=1){nx:List Int}(hnx:nx.length<=2)(hx:∀v∈nx,0<=v/\v<=n):
  ∀(B A hl td:List Int),A++B=nx->HInv n hl->nd<=hl[k]! ->td.length+B.length<=10000000->
  (∃h',ko n k nd gv B hl td=none/\ak (L42_0 (af pg) ak v50) [.ip (aa c.av),.hs 0 0 n 1 false,ints td,.int .i64 (k:Int),.int .i64 nd,.int .i64 gv,ints nx,.int .i64 nx.length,.int .i64 A.length] (Hr hl)= .ok (.tup [.sl [],.bool false]) h')\/
  (∃hl' td',ko n k nd gv B hl td=some (hl',td')/\ak (L42_0 (af pg) ak v50) [.ip (aa c.av),.hs 0 0 n 1 false,ints td,.int .i64 (k:Int),.int .i64 nd,.int .i64 gv,ints nx,.int .i64 nx.length,.int .i64 A.length] (Hr hl)=v50 [.ip (aa c.av),.hs 0 0 n 1 false,ints td'] (Hr hl'))
 |[],A,hl,td,e,H,hd,hb=>by
  rw[XS]at e;subst e;refine .inr ⟨hl,td,rfl,?_⟩;have h1:¬((A.length:Int)<(A.length:Int)):=ZS
  rw[FL42_0];simp_all[L42_0]
 | v :: B,A,hl,td,e,H,hd,hb=>by
  have hlen:A.length+(B.length+1)=nx.length:=by rw[<- e];simp
  have h1:(A.length:Int)<(nx.length:Int):=ZS
  have hix:=I9 (l:=nx) (n:=(A.length:Int)) ZS h1;have hxx:nx[A.length]! = v:=by rw[Xx nx A.length ZS];simp[<- e]
  rw[XC,hxx]at hix;have hv:=hx v ZU;have hw:IntKind.i64.wrap ((A.length:Int)+1)=((A++[v]).length:Nat):=by rw[aM ZS ZS];simp
  simp only[XX]at hb;have hcl:((c.code.length:Nat):Int)=n:=by rw[hn]
  by_cases hvn:v=n
  ·refine .inl ⟨Hr hl,by simp[ko,hvn],?_⟩;rw[FL42_0];simp -implicitDefEqProofs only[L42_0,am,ar,aB,ae,ai,Xt,Xv h1,hix,NE,fK3,Hu,AE,hcl,kY,Xv hvn];rfl
  obtain⟨p,rfl⟩:∃p:Nat,v=(p:Int):=⟨v.toNat,ZS⟩;have hp:p<n:=ZS
  have hpl:p<hl.length:=by rw[H.len];exact hp
  have hkl:k<hl.length:=by rw[H.len];exact hk
  have hkk:=H.hi k hk;have hs1:IntKind.i64.wrap (hl[k]! - nd)=hl[k]! - nd:=aM ZS ZS;have hs2:IntKind.i64.wrap (hl[k]! - nd+gv)=hl[k]! - nd+gv:=aM ZS ZS;by_cases hneg:hl[p]! < 0
  ·have hI:=H.set hp hneg (x:=hl[k]! - nd+gv) ZS ZS;have hpk:¬p=k:=fun e=>ZU
   have ih:=rj v50 hn hnb hk h0 g0 g1 hnx hx B (A++[(p:Int)]) (hl.set p (hl[k]! - nd+gv)) (td++[(p:Int)]) ZU hI ZU ZX;have hap:dJ T 24 (ints td) (ints [(p:Int)])=some (ints (td++[(p:Int)])):=OO ZX;have eS:ko n k nd gv ((p:Int):: B) hl td=ko n k nd gv B (hl.set p (hl[k]! - nd+gv)) (td++[(p:Int)]):=by
    simp only[ko,XC];rw[Xr hvn,Xv hneg]
   have eL:ak (L42_0 (af pg) ak v50) [.ip (aa c.av),.hs 0 0 n 1 false,ints td,.int .i64 (k:Int),.int .i64 nd,.int .i64 gv,ints nx,.int .i64 nx.length,.int .i64 A.length] (Hr hl)=ak (L42_0 (af pg) ak v50) [.ip (aa c.av),.hs 0 0 n 1 false,ints (td++[(p:Int)]),.int .i64 (k:Int),.int .i64 nd,.int .i64 gv,ints nx,.int .i64 nx.length,.int .i64 (A++[(p:Int)]).length] (Hr (hl.set p (hl[k]! - nd+gv))):=by
    rw[FL42_0];simp -implicitDefEqProofs only[L42_0,am,ar,aB,ae,ai,Xt,Xv h1,hix,NE,fK3,Hu,AE,hcl,kY,Xr hvn,ux hp,ux hk];rw[aS (q9 hpl)];simp -implicitDefEqProofs only[aB,ae,ai,Xt,Xv hneg];rw[aS (q9 hkl)];simp -implicitDefEqProofs only[dY,bm,ae,hs1,hs2];rw[aS (Ob hpl _)];simp -implicitDefEqProofs only[Wb,ae,hap,bm,hw]
   grind
  ·by_cases hq:hl[p]! = hl[k]! - nd+gv
   ·have ih:=rj v50 hn hnb hk h0 g0 g1 hnx hx B (A++[(p:Int)]) hl td ZU H hd ZS;have eS:ko n k nd gv ((p:Int):: B) hl td=ko n k nd gv B hl td:=by
     simp only[ko,XC];rw[Xr hvn,Xr hneg,Xr (by simpa using hq)]
    have eL:ak (L42_0 (af pg) ak v50) [.ip (aa c.av),.hs 0 0 n 1 false,ints td,.int .i64 (k:Int),.int .i64 nd,.int .i64 gv,ints nx,.int .i64 nx.length,.int .i64 A.length] (Hr hl)=ak (L42_0 (af pg) ak v50) [.ip (aa c.av),.hs 0 0 n 1 false,ints td,.int .i64 (k:Int),.int .i64 nd,.int .i64 gv,ints nx,.int .i64 nx.length,.int .i64 (A++[(p:Int)]).length] (Hr hl):=by
     rw[FL42_0];simp -implicitDefEqProofs only[L42_0,am,ar,aB,ae,ai,Xt,Xv h1,hix,NE,fK3,Hu,AE,hcl,kY,Xr hvn,ux hp,ux hk];rw[aS (q9 hpl)];simp -implicitDefEqProofs only[aB,ae,ai,Xt,Xr hneg];rw[aS (q9 hpl),aS (q9 hkl)];simp -implicitDefEqProofs only[dY,bm,ae,hs1,hs2,JN,XU hq,XR,Xs,Xy,ai,hw]
    grind
   ·refine .inl ⟨Hr hl,?_,?_⟩
    ·simp_all[ko,Xr]
    ·rw[FL42_0];simp -implicitDefEqProofs only[L42_0,am,ar,aB,ae,ai,Xt,Xv h1,hix,NE,fK3,Hu,AE,hcl,kY,Xr hvn,ux hp,ux hk];rw[aS (q9 hpl)];simp -implicitDefEqProofs only[aB,ae,ai,Xt,Xr hneg];rw[aS (q9 hpl),aS (q9 hkl)];simp -implicitDefEqProofs only[dY,bm,ae,hs1,hs2,JN,XO hq,X3,XF,ai];rfl
def wC{α β γ:Type}(m:M α)(f:α->M β)(g:β->M γ):au (au m f) g=au m fun a=>au (f a) g:=by
 funext h;simp only[au]
 grind
def Kc{n:Nat}{locals:Int}{i:Ins}(h:bH n locals i=true){k:Nat}(hk:k<n):∀v∈gu i k,0<=v/\v<=n:=by
 intro v hv;unfold gu at hv;split at hv
 ·cases hv
 split at hv
 ·grind [bH]
 split at hv
 ·rename_i h11;simp[bH,h11]at h
  grind
 grind
theorem AM{c:Cod}{n:Nat}(hn:c.code.length=n)(hnb:n<=1000000)(hf:∀i∈c.code,bH n c.locals i=true):∀(f:Nat)(hl td:List Int),HInv n hl->td.length+2*rk hl<f->f<=4000000->(∀v∈td,0<=v/\v<n)->
  (∃h',ry c.code f hl td=none/\ak (L42_1 (af pg) ak) [.ip (aa c.av),.hs 0 0 n 1 false,ints td] (Hr hl)= .ok (.tup [.sl [],.bool false]) h')\/
  (∃hl',ry c.code f hl td=some hl'/\hl'.length=n/\ak (L42_1 (af pg) ak) [.ip (aa c.av),.hs 0 0 n 1 false,ints td] (Hr hl)= .ok (.tup [.hs 0 0 n 1 false,.bool true]) (Hr hl'))
 |0,hl,td,H,hm,_,ht=>ZS
 |f+1,hl,[],H,hm,_,ht=>by
  refine .inr ⟨hl,rfl,H.len,?_⟩;have h1:¬((0:Int)<(([]:List Int).length:Int)):=ZV
  rw[FL42_1];simp -implicitDefEqProofs only[L42_1,am,ar,nh,dq,ae,ai,Xt,Xr h1];rfl
 | f+1,hl,v:: td,H,hm,hfb,ht=>by
  have hv:=ht v ZV;obtain⟨k,rfl⟩:∃k:Nat,v=(k:Int):=⟨v.toNat,ZS⟩;have hk:k<n:=ZS
  have hkc:k<c.code.length:=ZS
  have hkl:k<hl.length:=by rw[H.len];exact hk
  have hlen:(0:Int)<(((k:Int):: td).length:Int):=by simp only[XX];omega
  have hi0:aA T 24 (ints ((k:Int):: td)) (.int .i64 0)=some (.ip (aa (.int .i64 (k:Int)))):=I9 (l:=(k:Int):: td) (n:=0) ZS hlen;have hcut:GM T 24 (ints ((k:Int):: td)) (some (.int .i64 1))=some (ints td):=by
   have:=oA (T:=T) (t:=24) (e:=3) rfl rfl rfl (((k:Int):: td).map (AV.int .i64)) (rq _) (a:=1) ZS ZU
   exact this
  have hix:=RH hkc;rw[Xx c.code k hkc]at hix;have hi:=hf c.code[k] (XG hkc);obtain⟨b1,b2,b3,b4⟩:=gt hi;have hB:=t97 c hkc ZS;have hN:=t96 c.code[k];have hck:c.code[k]! = c.code[k]:=Xx c.code k hkc;simp only[XX]at hm;have hnl:(gu c.code[k] k).length<=2:=by
   unfold gu
   repeat' split
   all_goals simp
  have hnx:=Kc hi hk;have z1:∀m:M (List AV),aK (.bool true) false 1 m=ao [.tup []]:=fun _=>rfl;have z2:∀m:M (List AV),aK (.tup []) true 1 m=ao [.tup []]:=fun _=>rfl;have z3:∀m:M (List AV),aK (.bool false) true 1 m=ao [.tup []]:=fun _=>rfl;have z4:∀m:M (List AV),aK (.bool false) false 1 m=m:=fun _=>rfl;have z5:∀m:M (List AV),aK (.bool true) true 1 m=m:=fun _=>rfl;by_cases hlt:hl[k]! < (aG c.code[k]).1
  ·refine .inl ⟨Hr hl,?_,?_⟩
   ·simp_all[ry]
   ·rw[FL42_1];simp -implicitDefEqProofs only[L42_1,am,ar,nh,dq,ae,ai,Xt,Xv hlen,hi0,NE,hcut,fK3,Hu,hix,Ga,hN,aj,eN,List.getElem?_cons_zero,Yb,ux hk];rw[aS (q9 hkl)];simp -implicitDefEqProofs only[aB,ae,XU hlt,z1,z2,aj,am,cz,ai,XF];rfl
  by_cases h18:c.code[k].op=18/\hl[k]! ≠1
  ·refine .inl ⟨Hr hl,?_,?_⟩
   ·simp_all[ry]
   ·rw[FL42_1];simp -implicitDefEqProofs only[L42_1,am,ar,nh,dq,ae,ai,Xt,Xv hlen,hi0,NE,hcut,fK3,Hu,hix,Ga,hN,aj,eN,List.getElem?_cons_zero,Yb,ux hk];rw[aS (q9 hkl)];simp -implicitDefEqProofs only[aB,ae,XO hlt,z4,fJ0,vZ,kY,XU h18.1,aj,am,z5,wC];rw[aS (q9 hkl)];simp -implicitDefEqProofs only[JN,XO h18.2,X3,ae,aj,am,cz,cr,ai,XF];rfl
  have hd:(aG c.code[k]).1<=hl[k]!:=ZS
  have eC:ak (L42_1 (af pg) ak) [.ip (aa c.av),.hs 0 0 n 1 false,ints ((k:Int):: td)] (Hr hl)=ak (L42_0 (af pg) ak (ak (L42_1 (af pg) ak))) [.ip (aa c.av),.hs 0 0 n 1 false,ints td,.int .i64 (k:Int),.int .i64 (aG c.code[k]).1,.int .i64 (aG c.code[k]).2,ints (gu c.code[k] k),.int .i64 (gu c.code[k] k).length,.int .i64 0] (Hr hl):=by
   rw[FL42_1];simp -implicitDefEqProofs only[L42_1,am,ar,nh,dq,ae,ai,Xt,Xv hlen,hi0,NE,hcut,fK3,Hu,hix,Ga,hN,aj,eN,List.getElem?_cons_zero,Yb,ux hk];rw[aS (q9 hkl)];by_cases h8:c.code[k].op=18
   ·have h1:hl[k]! = 1:=Classical.byContradiction fun e=>h18 ⟨h8,e⟩;simp -implicitDefEqProofs only[aB,ae,XO hlt,z4,fJ0,vZ,kY,XU h8,aj,am,z5,wC];rw[aS (q9 hkl)];simp -implicitDefEqProofs only[JN,XU h1,XR,ae,aj,am,cz,cr,ai,Xs,Xy,Te,hB,nh]
   ·simp -implicitDefEqProofs only[aB,ae,XO hlt,z4,fJ0,vZ,kY,XO h8,aj,am,z3,cz,cr,ai,Xs,Xy,Te,hB,nh]
  have eR:ry c.code (f+1) hl ((k:Int):: td)=match ko n k (aG c.code[k]).1 (aG c.code[k]).2 (gu c.code[k] k) hl td with|none=>none|some (hl',td')=>ry c.code f hl' td':=by
   simp only[ry,XC,hck,hn];rw[Xr (fun e=>e.elim hlt h18)];cases ko n k (aG c.code[k]).1 (aG c.code[k]).2 (gu c.code[k] k) hl td<;>rfl
  rw[eC,eR];have hst:=rj (ak (L42_1 (af pg) ak)) hn hnb hk b1 b3 b4 hnl hnx (gu c.code[k] k) [] hl td rfl H hd ZS;rcases hst with⟨h',s1,s2⟩|⟨hl',td',s1,s2⟩
  ·grind
  ·have hin:=qy hk b1 b3 b4 _ hl td H hd hnx (fun x h=>ht x (by simp[h])) s1;have ih:=AM hn hnb hf f hl' td' hin.1 ZS ZS hin.2.2
   grind
def Kr(a b:Nat):((List.replicate a (-1:Int))++List.replicate (b+1) 0).set a (-1)=List.replicate (a+1) (-1)++List.replicate b 0:=by
 rw[List.set_append_right _ _ ZV,Zj,Y9,List.replicate_succ,Zv,List.replicate_succ',Ye];rfl
theorem DZ{c:Cod}{n:Nat}(hn:c.code.length=n)(hnb:n<=1000000)(hnm:∀i∈c.code,i.names.length<=1000000):∀(B A:List Ins),A++B=c.code->
  (B.all (bH n c.locals)=false/\∃h',ak (L42_2 (af pg) ak) [.ip (aa c.av),.hs 0 0 n 1 false,nG c.code,.int .i64 n,.int .i64 A.length] (Hr (List.replicate A.length (-1)++List.replicate B.length 0))= .ok (.tup [.sl [],.bool false]) h')\/
  (B.all (bH n c.locals)=true/\ak (L42_2 (af pg) ak) [.ip (aa c.av),.hs 0 0 n 1 false,nG c.code,.int .i64 n,.int .i64 A.length] (Hr (List.replicate A.length (-1)++List.replicate B.length 0))=ak (L42_2 (af pg) ak) [.ip (aa c.av),.hs 0 0 n 1 false,nG c.code,.int .i64 n,.int .i64 n] (Hr (List.replicate n (-1))))
 |[],A,e=>by
  grind
 | i:: B,A,e=>by
  have hlen:A.length+(B.length+1)=n:=by rw[<- hn,<- e];simp
  have h1:(A.length:Int)<(n:Int):=ZS
  have hix:=RH (l:=c.code) (n:=A.length) ZS;rw[Xx c.code A.length ZS,show c.code[A.length]'(ZS)=i by simp[<- e]]at hix;have hw:IntKind.i64.wrap ((A.length:Int)+1)=((A++[i]).length:Nat):=by rw[aM ZS ZS];simp
  have hF:=t95 c i (hnm i ZU);rw[hn]at hF;have hst:=Ob (hl:=List.replicate A.length (-1)++List.replicate (B.length+1) 0) (k:=A.length) ZV (-1);rw[Kr]at hst;cases hf:bH n c.locals i with
  |false=>
   refine .inl ⟨by simp[hf],Hr (List.replicate A.length (-1)++List.replicate (i:: B).length 0),?_⟩;rw[FL42_2];simp -implicitDefEqProofs only[L42_2,am,ar,aB,ae,ai,Xt,Xv h1,hix,Ga,Tb,aj,Te,hF,hf,Fy,X3,XF];rfl
  | true=>
   have ih:=DZ hn hnb hnm B (A++[i]) ZU;have eA:(A++[i]).length=A.length+1:=ZV
   rw[eA]at ih hw;have eC:ak (L42_2 (af pg) ak) [.ip (aa c.av),.hs 0 0 n 1 false,nG c.code,.int .i64 n,.int .i64 A.length] (Hr (List.replicate A.length (-1)++List.replicate (i:: B).length 0))=ak (L42_2 (af pg) ak) [.ip (aa c.av),.hs 0 0 n 1 false,nG c.code,.int .i64 n,.int .i64 ((A.length+1:Nat):Int)] (Hr (List.replicate (A.length+1) (-1)++List.replicate B.length 0)):=by
    rw[FL42_2,XX];simp -implicitDefEqProofs only[L42_2,am,ar,aB,ae,ai,Xt,Xv h1,hix,Ga,Tb,aj,Te,hF,hf,Fy,XR,Xs,Xy,ux (n:=n) (k:=A.length) ZS];rw[aS hst];simp -implicitDefEqProofs only[bm,ae,hw]
   grind
end Go.Proofs.YtbndmpiddinalabGreatDoor
