/- What the functions of the seat compute, part 6: the texts of the claim, one behind the other. Conditions: bounds, as each theorem names them. -/
import Derived.Test.YtpmcemjkdkbicaaGreatDoorTe
set_option linter.defProp false
set_option linter.unusedSimpArgs false
set_option linter.unusedVariables false
namespace Go.Proofs.YtpmcemjkdkbicaaGreatDoor
open Go Go.Av Go.Av.Ap
set_option maxRecDepth 100000
def qI{A R c:List AV}{off:Nat}(h:off+c.length<=A.length):setCells (A++R) off c=setCells A off c++R:=by
 unfold setCells;rw[List.take_append_of_le_length (by omega),List.drop_append_of_le_length (by omega)];simp
def qf{A R c:List AV}{o:Nat}:setCells (A++R) (A.length+o) c=A++setCells R o c:=by
 unfold setCells;rw[OA,NS,OB];simp
theorem mm{α:Type}{f:α->AV}{sz:Nat}(hs:∀x,(ab (f x)).length=sz){y:α}{off:Nat}{c:List AV}(hoff:off+c.length<=sz):∀(l:List α)(k:Nat)(hk:k<l.length),setCells (ab (f l[k])) off c=ab (f y)->setCells (rowOf f l) (k*sz+off) c=rowOf f (l.set k y)
 |x:: l,0,_,h=>by
  rw[eE,Nw,Ma,qI (by rw[hs];exact hoff)];simp only[List.getElem_cons_zero]at h;rw[h,List.set_cons_zero,eE]
 |x:: l,k+1,hk,h=>by
  have e:(k+1)*sz+off=(ab (f x)).length+(k*sz+off):=by rw[hs,Nu];omega
  rw[eE,e,qf,mm hs hoff l k (by simpa using hk) (by simpa using h),List.set_cons_succ,eE]
section
variable (e:Exp)
theorem fE0:aa T 57 (.ip (ab e.av)) 0=some (.ip ((ab e.av).drop 0)):=rfl
theorem fE1:aa T 57 (.ip (ab e.av)) 1=some (.ip ((ab e.av).drop 1)):=rfl
theorem fE2:aa T 57 (.ip (ab e.av)) 2=some (.ip ((ab e.av).drop 2)):=rfl
theorem fE3:aa T 57 (.ip (ab e.av)) 3=some (.ip ((ab e.av).drop 3)):=rfl
theorem fE4:aa T 57 (.ip (ab e.av)) 4=some (.ip ((ab e.av).drop 4)):=rfl
theorem fE5:aa T 57 (.ip (ab e.av)) 5=some (.ip ((ab e.av).drop 5)):=rfl
theorem KM:aj T 3 (.ip ((ab e.av).drop 0))=some (.int .i64 e.op):=by rw[bp];rfl
theorem Ke:aj T 3 (.ip ((ab e.av).drop 1))=some (.int .i64 e.n):=by rw[bp];rfl
theorem G6:aj T 9 (.ip ((ab e.av).drop 2))=some (.str e.s):=by rw[bp];rfl
theorem K2:aj T 9 (.ip ((ab e.av).drop 3))=some (.str e.m):=by rw[bp];rfl
theorem K3:aj T 35 (.ip ((ab e.av).drop 4))=some (strs e.names):=by rw[bp];rfl
theorem Gz:aj T 37 (.ip ((ab e.av).drop 5))=some (cw e.args):=by rw[bp];rfl
theorem Bi:aj T 57 (.ip (ab e.av))=some e.av:=by
 have h:aj T 57 (.ip (ab e.av))=if 6<=(ab e.av).length then some (.agg ((ab e.av).take 6))else none:=rfl;rw[h,bp];simp
end
theorem eV(t:Nat)(a b:Int):ao T .eql t (.int .i64 a) (.int .i64 b)=some (.bool (decide (a=b))):=rfl
theorem CQ(a:Int):aQ T false 67 [(0,.int .i64 a)]=some (aD a 0).av:=rfl
theorem F8(a n:Int):aQ T false 67 [(0,.int .i64 a),(1,.int .i64 n)]=some (aD a n).av:=rfl
theorem KR(a:Int)(l:List aU):aQ T false 67 [(0,.int .i64 a),(4,strs l)]=some (Ins.mk a 0 [] [] l).av:=rfl
theorem KS(a:Int)(s:aU):aQ T false 67 [(0,.int .i64 a),(2,.str s)]=some (Ins.mk a 0 s [] []).av:=rfl
theorem KT(a n:Int)(s m:aU):aQ T false 67 [(0,.int .i64 a),(2,.str s),(3,.str m),(1,.int .i64 n)]=some (Ins.mk a n s m []).av:=rfl
theorem zN{β:Type}(i:Ins)(f:AV->M β):ae (aE 5 [] i.av) f=f i.av:=rfl
def FK(l:List Exp):aK T 37 (cw l)=some (.int .i64 l.length):=rY l
def t71{h:Hp}{l:Nat}{vars:List bM}{c:dP}(H:CS h l vars c)(hb:vars.length<=1000000)(e:Exp)(hn:e.op=13->e.names.length<=1000000):ai pg 71 [.hp l 0,e.av] h= .ok (bU vars e).av h:=by
 rw[C71];simp only[S71,fE0,KM,am,eV,ap,LB];unfold bU;by_cases h3:e.op=3
 ·simp only[LC h3,CQ,am,zN];rfl
 simp only[if_neg h3];by_cases h4:e.op=4
 ·simp only[LC h4,CQ,am,zN];rfl
 simp only[if_neg h4];by_cases h5:e.op=5
 ·simp only[LC h5,CQ,am,zN];rfl
 simp only[if_neg h5];by_cases h6:e.op=6
 ·simp only[LC h6,CQ,am,zN];rfl
 simp only[if_neg h6];by_cases h7:e.op=7
 ·simp only[LC h7,CQ,am,zN];rfl
 simp only[if_neg h7];by_cases h10:e.op=10
 ·simp only[LC h10,CQ,am,zN];rfl
 simp only[if_neg h10];by_cases h13:e.op=13
 ·simp only[LC h13,fE4,K3,am,t59 e.names (by have:=hn h13;omega),ax,KR,zN];rfl
 simp only[if_neg h13];by_cases h14:e.op=14
 ·simp only[LC h14,fE2,G6,am,KS,zN];rfl
 simp only[if_neg h14];by_cases h15:e.op=15
 ·simp only[LC h15,fE2,G6,fE3,K2,fE5,Gz,FK,am,KT,zN];rfl
 simp only[if_neg h15];by_cases h16:e.op=16
 ·simp only[LC h16,fE1,Ke,am,F8,zN];rfl
 simp only[if_neg h16,fE2,G6,am];rw[aL (t68 H e.s hb)];simp only[F8,am,zN];rfl
def HB(vars:List bM)(names:List aU)(em:dP->dP)(e:Exp)(L:Nat):Prop:=∀(c:dP)(h:Hp)(l:Nat),CS h l vars c->c.1.length+L<=100000000000->
 ∃h',ai pg 39 [.hp l 0,e.av,strs names] h= .ok (.tup []) h'/\CS h' l vars (em c)/\og l h h'
theorem KL{lb n k:Nat}(h:k<n):ak T 26 (.hs lb 0 n 5 true) (.int .i64 (k:Int))=some (.hp lb (0+k*5)):=by
 have e:ak T 26 (.hs lb 0 n 5 true) (.int .i64 (k:Int))=if 0<=(k:Int)/\(k:Int)<(n:Int)then some (.hp lb (0+(k:Int).toNat*5))else none:=rfl;rw[e,LC (by omega),LH]
theorem fI1(l k:Nat):aa T 67 (.hp l k) 1=some (.hp l (k+1)):=rfl
def BM{h:Hp}{l:Nat}{vars:List bM}{c:dP}(H:CS h l vars c)(k:Nat)(n:Int)(hk:k<c.1.length):
  ∃lb h',h[l]? = some [aO vars,.hs lb 0 c.1.length 5 true,.int .i64 c.2]/\bI T 3 (.hp lb (0+k*5+1)) (.int .i64 n) h= .ok (.tup []) h'/\CS h' l vars (fJ c.1 k n,c.2)/\og l h h':=by
 obtain⟨x,hl,hx⟩:=H;rcases hx with⟨h1,rfl⟩|⟨h1,lb,hlb,rfl,hq⟩
 ·rw[h1]at hk;cases hk
 ·have hln:=eN (f:=Ins.av) zm c.1;have hr:setCells (rowOf Ins.av c.1) (k*5+1) [.int .i64 n]=rowOf Ins.av (fJ c.1 k n):=by
   unfold fJ;rw[LK c.1 k hk];exact mm zm (by simp) c.1 k hk rfl
  have hlt:=cU hq;refine⟨lb,_,hl,gM (T:=T) (t:=3) rfl (v:=.int .i64 n) hq rfl (show 0+k*5+1+1<=(rowOf Ins.av c.1).length by omega) (by decide),⟨.hs lb 0 c.1.length 5 true,?_,.inr ⟨?_,lb,hlb,?_,?_⟩⟩,og.set (by omega)⟩
  ·rw[L6,if_neg (by omega)];exact hl
  ·intro e
   have:=iU c.1 k n
   rw[show fJ c.1 k n=[]from e]at this;exact h1 (List.length_eq_zero_iff.1 this.symm)
  ·rw[iU]
  ·rw[L6,LC rfl,LC hlt,Ma];exact LG some hr
def t69{vars:List bM}{names:List aU}{em:Exp->dP->dP}{yes no:Exp}{L1 L2:Nat}(h1:HB vars names (em yes) yes L1)(h2:HB vars names (em no) no L2)(a1:iY (em yes) L1)(a2:iY (em no) L2){c:dP}{h:Hp}{l:Nat}(H:CS h l vars c)(hb:c.1.length+(L1+L2+2)<=100000000000):∃h',ai pg 69 [.hp l 0,yes.av,no.av,strs names] h= .ok (.tup []) h'/\CS h' l vars (cT em yes no c)/\og l h h':=by
 obtain⟨k1,e1,H1,o1⟩:=t40 H (aD 11 0) (by omega);have g1:=bS (aD 11 0) c;dsimp only[cT];generalize bF (aD 11 0) c=c1 at *;obtain⟨k2,e2,H2,o2⟩:=h1 c1 k1 l H1 (by omega);have g2:=a1 c1;generalize em yes c1=c2 at *;obtain⟨k3,e3,H3,o3⟩:=t40 H2 (aD 10 0) (by omega);have g3:=bS (aD 10 0) c2;generalize bF (aD 10 0) c2=c3 at *;obtain⟨lb,k4,r4,e4,H4,o4⟩:=BM H3 c.1.length c3.1.length (by omega);have g4:=iU c3.1 c.1.length c3.1.length;obtain⟨k5,e5,H5,o5⟩:=h2 (fJ c3.1 c.1.length c3.1.length,c3.2) k4 l H4 (by simp only[g4];omega);have g5:=a2 (fJ c3.1 c.1.length c3.1.length,c3.2);generalize em no (fJ c3.1 c.1.length c3.1.length,c3.2)=c5 at *;simp only[g4]at g5;obtain⟨lb2,k6,r6,e6,H6,o6⟩:=BM H5 c2.1.length c5.1.length (by omega);refine⟨k6,?_,H6,(((((o1.trans o2).trans o3).trans o4).trans o5).trans o6)⟩;have ln:∀(b n:Nat),aK T 26 (.hs b 0 n 5 true)=some (.int .i64 n):=fun _ _=>rfl;rw[C69];simp -implicitDefEqProofs only[S69,CQ,am];rw[aL e1];simp -implicitDefEqProofs only[Bi,am];rw[aL e2,aL e3];simp -implicitDefEqProofs only[BG,fC1,am];rw[aL (ji r4),aL (ji r4)];simp -implicitDefEqProofs only[ln,am,KL (lb:=lb) (show c.1.length<c3.1.length by omega),fI1];rw[aL e4,aL e5,aL (ji r6),aL (ji r6)];simp -implicitDefEqProofs only[ln,am,KL (lb:=lb2) (show c2.1.length<c5.1.length by omega),fI1];rw[aL e6];rfl
theorem BA{vars:List bM}{names:List aU}{em:Exp->dP->dP}{L:Nat}{es:List Exp}(hes:es.length<=1000000){l:Nat}:∀(B A:List Exp)(c:dP)(h:Hp),A++B=es->(∀x∈B,HB vars names (em x) x L)->(∀x∈B,iY (em x) L)->CS h l vars c->c.1.length+B.length*L<=100000000000->
  ∃h',ah (L70_0 (ai pg) ah) [.hp l 0,strs names,cw es,.int .i64 es.length,.int .i64 A.length] h= .ok (.tup []) h'/\CS h' l vars (B.foldl (fun c x=>em x c) c)/\og l h h'
 |[],A,c,h,e,_,_,H,_=>by
  subst e;refine⟨h,?_,H,og.refl _ _⟩;have h1:¬((A.length:Int)<((A++[]).length:Int)):=by simp
  rw[FL70_0];simp only[L70_0,aw,aB,aH,am,ap,LB,if_neg h1];rfl
 |x:: B,A,c,h,e,ho,ha,H,hb=>by
  have hlen:A.length+(B.length+1)=es.length:=by rw[<- e];simp
  have h1:(A.length:Int)<(es.length:Int):=by omega
  have hix:=kJ (l:=es) (n:=(A.length:Int)) (by omega) h1;have hx:es[A.length]! = x:=by rw[LK es A.length (by omega)];simp[<- e]
  rw[LH,hx]at hix;have hw:IntKind.i64.wrap ((A.length:Int)+1)=((A++[x]).length:Nat):=by rw[a8 (by omega) (by omega)];simp
  simp only[LQ,Nu]at hb;obtain⟨k1,e1,H1,o1⟩:=ho x (by simp) c h l H (by omega);have g1:=ha x (by simp) c;obtain⟨k2,e2,H2,o2⟩:=BA hes B (A++[x]) (em x c) k1 (by rw[<- e];simp) (fun y hy=>ho y (by simp[hy])) (fun y hy=>ha y (by simp[hy])) H1 (by omega);refine⟨k2,?_,H2,o1.trans o2⟩;rw[FL70_0];simp only[L70_0,aw,aB,aH,am,ap,LB,LC h1,hix,Bi,we,ax];rw[aL e1];simp only[bD,am,hw];exact e2
def t70{vars:List bM}{names:List aU}{em:Exp->dP->dP}{L:Nat}{es:List Exp}(hes:es.length<=1000000)(ho:∀x∈es,HB vars names (em x) x L)(ha:∀x∈es,iY (em x) L){c:dP}{h:Hp}{l:Nat}(H:CS h l vars c)(hb:c.1.length+es.length*L<=100000000000):
  ∃h',ai pg 70 [.hp l 0,cw es,strs names] h= .ok (.tup []) h'/\CS h' l vars (es.foldl (fun c x=>em x c) c)/\og l h h':=by
 obtain⟨h',e1,H1,o1⟩:=BA hes es [] c h rfl ho ha H hb;refine⟨h',?_,H1,o1⟩;rw[C70];simp only[S70,FK,am];exact e1
end Go.Proofs.YtpmcemjkdkbicaaGreatDoor
namespace Go.Proofs.YtpmcemjkdkbicaaGreatDoor
open Go Go.Av Go.Av.Ap
set_option maxRecDepth 100000
def wv{f:FuncId}{args:List AV}{v:AV}(h:ai pg f args=M.pure v):tP (ai pg) f args=M.pure v:=by
 unfold tP;rw[h];cases pg.iso f<;>rfl
def Cm(n:Int):cd (tP (ai pg)) (.fn (.func 66) [] []) [.int .i64 n]=M.pure (fe n).av:=wv (t66 n)
section
variable {e:Exp}
theorem Dt(h:0<e.args.length):ak T 37 (cw e.args) (.int .i64 0)=some (.ip (ab e.args[0]!.av)):=kJ (l:=e.args) (n:=0) (by omega) (by omega)
theorem Du(h:1<e.args.length):ak T 37 (cw e.args) (.int .i64 1)=some (.ip (ab e.args[1]!.av)):=kJ (l:=e.args) (n:=1) (by omega) (by omega)
theorem Kb(h:2<e.args.length):ak T 37 (cw e.args) (.int .i64 2)=some (.ip (ab e.args[2]!.av)):=kJ (l:=e.args) (n:=2) (by omega) (by omega)
end
def nW{n:Nat}(h:1<=n)(t:Int)(ht:t=0\/t=1):bo n (fe t)=true:=by
 obtain⟨m,rfl⟩:∃m,n=m+1:=⟨n-1,by omega⟩;rw[cQ];rcases ht with rfl|rfl<;>rfl
def Lb(a b:Int):gF true [.int .i64 a,.int .i64 b]=some (.int .i64 (max a b)):=by
 rw[gF,zx];simp only[LF,gF];congr 2;split<;>omega
theorem dU{α:Type}(a:α):cW (M.pure a)=M.pure a:=rfl
theorem KC(s:aU):aS T 35 1 [(0,.str s)]=some (strs [s]):=rfl
theorem t39{vars:List bM}(hv:vars.length<=1000000):∀(n:Nat)(e:Exp),bo n e=true->∀names:List aU,names.length+n<=1000000->HB vars names (aN vars n e names) e (fw n)
 |0,e,h,_,_=>by simp[bo]at h
 | n+1,e,h,names,hn=>by
  have ih:=t39 hv n;have hs:di e=true:=by rw[cQ,LD]at h;exact h.1
  have hc:=dC hs;have h8:=xC hs;intro c hp l H hb;simp only[fw]at hb;rw[C39];simp -implicitDefEqProofs only[S39,fE0,KM,am,eV,ap,LB];unfold aN;by_cases o0:e.op=0
  ·obtain⟨h1,e1,H1,l1⟩:=t40 H (aD 0 e.n) (by omega);refine⟨h1,?_,by rw[LC o0];exact H1,l1⟩;simp -implicitDefEqProofs only[LC o0,fE1,Ke,F8,am];rw[aL e1];rfl
  simp -implicitDefEqProofs only[if_neg o0];by_cases o1:e.op=1
  ·obtain⟨h1,e1,H1,l1⟩:=t40 H (aD 1 e.n) (by omega);refine⟨h1,?_,by rw[LC o1];exact H1,l1⟩;simp -implicitDefEqProofs only[LC o1,fE1,Ke,F8,am];rw[aL e1];rfl
  simp -implicitDefEqProofs only[if_neg o1];by_cases o2:e.op=2
  ·obtain⟨h1,e1,H1,l1⟩:=t40 H (aD 2 (jy names e.s)) (by omega);refine⟨h1,?_,by rw[LC o2];exact H1,l1⟩;simp -implicitDefEqProofs only[LC o2,fE2,G6,am,t67 names e.s (by omega),ax,F8];rw[aL e1];rfl
  simp -implicitDefEqProofs only[if_neg o2];by_cases o17:e.op=17
  ·obtain⟨h1,e1,H1,l1⟩:=t40 H (aD 16 (iW vars e.s)) (by omega);refine⟨h1,?_,by rw[LC o17];exact H1,l1⟩;simp -implicitDefEqProofs only[LC o17,fE2,G6,am];rw[aL (t68 H e.s hv)];simp -implicitDefEqProofs only[F8,am];rw[aL e1];rfl
  simp -implicitDefEqProofs only[if_neg o17];by_cases o8:e.op=8
  ·have hl:e.args.length=2:=by omega
   have r0:=bq h (k:=0) (by omega);have r1:=bq h (k:=1) (by omega);have hn1:1<=n:=by obtain⟨m,rfl⟩:=cu r0;omega
   have rt:=nW hn1 0 (.inl rfl);obtain⟨h1,e1,H1,l1⟩:=ih _ r0 names (by omega) c hp l H (by omega);have g1:=bQ vars _ _ r0 names c;obtain⟨h2,e2,H2,l2⟩:=t69 (em:=fun x=>aN vars n x names) (ih _ r1 names (by omega)) (ih _ rt names (by omega)) (bQ vars _ _ r1 names) (bQ vars _ _ rt names) H1 (by omega);refine⟨h2,?_,by rw[LC o8];exact H2,l1.trans l2⟩;simp -implicitDefEqProofs only[LC o8,fE5,Gz,am,Dt (e:=e) (by omega),Bi];rw[aL e1];simp -implicitDefEqProofs only[am,Du (e:=e) (by omega),Bi,Cm,ax];rw[aL e2];rfl
  simp -implicitDefEqProofs only[if_neg o8];by_cases o9:e.op=9
  ·have hl:e.args.length=2:=by omega
   have r0:=bq h (k:=0) (by omega);have r1:=bq h (k:=1) (by omega);have hn1:1<=n:=by obtain⟨m,rfl⟩:=cu r0;omega
   have rt:=nW hn1 1 (.inr rfl);obtain⟨h1,e1,H1,l1⟩:=ih _ r0 names (by omega) c hp l H (by omega);have g1:=bQ vars _ _ r0 names c;obtain⟨h2,e2,H2,l2⟩:=t69 (em:=fun x=>aN vars n x names) (ih _ rt names (by omega)) (ih _ r1 names (by omega)) (bQ vars _ _ rt names) (bQ vars _ _ r1 names) H1 (by omega);refine⟨h2,?_,by rw[LC o9];exact H2,l1.trans l2⟩;simp -implicitDefEqProofs only[LC o9,fE5,Gz,am,Dt (e:=e) (by omega),Bi];rw[aL e1];simp -implicitDefEqProofs only[am,Du (e:=e) (by omega),Bi,Cm,ax];rw[aL e2];rfl
  simp -implicitDefEqProofs only[if_neg o9];by_cases o11:e.op=11
  ·have hl:e.args.length=3:=by omega
   have r0:=bq h (k:=0) (by omega);have r1:=bq h (k:=1) (by omega);have r2:=bq h (k:=2) (by omega);obtain⟨h1,e1,H1,l1⟩:=ih _ r0 names (by omega) c hp l H (by omega);have g1:=bQ vars _ _ r0 names c;obtain⟨h2,e2,H2,l2⟩:=t69 (em:=fun x=>aN vars n x names) (ih _ r1 names (by omega)) (ih _ r2 names (by omega)) (bQ vars _ _ r1 names) (bQ vars _ _ r2 names) H1 (by omega);refine⟨h2,?_,by rw[LC o11];exact H2,l1.trans l2⟩;simp -implicitDefEqProofs only[LC o11,fE5,Gz,am,Dt (e:=e) (by omega),Bi];rw[aL e1];simp -implicitDefEqProofs only[am,Du (e:=e) (by omega),Kb (e:=e) (by omega),Bi];rw[aL e2];rfl
  simp -implicitDefEqProofs only[if_neg o11];by_cases o12:e.op=12
  ·have hl:e.args.length=2:=by omega
   have r0:=bq h (k:=0) (by omega);have r1:=bq h (k:=1) (by omega);obtain⟨h1,e1,H1,l1⟩:=ih _ r0 names (by omega) c hp l H (by omega);have g1:=bQ vars _ _ r0 names c;simp -implicitDefEqProofs only[LC o12];generalize aN vars n e.args[0]! names c=c1 at *;obtain⟨h2,e2,H2,l2⟩:=t40 H1 (aD 3 names.length) (by omega);have g2:=bS (aD 3 names.length) c1;generalize bF (aD 3 names.length) c1=c2 at *;obtain⟨x,hx,cx⟩:=H2;have hlt:=cU hx;have st:bI T 3 (.hp l 2) (.int .i64 (max c2.2 ((names.length:Int)+1))) h2= .ok (.tup []) (h2.set l [aO vars,x,.int .i64 (max c2.2 ((names.length:Int)+1))]):=
    gM (T:=T) (t:=3) rfl (v:=.int .i64 (max c2.2 ((names.length:Int)+1))) hx rfl (show 2+1<=3 by omega) (by decide)
   have H3:CS (h2.set l [aO vars,x,.int .i64 (max c2.2 ((names.length:Int)+1))]) l vars (c2.1,max c2.2 ((names.length:Int)+1)):=by
    refine⟨x,by rw[L6,LC rfl,LC hlt],?_⟩;rcases cx with cx|⟨z1,lb,z2,z3,z4⟩
    ·exact .inl cx
    ·exact .inr ⟨z1,lb,z2,z3,by rw[L6,if_neg (by omega)];exact z4⟩
   obtain⟨h3,e3,H4,l3⟩:=ih _ r1 (names++[e.s]) (by simp;omega) _ _ l H3 (by simp only;omega);refine⟨h3,?_,H4,((l1.trans l2).trans (og.set (LI _))).trans l3⟩;have hw:IntKind.i64.wrap ((names.length:Int)+1)=names.length+1:=a8 (by omega) (by omega);have hap:dm T 35 (strs names) (strs [e.s])=some (strs (names++[e.s])):=FS (by simp;omega);simp -implicitDefEqProofs only[fE5,Gz,am,Dt (e:=e) (by omega),Bi];rw[aL e1];simp -implicitDefEqProofs only[am,d8,F8];rw[aL e2];simp -implicitDefEqProofs only[am,BG,fC2];rw[aL (Bl hx)];simp -implicitDefEqProofs only[am,d8,bD,hw,Lb];rw[aL st];simp -implicitDefEqProofs only[am,fE5,Gz,Du (e:=e) (by omega),Bi,t59 names (by omega),dU,ax,fE2,G6,KC,hap];rw[aL e3];rfl
  simp -implicitDefEqProofs only[if_neg o12];have hm:e.args.length*fw n<=8*fw n:=L0 _ h8;obtain⟨h1,e1,H1,l1⟩:=t70 (em:=fun x=>aN vars n x names) (L:=fw n) (es:=e.args) (by omega) (fun x hx=>ih x (dh h hx) names (by omega)) (fun x hx=>bQ vars n x (dh h hx) names) H (by omega);have g1:=pd (fun x=>aN vars n x names) (fw n) e.args (fun x hx=>bQ vars n x (dh h hx) names) c;dsimp only at g1 H1;generalize e.args.foldl (fun c x=>aN vars n x names c) c=c1 at *;obtain⟨h2,e2,H2,l2⟩:=t40 H1 (bU vars e) (by omega);have hpl:=t71 H1 hv e (fun h13=>by rcases hc with hc|hc|hc|hc|hc|hc|hc|hc|⟨_,k2,_⟩|hc|hc|hc|hc|hc<;>omega);refine⟨h2,?_,H2,l1.trans l2⟩;simp -implicitDefEqProofs only[fE5,Gz,am];rw[aL e1];simp -implicitDefEqProofs only[am,Bi];rw[aL hpl,aL e2];rfl
end Go.Proofs.YtpmcemjkdkbicaaGreatDoor
namespace Go.Proofs.YtpmcemjkdkbicaaGreatDoor
open Go Go.Av Go.Av.Ap
set_option maxRecDepth 100000
theorem AY(k:Int)(es:List Exp):aQ T false 57 [(0,.int .i64 k),(5,cw es)]=some (Exp.mk k 0 [] [] [] es).av:=rfl
def sq(e:Exp):aT 6 e.av=M.pure e.av:=by rw[ck (kc _),bp,ez]
def AG(e:Exp):aE 6 [] e.av=M.pure e.av:=by rw[bJ (kc _),bp,ez]
def f6(o n:Int)(s m:aU)(ns:List aU)(es:List Exp):AV.agg [.int .i64 o,.int .i64 n,.str s,.str m,strs ns,cw es]=(Exp.mk o n s m ns es).av:=ez (Exp.mk o n s m ns es)
def KF(o n:Int)(s m:aU)(es:List Exp):AV.agg [.int .i64 o,.int .i64 n,.str s,.str m,.sl [],cw es]=(Exp.mk o n s m [] es).av:=ez (Exp.mk o n s m [] es)
def xS(e:Exp)(n:Int):aM (M.pure (.tup [e.av,.int .i64 n]))=M.pure (.tup [e.av,.int .i64 n]):=cg fun g=>by simp[cl,dn]
def cv(o n:Int)(s m:aU)(ns:List aU)(es:List Exp):ab (Exp.mk o n s m ns es).av=[.int .i64 o,.int .i64 n,.str s,.str m,strs ns,cw es]:=bp _
def t98(e:Exp):ai pg 98 [e.av]=M.pure (.tup [(eY e).1.av,.int .i64 (eY e).2]):=by
 have hc1:∀n:Int,cq (.int .i64 n)=M.pure (.int .i64 n):=fun n=>rfl;have hc2:∀s:aU,cq (.str s)=M.pure (.str s):=fun s=>rfl;have hc3:∀s:List aU,cq (strs s)=M.pure (strs s):=fun s=>rfl;rw[C98];obtain⟨o,n,s,m,ns,es⟩:=e;have ho:o=0\/o=1\/o=2\/o=17\/o=18\/o=14\/o=16\/o=10\/o=12\/o=11\/o=13\/o=15\/(o≠0/\o≠1/\o≠2/\o≠17/\o≠18/\o≠14/\o≠16/\o≠10/\o≠12/\o≠11/\o≠13/\o≠15):=by omega
 rcases ho with rfl|rfl|rfl|rfl|rfl|rfl|rfl|rfl|rfl|rfl|rfl|rfl|⟨h0,h1,h2,h17,h18,h14,h16,h10,h12,h11,h13,h15⟩
 all_goals first
  | (simp[S98,K98_0,K98_1,K98_2,AY,AG,cv,f6,KF,hc1,hc2,hc3,eY,Exp.op,Exp.n,Exp.s,Exp.m,Exp.names,Exp.args]
     exact xS _ _)
  | (simp[S98,K98_0,K98_1,K98_2,AY,AG,cv,f6,KF,hc1,hc2,hc3,eY,Exp.op,Exp.n,Exp.s,Exp.m,Exp.names,Exp.args,h0,h1,h2,h17,h18,h14,h16,h10,h12,h11,h13,h15]
     exact xS _ _)
theorem DK(e:Exp)(he:e.Lim):ah (L99_0 (ai pg) ah) [.ip (ab e.av),strs e.names,.int .i64 e.names.length,.int .i64 0]=M.pure (.bool (d9 e.names)):=by
 have hlen:=he.names
 have hloop:∀(m i:Nat),e.names.length-i=m->i<=e.names.length->ah (L99_0 (ai pg) ah) [.ip (ab e.av),strs e.names,.int .i64 e.names.length,.int .i64 i]=M.pure (.bool ((List.range' i (e.names.length-i)).all (fun k=>bz e.names[k]! && (decide (k=0)||dD e.names[k-1]! e.names[k]!))&&decide (e.names.length<=8))):=by
  intro m
  induction m with
  |zero=>
   intro i hm hi;rw[FL99_0,hm];have h1:¬((i:Int)<(e.names.length:Int)):=by omega
   have h2:decide ((e.names.length:Int)<=8)=decide (e.names.length<=8):=by rw[MG];omega
   simp[L99_0,h1,h2]
  | succ m ih=>
   intro i hm hi;have hlt:i<e.names.length:=by omega
   have h1:(i:Int)<(e.names.length:Int):=by omega
   have ih':=ih (i+1) (by omega) (by omega);have er:List.range' i (e.names.length-i)=i:: List.range' (i+1) (e.names.length-(i+1)):=by
    rw[show e.names.length-i=(e.names.length-(i+1))+1 by omega,N7]
   have hix:=jI (l:=e.names) (n:=(i:Int)) (by omega) h1;rw[LH]at hix;have hw:IntKind.i64.wrap ((i:Int)+1)=((i+1:Nat):Int):=bu (by omega);have h2:=t15 e.names[i]!;rw[FL99_0,er,MQ];generalize e.names[i]! = s at hix h2 |-;cases hn:bz s with
   |false=>
    rw[hn]at h2;simp[L99_0,h1,hix,h2]
   | true=>
    rw[hn]at h2;rcases Mq i with hk0|hk0
    ·subst hk0;have hix0:ak T 35 (strs e.names) (.int .i64 0)=some (.ip (ab (.str s))):=hix;have hw0:IntKind.i64.wrap 1=1:=rfl;have hlt':0<e.names.length:=hlt;simpa [L99_0,h1,hlt',hix0,h2,hw0]using ih'
    ·have hp:IntKind.i64.wrap ((i:Int)-1)=((i-1:Nat):Int):=by
      rw[a8 (by omega) (by omega)];omega
     have h4:((i-1:Nat):Int)<(e.names.length:Int):=by omega
     have hix2:=jI (l:=e.names) (n:=((i-1:Nat):Int)) (by omega) h4;rw[LH]at hix2;generalize e.names[i-1]! = g at hix2 |-;have hk2:0<(i:Int):=by omega
     have hk3:¬i=0:=by omega
     have hle:ao T .leq 9 (.str s) (.str g)=some (.bool (!(dD g s))):=by
      have:ao T .leq 9 (.str s) (.str g)=some (.bool (bK s g||s== g)):=rfl;rw[this];simp[dD]
     cases hs:dD g s with
     |false=>
      rw[hs]at hle;simp[L99_0,h1,hix,h2,hp,hix2,hk0,hk2,hk3,hle,-yz]
     |true=>
      rw[hs]at hle;simpa [L99_0,h1,hix,h2,hp,hix2,hk0,hk2,hk3,hle,hw,-yz]using ih'
 have h:=hloop e.names.length 0 rfl (LZ _);rw[OL,sb]at h;exact h
theorem t99(e:Exp)(he:e.Lim):ai pg 99 [e.av]=M.pure (.bool (dI e)):=by
 rw[C99];have hs:=t15 e.s;have hm:=t15 e.m;have hbn:=DK e he;obtain⟨o,n,s,m,ns,es⟩:=e;simp only[cv,Exp.names]at hbn;simp only[Exp.s,Exp.m]at hs hm;have ho:o=0\/o=1\/o=2\/o=17\/o=18\/o=14\/o=16\/o=12\/o=13\/o=15\/(o≠0/\o≠1/\o≠2/\o≠17/\o≠18/\o≠14/\o≠16/\o≠12/\o≠13/\o≠15):=by omega
 rcases ho with rfl|rfl|rfl|rfl|rfl|rfl|rfl|rfl|rfl|rfl|⟨h0,h1,h2,h17,h18,h14,h16,h12,h13,h15⟩
 ·simp[S99,K99_0,cv,dI,Exp.op,Exp.n,Exp.s,Exp.m,Exp.names,Exp.args];rfl
 ·simp[S99,K99_0,cv,dI,Exp.op,Exp.n,Exp.s,Exp.m,Exp.names,Exp.args]
 ·simp[S99,K99_0,cv,dI,Exp.op,Exp.n,Exp.s,Exp.m,Exp.names,Exp.args,hs]
 ·simp[S99,K99_0,cv,dI,Exp.op,Exp.n,Exp.s,Exp.m,Exp.names,Exp.args,hs]
 ·simp[S99,K99_0,cv,dI,Exp.op,Exp.n,Exp.s,Exp.m,Exp.names,Exp.args,hs]
 ·simp[S99,K99_0,cv,dI,Exp.op,Exp.n,Exp.s,Exp.m,Exp.names,Exp.args,hs]
 ·simp[S99,K99_0,cv,dI,Exp.op,Exp.n,Exp.s,Exp.m,Exp.names,Exp.args]
 ·simp[S99,K99_0,cv,dI,Exp.op,Exp.n,Exp.s,Exp.m,Exp.names,Exp.args,hs]
 ·simp[S99,K99_0,cv,dI,Exp.op,Exp.n,Exp.s,Exp.m,Exp.names,Exp.args,hbn]
 ·have e6:ao T .leq 3 (.int .i64 es.length) (.int .i64 6)=some (.bool (decide (es.length<=6))):=by
   have:ao T .leq 3 (.int .i64 es.length) (.int .i64 6)=some (.bool (decide ((es.length:Int)<=6))):=rfl;rw[this];exact LG (fun b=>some (AV.bool b)) (MG.2 (by omega))
  cases ha:bz s with
  |false=>rw[ha]at hs;simp[S99,K99_0,cv,dI,Exp.op,Exp.n,Exp.s,Exp.m,Exp.names,Exp.args,hs,ha]
  | true=>
   rw[ha]at hs;by_cases hme:m=[]
   ·simp[S99,K99_0,cv,dI,Exp.op,Exp.n,Exp.s,Exp.m,Exp.names,Exp.args,hs,ha,hme,e6,-kw];try rfl
   ·cases hb:bz m with
    |false=>rw[hb]at hm;simp[S99,K99_0,cv,dI,Exp.op,Exp.n,Exp.s,Exp.m,Exp.names,Exp.args,hs,hm,ha,hb,hme,e6,-kw];try rfl
    |true=>rw[hb]at hm;simp[S99,K99_0,cv,dI,Exp.op,Exp.n,Exp.s,Exp.m,Exp.names,Exp.args,hs,hm,ha,hb,hme,e6,-kw];try rfl
 ·simp[S99,K99_0,cv,dI,Exp.op,Exp.n,Exp.s,Exp.m,Exp.names,Exp.args,h0,h1,h2,h17,h18,h14,h16,h12,h13,h15]
theorem t65:∀(d:Nat),d<=100->∀(e:Exp),e.Lim->ai pg 65 [e.av,.int .i64 d]=M.pure (.bool (bo d e))
 |0,_,e,_=>by
  rw[C65];simp[S65,bo]
 | d+1,hd,e,he=>by
  have hlen:=he.len;have hd1:IntKind.i64.wrap (((d+1:Nat):Int)-1)=(d:Int):=iX (by omega);have hloop:∀(m i:Nat),e.args.length-i=m->i<=e.args.length->ah (L65_0 (ai pg) ah) [.int .i64 ((d+1:Nat):Int),cw e.args,.int .i64 e.args.length,.int .i64 i]=M.pure (.bool ((e.args.drop i).all (bo d))):=by
   intro m
   induction m with
   |zero=>
    intro i hm hi;have h1:¬((i:Int)<(e.args.length:Int)):=by omega
    have h2:e.args.drop i=[]:=Me (by omega);rw[FL65_0,h2];simp[L65_0,h1]
   |succ m ih=>
    intro i hm hi;have hlt:i<e.args.length:=by omega
    have h1:(i:Int)<(e.args.length:Int):=by omega
    have h2:e.args.drop i=e.args[i]:: e.args.drop (i+1):=L9 hlt;have hix:=kJ (l:=e.args) (n:=(i:Int)) (by omega) h1;rw[LH,LK e.args i hlt]at hix;have hw:IntKind.i64.wrap ((i:Int)+1)=((i+1:Nat):Int):=bu (by omega);have hb:=t65 d (by omega) e.args[i] (he.kid (LM hlt));have ih':=ih (i+1) (by omega) (by omega);rw[h2,MQ,FL65_0];generalize e.args[i]=x at hix hb |-;cases hr:bo d x<;>rw[hr]at hb <;>
    simp only[L65_0,aw,aB,aH,am,h1,MI,ap,Mc,hix,bp,LD57,LQ,Mb,Ma,Nat.reduceAdd,LI,Mt,MJ,ez,sq,ax,gd,hd1,hb,gO,M0,ME,LJ,Md,bD,hw,ih',Nt,MV]
  have hx':ah (L65_0 (ai pg) ah) [.int .i64 ((d:Int)+1),cw e.args,.int .i64 e.args.length,.int .i64 0]=M.pure (.bool (e.args.all (bo d))):=hloop e.args.length 0 rfl (LZ _);have hc:=t98 e;have hl:=t99 e he;rw[C65,cQ];unfold di;generalize (eY e).1=c at hc |-;generalize (eY e).2=n at hc |-;have g1:(((d:Int)+1)== 0)=false:=by rw[LX];omega
  have x0:aG (.tup [c.av,.int .i64 n]) 0=some c.av:=rfl;have x1:aG (.tup [c.av,.int .i64 n]) 1=some (.int .i64 n):=rfl;have e1:ao T .neq 3 (.int .i64 c.n) (.int .i64 e.n)=some (.bool (!(c.n== e.n))):=rfl;have e2:ao T .neq 9 (.str c.s) (.str e.s)=some (.bool (!(c.s== e.s))):=rfl;have e3:ao T .neq 9 (.str c.m) (.str e.m)=some (.bool (!(c.m== e.m))):=rfl;have e4:ao T .neq 3 (.int .i64 c.names.length) (.int .i64 e.names.length)=some (.bool (!((c.names.length:Int)== (e.names.length:Int)))):=rfl;have e5:ao T .neq 3 (.int .i64 n) (.int .i64 e.args.length)=some (.bool (!(n== (e.args.length:Int)))):=rfl;have e6:ao T .geq 3 (.int .i64 n) (.int .i64 0)=some (.bool (!(decide (n<0)))):=by
   have:ao T .geq 3 (.int .i64 n) (.int .i64 0)=some (.bool (decide (0<=n))):=rfl;rw[this,<- On];exact LG (fun b=>some (AV.bool b)) (MG.2 (by omega))
  have e7:ao T .lss 3 (.int .i64 e.op) (.int .i64 0)=some (.bool (!(decide (0<=e.op)))):=by
   have:ao T .lss 3 (.int .i64 e.op) (.int .i64 0)=some (.bool (decide (e.op<0))):=rfl;rw[this,<- On];exact LG (fun b=>some (AV.bool b)) (MG.2 (by omega))
  have e8:ao T .geq 3 (.int .i64 e.op) (.int .i64 19)=some (.bool (!(decide (e.op<19)))):=by
   have:ao T .geq 3 (.int .i64 e.op) (.int .i64 19)=some (.bool (decide (19<=e.op))):=rfl;rw[this,<- On];exact LG (fun b=>some (AV.bool b)) (MG.2 (by omega))
  generalize (c.n== e.n)=b1 at e1 |-;generalize (c.s== e.s)=b2 at e2 |-;generalize (c.m== e.m)=b3 at e3 |-;generalize ((c.names.length:Int)== (e.names.length:Int))=b4 at e4 |-;generalize (n== (e.args.length:Int))=b5 at e5 |-;generalize decide (n<0)=b6 at e6 |-;generalize decide (0<=e.op)=b7 at e7 |-;generalize decide (e.op<19)=b8 at e8 |-;generalize dI e=bl at hl |-;generalize e.args.all (bo d)=bx at hx' |-;cases b7 with
  |false=>simp[S65,g1,e7,-aH]
  | true=>
   cases b8 with
   |false=>simp[S65,g1,e7,e8,-aH,-oo]
   |true=>
    cases b6<;>cases b5<;>cases b1<;>cases b2<;>cases b3<;>cases b4<;>cases bl<;>simp[S65,g1,hc,x0,x1,sq,hl,hx',e1,e2,e3,e4,e5,e6,e7,e8,-aH,-oo,-sd]
def t37(e:Exp)(he:e.Lim):ai pg 37 [e.av]=M.pure (.bool (yn e)):=by
 have hb':ai pg 65 [e.av,.int .i64 12]=M.pure (.bool (bo 12 e)):=t65 12 (by omega) e he;rw[C37];simp[S37,hb']
def setRow(ns:List aU):List AV:=ns.map fun s=>.tup [.str s,.bool true]
theorem Gm(a b:aU):yX T 20 9 (.str a) (.str b)=some (a== b):=rfl
theorem mO(s:aU):(ns:List aU)->(i:Nat)->(ns.contains s=false/\eW T 9 (.str s) (setRow ns) i=some none)\/(ns.contains s=true/\∃(j:Nat)(k:AV),eW T 9 (.str s) (setRow ns) i=some (some (j,k,.bool true)))
 |[],i=>.inl ⟨rfl,rfl⟩
 | x:: ns,i=>by
  show (_/\eW T 9 (.str s) (.tup [.str x,.bool true]:: setRow ns) i=_)\/(_/\∃(j:Nat)(k:AV),eW T 9 (.str s) (.tup [.str x,.bool true]:: setRow ns) i=_);unfold eW;rw[Gm,List.contains_cons];cases h:s== x with
  |true=>exact .inr ⟨rfl,i,.str x,rfl⟩
  |false=>
   rcases mO s ns (i+1)with⟨h1,h2⟩|⟨h1,j,k,h2⟩
   ·exact .inl ⟨by rw[h1];rfl,h2⟩
   ·exact .inr ⟨by rw[h1];rfl,j,k,h2⟩
theorem pK{h:Hp}{l:Nat}{ns:List aU}(hl:h[l]? = some [.tup (setRow ns)])(s:aU):eO T 88 (.mp l) (.str s) false h= .ok (.bool (ns.contains s)) h:=by
 have e:nP T 88 (setRow ns) (.str s) false=(match eW T 9 (.str s) (setRow ns) 0 with
   |some (some (_,_,v))=>some v
   |some none=>some (.bool false)
   |none=>none):=rfl
 unfold eO jR;simp only[hl];rw[e];rcases mO s ns 0 with⟨h1,h2⟩|⟨h1,j,k,h2⟩
 ·rw[h2,h1]
 ·rw[h2,h1]
theorem sX{h:Hp}{l:Nat}{ns:List aU}(hl:h[l]? = some [.tup (setRow ns)])(s:aU)(hs:ns.contains s=false):mi T 88 (.mp l) (.str s) (.bool true) h= .ok (.tup []) (h.set l [.tup (setRow (ns++[s]))]):=by
 have e:mi T 88 (.mp l) (.str s) (.bool true) h=(match h[l]? with
   |some [.tup es]=>(match uT T 9 es (.str s) (.bool true)with
    |some es'=>.ok (.tup []) (h.set l [.tup es'])
    |none=>.fail)
   |_=>.fail):=rfl
 rw[e,hl];simp only;unfold uT;rcases mO s ns 0 with⟨h1,h2⟩|⟨h1,j,k,h2⟩
 ·rw[h2];simp[setRow]
 ·rw[h1]at hs;cases hs
def aW{α β:Type}{m:M α}{a:α}{h h':Hp}(e:m h= .ok a h')(f:α->M β):ae m f h=f a h':=by simp only[ae,e]
def KD(x:bM):(ab (bW x)).length=3:=by simp
def ua(l:List bM):aO l= .sl (l.map bW):=by rw[aO,e9]
theorem lq{α:Type}(F:α->Bool):(l:List α)->(i:Int)->(l.find? F=none/\bG F l i= -1)\/∃(k:Nat)(x:α),l.find? F=some x/\l[k]? = some x/\bG F l i=i+k
 |[],i=>.inl ⟨rfl,rfl⟩
 | x:: l,i=>by
  cases h:F x with
  |true=>exact .inr ⟨0,x,by simp[h],rfl,by simp[bG,h]⟩
  |false=>
   rcases lq F l (i+1)with⟨h1,h2⟩|⟨k,y,h1,h2,h3⟩
   ·exact .inl ⟨by simp[h,h1],by simp[bG,h,h2]⟩
   ·exact .inr ⟨k+1,y,by simp[h,h1],by simpa using h2,by simp[bG,h,h3];omega⟩
theorem GF(l:List bM)(hb:l.length<=140737488355328)(ht:∀f∈l,f.2.Lim)(most:Int)(q:Nat):∀(n i:Nat),l.length-i=n->i<=l.length->∀(seen:List aU)(h:Hp),h[q]? = some [.tup (setRow seen)]->
  ∃h',ah (L35_0 (ai pg) ah) [aO l,.int .i64 most,.mp q,aO l,.int .i64 l.length,.int .i64 i] h= .ok (.bool (uS seen (l.drop i)&&decide ((l.length:Int)<=most))) h':=by
 intro n
 induction n with
 |zero=>
  intro i hn hi seen h hq;rw[FL35_0];have h1:¬((i:Int)<(l.length:Int)):=by omega
  have h2:l.drop i=[]:=Me (by omega);rw[h2];exact⟨h,by simp[L35_0,h1,uS,M.pure]⟩
 | succ n ih=>
  intro i hn hi seen h hq;have hlt:i<l.length:=by omega
  have h1:(i:Int)<(l.length:Int):=by omega
  have h2:l.drop i=l[i]:: l.drop (i+1):=L9 hlt;have hw:IntKind.i64.wrap ((i:Int)+1)=((i+1:Nat):Int):=bu (by omega);have hix:=oe (l:=l) (n:=(i:Int)) (by omega) h1;rw[LH,LK l i hlt]at hix;have hfl:=ht _ (LM hlt);have ih':=fun s=>ih (i+1) (by omega) (by omega) (seen++[s]) (h.set q [.tup (setRow (seen++[s]))]);have hql:q<h.length:=(Mf.1 hq).1;rw[h2];generalize l[i]=f at hix hfl |-;have hlk:=pK hq f.1;have hnm:=t15 f.1;have hty:=t36 f.2 hfl;have hcf:aT 3 (bW f)=M.pure (bW f):=by rw[ck (iS f),dQ,jU]
  generalize hcode:ah (L35_0 (ai pg) ah) [aO l,.int .i64 most,.mp q,aO l,.int .i64 l.length,.int .i64 i] h=code;rw[FL35_0]at hcode;simp -implicitDefEqProofs only[L35_0,aw,aB,aH,am,h1,MI,ap,Mc,hix,dQ,LD95,LQ,Mb,Ma,Nat.reduceAdd,LI,Mt,MJ,jU,hcf,ax,FA95_0,FA95_1,Mx,MX,LD9]at hcode;rw[aW hlk]at hcode;have eo:uS seen (f:: l.drop (i+1))=(!(seen.contains f.1)&&bz f.1&&ci f.2&&uS (seen++[f.1]) (l.drop (i+1))):=rfl;rw[eo];cases hc:seen.contains f.1 with
  |true=>
   rw[hc]at hcode;refine⟨h,?_⟩;rw[<- hcode];simp[M.pure]
  | false=>
   rw[hc]at hcode;cases hn2:bz f.1 with
   |false=>
    rw[hn2]at hnm;refine⟨h,?_⟩;rw[<- hcode];simp[hnm,M.pure]
   | true=>
    rw[hn2]at hnm;cases hr:ci f.2 with
    |false=>
     rw[hr]at hty;refine⟨h,?_⟩;rw[<- hcode];simp[hnm,hty,M.pure]
    |true=>
     rw[hr]at hty;obtain⟨h',e'⟩:=ih' f.1 (by rw[M4 hql]);refine⟨h',?_⟩;have hp:=sX hq f.1 hc;rw[<- hcode];simp -implicitDefEqProofs only[hnm,hty,ax,bX,gO,ME,M0,aw,dB,ap,LJ,Md,LD55,LQ,Mb,Ma,Nat.reduceAdd,LI,Mc,Mt,MJ,fA,am];rw[aW hp];simp only[bD,am,hw,e',MV]
theorem t35(l:List bM)(hb:l.length<=140737488355328)(ht:∀f∈l,f.2.Lim)(most:Int):ai pg 35 [aO l,.int .i64 most]=M.pure (.bool (fG l most)):=by
 obtain⟨h',e⟩:=GF l hb ht most 0 l.length 0 rfl (LZ _) [] ([]++[[.tup []]]) rfl;rw[Mx]at e;rw[C35];funext hp;have key:S35 (ai pg) ah (cl az (aO l)) (cl az (.int .i64 most)) []= .ok (.bool (fG l most)) h':=by
  rw[sk,AB];have hn:fB []= .ok (.mp 0) ([]++[[.tup []]]):=rfl;simp -implicitDefEqProofs only[S35];rw[aW hn];simp only[mE,am];exact e
 show aM _ hp=R.ok (.bool (fG l most)) hp;unfold aM;rw[key];rfl
def t38(l:List Exp)(hb:l.length<=140737488355328)(ht:∀e∈l,e.Lim)(n:Int):ai pg 38 [cw l,.int .i64 n]=M.pure (.bool (l.all yn&&((l.length:Int)== n))):=by
 have hloop:∀(m i:Nat),l.length-i=m->i<=l.length->ah (L38_0 (ai pg) ah) [cw l,.int .i64 n,cw l,.int .i64 l.length,.int .i64 i]=M.pure (.bool ((l.drop i).all yn&&((l.length:Int)== n))):=by
  intro m
  induction m with
  |zero=>
   intro i hm hi;rw[FL38_0];have h1:¬((i:Int)<(l.length:Int)):=by omega
   have h2:l.drop i=[]:=Me (by omega);simp[L38_0,h1,h2]
  |succ m ih=>
   intro i hm hi;have hlt:i<l.length:=by omega
   have h1:(i:Int)<(l.length:Int):=by omega
   have h2:l.drop i=l[i]:: l.drop (i+1):=L9 hlt;have hw:IntKind.i64.wrap ((i:Int)+1)=((i+1:Nat):Int):=bu (by omega);have hix:=kJ (l:=l) (n:=(i:Int)) (by omega) h1;rw[LH,LK l i hlt]at hix;have hr:=t37 l[i] (ht _ (LM hlt));have ih':=ih (i+1) (by omega) (by omega);rw[h2,MQ,FL38_0];generalize l[i]=e at hix hr |-;cases hb2:yn e<;>rw[hb2]at hr <;>
   simp only[L38_0,aw,aB,aH,am,h1,MI,ap,Mc,hix,bp,LD57,LQ,Mb,Ma,Nat.reduceAdd,LI,Mt,MJ,ez,sq,ax,hr,gO,ME,M0,LJ,Md,bD,hw,ih',MV,Nt]
 have h:=hloop l.length 0 rfl (LZ _);rw[Mx]at h;have h':ah (L38_0 (ai pg) ah) [cw l,.int .i64 n,cw l,.int .i64 l.length,.int .i64 0]=M.pure (.bool (l.all yn&&((l.length:Int)== n))):=h;rw[C38];simp[S38,h']
def Di(f:Fun):aT 12 f.av=M.pure f.av:=by rw[ck (mc f),eq,lT]
theorem DG(m:Ap.Mod)(hm:m.Lim)(q:Nat)(R:Bool)(hend:∀h:Hp,∃h',ah (L13_0 (ai pg) ah) [.ip (ab m.av),.mp q,fI m.funcs,.int .i64 m.funcs.length,.int .i64 m.funcs.length] h= .ok (.bool R) h'):∀(n i:Nat),m.funcs.length-i=n->i<=m.funcs.length->∀(seen:List aU)(h:Hp),h[q]? = some [.tup (setRow seen)]->
  ∃h',ah (L13_0 (ai pg) ah) [.ip (ab m.av),.mp q,fI m.funcs,.int .i64 m.funcs.length,.int .i64 i] h= .ok (.bool (nR seen (m.funcs.drop i)&&R)) h':=by
 have hb:=hm.funcs;intro n
 induction n with
 |zero=>
  intro i hn hi seen h hq;have h2:m.funcs.drop i=[]:=Me (by omega);obtain rfl:i=m.funcs.length:=by omega
  rw[h2];exact hend h
 | succ n ih=>
  intro i hn hi seen h hq;have hlt:i<m.funcs.length:=by omega
  have h1:(i:Int)<(m.funcs.length:Int):=by omega
  have h2:m.funcs.drop i=m.funcs[i]:: m.funcs.drop (i+1):=L9 hlt;have hw:IntKind.i64.wrap ((i:Int)+1)=((i+1:Nat):Int):=bu (by omega);have hix:=vP (l:=m.funcs) (n:=(i:Int)) (by omega) h1;rw[LH,LK m.funcs i hlt]at hix;have hfl:=hm.fns _ (LM hlt);have ih':=fun s=>ih (i+1) (by omega) (by omega) (seen++[s]) (h.set q [.tup (setRow (seen++[s]))]);have hql:q<h.length:=(Mf.1 hq).1;rw[h2];generalize m.funcs[i]=f at hix hfl |-;have hlk:=pK hq f.name;have hnm:=t15 f.name;have hps:=t35 f.params hfl.params hfl.pty 6;have hty:=t36 f.result hfl.result;have hre:=t37 f.body hfl.body;have hex:ao T .andNot 3 (.int .i64 f.effects) (.int .i64 15)=some (.int .i64 (gg f.effects 15)):=rfl;generalize hcode:ah (L13_0 (ai pg) ah) [.ip (ab m.av),.mp q,fI m.funcs,.int .i64 m.funcs.length,.int .i64 i] h=code;rw[FL13_0]at hcode;simp -implicitDefEqProofs only[L13_0,aw,aB,aH,am,h1,MI,ap,Mc,hix,eq,LD59,LQ,Mb,Ma,Nat.reduceAdd,LI,Mt,MJ,lT,Di,ax,FA59_0,Mx,LD9]at hcode;rw[aW hlk]at hcode;have eo:nR seen (f:: m.funcs.drop (i+1))=(!(seen.contains f.name)&&zd f&&nR (seen++[f.name]) (m.funcs.drop (i+1))):=rfl;rw[eo];unfold zd;cases hc:seen.contains f.name with
  |true=>
   rw[hc]at hcode;refine⟨h,?_⟩;rw[<- hcode];simp[M.pure]
  | false=>
   rw[hc]at hcode;cases hn2:bz f.name with
   |false=>rw[hn2]at hnm;refine⟨h,?_⟩;rw[<- hcode];simp[hnm,M.pure]
   | true=>
    rw[hn2]at hnm;cases hp2:fG f.params 6 with
    |false=>rw[hp2]at hps;refine⟨h,?_⟩;rw[<- hcode];simp[hnm,hps,M.pure]
    | true=>
     rw[hp2]at hps;cases hr:ci f.result with
     |false=>rw[hr]at hty;refine⟨h,?_⟩;rw[<- hcode];simp[hnm,hps,hty,M.pure]
     | true=>
      rw[hr]at hty;cases hrb:yn f.body with
      |false=>rw[hrb]at hre;refine⟨h,?_⟩;rw[<- hcode];simp[hnm,hps,hty,hre,M.pure]
      | true=>
       rw[hrb]at hre;by_cases he:gg f.effects 15=0
       ·obtain⟨h',e'⟩:=ih' f.name (by rw[M4 hql]);refine⟨h',?_⟩;have hp:=sX hq f.name hc;rw[<- hcode];have e'':=e';simp only[bN]at e'';simp[hnm,hps,hty,hre,hex,he];rw[aW hp];simpa [hw]using e''
       ·refine⟨h,?_⟩;rw[<- hcode];have he':(gg f.effects 15== 0)=false:=LX.2 he;simp[hnm,hps,hty,hre,hex,he,he',M.pure]
def HW(m:Ap.Mod)(hm:m.Lim)(q:Nat)(h:Hp):∃h',ah (L13_0 (ai pg) ah) [.ip (ab m.av),.mp q,fI m.funcs,.int .i64 m.funcs.length,.int .i64 m.funcs.length] h= .ok (.bool (rI m)) h':=by
 have hnm:=t15 m.name;have hv:=t35 m.vars hm.vars hm.vty 8;have hi:=t38 m.init hm.init hm.ies m.vars.length;have ho:=t35 m.old hm.old hm.oty 8;have hf:=fun n=>t38 m.forward hm.forward hm.fes n;have hb:=t38 m.back hm.back hm.bes m.old.length;refine⟨h,?_⟩;rw[FL13_0];unfold rI;generalize fG m.vars 8=b1 at hv |-;generalize (m.init.all yn&&((m.init.length:Int)== (m.vars.length:Int)))=b2 at hi |-;generalize fG m.old 8=b3 at ho |-;generalize (m.back.all yn&&((m.back.length:Int)== (m.old.length:Int)))=b4 at hb |-;cases hn:bz m.name with
 |false=>rw[hn]at hnm;simp[L13_0,hnm,M.pure]
 | true =>
  rw[hn]at hnm;by_cases hu:m.uses.length<=12
  ·have hu':¬(12<(m.uses.length:Int)):=by omega
   by_cases hfn:m.funcs.length<=30
   ·have hfn':¬(30<(m.funcs.length:Int)):=by omega
    cases b1 with
    |false=>simp[L13_0,hnm,hu,hu',hfn,hfn',hv,M.pure]
    | true=>
     cases b2 with
     |false=>simp[L13_0,hnm,hu,hu',hfn,hfn',hv,hi,M.pure]
     | true=>
      cases hmv:m.moves with
      |true=>
       have hfv:=hf m.vars.length;rw[LC rfl];generalize (m.forward.all yn&&((m.forward.length:Int)== (m.vars.length:Int)))=b5 at hfv |-;cases b3<;>cases b5<;>cases b4<;>simp[L13_0,K13_0,hnm,hu,hu',hfn,hfn',hv,hi,ho,hfv,hb,hmv,M.pure]
      | false=>
       have hfv:=hf 0;rw[if_neg (by decide)];generalize (m.forward.all yn&&((m.forward.length:Int)== 0))=b5 at hfv |-;by_cases hz:0<m.old.length
       ·have hz':0<(m.old.length:Int):=by omega
        have hz2:¬m.old.length=0:=by omega
        simp[L13_0,K13_0,hnm,hu,hu',hfn,hfn',hv,hi,hmv,hz,hz',hz2,M.pure]
       ·have hz':¬0<(m.old.length:Int):=by omega
        have hz2:m.old.length=0:=by omega
        have hb0:ai pg 38 [cw m.back,.int .i64 0]=M.pure (.bool b4):=by
         rw[hz2]at hb;exact hb
        cases b3<;>cases b5<;>cases b4<;>simp[L13_0,K13_0,hnm,hu,hu',hfn,hfn',hv,hi,ho,hfv,hb0,hmv,hz,hz',hz2,M.pure]
   ·have hfn':30<(m.funcs.length:Int):=by omega
    simp[L13_0,hnm,hu,hu',hfn,hfn',M.pure]
  ·have hu':12<(m.uses.length:Int):=by omega
   simp[L13_0,hnm,hu,hu',M.pure]
theorem DI(m:Ap.Mod)(hm:m.Lim)(q:Nat)(R:Bool)(hend:∀h:Hp,∃h',ah (L13_1 (ai pg) ah) [.ip (ab m.av),.mp q,strs m.uses,.int .i64 m.uses.length,.int .i64 m.uses.length] h= .ok (.bool R) h'):∀(n i:Nat),m.uses.length-i=n->i<=m.uses.length->∀(seen:List aU)(h:Hp),h[q]? = some [.tup (setRow seen)]->
  ∃h',ah (L13_1 (ai pg) ah) [.ip (ab m.av),.mp q,strs m.uses,.int .i64 m.uses.length,.int .i64 i] h= .ok (.bool (BK seen (m.uses.drop i)&&R)) h':=by
 have hb:=hm.uses;intro n
 induction n with
 |zero=>
  intro i hn hi seen h hq;have h2:m.uses.drop i=[]:=Me (by omega);obtain rfl:i=m.uses.length:=by omega
  rw[h2];exact hend h
 | succ n ih=>
  intro i hn hi seen h hq;have hlt:i<m.uses.length:=by omega
  have h1:(i:Int)<(m.uses.length:Int):=by omega
  have h2:m.uses.drop i=m.uses[i]:: m.uses.drop (i+1):=L9 hlt;have hw:IntKind.i64.wrap ((i:Int)+1)=((i+1:Nat):Int):=bu (by omega);have hix:=jI (l:=m.uses) (n:=(i:Int)) (by omega) h1;rw[LH,LK m.uses i hlt]at hix;have ih':=fun s=>ih (i+1) (by omega) (by omega) (seen++[s]) (h.set q [.tup (setRow (seen++[s]))]);have hql:q<h.length:=(Mf.1 hq).1;rw[h2];generalize m.uses[i]=s at hix |-;have hlk:=pK hq s;have hnm:=t15 s;generalize hcode:ah (L13_1 (ai pg) ah) [.ip (ab m.av),.mp q,strs m.uses,.int .i64 m.uses.length,.int .i64 i] h=code;rw[FL13_1]at hcode;simp -implicitDefEqProofs only[L13_1,aw,aB,aH,am,h1,MI,ap,Mc,hix,i7,LD9]at hcode;rw[aW hlk]at hcode;have eo:BK seen (s:: m.uses.drop (i+1))=(!(seen.contains s)&&bz s&&BK (seen++[s]) (m.uses.drop (i+1))):=rfl;rw[eo];cases hc:seen.contains s with
  |true=>
   rw[hc]at hcode;refine⟨h,?_⟩;rw[<- hcode];simp[M.pure]
  | false=>
   rw[hc]at hcode;cases hn2:bz s with
   |false=>rw[hn2]at hnm;refine⟨h,?_⟩;rw[<- hcode];simp[hnm,M.pure]
   |true=>
    rw[hn2]at hnm;obtain⟨h',e'⟩:=ih' s (by rw[M4 hql]);refine⟨h',?_⟩;have hp:=sX hq s hc;rw[<- hcode];have e'':=e';simp only[bN]at e'';simp[hnm];rw[aW hp];simpa [hw]using e''
theorem t13(m:Ap.Mod)(hm:m.Lim):ai pg 13 [m.av]=M.pure (.bool (gB m)):=by
 have hend:∀h:Hp,∃h',ah (L13_1 (ai pg) ah) [.ip (ab m.av),.mp 0,strs m.uses,.int .i64 m.uses.length,.int .i64 m.uses.length] h= .ok (.bool (nR [] m.funcs&&rI m)) h':=fun h=>by
  have h1:¬((m.uses.length:Int)<(m.uses.length:Int)):=by omega
  obtain⟨h',e⟩:=DG m hm h.length (rI m) (fun h=>HW m hm _ h) m.funcs.length 0 rfl (LZ _) [] (h++[[.tup []]]) (by simp[setRow]);rw[Mx]at e;refine⟨h',?_⟩;rw[FL13_1];have hn:fB h= .ok (.mp h.length) (h++[[.tup []]]):=rfl;simp only[bN]at e;simp -implicitDefEqProofs only[L13_1,aw,aB,aH,am,h1,N0,ap,LJ,Md];rw[aW hn];simp only[bN,FA42_4,MX,Mx,am,LD38,vQ];exact e
 obtain⟨h',e⟩:=DI m hm 0 _ hend m.uses.length 0 rfl (LZ _) [] ([]++[[.tup []]]) rfl;rw[Mx]at e;rw[C13];funext hp;have key:S13 (ai pg) ah (cl az m.av) []= .ok (.bool (gB m)) h':=by
  have hn:fB []= .ok (.mp 0) ([]++[[.tup []]]):=rfl;simp only[bN]at e;rw[mL];simp -implicitDefEqProofs only[S13];rw[aW hn];simp only[bN,FA42_1,MX,Mx,am,LD35,d8];exact e
 show aM _ hp=R.ok (.bool (gB m)) hp;unfold aM;rw[key];rfl
end Go.Proofs.YtpmcemjkdkbicaaGreatDoor
namespace Go.Proofs.YtpmcemjkdkbicaaGreatDoor
open Go Go.Av Go.Av.Ap
set_option maxRecDepth 100000
section
variable (f:Fun) (m:Ap.Mod)
theorem fF0:aa T 59 (.ip (ab f.av)) 0=some (.ip ((ab f.av).drop 0)):=rfl
theorem fF2:aa T 59 (.ip (ab f.av)) 2=some (.ip ((ab f.av).drop 2)):=rfl
theorem fF5:aa T 59 (.ip (ab f.av)) 5=some (.ip ((ab f.av).drop 6)):=rfl
theorem Kf:aj T 9 (.ip ((ab f.av).drop 0))=some (.str f.name):=by rw[eq];rfl
theorem Jf:aj T 36 (.ip ((ab f.av).drop 2))=some (aO f.params):=by rw[eq];rfl
theorem K4:aj T 57 (.ip ((ab f.av).drop 6))=some f.body.av:=by rw[eq];simp
theorem K5:aj T 59 (.ip (ab f.av))=some f.av:=by rw[eq];simp
theorem fM2:aa T 42 (.ip (ab m.av)) 2=some (.ip ((ab m.av).drop 2)):=rfl
theorem fM4:aa T 42 (.ip (ab m.av)) 4=some (.ip ((ab m.av).drop 4)):=rfl
theorem K6:aj T 36 (.ip ((ab m.av).drop 2))=some (aO m.vars):=rfl
theorem Ji:aj T 38 (.ip ((ab m.av).drop 4))=some (fI m.funcs):=rfl
theorem G9:aj T 42 (.ip (ab m.av))=some m.av:=rfl
end
theorem fD0(f:bM):aa T 95 (.ip (ab (bW f))) 0=some (.ip ((ab (bW f)).drop 0)):=rfl
def K0(f:bM):aj T 9 (.ip ((ab (bW f)).drop 0))=some (.str f.1):=by rw[dQ];rfl
def K1(f:bM):aj T 95 (.ip (ab (bW f)))=some (bW f):=by rw[dQ];simp
def vr(p:Cod×Nat):AV:=.agg [.str p.1.func,.int .i64 p.1.params,.int .i64 p.1.locals,.hs p.2 0 p.1.code.length 5 true]
theorem kO(b:Bool):fm UnOp.not (.bool b)=some (.bool (!b)):=rfl
def Jq(h:Hp)(acc:List (Cod×Nat)):Prop:=∀p∈acc,h[p.2]? = some (rowOf Ins.av p.1.code)
theorem FM(v6:List AV->M AV)(a0 a1 a2 a3 a5 a6 a7:AV)(ps:List bM)(hb:ps.length<=1000000):∀(B A:List bM),A++B=ps->
  ah (L14_0 (ai pg) ah v6) [a0,a1,a2,a3,strs (A.map (·.1)),a5,a6,a7,aO ps,.int .i64 ps.length,.int .i64 A.length]=ah (L14_0 (ai pg) ah v6) [a0,a1,a2,a3,strs (ps.map (·.1)),a5,a6,a7,aO ps,.int .i64 ps.length,.int .i64 ps.length]
 |[],A,e=>by
  rw[MW]at e;subst e;rfl
 | x:: B,A,e=>by
  have hlen:A.length+(B.length+1)=ps.length:=by rw[<- e];simp
  have h1:(A.length:Int)<(ps.length:Int):=by omega
  have hix:=oe (l:=ps) (n:=(A.length:Int)) (by omega) h1;have hx:ps[A.length]! = x:=by rw[LK ps A.length (by omega)];simp[<- e]
  rw[LH,hx]at hix;have hw:IntKind.i64.wrap ((A.length:Int)+1)=((A++[x]).length:Nat):=by rw[a8 (by omega) (by omega)];simp
  have hap:dm T 35 (strs (A.map (·.1))) (strs [x.1])=some (strs ((A++[x]).map (·.1))):=by
   rw[FS (by simp;omega)];simp
  have ih:=FM v6 a0 a1 a2 a3 a5 a6 a7 ps hb B (A++[x]) (by rw[<- e];simp);rw[<- ih,FL14_0];simp -implicitDefEqProofs only[L14_0,aw,aB,aH,am,ap,LB,LC h1,hix,K1,wg,ax,fD0,K0,KC,hap,bD,hw]
theorem Kk(v6:List AV->M AV)(a0 a5 a6:AV){vars:List bM}(hv:vars.length<=1000000){f:Fun}(F:FunOk f){i:Nat}(hi:i<=1000000){acc:List (Cod×Nat)}(ha:acc.length<=1000000){h:Hp}{l:Nat}(H:CS h l vars ([],f.params.length)):
  ∃lb h',l<lb/\h'[lb]? = some (rowOf Ins.av (bh vars f).code)/\og l h h'/\
   ah (L14_0 (ai pg) ah v6) [a0,.sl (acc.map vr),.ip (ab f.av),.hp l 0,strs (f.params.map (·.1)),a5,a6,.int .i64 i,aO f.params,.int .i64 f.params.length,.int .i64 f.params.length] h=v6 [a0,.sl ((acc++[(bh vars f,lb)]).map vr),a5,a6,.int .i64 ((i+1:Nat):Int)] h':=by
 have hpl:=F.plen;have hcap:fw 12<=99000000000:=by simp[fw]
 obtain⟨h1,e1,H1,o1⟩:=t39 hv 12 f.body F.body (f.params.map (·.1)) (by simp;omega) ([],f.params.length) h l H (by simp only[Mb];omega);have g1:=bQ vars 12 f.body F.body (f.params.map (·.1)) ([],f.params.length);obtain⟨h2,e2,H2,o2⟩:=t40 H1 (aD 18 0) (by simp only[Mb]at g1;omega);obtain⟨x,hx,cx⟩:=H2;have hcode:(bF (aD 18 0) (aN vars 12 f.body (f.params.map (·.1)) ([],f.params.length))).1=(bh vars f).code:=rfl;have hloc:(bF (aD 18 0) (aN vars 12 f.body (f.params.map (·.1)) ([],f.params.length))).2=(bh vars f).locals:=rfl;rw[hcode]at cx;rw[hloc]at hx;rcases cx with⟨z,_⟩|⟨_,lb,hlb,rfl,hq⟩
 ·exact absurd z (by rw[<- hcode];simp[bF])
 ·refine⟨lb,h2,hlb,hq,o1.trans o2,?_⟩;have hn:¬((f.params.length:Int)<(f.params.length:Int)):=by omega
  have hb:aQ T false 28 [(0,.str f.name),(1,.int .i64 f.params.length),(2,.int .i64 (bh vars f).locals),(3,.hs lb 0 (bh vars f).code.length 5 true)]=some (vr (bh vars f,lb)):=rfl;have hbs:∀v:Cod×Nat,aS T 22 1 [(0,vr v)]=some (.sl ([v].map vr)):=fun _=>rfl;have hap:dm T 22 (.sl (acc.map vr)) (.sl ([(bh vars f,lb)].map vr))=some (.sl ((acc++[(bh vars f,lb)]).map vr)):=
   jN (T:=T) (t:=22) (e:=28) rfl rfl rfl (f:=vr) (fun _=>rfl) (by show (acc.length+1)*56<=_;omega) (by decide)
  have hw:IntKind.i64.wrap ((i:Int)+1)=((i+1:Nat):Int):=by rw[a8 (by omega) (by omega)];omega
  rw[FL14_0];simp -implicitDefEqProofs only[L14_0,aw,aB,aH,am,ap,LB,if_neg hn,fF5,K4];rw[aL e1];simp -implicitDefEqProofs only[CQ,am];rw[aL e2];simp -implicitDefEqProofs only[fF0,Kf,fF2,Jf,mE,am,BG,fC1,fC2];rw[aL (Bl hx),aL (ji hx)];simp -implicitDefEqProofs only[hb,hbs,hap,am,bD,hw]
theorem FL{m:Ap.Mod}(K:ModOk m):∀(B A:List Fun)(acc:List (Cod×Nat))(h:Hp),A++B=m.funcs->acc.map (·.1)=A.map (bh m.vars)->Jq h acc->
  ∃acc' h',ah (L14_1 (ai pg) ah) [.ip (ab m.av),.sl (acc.map vr),fI m.funcs,.int .i64 m.funcs.length,.int .i64 A.length] h= .ok (.sl (acc'.map vr)) h'/\acc'.map (·.1)=m.funcs.map (bh m.vars)/\Jq h' acc'
 |[],A,acc,h,e,ha,H=>by
  rw[MW]at e;subst e;refine⟨acc,h,?_,ha,H⟩;have h1:¬((m.funcs.length:Int)<(m.funcs.length:Int)):=by omega
  rw[FL14_1];simp -implicitDefEqProofs only[L14_1,aw,aB,aH,am,ap,LB,if_neg h1];rfl
 | x:: B,A,acc,h,e,ha,H=>by
  have hlen:A.length+(B.length+1)=m.funcs.length:=by rw[<- e];simp
  have hf30:=K.flen;have hvl:=K.vlen;have h1:(A.length:Int)<(m.funcs.length:Int):=by omega
  have hix:=vP (l:=m.funcs) (n:=(A.length:Int)) (by omega) h1;have hx:m.funcs[A.length]! = x:=by rw[LK m.funcs A.length (by omega)];simp[<- e]
  rw[LH,hx]at hix;have F:=K.fns x (by rw[<- e];simp);have hpl:=F.plen;have hal:acc.length=A.length:=by have:=LG List.length ha;simpa using this
  have hC:CS (h++[[aO m.vars,.hn,.int .i64 x.params.length]]) h.length m.vars ([],x.params.length):=⟨.hn,by rw[LS (LI _)];simp,.inl ⟨rfl,rfl⟩⟩;obtain⟨lb,h2,hlb,hq,hlo,e2⟩:=Kk (ah (L14_1 (ai pg) ah)) (.ip (ab m.av)) (fI m.funcs) (.int .i64 m.funcs.length) (by omega) F (i:=A.length) (by omega) (acc:=acc) (by omega) hC;obtain⟨acc',h3,e3,r3,H3⟩:=FL K B (A++[x]) (acc++[(bh m.vars x,lb)]) h2 (by rw[<- e];simp) (by rw[NA,NA,ha];rfl) (by
   intro p hp;rcases L3.1 hp with hp|hp
   ·have:=H p hp
    have hl:=cU this;rw[hlo p.2 hl,LP hl];exact this
   ·rw[L5]at hp;subst hp;exact hq)
  refine⟨acc',h3,?_,r3,H3⟩;have hbv:aQ T true 93 [(0,aO m.vars),(2,.int .i64 x.params.length)]=some (.agg [aO m.vars,.hn,.int .i64 x.params.length]):=rfl;have hnw:newH (ab (.agg [aO m.vars,.hn,.int .i64 x.params.length])) h= .ok (.hp h.length 0) (h++[[aO m.vars,.hn,.int .i64 x.params.length]]):=rfl;have hP:=FM (ah (L14_1 (ai pg) ah)) (.ip (ab m.av)) (.sl (acc.map vr)) (.ip (ab x.av)) (.hp h.length 0) (fI m.funcs) (.int .i64 m.funcs.length) (.int .i64 A.length) x.params (by omega) x.params [] rfl;rw[FL14_1];simp -implicitDefEqProofs only[L14_1,aw,aB,aH,am,ap,LB,LC h1,hix,K5,wi,ax,fM2,K6,fF2,Jf,mE,hbv];rw[aL hnw];show ah (L14_0 (ai pg) ah (ah (L14_1 (ai pg) ah))) [.ip (ab m.av),.sl (acc.map vr),.ip (ab x.av),.hp h.length 0,strs (([]:List bM).map (·.1)),fI m.funcs,.int .i64 m.funcs.length,.int .i64 A.length,aO x.params,.int .i64 x.params.length,.int .i64 ([]:List bM).length] _=_;rw[hP,e2];have e4:((A++[x]).length:Nat)=A.length+1:=by simp
  rw[e4]at e3;exact e3
def ze{h:Hp}(acc:List (Cod×Nat))(H:Jq h acc):fV 6 h (.sl (acc.map vr))=dp (acc.map (·.1)):=by
 have key:∀p∈acc,fV 6 h (vr p)=p.1.av:=by
  intro p hp;have hi:=mR (f:=Ins.av) zm (fun _=>rfl) (fun x g=>by simp[Ins.av,Ins.cells,cl,dn]) (by decide) (H p hp) 5;unfold fV at hi |-;simp only[cl]at hi;simp only[vr,cl,dn,hi];rfl
 unfold fV at key |-;simp only[cl];unfold dp;congr 1;clear H
 induction acc with
 |nil=>rfl
 |cons p acc ih=>
  simp only[Mi,dn];rw[key p (by simp),ih fun q hq=>key q (by simp[hq])]
def t14(m:Ap.Mod)(hm:m.Lim):ai pg 14 [m.av]=M.pure (dp (if gB m=true then m.funcs.map (bh m.vars)else[])):=by
 rw[C14];cases hr:gB m with
 | false=>
  have hS:S14 (ai pg) ah (cl az m.av)=M.pure (.sl []):=by
   rw[mL];simp -implicitDefEqProofs only[S14,G9,am,t13 m hm,hr,ax,kO,M0,ap,Mc]
  rw[hS];rfl
 | true=>
  have K:=sR hr;obtain⟨acc,h',e1,r1,H1⟩:=FL K m.funcs [] [] [] rfl rfl (fun p hp=>by cases hp);have hS:S14 (ai pg) ah (cl az m.av) []= .ok (.sl (acc.map vr)) h':=by
   rw[mL];simp -implicitDefEqProofs only[S14,G9,am,t13 m hm,hr,ax,kO,ME,ap,LJ,Md,fM4,Ji,vQ];exact e1
  funext h;unfold aM;rw[hS];simp only[ze acc H1,r1,Mc];rfl
end Go.Proofs.YtpmcemjkdkbicaaGreatDoor
namespace Go.Proofs.YtpmcemjkdkbicaaGreatDoor
open Go Go.Av Go.Av.Ap
set_option maxRecDepth 100000
theorem Kv(a:aU):ao T .eql 9 (.str a) (.str a)=some (.bool true):=by
 have h:ao T .eql 9 (.str a) (.str a)=some (.bool (a== a)):=rfl;rw[h,Nc]
theorem D8(a:aU):ao T .neq 9 (.str a) (.str a)=some (.bool false):=by
 have h:ao T .neq 9 (.str a) (.str a)=some (.bool (a != a)):=rfl;rw[h,Nn]
theorem zl(a:Int):ao T .neq 3 (.int .i64 a) (.int .i64 a)=some (.bool false):=by
 have h:ao T .neq 3 (.int .i64 a) (.int .i64 a)=some (.bool (a != a)):=rfl;rw[h,Nn]
theorem J9(a:Int):ao T .eql 3 (.int .i64 a) (.int .i64 a)=some (.bool true):=by
 have h:ao T .eql 3 (.int .i64 a) (.int .i64 a)=some (.bool (a== a)):=rfl;rw[h,Nc]
theorem zt(s:aU):aj T 9 (.ip (ab (.str s)))=some (.str s):=rfl
theorem Bw(l:List aU)(hb:l.length<=1000000):∀n k:Nat,l.length-k=n->k<=l.length->ah (L61_0 (ai pg) ah) [strs l,strs l,.int .i64 (k:Int)]=M.pure (.bool true)
 |0,k,hn,hk=>by
  have h1:¬((k:Int)<(l.length:Int)):=by omega
  rw[FL61_0];simp -implicitDefEqProofs only[L61_0,aw,aB,d8,aH,am,ap,LB,if_neg h1]
 |n+1,k,hn,hk=>by
  have h1:(k:Int)<(l.length:Int):=by omega
  have hix:=jI (l:=l) (n:=(k:Int)) (by omega) h1;have hw:IntKind.i64.wrap ((k:Int)+1)=((k+1:Nat):Int):=by rw[a8 (by omega) (by omega)];omega
  have ih:=Bw l hb n (k+1) (by omega) (by omega);rw[FL61_0];simp -implicitDefEqProofs only[L61_0,aw,aB,d8,aH,am,ap,LB,LC h1,hix,zt,D8,LJ,Md,bD,hw,ih]
def t61(l:List aU)(hb:l.length<=1000000):ai pg 61 [strs l,strs l]=M.pure (.bool true):=by
 have h:=Bw l hb l.length 0 rfl (LZ _);have h':ah (L61_0 (ai pg) ah) [strs l,strs l,.int .i64 0]=M.pure (.bool true):=h;have hcl:cl az (strs l)=strs l:=by simp
 rw[C61,hcl];simp -implicitDefEqProofs only[S61,d8,am,zl,ap,LJ,Md,h'];exact cF true
section
variable (i:Ins)
theorem fJ0:aa T 67 (.ip (ab i.av)) 0=some (.ip ((ab i.av).drop 0)):=rfl
theorem fJ1:aa T 67 (.ip (ab i.av)) 1=some (.ip ((ab i.av).drop 1)):=rfl
theorem fJ2:aa T 67 (.ip (ab i.av)) 2=some (.ip ((ab i.av).drop 2)):=rfl
theorem fJ3:aa T 67 (.ip (ab i.av)) 3=some (.ip ((ab i.av).drop 3)):=rfl
theorem fJ4:aa T 67 (.ip (ab i.av)) 4=some (.ip ((ab i.av).drop 4)):=rfl
theorem FI:aj T 3 (.ip ((ab i.av).drop 0))=some (.int .i64 i.op):=rfl
theorem GA:aj T 3 (.ip ((ab i.av).drop 1))=some (.int .i64 i.a):=rfl
theorem Jg:aj T 9 (.ip ((ab i.av).drop 2))=some (.str i.s):=rfl
theorem Kg:aj T 9 (.ip ((ab i.av).drop 3))=some (.str i.m):=rfl
theorem Jh:aj T 35 (.ip ((ab i.av).drop 4))=some (strs i.names):=rfl
theorem FJ:aj T 67 (.ip (ab i.av))=some i.av:=rfl
end
section
variable (c:Cod)
theorem fK0:aa T 28 (.ip (ab c.av)) 0=some (.ip ((ab c.av).drop 0)):=rfl
theorem fK1:aa T 28 (.ip (ab c.av)) 1=some (.ip ((ab c.av).drop 1)):=rfl
theorem fK2:aa T 28 (.ip (ab c.av)) 2=some (.ip ((ab c.av).drop 2)):=rfl
theorem fK3:aa T 28 (.ip (ab c.av)) 3=some (.ip ((ab c.av).drop 3)):=rfl
theorem G7:aj T 9 (.ip ((ab c.av).drop 0))=some (.str c.func):=rfl
theorem G8:aj T 3 (.ip ((ab c.av).drop 1))=some (.int .i64 c.params):=rfl
theorem It:aj T 3 (.ip ((ab c.av).drop 2))=some (.int .i64 c.locals):=rfl
theorem vM:aj T 26 (.ip ((ab c.av).drop 3))=some (jW c.code):=rfl
end
def Il{l:List Cod}{n:Nat}(h:n<l.length):ak T 22 (dp l) (.int .i64 (n:Int))=some (.ip (ab (Cod.av l[n]!))):=
 cm (T:=T) (t:=22) (e:=28) (f:=Cod.av) rfl rfl rfl (fun _=>rfl) (by omega) (by omega)
def Ik{l:List Ins}{n:Nat}(h:n<l.length):ak T 26 (jW l) (.int .i64 (n:Int))=some (.ip (ab (Ins.av l[n]!))):=
 cm (T:=T) (t:=26) (e:=67) (f:=Ins.av) rfl rfl rfl (fun _=>rfl) (by omega) (by omega)
theorem sL(l:List Cod):aK T 22 (dp l)=some (.int .i64 l.length):=by
 have h:aK T 22 (dp l)=some (.int .i64 (l.map Cod.av).length):=rfl;rw[h,M2]
theorem ol(l:List Ins):aK T 26 (jW l)=some (.int .i64 l.length):=by
 have h:aK T 26 (jW l)=some (.int .i64 (l.map Ins.av).length):=rfl;rw[h,M2]
theorem J7(y:AV):gv false false y=y:=rfl
theorem J8(y:AV):gv true true y=y:=rfl
def t30(i:Ins)(hb:i.names.length<=1000000):ai pg 30 [i.av,i.av]=M.pure (.bool true):=by
 have hcl:cl az i.av=i.av:=by simp[Ins.av,Ins.cells,cl,dn]
 rw[C30,hcl];simp -implicitDefEqProofs only[S30,fJ0,fJ1,fJ2,fJ3,fJ4,FI,GA,Jg,Kg,Jh,am,J9,Kv,bX,bA,J8,aw,ct,t61 i.names hb,ax];exact cF true
def rW(l:List Cod):Prop:=l.length<=1000000/\∀c∈l,c.code.length<=1000000000000/\∀i∈c.code,i.names.length<=1000000
theorem xY(v3:List AV->M AV){l:List Cod}(H:rW l){k:Nat}(hk:k<l.length):∀n j:Nat,l[k].code.length-j=n->j<=l[k].code.length->
  ah (L11_0 (ai pg) ah v3) [dp l,dp l,.int .i64 (k:Int),.int .i64 (j:Int)]=v3 [dp l,dp l,.int .i64 ((k+1:Nat):Int)]
 |0,j,hn,hj=>by
  have hc:=H.2 l[k] (LM hk);have h1:¬((j:Int)<(l[k].code.length:Int)):=by omega
  have hix:=Il hk;have h0:=H.1;rw[LK l k hk]at hix;have hw:IntKind.i64.wrap ((k:Int)+1)=((k+1:Nat):Int):=by rw[a8 (by omega) (by omega)];omega
  rw[FL11_0];simp -implicitDefEqProofs only[L11_0,aw,aB,hix,fK3,vM,ol,aH,am,ap,LB,if_neg h1,bD,hw]
 |n+1,j,hn,hj=>by
  have hc:=H.2 l[k] (LM hk);have hj':j<l[k].code.length:=by omega
  have h1:(j:Int)<(l[k].code.length:Int):=by omega
  have hix:=Il hk;rw[LK l k hk]at hix;have hjx:=Ik hj';rw[LK l[k].code j hj']at hjx;have hs:=t30 l[k].code[j] (hc.2 _ (LM hj'));have hw:IntKind.i64.wrap ((j:Int)+1)=((j+1:Nat):Int):=by rw[a8 (by omega) (by omega)];omega
  have ih:=xY v3 H hk n (j+1) (by omega) (by omega);rw[FL11_0];simp -implicitDefEqProofs only[L11_0,aw,aB,hix,fK3,vM,ol,aH,am,ap,LB,LC h1,hjx,FJ,hs,dU,ax,kO,ME,LJ,Md,bD,hw,ih]
theorem xZ{l:List Cod}(H:rW l):∀n k:Nat,l.length-k=n->k<=l.length->ah (L11_1 (ai pg) ah) [dp l,dp l,.int .i64 (k:Int)]=M.pure (.bool true)
 |0,k,hn,hk=>by
  have h1:¬((k:Int)<(l.length:Int)):=by omega
  rw[FL11_1];simp -implicitDefEqProofs only[L11_1,aw,aB,sL,aH,am,ap,LB,if_neg h1]
 |n+1,k,hn,hk=>by
  have h1:(k:Int)<(l.length:Int):=by omega
  have hk':k<l.length:=by omega
  have hix:=Il hk';rw[LK l k hk']at hix;have ih:=xZ H n (k+1) (by omega) (by omega);have hI:=xY (ah (L11_1 (ai pg) ah)) H hk' l[k].code.length 0 rfl (LZ _);have hI':ah (L11_0 (ai pg) ah (ah (L11_1 (ai pg) ah))) [dp l,dp l,.int .i64 (k:Int),.int .i64 0]=_:=hI.trans ih;rw[FL11_1];simp -implicitDefEqProofs only[L11_1,aw,aB,sL,aH,am,ap,LB,LC h1,hix,fK0,fK1,fK2,fK3,G7,G8,It,vM,ol,D8,zl,bX,bA,J7,aw,ax,dB,ic,Bool.or_false,Bool.false_or,LJ,Md,ap,hI']
def t11{l:List Cod}(H:rW l):ai pg 11 [dp l,dp l]=M.pure (.bool true):=by
 have h:=xZ H l.length 0 rfl (LZ _);have h':ah (L11_1 (ai pg) ah) [dp l,dp l,.int .i64 0]=M.pure (.bool true):=h;have hci:∀(g:Nat->Nat->Nat->Nat->Bool->AV)(i:Ins),cl g i.av=i.av:=fun g i=>by simp[Ins.av,Ins.cells,cl,dn]
 have hcc:∀(g:Nat->Nat->Nat->Nat->Bool->AV)(c:Cod),cl g c.av=c.av:=fun g c=>by simp[Cod.av,jW,cl,dn,dk g Ins.av (hci g)]
 have hcl:cl az (dp l)=dp l:=by simp[dp,cl,dk az Cod.av (hcc az)]
 rw[C11,hcl];simp -implicitDefEqProofs only[S11,sL,am,zl,ap,LJ,Md,h'];exact cF true
end Go.Proofs.YtpmcemjkdkbicaaGreatDoor
namespace Go.Proofs.YtpmcemjkdkbicaaGreatDoor
open Go Go.Av Go.Av.Ap
set_option maxRecDepth 100000
theorem xf(a b:aU):ao T .eql 9 (.str a) (.str b)=some (.bool (a== b)):=rfl
theorem Bn(t:Nat)(a b:Int):ao T .leq t (.int .i64 a) (.int .i64 b)=some (.bool (decide (a<=b))):=rfl
theorem BB(l:List aU)(hb:l.length<=1000000):∀n k:Nat,l.length-k=n->k<=l.length->
  ah (L89_0 (ai pg) ah) [strs l,strs l,.int .i64 l.length,.int .i64 (k:Int)]=M.pure (.bool ((List.range' k n).all (fun k=>bz l[k]! && (decide (k=0)||dD l[k-1]! l[k]!))&&decide (l.length<=8)))
 |0,k,hn,hk=>by
  have h1:¬((k:Int)<(l.length:Int)):=by omega
  have h2:decide ((l.length:Int)<=8)=decide (l.length<=8):=MG.2 (by omega);rw[FL89_0];simp -implicitDefEqProofs only[L89_0,aw,aB,d8,aH,am,ap,LB,if_neg h1,Bn,h2];simp
 | n+1,k,hn,hk=>by
  have h1:(k:Int)<(l.length:Int):=by omega
  have hix:=jI (l:=l) (n:=(k:Int)) (by omega) h1;rw[LH]at hix;have hw:IntKind.i64.wrap ((k:Int)+1)=((k+1:Nat):Int):=by rw[a8 (by omega) (by omega)];omega
  have ih:=BB l hb n (k+1) (by omega) (by omega);have hN:=t15 l[k]!;rw[FL89_0,N7,MQ];generalize (List.range' (k+1) n).all (fun k=>bz l[k]! && (decide (k=0)||dD l[k-1]! l[k]!))=q at ih |-;generalize decide (l.length<=8)=q8 at ih |-;generalize l[k]! = x at hix hN |-;rcases Mq k with hk0|hk0
  ·subst hk0;simp only[L89_0,aw,aB,aH,am,ap,LB,LC h1,hix,zt,hN,ax,gO];cases hx:bz x with
   |false=>simp
   |true=>
    have hw0:IntKind.i64.wrap 1=1:=rfl;simp[hw0];exact ih
  ·have hp:IntKind.i64.wrap ((k:Int)-1)=((k-1:Nat):Int):=by rw[a8 (by omega) (by omega)];omega
   have hix2:=jI (l:=l) (n:=((k-1:Nat):Int)) (by omega) (by omega);rw[LH]at hix2;generalize l[k-1]! = g at hix2 |-;have hk1:decide (k=0)=false:=Mp (by omega);have hk2:decide ((0:Int)<(k:Int))=true:=Mj (by omega);have hge:ao T .geq 9 (.str g) (.str x)=some (.bool (!(bK g x))):=rfl;have ha:dD g x=bK g x:=Nl.2 (vR g x);rw[ha];simp only[L89_0,aw,aB,aH,am,ap,LB,LC h1,hix,zt,hN,ax,gO,gH,hk1,gd,hp,hix2,bD,hw,ih,hk2,hge];cases bz x<;>cases bK g x<;>simp[gv]
def t89(l:List aU)(hb:l.length<=1000000):ai pg 89 [strs l]=M.pure (.bool (d9 l)):=by
 have h:=BB l hb l.length 0 rfl (LZ _);rw[sb bz dD l]at h;have h':ah (L89_0 (ai pg) ah) [strs l,strs l,.int .i64 l.length,.int .i64 0]=M.pure (.bool (d9 l)):=h;have hcl:cl az (strs l)=strs l:=by simp
 rw[C89,hcl];simp -implicitDefEqProofs only[S89,d8,am,h'];exact cF _
def fM(a:Int)(s m:aU)(names:List aU)(ok:Bool):Bool:=((((ok&&decide (a=0))&&(s== []))&&(m== []))&&decide ((names.length:Int)=0))
def jZ(a:Int)(s m:aU)(names:List aU)(ok:Bool):K48_0 (ai pg) ah [.int .i64 a,.str s,.str m,strs names,.bool ok]=M.pure (.bool (fM a s m names ok)):=by
 simp -implicitDefEqProofs only[K48_0,aw,aB,eV,xf,d8,am,bA,ax,d7,fM]
theorem Ip(a:Int)(s m:aU)(names:List aU)(op:Int)(hb:names.length<=1000000)(h:¬(op=0\/op=1\/op=2\/op=3\/op=10\/op=11)):
  K48_2 (ai pg) ah (K48_0 (ai pg) ah) [.int .i64 a,.str s,.str m,strs names,.bool true,.int .i64 op,.bool (decide (op=16)||decide (op=17))]=M.pure (.bool (
   if op=16\/op=17 then fM 0 s m names (decide (0<=a)&&decide (a<8))
   else if op=15 then fM 0 s m names (((decide (a=1)||decide (a=2))||decide (a=4))||decide (a=8))
   else if op=13 then fM a [] m names (bz s)
   else if op=14 then fM 0 [] [] names (((decide (0<=a)&&decide (a<=6))&&bz s)&&((m== [])||bz m))
   else if op=12 then fM a s m [] (d9 names)
   else if fK op=true then fM a s m names true else false)):=by
 have hN:=t15 s;have hM:=t15 m;have hA:=t89 names hb;have e0:(AV.sl []:AV)=strs []:=rfl;by_cases h16:op=16\/op=17
 ·have hd:(decide (op=16)||decide (op=17))=true:=by simpa using h16
  simp -implicitDefEqProofs only[K48_2,aw,aB,hd,ap,Mc,Bn,aH,am,bA,ax,d7,jZ,LC h16]
 have hd:(decide (op=16)||decide (op=17))=false:=by simpa using h16
 rw[if_neg h16];simp -implicitDefEqProofs only[K48_2,aw,aB,hd,ap,LJ,Md,eV,am,LB];by_cases h15:op=15
 ·simp -implicitDefEqProofs only[LC h15,bA,ax,aw,ic,am,jZ]
 simp -implicitDefEqProofs only[if_neg h15];by_cases h13:op=13
 ·simp -implicitDefEqProofs only[LC h13,hN,ax,jZ]
 simp -implicitDefEqProofs only[if_neg h13];by_cases h14:op=14
 ·simp -implicitDefEqProofs only[LC h14,Bn,am,bA,ax,aw,d7,hN,hM,xf];generalize ((decide (0<=a)&&decide (a<=6))&&bz s)=q;cases q
  ·simp[gv,jZ,kB,zi]
  ·cases (m== [])<;>simp[gv,jZ]
 simp -implicitDefEqProofs only[if_neg h14];by_cases h12:op=12
 ·simp -implicitDefEqProofs only[LC h12,hA,ax,e0,jZ]
 simp -implicitDefEqProofs only[if_neg h12,jn,K48_1,aw,aB,ap,LB,jZ,fK];by_cases h4:op=4
 ·simp[h4]
 by_cases h5:op=5
 ·simp[h5]
 by_cases h6:op=6
 ·simp[h6]
 by_cases h7:op=7
 ·simp[h7]
 by_cases h8:op=8
 ·simp[h8]
 by_cases h9:op=9
 ·simp[h9]
 by_cases h18:op=18
 ·simp[h18]
 by_cases h19:op=19
 ·simp[h19]
 simp[h4,h5,h6,h7,h8,h9,h18,h19]
def oQ(g:Nat->Nat->Nat->Nat->Bool->AV)(i:Ins):cl g i.av=i.av:=by simp[Ins.av,Ins.cells,cl,dn]
def mK(g:Nat->Nat->Nat->Nat->Bool->AV)(c:Cod):cl g c.av=c.av:=by simp[Cod.av,jW,cl,dn,dk g Ins.av (oQ g)]
def t48(c:Cod)(i:Ins)(hb:i.names.length<=1000000):ai pg 48 [c.av,i.av]=M.pure (.bool (aV c.code.length c.locals i)):=by
 have key:S48 (ai pg) ah c.av i.av=M.pure (.bool (aV c.code.length c.locals i)):=by
  have hq:∀k:Int,(i.a== k)=decide (i.a=k):=fun _=>rfl;have hz:(i.names== [])=decide ((i.names.length:Int)=0):=by
   cases i.names<;>simp;omega
  simp -implicitDefEqProofs only[S48,fJ0,fJ1,fJ2,fJ3,fJ4,FI,GA,Jg,Kg,Jh,am,jn,eV,ap,LB];by_cases h0:i.op=0
  ·simp -implicitDefEqProofs only[LC h0,jZ];simp[fM,aV,h0,hz,hq]
  simp -implicitDefEqProofs only[if_neg h0];by_cases h1:i.op=1
  ·simp -implicitDefEqProofs only[LC h1,bA,ax,aw,ic,am,jZ];simp[fM,aV,h1,hz,hq]
  simp -implicitDefEqProofs only[if_neg h1];have k4:∀b,b=(decide (i.op=2)||decide (i.op=3))->K48_4 (ai pg) ah (K48_0 (ai pg) ah) [.ip (ab c.av),.int .i64 i.a,.str i.s,.str i.m,strs i.names,.bool true,.int .i64 i.op,.bool b]=M.pure (.bool (aV c.code.length c.locals i)):=by
   intro b hbb;by_cases h2:i.op=2\/i.op=3
   ·have hbt:b=true:=by rw[hbb];simpa using h2
    subst hbt;simp -implicitDefEqProofs only[K48_4,aw,aB,ap,Mc,Bn,fK2,It,aH,am,bA,ax,d7,jZ];simp[fM,aV,h0,h1,h2,hz,hq]
   have hbf:b=false:=by rw[hbb];simpa using h2
   subst hbf;have k3:∀b,b=(decide (i.op=10)||decide (i.op=11))->K48_3 (ai pg) ah (K48_0 (ai pg) ah) [.ip (ab c.av),.int .i64 i.a,.str i.s,.str i.m,strs i.names,.bool true,.int .i64 i.op,.bool b]=M.pure (.bool (aV c.code.length c.locals i)):=by
    intro b hbb;by_cases h10:i.op=10\/i.op=11
    ·have hbt:b=true:=by rw[hbb];simpa using h10
     subst hbt;simp -implicitDefEqProofs only[K48_3,aw,aB,ap,Mc,Bn,fK3,vM,ol,aH,am,bA,ax,d7,jZ];simp[fM,aV,h0,h1,h2,h10,hz,hq]
    have hbf:b=false:=by rw[hbb];simpa using h10
    subst hbf;have k2:=Ip i.a i.s i.m i.names i.op hb (by omega);have e2:∀b,b=(decide (i.op=16)||decide (i.op=17))->K48_2 (ai pg) ah (K48_0 (ai pg) ah) [.int .i64 i.a,.str i.s,.str i.m,strs i.names,.bool true,.int .i64 i.op,.bool b]=M.pure (.bool (aV c.code.length c.locals i)):=by
     rintro _ rfl;rw[k2];unfold aV;rw[if_neg h0,if_neg h1,if_neg h2,if_neg h10];by_cases h16:i.op=16\/i.op=17
     ·simp[fM,h16,hz,hq]
     rw[if_neg h16,if_neg h16];by_cases h15:i.op=15
     ·simp[fM,h15,hz,hq]
     rw[if_neg h15,if_neg h15];by_cases h13:i.op=13
     ·simp[fM,h13,hz,hq]
     rw[if_neg h13,if_neg h13];by_cases h14:i.op=14
     ·simp[fM,h14,hz,hq]
     rw[if_neg h14,if_neg h14];by_cases h12:i.op=12
     ·simp[fM,h12,hz,hq]
     rw[if_neg h12,if_neg h12];cases fK i.op<;>simp[fM,hz,hq]
    simp -implicitDefEqProofs only[K48_3,aw,aB,ap,LJ,Md,jn,eV,am,LB];by_cases h16:i.op=16
    ·rw[LC h16];exact e2 _ (by simp[h16])
    ·rw[if_neg h16];exact e2 _ (by simp[h16])
   simp -implicitDefEqProofs only[K48_4,aw,aB,ap,LJ,Md,jn,eV,am,LB];by_cases h10:i.op=10
   ·rw[LC h10];exact k3 _ (by simp[h10])
   ·rw[if_neg h10];exact k3 _ (by simp[h10])
  by_cases h2:i.op=2
  ·rw[LC h2];exact k4 _ (by simp[h2])
  ·rw[if_neg h2];exact k4 _ (by simp[h2])
 rw[C48,mK,oQ,key];exact cF _
def t22(n:Int)(h0:-9223372036854775808<=n)(h1:n<=9223372036854775807):ai pg 22 [.int .i64 n]=M.pure (.str (cD n)):=by
 rw[dx aI (E:=rk) rfl];simp only[rk,Mj h0,Mj h1,NT,LF];rfl
theorem jd(a b:aU)(h:a.length+b.length<=4611686018427387904):ao T .add 9 (.str a) (.str b)=some (.str (a++b)):=by
 have e:ao T .add 9 (.str a) (.str b)=if a.length+b.length<=4611686018427387904 then some (.str (a++b))else none:=rfl;rw[e,LC h]
theorem KZ(cs:List AV){n:Int}(h0:0<=n)(h1:n<20):ak T 120 (.ip cs) (.int .i64 n)=some (.ip (cs.drop (n.toNat*1))):=by
 have e:ak T 120 (.ip cs) (.int .i64 n)=if 0<=n/\n<20 then some (.ip (cs.drop (n.toNat*1)))else none:=rfl;rw[e,LC ⟨h0,h1⟩]
theorem K7{n:Int}(h0:0<=n)(h1:n<20):aj T 9 (.ip ((cb.map AV.str).drop (n.toNat*1)))=some (.str (dX n)):=by
 have e:aj T 9 (.ip ((cb.map AV.str).drop (n.toNat*1)))=((cb.map AV.str).drop (n.toNat*1)).head?:=rfl;have hl:n.toNat<cb.length:=by show n.toNat<20;omega
 rw[e,List.head?_drop,M3,MH,LY hl];unfold dX;rw[LK cb n.toNat hl];rfl
def vG{n:Int}(h0:0<=n)(h1:n<20):(dX n).length<=6:=by
 have key:∀w∈cb,w.length<=6:=by decide
 refine key _ ?_;unfold dX;rw[LK cb n.toNat (by show n.toNat<20;omega)];exact LM _
theorem rm:∀(l:List aU)(w:aU),eg (w:: l)=l.foldl (fun t n=>t++32:: n) w
 |[],_=>rfl
 | a:: l,w=>by
  rw[NY,<- rm l (w++32:: a)];cases l with
  |nil=>rfl
  |cons b l=>
   show w++32:: (a++32:: eg (b:: l))=(w++32:: a)++32:: eg (b:: l);simp
def uz(v:aU)(h:v.length<=1000000000):K23_0 (ai pg) ah [.str v]=M.pure (.str (v++[10])):=by
 simp -implicitDefEqProofs only[K23_0,aw,jd v [10] (by simp;omega),am]
theorem Bu(l:List aU)(hl:l.length<=1000000)(hx:∀x∈l,x.length<=20):∀(B A:List aU)(t:aU),A++B=l->t.length+21*B.length<=100000000->
  ah (L23_0 (ai pg) ah (K23_0 (ai pg) ah)) [.str t,strs l,.int .i64 l.length,.int .i64 A.length]=M.pure (.str (B.foldl (fun t n=>t++32:: n) t++[10]))
 |[],A,t,e,hb=>by
  rw[MW]at e;subst e;have h1:¬((A.length:Int)<(A.length:Int)):=by omega
  rw[FL23_0];simp -implicitDefEqProofs only[L23_0,aw,aB,aH,am,ap,LB,if_neg h1,uz t (by omega)];rfl
 |x:: B,A,t,e,hb=>by
  have hlen:A.length+(B.length+1)=l.length:=by rw[<- e];simp
  have h1:(A.length:Int)<(l.length:Int):=by omega
  have hix:=jI (l:=l) (n:=(A.length:Int)) (by omega) h1;have hxx:l[A.length]! = x:=by rw[LK l A.length (by omega)];simp[<- e]
  rw[LH,hxx]at hix;have hx20:=hx x (by rw[<- e];simp);simp only[LQ]at hb;have hw:IntKind.i64.wrap ((A.length:Int)+1)=((A++[x]).length:Nat):=by rw[a8 (by omega) (by omega)];simp
  have c1:ao T .add 9 (.str [32]) (.str x)=some (.str (32:: x)):=jd [32] x (by simp;omega);have c2:=jd t (32:: x) (by simp;omega);have ih:=Bu l hl hx B (A++[x]) (t++32:: x) (by rw[<- e];simp) (by simp;omega);rw[FL23_0];simp -implicitDefEqProofs only[L23_0,aw,aB,aH,am,ap,LB,LC h1,hix,zt,c1,c2,bD,hw,ih];rfl
def t23{len locals:Int}{i:Ins}(h:aV len locals i=true)(hb:-9223372036854775808<=i.a/\i.a<=9223372036854775807):ai pg 23 [i.av]=M.pure (.str (fL i)):=by
 obtain⟨p0,p1⟩:=iN h;have hwl:=vG p0 p1;have hI:=t22 i.a hb.1 hb.2;have hIl:=gS i.a;have hld:=K7 p0 p1;have hix:=KZ (cb.map AV.str) p0 p1;simp only[cb,Mi,N1]at hld hix;have key:S23 (ai pg) ah i.av=M.pure (.str (fL i)):=by
  simp -implicitDefEqProofs only[S23,fJ0,FI,am,hix,hld,jn,eV,ap,LB];generalize hw:dX i.op=w at *;unfold fL iy;rw[hw];by_cases h13:i.op=13
  ·have hn:bz i.s=true:=by
    simp[aV,h13]at h;exact h.1.1.1
   have hl:=db hn;have c1:ao T .add 9 (.str [32]) (.str i.s)=some (.str (32:: i.s)):=jd [32] i.s (by simp;omega);have c2:=jd w (32:: i.s) (by simp;omega);simp -implicitDefEqProofs only[LC h13,fJ2,Jg,am,c1,c2,uz (w++32:: i.s) (by simp;omega)];rfl
  simp -implicitDefEqProofs only[if_neg h13];by_cases h14:i.op=14
  ·simp[aV,h14]at h;obtain⟨⟨⟨_,hs⟩,hm⟩,_⟩:=h;have hl:=db hs;have kk:∀m':aU,m'.length<=20->K23_1 (ai pg) ah (K23_0 (ai pg) ah) [.ip (ab i.av),.str w,.str m']=M.pure (.str (eg [w,m',i.s,cD i.a]++[10])):=by
    intro m' hm';have c1:ao T .add 9 (.str [32]) (.str m')=some (.str (32:: m')):=jd [32] m' (by simp;omega);have c2:=jd (32:: m') [32] (by simp;omega);have c3:=jd (32:: m'++[32]) i.s (by simp;omega);have c4:=jd (32:: m'++[32]++i.s) [32] (by simp;omega);have c5:=jd (32:: m'++[32]++i.s++[32]) (cD i.a) (by simp;omega);have c6:=jd w (32:: m'++[32]++i.s++[32]++cD i.a) (by simp;omega);simp -implicitDefEqProofs only[K23_1,aw,aB,fJ1,fJ2,GA,Jg,am,c1,c2,c3,c4,hI,ax,c5,c6,uz (w++(32:: m'++[32]++i.s++[32]++cD i.a)) (by simp;omega)];simp[eg]
   simp -implicitDefEqProofs only[LC h14,fJ3,Kg,am,xf,ap];by_cases hmn:i.m=[]
   ·simp only[hmn,Nc,Mc];exact kk [46] (by simp)
   ·have hb2:(i.m== [])=false:=by rw[LX];exact hmn
    simp only[hb2,LJ,Md,if_neg hmn];exact kk i.m (db (hm.resolve_left hmn))
  simp -implicitDefEqProofs only[if_neg h14];by_cases h12:i.op=12
  ·have hn:d9 i.names=true:=by
    simp[aV,h12]at h;exact h.1.1.1
   simp only[d9,LD,LO,LB]at hn;have hl:=Bu i.names (by omega) (fun x hx=>db (hn.1.1 x hx)) i.names [] w rfl (by omega);simp -implicitDefEqProofs only[LC h12,fJ4,Jh,am,d8];rw[rm];exact hl
  simp -implicitDefEqProofs only[if_neg h12];have k2:∀b,b=fK i.op->K23_2 (ai pg) ah (K23_0 (ai pg) ah) [.ip (ab i.av),.str w,.bool b]=M.pure (.str (eg (if fK i.op=true then[w]else[w,cD i.a])++[10])):=by
   intro b hbb;have c1:ao T .add 9 (.str [32]) (.str (cD i.a))=some (.str (32:: cD i.a)):=jd [32] _ (by simp;omega);have c2:=jd w (32:: cD i.a) (by simp;omega);cases b with
   |true=>
    rw[LC hbb.symm];simp -implicitDefEqProofs only[K23_2,aw,aB,ap,Mc,uz w (by omega)];rfl
   |false=>
    rw[if_neg (by rw[<- hbb];simp)];simp -implicitDefEqProofs only[K23_2,aw,aB,ap,LJ,Md,fJ1,GA,am,hI,ax,c1,c2,uz (w++32:: cD i.a) (by simp;omega)];rfl
  by_cases h4:i.op=4
  ·rw[LC h4];exact k2 _ (by simp[fK,h4])
  rw[if_neg h4];by_cases h5:i.op=5
  ·rw[LC h5];exact k2 _ (by simp[fK,h5])
  rw[if_neg h5];by_cases h6:i.op=6
  ·rw[LC h6];exact k2 _ (by simp[fK,h6])
  rw[if_neg h6];by_cases h7:i.op=7
  ·rw[LC h7];exact k2 _ (by simp[fK,h7])
  rw[if_neg h7];by_cases h8:i.op=8
  ·rw[LC h8];exact k2 _ (by simp[fK,h8])
  rw[if_neg h8];by_cases h9:i.op=9
  ·rw[LC h9];exact k2 _ (by simp[fK,h9])
  rw[if_neg h9];by_cases h18:i.op=18
  ·rw[LC h18];exact k2 _ (by simp[fK,h18])
  rw[if_neg h18];exact k2 _ (by simp[fK,h4,h5,h6,h7,h8,h9,h18])
 rw[C23,oQ,key];exact jY _
theorem Bm(s:aU):aK T 9 (.str s)=some (.int .i64 s.length):=rfl
def yu(s:aU){n:Int}(h0:0<=n)(h1:n<=s.length):dj T 9 (.str s) none (some (.int .i64 n)) none=some (.str (s.take n.toNat)):=by
 show (match cC (some (.int .i64 n)) s.length s.length with|none=>none|some h=>match cC none 0 h with|none=>none|some l=>some (AV.str ((s.take h).drop l)))=_;simp[cC,h0,h1]
def yv(s:aU){n:Int}(h0:0<=n)(h1:n<=s.length):dj T 9 (.str s) (some (.int .i64 n)) none none=some (.str (s.drop n.toNat)):=by
 show (match cC none s.length s.length with|none=>none|some h=>match cC (some (.int .i64 n)) 0 h with|none=>none|some l=>some (AV.str ((s.take h).drop l)))=_;have:n<=((s.length:Nat):Int):=h1;simp[cC,h0,this]
theorem Do(x y:Int):ao T .geq 3 (.int .i64 x) (.int .i64 y)=some (.bool (decide (y<=x))):=rfl
theorem IY(x y:Int):ao T .sub 3 (.int .i64 x) (.int .i64 y)=some (.int .i64 (IntKind.i64.wrap (x-y))):=rfl
def t57(s:aU)(h:s.length<=281474976710656):ai pg 57 [.str s]=M.pure (oJ 175 s):=by
 rw[dx aI (E:=qQ 175) rfl];simp only[qQ,Mj h,LF];rfl
def t28(s:aU)(h:s.length<=281474976710656):ai pg 28 [.str s]=M.pure (.int .i64 (fp s)):=by
 have hx:∃y,oJ 175 s= .tup [.int .i64 (fp s),y]:=by
  unfold oJ fp;cases Lib.atoiAll s<;>exact⟨_,rfl⟩
 obtain⟨y,hy⟩:=hx;have ha:=t57 s h;rw[hy]at ha;rw[C28,show cl az (.str s)= .str s from rfl];simp -implicitDefEqProofs only[S28,ha,ax,cn,LV,Mo,am];exact lX _ _
def un(s p:aU):Bool:=decide ((p.length:Int)<=s.length)&&(s.take p.length== p)
def t121(s p:aU):ai pg 121 [.str s,.str p]=M.pure (.bool (un s p)):=by
 rw[C121,show cl az (.str s)= .str s from rfl,show cl az (.str p)= .str p from rfl];have e:S121 (ai pg) ah (.str s) (.str p)=M.pure (.bool (un s p)):=by
  unfold un;by_cases h:(p.length:Int)<=s.length
  ·have hs:=yu s (n:=(p.length:Int)) (by omega) h;rw[LH]at hs;simp only[S121,Bm,am,Do,h,MI,bX,hs,xf,ax,aw,ct,MV]
  ·simp only[S121,Bm,am,Do,h,N0,kB,ax,dB,Nt]
 rw[e];exact cF _
theorem t60(s:aU):ai pg 60 [.str s,.str [46]]=M.pure (.str (mB s)):=by
 have h2:ai pg 97 [.str s,.str [46]]=M.pure (.str (mB s)):=by
  have hp:=t121 s [46];rw[C97,show cl az (.str s)= .str s from rfl,show cl az (.str [46])= .str [46]from rfl];have e:S97 (ai pg) ah (.str s) (.str [46])=M.pure (.str (mB s)):=by
   cases s with
   |nil=>
    have hq:un [] [46]=false:=rfl;rw[hq]at hp;simp -implicitDefEqProofs only[S97,hp,ax,ap,LJ,Md];rfl
   | cons x s=>
    by_cases hx:x=46
    ·subst hx;have hq:un (46:: s) [46]=true:=by simp[un];omega
     rw[hq]at hp;have hs:=yv (46:: s) (n:=1) (by omega) (by simp;omega);have hl:aK T 9 (.str [46])=some (.int .i64 1):=rfl;simp -implicitDefEqProofs only[S97,hp,ax,ap,Mc,hl,am,hs];rfl
    ·have hq:un (x:: s) [46]=false:=by simp[un,hx]
     rw[hq]at hp;simp -implicitDefEqProofs only[S97,hp,ax,ap,LJ,Md];unfold mB;rw[if_neg (by simp[hx])]
  rw[e];exact jY _
 rw[C60,show cl az (.str s)= .str s from rfl,show cl az (.str [46])= .str [46]from rfl];simp -implicitDefEqProofs only[S60,h2,ax];exact jY _
theorem t94(s:aU)(hb:s.length<=4611686018427387904):ai pg 94 [.str s,.str [10]]=M.pure (.bool (decide (s.getLast? = some 10))):=by
 rw[C94,show cl az (.str s)= .str s from rfl,show cl az (.str [10])= .str [10]from rfl];have hl:aK T 9 (.str [10])=some (.int .i64 1):=rfl;have e:S94 (ai pg) ah (.str s) (.str [10])=M.pure (.bool (decide (s.getLast? = some 10))):=by
  by_cases h:(1:Int)<=s.length
  ·have hw:IntKind.i64.wrap ((s.length:Int)-1)=s.length-1:=a8 (by omega) (by omega);have hs:=yv s (n:=(s.length:Int)-1) (by omega) (by omega);have hd:s.drop ((s.length:Int)-1).toNat=s.getLast?.toList:=by
    have hne:s≠[]:=fun e=>by rw[e]at h;simp at h
    obtain⟨t,x,rfl⟩:∃t x,s=t++[x]:=⟨s.dropLast,s.getLast hne,(NM hne).symm⟩;rw[show (((t++[x]).length:Int)-1).toNat=t.length by simp];simp
   rw[hd]at hs;have hq:(s.getLast?.toList== ([10]:aU))=decide (s.getLast? = some 10):=by
    cases hg:s.getLast? with
    |none=>rfl
    |some x=>
     by_cases hx:x=10<;>simp[hx]
   simp -implicitDefEqProofs only[S94,Bm,hl,am,Do,Mj h,bX,IY,hw,hs,xf,hq,ax,aw,ct]
  ·have hs0:s=[]:=by cases s with|nil=>rfl|cons=>exact absurd (by simp;omega) h
   subst hs0;simp -implicitDefEqProofs only[S94,Bm,hl,am,Do,Mp h,kB,ax,dB];rfl
 rw[e];exact cF _
theorem t27(s:aU)(hb:s.length<=4611686018427387904):ai pg 27 [.str s,.str [10]]=M.pure (.str (fN s)):=by
 have h2:ai pg 56 [.str s,.str [10]]=M.pure (.str (fN s)):=by
  have hp:=t94 s hb;have hl:aK T 9 (.str [10])=some (.int .i64 1):=rfl;rw[C56,show cl az (.str s)= .str s from rfl,show cl az (.str [10])= .str [10]from rfl];have e:S56 (ai pg) ah (.str s) (.str [10])=M.pure (.str (fN s)):=by
   unfold fN;by_cases hg:s.getLast? = some 10
   ·have h1:1<=s.length:=by cases s with|nil=>cases hg|cons=>simp
    have hw:IntKind.i64.wrap ((s.length:Int)-1)=s.length-1:=a8 (by omega) (by omega);have hs:=yu s (n:=(s.length:Int)-1) (by omega) (by omega);rw[show ((s.length:Int)-1).toNat=s.length-1 by omega,<- List.dropLast_eq_take]at hs;rw[Mj hg]at hp;simp -implicitDefEqProofs only[S56,hp,ax,ap,Mc,Bm,hl,am,IY,hw,hs,LC hg]
   ·rw[Mp hg]at hp;simp -implicitDefEqProofs only[S56,hp,ax,ap,LJ,Md,if_neg hg]
  rw[e];exact jY _
 rw[C27,show cl az (.str s)= .str s from rfl,show cl az (.str [10])= .str [10]from rfl];simp -implicitDefEqProofs only[S27,h2,ax];exact jY _
theorem Ic(s:aU)(c:UInt8)(sv:Int)(h:s.length<4294967281)(hs:sv=0\/sv=1):ai pg 55 [.str s,.str [c],.int .i64 sv,.int .i64 (-1)]=M.pure (strs (eb c sv.toNat s)):=by
 rw[dx aI (E:=gR) rfl];have h2:(sv== 0||sv== 1)=true:=by rcases hs with rfl|rfl<;>rfl
 have h3:((-1:Int)== -1)=true:=rfl;simp only[gR,Mj h,h2,h3,NT,LF];rfl
def t26(s:aU)(h:s.length<4294967281):ai pg 26 [.str s,.str [32]]=M.pure (strs (eb 32 0 s)):=by
 have hg:=Ic s 32 0 h (.inl rfl);rw[C26,show cl az (.str s)= .str s from rfl,show cl az (.str [32])= .str [32]from rfl];simp -implicitDefEqProofs only[S26,hg,ax];exact cg fun g=>by simp
theorem t25(s:aU)(h:s.length<4294967281):ai pg 25 [.str s,.str [10]]=M.pure (strs (eb 10 1 s)):=by
 have hg:=Ic s 10 1 h (.inr rfl);have hl:aK T 9 (.str [10])=some (.int .i64 1):=rfl;rw[C25,show cl az (.str s)= .str s from rfl,show cl az (.str [10])= .str [10]from rfl];simp -implicitDefEqProofs only[S25,hl,am,hg,ax];exact cg fun g=>by simp
theorem Bv(l:List aU)(x:aU)(hb:l.length<=1000000):∀(B A:List aU),A++B=l->
  ah (L58_0 (ai pg) ah) [strs l,.str x,.int .i64 l.length,.int .i64 A.length]=M.pure (.int .i64 (bG (fun y=>y== x) B A.length))
 |[],A,e=>by
  rw[MW]at e;subst e;have h1:¬((A.length:Int)<(A.length:Int)):=by omega
  rw[FL58_0];simp -implicitDefEqProofs only[L58_0,aw,aB,aH,am,ap,LB,if_neg h1];rfl
 | y:: B,A,e=>by
  have hlen:A.length+(B.length+1)=l.length:=by rw[<- e];simp
  have h1:(A.length:Int)<(l.length:Int):=by omega
  have hix:=jI (l:=l) (n:=(A.length:Int)) (by omega) h1;have hxx:l[A.length]! = y:=by rw[LK l A.length (by omega)];simp[<- e]
  rw[LH,hxx]at hix;have hw:IntKind.i64.wrap ((A.length:Int)+1)=((A++[y]).length:Nat):=by rw[a8 (by omega) (by omega)];simp
  have ih:=Bv l x hb B (A++[y]) (by rw[<- e];simp);have hc:(x== y)=(y== x):=BEq.comm;rw[FL58_0];simp -implicitDefEqProofs only[L58_0,aw,aB,aH,am,ap,LB,LC h1,hix,zt,xf,hc];rw[show bG (fun y=>y== x) (y:: B) A.length=if(y== x)=true then(A.length:Int)else bG (fun y=>y== x) B ((A.length:Int)+1)from rfl];cases y== x with
  |true=>rfl
  |false=>
   simp -implicitDefEqProofs only[LJ,Md,bD,am,hw,ih];simp
def t58(l:List aU)(x:aU)(hb:l.length<=1000000):ai pg 58 [strs l,.str x]=M.pure (.int .i64 (bG (fun y=>y== x) l 0)):=by
 have h:=Bv l x hb l [] rfl;have h':ah (L58_0 (ai pg) ah) [strs l,.str x,.int .i64 l.length,.int .i64 0]=M.pure (.int .i64 (bG (fun y=>y== x) l 0)):=h;rw[C58,show cl az (strs l)=strs l by simp,show cl az (.str x)= .str x from rfl];simp -implicitDefEqProofs only[S58,d8,am,h'];exact lX _ _
end Go.Proofs.YtpmcemjkdkbicaaGreatDoor
