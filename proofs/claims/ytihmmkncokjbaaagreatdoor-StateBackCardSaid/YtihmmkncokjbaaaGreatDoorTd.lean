/- What the functions of the seat compute, part 4: the texts of the claim, one behind the other. Conditions: bounds, as each theorem names them. -/
import Derived.Test.YtihmmkncokjbaaaGreatDoorTc
import Derived.Lib.SmallJoins
set_option linter.defProp false
set_option linter.unusedSimpArgs false
set_option linter.unusedVariables false
namespace Go.Proofs.YtihmmkncokjbaaaGreatDoor
open Go Go.Av Go.Av.Ap
set_option maxRecDepth 100000
def Reads(o:Option (Val×aJ))(r:R AV):Prop:=match o with
 |some x=>r= .ok x.1.av (dh x.2)
 |none=>∃h',r= .pan gp h'
theorem kH(f:AV->M AV)(h:Hp):ae (sr gp) f h= .pan gp h:=rfl
theorem D1:bW T false 81 []=some (.agg []):=rfl
theorem Ef:dK T 81 (.agg [])=some gp:=rfl
theorem EO(s:aJ):bp T 22 1 [(0,.str s)]=some (strs [s]):=rfl
def BS(v:Val):bp T 30 1 [(0,v.av)]=some (vals [v]):=by cases v;rfl
theorem Cv(l:List AV):ab (.agg l)=l:=rfl
def vl{d:Nat}{s:aJ}{v:Val}{r:aJ}(h:aZ d s=some (v,r)):r.length<=s.length:=by
 rw[<- (gT d s v r h).1,Gh];omega
def qB(k:List AV->M AV)(d:Nat)(hd:d<=4)(G:aJ->Val->aJ->Option (Val×aJ))(IH:∀s:aJ,s.length<=4000000->Reads (aZ d s) (af pg 54 [.hp 0 0,.int .i64 d] (dh s)))(a b c e:AV)(s:aJ)(hs:s.length<=4000000)(ns:List aJ)(vs:List Val)(hn:ns.length<=4000000)(hv:vs.length<=4000000)(hk:∀n v r,r.length<s.length->Reads (G n v r) (k [.hp 0 0,.int .i64 (d+1:Nat),a,b,c,e,.int .i64 2,.int .i64 0,strs (ns++[n]),vals (vs++[v])] (dh r))):
  Reads (match f5 s with|none=>none|some (n,r)=>match aZ d r with|none=>none|some (v,r')=>G n v r') (K54_1 (af pg) ai k [.hp 0 0,.int .i64 (d+1:Nat),a,b,c,e,.int .i64 2,.int .i64 0,strs ns,vals vs] (dh s)):=by
 have hl:=FX List.length (rf dj s);rw[Gh]at hl;have hu:af pg 94 [.hp 0 0,.str [61,123,125,44]] (dh s)= .ok (.str (s.takeWhile dj)) (dh (s.dropWhile dj)):=t94 s [61,123,125,44] (by omega) (by decide) (by decide);have hp:=t95 (s.takeWhile dj) (by omega);have hsk:=t92 (s.dropWhile dj) 61;unfold f5;cases hpl:bX (s.takeWhile dj)with
 |false=>
  rw[hpl]at hp;rw[if_neg (by simp)];simp only[K54_1,aH,aQ,cQ,b6 hu,hp,aw,bl,ay,GV,dX,bK,ap,Gm,D1,Ef,kH];exact⟨_,rfl⟩
 | true=>
  rw[hpl]at hp;by_cases h61:(s.dropWhile dj).head? = some 61
  ·rw[FY ⟨rfl,h61⟩];have hr:(s.dropWhile dj).tail.length<s.length:=by
    have h3:=FX List.length (dD h61);rw[Ge]at h3;omega
   have dc:decide ((s.dropWhile dj).head? = some 61)=true:=Gk h61;rw[FY h61,dc]at hsk;have hap:cZ T 22 (strs ns) (strs [s.takeWhile dj])=some (strs (ns++[s.takeWhile dj])):=Ac (by simp;omega);have hsub:ao T .sub 3 (.int .i64 (d+1:Nat)) (.int .i64 1)=some (.int .i64 d):=by
    simp;exact bA (by omega) (by omega)
   have hI:=IH (s.dropWhile dj).tail (by omega);simp only[K54_1,aH,aQ,cQ,b6 hu,hp,aw,bl,ay,GA,a8,cR,b6 hsk,bH,ap,F7,Gl,K54_0,EO,hap,hsub];cases hvx:aZ d (s.dropWhile dj).tail with
   |none=>
    rw[hvx]at hI;obtain⟨h',e'⟩:=hI;rw[li e'];exact⟨h',rfl⟩
   |some x=>
    obtain⟨v,r'⟩:=x;rw[hvx]at hI;have e':af pg 54 [.hp 0 0,.int .i64 d] (dh (s.dropWhile dj).tail)= .ok v.av (dh r'):=hI;have hr':=vl hvx;have hap2:cZ T 30 (vals vs) (vals [v])=some (vals (vs++[v])):=Ci (by simp;omega);have c1:∀l:List aJ,dJ (strs l)=M.pure (strs l):=fun _=>rfl;have c2:∀l:List Val,dJ (vals l)=M.pure (vals l):=fun _=>rfl;simp only[b6 e',BS,ay,hap2,c1,c2,aw];exact hk _ v r' (by omega)
  ·rw[if_neg (fun h=>h61 h.2)];have dc:decide ((s.dropWhile dj).head? = some 61)=false:=Gr h61;rw[dc]at hsk;simp only[K54_1,aH,aQ,cQ,b6 hu,hp,aw,bl,ay,GA,GV,a8,cR,b6 hsk,bH,ap,Gm,D1,Ef,kH];exact⟨_,rfl⟩
theorem Bu(d:Nat)(hd:d<=4)(IH:∀s:aJ,s.length<=4000000->Reads (aZ d s) (af pg 54 [.hp 0 0,.int .i64 d] (dh s)))(a b c e:AV):∀(f:Nat)(s:aJ)(ns:List aJ)(vs:List Val),s.length<f->ns.length+s.length<=4000000->vs.length=ns.length->
  Reads (ci (aZ d) f ns vs s) (ai (L54_0 (af pg) ai) [.hp 0 0,.int .i64 (d+1:Nat),a,b,c,e,.int .i64 2,.int .i64 0,strs ns,vals vs] (dh s)):=by
 intro f
 induction f with
 |zero=>intro s ns vs h;omega
 | succ f ih=>
  intro s ns vs hf hb hl;have hs1:=t92 s 125;have gt:∀x y:Int,ao T .gtr 3 (.int .i64 x) (.int .i64 y)=some (.bool (decide (y<x))):=fun _ _=>rfl;rw[ci,FL54_0];by_cases h125:s.head? = some 125
  ·have dc:decide (s.head? = some 125)=true:=Gk h125;rw[FY h125,dc]at hs1;have cn:aU 4 [] (.agg [.int .i64 2,.int .i64 0,strs ns,vals vs])=M.pure (.agg [.int .i64 2,.int .i64 0,strs ns,vals vs]):=rfl;rw[FY h125];simp only[L54_0,aH,aQ,b6 hs1,bl,ay,GA,ap,F7,Gl,cn,aw,Cv];rfl
  ·have dc:decide (s.head? = some 125)=false:=Gr h125;rw[if_neg h125,dc]at hs1;rw[if_neg h125];have hk:∀s1:aJ,s1.length<=s.length->∀n v r,r.length<s1.length->Reads (ci (aZ d) f (ns++[n]) (vs++[v]) r) (ai (L54_0 (af pg) ai) [.hp 0 0,.int .i64 (d+1:Nat),a,b,c,e,.int .i64 2,.int .i64 0,strs (ns++[n]),vals (vs++[v])] (dh r)):=fun s1 h1 n v r hr=>
    ih r (ns++[n]) (vs++[v]) (by omega) (by simp;omega) (by simp[hl])
   cases hne:ns.isEmpty with
   | true=>
    have hz:¬((0:Int)<(ns.length:Int)):=by
     have:=Il.1 hne
     rw[this];simp
    have N:=qB (ai (L54_0 (af pg) ai)) d hd (fun n v r=>ci (aZ d) f (ns++[n]) (vs++[v]) r) IH a b c e s (by omega) ns vs (by omega) (by omega) (hk s (FZ _));have hh:eu true s=f5 s:=rfl;rw[hh];simp only[L54_0,aH,aQ,b6 hs1,bl,ay,GV,ap,Gm,cQ,jh,gt,Gr hz,dW,aw,bH,F7,Gl];exact N
   | false=>
    have hz:(0:Int)<(ns.length:Int):=by
     cases ns with
     |nil=>cases hne
     |cons x l=>simp only[Ge];omega
    have hs2:=t92 s 44;by_cases h44:s.head? = some 44
    ·have dc2:decide (s.head? = some 44)=true:=Gk h44;rw[FY h44,dc2]at hs2;have hlt:s.tail.length<s.length:=by
      have h3:=FX List.length (dD h44);rw[Ge]at h3;omega
     have N:=qB (ai (L54_0 (af pg) ai)) d hd (fun n v r=>ci (aZ d) f (ns++[n]) (vs++[v]) r) IH a b c e s.tail (by omega) ns vs (by omega) (by omega) (hk s.tail (by omega));have hh:eu false s=f5 s.tail:=by unfold eu;rw[if_neg (by simp),FY h44]
     rw[hh];simp only[L54_0,aH,aQ,b6 hs1,bl,ay,GV,GA,ap,Gm,cQ,jh,gt,Gk hz,a8,cR,b6 hs2,aw,bK,F7,Gl];exact N
    ·have dc2:decide (s.head? = some 44)=false:=Gr h44;rw[if_neg h44,dc2]at hs2;have hh:eu false s=none:=by unfold eu;rw[if_neg (by simp),if_neg h44]
     rw[hh];simp only[L54_0,aH,aQ,b6 hs1,bl,ay,GV,ap,Gm,cQ,jh,gt,Gk hz,a8,cR,b6 hs2,aw,bK,D1,Ef,kH];exact⟨_,rfl⟩
theorem t54:∀(d:Nat),d<=4->∀s:aJ,s.length<=4000000->Reads (aZ d s) (af pg 54 [.hp 0 0,.int .i64 d] (dh s)):=by
 intro d
 induction d with
 |zero=>
  intro _ s hs;have e0:ao T .eql 3 (.int .i64 ((0:Nat):Int)) (.int .i64 0)=some (.bool true):=rfl;rw[C54,aZ];simp only[S54,cQ,e0,ay,ap,Gm,D1,Ef,kH];exact⟨_,rfl⟩
 | succ d ih=>
  intro hd s hs;have e0:ao T .eql 3 (.int .i64 ((d+1:Nat):Int)) (.int .i64 0)=some (.bool false):=by
   show some (AV.bool (decide ((((d+1:Nat):Int))=0)))=_;rw[Gr (by omega)]
  have hsk:=t92 s 123;rw[C54,aZ];by_cases h123:s.head? = some 123
  ·have dc:decide (s.head? = some 123)=true:=Gk h123;rw[FY h123,dc]at hsk;have hlt:s.tail.length<s.length:=by
    have h3:=FX List.length (dD h123);rw[Ge]at h3;omega
   have bb:bW T true 45 [(0,.int .i64 2)]=some (.agg [.int .i64 2,.int .i64 0,.hn,.hn]):=rfl;have cn:aU 4 [2,3] (.agg [.int .i64 2,.int .i64 0,.hn,.hn])=M.pure (.agg [.int .i64 2,.int .i64 0,.hn,.hn]):=rfl;have L:=Bu d (by omega) (ih (by omega)) (.int .i64 0) (.int .i64 0) (.sl []) (.sl []) s.length s.tail [] [] hlt (by simp;omega) rfl;rw[FY h123];simp only[S54,cQ,e0,ay,ap,F7,Gl,K54_2,aH,aQ,b6 hsk,bl,GA,bb,cn,aw,Cv];exact L
  ·have dc:decide (s.head? = some 123)=false:=Gr h123;rw[if_neg h123,dc]at hsk;rw[if_neg h123];have hl:=FX List.length (rf dF s);rw[Gh]at hl;have hu:af pg 94 [.hp 0 0,.str [44,125]] (dh s)= .ok (.str (s.takeWhile dF)) (dh (s.dropWhile dF)):=t94 s [44,125] (by omega) (by decide) (by decide);have hsc:=t93 (s.takeWhile dF) (by omega);simp only[S54,cQ,e0,ay,ap,F7,Gl,K54_2,aH,aQ,b6 hsk,bl,GV,Gm,b6 hu];cases hx:bz (s.takeWhile dF)with
   |none=>
    rw[hx]at hsc;obtain⟨h',e'⟩:=hsc (dh (s.dropWhile dF));rw[li e'];exact⟨h',rfl⟩
   |some v=>
    rw[hx]at hsc;have hsc':af pg 93 [.str (s.takeWhile dF)]=M.pure v.av:=hsc;have cn:aU 4 [] v.av=M.pure v.av:=by simp
    have va:AV.agg [nth (ab v.av) 0,nth (ab v.av) 1,nth (ab v.av) 2,nth (ab v.av) 3]=v.av:=by cases v;rfl
    simp only[hsc',aw,cn,va];rfl
def Cj(Q:Prop)(most:Int)(m:M AV):Prop:=∃n,m=M.pure (.int .i64 n)/\1<=n/\n<=most+1/\(n<=most->Q)
def pn(Q:Int->Prop)(most:Int)(m:M AV):Prop:=∃n,m=M.pure (.int .i64 n)/\1<=n/\n<=most+1/\(n<=most->Q n)
def BB(P:Prop)(m:M AV):Prop:=∃b,m=M.pure (.bool b)/\(b=true->P)
def BB.no{P:Prop}:BB P (M.pure (.bool false)):=⟨false,rfl,fun h=>by cases h⟩
def BB.imp{P Q:Prop}{m:M AV}(h:BB P m)(f:P->Q):BB Q m:=by
 obtain⟨b,h1,h2⟩:=h;exact⟨b,h1,fun e=>f (h2 e)⟩
def pe{e x:Val}(h:x∈e.values):SizeOf.sizeOf x<SizeOf.sizeOf e:=by
 cases e with
 |mk k n ns vs=>
  have:=Hq h
  simp only[Val.mk.sizeOf_spec];simp only[Val.values]at this;omega
def kZ(b c:Bool)(k:AV->M AV):ae (au (.bool b) true 1 (M.pure [.bool c])) (fun v=>ae (ah (aO (.bool b) (nth v 0) (.bool false))) k)=k (.bool (b&&c)):=by
 cases b<;>rfl
def kG(b c:Bool)(k:AV->M AV):ae (au (.bool b) false 1 (M.pure [.bool c])) (fun v=>ae (ah (aO (.bool b) (.bool true) (nth v 0))) k)=k (.bool (b||c)):=by
 cases b<;>rfl
def sW(e:Ty):Prop:=∀most depth:Int,0<=most->most<=1099511627776->depth<=1099511627776->Cj True most (af pg 48 [e.av,.int .i64 most,.int .i64 depth])
def Bt(e:Ty)(hL:e.Lim)(ih:∀x∈e.fields,sW x.2)(most depth:Int)(h0:0<=most)(h1:most<=1099511627776)(h2:depth<=1099511627776)(h3:1<=depth):
  ∀(r:Nat)(n i:Int),e.fields.length-i.toNat=r->0<=i->i<=e.fields.length->1<=n->n<=most+1->Cj True most (ai (L48_0 (af pg) ai) [.int .i64 most,.int .i64 depth,.ip (ab e.av),.int .i64 n,.int .i64 i]):=by
 intro r
 induction r with
 |zero=>
  intro n i hr hi hb hn hm;rw[FL48_0];simp only[L48_0];have h1:¬(i<(e.fields.length:Int)):=by omega
  simp[h1];exact⟨n,rfl,hn,hm,fun _=>trivial⟩
 | succ r IH=>
  intro n i hr hi hb hn hm;have hlen:=hL.len;have h5:i<(e.fields.length:Int):=by omega
  have hlt:i.toNat<e.fields.length:=by omega
  rw[FL48_0];simp only[L48_0];by_cases hs:n<=most
  ·by_cases h60:(60:Int)<(e.fields[i.toNat].1.length:Int)
   ·simp (disch:=omega) [h5,hs,tU,GK e.fields i.toNat hlt,bA,h60];exact⟨_,rfl,by omega,by omega,fun _=>trivial⟩
   ·obtain⟨k,hk,hk1,hk2,_⟩:=ih e.fields[i.toNat] (Gs hlt) (most-n) (depth-1) (by omega) (by omega) (by omega);have h4:=IH (n+k) (i+1) (by omega) (by omega) (by omega) (by omega) (by omega);simp (disch:=omega) [h5,hs,tU,GK e.fields i.toNat hlt,bA,hk,h60];simpa using h4
  ·simp[h5,hs];exact⟨n,rfl,hn,hm,fun _=>trivial⟩
def t48:∀(N:Nat)(e:Ty),SizeOf.sizeOf e<=N->e.Lim->sW e:=by
 intro N
 induction N with
 |zero=>intro e he;cases e;simp at he
 | succ N ih=>
  intro e he hL most depth h0 h1 h2;rw[C48];have h4:1<=depth->_:=fun h3=>Bt e hL (fun x hx=>ih x.2 (by have:=Aa hx;omega) (hL.kid hx)) most depth h0 h1 h2 h3 e.fields.length 1 0 rfl (by omega) (by omega) (by omega) (by omega);simp[S48];split
  ·rw[bA (by omega) (by omega),iO];exact⟨_,rfl,by omega,by omega,fun _=>trivial⟩
  ·obtain⟨n,hn,b⟩:=h4 (by omega);simp at hn;rw[hn,iO];exact⟨n,rfl,b⟩
def Bp(l:List Ty)(hl:l.length<=140737488355328)(hL:∀e∈l,e.Lim):∀(r:Nat)(i:Int),l.length-i.toNat=r->0<=i->i<=l.length->BB True (ai (L16_0 (af pg) ai) [vq l,.int .i64 i]):=by
 intro r
 induction r with
 |zero=>
  intro i hr hi hb;rw[FL16_0];simp only[L16_0];have h1:¬(i<(l.length:Int)):=by omega
  simp[h1];exact⟨_,rfl,fun _=>trivial⟩
 |succ r IH=>
  intro i hr hi hb;have h5:i<(l.length:Int):=by omega
  have hlt:i.toNat<l.length:=by omega
  rw[FL16_0];simp only[L16_0];obtain⟨k,hk,_⟩:=t48 _ l[i.toNat] (FZ _) (hL _ (Gs hlt)) 40 6 (by omega) (by omega) (by omega);have h4:=IH (i+1) (by omega) (by omega) (by omega);simp (disch:=omega) [h5,Ep,GK l i.toNat hlt,bA,hk];by_cases hk5:40<k
  ·simp[hk5];exact .no
  ·simp[hk5];exact h4
def t16(l:List Ty)(hl:l.length<=140737488355328)(hL:∀e∈l,e.Lim):BB True (af pg 16 [vq l]):=by
 rw[C16];obtain⟨b,hb,h2⟩:=Bp l hl hL l.length 0 rfl (by omega) (by omega);refine⟨b,?_,h2⟩;simp[S16,hb]
def sY(v:Val):Prop:=∀most depth:Int,0<=most->most<=1099511627776->depth<=1099511627776->pn (fun n=>(v.sz:Int)<=13*n/\tV v) most (af pg 42 [v.av,.int .i64 most,.int .i64 depth])
def kp(l:List Val)(i:Nat)(h:i<l.length):bh (l.drop i)=l[i].sz+bh (l.drop (i+1)):=by
 rw[Gq h];rfl
def yU(e:Val)(hL:e.Lim)(ih:∀x∈e.values,sY x)(most depth:Int)(h0:0<=most)(h1:most<=1099511627776)(h2:depth<=1099511627776)(h3:1<=depth):
  ∀(r:Nat)(n i:Int),e.values.length-i.toNat=r->0<=i->i<=e.values.length->1<=n->n<=most+1->pn (fun k=>(bh (e.values.drop i.toNat):Int)<=13*(k-n)/\∀x∈e.values.drop i.toNat,tV x) most (ai (L42_0 (af pg) ai) [.int .i64 most,.int .i64 depth,.ip (ab e.av),.int .i64 n,.int .i64 i]):=by
 intro r
 induction r with
 |zero=>
  intro n i hr hi hb hn hm;rw[FL42_0];simp only[L42_0];have h1:¬(i<(e.values.length:Int)):=by omega
  simp[h1];exact⟨n,rfl,hn,hm,fun h=>by rw[G1 (by omega)];simp[bh]⟩
 | succ r IH=>
  intro n i hr hi hb hn hm;have hlen:=hL.len;have h5:i<(e.values.length:Int):=by omega
  have hlt:i.toNat<e.values.length:=by omega
  rw[FL42_0];simp only[L42_0];by_cases hs:n<=most
  ·obtain⟨k,hk,hk1,hk2,hk3⟩:=ih e.values[i.toNat] (Gs hlt) (most-n) (depth-1) (by omega) (by omega) (by omega);obtain⟨n',q1,q2,q3,q4⟩:=IH (n+k) (i+1) (by omega) (by omega) (by omega) (by omega) (by omega);rw[show (i+1).toNat=i.toNat+1 by omega]at q4;have hd:=kp e.values i.toNat hlt;have h4:pn (fun k=>(bh (e.values.drop i.toNat):Int)<=13*(k-n)/\∀x∈e.values.drop i.toNat,tV x) most (ai (L42_0 (af pg) ai) [.int .i64 most,.int .i64 depth,.ip (ab e.av),.int .i64 (n+k),.int .i64 (i+1)]):=by
    by_cases hk4:k<=most-n
    ·refine⟨n',q1,q2,q3,fun h=>?_⟩;have p1:=q4 h;have p2:=hk3 hk4;refine⟨?_,fun x hx=>?_⟩
     ·have:=p1.1
      have:=p2.1
      show (bh (e.values.drop i.toNat):Int)<=13*(n'-n);omega
     ·rw[Gq hlt]at hx;rcases Gp.1 hx with rfl|hx
      ·exact p2.2
      ·exact p1.2 x hx
    ·have hstop:ai (L42_0 (af pg) ai) [.int .i64 most,.int .i64 depth,.ip (ab e.av),.int .i64 (n+k),.int .i64 (i+1)]=M.pure (.int .i64 (n+k)):=by
      rw[FL42_0];simp only[L42_0];have h6:¬(n+k<=most):=by omega
      simp[h6]
     exact⟨n+k,hstop,by omega,by omega,fun h=>by omega⟩
   simp (disch:=omega) [h5,hs,rp,GK e.values i.toNat hlt,bA,hk];simpa using h4
  ·simp[h5,hs];exact⟨n,rfl,hn,hm,fun h=>absurd h hs⟩
def yV(e:Val)(hL:e.Lim)(h12:e.names.length<=12)(most depth:Int)(h0:0<=most)(h1:most<=1099511627776)(Q:Int->Prop)(h:pn Q most (ai (L42_0 (af pg) ai) [.int .i64 most,.int .i64 depth,.ip (ab e.av),.int .i64 1,.int .i64 0])):
  ∀(r:Nat)(i:Int),e.names.length-i.toNat=r->0<=i->i<=e.names.length->pn (fun k=>Q k/\∀s∈e.names.drop i.toNat,s.length<=60) most (ai (L42_1 (af pg) ai) [.int .i64 most,.int .i64 depth,.ip (ab e.av),.int .i64 1,.int .i64 i]):=by
 intro r
 induction r with
 |zero=>
  intro i hr hi hb;rw[FL42_1];simp only[L42_1];have h1:¬(i<(e.names.length:Int)):=by omega
  obtain⟨n,p1,p2,p3,p4⟩:=h;simp[h1];exact⟨n,by simpa using p1,p2,p3,fun h=>⟨p4 h,fun s hs=>by rw[G1 (by omega)]at hs;cases hs⟩⟩
 | succ r IH=>
  intro i hr hi hb;have h5:i<(e.names.length:Int):=by omega
  have hlt:i.toNat<e.names.length:=by omega
  have h4:=IH (i+1) (by omega) (by omega) (by omega);rw[FL42_1];simp only[L42_1];by_cases h60:(60:Int)<(e.names[i.toNat].length:Int)
  ·simp (disch:=omega) [h5,rn,GK e.names i.toNat hlt,bA,h60];exact⟨_,rfl,by omega,by omega,fun h=>by omega⟩
  ·simp (disch:=omega) [h5,rn,GK e.names i.toNat hlt,bA,h60];obtain⟨n,p1,p2,p3,p4⟩:=h4;refine⟨n,by simpa using p1,p2,p3,fun h=>⟨(p4 h).1,fun s hs=>?_⟩⟩;rw[Gq hlt]at hs;rcases Gp.1 hs with rfl|hs
   ·omega
   ·exact (p4 h).2 s (by rw[show (i+1).toNat=i.toNat+1 by omega];exact hs)
def t42:∀(N:Nat)(e:Val),SizeOf.sizeOf e<=N->e.Lim->sY e:=by
 intro N
 induction N with
 |zero=>intro e he;cases e;simp at he
 | succ N ih=>
  intro e he hL most depth h0 h1 h2;rw[C42];by_cases hq:depth<1\/12<e.names.length
  ·simp[S42];rw[FY (by omega),bA (by omega) (by omega),iO];exact⟨_,rfl,by omega,by omega,fun h=>by omega⟩
  ·have h4:=yU e hL (fun x hx=>ih x (by have:=pe hx;omega) (hL.kid hx)) most depth h0 h1 h2 (by omega) e.values.length 1 0 rfl (by omega) (by omega) (by omega) (by omega);obtain⟨n,hn,b1,b2,b3⟩:=yV e hL (by omega) most depth h0 h1 _ h4 e.names.length 0 rfl (by omega) (by omega);simp[S42];rw[if_neg (by omega)];simp at hn;rw[hn,iO];refine⟨n,rfl,b1,b2,fun h=>?_⟩;have p:=b3 h;simp at p;have hs:e.sz=1+e.names.length+bh e.values:=by cases e;rfl
   exact⟨by have:=p.1.1;omega,(oR e).2 ⟨p.2,p.1.2⟩⟩
def Bo(l:List Val)(hl:l.length<=140737488355328)(hL:∀e∈l,e.Lim):∀(r:Nat)(i:Int),l.length-i.toNat=r->0<=i->i<=l.length->BB (l.length<=8/\bh (l.drop i.toNat)<=520*(l.length-i.toNat)/\∀v∈l.drop i.toNat,tV v) (ai (L10_0 (af pg) ai) [vals l,.int .i64 i]):=by
 intro r
 induction r with
 |zero=>
  intro i hr hi hb;rw[FL10_0];simp only[L10_0];have h1:¬(i<(l.length:Int)):=by omega
  simp[h1];exact⟨_,rfl,fun h=>by simp at h;exact⟨by omega,by rw[G1 (by omega)];simp[bh]⟩⟩
 | succ r IH=>
  intro i hr hi hb;have h5:i<(l.length:Int):=by omega
  have hlt:i.toNat<l.length:=by omega
  rw[FL10_0];simp only[L10_0];by_cases hs:i<9
  ·obtain⟨k,hk,_,_,hq⟩:=t42 _ l[i.toNat] (FZ _) (hL _ (Gs hlt)) 40 6 (by omega) (by omega) (by omega);have h4:=IH (i+1) (by omega) (by omega) (by omega);simp (disch:=omega) [h5,hs,rp,GK l i.toNat hlt,bA,hk];by_cases hk5:40<k
   ·simp[hk5];exact .no
   ·simp[hk5];refine h4.imp fun h=>⟨h.1,?_,fun v hv=>?_⟩
    ·have h6:=h.2.1;rw[show (i+1).toNat=i.toNat+1 by omega]at h6;rw[kp l i.toNat hlt];have h7:(l[i.toNat].sz:Int)<=13*k:=(hq (by omega)).1;omega
    ·rw[Gq hlt]at hv;rcases Gp.1 hv with rfl|hv
     ·exact (hq (by omega)).2
     ·exact h.2.2 v (by rw[show (i+1).toNat=i.toNat+1 by omega];exact hv)
  ·simp[h5,hs];refine⟨_,rfl,fun h=>?_⟩;simp at h;omega
def E1(l:List Val)(hl:l.length<=140737488355328)(hL:∀e∈l,e.Lim):BB (l.length<=8/\bh l<=4160/\∀v∈l,tV v) (af pg 10 [vals l]):=by
 rw[C10];obtain⟨b,hb,h2⟩:=Bo l hl hL l.length 0 rfl (by omega) (by omega);refine⟨b,?_,fun h=>?_⟩
 ·simp[S10,hb]
 ·have:=h2 h
  simp at this;exact⟨this.1,by have:=this.2.1;omega,this.2.2⟩
end Go.Proofs.YtihmmkncokjbaaaGreatDoor
namespace Go.Proofs.YtihmmkncokjbaaaGreatDoor
open Go Go.Av Go.Av.Ap
set_option maxRecDepth 100000
def iw(o:Option Val):AV:=match o with
 |some v=>.tup [v.av,.int .i64 0]
 |none=>lu
def rH(o:Option Val):Ap.Clean (iw o):=fun g=>by cases o<;>simp[iw,lu,cl,di]
theorem rF(h:Hp):dI 81 (.pan gp h)= .ok lu []:=rfl
def uX(t:Ty)(s:aJ)(ht:t.Lim)(hs:s.length<=1000000):∃h',i8 81 54 20 (af pg) [t.av,.str s] []= .ok (iw (e9 t s)) h':=by
 have hV0:=t54 4 (FZ _) s (by omega);have hV:Reads (aZ 4 s) (af pg 54 [.hp 0 0,.int .i64 4] (dh s)):=hV0;have e0:i8 81 54 20 (af pg) [t.av,.str s] []=dI 81 (nP 81 54 20 (af pg) t.av (dh s)):=by
  show (bif bq 2 t.av then _ else _)=_;rw[Ap.iV];rfl
 rw[e0];unfold nP e9;cases hv:aZ 4 s with
 |none=>
  rw[hv]at hV;obtain⟨h',e'⟩:=hV;rw[li e',rF];exact⟨[],rfl⟩
 | some x=>
  obtain⟨v,r⟩:=x;rw[hv]at hV;have e':af pg 54 [.hp 0 0,.int .i64 4] (dh s)= .ok v.av (dh r):=hV;have hsz:=fW 4 s v r hv;have hH:=t20 t v ht (by omega);have c1:∀g:AV->M AV,ae (ui 4 v.av) g (dh r)=g v.av (dh r):=fun g=>by unfold ae ui;rw[iW];rfl
  have c2:∀g:AV->M AV,ae kd g (dh r)=g (.str r) (dh r):=fun g=>rfl;rw[b6 e',c1,c2];simp only[rO,ay];cases hr:r.isEmpty with
  |false=>
   have hne:¬r=[]:=fun e=>by rw[e]at hr;cases hr
   rw[if_neg (fun h=>hne h.1)];exact⟨[],rfl⟩
  | true=>
   have he:r=[]:=Il.1 hr;have hx:(if r=[]/\gb t v=true then some v else none)=if gb t v=true then some v else none:=by simp[he]
   simp only[ap,Gm,hH,aw,hx];cases hh:gb t v with
   |false=>
    simp only[F7,Gl];exact⟨[],rfl⟩
   |true=>
    simp only[Gm];exact⟨dh r,by cases v;rfl⟩
def t19(t:Ty)(s:aJ)(ht:t.Lim)(hs:s.length<=1000000):af pg 19 [t.av,.str s]=M.pure (iw (e9 t s)):=by
 funext h;rw[cW aM (E:=md 81 54 20) rfl];obtain⟨h',e⟩:=uX t s ht hs;have hc:di az [t.av,.str s]=[t.av,.str s]:=by simp[di,cl]
 show eG (i8 81 54 20 (af pg)) [t.av,.str s] h=_;unfold eG;rw[hc,e];show R.ok (ka 6 h' (iw (e9 t s))) h=_;rw[(rH _).frz 6 h'];rfl
def t51(b:Bool):af pg 51 [.bool b]=M.pure (.str (if b=true then gG else eU)):=by
 have h2:af pg 88 [.bool b]=M.pure (.str (if b=true then gG else eU)):=by
  rw[C88];cases b<;>simp[S88,gG,eU]
 rw[C51];simp[S51,h2]
theorem mu:∀l:List aJ,strsOf (l.map AV.str)=some l
 |[]=>rfl
 |s:: l=>by rw[GL,strsOf,mu l];rfl
def t52(l:List aJ)(h1:l.length<=140737488355328)(h2:(bn [44] l).length<=140737488355328):af pg 52 [strs l,.str [44]]=M.pure (.str (bn [44] l)):=by
 rw[cW aM (E:=nC) rfl];unfold strs;simp only[nC,mu,Gk h1,Gk h2,H7,FW];rfl
section
variable (v:Val)
theorem E3:aa T 45 (.ip (ab v.av)) 0=some (.ip ((ab v.av).drop 0)):=by cases v;rfl
theorem Fp:aa T 45 (.ip (ab v.av)) 1=some (.ip ((ab v.av).drop 1)):=by cases v;rfl
theorem Cg:aa T 45 (.ip (ab v.av)) 2=some (.ip ((ab v.av).drop 2)):=by cases v;rfl
theorem Em:aa T 45 (.ip (ab v.av)) 3=some (.ip ((ab v.av).drop 3)):=by cases v;rfl
theorem E5:ak T 3 (.ip ((ab v.av).drop 0))=some (.int .i64 v.kind):=by cases v;rfl
theorem Fq:ak T 3 (.ip ((ab v.av).drop 1))=some (.int .i64 v.n):=by cases v;rfl
theorem Ch:ak T 22 (.ip ((ab v.av).drop 2))=some (strs v.names):=by cases v;rfl
theorem En:ak T 30 (.ip ((ab v.av).drop 3))=some (vals v.values):=by cases v;rfl
theorem sV:ak T 45 (.ip (ab v.av))=some v.av:=by cases v;rfl
end
theorem Bg(a b:Int):ao T .eql 3 (.int .i64 a) (.int .i64 b)=some (.bool (decide (a=b))):=rfl
theorem kB(a b:Int):ao T .lss 3 (.int .i64 a) (.int .i64 b)=some (.bool (decide (a<b))):=rfl
theorem DZ(a b:aJ)(h:a.length+b.length<=4611686018427387904):ao T .add 9 (.str a) (.str b)=some (.str (a++b)):=by
 have e:ao T .add 9 (.str a) (.str b)=if a.length+b.length<=4611686018427387904 then some (.str (a++b))else none:=rfl;rw[e,FY h]
theorem yO(s:aJ):ak T 9 (.ip (ab (.str s)))=some (.str s):=rfl
def bo(n:aJ)(x:Val):aJ:=n++61:: br x
theorem Bq(v:Val)(B:Nat)(hB:B<=1000000)(hl:v.names.length=v.values.length)(h8:v.names.length<=8)(hj:(bn [44] (List.zipWith bo v.names v.values)).length<=B)(hx:∀x∈v.values,af pg 17 [x.av]=M.pure (.str (br x))):∀r k:Nat,v.names.length-k=r->k<=v.names.length->
  ai (L17_0 (af pg) ai) [.ip (ab v.av),strs ((List.zipWith bo v.names v.values).take k),strs v.names,.int .i64 v.names.length,.int .i64 (k:Int)]=M.pure (.str (123:: (bn [44] (List.zipWith bo v.names v.values)++[125]))):=by
 intro r
 induction r with
 |zero=>
  intro k hr hk;have hke:k=v.names.length:=by omega
  subst hke;have h1:¬((v.names.length:Int)<(v.names.length:Int)):=by omega
  have hzl:(List.zipWith bo v.names v.values).length=v.names.length:=by simp[hl]
  have htk:(List.zipWith bo v.names v.values).take v.names.length=List.zipWith bo v.names v.values:=HH (by omega);have hJ:=t52 (List.zipWith bo v.names v.values) (by omega) (by omega);have c1:=DZ [123] (bn [44] (List.zipWith bo v.names v.values)) (by simp only[Ge,GM];omega);have c2:=DZ ([123]++bn [44] (List.zipWith bo v.names v.values)) [125] (by simp only[Gh,Ge,GM];omega);rw[FL17_0,htk];simp only[L17_0,aH,aQ,kB,ay,ap,Gr h1,F7,Gl,hJ,aw,c1,c2];simp
 | succ r IH=>
  intro k hr hk;have hk1:k<v.names.length:=by omega
  have hk2:k<v.values.length:=by omega
  have h1:(k:Int)<(v.names.length:Int):=by omega
  have hix:=rn (l:=v.names) (n:=(k:Int)) (by omega) h1;have hiv:=rp (l:=v.values) (n:=(k:Int)) (by omega) (by omega);rw[Gw,GK v.names k hk1]at hix;rw[Gw,GK v.values k hk2]at hiv;have hz:=hx _ (Gs hk2);have hadd:ao T BinOp.add 3 (.int .i64 (k:Int)) (.int .i64 1)=some (.int .i64 (k+1:Nat)):=by
   have:IntKind.i64.wrap ((k:Int)+1)=((k+1:Nat):Int):=by rw[bA (by omega) (by omega)];omega
   simp[this]
  have hzl:k<(List.zipWith bo v.names v.values).length:=by simp;omega
  have htk:(List.zipWith bo v.names v.values).take (k+1)=(List.zipWith bo v.names v.values).take k++[bo v.names[k] v.values[k]]:=by
   rw[HQ hzl];simp
  have ih:=IH (k+1) (by omega) (by omega);rw[htk]at ih;have hap:cZ T 22 (strs ((List.zipWith bo v.names v.values).take k)) (strs [bo v.names[k] v.values[k]])=some (strs ((List.zipWith bo v.names v.values).take k++[bo v.names[k] v.values[k]])):=Ac (by simp;omega);have hm:bo v.names[k] v.values[k]∈List.zipWith bo v.names v.values:=Hu.2 ⟨k,hzl,by simp⟩;have hpl:=lP hm;rw[FL17_0];generalize v.names[k]=nm at hix hap ih hpl;generalize v.values[k]=x at hiv hz hap ih hpl;have hp2:(bo nm x).length=nm.length+(1+(br x).length):=by unfold bo;simp only[Gh,Ge];omega
  have c1:=DZ nm [61] (by simp only[Ge,GM];omega);have c2:=DZ (nm++[61]) (br x) (by simp only[Gh,Ge,GM];omega);have ep:nm++[61]++br x=bo nm x:=by simp[bo]
  have hsl:ak T 9 (.ip (ab (.str nm)))=some (.str nm):=rfl;simp only[L17_0,aH,aQ,kB,ay,ap,Gk h1,Gm,hix,yO,c1,c2,Em,En,hiv,sV,hz,aw,ep,EO,hap,hadd];exact ih
def t17:∀(N:Nat)(v:Val),SizeOf.sizeOf v<=N->v.sz<=1099511627776->kw v->(br v).length<=1000000->af pg 17 [v.av]=M.pure (.str (br v)):=by
 intro N
 induction N with
 |zero=>intro v h;cases v;simp at h
 | succ N ih=>
  intro v hN hz hi hlen;have hR:=t49 v (by omega);have hib:=(fC v).1 hi;rw[C17,ow];cases hf:bk 4 v with
  | false=>
   rw[hf]at hR;have ht:br v=[]:=by unfold br;rw[if_neg (by simp[hf])]
   rw[ht];have e:S17 (af pg) ai v.av=M.pure (.str []):=by
    simp only[S17,sV,ay,hR,aw,bl,GV,ap,Gm]
   rw[e];exact iP _
  | true=>
   rw[hf]at hR;by_cases h0:v.kind=0
   ·have ht:br v=cm v.n:=by unfold br;rw[FY hf,bG,FY h0]
    have hI:=t50 v.n hib.1.1 hib.1.2;rw[ht];have e:S17 (af pg) ai v.av=M.pure (.str (cm v.n)):=by
     simp only[S17,sV,ay,hR,aw,bl,GA,ap,F7,Gl,E3,E5,Bg,Gk h0,Gm,Fp,Fq,hI]
    rw[e];exact iP _
   ·by_cases h1:v.kind=1
    ·have ht:br v=if v.n=1 then gG else eU:=by unfold br;rw[FY hf,bG,if_neg h0,FY h1]
     have hI:=t51 (decide (v.n=1));simp only[F5]at hI;rw[ht];have e:S17 (af pg) ai v.av=M.pure (.str (if v.n=1 then gG else eU)):=by
      simp only[S17,sV,ay,hR,aw,bl,GA,ap,F7,Gl,E3,E5,Bg,Gr h0,Gk h1,Gm,Fp,Fq,hI]
     rw[e];exact iP _
    ·obtain⟨ht,g1,g2,g3⟩:=xS hf h0 h1;have hj:(bn [44] (List.zipWith bo v.names v.values)).length<=1000000:=by
      have e:(br v).length=(bn [44] (List.zipWith bo v.names v.values)).length+2:=by
       rw[ht];show (123:: (bn [44] (List.zipWith bo v.names v.values)++[125])).length=_;simp
      omega
     have hx:∀x∈v.values,af pg 17 [x.av]=M.pure (.str (br x)):=fun x hx=>by
      obtain⟨i,hi1,rfl⟩:=Hu.1 hx;have hm:bo v.names[i] v.values[i]∈List.zipWith bo v.names v.values:=by
       refine Hu.2 ⟨i,by simp;omega,by simp⟩
      have h4:=lP hm;have h5:(br v.values[i]).length<=(bo v.names[i] v.values[i]).length:=by unfold bo;simp only[Gh,Ge];omega
      exact ih _ (by have:=pe hx;omega) (by have:=Fz hx;omega) (hib.2 _ hx) (by omega)
     have hL:=Bq v 1000000 (by omega) g1 g2 hj hx v.names.length 0 rfl (G4 _);have hL':ai (L17_0 (af pg) ai) [.ip (ab v.av),.sl [],strs v.names,.int .i64 v.names.length,.int .i64 0]=M.pure (.str (123:: (bn [44] (List.zipWith bo v.names v.values)++[125]))):=hL;have ht':br v=123:: (bn [44] (List.zipWith bo v.names v.values)++[125]):=ht;rw[ht'];have e:S17 (af pg) ai v.av=M.pure (.str (123:: (bn [44] (List.zipWith bo v.names v.values)++[125]))):=by
      simp only[S17,sV,ay,hR,aw,bl,GA,ap,F7,Gl,E3,E5,Bg,Gr h0,Gr h1,Cg,Ch,jh,hL']
     rw[e];exact iP _
end Go.Proofs.YtihmmkncokjbaaaGreatDoor
namespace Go.Proofs.YtihmmkncokjbaaaGreatDoor
open Go Go.Av Go.Av.Ap
set_option maxRecDepth 100000
theorem xg(l:List Val)(hl:l.length<=140737488355328)(h:∀v∈l,af pg 21 [v.av,v.av]=M.pure (.bool true)):∀n k:Nat,l.length-k=n->k<=l.length->ai (L14_0 (af pg) ai) [vals l,vals l,.int .i64 k]=M.pure (.bool true)
 |0,k,hn,hk=>by
  have h1:¬((k:Int)<(l.length:Int)):=by omega
  rw[FL14_0];simp[L14_0,h1]
 |n+1,k,hn,hk=>by
  have h1:(k:Int)<(l.length:Int):=by omega
  have hkl:k<l.length:=by omega
  have hiv:=rp (l:=l) (n:=(k:Int)) (by omega) (by omega);rw[Gw,GK l k hkl]at hiv;have hh:=h _ (Gs hkl);have hw:IntKind.i64.wrap ((k:Int)+1)=((k+1:Nat):Int):=by rw[bA (by omega) (by omega)];omega
  have ih:=xg l hl h n (k+1) (by omega) (by omega);generalize l[k]=v at hiv hh;rw[FL14_0];simp[L14_0,h1,hiv,hh,hkl,hw];simpa using ih
def An(l:List Val)(hl:l.length<=140737488355328)(h:∀v∈l,af pg 21 [v.av,v.av]=M.pure (.bool true)):af pg 14 [vals l,vals l]=M.pure (.bool true):=by
 have:=xg l hl h l.length 0 rfl (G4 _)
 rw[C14];simp at this;simp[S14,this]
theorem xi(v:Val)(hn:v.names.length<=140737488355328)(h:af pg 14 [vals v.values,vals v.values]=M.pure (.bool true)):∀n k:Nat,v.names.length-k=n->k<=v.names.length->ai (L21_0 (af pg) ai) [.ip (ab v.av),.ip (ab v.av),.int .i64 k]=M.pure (.bool true)
 |0,k,hr,hk=>by
  have h1:¬((k:Int)<(v.names.length:Int)):=by omega
  have h2:¬(k<v.names.length):=by omega
  rw[FL21_0];simp[L21_0,h1,h2,h]
 |n+1,k,hr,hk=>by
  have h1:(k:Int)<(v.names.length:Int):=by omega
  have hkl:k<v.names.length:=by omega
  have hiv:=rn (l:=v.names) (n:=(k:Int)) (by omega) (by omega);have hw:IntKind.i64.wrap ((k:Int)+1)=((k+1:Nat):Int):=by rw[bA (by omega) (by omega)];omega
  have ih:=xi v hn h n (k+1) (by omega) (by omega);rw[FL21_0];simp[L21_0,h1,hiv,hkl,hw];simpa using ih
def t21:∀(N:Nat)(v:Val),SizeOf.sizeOf v<=N->v.sz<=1099511627776->af pg 21 [v.av,v.av]=M.pure (.bool true):=by
 intro N
 induction N with
 |zero=>intro v h;cases v;simp at h
 |succ N ih=>
  intro v hv hz;have hs:v.sz=1+v.names.length+bh v.values:=by cases v;rfl
  have hlen:=fV v.values;have h1:=An v.values (by omega) fun x hx=>ih x (by have:=pe hx;omega) (by have:=Fz hx;omega);have h2:=xi v (by omega) h1 v.names.length 0 rfl (G4 _);rw[C21];simp at h2;simp[S21,h2]
theorem og:∀(d:Nat)(t:Ty),bL d t=true->cC (d+1) t=cC d t
 |0,t,h=>by cases h
 |d+1,t,h=>by
  rw[cq]at h;simp only[FV,F9]at h;rw[cC,cC];congr 1;exact Hj fun f hf=>og d f.2 (h.2.1 f hf).2
theorem mf:∀(d:Nat)(t:Ty),bL d t=true->bL (d+1) t=true
 |0,t,h=>by cases h
 |d+1,t,h=>by
  rw[cq]at h|-;simp only[FV,F9]at h|-;exact⟨h.1,fun f hf=>⟨(h.2.1 f hf).1,mf d f.2 (h.2.1 f hf).2⟩,h.2.2⟩
def x4{t:Ty}(h:dx t=true){f:dQ}(hf:f∈t.fields):cC 3 f.2=cT f.2:=by
 have h2:=h;rw[show dx t=bL 4 t from rfl,cq]at h2;simp only[FV,F9]at h2;have h3:=(h2.2.1 f hf).2;unfold cT;rw[FY (mf 3 f.2 h3),og 3 f.2 h3]
def tf0(t:Ty):aa T 35 (.ip (ab t.av)) 0=some (.ip ((ab t.av).drop 0)):=by cases t;rfl
def tf1(t:Ty):aa T 35 (.ip (ab t.av)) 1=some (.ip ((ab t.av).drop 1)):=by cases t;rfl
def tl0(t:Ty):ak T 3 (.ip ((ab t.av).drop 0))=some (.int .i64 t.kind):=by cases t;rfl
def tl1(t:Ty):ak T 23 (.ip ((ab t.av).drop 1))=some (cj t.fields):=by cases t;rfl
def ya(t:Ty):ak T 35 (.ip (ab t.av))=some t.av:=by cases t;rfl
def Fe(f:dQ):ak T 37 (.ip (ab (bQ f)))=some (bQ f):=by simp
theorem E9(f:dQ):aa T 37 (.ip (ab (bQ f))) 0=some (.ip ((ab (bQ f)).drop 0)):=rfl
theorem Fa(f:dQ):aa T 37 (.ip (ab (bQ f))) 1=some (.ip ((ab (bQ f)).drop 1)):=rfl
def Fb(f:dQ):ak T 9 (.ip ((ab (bQ f)).drop 0))=some (.str f.1):=by simp
def Fc(f:dQ):ak T 35 (.ip ((ab (bQ f)).drop 1))=some f.2.av:=by simp
def E8(f:dQ):bT 3 (bQ f)=M.pure (bQ f):=by simp
def Br(t:Ty)(hk:t.fields.length<=8)(hx:∀f∈t.fields,af pg 22 [f.2.av]=M.pure (cT f.2).av)(a b c d:AV):∀r k:Nat,t.fields.length-k=r->k<=t.fields.length->
  ai (L22_0 (af pg) ai) [cj t.fields,.int .i64 t.fields.length,.int .i64 (k:Int),a,b,c,d,.int .i64 t.kind,.int .i64 0,strs ((t.fields.take k).map (·.1)),vals ((t.fields.take k).map fun f=>cT f.2)]=M.pure (Val.mk t.kind 0 (t.fields.map (·.1)) (t.fields.map fun f=>cT f.2)).av:=by
 intro r
 induction r with
 |zero=>
  intro k hr hkl;have hke:k=t.fields.length:=by omega
  subst hke;have h1:¬((t.fields.length:Int)<(t.fields.length:Int)):=by omega
  have cn:∀(ns:List aJ)(vs:List Val),aU 4 [] (.agg [.int .i64 t.kind,.int .i64 0,strs ns,vals vs])=M.pure (.agg [.int .i64 t.kind,.int .i64 0,strs ns,vals vs]):=fun _ _=>rfl;rw[FL22_0,Ik];simp only[L22_0,aH,aQ,kB,ay,ap,Gr h1,F7,Gl,cn,aw,Cv];rfl
 | succ r IH=>
  intro k hr hkl;have hk1:k<t.fields.length:=by omega
  have h1:(k:Int)<(t.fields.length:Int):=by omega
  have hix:=tU (l:=t.fields) (n:=(k:Int)) (by omega) h1;rw[Gw,GK t.fields k hk1]at hix;have hz:=hx _ (Gs hk1);have hadd:ao T BinOp.add 3 (.int .i64 (k:Int)) (.int .i64 1)=some (.int .i64 (k+1:Nat)):=by
   have:IntKind.i64.wrap ((k:Int)+1)=((k+1:Nat):Int):=by rw[bA (by omega) (by omega)];omega
   simp[this]
  have ih:=IH (k+1) (by omega) (by omega);rw[HQ hk1,Iq,Iq]at ih;have hap:∀s:aJ,cZ T 22 (strs ((t.fields.take k).map (·.1))) (strs [s])=some (strs ((t.fields.take k).map (·.1)++[s])):=fun s=>Ac (by simp;omega);have hap2:∀v:Val,cZ T 30 (vals ((t.fields.take k).map fun f=>cT f.2)) (vals [v])=some (vals ((t.fields.take k).map (fun f=>cT f.2)++[v])):=fun v=>Ci (by simp;omega);have c1:∀l:List aJ,dJ (strs l)=M.pure (strs l):=fun _=>rfl;have c2:∀l:List Val,dJ (vals l)=M.pure (vals l):=fun _=>rfl;rw[FL22_0];generalize t.fields[k]=f at hix hz ih;simp only[L22_0,aH,aQ,kB,ay,ap,Gk h1,Gm,hix,Fe,E8,aw,E9,Fb,EO,hap,Fa,Fc,hz,e7,BS,hap2,c1,c2,hadd];exact ih
theorem t22:∀(N:Nat)(t:Ty),SizeOf.sizeOf t<=N->t.Lim->af pg 22 [t.av]=M.pure (cT t).av:=by
 intro N
 induction N with
 |zero=>intro t h;cases t;simp at h
 | succ N ih=>
  intro t hN ht;have hR:=t23 t ht;rw[C22,s7];cases hr:dx t with
  | false=>
   rw[hr]at hR;have hz:cT t= .mk 0 0 [] []:=by unfold cT;rw[hr];rfl
   have b0:bW T false 45 []=some (.agg [.int .i64 0,.int .i64 0,.sl [],.sl []]):=rfl;rw[hz];have e:S22 (af pg) ai t.av=M.pure (Val.mk 0 0 [] []).av:=by
    simp only[S22,ya,ay,hR,aw,bl,GV,ap,Gm,b0,Ed,Cv,aH,aQ];rfl
   rw[e];exact gw _
  | true=>
   rw[hr]at hR;have h2:=hr;rw[show dx t=bL 4 t from rfl,cq]at h2;simp only[FV,F5]at h2;have hk:t.fields.length<=8:=by omega
   have hz:cT t= .mk t.kind 0 (t.fields.map (·.1)) (t.fields.map fun f=>cT f.2):=by
    have e:cT t=cC 4 t:=by unfold cT;rw[FY hr]
    rw[e,cC];congr 1;exact Hj fun f hf=>x4 hr hf
   have bb:bW T true 45 [(0,.int .i64 t.kind)]=some (.agg [.int .i64 t.kind,.int .i64 0,.hn,.hn]):=rfl;have cn:aU 4 [2,3] (.agg [.int .i64 t.kind,.int .i64 0,.hn,.hn])=M.pure (.agg [.int .i64 t.kind,.int .i64 0,.hn,.hn]):=rfl;have L:=Br t hk (fun f hf=>ih f.2 (by have:=Aa hf;omega) (ht.kid hf)) (.int .i64 0) (.int .i64 0) (.sl []) (.sl []) t.fields.length 0 rfl (G4 _);have L':ai (L22_0 (af pg) ai) [cj t.fields,.int .i64 t.fields.length,.int .i64 0,.int .i64 0,.int .i64 0,.sl [],.sl [],.int .i64 t.kind,.int .i64 0,.sl [],.sl []]=M.pure (Val.mk t.kind 0 (t.fields.map (·.1)) (t.fields.map fun f=>cT f.2)).av:=L;rw[hz];have e:S22 (af pg) ai t.av=M.pure (Val.mk t.kind 0 (t.fields.map (·.1)) (t.fields.map fun f=>cT f.2)).av:=by
    simp only[S22,ya,ay,hR,aw,bl,GA,ap,F7,Gl,tf0,tl0,bb,cn,tf1,tl1,Ag,Cv,aH,aQ,L']
   rw[e];exact gw _
theorem Fu(a b:Int):ao T .lss 5 (.int .u8 a) (.int .u8 b)=some (.bool (decide (a<b))):=rfl
theorem Ft(a b:Int):ao T .gtr 5 (.int .u8 a) (.int .u8 b)=some (.bool (decide (b<a))):=rfl
theorem Fv(a b:Int):ao T .neq 5 (.int .u8 a) (.int .u8 b)=some (.bool (a != b)):=rfl
theorem Db(a b:aJ):ao T .eql 9 (.str a) (.str b)=some (.bool (a== b)):=rfl
def uh(k0:List AV->M AV)(v:Val)(i:Nat)(hi:i<v.names.length)(hz:v.sz<=1099511627776)(hn:v.names[i]!.length<=1099511627776):∀r j:Nat,v.names[i]!.length-j=r->j<=v.names[i]!.length->
  ai (L18_0 (af pg) ai k0) [.ip (ab v.av),.int .i64 (i:Int),.int .i64 (j:Int)]=if(v.names[i]!.drop j).all dl=true/\v.names[i]! ≠[]then k0 [.ip (ab v.av),.int .i64 (i+1:Nat)]else M.pure (.bool false):=by
 have hs:v.sz=1+v.names.length+bh v.values:=by cases v;rfl
 have hix:=rn (l:=v.names) (n:=(i:Int)) (by omega) (by omega);rw[Gw]at hix;have hadd:ao T BinOp.add 3 (.int .i64 (i:Int)) (.int .i64 1)=some (.int .i64 (i+1:Nat)):=by
  have:IntKind.i64.wrap ((i:Int)+1)=((i+1:Nat):Int):=by rw[bA (by omega) (by omega)];omega
  simp[this]
 generalize v.names[i]! = nm at hix hn |-;intro r
 induction r with
 | zero=>
  intro j hr hj;have hje:j=nm.length:=by omega
  subst hje;have h1:¬((nm.length:Int)<(nm.length:Int)):=by omega
  rw[FL18_0,HP];by_cases he:nm=[]
  ·have hq:(nm== ([]:aJ))=true:=by simp[he]
   rw[if_neg (fun h=>h.2 he)];simp only[L18_0,aH,aQ,Cg,Ch,ay,hix,yO,gy,kB,Gr h1,ap,F7,Gl,Db,hq,Gm]
  ·have hq:(nm== ([]:aJ))=false:=G9.2 he;rw[FY ⟨rfl,he⟩];simp only[L18_0,aH,aQ,Cg,Ch,ay,hix,yO,gy,kB,Gr h1,ap,F7,Gl,Db,hq,hadd]
 | succ r IH=>
  intro j hr hj;have hj1:j<nm.length:=by omega
  have h1:(j:Int)<(nm.length:Int):=by omega
  have hd:nm.drop j=nm[j]:: nm.drop (j+1):=Gq hj1;have hjx:da T 9 (.str nm) (.int .i64 (j:Int))=some (.int .u8 nm[j].toNat):=by
   show (if(j:Int)<0 then none else nm[((j:Int)).toNat]?.map fun b=>AV.int .u8 b.toNat)=_;rw[if_neg (by omega),Gw,Gf hj1];rfl
  have haddj:ao T BinOp.add 3 (.int .i64 (j:Int)) (.int .i64 1)=some (.int .i64 (j+1:Nat)):=by
   have:IntKind.i64.wrap ((j:Int)+1)=((j+1:Nat):Int):=by rw[bA (by omega) (by omega)];omega
   simp[this]
  have ih:=IH (j+1) (by omega) (by omega);rw[FL18_0,hd,GR];generalize nm[j]=c at hjx;have hq:((decide ((c.toNat:Int)<97)||decide ((122:Int)<c.toNat))&&(decide ((c.toNat:Int)<65)||decide ((90:Int)<c.toNat))&&(decide ((c.toNat:Int)<48)||decide ((57:Int)<c.toNat))&&((c.toNat:Int) != 95))= !dl c:=by
   unfold dl;rw[GZ];simp only[FV,GE,F5,bne_iff_ne,GI,Hc,Ho,G6];omega
  simp only[L18_0,aH,aQ,Cg,Ch,ay,hix,yO,gy,kB,Gk h1,ap,Gm,hjx,Fu,Ft,Fv,oI,uB,uC,rZ,uS,xr,aw,hq,haddj,ih];cases dl c with
  |false=>simp
  |true=>simp
def uM(v:Val)(hz:v.sz<=1099511627776)(hn:∀s∈v.names,s.length<=1099511627776)(c:Bool)(hx:ai (L18_1 (af pg) ai) [.ip (ab v.av),.int .i64 0]=M.pure (.bool c)):∀r i:Nat,v.names.length-i=r->i<=v.names.length->
  ai (L18_2 (af pg) ai) [.ip (ab v.av),.int .i64 (i:Int)]=M.pure (.bool ((v.names.drop i).all bX&&c)):=by
 have hs:v.sz=1+v.names.length+bh v.values:=by cases v;rfl
 intro r
 induction r with
 |zero=>
  intro i hr hi;have hie:i=v.names.length:=by omega
  subst hie;have h1:¬((v.names.length:Int)<(v.names.length:Int)):=by omega
  rw[FL18_2,HP];simp only[L18_2,aH,aQ,Cg,Ch,ay,jh,kB,Gr h1,ap,F7,Gl,hx,List.all_nil,Hb]
 | succ r IH=>
  intro i hr hi;have hi1:i<v.names.length:=by omega
  have h1:(i:Int)<(v.names.length:Int):=by omega
  have e1:v.names[i]! = v.names[i]:=GK v.names i hi1;have hC:=uh (ai (L18_2 (af pg) ai)) v i hi1 hz (by rw[e1];exact hn _ (Gs hi1)) v.names[i]!.length 0 rfl (G4 _);have ih:=IH (i+1) (by omega) (by omega);rw[Iv,e1,ih]at hC;have hC':ai (L18_0 (af pg) ai (ai (L18_2 (af pg) ai))) [.ip (ab v.av),.int .i64 (i:Int),.int .i64 0]=_:=hC;rw[FL18_2,Gq hi1,GR];simp only[L18_2,aH,aQ,Cg,Ch,ay,jh,kB,Gk h1,ap,Gm,hC'];have hps:bX v.names[i]=decide (v.names[i].all dl=true/\v.names[i]≠[]):=by
   rw[GZ];simp only[bX,FV,F5];constructor
   ·intro h;exact⟨h.2,fun e=>by rw[e]at h;simp at h⟩
   ·intro h;exact⟨by cases hl:v.names[i]with|nil=>exact absurd hl h.2|cons=>rfl,h.1⟩
  rw[hps];by_cases hp:v.names[i].all dl=true/\v.names[i]≠[]
  ·rw[FY hp,Gk hp,Hb]
  ·rw[if_neg hp,Gr hp,HG,HG]
def wZ(v:Val)(hz:v.sz<=1099511627776)(hx:∀x∈v.values,af pg 18 [x.av]=M.pure (.bool (ct x))):∀r i:Nat,v.values.length-i=r->i<=v.values.length->
  ai (L18_1 (af pg) ai) [.ip (ab v.av),.int .i64 (i:Int)]=M.pure (.bool ((v.values.drop i).all ct)):=by
 have hs:v.sz=1+v.names.length+bh v.values:=by cases v;rfl
 have hlen:=fV v.values;intro r
 induction r with
 |zero=>
  intro i hr hi;have hie:i=v.values.length:=by omega
  subst hie;have h1:¬((v.values.length:Int)<(v.values.length:Int)):=by omega
  rw[FL18_1,HP];simp only[L18_1,aH,aQ,Em,En,ay,rq,kB,Gr h1,ap,F7,Gl,List.all_nil]
 | succ r IH=>
  intro i hr hi;have hi1:i<v.values.length:=by omega
  have h1:(i:Int)<(v.values.length:Int):=by omega
  have hix:=rp (l:=v.values) (n:=(i:Int)) (by omega) h1;rw[Gw,GK v.values i hi1]at hix;have hp:=hx _ (Gs hi1);have hadd:ao T BinOp.add 3 (.int .i64 (i:Int)) (.int .i64 1)=some (.int .i64 (i+1:Nat)):=by
   have:IntKind.i64.wrap ((i:Int)+1)=((i+1:Nat):Int):=by rw[bA (by omega) (by omega)];omega
   simp[this]
  have ih:=IH (i+1) (by omega) (by omega);rw[FL18_1,Gq hi1,GR];generalize v.values[i]=x at hix hp;cases hq:ct x with
  |false=>
   rw[hq]at hp;simp only[L18_1,aH,aQ,Em,En,ay,rq,kB,Gk h1,ap,Gm,hix,sV,hp,aw,bl,GV,HG]
  |true=>
   rw[hq]at hp;simp only[L18_1,aH,aQ,Em,En,ay,rq,kB,Gk h1,ap,Gm,hix,sV,hp,aw,bl,GA,F7,Gl,hadd,ih,Hb]
def t18:∀(N:Nat)(v:Val),SizeOf.sizeOf v<=N->v.sz<=1099511627776->NB 1099511627776 v->af pg 18 [v.av]=M.pure (.bool (ct v)):=by
 intro N
 induction N with
 |zero=>intro v h;cases v;simp at h
 |succ N ih=>
  intro v hN hz hw;obtain⟨w1,w2⟩:=(ju _ v).1 hw;have hk:=wZ v hz (fun x hx=>ih x (by have:=pe hx;omega) (by have:=Fz hx;omega) (w2 x hx)) v.values.length 0 rfl (G4 _);rw[Iv]at hk;have hn:=uM v hz w1 (v.values.all ct) hk v.names.length 0 rfl (G4 _);rw[Iv]at hn;have hn':ai (L18_2 (af pg) ai) [.ip (ab v.av),.int .i64 0]=M.pure (.bool (v.names.all bX&&v.values.all ct)):=hn;rw[C18,ow,jz];simp only[S18,hn'];exact gM _
end Go.Proofs.YtihmmkncokjbaaaGreatDoor
namespace Go.Proofs.YtihmmkncokjbaaaGreatDoor
open Go Go.Av
set_option maxRecDepth 1000000
def sJ:b8 pg 80 8 [] []= .ok (.bool true) []:=by kernel_rfl
def gR:af pg 8 []=M.pure (.bool true):=by
 funext h;have h1:=wg aM sJ (by simp);have e:∀h,af pg 8 [] h=aS (bU (pg.cx (af pg) Tryz.f8.ntmps AU) ai Tryz.f8 (pg.own 8) (di az [])) h:=fun h=>congrFun (aC aM rfl rfl rfl []) h;rw[e]at h1 |-;unfold aS at h1 |-;generalize bU (pg.cx (af pg) Tryz.f8.ntmps AU) ai Tryz.f8 (pg.own 8) (di az []) []=r at h1 |-;cases r with
 |ok v h'=>
  simp only[R.ok.injEq]at h1;show R.ok (ka 6 h' v) h=_;rw[h1.1];rfl
 |pan v h'=>cases h1
 |fail=>cases h1
end Go.Proofs.YtihmmkncokjbaaaGreatDoor
namespace Go.Proofs.YtihmmkncokjbaaaGreatDoor
open Go Go.Av Go.Av.Ap
set_option maxRecDepth 100000
theorem yZ(a b:Int):ao T .neq 39 (.int .i64 a) (.int .i64 b)=some (.bool (a != b)):=rfl
theorem uo(a b:Int):ao T .eql 39 (.int .i64 a) (.int .i64 b)=some (.bool (a== b)):=rfl
theorem sk(a b:aJ):ao T .neq 9 (.str a) (.str b)=some (.bool (a != b)):=rfl
theorem Do(a b:Bool):ao T .neq 4 (.bool a) (.bool b)=some (.bool (a != b)):=rfl
theorem yH(a b:Bool):ao T .eql 4 (.bool a) (.bool b)=some (.bool (a== b)):=rfl
theorem yL(a b:Int):ao T .gtr 3 (.int .i64 a) (.int .i64 b)=some (.bool (decide (b<a))):=rfl
theorem qQ(v:AV):List.replicate 1 v=[v]:=rfl
def ul(v:Val):bT 4 v.av=M.pure v.av:=by simp
theorem Ff:bW T false 45 []=some (Val.mk 0 0 [] []).av:=rfl
def yn(t:Ty):bp T 47 1 [(0,t.av)]=some (vq [t]):=by cases t;rfl
def nR{t:Ty}{s:aJ}{w:Val}(h:e9 t s=some w):iw (e9 t s)= .tup [w.av,.int .i64 0]:=by rw[h];rfl
def nQ{t:Ty}{s:aJ}(h:e9 t s=none):iw (e9 t s)= .tup [(Val.mk 0 0 [] []).av,.int .i64 34]:=by rw[h];rfl
def zi(t:Ty):(cT t).sz<=1099511627776:=by
 by_cases h:dx t=true
 ·have h2:cT t=cC 4 t:=by unfold cT;rw[FY h]
  have h3:=rj 4 t h;rw[h2];exact He h3 (by decide)
 ·have h2:cT t= .mk 0 0 [] []:=by unfold cT;rw[if_neg h]
  rw[h2];decide
theorem xD(t:Ty)(v:Val)(s:aJ)(ht:t.Lim)(hz:v.sz<=1099511627776)(hs:s.length<=400):K4_0 (af pg) ai [.str s,.ip (ab t.av),.ip (ab v.av),.bool true,.str (br v)]=M.pure (.bool true):=by
 have hR:=t19 t s ht (by omega);have hZ:=t22 _ t (FZ _) ht;have hHz:=t20 t (cT t) ht (zi t);rw[xZ]at hHz;have hRt:=t23 t ht;have hHv:=t20 t v ht hz;have c4:((0:Int)== 0)=true:=rfl;have c5:((34:Int)== 0)=false:=rfl;have d2:((0:Int) != 0)=false:=rfl;have d3:((34:Int) != 0)=true:=rfl;have d4:((34:Int) != 34)=false:=rfl;have hbb:(dx t== dx t)=true:=Hs _;have last:(br v != []||!gb t v)=true:=by
  cases hh:gb t v with
  |false=>simp
  |true=>
   have:=zf (nr hh)
   simp[this]
 cases hx:e9 t s with
 | some w=>
  obtain⟨w1,w2,w3⟩:=xB hx;obtain⟨f1,f2⟩:=uY (B:=400) hx hs;have hTw:=t17 _ w (FZ _) (by omega) f1.2 (by rw[w2];omega);rw[w2]at hTw;have hHw:=t20 t w ht (by omega);rw[w1]at hHw;have hPw:=t18 _ w (FZ _) (by omega) (tC (by omega) _ w (FZ _) f1.1);rw[w3]at hPw;rw[nR hx]at hR;have ss:(s != s)=false:=bne_self_eq_false _;cases hxe:(br v != [])with
  |true=>
   simp only[K4_0,aH,aQ,ya,ay,hR,aw,bD,Ga,Gx,ul,uo,yZ,c4,c5,d2,d3,d4,a8,dW,dX,eX,qQ,sV,hHw,bl,GA,GV,hTw,sk,ss,hPw,bK,bH,ap,F7,Gl,Gm,hZ,e7,hHz,hRt,yH,hbb,hxe]
  |false=>
   rw[hxe,Bool.false_or,GI]at last;rw[last]at hHv;simp only[K4_0,aH,aQ,ya,ay,hR,aw,bD,Ga,Gx,ul,uo,yZ,c4,c5,d2,d3,d4,a8,dW,dX,eX,qQ,sV,hHw,bl,GA,GV,hTw,sk,ss,hPw,bK,bH,ap,F7,Gl,Gm,hZ,e7,hHz,hRt,yH,hbb,hxe,hHv]
 | none=>
  rw[nQ hx]at hR;have hA:=t21 _ (Val.mk 0 0 [] []) (FZ _) (by decide);cases hxe:(br v != [])with
  |true=>
   simp only[K4_0,aH,aQ,ya,ay,hR,aw,bD,Ga,Gx,ul,uo,yZ,c4,c5,d2,d3,d4,a8,dW,dX,eX,qQ,sV,hA,Ff,bl,GA,GV,sk,bK,bH,ap,F7,Gl,Gm,hZ,e7,hHz,hRt,yH,hbb,hxe]
  |false=>
   rw[hxe,Bool.false_or,GI]at last;rw[last]at hHv;simp only[K4_0,aH,aQ,ya,ay,hR,aw,bD,Ga,Gx,ul,uo,yZ,c4,c5,d2,d3,d4,a8,dW,dX,eX,qQ,sV,hA,Ff,bl,GA,GV,sk,bK,bH,ap,F7,Gl,Gm,hZ,e7,hHz,hRt,yH,hbb,hxe,hHv]
theorem t4(t:Ty)(v:Val)(s:aJ)(ht:t.Lim)(hv:v.Lim)(hi:kw v):af pg 4 [t.av,v.av,.str s]=M.pure (.bool true):=by
 obtain⟨b1,e1,-⟩:=t16 [t] (by simp) (fun e he=>by rw[GU.1 he];exact ht);obtain⟨b2,e2,q2⟩:=E1 [v] (by simp) (fun e he=>by rw[GU.1 he];exact hv);have hcs:cl az (.str s)= .str s:=rfl;rw[C4,s7,ow,hcs];have e:S4 (af pg) ai t.av v.av (.str s)=M.pure (.bool true):=by
  cases hb:(!b1||!b2||decide ((400:Int)<s.length))with
  |true=>
   simp only[S4,gR,aw,ya,sV,ay,yn,BS,e1,e2,bl,gy,yL,kG,hb,ap,Gm]
  | false=>
   have hb0:=hb;simp only[Hc,H3,G6]at hb;obtain⟨⟨h1,h2⟩,h3⟩:=hb;obtain⟨-,p2,p3⟩:=q2 h2;have hsz:v.sz<=4160:=by simpa [bh]using p2
   have hn60:=p3 v (by simp);have hT:=t17 _ v (FZ _) (by omega) hi (by have:=nY hn60;omega);have hK:=xD t v s ht (by omega) (by omega);have hP:=t18 _ v (FZ _) (by omega) (tC (by omega) _ v (FZ _) (Bw _ v (FZ _) hn60));have hxlen:=nY hn60;have hR:=t19 t (br v) ht (by omega);have hH:=t20 t v ht (by omega);cases hg:(br v != []&&ct v)with
   |false=>
    simp only[S4,gR,aw,ya,sV,ay,yn,BS,e1,e2,bl,gy,yL,kG,hb0,ap,F7,Gl,hT,cQ,sk,hP,kZ,hg,hK]
   | true=>
    simp only[FV,bne_iff_ne]at hg;have hg0:(br v != []&&ct v)=true:=by simp[hg.1,hg.2]
    have ho:=xC (t:=t) hg.1 hg.2 hi;have c4:((0:Int)== 0)=true:=rfl;have c5:((34:Int)== 0)=false:=rfl;have x1:(true != true)=false:=rfl;have x2:(false != false)=false:=rfl;cases hh:gb t v with
    |true=>
     rw[hh,FY rfl]at ho;rw[nR ho]at hR;rw[hh]at hH;have hA:=t21 _ v (FZ _) (by omega);simp only[S4,gR,aw,ya,sV,ay,yn,BS,e1,e2,bl,gy,yL,kG,hb0,ap,F7,Gl,Gm,hT,cQ,sk,hP,kZ,hg0,hR,bD,Ga,Gx,ul,uo,c4,hH,Do,x1,a8,hA,GA,bK,bH,aH,hK]
    |false=>
     rw[hh,if_neg (by decide)]at ho;rw[nQ ho]at hR;rw[hh]at hH;simp only[S4,gR,aw,ya,sV,ay,yn,BS,e1,e2,bl,gy,yL,kG,hb0,ap,F7,Gl,Gm,hT,cQ,sk,hP,kZ,hg0,hR,bD,Ga,Gx,ul,uo,c5,hH,Do,x2,a8,dW,dX,eX,qQ,GA,bK,bH,aH,hK]
 rw[e];exact gM _
end Go.Proofs.YtihmmkncokjbaaaGreatDoor
namespace Go.Proofs.YtihmmkncokjbaaaGreatDoor.stateBack
open Go Go.Av Go.Av.Ap Go.ChangeShapes Go.WideShapes Go.ChangeAt Go.RowKit Go.Joins Go.Deep
set_option maxRecDepth 1000000
def kids:Kids Tryz.prog (· < Tryz.prog.types.size):=kids_rows (by kernel_rfl) (by kernel_rfl)
def qZ:∀t e,t<Tryz.prog.types.size->Tryz.prog.underlying t=some (.slice e)->0<Tryz.prog.cellsOf e:=slices_full_of Tryz.prog (by kernel_rfl)
def wm(H:Type)(enc:TypeId×Value->H)(W:World)(base:Nat)(args:Array Value)(ds gs:List (DataW H))(before:List MemPlace)(hval:∀(j:Nat) t v,Tryz.f4.params[j]? = some t->args[j]? = some v->Value.okWide Tryz.prog W .any base t v)(hW:DataW.Whole enc Tryz.prog Tryz.f4.params.toList Rows.stateBackSpec.vars false W args.toList ds gs before)(hz:(DataW.weightsEach Tryz.prog (Tryz.f4.params.toList++Rows.stateBackSpec.plain.varTypes Tryz.prog) (ds++gs)).all (· <=reachBytes)=true)(hL:laidMetH Tryz.prog Rows.stateBackRow.laid W)(hS:W.ShapedOpen Tryz.prog):
  Calls Tryz.prog 4 args W fun e W'=>∃v,e= .returned v/\Rows.stateBackSpec.post enc Tryz.prog Tryz.f4 false true false false W args v W':=by
 have hW':=hW;obtain⟨p,q,hA0,hV,rfl,hfz,hnd⟩:=hW;have hA:DataW.TrodAll enc Tryz.prog W 0 (fun _=>true) true Tryz.f4.params.toList args.toList ds p:=hA0;have hA1:=hA;rw[Tryz.params4]at hA hval hz;obtain⟨v0,vs0,d0,ds0,p0,q0,ha0,rfl,rfl,h0,r0⟩:=trodAll_cons hA;obtain⟨v1,vs1,d1,ds1,p1,q1,ha1,rfl,rfl,h1,r1⟩:=trodAll_cons r0;obtain⟨v2,vs2,d2,ds2,p2,q2,ha2,rfl,rfl,h2,r2⟩:=trodAll_cons r1;obtain⟨hnil,rfl,rfl⟩:=trodAll_nil r2;subst hnil;subst ha2;subst ha1;obtain rfl:args= #[v0,v1,v2]:=by cases args;simp_all
 obtain⟨rfl,rfl⟩:=trodVars_none hV;obtain⟨x0,k0,o0⟩:=lg (fun N=>z8 N) (fun a=>rfl) Tryz.underlying35 (hval 0 35 v0 rfl rfl) h0 (il hz (j:=0) rfl rfl);obtain⟨x1,k1,o1⟩:=lg (f:=Val.av) (fun N=>tM N) (fun a=>by cases a;rfl) Tryz.underlying45 (hval 1 45 v1 rfl rfl) h1 (il hz (j:=1) rfl rfl);obtain⟨x2,k2,o2⟩:=yj (fun N=>sC Tryz.underlying9) Tryz.underlying9 (hval 2 9 v2 rfl rfl) h2 (il hz (j:=2) rfl rfl);clear hA0;simp only[It]at hW' hA1;have hlt:=hW'.lt;have hv:aP (gV W) [] [x0.av,x1.av,.str x2] [v0,v1,v2]:=by
  simp only[aP];exact⟨_,_,rfl,k0,_,_,rfl,k1,_,_,rfl,k2,rfl⟩
 refine (uI ET aM (Bj hL hS) hv (by rw[t4 x0 x1 x2 o0 o1.1 o1.2];rfl)).mono fun e W' ⟨he,hb⟩=>?_;subst he;exact⟨_,rfl,mM (pv:=[]) hW' (fun _ _ _=>trodAll_cons_mk (shut_bool Tryz.underlying4 _) trodAll_mk0) (fun sp hsp=>
   rx kids qZ (by rw[Tryz.params4];decide +kernel) hA1 hlt hb sp hsp) (fun _ _=>rfl) (by simp)
  hb (ok_one (by kernel_rfl) rfl (okWide_bool_mk Tryz.underlying4 _))⟩
def reads(os:Os){H:Type}(enc:TypeId×Value->H):∃ds places,DataW.whole enc Tryz.prog ((jr os).forCall (fun _ _=>0) ⟨#[],#[.agg #[.int .i64 0,.slice none 0 0],.agg #[.int .i64 0,.int .i64 0,.slice none 0 0,.slice none 0 0],.string ⟨#[]⟩],[]⟩).memory Tryz.f4.params.toList Rows.stateBackSpec.vars false #[.agg #[.int .i64 0,.slice none 0 0],.agg #[.int .i64 0,.int .i64 0,.slice none 0 0,.slice none 0 0],.string ⟨#[]⟩].toList 8=some (ds,[],places):=
 ⟨[.agg [.lit (.int .i64 0),.nil],.agg [.lit (.int .i64 0),.lit (.int .i64 0),.nil,.nil],.lit (.string [])],[],by kernel_rfl⟩
def lifted(os:Os)(started:os.Started)(H:Type)(enc:TypeId×Value->H)(F:Stop.Interp):
  ReturnsInHanded {} Tryz.checked os 4 .any ((OpenSpec.ofChange Rows.stateBackSpec).preRow enc Tryz.prog Tryz.f4 Rows.stateBackRow.domain false Rows.stateBackRow.laid) (((OpenSpec.ofChange Rows.stateBackSpec).at F).post enc Tryz.prog Tryz.f4 false true false false):=by
 obtain⟨ds,places,hx⟩:=reads os enc;refine returnsInHanded_of_row (C:=Tryz.checked) (s:=OpenSpec.ofChange Rows.stateBackSpec) EX started (by kernel_rfl) Tryz.func4
  (witness_row_atRef (enc:=enc) (C:=Tryz.checked) false (jr os) #[.agg #[.int .i64 0,.slice none 0 0],.agg #[.int .i64 0,.int .i64 0,.slice none 0 0,.slice none 0 0],.string ⟨#[]⟩] rfl (by kernel_rfl) (by kernel_rfl) (by kernel_rfl)
   (OpenSpec.preRow_of_cond 8 hx (by kernel_rfl) (fun k hk=>by cases hk) (by kernel_rfl) (xa os _))) ?_
 intro W base args ds gs before hval hW _ _ hz hL hS _;exact wm H enc W base args ds gs before hval hW hz hL hS
end Go.Proofs.YtihmmkncokjbaaaGreatDoor.stateBack
