/- What the functions compute, part 5. Conditions: bounds. -/
import Derived.Test.YtihmmkncokjbaaaGreatDoorTd
import Derived.Lib.SmallJoins
set_option linter.defProp false
set_option linter.unusedSimpArgs false
set_option linter.unusedVariables false
namespace Go.Proofs.YtihmmkncokjbaaaGreatDoor
open Go Go.Av Go.Av.Ap
set_option maxRecDepth 100000
def Co(Q:Prop)(most:Int)(m:M AV):Prop:=∃n,m=aw (.int .i64 n)/\1<=n/\n<=most+1/\(n<=most->Q)
def oX(Q:Int->Prop)(most:Int)(m:M AV):Prop:=∃n,m=aw (.int .i64 n)/\1<=n/\n<=most+1/\(n<=most->Q n)
def BB(P:Prop)(m:M AV):Prop:=∃b,m=aw (.bool b)/\(b=true->P)
def BB.no{P:Prop}:BB P (aw (.bool false)):=⟨false,rfl,fun h=>by cases h⟩
def BB.imp{P Q:Prop}{m:M AV}(h:BB P m)(f:P->Q):BB Q m:=by
 obtain⟨b,h1,h2⟩:=h;exact⟨b,h1,fun e=>f (h2 e)⟩
def BR{e x:Val}(h:x∈e.values):SizeOf.sizeOf x<SizeOf.sizeOf e:=by
 cases e with
 |mk k n ns vs=>
  have:=HP h
  simp only[Val.mk.sizeOf_spec];simp only[Val.values]at this;omega
def sF(e:Ty):Prop:=∀most depth:Int,0<=most->most<=1099511627776->depth<=1099511627776->Co True most (ai pg 48 [e.av,.int .i64 most,.int .i64 depth])
def Bl(e:Ty)(hL:e.Lim)(ih:∀x∈e.fields,sF x.2)(most depth:Int)(h0:0<=most)(h1:most<=1099511627776)(h2:depth<=1099511627776)(h3:1<=depth):
  ∀(r:Nat)(n i:Int),e.fields.length-i.toNat=r->0<=i->i<=e.fields.length->1<=n->n<=most+1->Co True most (au (L48_0 (ai pg) au) [.int .i64 most,.int .i64 depth,.ip (ae e.av),.int .i64 n,.int .i64 i]):=by
 intro r
 induction r with
 |zero=>
  intro n i hr hi hb hn hm;rw[FL48_0];simp only[L48_0];have h1:¬(i<(e.fields.length:Int)):=by omega
  simp[h1];exact⟨n,rfl,hn,hm,fun _=>trivial⟩
 | succ r IH=>
  intro n i hr hi hb hn hm;have hlen:=hL.len;have h5:i<(e.fields.length:Int):=by omega
  have hlt:i.toNat<e.fields.length:=by omega
  rw[FL48_0];simp only[L48_0];by_cases hs:n<=most
  ·by_cases h60:(60:Int)<(e.fields[i.toNat].1.length:Int)
   ·simp (disch:=omega) [h5,hs,oV,G1 e.fields i.toNat hlt,bR,h60];exact⟨_,rfl,by omega,by omega,fun _=>trivial⟩
   ·obtain⟨k,hk,hk1,hk2,_⟩:=ih e.fields[i.toNat] (GC hlt) (most-n) (depth-1) (by omega) (by omega) (by omega);have h4:=IH (n+k) (i+1) (by omega) (by omega) (by omega) (by omega) (by omega);simp (disch:=omega) [h5,hs,oV,G1 e.fields i.toNat hlt,bR,hk,h60];simpa using h4
  ·simp[h5,hs];exact⟨n,rfl,hn,hm,fun _=>trivial⟩
def t48:∀(N:Nat)(e:Ty),SizeOf.sizeOf e<=N->e.Lim->sF e:=by
 intro N
 induction N with
 |zero=>intro e he;cases e;simp at he
 | succ N ih=>
  intro e he hL most depth h0 h1 h2;rw[C48];have h4:1<=depth->_:=fun h3=>Bl e hL (fun x hx=>ih x.2 (by have:=Ee hx;omega) (hL.kid hx)) most depth h0 h1 h2 h3 e.fields.length 1 0 rfl (by omega) (by omega) (by omega) (by omega);simp[S48];split
  ·rw[bR (by omega) (by omega),gz];exact⟨_,rfl,by omega,by omega,fun _=>trivial⟩
  ·obtain⟨n,hn,b⟩:=h4 (by omega);simp at hn;rw[hn,gz];exact⟨n,rfl,b⟩
def Bj(l:List Ty)(hl:l.length<=140737488355328)(hL:∀e∈l,e.Lim):∀(r:Nat)(i:Int),l.length-i.toNat=r->0<=i->i<=l.length->BB True (au (L16_0 (ai pg) au) [uN l,.int .i64 i]):=by
 intro r
 induction r with
 |zero=>
  intro i hr hi hb;rw[FL16_0];simp only[L16_0];have h1:¬(i<(l.length:Int)):=by omega
  simp[h1];exact⟨_,rfl,fun _=>trivial⟩
 |succ r IH=>
  intro i hr hi hb;have h5:i<(l.length:Int):=by omega
  have hlt:i.toNat<l.length:=by omega
  rw[FL16_0];simp only[L16_0];obtain⟨k,hk,_⟩:=t48 _ l[i.toNat] (Ga _) (hL _ (GC hlt)) 40 6 (by omega) (by omega) (by omega);have h4:=IH (i+1) (by omega) (by omega) (by omega);simp (disch:=omega) [h5,EL,G1 l i.toNat hlt,bR,hk];by_cases hk5:40<k
  ·simp[hk5];exact .no
  ·simp[hk5];exact h4
def t16(l:List Ty)(hl:l.length<=140737488355328)(hL:∀e∈l,e.Lim):BB True (ai pg 16 [uN l]):=by
 rw[C16];obtain⟨b,hb,h2⟩:=Bj l hl hL l.length 0 rfl (by omega) (by omega);refine⟨b,?_,h2⟩;simp[S16,hb]
def sH(v:Val):Prop:=∀most depth:Int,0<=most->most<=1099511627776->depth<=1099511627776->oX (fun n=>(v.sz:Int)<=13*n/\xB v) most (ai pg 42 [v.av,.int .i64 most,.int .i64 depth])
def kw(l:List Val)(i:Nat)(h:i<l.length):cN (l.drop i)=l[i].sz+cN (l.drop (i+1)):=by
 rw[GA h];rfl
def yN(e:Val)(hL:e.Lim)(ih:∀x∈e.values,sH x)(most depth:Int)(h0:0<=most)(h1:most<=1099511627776)(h2:depth<=1099511627776)(h3:1<=depth):
  ∀(r:Nat)(n i:Int),e.values.length-i.toNat=r->0<=i->i<=e.values.length->1<=n->n<=most+1->oX (fun k=>(cN (e.values.drop i.toNat):Int)<=13*(k-n)/\∀x∈e.values.drop i.toNat,xB x) most (au (L42_0 (ai pg) au) [.int .i64 most,.int .i64 depth,.ip (ae e.av),.int .i64 n,.int .i64 i]):=by
 intro r
 induction r with
 |zero=>
  intro n i hr hi hb hn hm;rw[FL42_0];simp only[L42_0];have h1:¬(i<(e.values.length:Int)):=by omega
  simp[h1];exact⟨n,rfl,hn,hm,fun h=>by rw[G0 (by omega)];simp[cN]⟩
 | succ r IH=>
  intro n i hr hi hb hn hm;have hlen:=hL.len;have h5:i<(e.values.length:Int):=by omega
  have hlt:i.toNat<e.values.length:=by omega
  rw[FL42_0];simp only[L42_0];by_cases hs:n<=most
  ·obtain⟨k,hk,hk1,hk2,hk3⟩:=ih e.values[i.toNat] (GC hlt) (most-n) (depth-1) (by omega) (by omega) (by omega);obtain⟨n',q1,q2,q3,q4⟩:=IH (n+k) (i+1) (by omega) (by omega) (by omega) (by omega) (by omega);rw[show (i+1).toNat=i.toNat+1 by omega]at q4;have hd:=kw e.values i.toNat hlt;have h4:oX (fun k=>(cN (e.values.drop i.toNat):Int)<=13*(k-n)/\∀x∈e.values.drop i.toNat,xB x) most (au (L42_0 (ai pg) au) [.int .i64 most,.int .i64 depth,.ip (ae e.av),.int .i64 (n+k),.int .i64 (i+1)]):=by
    by_cases hk4:k<=most-n
    ·refine⟨n',q1,q2,q3,fun h=>?_⟩;have p1:=q4 h;have p2:=hk3 hk4;refine⟨?_,fun x hx=>?_⟩
     ·have:=p1.1
      have:=p2.1
      show (cN (e.values.drop i.toNat):Int)<=13*(n'-n);omega
     ·rw[GA hlt]at hx;rcases Gt.1 hx with rfl|hx
      ·exact p2.2
      ·exact p1.2 x hx
    ·have hstop:au (L42_0 (ai pg) au) [.int .i64 most,.int .i64 depth,.ip (ae e.av),.int .i64 (n+k),.int .i64 (i+1)]=aw (.int .i64 (n+k)):=by
      rw[FL42_0];simp only[L42_0];have h6:¬(n+k<=most):=by omega
      simp[h6]
     exact⟨n+k,hstop,by omega,by omega,fun h=>by omega⟩
   simp (disch:=omega) [h5,hs,xJ,G1 e.values i.toNat hlt,bR,hk];simpa using h4
  ·simp[h5,hs];exact⟨n,rfl,hn,hm,fun h=>absurd h hs⟩
def yO(e:Val)(hL:e.Lim)(h12:e.names.length<=12)(most depth:Int)(h0:0<=most)(h1:most<=1099511627776)(Q:Int->Prop)(h:oX Q most (au (L42_0 (ai pg) au) [.int .i64 most,.int .i64 depth,.ip (ae e.av),.int .i64 1,.int .i64 0])):
  ∀(r:Nat)(i:Int),e.names.length-i.toNat=r->0<=i->i<=e.names.length->oX (fun k=>Q k/\∀s∈e.names.drop i.toNat,s.length<=60) most (au (L42_1 (ai pg) au) [.int .i64 most,.int .i64 depth,.ip (ae e.av),.int .i64 1,.int .i64 i]):=by
 intro r
 induction r with
 |zero=>
  intro i hr hi hb;rw[FL42_1];simp only[L42_1];have h1:¬(i<(e.names.length:Int)):=by omega
  obtain⟨n,p1,p2,p3,p4⟩:=h;simp[h1];exact⟨n,by simpa using p1,p2,p3,fun h=>⟨p4 h,fun s hs=>by rw[G0 (by omega)]at hs;cases hs⟩⟩
 | succ r IH=>
  intro i hr hi hb;have h5:i<(e.names.length:Int):=by omega
  have hlt:i.toNat<e.names.length:=by omega
  have h4:=IH (i+1) (by omega) (by omega) (by omega);rw[FL42_1];simp only[L42_1];by_cases h60:(60:Int)<(e.names[i.toNat].length:Int)
  ·simp (disch:=omega) [h5,xI,G1 e.names i.toNat hlt,bR,h60];exact⟨_,rfl,by omega,by omega,fun h=>by omega⟩
  ·simp (disch:=omega) [h5,xI,G1 e.names i.toNat hlt,bR,h60];obtain⟨n,p1,p2,p3,p4⟩:=h4;refine⟨n,by simpa using p1,p2,p3,fun h=>⟨(p4 h).1,fun s hs=>?_⟩⟩;rw[GA hlt]at hs;rcases Gt.1 hs with rfl|hs
   ·omega
   ·exact (p4 h).2 s (by rw[show (i+1).toNat=i.toNat+1 by omega];exact hs)
def t42:∀(N:Nat)(e:Val),SizeOf.sizeOf e<=N->e.Lim->sH e:=by
 intro N
 induction N with
 |zero=>intro e he;cases e;simp at he
 | succ N ih=>
  intro e he hL most depth h0 h1 h2;rw[C42];by_cases hq:depth<1\/12<e.names.length
  ·simp[S42];rw[Gg (by omega),bR (by omega) (by omega),gz];exact⟨_,rfl,by omega,by omega,fun h=>by omega⟩
  ·have h4:=yN e hL (fun x hx=>ih x (by have:=BR hx;omega) (hL.kid hx)) most depth h0 h1 h2 (by omega) e.values.length 1 0 rfl (by omega) (by omega) (by omega) (by omega);obtain⟨n,hn,b1,b2,b3⟩:=yO e hL (by omega) most depth h0 h1 _ h4 e.names.length 0 rfl (by omega) (by omega);simp[S42];rw[if_neg (by omega)];simp at hn;rw[hn,gz];refine⟨n,rfl,b1,b2,fun h=>?_⟩;have p:=b3 h;simp at p;have hs:e.sz=1+e.names.length+cN e.values:=by cases e;rfl
   exact⟨by have:=p.1.1;omega,(yR e).2 ⟨p.2,p.1.2⟩⟩
def Bi(l:List Val)(hl:l.length<=140737488355328)(hL:∀e∈l,e.Lim):∀(r:Nat)(i:Int),l.length-i.toNat=r->0<=i->i<=l.length->BB (l.length<=8/\cN (l.drop i.toNat)<=520*(l.length-i.toNat)/\∀v∈l.drop i.toNat,xB v) (au (L10_0 (ai pg) au) [vals l,.int .i64 i]):=by
 intro r
 induction r with
 |zero=>
  intro i hr hi hb;rw[FL10_0];simp only[L10_0];have h1:¬(i<(l.length:Int)):=by omega
  simp[h1];exact⟨_,rfl,fun h=>by simp at h;exact⟨by omega,by rw[G0 (by omega)];simp[cN]⟩⟩
 | succ r IH=>
  intro i hr hi hb;have h5:i<(l.length:Int):=by omega
  have hlt:i.toNat<l.length:=by omega
  rw[FL10_0];simp only[L10_0];by_cases hs:i<9
  ·obtain⟨k,hk,_,_,hq⟩:=t42 _ l[i.toNat] (Ga _) (hL _ (GC hlt)) 40 6 (by omega) (by omega) (by omega);have h4:=IH (i+1) (by omega) (by omega) (by omega);simp (disch:=omega) [h5,hs,xJ,G1 l i.toNat hlt,bR,hk];by_cases hk5:40<k
   ·simp[hk5];exact .no
   ·simp[hk5];refine h4.imp fun h=>⟨h.1,?_,fun v hv=>?_⟩
    ·have h6:=h.2.1;rw[show (i+1).toNat=i.toNat+1 by omega]at h6;rw[kw l i.toNat hlt];have h7:(l[i.toNat].sz:Int)<=13*k:=(hq (by omega)).1;omega
    ·rw[GA hlt]at hv;rcases Gt.1 hv with rfl|hv
     ·exact (hq (by omega)).2
     ·exact h.2.2 v (by rw[show (i+1).toNat=i.toNat+1 by omega];exact hv)
  ·simp[h5,hs];refine⟨_,rfl,fun h=>?_⟩;simp at h;omega
def Fq(l:List Val)(hl:l.length<=140737488355328)(hL:∀e∈l,e.Lim):BB (l.length<=8/\cN l<=4160/\∀v∈l,xB v) (ai pg 10 [vals l]):=by
 rw[C10];obtain⟨b,hb,h2⟩:=Bi l hl hL l.length 0 rfl (by omega) (by omega);refine⟨b,?_,fun h=>?_⟩
 ·simp[S10,hb]
 ·have:=h2 h
  simp at this;exact⟨this.1,by have:=this.2.1;omega,this.2.2⟩
end Go.Proofs.YtihmmkncokjbaaaGreatDoor
namespace Go.Proofs.YtihmmkncokjbaaaGreatDoor
open Go Go.Av
set_option maxRecDepth 1000000
def sg:ca pg 80 8 [] []= .ok (.bool true) []:=by kernel_rfl
def fy:ai pg 8 []=aw (.bool true):=by
 funext h;have h1:=vP aW sg (by simp);have e:∀h,ai pg 8 [] h=aX (bN (pg.cx (ai pg) Tryz.f8.ntmps AO) au Tryz.f8 (pg.own 8) (cU aB [])) h:=fun h=>congrFun (aD aW rfl rfl rfl []) h;rw[e]at h1 |-;unfold aX at h1 |-;generalize bN (pg.cx (ai pg) Tryz.f8.ntmps AO) au Tryz.f8 (pg.own 8) (cU aB []) []=r at h1 |-;cases r with
 |ok v h'=>
  simp only[R.ok.injEq]at h1;show R.ok (gO 6 h' v) h=_;rw[h1.1];rfl
 |pan v h'=>cases h1
 |fail=>cases h1
end Go.Proofs.YtihmmkncokjbaaaGreatDoor
namespace Go.Proofs.YtihmmkncokjbaaaGreatDoor
open Go Go.Av Go.Av.Ap
set_option maxRecDepth 100000
theorem zi(a b:Bool):az T .eql 4 (.bool a) (.bool b)=some (.bool (a== b)):=rfl
def xx(a b:Ty):bm T 47 2 [(0,a.av),(1,b.av)]=some (uN [a,b]):=by cases a;cases b;rfl
def xy(v:Val):bm T 30 1 [(0,v.av)]=some (vals [v]):=by cases v;rfl
def Eh(v:Val):am T 45 (.ip (ae v.av))=some v.av:=by cases v;rfl
def t6(a b:Ty)(v:Val)(ha:a.Lim)(hb:b.Lim)(hv:v.Lim):ai pg 6 [a.av,b.av,v.av]=aw (.bool true):=by
 obtain⟨b1,e1,-⟩:=t16 [a,b] (by simp) (fun e he=>by
  simp only[Gt,List.not_mem_nil,or_false]at he;rcases he with rfl|rfl
  ·exact ha
  ·exact hb)
 obtain⟨b2,e2,q2⟩:=Fq [v] (by simp) (fun e he=>by rw[Hs.1 he];exact hv);rw[C6,jY,jY,vS]
 have e:S6 (ai pg) au a.av b.av v.av=aw (.bool true):=by
  cases hg:(!b1||!b2)with
  |true=>simp only[S6,fy,aO,uO,Eh,aR,xx,xy,e1,e2,iK,kD,hg,aH,GP]
  | false=>
   have hg0:=hg;simp only[Ht,H1]at hg;obtain⟨-,p2,-⟩:=q2 hg.2;have hsz:v.sz<=1099511627776:=by
    have:v.sz<=4160:=by simpa [cN]using p2
    omega
   have hA:=t20 a v ha hsz;have hB:=t20 b v hb hsz;have hS:=t35 a b ha hb;have hM:=t36 a b ha hb;have hJ:=t37 a b ha hb;have hsub:su a b=true->dn a v=true->dn b v=true:=fun h1 h2=>xo h1 h2;have hm:∀m,eN a b=some m->dn m v=(dn a v&&dn b v)/\m.Lim:=fun m h=>⟨wL h v,fun n=>by
    unfold eN at h;split at h
    ·split at h
     ·split at h
      ·rename_i hr;cases h;exact eQ 4 _ hr n
      ·cases h
     ·cases h
    ·cases h⟩
   have hj:∀u,nj a b=some u->((dn a v=true\/dn b v=true)->dn u v=true)/\u.Lim:=fun u h=>by
    unfold nj at h;split at h
    ·rename_i hr;rw[F8]at hr;exact⟨um hr.1 h,fun n=>eQ 4 _ (mj 4 a b u hr.1 h) n⟩
    ·cases h
   generalize dn a v=x at *;generalize dn b v=y at *;generalize su a b=s at *;have hj2:∀u,nj a b=some u->ai pg 20 [u.av,v.av]=aw (.bool (dn u v)):=fun u h=>t20 u v (hj u h).2 hsz;have hm2:∀m,eN a b=some m->ai pg 20 [m.av,v.av]=aw (.bool (x&&y)):=fun m h=>by rw[<- (hm m h).1];exact t20 m v (hm m h).2 hsz
   have head:∀(mo jo:Option Ty),eN a b=mo->nj a b=jo->S6 (ai pg) au a.av b.av v.av=aw (.bool true):=by
    intro mo jo hM0 hJ0;rw[hM0]at hM;rw[hJ0]at hJ;cases mo with
    | none=>
     cases jo with
     | none=>
      cases x<;>cases y<;>cases s<;>first
       |(simp only[S6,fy,aO,uO,Eh,aR,xx,xy,e1,e2,iK,kD,hg0,aH,Gq,GH,hA,hB,hS,hM,hJ,pairT,kE,kF,Cn,bI,eD,fj,eJ,List.replicate,cw,cF,bc,bj,G3,Hj,GP,zi];done)
       |(simp at hsub)
     | some u=>
      have hu:=hj2 u hJ0;have hu1:=(hj u hJ0).1;generalize dn u v=z at hu hu1;cases x<;>cases y<;>cases s<;>cases z<;>first
       |(simp only[S6,fy,aO,uO,Eh,aR,xx,xy,e1,e2,iK,kD,hg0,aH,Gq,GH,hA,hB,hS,hM,hJ,hu,pairT,kE,kF,Cn,bI,eD,fj,eJ,List.replicate,cw,cF,bc,bj,G3,Hj,GP,zi];done)
       |(simp at hsub;done)
       |(simp at hu1;done)
    | some m=>
     have hmm:=hm2 m hM0;cases jo with
     | none=>
      cases x<;>cases y<;>cases s<;>first
       |(simp only[S6,fy,aO,uO,Eh,aR,xx,xy,e1,e2,iK,kD,hg0,aH,Gq,GH,hA,hB,hS,hM,hJ,hmm,pairT,kE,kF,Cn,bI,eD,fj,eJ,List.replicate,cw,cF,bc,bj,G3,Hj,Iy,HU,H5,HC,IY,HG,GP,zi];done)
       |(simp at hsub)
     | some u=>
      have hu:=hj2 u hJ0;have hu1:=(hj u hJ0).1;generalize dn u v=z at hu hu1;cases x<;>cases y<;>cases s<;>cases z<;>first
       |(simp only[S6,fy,aO,uO,Eh,aR,xx,xy,e1,e2,iK,kD,hg0,aH,Gq,GH,hA,hB,hS,hM,hJ,hu,hmm,pairT,kE,kF,Cn,bI,eD,fj,eJ,List.replicate,cw,cF,bc,bj,G3,Hj,Iy,HU,H5,HC,IY,HG,GP,zi];done)
       |(simp at hsub;done)
       |(simp at hu1;done)
   exact head _ _ rfl rfl
 rw[e];exact ni true
end Go.Proofs.YtihmmkncokjbaaaGreatDoor
namespace Go.Proofs.YtihmmkncokjbaaaGreatDoor.stateWidens
open Go Go.Av Go.Av.Ap Go.ChangeShapes Go.WideShapes Go.ChangeAt Go.RowKit Go.Joins Go.Deep
set_option maxRecDepth 1000000
def kids:Kids Tryz.prog (· < Tryz.prog.types.size):=kids_rows (by kernel_rfl) (by kernel_rfl)
def qH:∀t e,t<Tryz.prog.types.size->Tryz.prog.underlying t=some (.slice e)->0<Tryz.prog.cellsOf e:=slices_full_of Tryz.prog (by kernel_rfl)
def vU(H:Type)(enc:TypeId×Value->H)(W:World)(base:Nat)(args:Array Value)(ds gs:List (DataW H))(before:List MemPlace)(hval:∀(j:Nat) t v,Tryz.f6.params[j]? = some t->args[j]? = some v->Value.okWide Tryz.prog W .any base t v)(hW:DataW.Whole enc Tryz.prog Tryz.f6.params.toList Rows.stateWidensSpec.vars false W args.toList ds gs before)(hz:(DataW.weightsEach Tryz.prog (Tryz.f6.params.toList++Rows.stateWidensSpec.plain.varTypes Tryz.prog) (ds++gs)).all (· <=reachBytes)=true)(hL:laidMetH Tryz.prog Rows.stateWidensRow.laid W)(hS:W.ShapedOpen Tryz.prog):
  Calls Tryz.prog 6 args W fun e W'=>∃v,e= .returned v/\Rows.stateWidensSpec.post enc Tryz.prog Tryz.f6 false true false false W args v W':=by
 have hW':=hW;obtain⟨p,q,hA0,hV,rfl,hfz,hnd⟩:=hW;have hA:DataW.TrodAll enc Tryz.prog W 0 (fun _=>true) true Tryz.f6.params.toList args.toList ds p:=hA0;have hA1:=hA;rw[Tryz.params6]at hA hval hz;obtain⟨v0,vs0,d0,ds0,p0,q0,ha0,rfl,rfl,h0,r0⟩:=trodAll_cons hA;obtain⟨v1,vs1,d1,ds1,p1,q1,ha1,rfl,rfl,h1,r1⟩:=trodAll_cons r0;obtain⟨v2,vs2,d2,ds2,p2,q2,ha2,rfl,rfl,h2,r2⟩:=trodAll_cons r1;obtain⟨hnil,rfl,rfl⟩:=trodAll_nil r2;subst hnil;subst ha2;subst ha1;obtain rfl:args= #[v0,v1,v2]:=by cases args;simp_all
 obtain⟨rfl,rfl⟩:=trodVars_none hV;obtain⟨x0,k0,o0⟩:=iu (fun N=>wX N) (fun a=>rfl) Tryz.underlying35 (hval 0 35 v0 rfl rfl) h0 (iz hz (j:=0) rfl rfl);obtain⟨x1,k1,o1⟩:=iu (fun N=>wX N) (fun a=>rfl) Tryz.underlying35 (hval 1 35 v1 rfl rfl) h1 (iz hz (j:=1) rfl rfl);obtain⟨x2,k2,o2⟩:=iu (f:=Val.av) (fun N=>tw N) (fun a=>by cases a;rfl) Tryz.underlying45 (hval 2 45 v2 rfl rfl) h2 (iz hz (j:=2) rfl rfl);clear hA0;simp only[List.append_nil]at hW' hA1;have hlt:=hW'.lt;have hv:aP (iM W) [] [x0.av,x1.av,x2.av] [v0,v1,v2]:=by
  simp only[aP];exact⟨_,_,rfl,k0,_,_,rfl,k1,_,_,rfl,k2,rfl⟩
 refine (un Fg aW (Bc hL hS) hv (by rw[t6 x0 x1 x2 o0 o1 o2.1];rfl)).mono fun e W' ⟨he,hb⟩=>?_;subst he;exact⟨_,rfl,mH (pv:=[]) hW' (fun _ _ _=>trodAll_cons_mk (shut_bool Tryz.underlying4 _) trodAll_mk0) (fun sp hsp=>
   qZ kids qH (by rw[Tryz.params6];decide +kernel) hA1 hlt hb sp hsp) (fun _ _=>rfl) (by simp)
  hb (ok_one (by kernel_rfl) rfl (okWide_bool_mk Tryz.underlying4 _))⟩
def reads(os:Os){H:Type}(enc:TypeId×Value->H):∃ds places,DataW.whole enc Tryz.prog ((jE os).forCall (fun _ _=>0) ⟨#[],#[.agg #[.int .i64 0,.slice none 0 0],.agg #[.int .i64 0,.slice none 0 0],.agg #[.int .i64 0,.int .i64 0,.slice none 0 0,.slice none 0 0]],[]⟩).memory Tryz.f6.params.toList Rows.stateWidensSpec.vars false #[.agg #[.int .i64 0,.slice none 0 0],.agg #[.int .i64 0,.slice none 0 0],.agg #[.int .i64 0,.int .i64 0,.slice none 0 0,.slice none 0 0]].toList 8=some (ds,[],places):=
 ⟨[.agg [.lit (.int .i64 0),.nil],.agg [.lit (.int .i64 0),.nil],.agg [.lit (.int .i64 0),.lit (.int .i64 0),.nil,.nil]],[],by kernel_rfl⟩
def lifted(os:Os)(started:os.Started)(H:Type)(enc:TypeId×Value->H)(F:Stop.Interp):
  ReturnsInHanded {} Tryz.checked os 6 .any ((OpenSpec.ofChange Rows.stateWidensSpec).preRow enc Tryz.prog Tryz.f6 Rows.stateWidensRow.domain false Rows.stateWidensRow.laid) (((OpenSpec.ofChange Rows.stateWidensSpec).at F).post enc Tryz.prog Tryz.f6 false true false false):=by
 obtain⟨ds,places,hx⟩:=reads os enc;refine returnsInHanded_of_row (C:=Tryz.checked) (s:=OpenSpec.ofChange Rows.stateWidensSpec) Fj started (by kernel_rfl) Tryz.func6
  (witness_row_atRef (enc:=enc) (C:=Tryz.checked) false (jE os) #[.agg #[.int .i64 0,.slice none 0 0],.agg #[.int .i64 0,.slice none 0 0],.agg #[.int .i64 0,.int .i64 0,.slice none 0 0,.slice none 0 0]] rfl (by kernel_rfl) (by kernel_rfl) (by kernel_rfl)
   (OpenSpec.preRow_of_cond 8 hx (by kernel_rfl) (fun k hk=>by cases hk) (by kernel_rfl) (wE os _))) ?_
 intro W base args ds gs before hval hW _ _ hz hL hS _;exact vU H enc W base args ds gs before hval hW hz hL hS
end Go.Proofs.YtihmmkncokjbaaaGreatDoor.stateWidens
