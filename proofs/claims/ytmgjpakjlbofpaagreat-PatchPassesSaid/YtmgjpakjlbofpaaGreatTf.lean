/- What the functions of the seat compute, part 6: the texts of the claim, one behind the other. Conditions: bounds, as each theorem names them. -/
import Derived.Test.YtmgjpakjlbofpaaGreatTe
import Derived.Lib.SmallJoins
set_option linter.defProp false
set_option linter.unusedSimpArgs false
set_option linter.unusedVariables false
namespace Go.Proofs.YtmgjpakjlbofpaaGreat
open Go Go.Av Go.Av.Ap
set_option maxRecDepth 100000
def yp{e x:Exp}(h:x∈e.args):SizeOf.sizeOf x<SizeOf.sizeOf e:=by
 cases e with
 |mk o n s m ns es=>
  have h1:=Mp h;have h3:SizeOf.sizeOf x<SizeOf.sizeOf es:=h1;simp only[Exp.mk.sizeOf_spec];omega
def xO(Q:Prop)(most:Int)(m:M AV):Prop:=∃n,m=M.pure (.int .i64 n)/\1<=n/\n<=most+1/\(n<=most->Q)
theorem nn:(l:List Exp)->(∀x∈l,aN x)->kq l
 |[],_=>trivial
 |x:: l,h=>⟨h x Lv,nn l fun y hy=>h y (Lq _ hy)⟩
def wU{e:Exp}(h1:e.names.length<=8796093022208)(h2:e.args.length<=274877906944)(h3:∀x∈e.args,aN x):aN e:=by
 obtain⟨o,n,s,m,ns,es⟩:=e;exact⟨h1,h2,nn es h3⟩
def uZ(e:Exp):Prop:=∀most depth:Int,0<=most->most<=1099511627->depth<=1099511627776->xO (aN e) most (ai pg 33 [e.av,.int .i64 most,.int .i64 depth])
def EQ(e:Exp)(hL:e.Lim)(ih:∀x∈e.args,uZ x)(most depth:Int)(h0:0<=most)(h1:most<=1099511627)(h2:depth<=1099511627776)(h3:1<=depth):
  ∀(r:Nat)(n i:Int),e.args.length-i.toNat=r->0<=i->i<=e.args.length->1<=n->n<=most+1->i+1<=n->xO (e.args.length<=most/\∀x∈e.args.drop i.toNat,aN x) most (ak (L33_0 (ai pg) ak) [.int .i64 most,.int .i64 depth,.ip (aa e.av),.int .i64 n,.int .i64 i]):=by
 intro r
 induction r with
 |zero=>
  intro n i hr hi hb hn hm hin;rw[FL33_0];simp only[L33_0];have h1:¬(i<(e.args.length:Int)):=by omega
  simp[h1];exact⟨n,rfl,hn,hm,fun h=>⟨by omega,fun x hx=>by rw[Kx (by omega)]at hx;cases hx⟩⟩
 | succ r IH=>
  intro n i hr hi hb hn hm hin;have hlen:=hL.len;have h5:i<(e.args.length:Int):=by omega
  have hlt:i.toNat<e.args.length:=by omega
  rw[FL33_0];simp only[L33_0];by_cases hs:n<=most
  ·obtain⟨k,hk,hk1,hk2,hk3⟩:=ih e.args[i.toNat] (KB hlt) (most-n) (depth-1) (by omega) (by omega) (by omega);obtain⟨n',q1,q2,q3,q4⟩:=IH (n+k) (i+1) (by omega) (by omega) (by omega) (by omega) (by omega) (by omega);have h4:xO (e.args.length<=most/\∀x∈e.args.drop i.toNat,aN x) most (ak (L33_0 (ai pg) ak) [.int .i64 most,.int .i64 depth,.ip (aa e.av),.int .i64 (n+k),.int .i64 (i+1)]):=by
    by_cases hk4:k<=most-n
    ·refine⟨n',q1,q2,q3,fun h=>⟨(q4 h).1,fun x hx=>?_⟩⟩;rw[KE hlt]at hx;rcases KI.1 hx with rfl|hx
     ·exact hk3 hk4
     ·exact (q4 h).2 x (by rw[show (i+1).toNat=i.toNat+1 by omega];exact hx)
    ·have hstop:ak (L33_0 (ai pg) ak) [.int .i64 most,.int .i64 depth,.ip (aa e.av),.int .i64 (n+k),.int .i64 (i+1)]=M.pure (.int .i64 (n+k)):=by
      rw[FL33_0];simp only[L33_0];have h6:¬(n+k<=most):=by omega
      simp[h6]
     exact⟨n+k,hstop,by omega,by omega,fun h=>by omega⟩
   simp (disch:=omega) [h5,hs,rk,KM e.args i.toNat hlt,bo,hk];simpa using h4
  ·simp[h5,hs];exact⟨n,rfl,hn,hm,fun h=>absurd h hs⟩
def t33:∀(N:Nat)(e:Exp),SizeOf.sizeOf e<=N->e.Lim->uZ e:=by
 intro N
 induction N with
 |zero=>intro e he;cases e;simp at he
 | succ N ih=>
  intro e he hL most depth h0 h1 h2;rw[C33];have h4:1<=depth->_:=fun h3=>EQ e hL (fun x hx=>ih x (by have:=yp hx;omega) (hL.kid hx)) most depth h0 h1 h2 h3 e.args.length 1 0 rfl (by omega) (by omega) (by omega) (by omega) (by omega);simp[S33];by_cases hc:depth<1
  ·simp[hc];rw[bo (by omega) (by omega)];exact⟨_,rfl,by omega,by omega,fun h=>by omega⟩
  ·by_cases hk:10<(e.names.length:Int)
   ·simp[hc,hk];rw[bo (by omega) (by omega)];exact⟨_,rfl,by omega,by omega,fun h=>by omega⟩
   ·simp[hc,hk];obtain⟨n,hn,b1,b2,b3⟩:=h4 (by omega);simp at hn;rw[hn,kI];refine⟨n,rfl,b1,b2,fun h=>wU hL.names ?_ fun x hx=>(b3 h).2 x (by simpa using hx)⟩
    have:=(b3 h).1
    omega
def t15(e:Exp)(h:e.Lim):∃b,ai pg 15 [e.av]=M.pure (.bool b)/\(b=true->aN e):=by
 obtain⟨n,hn,_,_,b3⟩:=t33 _ e (Kk _) h 60 14 (by omega) (by omega) (by omega);rw[C15];exact⟨decide (n<=60),by simp[S15,hn],fun h=>b3 (by simpa using h)⟩
def uY(e:Ty):Prop:=∀most depth:Int,0<=most->most<=1099511627776->depth<=1099511627776->xO True most (ai pg 32 [e.av,.int .i64 most,.int .i64 depth])
def yW{e:Ty}{x:hP}(h:x∈e.fields):SizeOf.sizeOf x.2<SizeOf.sizeOf e:=by
 cases e with
 |mk k fs=>
  have h1:=Mp h;have h2:SizeOf.sizeOf x.2<SizeOf.sizeOf x:=by cases x;simp;omega
  have h3:SizeOf.sizeOf x<SizeOf.sizeOf fs:=h1;simp only[Ty.mk.sizeOf_spec];show SizeOf.sizeOf x.2<1+SizeOf.sizeOf k+SizeOf.sizeOf fs;omega
def EP(e:Ty)(hL:e.Lim)(ih:∀x∈e.fields,uY x.2)(most depth:Int)(h0:0<=most)(h1:most<=1099511627776)(h2:depth<=1099511627776)(h3:1<=depth):
  ∀(r:Nat)(n i:Int),e.fields.length-i.toNat=r->0<=i->i<=e.fields.length->1<=n->n<=most+1->xO True most (ak (L32_0 (ai pg) ak) [.int .i64 most,.int .i64 depth,.ip (aa e.av),.int .i64 n,.int .i64 i]):=by
 intro r
 induction r with
 |zero=>
  intro n i hr hi hb hn hm;rw[FL32_0];simp only[L32_0];have h1:¬(i<(e.fields.length:Int)):=by omega
  simp[h1];exact⟨n,rfl,hn,hm,fun _=>trivial⟩
 | succ r IH=>
  intro n i hr hi hb hn hm;have hlen:=hL.len;have h5:i<(e.fields.length:Int):=by omega
  have hlt:i.toNat<e.fields.length:=by omega
  rw[FL32_0];simp only[L32_0];by_cases hs:n<=most
  ·obtain⟨k,hk,hk1,hk2,_⟩:=ih e.fields[i.toNat] (KB hlt) (most-n) (depth-1) (by omega) (by omega) (by omega);have h4:=IH (n+k) (i+1) (by omega) (by omega) (by omega) (by omega) (by omega);simp (disch:=omega) [h5,hs,Al,KM e.fields i.toNat hlt,bo,hk];simpa using h4
  ·simp[h5,hs];exact⟨n,rfl,hn,hm,fun _=>trivial⟩
def t32:∀(N:Nat)(e:Ty),SizeOf.sizeOf e<=N->e.Lim->uY e:=by
 intro N
 induction N with
 |zero=>intro e he;cases e;simp at he
 | succ N ih=>
  intro e he hL most depth h0 h1 h2;rw[C32];have h4:1<=depth->_:=fun h3=>EP e hL (fun x hx=>ih x.2 (by have:=yW hx;omega) (hL.kid hx)) most depth h0 h1 h2 h3 e.fields.length 1 0 rfl (by omega) (by omega) (by omega) (by omega);simp[S32];by_cases hc:depth<1
  ·rw[Kn hc,bo (by omega) (by omega),kI];exact⟨_,rfl,by omega,by omega,fun _=>trivial⟩
  ·rw[if_neg hc];obtain⟨n,hn,b⟩:=h4 (by omega);simp at hn;rw[hn,kI];exact⟨n,rfl,b⟩
def t14(e:Ty)(h:e.Lim):∃b,ai pg 14 [e.av]=M.pure (.bool b):=by
 obtain⟨n,hn,_,_,b3⟩:=t32 _ e (Kk _) h 40 6 (by omega) (by omega) (by omega);rw[C14];exact⟨decide (n<=40),by simp[S14,hn]⟩
def BB(P:Prop)(m:M AV):Prop:=∃b,m=M.pure (.bool b)/\(b=true->P)
def BB.no{P:Prop}:BB P (M.pure (.bool false)):=⟨false,rfl,fun h=>by cases h⟩
def BB.imp{P Q:Prop}{m:M AV}(h:BB P m)(f:P->Q):BB Q m:=by
 obtain⟨b,h1,h2⟩:=h;exact⟨b,h1,fun e=>f (h2 e)⟩
def EJ(l:List hP)(hl:l.length<=140737488355328)(hL:∀e∈l,e.2.Lim):∀(r:Nat)(i:Int),l.length-i.toNat=r->0<=i->i<=l.length->BB (l.length<=8) (ak (L13_0 (ai pg) ak) [cF l,.int .i64 i]):=by
 intro r
 induction r with
 |zero=>
  intro i hr hi hb;rw[FL13_0];simp only[L13_0];have h1:¬(i<(l.length:Int)):=by omega
  simp[h1];exact⟨_,rfl,fun h=>by simp at h;omega⟩
 | succ r IH=>
  intro i hr hi hb;have h5:i<(l.length:Int):=by omega
  have hlt:i.toNat<l.length:=by omega
  rw[FL13_0];simp only[L13_0];by_cases hs:i<9
  ·obtain⟨k,hk⟩:=t14 l[i.toNat].2 (hL _ (KB hlt));have h4:=IH (i+1) (by omega) (by omega) (by omega);simp (disch:=omega) [h5,hs,Al,KM l i.toNat hlt,bo,hk];cases k with
   |false=>exact .no
   |true=>
    simp;exact h4
  ·simp[h5,hs];refine⟨_,rfl,fun h=>?_⟩;simp at h;omega
def t13(l:List hP)(hl:l.length<=140737488355328)(hL:∀e∈l,e.2.Lim):BB (l.length<=8) (ai pg 13 [cF l]):=by
 rw[C13];obtain⟨b,hb,h2⟩:=EJ l hl hL l.length 0 rfl (by omega) (by omega);refine⟨b,?_,h2⟩;simp[S13,hb]
def EK(l:List Exp)(hl:l.length<=140737488355328)(hL:∀e∈l,e.Lim):∀(r:Nat)(i:Int),l.length-i.toNat=r->0<=i->i<=l.length->BB (l.length<=8/\∀e∈l.drop i.toNat,aN e) (ak (L16_0 (ai pg) ak) [dj l,.int .i64 i]):=by
 intro r
 induction r with
 |zero=>
  intro i hr hi hb;rw[FL16_0];simp only[L16_0];have h1:¬(i<(l.length:Int)):=by omega
  simp[h1];exact⟨_,rfl,fun h=>by simp at h;exact⟨by omega,fun x hx=>by rw[Kx (by omega)]at hx;cases hx⟩⟩
 | succ r IH=>
  intro i hr hi hb;have h5:i<(l.length:Int):=by omega
  have hlt:i.toNat<l.length:=by omega
  rw[FL16_0];simp only[L16_0];by_cases hs:i<9
  ·obtain⟨k,hk,hq⟩:=t15 l[i.toNat] (hL _ (KB hlt));have h4:=IH (i+1) (by omega) (by omega) (by omega);simp (disch:=omega) [h5,hs,rk,KM l i.toNat hlt,bo,hk];cases k with
   |false=>exact .no
   |true=>
    simp;refine h4.imp fun h=>⟨h.1,fun x hx=>?_⟩;rw[KE hlt]at hx;rcases KI.1 hx with rfl|hx
    ·exact hq rfl
    ·exact h.2 x (by rw[show (i+1).toNat=i.toNat+1 by omega];exact hx)
  ·simp[h5,hs];refine⟨_,rfl,fun h=>?_⟩;simp at h;omega
def t16(l:List Exp)(hl:l.length<=140737488355328)(hL:∀e∈l,e.Lim):BB (l.length<=8/\∀e∈l,aN e) (ai pg 16 [dj l]):=by
 rw[C16];obtain⟨b,hb,h2⟩:=EK l hl hL l.length 0 rfl (by omega) (by omega);refine⟨b,?_,fun h=>by simpa using h2 h⟩;simp[S16,hb]
structure FewMod (m:Mod):Prop where
 funcs:m.funcs.length<=6
 vars:m.vars.length<=8
 init:m.init.length<=8/\∀e∈m.init,aN e
 body:∀f∈m.funcs,aN f.body/\f.params.length<=8
def HG(m:Mod)(M0:m.Lim):∀(r:Nat)(j:Int),m.funcs.length-j.toNat=r->0<=j->j<=m.funcs.length->
  BB (m.funcs.length<=6/\m.vars.length<=8/\(m.init.length<=8/\∀e∈m.init,aN e)/\∀f∈m.funcs.drop j.toNat,aN f.body/\f.params.length<=8) (ak (L5_0 (ai pg) ak) [.ip (aa m.av),.int .i64 j]):=by
 obtain⟨b1,h1,q1⟩:=t13 m.vars M0.vars M0.vty;obtain⟨b2,h2,q2⟩:=t16 m.init M0.init M0.ies;obtain⟨b3,h3,_⟩:=t13 m.old M0.old M0.oty;obtain⟨b4,h4,_⟩:=t16 m.forward M0.forward M0.fes;obtain⟨b5,h5,_⟩:=t16 m.back M0.back M0.bes
 have fin:∀j:Int,¬(j<(m.funcs.length:Int))\/¬(j<7)->BB (m.funcs.length<=6/\m.vars.length<=8/\(m.init.length<=8/\∀e∈m.init,aN e)) (ak (L5_0 (ai pg) ak) [.ip (aa m.av),.int .i64 j]):=by
  intro j hj;rw[FL5_0];simp only[L5_0];by_cases g1:j<(m.funcs.length:Int)
  ·have g2:¬(j<7):=by omega
   have g3:¬((m.funcs.length:Int)<=6):=by omega
   simp[g1,g2,g3];exact .no
  ·cases hq:(decide ((m.funcs.length:Int)<=6)&&decide ((m.uses.length:Int)<=6))with
   |false=>exact⟨false,by simp[g1];rw[hq];simp,fun h=>by cases h⟩
   | true=>
    have hf:m.funcs.length<=6:=by simp at hq;omega
    cases b1 with
    |false=>exact⟨false,by simp[g1];rw[hq];simp[h1],fun h=>by cases h⟩
    | true=>cases b2 with
     |false=>exact⟨false,by simp[g1];rw[hq];simp[h1,h2],fun h=>by cases h⟩
     | true=>cases b3 with
      |false=>exact⟨false,by simp[g1];rw[hq];simp[h1,h2,h3],fun h=>by cases h⟩
      |true=>cases b4 with
       |false=>exact⟨false,by simp[g1];rw[hq];simp[h1,h2,h3,h4],fun h=>by cases h⟩
       |true=>exact⟨b5,by simp[g1];rw[hq];simp[h1,h2,h3,h4,h5],fun _=>⟨hf,q1 rfl,q2 rfl⟩⟩
 intro r
 induction r with
 |zero=>
  intro j hr hi hb;refine (fin j (.inl (by omega))).imp fun h=>⟨h.1,h.2.1,h.2.2,fun x hx=>?_⟩;rw[Kx (by omega)]at hx;cases hx
 | succ r IH=>
  intro j hr hi hb;have g5:j<(m.funcs.length:Int):=by omega
  have hlt:j.toNat<m.funcs.length:=by omega
  by_cases hs:j<7
  ·have F0:=M0.fns _ (KB hlt);have hfn:=M0.funcs;obtain⟨p1,e1,w1⟩:=t13 m.funcs[j.toNat].params F0.params F0.pty;obtain⟨p2,e2⟩:=t14 m.funcs[j.toNat].result F0.result;obtain⟨p3,e3,w3⟩:=t15 m.funcs[j.toNat].body F0.body;have h4:=IH (j+1) (by omega) (by omega) (by omega);rw[FL5_0];simp only[L5_0];simp (disch:=omega) [g5,hs,xP,KM m.funcs j.toNat hlt,bo,e1];cases p1 with
   |false=>simp;exact .no
   | true=>
    simp (disch:=omega) [xP,KM m.funcs j.toNat hlt,e2];cases p2 with
    |false=>simp;exact .no
    | true=>
     simp (disch:=omega) [xP,KM m.funcs j.toNat hlt,e3];cases p3 with
     |false=>simp;exact .no
     |true=>
      simp;refine h4.imp fun h=>⟨h.1,h.2.1,h.2.2.1,fun x hx=>?_⟩;rw[KE hlt]at hx;rcases KI.1 hx with rfl|hx
      ·exact⟨w3 rfl,w1 rfl⟩
      ·exact h.2.2.2 x (by rw[show (j+1).toNat=j.toNat+1 by omega];exact hx)
  ·refine (fin j (.inr hs)).imp fun h=>?_
   have:=h.1
   omega
def t5(m:Mod)(M0:m.Lim):BB (FewMod m) (ai pg 5 [m.av]):=by
 rw[C5];obtain⟨b,hb,h2⟩:=HG m M0 m.funcs.length 0 rfl (by omega) (by omega);refine⟨b,?_,fun h=>⟨(h2 h).1,(h2 h).2.1,(h2 h).2.2.1,by simpa using(h2 h).2.2.2⟩⟩;simp at hb;simp[S5,hb]
def yR{p:List Mod}(h1:p.length<=4)(h2:∀m∈p,FewMod m):LimR p:=by
 refine⟨⟨⟨by omega,fun m hm=>?_⟩,fun m hm f hf=>?_⟩,fun m hm=>?_⟩
 ·have:=(h2 m hm).funcs
  have:=(h2 m hm).vars
  exact⟨by omega,by omega⟩
 ·have:=(h2 m hm).body f hf
  exact⟨this.1,by omega⟩
 ·exact⟨by have:=(h2 m hm).init.1;omega,(h2 m hm).init.2⟩
def CY(F:Int->Prop)(most:Int)(m:M AV):Prop:=∃n,m=M.pure (.int .i64 n)/\1<=n/\n<=most+1/\(n<=most->F n)
def xR(e:Val):Prop:=∀most:Int,0<=most->most<=1000->CY (fun n=>(e.sz:Int)<=140737488355341*n) most (ai pg 17 [e.av,.int .i64 most])
def EL(e:Val)(hL:e.Lim)(ih:∀x∈e.values,xR x)(most:Int)(h0:0<=most)(h1:most<=1000):
  ∀(r:Nat)(n i:Int),e.values.length-i.toNat=r->0<=i->i<=e.values.length->1<=n->n<=most+1->CY (fun k=>(aY (e.values.drop i.toNat):Int)<=140737488355341*(k-n)) most (ak (L17_0 (ai pg) ak) [.int .i64 most,.ip (aa e.av),.int .i64 n,.int .i64 i]):=by
 intro r
 induction r with
 |zero=>
  intro n i hr hi hb hn hm;rw[FL17_0];simp only[L17_0];have h1:¬(i<(e.values.length:Int)):=by omega
  simp[h1];exact⟨n,rfl,hn,hm,fun h=>by rw[Kx (by omega)];simp[aY]⟩
 | succ r IH=>
  intro n i hr hi hb hn hm;have hlen:=hL.len;have h5:i<(e.values.length:Int):=by omega
  have hlt:i.toNat<e.values.length:=by omega
  by_cases hs:n<=most
  ·obtain⟨k,hk,hk1,hk2,hk3⟩:=ih e.values[i.toNat] (KB hlt) (most-n) (by omega) (by omega);obtain⟨n',q1,q2,q3,q4⟩:=IH (n+k) (i+1) (by omega) (by omega) (by omega) (by omega) (by omega);have h4:CY (fun k=>(aY (e.values.drop i.toNat):Int)<=140737488355341*(k-n)) most (ak (L17_0 (ai pg) ak) [.int .i64 most,.ip (aa e.av),.int .i64 (n+k),.int .i64 (i+1)]):=by
    by_cases hk4:k<=most-n
    ·refine⟨n',q1,q2,q3,fun h=>?_⟩;have e1:=q4 h;have e2:=hk3 hk4;rw[KE hlt];simp only[aY];rw[show (i+1).toNat=i.toNat+1 by omega]at e1;omega
    ·have hstop:ak (L17_0 (ai pg) ak) [.int .i64 most,.ip (aa e.av),.int .i64 (n+k),.int .i64 (i+1)]=M.pure (.int .i64 (n+k)):=by
      rw[FL17_0];simp only[L17_0];have h6:¬(n+k<=most):=by omega
      simp[h6]
     exact⟨n+k,hstop,by omega,by omega,fun h=>by omega⟩
   rw[FL17_0];simp only[L17_0];simp (disch:=omega) [h5,hs,mT,KM e.values i.toNat hlt,bo,hk];simpa using h4
  ·rw[FL17_0];simp only[L17_0];simp[h5,hs];exact⟨n,rfl,hn,hm,fun h=>absurd h hs⟩
def zZ{e x:Val}(h:x∈e.values):SizeOf.sizeOf x<SizeOf.sizeOf e:=by
 cases e with
 |mk k n ns vs=>
  have h1:=Mp h;have h3:SizeOf.sizeOf x<SizeOf.sizeOf vs:=h1;simp only[Val.mk.sizeOf_spec];omega
def t17:∀(N:Nat)(e:Val),SizeOf.sizeOf e<=N->e.Lim->xR e:=by
 intro N
 induction N with
 |zero=>intro e he;cases e;simp at he
 |succ N ih=>
  intro e he hL most h0 h1;rw[C17];obtain⟨n,hn,b1,b2,b3⟩:=EL e hL (fun x hx=>ih x (by have:=zZ hx;omega) (hL.kid hx)) most h0 h1 e.values.length 1 0 rfl (by omega) (by omega) (by omega) (by omega);simp at hn;simp[S17];rw[hn,kI];refine⟨n,rfl,b1,b2,fun h=>?_⟩;have e1:=b3 h;have e2:e.sz=1+e.names.length+aY e.values:=by cases e;rfl
  have e3:=hL.names;simp at e1;rw[e2];omega
def HH(l:List Val)(hl:l.length<=140737488355328)(hL:∀v∈l,v.Lim):∀(r:Nat)(i:Int),l.length-i.toNat=r->0<=i->i<=l.length->BB (l.length<=6/\(aY (l.drop i.toNat):Int)<=14073748835534100*((l.length:Int)-i)) (ak (L6_0 (ai pg) ak) [vals l,.int .i64 6,.int .i64 i]):=by
 intro r
 induction r with
 |zero=>
  intro i hr hi hb;rw[FL6_0];simp only[L6_0];have h1:¬(i<(l.length:Int)):=by omega
  simp[h1];refine⟨_,rfl,fun h=>?_⟩;simp at h;rw[Kx (by omega)];simp[aY];omega
 | succ r IH=>
  intro i hr hi hb;have h5:i<(l.length:Int):=by omega
  have hlt:i.toNat<l.length:=by omega
  rw[FL6_0];simp only[L6_0];by_cases hs:i<=6
  ·obtain⟨k,hk,hk1,hk2,hk3⟩:=t17 _ l[i.toNat] (Kk _) (hL _ (KB hlt)) 100 (by omega) (by omega);have h4:=IH (i+1) (by omega) (by omega) (by omega);simp (disch:=omega) [h5,hs,mT,KM l i.toNat hlt,bo,hk];by_cases hg:100<k
   ·simp[hg];exact .no
   ·by_cases hn:20<(l[i.toNat].names.length:Int)
    ·simp (disch:=omega) [hg,hn,mT,KM l i.toNat hlt];exact .no
    ·simp (disch:=omega) [hg,hn,mT,KM l i.toNat hlt];refine h4.imp fun h=>⟨h.1,?_⟩;have e2:=hk3 (by omega);have e1:=h.2;rw[KE hlt];simp only[aY];rw[show (i+1).toNat=i.toNat+1 by omega]at e1;omega
  ·simp[h5,hs];refine⟨_,rfl,fun h=>?_⟩;simp at h;omega
def t6(l:List Val)(hl:l.length<=140737488355328)(hL:∀v∈l,v.Lim):BB (aY l<=4611686018427387904) (ai pg 6 [vals l,.int .i64 6]):=by
 rw[C6];obtain⟨b,hb,h2⟩:=HH l hl hL l.length 0 rfl (by omega) (by omega);refine⟨b,?_,fun h=>?_⟩
 ·simp[S6,hb]
 ·have:=h2 h
  simp at this;omega
def t49:∀(n:Nat)(v w:Val),v.sz<=n->v.sz<=4611686018427387904->ai pg 49 [v.av,w.av]=M.pure (.bool (ff v w)):=by
 intro n
 induction n with
 |zero=>intro v w h;have:=v.sz_pos;omega
 | succ n ih=>
  intro v w hn hv;have h1:=t29 v.names w.names (Lg v.sz_names hv);have h2:=t48 (.fn (.func 49) [] []) ff v.values w.values (by have:=v.sz_len;omega) (fun g=>rfl) (fun x hx y _=>by
   have:=J3 hx
   exact ih x y (by omega) (by omega))
  rw[C49,tc];simp[S49,h1,h2]
def ER(f:AV)(F:Ap.Call->Ap.Call->Bool)(a:List Ap.Call)(b:List Ap.Call)(hb:a.length<=4611686018427387904)(hab:a.length=b.length)(hf:∀x∈a,∀y∈b,bO (ai pg) f [Ap.Call.av x,Ap.Call.av y]=M.pure (.bool (F x y))):∀(n:Nat)(i:Int),a.length-i.toNat=n->0<=i->i<=a.length->
  ak (L46_0 (ai pg) ak) [calls b,f,calls a,.int .i64 a.length,.int .i64 i]=M.pure (.bool (c8 F (a.drop i.toNat) (b.drop i.toNat))):=by
 intro n
 induction n with
 |zero=>
  intro i hn hi hl;rw[FL46_0];simp only[L46_0];have h1:¬(i<(a.length:Int)):=by omega
  have h2:a.drop i.toNat=[]:=Kx (by omega);have h3:b.drop i.toNat=[]:=Kx (by omega);simp[h1,h2,h3,c8]
 |succ n ih=>
  intro i hn hi hl;have h1:i<(a.length:Int):=by omega
  have h1':i<(b.length:Int):=by omega
  have hlt:i.toNat<a.length:=by omega
  have hlt':i.toNat<b.length:=by omega
  have h3:=hf a[i.toNat] (KB hlt) b[i.toNat] (KB hlt');have h4:=ih (i+1) (by omega) (by omega) (by omega);rw[show (i+1).toNat=i.toNat+1 by omega]at h4;rw[FL46_0,gH F a b i.toNat hlt hlt'];simp only[L46_0];simp (disch:=omega) [h1,bo,Aj,Aj,h4];rw[h3];cases F a[i.toNat] b[i.toNat]<;>simp
def t46(f:AV)(F:Ap.Call->Ap.Call->Bool)(a:List Ap.Call)(b:List Ap.Call)(hb:a.length<=4611686018427387904)(hc:∀g,cl g f=f)(hf:∀x∈a,∀y∈b,bO (ai pg) f [Ap.Call.av x,Ap.Call.av y]=M.pure (.bool (F x y))):ai pg 46 [calls a,calls b,f]=M.pure (.bool (c8 F a b)):=by
 rw[C46];by_cases h:a.length=b.length
 ·have:=ER f F a b hb h hf a.length 0 rfl (by omega) (by omega)
  simp[S46,h,hc]at this |-;simp[this]
 ·have h3:(a.length != b.length)=true:=by simp[h]
  simp[S46,h3,dF F a b h]
def ET(f:AV)(F:Vars->Vars->Bool)(a:List Vars)(b:List Vars)(hb:a.length<=4611686018427387904)(hab:a.length=b.length)(hf:∀x∈a,∀y∈b,bO (ai pg) f [Vars.av x,Vars.av y]=M.pure (.bool (F x y))):∀(n:Nat)(i:Int),a.length-i.toNat=n->0<=i->i<=a.length->
  ak (L50_0 (ai pg) ak) [bJ b,f,bJ a,.int .i64 a.length,.int .i64 i]=M.pure (.bool (c8 F (a.drop i.toNat) (b.drop i.toNat))):=by
 intro n
 induction n with
 |zero=>
  intro i hn hi hl;rw[FL50_0];simp only[L50_0];have h1:¬(i<(a.length:Int)):=by omega
  have h2:a.drop i.toNat=[]:=Kx (by omega);have h3:b.drop i.toNat=[]:=Kx (by omega);simp[h1,h2,h3,c8]
 |succ n ih=>
  intro i hn hi hl;have h1:i<(a.length:Int):=by omega
  have h1':i<(b.length:Int):=by omega
  have hlt:i.toNat<a.length:=by omega
  have hlt':i.toNat<b.length:=by omega
  have h3:=hf a[i.toNat] (KB hlt) b[i.toNat] (KB hlt');have h4:=ih (i+1) (by omega) (by omega) (by omega);rw[show (i+1).toNat=i.toNat+1 by omega]at h4;rw[FL50_0,gH F a b i.toNat hlt hlt'];simp only[L50_0];simp (disch:=omega) [h1,bo,Am,Am,h4];rw[h3];cases F a[i.toNat] b[i.toNat]<;>simp
def t50(f:AV)(F:Vars->Vars->Bool)(a:List Vars)(b:List Vars)(hb:a.length<=4611686018427387904)(hc:∀g,cl g f=f)(hf:∀x∈a,∀y∈b,bO (ai pg) f [Vars.av x,Vars.av y]=M.pure (.bool (F x y))):ai pg 50 [bJ a,bJ b,f]=M.pure (.bool (c8 F a b)):=by
 rw[C50];by_cases h:a.length=b.length
 ·have:=ET f F a b hb h hf a.length 0 rfl (by omega) (by omega)
  simp[S50,h,hc]at this |-;simp[this]
 ·have h3:(a.length != b.length)=true:=by simp[h]
  simp[S50,h3,dF F a b h]
def gz(d e:Deed):Bool:=d.effect== e.effect&&d.arg== e.arg&&d.answer== e.answer
theorem yI(d e:Deed):ao T .neq 51 d.av e.av=some (.bool (!(gz d e))):=by
 have h:vC T 20 51 d.av e.av=some (gz d e):=by
  have h0:vC T 20 51 d.av e.av=(match some (d.effect== e.effect)with
   | some true=>(match some (d.arg== e.arg)with
    |some true=>(match some (d.answer== e.answer)with
     |some true=>some true
     |some false=>some false
     |none=>none)
    |some false=>some false
    |none=>none)
   |some false=>some false
   |none=>none):=rfl
  rw[h0];unfold gz;cases h1:d.effect== e.effect<;>cases h2:d.arg== e.arg<;>cases h3:d.answer== e.answer<;>rfl
 show (vC T 20 51 d.av e.av).map _=_;rw[h];rfl
def EU(a b:List Deed)(hb:a.length<=4611686018427387904)(hab:a.length=b.length):∀(n:Nat)(i:Int),a.length-i.toNat=n->0<=i->i<=a.length->
  ak (L52_0 (ai pg) ak) [deeds a,deeds b,.int .i64 a.length,.int .i64 i]=M.pure (.bool (c8 gz (a.drop i.toNat) (b.drop i.toNat))):=by
 intro n
 induction n with
 |zero=>
  intro i hn hi hl;rw[FL52_0];simp only[L52_0];have h1:¬(i<(a.length:Int)):=by omega
  have h2:a.drop i.toNat=[]:=Kx (by omega);have h3:b.drop i.toNat=[]:=Kx (by omega);simp[h1,h2,h3,c8]
 |succ n ih=>
  intro i hn hi hl;have h1:i<(a.length:Int):=by omega
  have h1':i<(b.length:Int):=by omega
  have hlt:i.toNat<a.length:=by omega
  have hlt':i.toNat<b.length:=by omega
  have h4:=ih (i+1) (by omega) (by omega) (by omega);rw[show (i+1).toNat=i.toNat+1 by omega]at h4;rw[FL52_0,gH gz a b i.toNat hlt hlt'];simp only[L52_0];simp (disch:=omega) [h1,bo,IA,h4,yI]
def t52(a b:List Deed)(hb:a.length<=4611686018427387904):ai pg 52 [deeds a,deeds b]=M.pure (.bool (c8 gz a b)):=by
 rw[C52];by_cases h:a.length=b.length
 ·have:=EU a b hb h a.length 0 rfl (by omega) (by omega)
  simp[S52,h]at this |-;simp[this]
 ·have h3:(a.length != b.length)=true:=by simp[h]
  simp[S52,h3,dF gz a b h]
def lj(x y:Ap.Call):Bool:=x.module== y.module&&x.func== y.func&&c8 ff x.args y.args
def lN(x y:Vars):Bool:=x.module== y.module&&c8 ff x.values y.values
def gA(a b:Out):Bool:=a.err== b.err&&ff a.value b.value&&c8 gz a.deeds b.deeds&&c8 lj a.calls b.calls&&c8 lN a.state b.state
def eS{l:List Val}{x:Val}(h:x∈l):x.sz<=aY l:=by
 induction l with
 |nil=>cases h
 |cons y l ih=>
  simp only[aY];rcases KI.1 h with rfl|h
  ·omega
  ·have:=ih h;omega
def gh(l:List Val):l.length<=aY l:=by
 induction l with
 |nil=>simp[aY]
 |cons y l ih=>
  simp only[aY,K4]
  have:=y.sz_pos
  omega
def pU(a b:List Val)(ha:aY a<=4611686018427387904):ai pg 48 [vals a,vals b,.fn (.func 49) [] []]=M.pure (.bool (c8 ff a b)):=
 t48 (.fn (.func 49) [] []) ff a b (by have:=gh a;omega) (fun g=>rfl) (fun x hx y _=>by
  have:=eS hx
  exact t49 x.sz x y (Kk _) (by omega))
def t47(x y:Ap.Call)(h:aY x.args<=4611686018427387904):ai pg 47 [x.av,y.av]=M.pure (.bool (lj x y)):=by
 have h1:=pU x.args y.args h;rw[C47];simp[S47,h1,lj]
def t51(x y:Vars)(h:aY x.values<=4611686018427387904):ai pg 51 [x.av,y.av]=M.pure (.bool (lN x y)):=by
 have h1:=pU x.values y.values h;rw[C51];simp[S51,h1,lN]
structure OutLim (o:Out):Prop where
 deeds:o.deeds.length<=140737488355328
 calls:o.calls.length<=140737488355328
 args:∀c∈o.calls,aY c.args<=4611686018427387904
 state:o.state.length<=140737488355328/\∀x∈o.state,aY x.values<=4611686018427387904
 value:o.value.sz<=4611686018427387904
def t20(a b:Out)(h:OutLim a):ai pg 20 [a.av,b.av]=M.pure (.bool (gA a b)):=by
 have h1:=t46 (.fn (.func 47) [] []) lj a.calls b.calls (by have:=h.calls;omega) (fun g=>rfl) (fun x hx y _=>t47 x y (h.args x hx));have h2:=t50 (.fn (.func 51) [] []) lN a.state b.state (by have:=h.state.1;omega) (fun g=>rfl) (fun x hx y _=>t51 x y (h.state.2 x hx));have h3:=t49 a.value.sz a.value b.value (Kk _) h.value;have h4:=t52 a.deeds b.deeds (by have:=h.deeds;omega);rw[C20];simp[S20,h1,h2,h3,h4,gA]
mutual
theorem iz:(v:Val)->ff v v=true
 |.mk k n ns vs=>by simp only[ff,Lb,mr vs,Lz]
theorem mr:(l:List Val)->lK l l=true
 |[]=>rfl
 |v:: l=>by simp only[lK,iz v,mr l,Lz]
end
theorem fM{α:Type}(F:α->α->Bool)(h:∀x,F x x=true):(l:List α)->c8 F l l=true
 |[]=>rfl
 |x:: l=>by simp only[c8,h x,fM F h l,Lz]
def l5(a:Out):gA a a=true:=by
 have h1:c8 gz a.deeds a.deeds=true:=fM _ (fun d=>by simp[gz]) _;have h2:c8 lj a.calls a.calls=true:=fM _ (fun c=>by simp only[lj,Lb,fM ff iz,Lz]) _;have h3:c8 lN a.state a.state=true:=fM _ (fun c=>by simp only[lN,Lb,fM ff iz,Lz]) _;simp only[gA,Lb,iz,h1,h2,h3,Lz]
def xy{B n:Nat}{o:Out}(h:OutB B n o)(hr:qb o)(hB:B<=274877906944)(hn:n<=140737488355328):OutLim o where
 deeds:=by have:=h.deeds;omega
 calls:=by have:=h.calls;omega
 args:=fun c hc=>Lg (eY _ (hr.2.1 c hc)) (by have:=h.args c hc;omega)
 state:=⟨Lg h.state hn,fun x hx=>Lg (eY _ (hr.2.2 x hx)) (by have:=h.vals x hx;omega)⟩
 value:=Lg (ot hr.1) (by omega)
def uf{p:List Mod}(h1:p.length<=4)(h2:∀m∈p,FewMod m)(module fn:bA)(args:List Val)(world:List Int)(fuel:Int):OutLim (eM p module fn args world fuel):=
 xy (B:=8) (n:=p.length) (wg p module fn args world fuel fun m hm=>⟨(h2 m hm).vars,fun f hf=>((h2 m hm).body f hf).2⟩) (xE ..) (by omega) (by omega)
structure OutsAt (x:AV) (h:Hp) (os:List Out):Prop where
 len:aE T 35 x=some (.int .i64 os.length)
 get:∀(i:Nat)(_:i<os.length),∃a,aj T 35 x (.int .i64 (i:Int))=some a/\a7 T 46 a h= .ok os[i].av h
def dM(R:Ap.Call->Out):List Ap.Call->List Out->Nat->Nat×Bool
 |[],_,i=>(i,true)
 |_:: _,[],i=>(i,false)
 |c:: cs,o:: os,i=>if gA (R c) o=true then dM R cs os (i+1)else(i,false)
def cM{α β:Type}{m:M α}{a:α}{h h':Hp}(e:m h= .ok a h')(f:α->M β):ae m f h=f a h':=by simp only[ae,e]
def zd{m:M (List AV)}{c:Bool}{h:Hp}(e:m h= .ok [.bool c] h)(b:Bool)(f:List AV->M AV):ae (aC (.bool b) false 1 m) f h=f [gv b false (.bool c)] h:=by
 cases b with
 |true=>rfl
 |false=>exact cM e f
def HI{p:List Mod}(L:LimR p)(cs:List Ap.Call)(w:List Int)(hcs:cs.length<=1000)(hargs:∀c∈cs,aY c.args<=4611686018427387904)(hout:∀c∈cs,OutLim (eM p c.module c.func c.args w 100000)){x:AV}{h:Hp}{os:List Out}(H:OutsAt x h os):∀(r i:Nat),cs.length-i=r->i<=cs.length->
  ak (L8_0 (ai pg) ak) [mods p,calls cs,ints w,x,calls cs,.int .i64 cs.length,.int .i64 i] h
   = .ok (.tup [.int .i64 ((dM (fun c=>eM p c.module c.func c.args w 100000) (cs.drop i) (os.drop i) i).1:Nat),.bool (dM (fun c=>eM p c.module c.func c.args w 100000) (cs.drop i) (os.drop i) i).2]) h:=by
 intro r
 induction r with
 |zero=>
  intro i hr hi;have e1:cs.drop i=[]:=Kx (by omega);have e2:i=cs.length:=by omega
  have e3:¬((i:Int)<(cs.length:Int)):=by omega
  rw[FL8_0,e1];simp only[L8_0];simp[dM,e2,M.pure]
 | succ r ih=>
  intro i hr hi;have hlt:i<cs.length:=by omega
  have h1:(i:Int)<(cs.length:Int):=by omega
  have hix:=Aj (l:=cs) (n:=(i:Int)) (by omega) h1;rw[LP,KM cs i hlt]at hix;have hmem:=KB hlt;have ih':=ih (i+1) (by omega) (by omega);have hw:IntKind.i64.wrap ((i:Int)+1)=((i+1:Nat):Int):=dQ (by omega);have hrun:=t7 L cs[i].module cs[i].func cs[i].args w 100000 (hargs _ hmem);have ho:=hout _ hmem;rw[KE hlt]at *;generalize cs[i]=c at *;generalize hcode:ak (L8_0 (ai pg) ak) [mods p,calls cs,ints w,x,calls cs,.int .i64 cs.length,.int .i64 i] h=code;rw[FL8_0]at hcode;simp -implicitDefEqProofs only[L8_0,aJ,bj,bY,am,ax,h1,Ll,Kt,hix,H.len,ke]at hcode;have hl:af T 39 (.ip (aa c.av))=some c.av:=by simp
  simp -implicitDefEqProofs only[hl,am,rG,ay]at hcode;by_cases hos:i<os.length
  ·obtain⟨a,ha,hla⟩:=H.get i hos;have hge:decide ((os.length:Int)<=(i:Int))=false:=by simp;omega
   have heq:=t20 (eM p c.module c.func c.args w 100000) os[i] ho;have hbody:(ae (a7 T 46 a) fun v17=>ae (cX (ai pg 20 [(eM p c.module c.func c.args w 100000).av,v17])) fun v18=>ae (ah (ka UnOp.not v18)) fun v19=>M.pure [v19]) h= .ok [.bool !(gA (eM p c.module c.func c.args w 100000) os[i])] h:=by
    rw[cM hla,heq,dk,ay,dC,am];rfl
   simp -implicitDefEqProofs only[gm,FA39_0,FA39_1,FA39_2,am,KV,KP,LD9,LD37,hrun,dk,ay,ha]at hcode;rw[zd hbody]at hcode;simp -implicitDefEqProofs only[hge,Ht,aJ,je,am,ax]at hcode;rw[KE hos];simp only[dM];cases he:gA (eM p c.module c.func c.args w 100000) os[i]with
   |true=>
    rw[he]at hcode;simp -implicitDefEqProofs only[Lx,Ki,Ks,dx,am,hw]at hcode;rw[<- hcode,Kn rfl];exact ih'
   |false=>
    rw[he]at hcode;simp -implicitDefEqProofs only[Mg,Kt]at hcode;rw[<- hcode,if_neg (by simp)];rfl
  ·have hge:decide ((os.length:Int)<=(i:Int))=true:=by simp;omega
   have e1:os.drop i=[]:=Kx (by omega);rw[e1];simp -implicitDefEqProofs only[hge,xe,ay,og,am,ax,Kt]at hcode;rw[<- hcode];simp[dM,M.pure]
def t8{p:List Mod}(L:LimR p)(cs:List Ap.Call)(w:List Int)(hcs:cs.length<=1000)(hargs:∀c∈cs,aY c.args<=4611686018427387904)(hout:∀c∈cs,OutLim (eM p c.module c.func c.args w 100000)){x:AV}{h:Hp}{os:List Out}(H:OutsAt x h os):
  ai pg 8 [mods p,calls cs,ints w,x] h
   = .ok (.tup [.int .i64 ((dM (fun c=>eM p c.module c.func c.args w 100000) cs os 0).1:Nat),.bool (dM (fun c=>eM p c.module c.func c.args w 100000) cs os 0).2]) h:=by
 have:=HI L cs w hcs hargs hout H cs.length 0 rfl (by omega)
 rw[C8];simp -implicitDefEqProofs only[S8,tB,am];exact this
def uF(R:Ap.Call->Out)(cs:List Ap.Call)(i:Nat):dM R cs (cs.map R) i=(i+cs.length,true):=by
 induction cs generalizing i with
 |nil=>rfl
 |cons c cs ih=>
  simp only[Lc,dM,l5,Kt,ih,K4];congr 1;omega
theorem jd(R:Ap.Call->Out):∀(cs:List Ap.Call)(os:List Out)(i k:Nat),k<cs.length->os.take k=(cs.take k).map R->(∀o c,os[k]? = some o->cs[k]? = some c->gA (R c) o=false)->dM R cs os i=(i+k,false)
 |[],os,i,k,hk,_,_=>by simp at hk
 |c:: cs,[],i,k,hk,ht,hb=>by
  cases k with
  |zero=>rfl
  |succ k=>simp at ht
 | c:: cs,o:: os,i,k,hk,ht,hb=>by
  cases k with
  |zero=>
   have:=hb o c rfl rfl
   simp only[dM,this,Ki,Ks,Lu]
  |succ k=>
   simp only[List.take_succ_cons,Lc,Mb]at ht;simp only[dM,ht.1,l5,Kt];rw[jd R cs os (i+1) k (by simpa using hk) ht.2 (fun o c h1 h2=>hb o c (by simpa using h1) (by simpa using h2))];congr 1;omega
def Fv(o:Out):(aa o.av).length=8:=by simp
def o5{A R c:List AV}{off:Nat}(h:off+c.length<=A.length):setCells (A++R) off c=setCells A off c++R:=by
 unfold setCells;rw[List.take_append_of_le_length (by omega),List.drop_append_of_le_length (by omega)];simp
def oz{A R c:List AV}{o:Nat}:setCells (A++R) (A.length+o) c=A++setCells R o c:=by
 unfold setCells;rw[List.take_length_add_append,Nat.add_assoc,List.drop_length_add_append];simp
theorem kU{α:Type}{f:α->AV}{sz:Nat}(hs:∀x,(aa (f x)).length=sz){y:α}{off:Nat}{c:List AV}(hoff:off+c.length<=sz):∀(l:List α)(k:Nat)(hk:k<l.length),setCells (aa (f l[k])) off c=aa (f y)->setCells (rowOf f l) (k*sz+off) c=rowOf f (l.set k y)
 |x:: l,0,_,h=>by
  rw[d6,LH,KF,o5 (by rw[hs];exact hoff)];simp only[List.getElem_cons_zero]at h;rw[h,List.set_cons_zero,d6]
 |x:: l,k+1,hk,h=>by
  have e:(k+1)*sz+off=(aa (f x)).length+(k*sz+off):=by rw[hs,Mq];omega
  rw[d6,e,oz,kU hs hoff l k (by simpa using hk) (by simpa using h),List.set_cons_succ,d6]
def BA{α:Type}{f:α->AV}{sz:Nat}(hs:∀x,(aa (f x)).length=sz)(l:List α)(k:Nat)(hk:k<l.length)(off:Nat)(ho:off<sz):(rowOf f l)[k*sz+off]? = (aa (f l[k]))[off]?:=by
 rw[<- jg hs l k hk,KC,Kn ho,K9]
def zG{α:Type}{f:α->AV}(l:List α)(y:α):rowOf f l++aa (f y)=rowOf f (l++[y]):=by
 simp[rowOf]
def kd(x:AV)(h:Hp)(os:List Out):Prop:=(os=[]/\x= .hn)\/∃q,os≠[]/\x= .hs q 0 os.length 8 true/\h[q]? = some (rowOf Out.av os)
theorem CO{q n i:Nat}(h:i<n):aj T 35 (.hs q 0 n 8 true) (.int .i64 (i:Int))=some (.hp q (0+i*8)):=by
 have e:aj T 35 (.hs q 0 n 8 true) (.int .i64 (i:Int))=if 0<=(i:Int)/\(i:Int)<(n:Int)then some (.hp q (0+(i:Int).toNat*8))else none:=rfl;rw[e,Kn (by omega),LP]
def sT{q n:Nat}{h:Hp}{os:List Out}(hq:h[q]? = some (rowOf Out.av os))(hn:n<=os.length):OutsAt (.hs q 0 n 8 true) h (os.take n) where
 len:=by
  rw[Lw,LU hn];rfl
 get:=fun i hi=>by
  have hi':i<n:=by rw[Lw]at hi;omega
  refine⟨_,CO hi',?_⟩;have hlen:=ju (f:=Out.av) Fv os;rw[xk (T:=T) (t:=46) rfl rfl hq (show 0+i*8+8<=_ by omega)];show R.ok (AV.agg (((rowOf Out.av os).drop (0+i*8)).take 8)) h=_;rw[KF,jg Fv os i (by omega),jO,ny,List.getElem_take]
def kd.at{x:AV}{h:Hp}{os:List Out}(H:kd x h os):OutsAt x h os:=by
 rcases H with⟨rfl,rfl⟩|⟨q,h1,rfl,hq⟩
 ·exact⟨rfl,fun i hi=>by cases hi⟩
 ·have:=sT hq (Kk _)
  rwa [LR]at this
def kd.snoc{x:AV}{h:Hp}{os:List Out}(H:kd x h os)(hl:os.length<=1000)(o:Out):∃y h',appH T 35 false x (.sl [o.av]) h= .ok y h'/\kd y h' (os++[o]):=by
 rcases H with⟨rfl,rfl⟩|⟨q,h1,rfl,hq⟩
 ·refine⟨_,_,G8 (T:=T) (t:=35) (e:=46) rfl rfl rfl (gZ o) (by decide) (by decide) (by decide) h,.inr ⟨h.length,by simp,rfl,?_⟩⟩;simp[rowOf]
 ·have hlen:=ju (f:=Out.av) Fv os;have hok:(rowOf Out.av os).all aI=true:=by
   rw[KA];intro c hc;unfold rowOf at hc;obtain⟨a,ha,hca⟩:=MH.1 hc;obtain⟨o',_,rfl⟩:=Ly.1 ha;have h2:=gZ o';simp only[bv,Kj,KA]at h2;exact h2.2 c hca
  refine⟨_,_,G9 (T:=T) (t:=35) (e:=46) rfl rfl rfl (gZ o) (by decide) (by decide) hq hok hlen (by cases os with|nil=>exact absurd rfl h1|cons a l=>simp) (show (os.length+1)*144<=140737488355328 by omega),.inr ⟨h.length,by simp,by simp,?_⟩⟩;rw[zG];simp
theorem zL{q:Nat}{h:Hp}{os:List Out}(hq:h[q]? = some (rowOf Out.av os)){k:Nat}(hk:k<=os.length):∃y,cC T 35 (.hs q 0 os.length 8 true) none (some (.int .i64 (k:Int))) none=some y/\OutsAt y h (os.take k):=by
 have e:cC T 35 (.hs q 0 os.length 8 true) none (some (.int .i64 (k:Int))) none=(match (if 0<=(k:Int)/\(k:Int)<=(os.length:Int)then some (k:Int).toNat else none)with|none=>none|some h=>if 0<h then some (.hs q (0+0*8) (h-0) 8 true)else some (.sl [])):=rfl;rw[e,Kn (by omega)];simp only[LP];by_cases h0:0<k
 ·rw[Kn h0];exact⟨_,rfl,sT hq hk⟩
 ·have:k=0:=by omega
  subst this;rw[if_neg h0];exact⟨_,rfl,⟨rfl,fun i hi=>by simp at hi⟩⟩
def xl{t:Nat}{ti:TI}(ht:T t=some ti)(ha:ti.agg=false){q k off:Nat}{h:Hp}{os:List Out}(hq:h[q]? = some (rowOf Out.av os))(hk:k<os.length)(ho:off<8){v:AV}(hv:(aa os[k].av)[off]? = some v):a7 T t (.hp q (0+k*8+off)) h= .ok v h:=by
 refine EI ht ha hq ?_;rw[KF,BA Fv os k hk off ho,hv]
def uP{t:Nat}{ti:TI}(ht:T t=some ti)(h1:ti.size=1){q k off:Nat}{h:Hp}{os:List Out}(hq:h[q]? = some (rowOf Out.av os))(hk:k<os.length)(ho:off<8){v:AV}(hv:bv 1 v=true)(hc:aa v=[v]){y:Out}(hy:setCells (aa os[k].av) off [v]=aa y.av):
  bH T t (.hp q (0+k*8+off)) v h= .ok (.tup []) (h.set q (rowOf Out.av (os.set k y))):=by
 have hlen:=ju (f:=Out.av) Fv os;rw[BI ht hq (by rw[h1];exact hv) (by rw[h1];omega) (by rw[h1];decide),hc,KF,kU Fv (by simp;omega) os k hk hy]
def ww(a:Int):IntKind.i64.wrap (a+1)≠a:=by
 intro h;have e:(IntKind.i64.wrap (a+1)) % 18446744073709551616=(a+1) % 18446744073709551616:=by
  show (let m:=(a+1) % (2 ^ 64:Int);if(true&&m >= (2 ^ 63:Int))=true then m-(2 ^ 64:Int)else m) % 18446744073709551616=_;simp only[L8];split<;>omega
 rw[h]at e;omega
def Jt{p:List Mod}{cs:List Ap.Call}{w:List Int}{x:AV}{k:Nat}{h:Hp}(hp:ai pg 8 [mods p,calls cs,ints w,x] h= .ok (.tup [.int .i64 (k:Int),.bool false]) h):
  K3_0 (ai pg) ak [mods p,calls cs,ints w,.bool true,x,.int .i64 (k:Int),.int .i64 (k:Int),.bool false] h= .ok (.bool true) h:=by
 unfold K3_0;simp -implicitDefEqProofs only[aJ,bj];rw[cM hp];simp[M.pure]
def Ax{T:TT}{t:Nat}{x v:AV}{es:List AV}{h:Hp}(e:cu T t x (.sl es)=some v):mD T t x (.sl es) h= .ok v h:=by simp[mD,oC,e]
structure OutSm (o:Out):Prop where
 deeds:o.deeds.length<=100002
 calls:o.calls.length<=100002
 state:o.state.length<=100002
def yz(z:Int)(o:Out):Out:=
 if z== 0 then{ o with err:=IntKind.i64.wrap (o.err+1) }
 else if z== 1 then{ o with value:=.mk o.value.kind (IntKind.i64.wrap (o.value.n+1)) o.value.names o.value.values }
 else if z== 2 then{ o with deeds:=o.deeds++[⟨0,0,0⟩] }
 else if z== 3 then{ o with calls:=o.calls++[⟨[],[],[]⟩] }
 else{ o with state:=o.state++[⟨[],[]⟩] }
def m8{α:Type}(F:α->α->Bool)(a:List α)(y:α):c8 F a (a++[y])=false:=dF F _ _ (by simp)
def El(z:Int)(o:Out):gA o (yz z o)=false:=by
 unfold yz gA;split
 ·have:(o.err== IntKind.i64.wrap (o.err+1))=false:=by
   rw[LD];exact fun h=>ww _ h.symm
  simp only[this,Mf]
 split
 ·have:(o.value.n== IntKind.i64.wrap (o.value.n+1))=false:=by
   rw[LD];exact fun h=>ww _ h.symm
  have h2:ff o.value (.mk o.value.kind (IntKind.i64.wrap (o.value.n+1)) o.value.names o.value.values)=false:=by
   rw[tc];simp only[Val.n,Val.kind]at this |-;rw[this];simp
  simp only[h2,LI,Mf]
 split
 ·simp only[m8,LI,Mf]
 split
 ·simp only[m8,LI,Mf]
 ·simp only[m8,LI]
theorem H6{p:List Mod}(L:LimR p)(cs:List Ap.Call)(w:List Int)(hcs:cs.length<=1000)(hargs:∀c∈cs,aY c.args<=4611686018427387904)(hout:∀c∈cs,OutLim (eM p c.module c.func c.args w 100000))(hsm:∀c∈cs,OutSm (eM p c.module c.func c.args w 100000))(at_ what:Int)(ha0:0<=at_)(ha1:at_<=255){x:AV}{h:Hp}(H:kd x h (cs.map fun c=>eM p c.module c.func c.args w 100000)):
  ∃h',ak (L3_0 (ai pg) ak) [mods p,calls cs,ints w,.int .u8 at_,.int .u8 what,.bool true,x,.int .i64 cs.length] h= .ok (.bool true) h':=by
 generalize hR:(fun c:Ap.Call=>eM p c.module c.func c.args w 100000)=R at H;have hp1:=t8 L cs w hcs hargs hout H.at;rw[hR,uF]at hp1;generalize hcode:ak (L3_0 (ai pg) ak) [mods p,calls cs,ints w,.int .u8 at_,.int .u8 what,.bool true,x,.int .i64 cs.length] h=code;rw[FL3_0]at hcode;have hn:¬((cs.length:Int)<(cs.length:Int)):=by omega
 have hne:(((0+cs.length:Nat):Int) != (cs.length:Int))=false:=by simp
 simp -implicitDefEqProofs only[L3_0,aJ,bj,tB,bY,am,ax,KQ,hn,Ks]at hcode;rw[cM hp1]at hcode;simp -implicitDefEqProofs only[ca,Ku,KS,am,kf,hne,dC,Lx,cj,ay,aJ,g7,Bool.or_false,ax,Ki,Ks,ej]at hcode;by_cases h0:cs.length=0
 ·have e0:((cs.length:Int)== 0)=true:=by rw[h0];rfl
  simp -implicitDefEqProofs only[e0,Kt]at hcode;exact⟨h,hcode.symm⟩
 have e0:((cs.length:Int)== 0)=false:=by rw[LD];omega
 rcases H with⟨hnil,_⟩|⟨q,_,rfl,hq⟩
 ·exact absurd (by simpa using Kv List.length hnil) h0
 have hlen:(cs.map R).length=cs.length:=Mw ..;obtain⟨k,hk⟩:∃k:Nat,at_.tmod (cs.length:Int)=(k:Int):=⟨(at_.tmod (cs.length:Int)).toNat,(Int.toNat_of_nonneg (Int.tmod_nonneg _ ha0)).symm⟩;have hlt:k<cs.length:=by
  have:=Int.tmod_lt_of_pos at_ (show (0:Int)<(cs.length:Int) by omega)
  omega
 have hlt':k<(cs.map R).length:=by rw[hlen];exact hlt
 have hcv:rM T 5 3 (.int .u8 at_)=some (.int .i64 (IntKind.i64.wrap at_)):=rfl;have hrm:∀a b:Int,ao T .rem 3 (.int .i64 a) (.int .i64 b)=if b=0 then none else some (.int .i64 (a.tmod b)):=fun _ _=>rfl;have hn0:¬((cs.length:Int)=0):=by omega
 have hr8:ao T .rem 5 (.int .u8 what) (.int .u8 5)=some (.int .u8 (what.tmod 5)):=rfl;have he8:∀a b:Int,ao T .eql 5 (.int .u8 a) (.int .u8 b)=some (.bool (a== b)):=fun _ _=>rfl;obtain⟨y,hy,Hy⟩:=zL hq (Nat.le_of_lt hlt');have htk:(cs.map R).take k=(cs.take k).map R:=by rw[MS]
 have hp2:=t8 L cs w hcs hargs hout Hy;rw[hR,jd R cs _ 0 k hlt (by rw[htk,MS,L0,Nat.min_self]) (fun o c h1 h2=>by rw[Kr (by simp;omega)]at h1;cases h1),KF]at hp2;have hmem:cs[k]∈cs:=KB hlt;have hgk:(cs.map R)[k]=R cs[k]:=List.getElem_map ..;have hS:OutSm (R cs[k]):=by rw[<- hR];exact hsm _ hmem
 -- what follows a change
 have key:∀h2:Hp,h2[q]? = some (rowOf Out.av ((cs.map R).set k (yz (what.tmod 5) (R cs[k]))))->K3_0 (ai pg) ak [mods p,calls cs,ints w,.bool true,.hs q 0 (cs.map R).length 8 true,.int .i64 (k:Int),.int .i64 (k:Int),.bool false] h2= .ok (.bool true) h2:=by
  intro h2 hq2;have Hs:kd (.hs q 0 (cs.map R).length 8 true) h2 ((cs.map R).set k (yz (what.tmod 5) (R cs[k]))):=.inr ⟨q,by intro e;have:=Kv List.length e;simp at this;exact h0 (by rw[this];rfl),by rw[LM],hq2⟩;have hp3:=t8 L cs w hcs hargs hout Hs.at;rw[hR,jd R cs _ 0 k hlt (by rw[List.take_set_of_le (Kk _),htk]) (fun o c h1 h2=>by
   rw[Lf (by simpa using hlt)]at h1;rw[Kl hlt]at h2;cases h1;cases h2;exact El _ _),KF]at hp3
  exact Jt hp3
 have hset:∀r:List AV,(h.set q r)[q]? = some r:=fun r=>Lf (Kz.1 hq).1;simp -implicitDefEqProofs only[e0,Ki,Ks,hcv,am,bo (show -9223372036854775808<=at_ by omega) (show at_<=9223372036854775807 by omega),hrm,hn0,hk,hy]at hcode;rw[cM hp2]at hcode;simp -implicitDefEqProofs only[ca,Ku,KS,am,lz,hr8,he8,ax,CO hlt',FH46_0,FH46_1,FH46_2,FH46_3,FH46_4,FH42_1]at hcode;generalize hz:what.tmod 5=z at *;have hea:∀a:Int,ao T .add 40 (.int .i64 a) (.int .i64 1)=some (.int .i64 (IntKind.i64.wrap (a+1))):=fun _=>rfl;have sets:∀(off:Nat)(v:AV),off<8->bv 1 v=true->aa v=[v]->setCells (aa (R cs[k]).av) off [v]=aa (yz z (R cs[k])).av->∀(t:Nat)(ti:TI),T t=some ti->ti.size=1->bH T t (.hp q (0+k*8+off)) v h= .ok (.tup []) (h.set q (rowOf Out.av ((cs.map R).set k (yz z (R cs[k]))))):=fun off v ho hv hc hy t ti ht h1=>uP ht h1 hq hlt' ho hv hc (by rw[hgk];exact hy);have gets:∀(off:Nat)(v:AV),off<8->(aa (R cs[k]).av)[off]? = some v->∀(t:Nat)(ti:TI),T t=some ti->ti.agg=false->a7 T t (.hp q (0+k*8+off)) h= .ok v h:=fun off v ho hv t ti ht ha=>xl ht ha hq hlt' ho (by rw[hgk];exact hv);generalize R cs[k]=o at *;by_cases z0:(z== 0)=true
 ·simp only[z0,Kt]at hcode;rw[cM (gets 0 (.int .i64 o.err) (by decide) rfl 40 _ rfl rfl)]at hcode;simp -implicitDefEqProofs only[hea,am]at hcode;rw[cM (sets 0 _ (by decide) rfl rfl (by simp only[yz,z0,Kt];rfl) 40 _ rfl rfl),key _ (hset _)]at hcode;exact⟨_,hcode.symm⟩
 by_cases z1:(z== 1)=true
 ·simp only[z0,z1,Ki,Ks,Kt]at hcode;rw[cM (gets 2 (.int .i64 o.value.n) (by decide) rfl 3 _ rfl rfl)]at hcode;simp -implicitDefEqProofs only[dx,am]at hcode;rw[cM (sets 2 _ (by decide) rfl rfl (by simp only[yz,z0,z1,Ki,Ks,Kt];rfl) 3 _ rfl rfl),key _ (hset _)]at hcode;exact⟨_,hcode.symm⟩
 by_cases z2:(z== 2)=true
 ·simp only[z0,z1,z2,Ki,Ks,Kt]at hcode;have hd:=hS.deeds;have b0:aD T 43 0 []=some (deeds []):=rfl;have b1:bi T false 51 []=some (Deed.av ⟨0,0,0⟩):=rfl;have b2:aD T 43 1 [(0,Deed.av ⟨0,0,0⟩)]=some (deeds [⟨0,0,0⟩]):=rfl;have a1:=FY (a:=[]) (b:=o.deeds) (by simp;omega);have a2:=FY (a:=o.deeds) (b:=[⟨0,0,0⟩]) (by simp;omega);rw[KL]at a1;simp -implicitDefEqProofs only[b0,am]at hcode;rw[cM (gets 5 (deeds o.deeds) (by decide) rfl 43 _ rfl rfl)]at hcode;simp -implicitDefEqProofs only[a1,b1,b2,a2,am]at hcode;rw[cM (sets 5 _ (by decide) rfl rfl (by simp only[yz,z0,z1,z2,Ki,Ks,Kt];rfl) 43 _ rfl rfl),key _ (hset _)]at hcode;exact⟨_,hcode.symm⟩
 by_cases z3:(z== 3)=true
 ·simp only[z0,z1,z2,z3,Ki,Ks,Kt]at hcode;have hd:=hS.calls;have b0:aD T 23 0 []=some (calls []):=rfl;have b1:bi T false 39 []=some (Ap.Call.av ⟨[],[],[]⟩):=rfl;have b2:aD T 23 1 [(0,Ap.Call.av ⟨[],[],[]⟩)]=some (calls [⟨[],[],[]⟩]):=rfl;have a1:=FW (a:=[]) (b:=o.calls) (by simp;omega);have a2:=FW (a:=o.calls) (b:=[⟨[],[],[]⟩]) (by simp;omega);rw[KL]at a1;simp -implicitDefEqProofs only[b0,am]at hcode;rw[cM (gets 6 (calls o.calls) (by decide) rfl 23 _ rfl rfl)]at hcode;simp -implicitDefEqProofs only[a1,b1,b2,a2,am]at hcode;rw[cM (sets 6 _ (by decide) rfl rfl (by simp only[yz,z0,z1,z2,z3,Ki,Ks,Kt];rfl) 23 _ rfl rfl),key _ (hset _)]at hcode;exact⟨_,hcode.symm⟩
 ·simp only[z0,z1,z2,z3,Ki,Ks]at hcode;have hd:=hS.state;have b0:aD T 44 0 []=some (bJ []):=rfl;have b1:bi T false 53 []=some (Vars.av ⟨[],[]⟩):=rfl;have b2:aD T 44 1 [(0,Vars.av ⟨[],[]⟩)]=some (bJ [⟨[],[]⟩]):=rfl;have a1:=CW (a:=[]) (b:=o.state) (by simp;omega);have a2:=CW (a:=o.state) (b:=[⟨[],[]⟩]) (by simp;omega);rw[KL]at a1;have r1:mD T 44 (bJ []) (bJ o.state) h= .ok (bJ o.state) h:=Ax a1;simp -implicitDefEqProofs only[b0,am]at hcode;rw[cM (gets 7 (bJ o.state) (by decide) rfl 44 _ rfl rfl),cM r1]at hcode;simp -implicitDefEqProofs only[b1,b2,a2,am]at hcode;rw[cM (sets 7 _ (by decide) rfl rfl (by simp only[yz,z0,z1,z2,z3,Ki,Ks];rfl) 44 _ rfl rfl),key _ (hset _)]at hcode;exact⟨_,hcode.symm⟩
end Go.Proofs.YtmgjpakjlbofpaaGreat
namespace Go.Proofs.YtmgjpakjlbofpaaGreat
open Go Go.Av
set_option maxRecDepth 1000000
def oB(s:UInt8)(op n:Int)(c:List UInt8):AV:=.agg [.str [s],.bool true,.sl [],.int .i64 0,.sl [],.int .i64 0,.int .i64 op,.int .i64 n,.str c,.str [],.sl [],.sl []]
def dR(l:List AV):AV:=.agg [.str [103,101,111],.sl [],.sl [],.sl [],.sl l,.bool false,.sl [],.sl [],.sl []]
def Fj:AV:=.agg [.str [],.sl [],.sl [],.sl [],.sl [],.bool false,.sl [],.sl [],.sl []]
def Fi(c:UInt8):AV:=.agg [.str [c],.int .i64 0,.sl []]
def BH:AV:=.agg [.int .i64 0,.int .i64 0,.str [],.str [],.sl [],.sl []]
def qV:=oB 97 0 1 []
def xJ:=oB 97 0 5 []
def BD:=oB 97 0 6 []
def gG:=oB 98 0 2 []
def BE:=oB 98 0 6 []
def BF:=oB 99 0 7 []
def HY:=oB 98 15 0 [97]
def mH:=dR [qV,gG]
def HZ:AV:=.agg [.str [103,101,111],.sl [],.sl [Fi 120],.sl [BH],.sl [qV,gG],.bool true,.sl [],.sl [BH],.sl []]
def H3:AV:=.agg [.str [103,101,111],.sl [],.sl [Fi 120,Fi 121],.sl [BH,BH],.sl [qV,gG],.bool false,.sl [],.sl [],.sl []]
def mz(s:List UInt8)(e:Int):AV:=.tup [Fj,.str s,.int .i64 e]
def qW(l:List AV):AV:=.tup [dR l,.str [],.int .i64 0]
def JE:b9 pg 60 11 [mH,dR [xJ,gG],dR [qV,BE],.sl []] []= .ok (qW [xJ,BE]) []:=by kernel_rfl
def JF:b9 pg 60 11 [mH,dR [gG],dR [qV,gG,BF],.sl []] []= .ok (qW [gG,BF]) []:=by kernel_rfl
def JG:b9 pg 60 11 [mH,dR [xJ,gG],dR [BD,gG],.sl []] []= .ok (mz [97] 27) []:=by kernel_rfl
def JH:b9 pg 60 11 [mH,dR [gG],dR [BD,gG],.sl []] []= .ok (mz [97] 27) []:=by kernel_rfl
def JI:b9 pg 60 11 [mH,dR [gG],dR [qV,HY],.sl []] []= .ok (mz [98] 12) []:=by kernel_rfl
def JJ:b9 pg 60 11 [mH,HZ,H3,.sl []] []= .ok (mz [109,111,118,101] 27) []:=by kernel_rfl
def pR{a:List AV}{v:AV}(ha:de ar a=a)(h:b9 pg 60 11 a []= .ok v []):ai pg 11 a=M.pure v:=by
 have e:ai pg 11 a=aH (b6 (pg.cx (ai pg) Tryz.f11.ntmps xU) ak Tryz.f11 (pg.own 11) (de ar a)):=aA aG rfl rfl rfl a;have h1:=yy aG h (by simp);rw[e]at h1 |-;funext hp;unfold aH at h1 |-;generalize b6 (pg.cx (ai pg) Tryz.f11.ntmps xU) ak Tryz.f11 (pg.own 11) (de ar a) []=r at h1 |-;cases r with
 |ok w h'=>
  simp only[R.ok.injEq]at h1;show R.ok (iU 6 h' w) hp=_;rw[h1.1];rfl
 |pan w h'=>cases h1
 |fail=>cases h1
def BG:List (List AV×AV):=[([mH,dR [xJ,gG],dR [qV,BE],.sl []],qW [xJ,BE]),([mH,dR [gG],dR [qV,gG,BF],.sl []],qW [gG,BF]),([mH,dR [xJ,gG],dR [BD,gG],.sl []],mz [97] 27),([mH,dR [gG],dR [BD,gG],.sl []],mz [97] 27),([mH,dR [gG],dR [qV,HY],.sl []],mz [98] 12),([mH,HZ,H3,.sl []],mz [109,111,118,101] 27)]
def Fl:∀x∈BG,de ar x.1=x.1/\ai pg 11 x.1=M.pure x.2:=by
 intro x hx;simp only[BG,KI,List.not_mem_nil,or_false]at hx;rcases hx with rfl|rfl|rfl|rfl|rfl|rfl
 ·exact⟨by kernel_rfl,pR (by kernel_rfl) JE⟩
 ·exact⟨by kernel_rfl,pR (by kernel_rfl) JF⟩
 ·exact⟨by kernel_rfl,pR (by kernel_rfl) JG⟩
 ·exact⟨by kernel_rfl,pR (by kernel_rfl) JH⟩
 ·exact⟨by kernel_rfl,pR (by kernel_rfl) JI⟩
 ·exact⟨by kernel_rfl,pR (by kernel_rfl) JJ⟩
def JD:fw pg (zR pg 11 60 BG) (cm 60) 4 [] []= .ok (.bool true) []:=by kernel_rfl
def jw:ai pg 4 []=M.pure (.bool true):=by
 funext h;have h1:=wL aG (wn aG 11 (aA aG rfl rfl rfl) 60 BG Fl) JD (by simp);have e:∀h,ai pg 4 [] h=aH (b6 (pg.cx (ai pg) Tryz.f4.ntmps D6) ak Tryz.f4 (pg.own 4) (de ar [])) h:=fun h=>MR (aA aG rfl rfl rfl []) h;rw[e]at h1 |-;unfold aH at h1 |-;generalize b6 (pg.cx (ai pg) Tryz.f4.ntmps D6) ak Tryz.f4 (pg.own 4) (de ar []) []=r at h1 |-;cases r with
 |ok v h'=>
  simp only[R.ok.injEq]at h1;show R.ok (iU 6 h' v) h=_;rw[h1.1];rfl
 |pan v h'=>cases h1
 |fail=>cases h1
end Go.Proofs.YtmgjpakjlbofpaaGreat
namespace Go.Proofs.YtmgjpakjlbofpaaGreat
open Go Go.Av Go.Av.Ap
set_option maxRecDepth 100000
def yS{p:List Mod}(h1:p.length<=2)(h2:∀m∈p,FewMod m)(c:Ap.Call)(w:List Int):OutSm (eM p c.module c.func c.args w 100000):=by
 have h:=wg (B:=8) p c.module c.func c.args w 100000 fun m hm=>⟨(h2 m hm).vars,fun f hf=>((h2 m hm).body f hf).2⟩;exact⟨h.deeds,h.calls,by have:=h.state;omega⟩
theorem EN{p:List Mod}(h1:p.length<=2)(h2:∀m∈p,FewMod m)(cs:List Ap.Call)(w:List Int)(hcs:cs.length<=4)(hl:∀c∈cs,c.args.length<=140737488355328/\∀v∈c.args,v.Lim)(at_ what:Int)(ha0:0<=at_)(ha1:at_<=255):
  ∀(r i:Nat),cs.length-i=r->i<=cs.length->(∀c∈cs.take i,aY c.args<=4611686018427387904)->∀(x:AV)(h:Hp),kd x h ((cs.take i).map fun c=>eM p c.module c.func c.args w 100000)->
  ∃b h',ak (L3_0 (ai pg) ak) [mods p,calls cs,ints w,.int .u8 at_,.int .u8 what,.bool true,x,.int .i64 i] h= .ok (.bool true) h'/\b=true:=by
 have L:=yR (by omega) h2;intro r
 induction r with
 |zero=>
  intro i hr hi hv x h H;obtain rfl:i=cs.length:=by omega
  rw[LR]at hv H;obtain⟨h',e⟩:=H6 L cs w (by omega) hv (fun c _=>uf (by omega) h2 ..) (fun c _=>yS h1 h2 c w) at_ what ha0 ha1 H;exact⟨true,h',e,rfl⟩
 | succ r ih=>
  intro i hr hi hv x h H;have hlt:i<cs.length:=by omega
  have h1:(i:Int)<(cs.length:Int):=by omega
  have hix:=Aj (l:=cs) (n:=(i:Int)) (by omega) h1;rw[LP,KM cs i hlt]at hix;have hmem:=KB hlt;have hw:IntKind.i64.wrap ((i:Int)+1)=((i+1:Nat):Int):=dQ (by omega);have htk:cs.take (i+1)=cs.take i++[cs[i]]:=by rw[List.take_add_one,Kl hlt];rfl
  obtain⟨b,hb,hs⟩:=t6 cs[i].args (hl _ hmem).1 (hl _ hmem).2;have hsn:=kd.snoc H (by simp;omega) (eM p cs[i].module cs[i].func cs[i].args w 100000);have ih':=ih (i+1) (by omega) (by omega);rw[htk]at ih';have hrun:=t7 L cs[i].module cs[i].func cs[i].args w 100000;generalize cs[i]=c at *;generalize hcode:ak (L3_0 (ai pg) ak) [mods p,calls cs,ints w,.int .u8 at_,.int .u8 what,.bool true,x,.int .i64 i] h=code;rw[FL3_0]at hcode;simp -implicitDefEqProofs only[L3_0,aJ,bj,tB,bY,am,ax,h1,Ll,Kt,hix,gm,FA39_0,FA39_1,FA39_2,KV,KP,LD9,LD37,hb,ay,dC]at hcode;cases b with
  |false=>
   simp -implicitDefEqProofs only[Mg,Kt]at hcode;exact⟨true,h,hcode.symm,rfl⟩
  | true=>
   have hsz:=hs rfl;have hbs:aD T 35 1 [(0,(eM p c.module c.func c.args w 100000).av)]=some (.sl [(eM p c.module c.func c.args w 100000).av]):=rfl;obtain⟨y,h',e1,H'⟩:=hsn;simp -implicitDefEqProofs only[Lx,Ki,Ks,hrun hsz,dk,ay,hbs,am]at hcode;rw[cM e1]at hcode;simp -implicitDefEqProofs only[dx,am,hw]at hcode;obtain⟨b',h2',e2,_⟩:=ih' (fun d hd=>by
    rcases KG.1 hd with hd|hd
    ·exact hv d hd
    ·rw[Lh]at hd;subst hd;exact hsz) y h' (by rw[Mv];exact H')
   exact⟨true,h2',hcode.symm.trans e2,rfl⟩
def EO{p:List Mod}(h1:p.length<=2)(hM:∀m∈p,m.Lim)(cs:List Ap.Call)(w:List Int)(hcs:cs.length<=4)(hl:∀c∈cs,c.args.length<=140737488355328/\∀v∈c.args,v.Lim)(at_ what:Int)(ha0:0<=at_)(ha1:at_<=255):
  ∀(r i:Nat),p.length-i=r->i<=p.length->(∀m∈p.take i,FewMod m)->
  ∃h',ak (L3_1 (ai pg) ak) [mods p,calls cs,ints w,.int .u8 at_,.int .u8 what,.bool true,.int .i64 i] []= .ok (.bool true) h':=by
 intro r
 induction r with
 |zero=>
  intro i hr hi hv;obtain rfl:i=p.length:=by omega
  rw[LR]at hv;obtain⟨b,h',e,_⟩:=EN h1 hv cs w hcs hl at_ what ha0 ha1 cs.length 0 rfl (by omega) (by simp) .hn [] (.inl ⟨rfl,rfl⟩);generalize hcode:ak (L3_1 (ai pg) ak) [mods p,calls cs,ints w,.int .u8 at_,.int .u8 what,.bool true,.int .i64 p.length] []=code;rw[FL3_1]at hcode;have hn:¬((p.length:Int)<(p.length:Int)):=by omega
  simp -implicitDefEqProofs only[L3_1,aJ,bj,mV,bY,am,ax,KQ,hn,Ks]at hcode;exact⟨h',hcode.symm.trans e⟩
 | succ r ih=>
  intro i hr hi hv;have hlt:i<p.length:=by omega
  have g1:(i:Int)<(p.length:Int):=by omega
  have hix:=rj (l:=p) (n:=(i:Int)) (by omega) g1;rw[LP,KM p i hlt]at hix;have hmem:=KB hlt;have hw:IntKind.i64.wrap ((i:Int)+1)=((i+1:Nat):Int):=dQ (by omega);have htk:p.take (i+1)=p.take i++[p[i]]:=by rw[List.take_add_one,Kl hlt];rfl
  obtain⟨b,hb,hs⟩:=t5 p[i] (hM _ hmem);have ih':=ih (i+1) (by omega) (by omega);rw[htk]at ih';generalize p[i]=m at *;generalize hcode:ak (L3_1 (ai pg) ak) [mods p,calls cs,ints w,.int .u8 at_,.int .u8 what,.bool true,.int .i64 i] []=code;rw[FL3_1]at hcode;have hld:af T 34 (.ip (aa m.av))=some m.av:=by simp
  simp -implicitDefEqProofs only[L3_1,aJ,bj,mV,bY,am,ax,g1,Ll,Kt,hix,hld,hb,ay,dC]at hcode;cases b with
  |false=>
   simp -implicitDefEqProofs only[Mg,Kt]at hcode;exact⟨[],hcode.symm⟩
  | true=>
   simp -implicitDefEqProofs only[Lx,Ki,Ks,dx,am,hw]at hcode;obtain⟨h',e⟩:=ih' fun d hd=>by
    rcases KG.1 hd with hd|hd
    ·exact hv d hd
    ·rw[Lh]at hd;subst hd;exact hs rfl
   exact⟨h',hcode.symm.trans e⟩
def t3(p:List Mod)(cs:List Ap.Call)(w:List Int)(at_ what:Int)(hM:∀m∈p,m.Lim)(hl:∀c∈cs,c.args.length<=140737488355328/\∀v∈c.args,v.Lim)(ha0:0<=at_)(ha1:at_<=255):
  ai pg 3 [mods p,calls cs,ints w,.int .u8 at_,.int .u8 what]=M.pure (.bool true):=by
 have hcl2:∀n:Int,cl ar (.int .u8 n)= .int .u8 n:=fun _=>rfl;rw[C3,ic,rH,qk,hcl2,hcl2];have key:∃h',S3 (ai pg) ak (mods p) (calls cs) (ints w) (.int .u8 at_) (.int .u8 what) []= .ok (.bool true) h':=by
  by_cases h1:p.length<=2
  ·by_cases h2:cs.length<=4
   ·by_cases h3:w.length<=30
    ·obtain⟨h',e⟩:=EO h1 hM cs w h2 hl at_ what ha0 ha1 p.length 0 rfl (by omega) (by simp);have g1:¬(2<(p.length:Int)):=by omega
     have g2:¬(4<(cs.length:Int)):=by omega
     have g3:¬(30<(w.length:Int)):=by omega
     refine⟨h',?_⟩;simp at e;simp[S3,jw,g1,g2,g3,e]
    ·have g1:¬(2<(p.length:Int)):=by omega
     have g2:¬(4<(cs.length:Int)):=by omega
     have g3:30<(w.length:Int):=by omega
     exact⟨[],by simp[S3,jw,g1,g2,g3,M.pure]⟩
   ·have g1:¬(2<(p.length:Int)):=by omega
    have g2:4<(cs.length:Int):=by omega
    exact⟨[],by simp[S3,jw,g1,g2,M.pure]⟩
  ·have g1:2<(p.length:Int):=by omega
   exact⟨[],by simp[S3,jw,g1,M.pure]⟩
 obtain⟨h',e⟩:=key;funext h;unfold aH;rw[e];rfl
end Go.Proofs.YtmgjpakjlbofpaaGreat
namespace Go.Proofs.YtmgjpakjlbofpaaGreat.patchPasses
open Go Go.Av Go.Av.Ap Go.ChangeShapes Go.WideShapes Go.ChangeAt Go.RowKit Go.Joins Go.Deep
set_option maxRecDepth 1000000
def kids:Kids Tryz.prog (· < Tryz.prog.types.size):=kids_rows (by kernel_rfl) (by kernel_rfl)
def tf:∀t e,t<Tryz.prog.types.size->Tryz.prog.underlying t=some (.slice e)->0<Tryz.prog.cellsOf e:=slices_full_of Tryz.prog (by kernel_rfl)
def yH(H:Type)(enc:TypeId×Value->H)(W:World)(base:Nat)(args:Array Value)(ds gs:List (DataW H))(before:List MemPlace)(hval:∀(j:Nat) t v,Tryz.f3.params[j]? = some t->args[j]? = some v->Value.okWide Tryz.prog W .any base t v)(hW:DataW.Whole enc Tryz.prog Tryz.f3.params.toList Rows.patchPassesSpec.vars false W args.toList ds gs before)(hz:(DataW.weightsEach Tryz.prog (Tryz.f3.params.toList++Rows.patchPassesSpec.plain.varTypes Tryz.prog) (ds++gs)).all (· <=reachBytes)=true)(hL:laidMetH Tryz.prog Rows.patchPassesRow.laid W)(hS:W.ShapedOpen Tryz.prog):
  Calls Tryz.prog 3 args W fun e W'=>∃v,e= .returned v/\Rows.patchPassesSpec.post enc Tryz.prog Tryz.f3 false true false false W args v W':=by
 have hW':=hW;obtain⟨p,q,hA0,hV,rfl,hfz,hnd⟩:=hW;have hA:DataW.TrodAll enc Tryz.prog W 0 (fun _=>true) true Tryz.f3.params.toList args.toList ds p:=hA0;have hA1:=hA;rw[Tryz.params3]at hA hval hz;obtain⟨v0,vs0,d0,ds0,p0,q0,ha0,rfl,rfl,h0,r0⟩:=trodAll_cons hA;obtain⟨v1,vs1,d1,ds1,p1,q1,ha1,rfl,rfl,h1,r1⟩:=trodAll_cons r0;obtain⟨v2,vs2,d2,ds2,p2,q2,ha2,rfl,rfl,h2,r2⟩:=trodAll_cons r1;obtain⟨v3,vs3,d3,ds3,p3,q3,ha3,rfl,rfl,h3,r3⟩:=trodAll_cons r2;obtain⟨v4,vs4,d4,ds4,p4,q4,ha4,rfl,rfl,h4,r4⟩:=trodAll_cons r3;obtain⟨hnil,rfl,rfl⟩:=trodAll_nil r4;subst hnil;subst ha4;subst ha3;subst ha2;subst ha1;obtain rfl:args= #[v0,v1,v2,v3,v4]:=by cases args;simp_all
 obtain⟨rfl,rfl⟩:=trodVars_none hV;obtain⟨x0,k0,o0⟩:=li (fun N=>Bv N) Tryz.underlying22 (hval 0 22 v0 rfl rfl) h0 (fT hz (j:=0) rfl rfl);obtain⟨x1,k1,o1⟩:=li (fun N=>zB N) Tryz.underlying23 (hval 1 23 v1 rfl rfl) h1 (fT hz (j:=1) rfl rfl);obtain⟨x2,k2,o2⟩:=li (fun N=>Bu N) Tryz.underlying24 (hval 2 24 v2 rfl rfl) h2 (fT hz (j:=2) rfl rfl);obtain⟨x3,k3,o3⟩:=vj (fun N=>iw Tryz.underlying5) Tryz.underlying5 (hval 3 5 v3 rfl rfl) h3 (fT hz (j:=3) rfl rfl);obtain⟨x4,k4,o4⟩:=vj (fun N=>iw Tryz.underlying5) Tryz.underlying5 (hval 4 5 v4 rfl rfl) h4 (fT hz (j:=4) rfl rfl);clear hA0;simp only[Lk]at hW' hA1;have hlt:=hW'.lt;have hv:bc (jQ W) [] [mods x0,Ap.calls x1,ints x2,.int .u8 x3,.int .u8 x4] [v0,v1,v2,v3,v4]:=by
  simp only[bc];exact⟨_,_,rfl,k0,_,_,rfl,k1,_,_,rfl,k2,_,_,rfl,k3,_,_,rfl,k4,rfl⟩
 refine (xi Ju aG (EB hS) hv (by rw[t3 x0 x1 x2 x3 x4 o0.2 (fun c hc=>⟨(o1.2 c hc).len,(o1.2 c hc).args⟩) (zY o3).1 (zY o3).2];rfl)).mono fun e W' ⟨he,hb⟩=>?_;subst he;exact⟨_,rfl,oZ (pv:=[]) hW' (fun _ _ _=>trodAll_cons_mk (shut_bool Tryz.underlying4 _) trodAll_mk0) (fun sp hsp=>
   tI kids tf (by rw[Tryz.params3];decide +kernel) hA1 hlt hb sp hsp) (fun _ _=>rfl) (by simp)
  hb (ok_one (by kernel_rfl) rfl (okWide_bool_mk Tryz.underlying4 _))⟩
def reads(os:Os){H:Type}(enc:TypeId×Value->H):∃ds places,DataW.whole enc Tryz.prog ((pB os).forCall (fun _ _=>0) ⟨#[],#[.slice none 0 0,.slice none 0 0,.slice none 0 0,.int .u8 0,.int .u8 0],[]⟩).memory Tryz.f3.params.toList Rows.patchPassesSpec.vars false #[.slice none 0 0,.slice none 0 0,.slice none 0 0,.int .u8 0,.int .u8 0].toList 8=some (ds,[],places):=
 ⟨[.nil,.nil,.nil,.lit (.int .u8 0),.lit (.int .u8 0)],[],by kernel_rfl⟩
def lifted(os:Os)(started:os.Started)(H:Type)(enc:TypeId×Value->H)(F:Stop.Interp):
  ReturnsInHanded {} Tryz.checked os 3 .any ((OpenSpec.ofChange Rows.patchPassesSpec).preRow enc Tryz.prog Tryz.f3 Rows.patchPassesRow.domain false Rows.patchPassesRow.laid) (((OpenSpec.ofChange Rows.patchPassesSpec).at F).post enc Tryz.prog Tryz.f3 false true false false):=by
 obtain⟨ds,places,hx⟩:=reads os enc;refine returnsInHanded_of_row (C:=Tryz.checked) (s:=OpenSpec.ofChange Rows.patchPassesSpec) JC started (by kernel_rfl) Tryz.func3
  (witness_row_atRef (enc:=enc) (C:=Tryz.checked) false (pB os) #[.slice none 0 0,.slice none 0 0,.slice none 0 0,.int .u8 0,.int .u8 0] rfl (by kernel_rfl) (by kernel_rfl) (by kernel_rfl)
   (OpenSpec.preRow_of_cond 8 hx (by kernel_rfl) (fun k hk=>by cases hk) (by kernel_rfl) (laidMet_nil _ _))) ?_
 intro W base args ds gs before hval hW _ _ hz hL hS _;exact yH H enc W base args ds gs before hval hW hz hL hS
end Go.Proofs.YtmgjpakjlbofpaaGreat.patchPasses
