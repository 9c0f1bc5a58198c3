/- What the functions of the seat compute, part 9: the texts of the claim, one behind the other. Conditions: bounds, as each theorem names them. -/
import Derived.Test.YtblddnfanlkgiaaGreatTh
import Derived.Test.YtblddnfanlkgiaaGreatLd
import Derived.Lib.SmallJoins
set_option linter.defProp false
set_option linter.unusedSimpArgs false
set_option linter.unusedVariables false
namespace Go.Proofs.YtblddnfanlkgiaaGreat
open Go Go.Av Go.Av.Ap
set_option maxRecDepth 100000
mutual
def eI:Exp->Prop
 |.mk _ _ _ _ ns es=>ns.length<=8796093022208/\es.length<=274877906944/\rJ es
def rJ:List Exp->Prop
 |[]=>True
 |e:: es=>eI e/\rJ es
end
def zg{e x:Exp}(h:x∈e.args):SizeOf.sizeOf x<SizeOf.sizeOf e:=by
 cases e with
 |mk o n s m ns es=>
  have h1:=Ld h;have h3:SizeOf.sizeOf x<SizeOf.sizeOf es:=h1;simp only[Exp.mk.sizeOf_spec];omega
def yE(Q:Prop)(most:Int)(m:M AV):Prop:=∃n,m=M.pure (.int .i64 n)/\1<=n/\n<=most+1/\(n<=most->Q)
theorem oI:(l:List Exp)->(∀x∈l,eI x)->rJ l
 |[],_=>trivial
 |x:: l,h=>⟨h x KX,oI l fun y hy=>h y (KW _ hy)⟩
def xM{e:Exp}(h1:e.names.length<=8796093022208)(h2:e.args.length<=274877906944)(h3:∀x∈e.args,eI x):eI e:=by
 obtain⟨o,n,s,m,ns,es⟩:=e;exact⟨h1,h2,oI es h3⟩
def wo(e:Exp):Prop:=∀most depth:Int,0<=most->most<=1099511627->depth<=1099511627776->yE (eI e) most (af pg 80 [e.av,.int .i64 most,.int .i64 depth])
def Fp(e:Exp)(hL:e.Lim)(ih:∀x∈e.args,wo x)(most depth:Int)(h0:0<=most)(h1:most<=1099511627)(h2:depth<=1099511627776)(h3:1<=depth):
  ∀(r:Nat)(n i:Int),e.args.length-i.toNat=r->0<=i->i<=e.args.length->1<=n->n<=most+1->i+1<=n->yE (e.args.length<=most/\∀x∈e.args.drop i.toNat,eI x) most (aj (L80_0 (af pg) aj) [.int .i64 most,.int .i64 depth,.ip (ab e.av),.int .i64 n,.int .i64 i]):=by
 intro r
 induction r with
 |zero=>
  intro n i hr hi hb hn hm hin;rw[FL80_0];simp only[L80_0];have h1:¬(i<(e.args.length:Int)):=by omega
  simp[h1];exact⟨n,rfl,hn,hm,fun h=>⟨by omega,fun x hx=>by rw[JQ (by omega)]at hx;cases hx⟩⟩
 | succ r IH=>
  intro n i hr hi hb hn hm hin;have hlen:=hL.len;have h5:i<(e.args.length:Int):=by omega
  have hlt:i.toNat<e.args.length:=by omega
  rw[FL80_0];simp only[L80_0];by_cases hs:n<=most
  ·obtain⟨k,hk,hk1,hk2,hk3⟩:=ih e.args[i.toNat] (JP hlt) (most-n) (depth-1) (by omega) (by omega) (by omega);obtain⟨n',q1,q2,q3,q4⟩:=IH (n+k) (i+1) (by omega) (by omega) (by omega) (by omega) (by omega) (by omega);have h4:yE (e.args.length<=most/\∀x∈e.args.drop i.toNat,eI x) most (aj (L80_0 (af pg) aj) [.int .i64 most,.int .i64 depth,.ip (ab e.av),.int .i64 (n+k),.int .i64 (i+1)]):=by
    by_cases hk4:k<=most-n
    ·refine⟨n',q1,q2,q3,fun h=>⟨(q4 h).1,fun x hx=>?_⟩⟩;rw[JS hlt]at hx;rcases Kc.1 hx with rfl|hx
     ·exact hk3 hk4
     ·exact (q4 h).2 x (by rw[show (i+1).toNat=i.toNat+1 by omega];exact hx)
    ·have hstop:aj (L80_0 (af pg) aj) [.int .i64 most,.int .i64 depth,.ip (ab e.av),.int .i64 (n+k),.int .i64 (i+1)]=M.pure (.int .i64 (n+k)):=by
      rw[FL80_0];simp only[L80_0];have h6:¬(n+k<=most):=by omega
      simp[h6]
     exact⟨n+k,hstop,by omega,by omega,fun h=>by omega⟩
   simp (disch:=omega) [h5,hs,jx,J1 e.args i.toNat hlt,bE,hk];simpa using h4
  ·simp[h5,hs];exact⟨n,rfl,hn,hm,fun h=>absurd h hs⟩
def t80:∀(N:Nat)(e:Exp),SizeOf.sizeOf e<=N->e.Lim->wo e:=by
 intro N
 induction N with
 |zero=>intro e he;cases e;simp at he
 | succ N ih=>
  intro e he hL most depth h0 h1 h2;rw[C80];have h4:1<=depth->_:=fun h3=>Fp e hL (fun x hx=>ih x (by have:=zg hx;omega) (hL.kid hx)) most depth h0 h1 h2 h3 e.args.length 1 0 rfl (by omega) (by omega) (by omega) (by omega) (by omega);simp[S80];by_cases hc:depth<1
  ·simp[hc];rw[bE (by omega) (by omega)];exact⟨_,rfl,by omega,by omega,fun h=>by omega⟩
  ·by_cases hk:10<(e.names.length:Int)
   ·simp[hc,hk];rw[bE (by omega) (by omega)];exact⟨_,rfl,by omega,by omega,fun h=>by omega⟩
   ·simp[hc,hk];obtain⟨n,hn,b1,b2,b3⟩:=h4 (by omega);simp at hn;rw[hn,lH];refine⟨n,rfl,b1,b2,fun h=>xM hL.names ?_ fun x hx=>(b3 h).2 x (by simpa using hx)⟩
    have:=(b3 h).1
    omega
def t45(e:Exp)(h:e.Lim):∃b,af pg 45 [e.av]=M.pure (.bool b)/\(b=true->eI e):=by
 obtain⟨n,hn,_,_,b3⟩:=t80 _ e (JO _) h 60 14 (by omega) (by omega) (by omega);rw[C45];exact⟨decide (n<=60),by simp[S45,hn],fun h=>b3 (by simpa using h)⟩
def wn(e:Ty):Prop:=∀most depth:Int,0<=most->most<=1099511627776->depth<=1099511627776->yE True most (af pg 79 [e.av,.int .i64 most,.int .i64 depth])
def zN{e:Ty}{x:bI}(h:x∈e.fields):SizeOf.sizeOf x.2<SizeOf.sizeOf e:=by
 cases e with
 |mk k fs=>
  have h1:=Ld h;have h2:SizeOf.sizeOf x.2<SizeOf.sizeOf x:=by cases x;simp;omega
  have h3:SizeOf.sizeOf x<SizeOf.sizeOf fs:=h1;simp only[Ty.mk.sizeOf_spec];show SizeOf.sizeOf x.2<1+SizeOf.sizeOf k+SizeOf.sizeOf fs;omega
def Fo(e:Ty)(hL:e.Lim)(ih:∀x∈e.fields,wn x.2)(most depth:Int)(h0:0<=most)(h1:most<=1099511627776)(h2:depth<=1099511627776)(h3:1<=depth):
  ∀(r:Nat)(n i:Int),e.fields.length-i.toNat=r->0<=i->i<=e.fields.length->1<=n->n<=most+1->yE True most (aj (L79_0 (af pg) aj) [.int .i64 most,.int .i64 depth,.ip (ab e.av),.int .i64 n,.int .i64 i]):=by
 intro r
 induction r with
 |zero=>
  intro n i hr hi hb hn hm;rw[FL79_0];simp only[L79_0];have h1:¬(i<(e.fields.length:Int)):=by omega
  simp[h1];exact⟨n,rfl,hn,hm,fun _=>trivial⟩
 | succ r IH=>
  intro n i hr hi hb hn hm;have hlen:=hL.len;have h5:i<(e.fields.length:Int):=by omega
  have hlt:i.toNat<e.fields.length:=by omega
  rw[FL79_0];simp only[L79_0];by_cases hs:n<=most
  ·obtain⟨k,hk,hk1,hk2,_⟩:=ih e.fields[i.toNat] (JP hlt) (most-n) (depth-1) (by omega) (by omega) (by omega);have h4:=IH (n+k) (i+1) (by omega) (by omega) (by omega) (by omega) (by omega);simp (disch:=omega) [h5,hs,iM,J1 e.fields i.toNat hlt,bE,hk];simpa using h4
  ·simp[h5,hs];exact⟨n,rfl,hn,hm,fun _=>trivial⟩
def t79:∀(N:Nat)(e:Ty),SizeOf.sizeOf e<=N->e.Lim->wn e:=by
 intro N
 induction N with
 |zero=>intro e he;cases e;simp at he
 | succ N ih=>
  intro e he hL most depth h0 h1 h2;rw[C79];have h4:1<=depth->_:=fun h3=>Fo e hL (fun x hx=>ih x.2 (by have:=zN hx;omega) (hL.kid hx)) most depth h0 h1 h2 h3 e.fields.length 1 0 rfl (by omega) (by omega) (by omega) (by omega);simp[S79];by_cases hc:depth<1
  ·rw[JV hc,bE (by omega) (by omega),lH];exact⟨_,rfl,by omega,by omega,fun _=>trivial⟩
  ·rw[if_neg hc];obtain⟨n,hn,b⟩:=h4 (by omega);simp at hn;rw[hn,lH];exact⟨n,rfl,b⟩
def t44(e:Ty)(h:e.Lim):∃b,af pg 44 [e.av]=M.pure (.bool b):=by
 obtain⟨n,hn,_,_,b3⟩:=t79 _ e (JO _) h 40 6 (by omega) (by omega) (by omega);rw[C44];exact⟨decide (n<=40),by simp[S44,hn]⟩
def BB(P:Prop)(m:M AV):Prop:=∃b,m=M.pure (.bool b)/\(b=true->P)
def BB.no{P:Prop}:BB P (M.pure (.bool false)):=⟨false,rfl,fun h=>by cases h⟩
def BB.imp{P Q:Prop}{m:M AV}(h:BB P m)(f:P->Q):BB Q m:=by
 obtain⟨b,h1,h2⟩:=h;exact⟨b,h1,fun e=>f (h2 e)⟩
def Fe(l:List bI)(hl:l.length<=140737488355328)(hL:∀e∈l,e.2.Lim):∀(r:Nat)(i:Int),l.length-i.toNat=r->0<=i->i<=l.length->BB (l.length<=8) (aj (L43_0 (af pg) aj) [aN l,.int .i64 i]):=by
 intro r
 induction r with
 |zero=>
  intro i hr hi hb;rw[FL43_0];simp only[L43_0];have h1:¬(i<(l.length:Int)):=by omega
  simp[h1];exact⟨_,rfl,fun h=>by simp at h;omega⟩
 | succ r IH=>
  intro i hr hi hb;have h5:i<(l.length:Int):=by omega
  have hlt:i.toNat<l.length:=by omega
  rw[FL43_0];simp only[L43_0];by_cases hs:i<9
  ·obtain⟨k,hk⟩:=t44 l[i.toNat].2 (hL _ (JP hlt));have h4:=IH (i+1) (by omega) (by omega) (by omega);simp (disch:=omega) [h5,hs,iM,J1 l i.toNat hlt,bE,hk];cases k with
   |false=>exact .no
   |true=>
    simp;exact h4
  ·simp[h5,hs];refine⟨_,rfl,fun h=>?_⟩;simp at h;omega
def t43(l:List bI)(hl:l.length<=140737488355328)(hL:∀e∈l,e.2.Lim):BB (l.length<=8) (af pg 43 [aN l]):=by
 rw[C43];obtain⟨b,hb,h2⟩:=Fe l hl hL l.length 0 rfl (by omega) (by omega);refine⟨b,?_,h2⟩;simp[S43,hb]
def Ff(l:List Exp)(hl:l.length<=140737488355328)(hL:∀e∈l,e.Lim):∀(r:Nat)(i:Int),l.length-i.toNat=r->0<=i->i<=l.length->BB (l.length<=8/\∀e∈l.drop i.toNat,eI e) (aj (L46_0 (af pg) aj) [bp l,.int .i64 i]):=by
 intro r
 induction r with
 |zero=>
  intro i hr hi hb;rw[FL46_0];simp only[L46_0];have h1:¬(i<(l.length:Int)):=by omega
  simp[h1];exact⟨_,rfl,fun h=>by simp at h;exact⟨by omega,fun x hx=>by rw[JQ (by omega)]at hx;cases hx⟩⟩
 | succ r IH=>
  intro i hr hi hb;have h5:i<(l.length:Int):=by omega
  have hlt:i.toNat<l.length:=by omega
  rw[FL46_0];simp only[L46_0];by_cases hs:i<9
  ·obtain⟨k,hk,hq⟩:=t45 l[i.toNat] (hL _ (JP hlt));have h4:=IH (i+1) (by omega) (by omega) (by omega);simp (disch:=omega) [h5,hs,jx,J1 l i.toNat hlt,bE,hk];cases k with
   |false=>exact .no
   |true=>
    simp;refine h4.imp fun h=>⟨h.1,fun x hx=>?_⟩;rw[JS hlt]at hx;rcases Kc.1 hx with rfl|hx
    ·exact hq rfl
    ·exact h.2 x (by rw[show (i+1).toNat=i.toNat+1 by omega];exact hx)
  ·simp[h5,hs];refine⟨_,rfl,fun h=>?_⟩;simp at h;omega
def t46(l:List Exp)(hl:l.length<=140737488355328)(hL:∀e∈l,e.Lim):BB (l.length<=8/\∀e∈l,eI e) (af pg 46 [bp l]):=by
 rw[C46];obtain⟨b,hb,h2⟩:=Ff l hl hL l.length 0 rfl (by omega) (by omega);refine⟨b,?_,fun h=>by simpa using h2 h⟩;simp[S46,hb]
structure FewMod (m:Mod):Prop where
 uses:m.uses.length<=6
 funcs:m.funcs.length<=6
 vars:m.vars.length<=8
 init:m.init.length<=8/\∀e∈m.init,eI e
 body:∀f∈m.funcs,eI f.body/\f.params.length<=8
def EX(m:Mod)(M0:m.Lim):∀(r:Nat)(j:Int),m.funcs.length-j.toNat=r->0<=j->j<=m.funcs.length->
  BB (m.funcs.length<=6/\(m.uses.length<=6/\m.vars.length<=8)/\(m.init.length<=8/\∀e∈m.init,eI e)/\∀f∈m.funcs.drop j.toNat,eI f.body/\f.params.length<=8) (aj (L16_0 (af pg) aj) [.ip (ab m.av),.int .i64 j]):=by
 obtain⟨b1,h1,q1⟩:=t43 m.vars M0.vars M0.vty;obtain⟨b2,h2,q2⟩:=t46 m.init M0.init M0.ies;obtain⟨b3,h3,_⟩:=t43 m.old M0.old M0.oty;obtain⟨b4,h4,_⟩:=t46 m.forward M0.forward M0.fes;obtain⟨b5,h5,_⟩:=t46 m.back M0.back M0.bes
 have fin:∀j:Int,¬(j<(m.funcs.length:Int))\/¬(j<7)->BB (m.funcs.length<=6/\(m.uses.length<=6/\m.vars.length<=8)/\(m.init.length<=8/\∀e∈m.init,eI e)) (aj (L16_0 (af pg) aj) [.ip (ab m.av),.int .i64 j]):=by
  intro j hj;rw[FL16_0];simp only[L16_0];by_cases g1:j<(m.funcs.length:Int)
  ·have g2:¬(j<7):=by omega
   have g3:¬((m.funcs.length:Int)<=6):=by omega
   simp[g1,g2,g3];exact .no
  ·cases hq:(decide ((m.funcs.length:Int)<=6)&&decide ((m.uses.length:Int)<=6))with
   |false=>exact⟨false,by simp[g1];rw[hq];simp,fun h=>by cases h⟩
   | true=>
    have hf:m.funcs.length<=6:=by simp at hq;omega
    have hu:m.uses.length<=6:=by simp at hq;omega
    cases b1 with
    |false=>exact⟨false,by simp[g1];rw[hq];simp[h1],fun h=>by cases h⟩
    | true=>cases b2 with
     |false=>exact⟨false,by simp[g1];rw[hq];simp[h1,h2],fun h=>by cases h⟩
     | true=>cases b3 with
      |false=>exact⟨false,by simp[g1];rw[hq];simp[h1,h2,h3],fun h=>by cases h⟩
      |true=>cases b4 with
       |false=>exact⟨false,by simp[g1];rw[hq];simp[h1,h2,h3,h4],fun h=>by cases h⟩
       |true=>exact⟨b5,by simp[g1];rw[hq];simp[h1,h2,h3,h4,h5],fun _=>⟨hf,⟨hu,q1 rfl⟩,q2 rfl⟩⟩
 intro r
 induction r with
 |zero=>
  intro j hr hi hb;refine (fin j (.inl (by omega))).imp fun h=>⟨h.1,h.2.1,h.2.2,fun x hx=>?_⟩;rw[JQ (by omega)]at hx;cases hx
 | succ r IH=>
  intro j hr hi hb;have g5:j<(m.funcs.length:Int):=by omega
  have hlt:j.toNat<m.funcs.length:=by omega
  by_cases hs:j<7
  ·have F0:=M0.fns _ (JP hlt);have hfn:=M0.funcs;obtain⟨p1,e1,w1⟩:=t43 m.funcs[j.toNat].params F0.params F0.pty;obtain⟨p2,e2⟩:=t44 m.funcs[j.toNat].result F0.result;obtain⟨p3,e3,w3⟩:=t45 m.funcs[j.toNat].body F0.body;have h4:=IH (j+1) (by omega) (by omega) (by omega);rw[FL16_0];simp only[L16_0];simp (disch:=omega) [g5,hs,p7,J1 m.funcs j.toNat hlt,bE,e1];cases p1 with
   |false=>simp;exact .no
   | true=>
    simp (disch:=omega) [p7,J1 m.funcs j.toNat hlt,e2];cases p2 with
    |false=>simp;exact .no
    | true=>
     simp (disch:=omega) [p7,J1 m.funcs j.toNat hlt,e3];cases p3 with
     |false=>simp;exact .no
     |true=>
      simp;refine h4.imp fun h=>⟨h.1,h.2.1,h.2.2.1,fun x hx=>?_⟩;rw[JS hlt]at hx;rcases Kc.1 hx with rfl|hx
      ·exact⟨w3 rfl,w1 rfl⟩
      ·exact h.2.2.2 x (by rw[show (j+1).toNat=j.toNat+1 by omega];exact hx)
  ·refine (fin j (.inr hs)).imp fun h=>?_
   have:=h.1
   omega
def t16(m:Mod)(M0:m.Lim):BB (FewMod m) (af pg 16 [m.av]):=by
 rw[C16];obtain⟨b,hb,h2⟩:=EX m M0 m.funcs.length 0 rfl (by omega) (by omega);refine⟨b,?_,fun h=>⟨(h2 h).2.1.1,(h2 h).1,(h2 h).2.1.2,(h2 h).2.2.1,by simpa using(h2 h).2.2.2⟩⟩;simp at hb;simp[S16,hb]
def zL{F:(List AV->M AV)->List AV->M AV}(hF:∀vs,aj F vs=F (aj F) vs)(st:Nat->List AV)(n:Nat)(hend:∃b,F (aj F) (st n)=M.pure (.bool b))(hstep:∀k,k<n->(∃b,F (aj F) (st k)=M.pure (.bool b))\/F (aj F) (st k)=aj F (st (k+1))):
  ∀k,k<=n->∃b,aj F (st k)=M.pure (.bool b):=by
 have key:∀r k,n-k=r->k<=n->∃b,aj F (st k)=M.pure (.bool b):=by
  intro r
  induction r with
  |zero=>
   intro k hr hk;obtain rfl:k=n:=by omega
   rw[hF];exact hend
  | succ r ih=>
   intro k hr hk;rw[hF];rcases hstep k (by omega)with h|h
   ·exact h
   ·rw[h];exact ih (k+1) (by omega) (by omega)
 exact fun k hk=>key (n-k) k rfl hk
def IE(s:Sig)(hs:s.Lim):∃b,af pg 42 [s.av]=M.pure (.bool b):=by
 have hlen:=hs.plen;obtain⟨br,hbr⟩:=t44 s.result hs.result;obtain⟨b,hb⟩:=zL (FL42_0 (af pg)) (fun k=>[.ip (ab s.av),.int .i64 (k:Int)]) s.params.length (by
  cases br<;>by_cases h:(s.params.length:Int)<=8<;>simp[L42_0,hbr,h]) (fun k hk=>by
  have h1:(k:Int)<(s.params.length:Int):=by omega
  have hix:=rn (l:=s.params) (n:=(k:Int)) (by omega) h1;rw[JW,J1 s.params k hk]at hix;have hm':=JP hk;generalize s.params[k]=t at hix hm';have w3:IntKind.i64.wrap ((k:Int)+1)=(k:Int)+1:=by rw[aS (by omega)];simp
  obtain⟨b,hb⟩:=t44 t (hs.ptys t hm');by_cases h9:(k:Int)<9
  ·have h9':k<9:=by omega
   cases b with
   |false=>exact .inl ⟨false,by simp[L42_0,h1,hk,hix,hb,h9,h9']⟩
   |true=>exact .inr (by simp[L42_0,h1,hk,hix,hb,h9,h9',w3])
  ·have h9':¬k<9:=by omega
   refine .inl ?_;cases br<;>by_cases h:(s.params.length:Int)<=8<;>simp[L42_0,h1,hk,h9,h9',hbr,h]) 0 (Ki _)
 refine⟨b,?_⟩;rw[C42];have hb':aj (L42_0 (af pg) aj) [.ip (ab s.av),.int .i64 0]=M.pure (.bool b):=hb;simp only[S42,uK,hb',fH]
def ID(f:Face)(hf:f.Lim):∃b,af pg 15 [f.av]=M.pure (.bool b):=by
 have hlen:=hf.len;obtain⟨b,hb⟩:=zL (FL15_0 (af pg)) (fun k=>[.ip (ab f.av),.int .i64 (k:Int)]) f.funcs.length (by
  by_cases h:(f.funcs.length:Int)<=8<;>simp[L15_0,h]) (fun k hk=>by
  have h1:(k:Int)<(f.funcs.length:Int):=by omega
  have hix:=AY (l:=f.funcs) (n:=(k:Int)) (by omega) h1;rw[JW,J1 f.funcs k hk]at hix;have hm':=JP hk;generalize f.funcs[k]=t at hix hm';have w3:IntKind.i64.wrap ((k:Int)+1)=(k:Int)+1:=by rw[aS (by omega)];simp
  obtain⟨b,hb⟩:=IE t (hf.sigs t hm');by_cases h9:(k:Int)<9
  ·have h9':k<9:=by omega
   cases b with
   |false=>exact .inl ⟨false,by simp[L15_0,h1,hk,hix,hb,h9,h9']⟩
   |true=>exact .inr (by simp[L15_0,h1,hk,hix,hb,h9,h9',w3])
  ·have h9':¬k<9:=by omega
   refine .inl ?_;by_cases h:(f.funcs.length:Int)<=8<;>simp[L15_0,h1,hk,h9,h9',h]) 0 (Ki _)
 refine⟨b,?_⟩;rw[C15];have hb':aj (L15_0 (af pg) aj) [.ip (ab f.av),.int .i64 0]=M.pure (.bool b):=hb;simp only[S15,rD,hb',fH]
def G6(a b c:Mod)(ha:a.Lim)(hb:b.Lim)(hc:c.Lim)(fs:List Face)(hl:fs.length<=140737488355328)(hf:∀f∈fs,f.Lim):
  ∀(r i:Nat),fs.length-i=r->i<=fs.length->BB (FewMod a/\FewMod b/\FewMod c) (aj (L5_0 (af pg) aj) [faces fs,.ip (ab a.av),.ip (ab b.av),.ip (ab c.av),.int .i64 i]):=by
 obtain⟨b1,h1,q1⟩:=t16 a ha;obtain⟨b2,h2,q2⟩:=t16 b hb;obtain⟨b3,h3,q3⟩:=t16 c hc;have lm:∀m:Mod,ah T 29 (.ip (ab m.av))=some m.av:=fun m=>by simp
 have fin:∀i:Nat,¬((i:Int)<(fs.length:Int))\/¬((i:Int)<5)->BB (FewMod a/\FewMod b/\FewMod c) (aj (L5_0 (af pg) aj) [faces fs,.ip (ab a.av),.ip (ab b.av),.ip (ab c.av),.int .i64 i]):=by
  intro i hi;have hc1:(decide ((i:Int)<(fs.length:Int))&&decide ((i:Int)<5))=false:=by rcases hi with h|h<;>simp[h]
  rw[FL5_0];by_cases h4:(fs.length:Int)<=4
  ·cases b1 with
   |false=>exact⟨false,by simp -implicitDefEqProofs only[L5_0,az,aB,mh,am,aF,iS,ci,fJ,hc1,ao,JL,JZ,h4,Kf,cy,lm,h1,aG,dI,iz,cN,List.replicate],fun h=>by cases h⟩
   |true=>cases b2 with
    |false=>exact⟨false,by simp -implicitDefEqProofs only[L5_0,az,aB,mh,am,aF,iS,ci,fJ,hc1,ao,JL,JZ,h4,Kf,cy,lm,h1,h2,aG,dI,iz,cN,List.replicate],fun h=>by cases h⟩
    |true=>exact⟨b3,by simp -implicitDefEqProofs only[L5_0,az,aB,mh,am,aF,iS,ci,fJ,hc1,ao,JL,JZ,h4,Kf,cy,lm,h1,h2,h3,aG,dI],fun h=>⟨q1 rfl,q2 rfl,q3 h⟩⟩
  ·exact⟨false,by simp -implicitDefEqProofs only[L5_0,az,aB,mh,am,aF,iS,ci,fJ,hc1,ao,JL,JZ,h4,Kv,aG,iz,cN,List.replicate],fun h=>by cases h⟩
 intro r
 induction r with
 |zero=>intro i hr hi;exact fin i (.inl (by omega))
 | succ r ih=>
  intro i hr hi;by_cases h5:(i:Int)<5
  ·have hlt:i<fs.length:=by omega
   have g1:(i:Int)<(fs.length:Int):=by omega
   have hix:=Gk (l:=fs) (n:=(i:Int)) (by omega) g1;rw[JW,J1 fs i hlt]at hix;obtain⟨bf,hbf⟩:=ID fs[i] (hf _ (JP hlt));have hw:IntKind.i64.wrap ((i:Int)+1)=((i+1:Nat):Int):=aS (by omega);have h4:=ih (i+1) (by omega) (by omega);generalize fs[i]=f at hix hbf;have lf:ah T 56 (.ip (ab f.av))=some f.av:=by simp
   rw[FL5_0];simp -implicitDefEqProofs only[L5_0,az,aB,mh,am,aF,g1,h5,Kf,ci,fJ,L0,ao,J0,hix,lf,hbf,aG,cj];cases bf with
   |false=>exact⟨false,by simp,fun h=>by cases h⟩
   |true=>simp -implicitDefEqProofs only[Kx,JL,JZ,aU,am,hw];exact h4
  ·exact fin i (.inr h5)
def t5(a b c:Mod)(ha:a.Lim)(hb:b.Lim)(hc:c.Lim)(fs:List Face)(hl:fs.length<=140737488355328)(hf:∀f∈fs,f.Lim):BB (FewMod a/\FewMod b/\FewMod c) (af pg 5 [a.av,b.av,c.av,faces fs]):=by
 obtain⟨r,e,q⟩:=G6 a b c ha hb hc fs hl hf fs.length 0 rfl (Ki _);refine⟨r,?_,q⟩;have e':aj (L5_0 (af pg) aj) [faces fs,.ip (ab a.av),.ip (ab b.av),.ip (ab c.av),.int .i64 0]=M.pure (.bool r):=e;rw[C5,de,de,de,ll];simp only[S5,e',fH]
end Go.Proofs.YtblddnfanlkgiaaGreat
namespace Go.Proofs.YtblddnfanlkgiaaGreat
open Go Go.Av
set_option maxRecDepth 1000000
def pO(s:UInt8)(op n:Int)(c:List UInt8):AV:=.agg [.str [s],.bool true,.sl [],.int .i64 0,.sl [],.int .i64 0,.int .i64 op,.int .i64 n,.str c,.str [],.sl [],.sl []]
def eq(l:List AV):AV:=.agg [.str [103,101,111],.sl [],.sl [],.sl [],.sl l,.bool false,.sl [],.sl [],.sl []]
def FN:AV:=.agg [.str [],.sl [],.sl [],.sl [],.sl [],.bool false,.sl [],.sl [],.sl []]
def FM(c:UInt8):AV:=.agg [.str [c],.int .i64 0,.sl []]
def Cr:AV:=.agg [.int .i64 0,.int .i64 0,.str [],.str [],.sl [],.sl []]
def su:=pO 97 0 1 []
def yt:=pO 97 0 5 []
def Cn:=pO 97 0 6 []
def iq:=pO 98 0 2 []
def Co:=pO 98 0 6 []
def Cp:=pO 99 0 7 []
def Hr:=pO 98 15 0 [97]
def nS:=eq [su,iq]
def Hs:AV:=.agg [.str [103,101,111],.sl [],.sl [FM 120],.sl [Cr],.sl [su,iq],.bool true,.sl [],.sl [Cr],.sl []]
def Ht:AV:=.agg [.str [103,101,111],.sl [],.sl [FM 120,FM 121],.sl [Cr,Cr],.sl [su,iq],.bool false,.sl [],.sl [],.sl []]
def nJ(s:List UInt8)(e:Int):AV:=.tup [FN,.str s,.int .i64 e]
def sw(l:List AV):AV:=.tup [eq l,.str [],.int .i64 0]
def IV:cw pg 60 6 [nS,eq [yt,iq],eq [su,Co],.sl []] []= .ok (sw [yt,Co]) []:=by kernel_rfl
def IW:cw pg 60 6 [nS,eq [iq],eq [su,iq,Cp],.sl []] []= .ok (sw [iq,Cp]) []:=by kernel_rfl
def IX:cw pg 60 6 [nS,eq [yt,iq],eq [Cn,iq],.sl []] []= .ok (nJ [97] 27) []:=by kernel_rfl
def IY:cw pg 60 6 [nS,eq [iq],eq [Cn,iq],.sl []] []= .ok (nJ [97] 27) []:=by kernel_rfl
def IZ:cw pg 60 6 [nS,eq [iq],eq [su,Hr],.sl []] []= .ok (nJ [98] 12) []:=by kernel_rfl
def I0:cw pg 60 6 [nS,Hs,Ht,.sl []] []= .ok (nJ [109,111,118,101] 27) []:=by kernel_rfl
def q9{a:List AV}{v:AV}(ha:df ar a=a)(h:cw pg 60 6 a []= .ok v []):af pg 6 a=M.pure v:=by
 have e:af pg 6 a=aJ (cX (pg.cx (af pg) Tryz.f6.ntmps A1) aj Tryz.f6 (pg.own 6) (df ar a)):=ay aI rfl rfl rfl a;have h1:=zo aI h (by simp);rw[e]at h1 |-;funext hp;unfold aJ at h1 |-;generalize cX (pg.cx (af pg) Tryz.f6.ntmps A1) aj Tryz.f6 (pg.own 6) (df ar a) []=r at h1 |-;cases r with
 |ok w h'=>
  simp only[R.ok.injEq]at h1;show R.ok (i4 6 h' w) hp=_;rw[h1.1];rfl
 |pan w h'=>cases h1
 |fail=>cases h1
def Cq:List (List AV×AV):=[([nS,eq [yt,iq],eq [su,Co],.sl []],sw [yt,Co]),([nS,eq [iq],eq [su,iq,Cp],.sl []],sw [iq,Cp]),([nS,eq [yt,iq],eq [Cn,iq],.sl []],nJ [97] 27),([nS,eq [iq],eq [Cn,iq],.sl []],nJ [97] 27),([nS,eq [iq],eq [su,Hr],.sl []],nJ [98] 12),([nS,Hs,Ht,.sl []],nJ [109,111,118,101] 27)]
def FO:∀x∈Cq,df ar x.1=x.1/\af pg 6 x.1=M.pure x.2:=by
 intro x hx;simp only[Cq,Kc,List.not_mem_nil,or_false]at hx;rcases hx with rfl|rfl|rfl|rfl|rfl|rfl
 ·exact⟨by kernel_rfl,q9 (by kernel_rfl) IV⟩
 ·exact⟨by kernel_rfl,q9 (by kernel_rfl) IW⟩
 ·exact⟨by kernel_rfl,q9 (by kernel_rfl) IX⟩
 ·exact⟨by kernel_rfl,q9 (by kernel_rfl) IY⟩
 ·exact⟨by kernel_rfl,q9 (by kernel_rfl) IZ⟩
 ·exact⟨by kernel_rfl,q9 (by kernel_rfl) I0⟩
def IU:gw pg (AH pg 6 60 Cq) (c9 60) 4 [] []= .ok (.bool true) []:=by kernel_rfl
def re:af pg 4 []=M.pure (.bool true):=by
 funext h;have h1:=xD aI (xk aI 6 (ay aI rfl rfl rfl) 60 Cq FO) IU (by simp);have e:∀h,af pg 4 [] h=aJ (cX (pg.cx (af pg) Tryz.f4.ntmps Ev) aj Tryz.f4 (pg.own 4) (df ar [])) h:=fun h=>congrFun (ay aI rfl rfl rfl []) h;rw[e]at h1 |-;unfold aJ at h1 |-;generalize cX (pg.cx (af pg) Tryz.f4.ntmps Ev) aj Tryz.f4 (pg.own 4) (df ar []) []=r at h1 |-;cases r with
 |ok v h'=>
  simp only[R.ok.injEq]at h1;show R.ok (i4 6 h' v) h=_;rw[h1.1];rfl
 |pan v h'=>cases h1
 |fail=>cases h1
end Go.Proofs.YtblddnfanlkgiaaGreat
namespace Go.Proofs.YtblddnfanlkgiaaGreat.Mg
open Go Go.Av Go.Av.Ap
set_option maxRecDepth 100000
def fT(m n:Mod):Prop:=∀(k:Nat)(s:aT),k<3->af pg 11 [m.av,n.av,.int .i64 k,.str s]=M.pure (.bool true)
def I1(a b c x y z w:Mod)(e:Int)(r:Bool)(k:Nat)(l:List aT)(i:Nat):List AV:=[.ip (ab a.av),.ip (ab b.av),.ip (ab c.av),.bool true,.ip (ab x.av),.int .i64 e,.ip (ab y.av),.ip (ab z.av),.ip (ab w.av),.bool r,.int .i64 k,strs l,.int .i64 i]
def HX(a b c x y z w:Mod)(e:Int)(r:Bool)(k:Nat):List AV:=[.ip (ab a.av),.ip (ab b.av),.ip (ab c.av),.bool true,.ip (ab x.av),.int .i64 e,.ip (ab y.av),.ip (ab z.av),.ip (ab w.av),.bool r,.int .i64 k]
theorem E1(a b c x y z w:Mod)(e:Int)(r:Bool)(k:Nat)(hk:k<3)(h1:e=0->fT x y)(h2:r=true->fT z b/\fT w b)(l:List aT)(hl:l.length<=1000000)(cont:List AV->M AV):
  ∀(n i:Nat),l.length-i=n->i<=l.length->aj (L3_0 (af pg) aj cont) (I1 a b c x y z w e r k l i)=cont (HX a b c x y z w e r (k+1)):=by
 have hwk:IntKind.i64.wrap ((k:Int)+1)=((k+1:Nat):Int):=aS (by omega);intro n
 induction n with
 |zero=>
  intro i hn hi;have g:¬((i:Int)<(l.length:Int)):=by omega
  rw[FL3_0];simp -implicitDefEqProofs only[L3_0,I1,az,aB,jy,am,aF,g,Kv,ao,JL,JZ,aU,hwk];rfl
 | succ n ih=>
  intro i hn hi;have hlt:i<l.length:=by omega
  have g:(i:Int)<(l.length:Int):=by omega
  have hw:IntKind.i64.wrap ((i:Int)+1)=((i+1:Nat):Int):=aS (by omega);have hix:=nO (l:=l) (n:=(i:Int)) (by omega) g;rw[JW,J1 l i hlt]at hix;have h4:=ih (i+1) (by omega) (by omega);generalize l[i]=s at hix;have lm:∀m:Mod,ah T 29 (.ip (ab m.av))=some m.av:=fun m=>by simp
  have ee:aw T .eql 33 (.int .i64 e) (.int .i64 0)=some (.bool (e== 0)):=rfl;rw[<- h4,FL3_0];simp -implicitDefEqProofs only[L3_0,I1,az,aB,jy,am,aF,g,Kf,ao,J0,ee,lm,hix,dD,LD9];have key:∀f:AV->M AV,(ae (aA (.bool (e== 0)) true 1 (ae (bz (af pg 11 [x.av,y.av,.int .i64 k,.str s])) fun v104=>ae (ai (dO UnOp.not v104)) fun v105=>M.pure [v105])) fun v106=>ae (ai (aM (.bool (e== 0)) (nth v106 0) (AV.bool false))) f)=f (.bool false):=by
   intro f;cases he:(e== 0)with
   |true=>
    have:=h1 (by simpa using he) k s hk
    simp -implicitDefEqProofs only[cy,this,cd,aG,cj,am,az,dI,Kx]
   |false=>simp -implicitDefEqProofs only[iz,aG,cN,am]
  rw[key];cases r with
  |true=>
   have q1:=(h2 rfl).1 k s hk;have q2:=(h2 rfl).2 k s hk;simp -implicitDefEqProofs only[cy,aG,az,q1,q2,cd,cj,am,Kx,cN,dI,ao,JL,JZ,aU,hw]
  |false=>
   simp -implicitDefEqProofs only[cy,iz,vo,List.replicate,aG,az,am,cN,ao,JL,JZ,aU,hw]
theorem E2(a b c x y z w:Mod)(e:Int)(r:Bool)(h1:e=0->fT x y)(h2:r=true->fT z b/\fT w b)(sa:Sz a)(sb:Sz b)(sc:Sz c):
  ∀(n k:Nat),3-k=n->k<=3->aj (L3_1 (af pg) aj) (HX a b c x y z w e r k)=M.pure (.bool true):=by
 intro n
 induction n with
 |zero=>
  intro k hn hk;obtain rfl:k=3:=by omega
  have g:decide (((3:Nat):Int)<3)=false:=rfl;rw[FL3_1];simp -implicitDefEqProofs only[L3_1,HX,az,aB,am,aF,g,ao,JL,JZ]
 | succ n ih=>
  intro k hn hk;have hlt:k<3:=by omega
  have g:(k:Int)<3:=by omega
  have lm:∀m:Mod,ah T 29 (.ip (ab m.av))=some m.av:=fun m=>by simp
  have o1:=t10 a sa k hlt;have o2:=t10 b sb k hlt;have o3:=t10 c sc k hlt;have hnm:=t9 (cM a k) (cM b k) (cM c k) (eV sa k) (eV sb k) (eV sc k);have hl:=jT (cM a k++(cM b k++cM c k)) [];have hl2:(fh (cM a k++(cM b k++cM c k)) []).length<=1000000:=by
   have:=eV sa k;have:=eV sb k;have:=eV sc k
   simp only[JY,J8]at hl;omega
  have h0:=E1 a b c x y z w e r k hlt h1 h2 _ hl2 (aj (L3_1 (af pg) aj)) _ 0 rfl (Ki _);rw[ih (k+1) (by omega) (by omega)]at h0;rw[FL3_1];simp -implicitDefEqProofs only[L3_1,HX,az,aB,am,aF,g,Kf,ao,J0,lm,o1,o2,o3,hnm,cd,aG];exact h0
def wi{m:Mod}(h:FewMod m):Sz m:=⟨by have:=h.uses;omega,by have:=h.vars;omega,by have:=h.funcs;omega⟩
def AG{m:Mod}(h:aZ m=true):Sz m:=by
 have:=kT h
 exact⟨by have:=this.ulen;omega,by have:=this.vlen;omega,by have:=this.flen;omega⟩
def i9(n:aT)(u:List aT)(l:List Vr)(f:List Fun):varsOf (eX n u l f)=l:=by
 show (l.map Prod.fst).zip (l.map Prod.snd)=l
 induction l with
 |nil=>rfl
 |cons x l ih=>simp[ih]
structure Cmp (m:Mod):Prop where
 lim:m.Lim
 sz:Sz m
 ilen:m.init.length=m.vars.length
def pL{m n:Mod}(hm:Cmp m)(hn:Cmp n)(h:∀k s,k<3->gk m n k s):fT m n:=fun k s hk=>t11 m n hm.lim hm.sz hn.sz hm.ilen hn.ilen k hk s (h k s hk)
def mo{m:Mod}(hm:m.Lim)(h:aZ m=true):Cmp m:=⟨hm,AG h,(kT h).ilen⟩
def iX{a b c:Mod}(la:a.Lim)(lb:b.Lim)(lc:c.Lim)(ha:a.moves=false)(hb:b.moves=false)(hc:c.moves=false)(F:List Face)(h:(bO a b c F).2.2=0):
  Cmp (bO a b c F).1/\(bO a b c F).1=eX a.name (mU a b c).1 (mV a b c).1 (mF a b c).1/\fY a b c=true:=by
 obtain⟨_,x2,x3⟩:=hQ ha hb hc F;have hx:=x2.1 h;obtain⟨hp,ho,hr,_⟩:=hx;have e:=x3 h;obtain⟨m1,m2⟩:=lN ha hb hc;have ra:aZ a=true/\aZ b=true/\aZ c=true:=by
  unfold pre at hp;simp only[Lp,LF]at hp;exact⟨hp.1.1.1.1,hp.1.1.1.2,hp.1.1.2⟩
 have hl:=pf (l9 la ra.1) (l9 lb ra.2.1) (l9 lc ra.2.2);rw[m2 ho]at hl;rw[e];exact⟨mo hl hr,rfl,ho⟩
def wg{a b c:Mod}(h:fY a b c=true)(k:Nat)(s:aT):gk (eX a.name (mU a b c).1 (mV a b c).1 (mF a b c).1) (eX a.name (mU a c b).1 (mV a c b).1 (mF a c b).1) k s:=by
 unfold fY at h;simp only[JN]at h;unfold gk;split
 ·exact cR gW h.1.1 s
 ·rw[i9,i9];exact cR jl h.1.2 s
 ·exact cR jk h.2 s
def uD(a b:Mod)(k:Nat)(s:aT):gk (eX a.name (mU a b a).1 (mV a b a).1 (mF a b a).1) b k s:=by
 unfold gk;split
 ·exact (eT gW _ _).2 s
 ·rw[i9];exact (eT jl _ _).2 s
 ·exact (eT jk _ _).2 s
def vT(a b:Mod)(k:Nat)(s:aT):gk (eX a.name (mU a b b).1 (mV a b b).1 (mF a b b).1) b k s:=by
 unfold gk;split
 ·exact (eU gW _ _).2 s
 ·rw[i9];exact (eU jl _ _).2 s
 ·exact (eU jk _ _).2 s
def t3(a b c:Mod)(fs:List Face)(la:a.Lim)(lb:b.Lim)(lc:c.Lim)(hf:fs.length<=140737488355328/\∀f∈fs,f.Lim):af pg 3 [a.av,b.av,c.av,faces fs]=M.pure (.bool true):=by
 obtain⟨r,hr,hq⟩:=t5 a b c la lb lc fs hf.1 hf.2;rw[C3,de,de,de,ll];have lm:∀m:Mod,ah T 29 (.ip (ab m.av))=some m.av:=fun m=>by simp
 have f0:∀cs,aa T 29 (.ip cs) 0=some (.ip (cs.drop 0)):=fun _=>rfl;have f5:∀cs,aa T 29 (.ip cs) 5=some (.ip (cs.drop 5)):=fun _=>rfl;have l0:∀m:Mod,ah T 9 (.ip ((ab m.av).drop 0))=some (.str m.name):=fun m=>by simp
 have l5:∀m:Mod,ah T 4 (.ip ((ab m.av).drop 5))=some (.bool m.moves):=fun m=>by simp
 have key:S3 (af pg) aj a.av b.av c.av (faces fs)=M.pure (.bool true):=by
  cases hg:(!r||b.moves||c.moves||a.moves)with
  |true=>simp -implicitDefEqProofs only[S3,re,aG,lm,am,hr,cj,f5,l5,ci,az,py,hg,ao,J0]
  | false=>
   have hg':=hg;simp only[Lp,LF]at hg';obtain⟨⟨⟨rfl,hb⟩,hc⟩,ha⟩:=hg';obtain⟨fa,fb,fc⟩:=hq rfl;have m1:=q6 a b c fs la lb lc hf.2 hf.1;have m2:=q6 a c b fs la lc lb hf.2 hf.1;have m3:=q6 a b a fs la lb la hf.2 hf.1;have m4:=q6 a b b fs la lb lb hf.2 hf.1;have hck:=q7 b lb fs hf.2 hf.1;have r1:=t8 a la;have r2:=t8 b lb;obtain⟨w1,w2⟩:=yy ha hb hc fs;have ne1:(((bO a b c fs).2.2== 27) != ((bO a c b fs).2.2== 27))=false:=by
    rw[bne_eq_false_iff_eq,KU,Kw,Kw];exact w1
   have ne2:(((bO a b c fs).2.2== 0) != ((bO a c b fs).2.2== 0))=false:=by
    rw[bne_eq_false_iff_eq,KU,Kw,Kw];exact w2
   have h1:(bO a b c fs).2.2=0->fT (bO a b c fs).1 (bO a c b fs).1:=fun h=>by
    obtain⟨c1,e1,o1⟩:=iX la lb lc ha hb hc fs h;obtain⟨c2,e2,_⟩:=iX la lc lb ha hc hb fs (w2.1 h);refine pL c1 c2 fun k s _=>?_;rw[e1,e2];exact wg o1 k s
   have h2:(aZ a&&aZ b&&(a.name== b.name)&&((dE b fs).2== 0))=true->((bO a b a fs).2.2=0/\(bO a b b fs).2.2=0)/\fT (bO a b a fs).1 b/\fT (bO a b b fs).1 b:=fun h=>by
    simp only[JN,Kw]at h;obtain⟨⟨⟨ra,rb⟩,n1⟩,hk⟩:=h;obtain⟨z1,z2⟩:=yw ha hb ra rb n1.symm fs hk;obtain⟨y1,y2⟩:=yx ha hb ra rb n1.symm fs hk;obtain⟨c1,_,_⟩:=iX la lb la ha hb ha fs z1;obtain⟨c2,_,_⟩:=iX la lb lb ha hb hb fs y1;refine⟨⟨z1,y1⟩,pL c1 (mo lb rb) fun k s _=>?_,pL c2 (mo lb rb) fun k s _=>?_⟩
    ·rw[z2];exact uD a b k s
    ·rw[y2];exact vT a b k s
   generalize bO a b c fs=x at *;generalize bO a c b fs=y at *;generalize bO a b a fs=z at *;generalize bO a b b fs=w at *;generalize dE b fs=ck at *;obtain⟨x,xs,xe⟩:=x;obtain⟨y,ys,ye⟩:=y;obtain⟨z,zs,ze⟩:=z;obtain⟨w,ws,we⟩:=w;obtain⟨cs,ce⟩:=ck;simp only at ne1 ne2 h1 h2;have m1':af pg 6 [a.av,b.av,c.av,faces fs]=M.pure (.tup [x.av,.str xs,.int .i64 xe]):=m1;have m2':af pg 6 [a.av,c.av,b.av,faces fs]=M.pure (.tup [y.av,.str ys,.int .i64 ye]):=m2;have m3':af pg 6 [a.av,b.av,a.av,faces fs]=M.pure (.tup [z.av,.str zs,.int .i64 ze]):=m3;have m4':af pg 6 [a.av,b.av,b.av,faces fs]=M.pure (.tup [w.av,.str ws,.int .i64 we]):=m4;have ee:∀e n:Int,aw T .eql 33 (.int .i64 e) (.int .i64 n)=some (.bool (e== n)):=fun _ _=>rfl;have en:∀e n:Int,aw T .neq 33 (.int .i64 e) (.int .i64 n)=some (.bool (e != n)):=fun _ _=>rfl;have bn:∀e n:Bool,aw T .neq 4 (.bool e) (.bool n)=some (.bool (e != n)):=fun _ _=>rfl;have es:∀s t:aT,aw T .eql 9 (.str s) (.str t)=some (.bool (s== t)):=fun _ _=>rfl;have hfin:((aZ a&&aZ b&&(a.name== b.name)&&(ce== 0))&&((ze != 0)||(we != 0)))=false:=by
    cases hh:(aZ a&&aZ b&&(a.name== b.name)&&(ce== 0))with
    |false=>rfl
    |true=>have:=(h2 hh).1;simp[this.1,this.2]
   have hloop:=E2 a b c x y z w xe (aZ a&&aZ b&&(a.name== b.name)&&(ce== 0)) h1 (fun h=>(h2 h).2) (wi fa) (wi fb) (wi fc) 3 0 rfl (by omega);simp -implicitDefEqProofs only[S3,re,aG,lm,am,hr,cj,f5,l5,ci,az,py,hg,ao,JL,JZ,m1',m2',m3',m4',dn,Kd,KO,oz,
    ee,en,bn,ne1,ne2,Bool.or_self,hck,li,r1,r2,fJ,f0,l0,es,xU,xV,hfin]
   exact hloop
 rw[key];exact fH true
end Go.Proofs.YtblddnfanlkgiaaGreat.Mg
namespace Go.Proofs.YtblddnfanlkgiaaGreat
open Go Go.Av Go.Av.Ap
def t3(a b c:Mod)(fs:List Face)(la:a.Lim)(lb:b.Lim)(lc:c.Lim)(hf:fs.length<=140737488355328/\∀f∈fs,f.Lim):af pg 3 [a.av,b.av,c.av,faces fs]=M.pure (.bool true):=Mg.t3 a b c fs la lb lc hf
end Go.Proofs.YtblddnfanlkgiaaGreat
namespace Go.Proofs.YtblddnfanlkgiaaGreat.patchTurns
open Go Go.Av Go.Av.Ap Go.ChangeShapes Go.WideShapes Go.ChangeAt Go.RowKit Go.Joins Go.Deep
set_option maxRecDepth 1000000
def kids:Kids Tryz.prog (· < Tryz.prog.types.size):=kids_rows (by kernel_rfl) (by kernel_rfl)
def ud:∀t e,t<Tryz.prog.types.size->Tryz.prog.underlying t=some (.slice e)->0<Tryz.prog.cellsOf e:=slices_full_of Tryz.prog (by kernel_rfl)
def zy(H:Type)(enc:TypeId×Value->H)(W:World)(base:Nat)(args:Array Value)(ds gs:List (DataW H))(before:List MemPlace)(hval:∀(j:Nat) t v,Tryz.f3.params[j]? = some t->args[j]? = some v->Value.okWide Tryz.prog W .any base t v)(hW:DataW.Whole enc Tryz.prog Tryz.f3.params.toList Rows.patchTurnsSpec.vars false W args.toList ds gs before)(hz:(DataW.weightsEach Tryz.prog (Tryz.f3.params.toList++Rows.patchTurnsSpec.plain.varTypes Tryz.prog) (ds++gs)).all (· <=reachBytes)=true)(hL:laidMetH Tryz.prog Rows.patchTurnsRow.laid W)(hS:W.ShapedOpen Tryz.prog):
  Calls Tryz.prog 3 args W fun e W'=>∃v,e= .returned v/\Rows.patchTurnsSpec.post enc Tryz.prog Tryz.f3 false true false false W args v W':=by
 have hW':=hW;obtain⟨p,q,hA0,hV,rfl,hfz,hnd⟩:=hW;have hA:DataW.TrodAll enc Tryz.prog W 0 (fun _=>true) true Tryz.f3.params.toList args.toList ds p:=hA0;have hA1:=hA;rw[Tryz.params3]at hA hval hz;obtain⟨v0,vs0,d0,ds0,p0,q0,ha0,rfl,rfl,h0,r0⟩:=trodAll_cons hA;obtain⟨v1,vs1,d1,ds1,p1,q1,ha1,rfl,rfl,h1,r1⟩:=trodAll_cons r0;obtain⟨v2,vs2,d2,ds2,p2,q2,ha2,rfl,rfl,h2,r2⟩:=trodAll_cons r1;obtain⟨v3,vs3,d3,ds3,p3,q3,ha3,rfl,rfl,h3,r3⟩:=trodAll_cons r2;obtain⟨hnil,rfl,rfl⟩:=trodAll_nil r3;subst hnil;subst ha3;subst ha2;subst ha1;obtain rfl:args= #[v0,v1,v2,v3]:=by cases args;simp_all
 obtain⟨rfl,rfl⟩:=trodVars_none hV;obtain⟨x0,k0,o0⟩:=kI (fun N=>(vL N).le (LA N)) (fun a=>rfl) Tryz.underlying29 (hval 0 29 v0 rfl rfl) h0 (iZ hz (j:=0) rfl rfl);obtain⟨x1,k1,o1⟩:=kI (fun N=>(vL N).le (LA N)) (fun a=>rfl) Tryz.underlying29 (hval 1 29 v1 rfl rfl) h1 (iZ hz (j:=1) rfl rfl);obtain⟨x2,k2,o2⟩:=kI (fun N=>(vL N).le (LA N)) (fun a=>rfl) Tryz.underlying29 (hval 2 29 v2 rfl rfl) h2 (iZ hz (j:=2) rfl rfl);obtain⟨x3,k3,o3⟩:=xv (fun N=>Ao N) Tryz.underlying30 (hval 3 30 v3 rfl rfl) h3 (iZ hz (j:=3) rfl rfl);clear hA0;simp only[L6]at hW' hA1;have hlt:=hW'.lt;have hv:bw (kH W) [] [x0.av,x1.av,x2.av,faces x3] [v0,v1,v2,v3]:=by
  simp only[bw];exact⟨_,_,rfl,k0,_,_,rfl,k1,_,_,rfl,k2,_,_,rfl,k3,rfl⟩
 refine (xZ IF aI (EQ hS) hv (by rw[t3 x0 x1 x2 x3 o0 o1 o2 o3];rfl)).mono fun e W' ⟨he,hb⟩=>?_;subst he;exact⟨_,rfl,qk (pv:=[]) hW' (fun _ _ _=>trodAll_cons_mk (shut_bool Tryz.underlying4 _) trodAll_mk0) (fun sp hsp=>
   uC kids ud (by rw[Tryz.params3];decide +kernel) hA1 hlt hb sp hsp) (fun _ _=>rfl) (by simp)
  hb (ok_one (by kernel_rfl) rfl (okWide_bool_mk Tryz.underlying4 _))⟩
def reads(os:Os){H:Type}(enc:TypeId×Value->H):∃ds places,DataW.whole enc Tryz.prog ((qL os).forCall (fun _ _=>0) ⟨#[],#[.agg #[.string ⟨#[]⟩,.slice none 0 0,.slice none 0 0,.slice none 0 0,.slice none 0 0,.bool false,.slice none 0 0,.slice none 0 0,.slice none 0 0],.agg #[.string ⟨#[]⟩,.slice none 0 0,.slice none 0 0,.slice none 0 0,.slice none 0 0,.bool false,.slice none 0 0,.slice none 0 0,.slice none 0 0],.agg #[.string ⟨#[]⟩,.slice none 0 0,.slice none 0 0,.slice none 0 0,.slice none 0 0,.bool false,.slice none 0 0,.slice none 0 0,.slice none 0 0],.slice none 0 0],[]⟩).memory Tryz.f3.params.toList Rows.patchTurnsSpec.vars false #[.agg #[.string ⟨#[]⟩,.slice none 0 0,.slice none 0 0,.slice none 0 0,.slice none 0 0,.bool false,.slice none 0 0,.slice none 0 0,.slice none 0 0],.agg #[.string ⟨#[]⟩,.slice none 0 0,.slice none 0 0,.slice none 0 0,.slice none 0 0,.bool false,.slice none 0 0,.slice none 0 0,.slice none 0 0],.agg #[.string ⟨#[]⟩,.slice none 0 0,.slice none 0 0,.slice none 0 0,.slice none 0 0,.bool false,.slice none 0 0,.slice none 0 0,.slice none 0 0],.slice none 0 0].toList 8=some (ds,[],places):=
 ⟨[.agg [.lit (.string []),.nil,.nil,.nil,.nil,.lit (.bool false),.agg [.nil,.nil,.nil]],.agg [.lit (.string []),.nil,.nil,.nil,.nil,.lit (.bool false),.agg [.nil,.nil,.nil]],.agg [.lit (.string []),.nil,.nil,.nil,.nil,.lit (.bool false),.agg [.nil,.nil,.nil]],.nil],[],by kernel_rfl⟩
def lifted(os:Os)(started:os.Started)(H:Type)(enc:TypeId×Value->H)(F:Stop.Interp):
  ReturnsInHanded {} Tryz.checked os 3 .any ((OpenSpec.ofChange Rows.patchTurnsSpec).preRow enc Tryz.prog Tryz.f3 Rows.patchTurnsRow.domain false Rows.patchTurnsRow.laid) (((OpenSpec.ofChange Rows.patchTurnsSpec).at F).post enc Tryz.prog Tryz.f3 false true false false):=by
 obtain⟨ds,places,hx⟩:=reads os enc;refine returnsInHanded_of_row (C:=Tryz.checked) (s:=OpenSpec.ofChange Rows.patchTurnsSpec) IK started (by kernel_rfl) Tryz.func3
  (witness_row_atRef (enc:=enc) (C:=Tryz.checked) false (qL os) #[.agg #[.string ⟨#[]⟩,.slice none 0 0,.slice none 0 0,.slice none 0 0,.slice none 0 0,.bool false,.slice none 0 0,.slice none 0 0,.slice none 0 0],.agg #[.string ⟨#[]⟩,.slice none 0 0,.slice none 0 0,.slice none 0 0,.slice none 0 0,.bool false,.slice none 0 0,.slice none 0 0,.slice none 0 0],.agg #[.string ⟨#[]⟩,.slice none 0 0,.slice none 0 0,.slice none 0 0,.slice none 0 0,.bool false,.slice none 0 0,.slice none 0 0,.slice none 0 0],.slice none 0 0] rfl (by kernel_rfl) (by kernel_rfl) (by kernel_rfl)
   (OpenSpec.preRow_of_cond 8 hx (by kernel_rfl) (fun k hk=>by cases hk) (by kernel_rfl) (laidMet_nil _ _))) ?_
 intro W base args ds gs before hval hW _ _ hz hL hS _;exact zy H enc W base args ds gs before hval hW hz hL hS
end Go.Proofs.YtblddnfanlkgiaaGreat.patchTurns
