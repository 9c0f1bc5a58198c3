/- What the functions compute, part 9. Conditions: bounds. -/
import Derived.Test.YtbndmpiddinalaaGreatDoorTh
set_option linter.defProp false
set_option linter.unusedSimpArgs false
set_option linter.unusedVariables false
namespace Go.Proofs.YtbndmpiddinalaaGreatDoor
open Go Go.Av Go.Av.Ap
set_option maxRecDepth 100000
theorem pJ:∀(n:Nat)(e:Exp),cP n e=true->e.Lim->bO e
 |0,e,h,_=>by simp[cP]at h
 | n+1,e,h,hL=>by
  have hs:ie e=true:=by rw[fD,Xq]at h;exact h.1
  have h8:=Dh hs;have hk:∀l:List Exp,(∀x∈l,bO x)->nV l:=by
   intro l
   induction l with
   |nil=>intro _;trivial
   |cons x l ih=>exact fun h=>⟨h x ZO,ih fun y hy=>h y (by simp[hy])⟩
  have ha:nV e.args:=hk _ fun x hx=>pJ n x (gt h hx) (hL.kid hx);have hn:=hL.names;obtain⟨o,k,s,m,ns,es⟩:=e;exact⟨hn,by simp only[Exp.args]at h8;omega,ha⟩
def Ur:∀(n:Nat)(e:Exp),SizeOf.sizeOf e<=n->e.Lim->∀most:Int,0<=most->most<=1000->∃r:Int,af pg 90 [e.av,.int .i64 most]=am (.int .i64 r)/\(1<=r/\r<=most+1)/\(r<=most->∀d,(dO d e:Int)<=r):=by
 intro n
 induction n with
 |zero=>
  intro e h;cases e;simp at h
 | succ n ih=>
  intro e hs he most h0 h1;have hlen:=he.len;have hl:∀(k i:Nat),e.args.length-i=k->i<=e.args.length->∀m:Int,1<=m->m<=most+1->(m<=most->∀d,(1:Int)+(((e.args.take i).map (dO d)).sum:Nat)<=m)->∃r:Int,ak (L90_0 (af pg) ak) [.int .i64 most,.ip (aa e.av),.int .i64 m,.int .i64 i]=am (.int .i64 r)/\(1<=r/\r<=most+1)/\(r<=most->∀d,(1:Int)+((e.args.map (dO d)).sum:Nat)<=r):=by
   intro k
   induction k with
   |zero=>
    intro i hk hi m hm1 hm2 hs;have ht:e.args.take i=e.args:=Yz ZL;rw[ht]at hs;rw[FL90_0];have h1:¬((i:Int)<(e.args.length:Int)):=ZL
    exact⟨m,by simp[L90_0,h1],⟨hm1,hm2⟩,hs⟩
   | succ k ihk=>
    intro i hk hi m hm1 hm2 hs;rw[FL90_0];have hlt:i<e.args.length:=ZL
    have h1':(i:Int)<(e.args.length:Int):=ZL
    by_cases hm:m<=most
    ·have hix:=m7 (l:=e.args) (n:=(i:Int)) ZL h1';rw[Xw,Xv e.args i hlt]at hix;have hm':=XB hlt;have htk:∀d,(e.args.take (i+1)).map (dO d)=(e.args.take i).map (dO d)++[dO d e.args[i]]:=fun d=>by grind [List.take_succ_eq_append_getElem]
     generalize e.args[i]=f at hix hm' htk;have hsz:=vd hm';obtain⟨r,e1,e2,e3⟩:=ih f ZL (he.kid hm') (most-m) ZL ZL;obtain⟨r2,g1,g2,g3⟩:=ihk (i+1) ZL ZL (m+r) ZL ZL (fun h d=>by
      grind)
     have w1:IntKind.i64.wrap (most-m)=most-m:=aS ZL ZL;have w2:IntKind.i64.wrap (m+r)=m+r:=aS ZL ZL;have w3:IntKind.i64.wrap ((i:Int)+1)=((i+1:Nat):Int):=aV ZL;refine⟨r2,?_,g2,g3⟩;rw[<- g1];simp only[L90_0,ao,au,cd,FA108_5,ae,XK,XG,LD48,oP,aB,fk,h1',hm,XP,bn,aj,cw,ai,XA,hix,LD108,XQ,X0,XE,Nat.reduceAdd,Xt,X4,X2,kE,fF,w1,e1,bj,w2,w3]
    ·exact⟨m,by simp[L90_0,h1',hm],⟨hm1,hm2⟩,fun h=>absurd h hm⟩
  obtain⟨r,e1,e2,e3⟩:=hl e.args.length 0 rfl ZL 1 ZL ZL (fun _ d=>ZO);refine⟨r,?_,e2,fun h d=>?_⟩
  ·grind [C90,S90,tr,xX,nB]
  ·cases d with
   |zero=>simp only[dO];omega
   |succ d=>
    grind [dO]
def BB(P:Prop)(m:M AV):Prop:=∃b,m=am (.bool b)/\(b=true->P)
def BB.no{P:Prop}:BB P (am (.bool false)):=⟨false,rfl,fun h=>by cases h⟩
def BB.imp{P Q:Prop}{m:M AV}(h:BB P m)(f:P->Q):BB Q m:=by
 obtain⟨b,h1,h2⟩:=h;exact⟨b,h1,fun hb=>f (h2 hb)⟩
def Uq(e:Exp)(he:e.Lim):BB (∀d,dO d e<=120) (af pg 39 [e.av]):=by
 obtain⟨r,e1,e2,e3⟩:=Ur _ e (Xt _) he 120 ZL ZL;obtain⟨b,hb⟩:=Q6 _ e (Xt _) he;rw[C39];by_cases h:r<=120
 ·exact⟨b,by simp[S39,e1,hb,h],fun _ d=>ZN⟩
 ·exact⟨false,by simp[S39,e1,h],fun h=>by cases h⟩
def yl{F:(List AV->M AV)->List AV->M AV}(hF:∀vs,ak F vs=F (ak F) vs)(st:Nat->List AV)(n c:Nat){E:M AV}{P:Prop}{R:Nat->Prop}(hE:BB P E)(hexit:∀k,k<=n->(k=n\/c<k)->F (ak F) (st k)=E)(hstep:∀k,k<n->k<=c->∃b:Bool,F (ak F) (st k)=(if b=true then ak F (st (k+1))else am (.bool false))/\(b=true->R k)):BB (P/\∀k,k<n->k<=c->R k) (ak F (st 0)):=by
 have key:∀d k,n-k=d->k<=n->BB (P/\∀j,k<=j->j<n->j<=c->R j) (ak F (st k)):=by
  intro d
  induction d with
  |zero=>
   intro k hd hk;rw[hF,hexit k hk (.inl ZL)];exact hE.imp fun h=>⟨h,fun j _ _ _=>ZL⟩
  | succ d ih=>
   intro k hd hk;by_cases hc:c<k
   ·rw[hF,hexit k hk (.inr hc)];exact hE.imp fun h=>⟨h,fun j _ _ _=>ZL⟩
   ·obtain⟨b,e,hr⟩:=hstep k ZL ZL;rw[hF,e];cases b with
    |false=>exact .no
    |true=>
     rw[Xr rfl];refine (ih (k+1) ZL ZL).imp fun h=>⟨h.1,fun j h1 h2 h3=>?_⟩
     grind
 grind
section
variable (m:Ap.Mod) (f:Fun)
theorem U4:ah T 53 (.ip (aa m.av)) 0=some (.ip ((aa m.av).drop 0)):=rfl
theorem Rp:ah T 53 (.ip (aa m.av)) 1=some (.ip ((aa m.av).drop 1)):=rfl
theorem U5:ah T 53 (.ip (aa m.av)) 2=some (.ip ((aa m.av).drop 2)):=rfl
theorem U6:ah T 53 (.ip (aa m.av)) 3=some (.ip ((aa m.av).drop 3)):=rfl
theorem Nu:ah T 53 (.ip (aa m.av)) 4=some (.ip ((aa m.av).drop 4)):=rfl
theorem U7:ah T 53 (.ip (aa m.av)) 6=some (.ip ((aa m.av).drop 6)):=rfl
theorem U1:ah T 51 (.ip ((aa m.av).drop 6)) 0=some (.ip ((aa m.av).drop 6)):=rfl
theorem U2:ah T 51 (.ip ((aa m.av).drop 6)) 1=some (.ip ((aa m.av).drop 7)):=rfl
theorem U3:ah T 51 (.ip ((aa m.av).drop 6)) 2=some (.ip ((aa m.av).drop 8)):=rfl
theorem Ve:ax T 9 (.ip ((aa m.av).drop 0))=some (.str m.name):=rfl
theorem Rr:ax T 31 (.ip ((aa m.av).drop 1))=some (strs m.uses):=rfl
theorem Vf:ax T 47 (.ip ((aa m.av).drop 2))=some (bR m.vars):=rfl
theorem Vg:ax T 48 (.ip ((aa m.av).drop 3))=some (df m.init):=rfl
theorem Nx:ax T 49 (.ip ((aa m.av).drop 4))=some (iN m.funcs):=rfl
theorem Vh:ax T 47 (.ip ((aa m.av).drop 6))=some (bR m.old):=rfl
theorem Vi:ax T 48 (.ip ((aa m.av).drop 7))=some (df m.forward):=rfl
theorem Vj:ax T 48 (.ip ((aa m.av).drop 8))=some (df m.back):=rfl
theorem WJ:ax T 53 (.ip (aa m.av))=some m.av:=rfl
theorem UX:ah T 110 (.ip (aa f.av)) 0=some (.ip ((aa f.av).drop 0)):=rfl
theorem UY:ah T 110 (.ip (aa f.av)) 2=some (.ip ((aa f.av).drop 2)):=rfl
theorem UZ:ah T 110 (.ip (aa f.av)) 3=some (.ip ((aa f.av).drop 3)):=rfl
theorem U0:ah T 110 (.ip (aa f.av)) 5=some (.ip ((aa f.av).drop 6)):=rfl
theorem U9:ax T 9 (.ip ((aa f.av).drop 0))=some (.str f.name):=ZP
theorem Va:ax T 47 (.ip ((aa f.av).drop 2))=some (bR f.params):=ZP
theorem Vb:ax T 106 (.ip ((aa f.av).drop 3))=some f.result.av:=ZP
theorem Vd:ax T 108 (.ip ((aa f.av).drop 6))=some f.body.av:=ZP
theorem WI:ax T 110 (.ip (aa f.av))=some f.av:=ZP
theorem WH:cg 12 f.av=am (.agg (aa f.av)):=aZ (p9 f)
end
theorem Vk(s:aW):ax T 9 (.ip (aa (.str s)))=some (.str s):=rfl
theorem Cs(s:aW):bm T 9 (.str s)=some (.int .i64 s.length):=rfl
def Up(m:Ap.Mod)(hm:m.Lim):BB (∀f∈m.funcs,∀d,dO d f.body<=120) (af pg 18 [m.av]):=by
 have u1:=hm.uses;have f1:=hm.funcs;obtain⟨b1,e1⟩:=Nh m.vars hm.vars hm.vty;obtain⟨b2,e2⟩:=Ni m.init hm.init hm.ies;obtain⟨b3,e3⟩:=Nh m.old hm.old hm.oty;obtain⟨b4,e4⟩:=Ni m.forward hm.forward hm.fes;obtain⟨b5,e5⟩:=Ni m.back hm.back hm.bes;have lu:bm T 31 (strs m.uses)=some (.int .i64 m.uses.length):=gW _;have lf:bm T 49 (iN m.funcs)=some (.int .i64 m.funcs.length):=Bv _;have base:∀k:Nat,k<=m.uses.length->(k=m.uses.length\/14<k)->L18_0 (af pg) ak (ak (L18_0 (af pg) ak)) [.ip (aa m.av),.int .i64 (k:Int)]=
   am (.bool (decide ((m.name.length:Int)<=30)&&decide ((m.uses.length:Int)<=14)&&decide ((m.funcs.length:Int)<=8)&&b1&&b2&&b3&&b4&&b5)):=by
  intro k hk h;have hg:(decide ((k:Int)<(m.uses.length:Int))&&decide ((k:Int)<=14))=false:=by
   rw[YL,XX,XX];omega
  simp -implicitDefEqProofs only[L18_0,ao,au,Rp,Rr,lu,ae,aB,fk,aG,aj,bN,hg,ai,Xo,Xu,U4,Ve,Cs,Nu,Nx,lf,U5,Vf,e1,U6,Vg,e2,U7,U1,Vh,e3,U2,Vi,e4,U3,Vj,e5]
 have hE:BB (m.funcs.length<=8) (ak (L18_0 (af pg) ak) [.ip (aa m.av),.int .i64 0]):=
  (yl (FL18_0 (af pg)) (fun k=>[.ip (aa m.av),.int .i64 (k:Int)]) m.uses.length 14 (R:=fun _=>True) (P:=m.funcs.length<=8) ⟨_,rfl,fun h=>by
   grind⟩ base (fun k hk hc=>by
   have h1:(k:Int)<(m.uses.length:Int):=ZL
   have h2:(k:Int)<=14:=ZL
   have hix:=oO (l:=m.uses) (n:=(k:Int)) ZL h1;have hw:IntKind.i64.wrap ((k:Int)+1)=((k+1:Nat):Int):=aV ZL;generalize m.uses[(k:Int).toNat]! = s at hix;refine⟨!(decide (30<(s.length:Int))),?_,fun _=>trivial⟩;simp -implicitDefEqProofs only[L18_0,ao,au,Rp,Rr,lu,ae,aB,fk,aG,aj,bN,h1,h2,XP,Yu,ai,XA,hix,Vk,Cs,dQ,bj,hw]
   grind)).imp fun h=>h.1
 rw[C18,show cl aE m.av=m.av by simp];obtain⟨b,hb,hP⟩:=yl (FL18_1 (af pg)) (fun k=>[.ip (aa m.av),.int .i64 (k:Int)]) m.funcs.length 8 (R:=fun k=>∀d,dO d (m.funcs[k]!).body<=120) hE (fun k hk h=>by
  have hg:(decide ((k:Int)<(m.funcs.length:Int))&&decide ((k:Int)<=8))=false:=by
   rw[YL,XX,XX];omega
  simp -implicitDefEqProofs only[L18_1,ao,au,Nu,Nx,lf,ae,aB,fk,aG,aj,bN,hg,ai,Xo,Xu]) (fun k hk hc=>by
  have h1:(k:Int)<(m.funcs.length:Int):=ZL
  have h2:(k:Int)<=8:=ZL
  have hix:=Bu (l:=m.funcs) (n:=(k:Int)) ZL h1;have hw:IntKind.i64.wrap ((k:Int)+1)=((k+1:Nat):Int):=aV ZL;rw[Xw]at hix;have hmem:m.funcs[k]! ∈m.funcs:=by rw[Xv m.funcs k hk];exact XB hk
  have hf:=hm.fns _ hmem;generalize m.funcs[k]! = f at hix hf;obtain⟨c1,g1⟩:=Nh f.params hf.params hf.pty;obtain⟨c2,g2⟩:=Q5 f.result hf.result;obtain⟨c3,g3,g4⟩:=Uq f.body hf.body;refine⟨!(decide (30<(f.name.length:Int))||!c1||!c2||!c3),?_,fun h=>?_⟩
  ·simp -implicitDefEqProofs only[L18_1,ao,au,Nu,Nx,lf,ae,aB,fk,aG,aj,bN,h1,h2,XP,Yu,ai,XA,hix,WI,WH,aI,UX,U9,Cs,dQ,UY,Va,g1,bc,dW,UZ,Vb,g2,U0,Vd,g3,bj,hw]
   grind
  grind)
 refine⟨b,?_,fun h f hf d=>?_⟩
 ·grind [S18,fS]
 ·obtain⟨q1,q2⟩:=hP h;obtain⟨k,hk,rfl⟩:=YS hf
  have:=q2 k hk ZL d
  grind
theorem t5(p:List Ap.Mod)(hp:p.length<=140737488355328)(hL:∀m∈p,m.Lim):BB (p.length<=4/\∀m∈p,∀f∈m.funcs,∀d,dO d f.body<=120) (af pg 5 [mods p]):=by
 have lm:bm T 22 (mods p)=some (.int .i64 p.length):=by
  have h:bm T 22 (mods p)=some (.int .i64 (p.map Mod.av).length):=rfl;rw[h,Yt]
 rw[C5,show cl aE (mods p)=mods p by simp];obtain⟨b,hb,hP⟩:=yl (FL5_0 (af pg)) (fun k=>[mods p,.int .i64 (k:Int)]) p.length 4 (E:=am (.bool (decide ((p.length:Int)<=4)))) (P:=p.length<=4) (R:=fun k=>∀f∈(p[k]!).funcs,∀d,dO d f.body<=120) ⟨_,rfl,fun h=>by
  grind⟩ (fun k hk h=>by
  have hg:(decide ((k:Int)<(p.length:Int))&&decide ((k:Int)<=4))=false:=by
   rw[YL,XX,XX];omega
  simp -implicitDefEqProofs only[L5_0,ao,au,lm,ae,aB,fk,aG,aj,bN,hg,ai,Xo,Xu]) (fun k hk hc=>by
  have h1:(k:Int)<(p.length:Int):=ZL
  have h2:(k:Int)<=4:=ZL
  have hix:=bp (T:=T) (t:=22) (e:=53) (f:=Mod.av) (l:=p) (n:=(k:Int)) rfl rfl rfl (fun _=>rfl) ZL h1;rw[Xw]at hix;have hix:aA T 22 (mods p) (.int .i64 (k:Int))=some (.ip (aa (Mod.av p[k]!))):=hix;have hw:IntKind.i64.wrap ((k:Int)+1)=((k+1:Nat):Int):=aV ZL;have hmem:p[k]! ∈p:=by rw[Xv p k hk];exact XB hk
  have hl:=hL _ hmem;generalize p[k]! = m at hix hl;obtain⟨b,e,q⟩:=Up m hl;refine⟨b,?_,q⟩;simp -implicitDefEqProofs only[L5_0,ao,au,lm,ae,aB,fk,aG,aj,bN,h1,h2,XP,Yu,ai,XA,hix,WJ,e,bc,bj,hw];cases b<;>rfl)
 refine⟨b,?_,fun h=>⟨(hP h).1,fun m hm=>?_⟩⟩
 ·grind [S5,fS]
 ·obtain⟨q1,q2⟩:=hP h;obtain⟨k,hk,rfl⟩:=YS hm
  have:=q2 k hk ZL
  grind
end Go.Proofs.YtbndmpiddinalaaGreatDoor
namespace Go.Proofs.YtbndmpiddinalaaGreatDoor
open Go Go.Av Go.Av.Ap Go.RowKit
set_option maxRecDepth 1000000
def Bw(l:List Val):Prop:=l.length<=140737488355328/\∀v∈l,v.Lim
structure Proc.Lim (p:Proc):Prop where
 mods:p.mods.length<=140737488355328/\∀m∈p.mods,m.Lim
 state:p.state.length<=140737488355328/\∀w∈p.state,Bw w.values
 frames:p.frames.length<=140737488355328/\∀f∈p.frames,Bw f.locals/\Bw f.stack
 world:p.world.length<=140737488355328
 value:p.out.value.Lim
 deeds:p.out.deeds.length<=140737488355328
 calls:p.out.calls.length<=140737488355328/\∀c∈p.out.calls,Bw c.args
 ostate:p.out.state.length<=140737488355328/\∀w∈p.out.state,Bw w.values
section
variable {H:Type} {enc:TypeId×Value->H} {W:World}
end
end Go.Proofs.YtbndmpiddinalaaGreatDoor
namespace Go.Proofs.YtbndmpiddinalaaGreatDoor
open Go Go.Av Go.Av.Ap
set_option maxRecDepth 100000
def K8(F:Int->Prop)(most:Int)(m:M AV):Prop:=∃n,m=am (.int .i64 n)/\1<=n/\n<=most+1/\(n<=most->F n)
def Gd(e:Val):Prop:=∀most:Int,0<=most->most<=1000->K8 (fun n=>(e.sz:Int)<=140737488355341*n) most (af pg 19 [e.av,.int .i64 most])
def NN(e:Val)(hL:e.Lim)(ih:∀x∈e.values,Gd x)(most:Int)(h0:0<=most)(h1:most<=1000):
  ∀(r:Nat)(n i:Int),e.values.length-i.toNat=r->0<=i->i<=e.values.length->1<=n->n<=most+1->K8 (fun k=>(cV (e.values.drop i.toNat):Int)<=140737488355341*(k-n)) most (ak (L19_0 (af pg) ak) [.int .i64 most,.ip (aa e.av),.int .i64 n,.int .i64 i]):=by
 intro r
 induction r with
 |zero=>
  intro n i hr hi hb hn hm;rw[FL19_0];simp only[L19_0];have h1:¬(i<(e.values.length:Int)):=ZL
  simp[h1];exact⟨n,rfl,hn,hm,fun h=>by grind [List.drop_eq_nil_of_le,cV]⟩
 | succ r IH=>
  intro n i hr hi hb hn hm;have hlen:=hL.len;have h5:i<(e.values.length:Int):=ZL
  have hlt:i.toNat<e.values.length:=ZL
  by_cases hs:n<=most
  ·obtain⟨k,hk,hk1,hk2,hk3⟩:=ih e.values[i.toNat] (XB hlt) (most-n) ZL ZL;obtain⟨n',q1,q2,q3,q4⟩:=IH (n+k) (i+1) ZL ZL ZL ZL ZL;have h4:K8 (fun k=>(cV (e.values.drop i.toNat):Int)<=140737488355341*(k-n)) most (ak (L19_0 (af pg) ak) [.int .i64 most,.ip (aa e.av),.int .i64 (n+k),.int .i64 (i+1)]):=by
    by_cases hk4:k<=most-n
    ·refine⟨n',q1,q2,q3,fun h=>?_⟩
     grind [List.drop_eq_getElem_cons,cV]
    ·have hstop:ak (L19_0 (af pg) ak) [.int .i64 most,.ip (aa e.av),.int .i64 (n+k),.int .i64 (i+1)]=am (.int .i64 (n+k)):=by
      rw[FL19_0];simp only[L19_0];have h6:¬(n+k<=most):=ZL
      simp[h6]
     exact⟨n+k,hstop,ZL,ZL,fun h=>ZL⟩
   rw[FL19_0];simp only[L19_0];simp (disch:=omega) [h5,hs,sY,Xv e.values i.toNat hlt,aS,hk];simpa using h4
  ·rw[FL19_0];simp only[L19_0];simp[h5,hs];exact⟨n,rfl,hn,hm,fun h=>absurd h hs⟩
def IM{e x:Val}(h:x∈e.values):SizeOf.sizeOf x<SizeOf.sizeOf e:=by
 cases e with
 |mk k n ns vs=>
  have h1:=YN h;have h3:SizeOf.sizeOf x<SizeOf.sizeOf vs:=h1
  grind
def t19:∀(N:Nat)(e:Val),SizeOf.sizeOf e<=N->e.Lim->Gd e:=by
 intro N
 induction N with
 |zero=>intro e he;cases e;simp at he
 |succ N ih=>
  intro e he hL most h0 h1;rw[C19];obtain⟨n,hn,b1,b2,b3⟩:=NN e hL (fun x hx=>ih x (by have:=IM hx;omega) (hL.kid hx)) most h0 h1 e.values.length 1 0 rfl ZL ZL ZL ZL;simp at hn;simp[S19];rw[hn,nB];refine⟨n,rfl,b1,b2,fun h=>?_⟩;have e1:=b3 h;have e2:e.sz=1+e.names.length+cV e.values:=by cases e;rfl
  have e3:=hL.names
  grind
def T9(n:Nat)(l:List Val):Prop:=l.length<=n/\∀v∈l,v.sz<=4611686018427387904/\v.names.length<=20
def t6(l:List Val)(n:Nat)(hn:n<=1000)(hL:Bw l):BB (T9 n l) (af pg 6 [vals l,.int .i64 (n:Int)]):=by
 have hl:=hL.1;have lv:bm T 23 (vals l)=some (.int .i64 l.length):=qy _;rw[C6,show cl aE (vals l)=vals l by simp,show cl aE (.int .i64 (n:Int))= .int .i64 (n:Int)from rfl];obtain⟨b,hb,hP⟩:=yl (FL6_0 (af pg)) (fun k=>[vals l,.int .i64 (n:Int),.int .i64 (k:Int)]) l.length n (E:=am (.bool (decide ((l.length:Int)<=(n:Int))))) (P:=l.length<=n) (R:=fun k=>(l[k]!).sz<=4611686018427387904/\(l[k]!).names.length<=20) ⟨_,rfl,fun h=>by
  grind⟩ (fun k hk h=>by
  have hg:(decide ((k:Int)<(l.length:Int))&&decide ((k:Int)<=(n:Int)))=false:=by
   rw[YL,XX,XX];omega
  simp -implicitDefEqProofs only[L6_0,ao,au,lv,ae,aB,fk,aG,aj,bN,hg,ai,Xo,Xu]) (fun k hk hc=>by
  have h1:(k:Int)<(l.length:Int):=ZL
  have h2:(k:Int)<=(n:Int):=ZL
  have hix:=sY (l:=l) (n:=(k:Int)) ZL h1;rw[Xw]at hix;have hw:IntKind.i64.wrap ((k:Int)+1)=((k+1:Nat):Int):=aV ZL;have hmem:l[k]! ∈l:=by rw[Xv l k hk];exact XB hk
  have hl:=hL.2 _ hmem;generalize l[k]! = v at hix hl;obtain⟨s,hs,s1,s2,s3⟩:=t19 _ v (Xt _) hl 100 ZL ZL;have ls:bm T 31 (strs v.names)=some (.int .i64 v.names.length):=gW _;have lV:ax T 33 (.ip (aa v.av))=some v.av:=by cases v;rfl
  have fV:ah T 33 (.ip (aa v.av)) 2=some (.ip ((aa v.av).drop 2)):=by cases v;rfl
  have gV:ax T 31 (.ip ((aa v.av).drop 2))=some (strs v.names):=by cases v;rfl
  refine⟨!(decide (100<s)||decide (20<(v.names.length:Int))),?_,fun h=>?_⟩
  ·simp -implicitDefEqProofs only[L6_0,ao,au,lv,ae,aB,fk,aG,aj,bN,h1,h2,XP,Yu,ai,XA,hix,lV,hs,dQ,fV,gV,ls,dW,bj,hw]
   grind
  grind)
 refine⟨b,?_,fun h=>⟨(hP h).1,fun v hv=>?_⟩⟩
 ·grind [S6,fS]
 ·obtain⟨q1,q2⟩:=hP h;obtain⟨k,hk,rfl⟩:=YS hv
  grind
section
variable (p:Proc)
theorem Rq:ah T 39 (.ip (aa p.av)) 3=some (.ip ((aa p.av).drop 3)):=rfl
theorem R7:ax T 24 (.ip ((aa p.av).drop 3))=some (ints p.world):=rfl
variable (c:Ap.Call)
theorem UM:ah T 127 (.ip (aa c.av)) 2=some (.ip ((aa c.av).drop 2)):=rfl
theorem Vq:ax T 23 (.ip ((aa c.av).drop 2))=some (vals c.args):=rfl
end
def Si(l:List Ap.Call):bm T 35 (calls l)=some (.int .i64 l.length):=by
 simp_all
def Hx(l:List Deed):bm T 34 (deeds l)=some (.int .i64 l.length):=by
 simp_all
def JP(l:List Int):bm T 24 (ints l)=some (.int .i64 l.length):=by
 simp_all
@[simp] theorem RN(a:Exp)(l:List Exp):aA T 48 (df (a:: l)) (.int .i64 0)=some (.ip (aa a.av)):=by
 grind [m7]
@[simp] theorem WL(a b:Exp)(l:List Exp):aA T 48 (df (a:: b:: l)) (.int .i64 1)=some (.ip (aa b.av)):=by
 grind [m7]
@[simp] theorem WM(a b c:Exp)(l:List Exp):aA T 48 (df (a:: b:: c:: l)) (.int .i64 2)=some (.ip (aa c.av)):=by
 grind [m7]
section
variable (o n:Int) (s m:aW) (ns:List aW) (es:List Exp)
@[simp] theorem qe:(Exp.mk o n s m ns es).op=o:=rfl
@[simp] theorem CE:(Exp.mk o n s m ns es).n=n:=rfl
@[simp] theorem Il:(Exp.mk o n s m ns es).s=s:=rfl
@[simp] theorem J1:(Exp.mk o n s m ns es).m=m:=rfl
@[simp] theorem jw:(Exp.mk o n s m ns es).names=ns:=rfl
@[simp] theorem kV:(Exp.mk o n s m ns es).args=es:=rfl
end
def lN(o n:Int)(s m:aW)(ns:List aW)(es:List Exp):AV.agg [.int .i64 o,.int .i64 n,.str s,.str m,strs ns,df es]=(Exp.mk o n s m ns es).av:=by rw[Exp.av,Exp.cells_eq];rfl
theorem tJ:∀(ns:List aW)(vs:List Val)(s:aW)(i:Int),ns.length=vs.length->(aY (fun x=>s== x) ns i= -1/\gI ns vs s=none)\/(∃(k:Nat)(h:k<vs.length),aY (fun x=>s== x) ns i=i+k/\gI ns vs s=some vs[k])
 |[],[],s,i,_=>.inl ⟨rfl,rfl⟩
 | n:: ns,v:: vs,s,i,h=>by
  simp only[aY,gI];by_cases hn:n=s
  ·grind
  ·have hn':(s== n)=false:=by simpa using fun e=>hn e.symm
   simp only[Xn hn,hn',Xo,Xu];rcases tJ ns vs s (i+1) (by simpa using h)with⟨h1,h2⟩|⟨k,hk,h1,h2⟩
   ·grind
   ·right;exact⟨k+1,by simp;omega,ZN,by simpa using h2⟩
 |[],_:: _,_,_,h=>by simp at h
 |_:: _,[],_,_,h=>by simp at h
def l5{p:List Mod}{nm:SNm}{x:X Val}(hx:(∃v,x= .ok v)\/(∃e,x= .er e)){m:Ms}{h:Hp}(R:gX p nm m h):jZ p nm Val.av (x m) (gJ x h):=by
 rcases hx with⟨v,rfl⟩|⟨e,rfl⟩
 ·exact eU R
 ·exact gn R
def lH(op:Int)(a b:Val):(∃v,oS op a b= .ok v)\/(∃e,oS op a b= .er e):=by
 unfold oS;split
 ·split
  all_goals grind
 ·split
  ·split
   ·grind
   ·split
    ·grind
    ·split
     all_goals grind
  grind
def NL{l:List Exp}(h:l.length=1):∃a,l=[a]:=by
 match l,h with
 |[a],_=>grind
def Az{l:List Exp}(h:l.length=2):∃a b,l=[a,b]:=by
 match l,h with
 |[a,b],_=>grind
def VI{l:List Exp}(h:l.length=3):∃a b c,l=[a,b,c]:=by
 match l,h with
 |[a,b,c],_=>grind
def D8{α:Type}{p:List Mod}{nm:SNm}{enc:α->AV}{c:Prop}[Decidable c]{x y:X α}{a b:M AV}{m:Ms}{h:Hp}(h1:c->jZ p nm enc (x m) (a h))(h2:¬c->jZ p nm enc (y m) (b h)):jZ p nm enc ((if c then x else y) m) ((if c then a else b) h):=by
 grind
def Dv(a b:Bool):cz T .eql 4 (.bool a) (.bool b)=some (.bool (a== b)):=by cases a<;>cases b<;>rfl
def ru(v:Val)(h:Hp):ar (bF 4 [] v.av) (fun w=>am (AV.agg [ab (aa w) 0,ab (aa w) 1,ab (aa w) 2,ab (aa w) 3])) h=am v.av h:=by rw[KY]
def ew{p:List Mod}{nm:SNm}{r:Rs Val}{c:M AV}{h:Hp}(H:jZ p nm Val.av r (c h)):jZ p nm Val.av r (ar c (fun v=>ar (bF 4 [] v) fun w=>am (AV.agg [ab (aa w) 0,ab (aa w) 1,ab (aa w) 2,ab (aa w) 3])) h):=by
 cases r with
 |ok v s=>
  obtain⟨h',h1,h2⟩:=H;refine⟨h',?_,h2⟩;rw[ap h1,KY];rfl
 |er e s=>
  obtain⟨h',h1,h2⟩:=H;exact⟨h',Dl h1,h2⟩
theorem ET{p:List Mod}{nm:SNm}{n:Nat}(IH:sD p nm n)(IR:KB p nm n)(IC:FZ p nm n)(IW:Da p nm n):sD p nm (n+1):=by
 intro own ns vs e m h R G hn hs he;have IB:=t163 IH;by_cases hf:0<m.fuel
 rotate_left
 ·have e1:cL p (n+1) own ns vs e m= .er 16 m:=by
   show qo p (cL p n) own ns vs e m=_;unfold qo X.get;simp only;rw[Xr ZL];rfl
  rw[e1];exact⟨h,GN R hf _ e,R⟩
 have hspec:cL p (n+1) own ns vs e m=(if bE e.op= -2\/(bE e.op≠-1/\bE e.op≠e.args.length)then .er 13
   else if e.op=0 then .ok (cp e.n)
   else if e.op=1 then(if e.n=0\/e.n=1 then .ok (dR (e.n== 1))else .er 13)
   else if e.op=2 then(match lj ns vs e.s with|some v=>.ok v|none=>.er 12)
   else if e.op=3\/e.op=4\/e.op=5\/e.op=6\/e.op=7 then(cL p n own ns vs e.args[0]!).bind fun a=>(cL p n own ns vs e.args[1]!).bind fun b=>oS e.op a b
   else if e.op=8\/e.op=9 then(boolX (cL p n own ns vs e.args[0]!)).bind fun x=>if x=(e.op== 9)then .ok (dR (e.op== 9))else(boolX (cL p n own ns vs e.args[1]!)).bind fun y=>.ok (dR y)
   else if e.op=10 then(boolX (cL p n own ns vs e.args[0]!)).bind fun x=>.ok (dR !x)
   else if e.op=11 then(boolX (cL p n own ns vs e.args[0]!)).bind fun x=>if x=true then cL p n own ns vs e.args[1]! else cL p n own ns vs e.args[2]!
   else if e.op=12 then(cL p n own ns vs e.args[0]!).bind fun v=>cL p n own (ns++[e.s]) (vs++[v]) e.args[1]!
   else if e.op=13 then mO (cL p n own ns vs) e
   else if e.op=14 then(cL p n own ns vs e.args[0]!).bind fun v=>(match gI v.names v.values e.s with|some x=>if v.kind=2 then .ok x else .er 13|none=>.er 13)
   else if e.op=15 then tn p (cL p n) own ns vs e
   else vB p (cL p n own ns vs) own e:X Val) (jX m):=by
  show qo p (cL p n) own ns vs e m=_;unfold qo X.get;simp only;rw[Xn ZL];have hw:(if e.op=16 then Bz (cL p n own ns vs e.args[0]!) e else C1 p (cL p n own ns vs) own e)=vB p (cL p n own ns vs) own e:=rfl;rw[hw];rfl
 have hbm:=G.bud;have G1:GoodM p (jX m):=⟨G.right,by simp only[mu,jX]at hbm |-;omega,G.fr,by simp only[jX];omega,G.shape⟩;have hmu:mu (jX m)<1000000:=by simp only[mu,jX]at hbm |-;omega
 have hn1:(jX m).fuel<=n:=by simp only[jX];omega
 have hft:(jX m).fuel<=m.fuel:=by simp only[jX];omega
 have hs1:Sc p own ns vs (jX m):=hs.less hft;by_cases hc:ry e
 rotate_left
 ·obtain⟨h1,R1,e1⟩:=Nc R G hf (bB own ns vs) e hc;have hc':bE e.op= -2\/(bE e.op≠-1/\bE e.op≠e.args.length):=by
   unfold ry at hc;by_cases k:bE e.op= -2
   ·exact .inl k
   ·grind
  rw[hspec,Xr hc'];exact⟨h1,e1,R1⟩
 obtain⟨h1,R1,hl,hst⟩:=step0 R;have hw:IntKind.i64.wrap (m.fuel-1)=m.fuel-1:=aS ZL (by simp only[mu]at hbm;omega);have hc':¬(bE e.op= -2\/(bE e.op≠-1/\bE e.op≠e.args.length)):=by
  unfold ry at hc;rintro (k|⟨k1,k2⟩)
  ·exact hc.1 k
  ·grind
 rw[hspec,Xn hc'];have hcc:=hc;have hce:=hc.2;obtain⟨op,en,es,em,en2,ea⟩:=e;simp only[qe,CE,Il,kV]at hce |-;unfold ry at hc;simp only[qe,kV]at hc;generalize hcode:af pg 106 [.hp 0 0,bB own ns vs,(Exp.mk op en es em en2 ea).av] h=code;rw[C106]at hcode;have hW:∀v:Val,∀h,ar (bF 4 [] v.av) (fun w=>am (AV.agg [ab (aa w) 0,ab (aa w) 1,ab (aa w) 2,ab (aa w) 3])) h=am v.av h:=ru;by_cases k0:op=0
 ·subst k0;have hlen:ea.length=0:=by simp[bE]at hce;omega
  obtain rfl:=XD hlen;simp[S106,hl,hst,hf,bk,da,hw,t159,bE,K106_2,K106_1,K106_0,bS,t160]at hcode;simp;rw[<- hcode];exact eU (a:=cp en) R1
 by_cases k1:op=1
 ·subst k1;have hlen:ea.length=0:=by simp[bE]at hce;omega
  obtain rfl:=XD hlen;simp[S106,hl,hst,hf,bk,da,hw,t159,bE,K106_2,K106_1,K106_0,bS,t161]at hcode;simp;rw[<- hcode];exact D8 (fun _=>eU (a:=dR (en== 1)) R1) (fun _=>gn R1)
 by_cases k2:op=2
 ·subst k2;have hlen:ea.length=0:=by simp[bE]at hce;omega
  obtain rfl:=XD hlen;have hnl:=hs.right.1;have hns:(ns.length:Int)<=549755813888:=by have:=hs.len;omega
  have hloop:=AH (K106_0 (af pg) ak) own ns vs (.mk 2 en es em en2 []) (.int .i64 0) (.int .i64 0) (.sl []) (.sl []) hnl ZL ns.length (Xt _);have hwl:IntKind.i64.wrap ((ns.length:Int)-1)=(ns.length:Int)-1:=aS ZL ZL;rw[Ze,hnl,Ze]at hloop;simp only[cd,qe,CE,Il,J1,jw,kV]at hloop;simp[S106,hl,hst,hf,bk,da,hw,t159,bE,hwl]at hcode;rw[hnl,hloop]at hcode;simp;rw[<- hcode];cases lj ns vs es with
  |none=>exact gn R1
  |some v=>exact eU R1
 by_cases k3:op=3
 ·subst k3;have hlen:ea.length=2:=by simp[bE]at hce;omega
  obtain⟨a,b,rfl⟩:=Az hlen;have ha:bO a:=bu he ZO;have hb:bO b:=bu he ZO;simp[S106,hl,hst,hf,bk,da,hw,t159,bE,K106_2,K106_1,K106_0,bS]at hcode;simp;rw[<- hcode];refine cG (IH own ns vs a _ _ R1 G1 hn1 hs1 ha) fun x s1 h2 hx R2=>?_;obtain⟨G2,_,f2⟩:=G1.eval hs1.right hx;refine cG (IH own ns vs b _ _ R2 G2 ZL (hs1.less f2) hb) fun y s2 h3 hy R3=>?_;rw[t162 3 x y ZO];exact ew (c:=gJ (oS 3 x y)) (l5 (lH _ _ _) R3)
 by_cases k4:op=4
 ·subst k4;have hlen:ea.length=2:=by simp[bE]at hce;omega
  obtain⟨a,b,rfl⟩:=Az hlen;have ha:bO a:=bu he ZO;have hb:bO b:=bu he ZO;simp[S106,hl,hst,hf,bk,da,hw,t159,bE,K106_2,K106_1,K106_0,bS]at hcode;simp;rw[<- hcode];refine cG (IH own ns vs a _ _ R1 G1 hn1 hs1 ha) fun x s1 h2 hx R2=>?_;obtain⟨G2,_,f2⟩:=G1.eval hs1.right hx;refine cG (IH own ns vs b _ _ R2 G2 ZL (hs1.less f2) hb) fun y s2 h3 hy R3=>?_;rw[t162 4 x y ZO];exact ew (c:=gJ (oS 4 x y)) (l5 (lH _ _ _) R3)
 by_cases k5:op=5
 ·subst k5;have hlen:ea.length=2:=by simp[bE]at hce;omega
  obtain⟨a,b,rfl⟩:=Az hlen;have ha:bO a:=bu he ZO;have hb:bO b:=bu he ZO;simp[S106,hl,hst,hf,bk,da,hw,t159,bE,K106_2,K106_1,K106_0,bS]at hcode;simp;rw[<- hcode];refine cG (IH own ns vs a _ _ R1 G1 hn1 hs1 ha) fun x s1 h2 hx R2=>?_;obtain⟨G2,_,f2⟩:=G1.eval hs1.right hx;refine cG (IH own ns vs b _ _ R2 G2 ZL (hs1.less f2) hb) fun y s2 h3 hy R3=>?_;rw[t162 5 x y ZO];exact ew (c:=gJ (oS 5 x y)) (l5 (lH _ _ _) R3)
 by_cases k6:op=6
 ·subst k6;have hlen:ea.length=2:=by simp[bE]at hce;omega
  obtain⟨a,b,rfl⟩:=Az hlen;have ha:bO a:=bu he ZO;have hb:bO b:=bu he ZO;simp[S106,hl,hst,hf,bk,da,hw,t159,bE,K106_2,K106_1,K106_0,bS]at hcode;simp;rw[<- hcode];refine cG (IH own ns vs a _ _ R1 G1 hn1 hs1 ha) fun x s1 h2 hx R2=>?_;obtain⟨G2,_,f2⟩:=G1.eval hs1.right hx;refine cG (IH own ns vs b _ _ R2 G2 ZL (hs1.less f2) hb) fun y s2 h3 hy R3=>?_;rw[t162 6 x y ZO];exact ew (c:=gJ (oS 6 x y)) (l5 (lH _ _ _) R3)
 by_cases k7:op=7
 ·subst k7;have hlen:ea.length=2:=by simp[bE]at hce;omega
  obtain⟨a,b,rfl⟩:=Az hlen;have ha:bO a:=bu he ZO;have hb:bO b:=bu he ZO;simp[S106,hl,hst,hf,bk,da,hw,t159,bE,K106_2,K106_1,K106_0,bS]at hcode;simp;rw[<- hcode];refine cG (IH own ns vs a _ _ R1 G1 hn1 hs1 ha) fun x s1 h2 hx R2=>?_;obtain⟨G2,_,f2⟩:=G1.eval hs1.right hx;refine cG (IH own ns vs b _ _ R2 G2 ZL (hs1.less f2) hb) fun y s2 h3 hy R3=>?_;rw[t162 7 x y ZO];exact ew (c:=gJ (oS 7 x y)) (l5 (lH _ _ _) R3)
 by_cases k8:op=8
 ·subst k8;have hlen:ea.length=2:=by simp[bE]at hce;omega
  obtain⟨a,b,rfl⟩:=Az hlen;have ha:bO a:=bu he ZO;have hb:bO b:=bu he ZO;simp[S106,hl,hst,hf,bk,da,hw,t159,bE,K106_2,K106_1,K106_0,bS]at hcode;simp;rw[<- hcode];refine cG (IB own ns vs a _ _ R1 G1 hn1 hs1 ha) fun x s1 h2 hx R2=>?_;obtain⟨G2,f2⟩:=G1.bool hs1.right hx;rw[Dv];simp only[ae,ai];cases x
  ·simp[t161];exact eU R2
  ·simp[t161];refine cG (IB own ns vs b _ _ R2 G2 ZL (hs1.less f2) hb) fun y s2 h3 hy R3=>?_;simp_all[t161,eU]
 by_cases k9:op=9
 ·subst k9;have hlen:ea.length=2:=by simp[bE]at hce;omega
  obtain⟨a,b,rfl⟩:=Az hlen;have ha:bO a:=bu he ZO;have hb:bO b:=bu he ZO;simp[S106,hl,hst,hf,bk,da,hw,t159,bE,K106_2,K106_1,K106_0,bS]at hcode;simp;rw[<- hcode];refine cG (IB own ns vs a _ _ R1 G1 hn1 hs1 ha) fun x s1 h2 hx R2=>?_;obtain⟨G2,f2⟩:=G1.bool hs1.right hx;rw[Dv];simp only[ae,ai];cases x
  ·simp[t161];refine cG (IB own ns vs b _ _ R2 G2 ZL (hs1.less f2) hb) fun y s2 h3 hy R3=>?_;simp_all[t161,eU]
  ·simp[t161];exact eU R2
 by_cases k10:op=10
 ·subst k10;have hlen:ea.length=1:=by simp[bE]at hce;omega
  obtain⟨a,rfl⟩:=NL hlen;have ha:bO a:=bu he ZO;simp[S106,hl,hst,hf,bk,da,hw,t159,bE,K106_2,K106_1,K106_0,bS]at hcode;simp;rw[<- hcode];refine cG (IB own ns vs a _ _ R1 G1 hn1 hs1 ha) fun x s1 h2 hx R2=>?_;simp_all[t161,eU]
 by_cases k11:op=11
 ·subst k11;have hlen:ea.length=3:=by simp[bE]at hce;omega
  obtain⟨a,b,c,rfl⟩:=VI hlen;have ha:bO a:=bu he ZO;have hb:bO b:=bu he ZO;have hc3:bO c:=bu he ZO;simp[S106,hl,hst,hf,bk,da,hw,t159,bE,K106_2,K106_1,K106_0,bS]at hcode;simp;rw[<- hcode];refine cG (IB own ns vs a _ _ R1 G1 hn1 hs1 ha) fun x s1 h2 hx R2=>?_;obtain⟨G2,f2⟩:=G1.bool hs1.right hx;simp only[ai];exact D8 (fun _=>ew (IH own ns vs b _ _ R2 G2 ZL (hs1.less f2) hb)) (fun _=>ew (IH own ns vs c _ _ R2 G2 ZL (hs1.less f2) hc3))
 by_cases k12:op=12
 ·subst k12;have hlen:ea.length=2:=by simp[bE]at hce;omega
  obtain⟨a,b,rfl⟩:=Az hlen;have ha:bO a:=bu he ZO;have hb:bO b:=bu he ZO;simp[S106,hl,hst,hf,bk,da,hw,t159,bE,K106_2,K106_1,K106_0,bS]at hcode;simp;rw[<- hcode];refine cG (IH own ns vs a _ _ R1 G1 hn1 hs1 ha) fun x s1 h2 hx R2=>?_;obtain⟨G2,rx,f2⟩:=G1.eval hs1.right hx;have hsl:=hs1.len;have hrl:=hs1.right.1;have hfu:=G1.fuel;rw[t148 own ns vs es x ZL ZL];simp only[dq,aj];refine ew (IH own (ns++[es]) (vs++[x]) b _ _ R2 G2 ZL ⟨hs1.own,⟨by simp[hrl],fun w hw=>?_⟩,?_⟩ hb)
  ·rcases X8.1 hw with k|k
   ·exact hs1.right.2 w k
   grind
  ·have:(jX m).fuel=m.fuel-1:=rfl
   have:=hs.len
   grind
 by_cases k13:op=13
 ·subst k13;simp[S106,hl,hst,hf,bk,da,hw,t159,bE,K106_2,K106_1,K106_0,bS,lN]at hcode;simp;rw[<- hcode];exact ew (IR own ns vs _ _ _ R1 G1 hn1 hs1 he)
 by_cases k14:op=14
 ·subst k14;have hlen:ea.length=1:=by simp[bE]at hce;omega
  obtain⟨a,rfl⟩:=NL hlen;have ha:bO a:=bu he ZO;simp[S106,hl,hst,hf,bk,da,hw,t159,bE,K106_2,K106_1,K106_0,bS]at hcode;simp;rw[<- hcode];refine cG (IH own ns vs a _ _ R1 G1 hn1 hs1 ha) fun x s1 h2 hx R2=>?_;obtain⟨G2,rx,f2⟩:=G1.eval hs1.right hx;have hrl:=CP rx;have h8:=pp rx;have hi:=t165 x.names es ZL;rw[aZ (dV x)];simp only[aj,aI,bH,XK,XG,LD31,LD23,LD3,ae,hi,aH,jl,aG,ao,bN,bk,da];rcases tJ x.names x.values es 0 hrl with⟨j1,j2⟩|⟨k,hk,j1,j2⟩
  ·rw[j1,j2];simp only[show decide ((0:Int)<=-1)=false by decide,YZ,Xo,Xu];exact gn R2
  ·rw[j1,j2];have hk0:decide ((0:Int)<=0+(k:Int))=true:=ZO
   rw[hk0];simp only[Yu];by_cases hk2:x.kind=2
   ·have hix:=sY (l:=x.values) (n:=0+(k:Int)) ZL ZL;have e5:(0+(k:Int)).toNat=k:=ZL
    rw[e5,Xv x.values k hk]at hix;have hld:ax T 33 (.ip (aa (x.values[k]).av))=some (x.values[k]).av:=ZO
    simp_all[eU]
   simp_all[gn]
 by_cases k15:op=15
 ·subst k15;simp[S106,hl,hst,hf,bk,da,hw,t159,bE,K106_2,K106_1,K106_0,bS,lN]at hcode;simp;rw[<- hcode];exact ew (IC own ns vs _ _ _ R1 G1 hmu hn1 hs1 he)
 by_cases k16:op=16
 ·subst k16;simp[S106,hl,hst,hf,bk,da,hw,t159,bE,K106_2,K106_1,K106_0,bS,lN]at hcode;have hce':bE 16=ea.length:=by simp only[bE]at hce |-;simpa using hce
  simp only[bE]at hce';simp at hce';simp[<- hce']at hcode;simp;rw[<- hcode];exact ew (IW own ns vs (.mk 16 en es em en2 ea) _ _ ZO hcc R1 G1 hmu hn1 hs1 he)
 by_cases k17:op=17
 ·subst k17;simp[S106,hl,hst,hf,bk,da,hw,t159,bE,K106_2,K106_1,K106_0,bS,lN]at hcode;have hce':bE 17=ea.length:=by simp only[bE]at hce |-;simpa using hce
  simp only[bE]at hce';simp at hce';simp[<- hce']at hcode;simp;rw[<- hcode];exact ew (IW own ns vs (.mk 17 en es em en2 ea) _ _ ZO hcc R1 G1 hmu hn1 hs1 he)
 by_cases k18:op=18
 ·subst k18;simp[S106,hl,hst,hf,bk,da,hw,t159,bE,K106_2,K106_1,K106_0,bS,lN]at hcode;have hce':bE 18=ea.length:=by simp only[bE]at hce |-;simpa using hce
  simp only[bE]at hce';simp at hce';simp[<- hce']at hcode;simp;rw[<- hcode];exact ew (IW own ns vs (.mk 18 en es em en2 ea) _ _ ZO hcc R1 G1 hmu hn1 hs1 he)
 grind [bE]
def sC{α β γ:Type}(x:X α)(f:α->X β)(g:β->X γ):(x.bind f).bind g=x.bind fun a=>(f a).bind g:=by
 funext m;unfold X.bind
 grind
theorem qw{α β:Type}(a:α)(f:α->X β):(X.ok a).bind f=f a:=rfl
theorem AF{p:List Mod}{nm:SNm}{n:Nat}(IH:sD p nm n)(own:Int)(ns:List aW)(vs:List Val)(en:List aW)(es:List Exp)(x5 x6 x7 x8:AV)(hes:∀e∈es,bO e)(h8:es.length<=8):
  ∀(B A:List Exp)(acc:List Val)(m:Ms)(h:Hp),A++B=es->acc.length=A.length->(∀v∈acc,Rv v)->en.length<=8->gX p nm m h->GoodM p m->m.fuel<=n->Sc p own ns vs m->
  jZ p nm Val.av ((listX (cL p n own ns vs) B).bind (fun ws=>if dL (.mk 2 0 en (acc++ws))<=4 then .ok (.mk 2 0 en (acc++ws))else .er 6) m)
   (ak (L164_0 (af pg) ak) [.hp 0 0,.ip (aa (bB own ns vs)),df es,.int .i64 es.length,.int .i64 A.length,x5,x6,x7,x8,.int .i64 2,.int .i64 0,strs en,vals acc] h)
 | [],A,acc,m,h,e,ha,hr,hen,R,G,hn,hs=>by
  simp only[XN]at e;subst e;have hsz:(Val.mk 2 0 en acc).sz<=1099511627776:=by
   have h2:cV acc<=acc.length*200000:=by
    have key:∀l:List Val,(∀v∈l,Rv v)->cV l<=l.length*200000:=by
     intro l
     induction l with
     |nil=>intro _;simp[cV]
     |cons v l ih=>
      grind [uQ,cV]
    exact key acc hr
   simp only[Val.sz];have:acc.length*200000<=8*200000:=Xy _ ZL;omega
  have hlv:=t183 _ (.mk 2 0 en acc) (Xt _) hsz;rw[Val.av_eq]at hlv;simp only[Xh,Xi,Xc,Xa]at hlv;have hw:∀h,ar (bF 4 [] (AV.agg [.int .i64 2,.int .i64 0,strs en,vals acc])) (fun w=>am (AV.agg [ab (aa w) 0,ab (aa w) 1,ab (aa w) 2,ab (aa w) 3])) h=am (Val.mk 2 0 en acc).av h:=fun h=>by
   have:=ru (Val.mk 2 0 en acc) h
   simp_all[Val.av_eq]
  rw[FL164_0];simp only[listX,qw,XN];simp only[L164_0,ao,au,aB,ae,ai,ZK,YJ,Xo,Xu,hlv,aj,fk,bk,da,hw];by_cases h4:dL (.mk 2 0 en acc)<=4
  ·have h4':decide (((dL (.mk 2 0 en acc):Nat):Int)<=4)=true:=by simp;omega
   simp_all[eU]
  ·have h4':decide (((dL (.mk 2 0 en acc):Nat):Int)<=4)=false:=by simp;omega
   simp only[h4,h4',Xo,Xu];exact gn R
 | x:: B,A,acc,m,h,e,ha,hr,hen,R,G,hn,hs=>by
  have hll:A.length+(B.length+1)=es.length:=by rw[<- e];simp
  have h1:(A.length:Int)<(es.length:Int):=ZL
  have hx:es[A.length]'(ZL)=x:=by subst e;simp
  have hm:x∈es:=by rw[<- e];simp
  have hi:=m7 (l:=es) (n:=(A.length:Int)) ZL h1;rw[show ((A.length:Int)).toNat=A.length by omega,Xv es A.length ZL,hx]at hi;have hsc:ax T 193 (.ip (aa (bB own ns vs)))=some (bB own ns vs):=rfl;have hex:ax T 108 (.ip (aa x.av))=some x.av:=ZO
  rw[FL164_0];simp only[listX,sC,qw];simp only[L164_0,ao,au,aB,ae,ai,h1,XP,XA,hi,hex,aZ (p8 x),aj,hsc,aI];refine cG (IH own ns vs x m h R G hn hs (hes x hm)) fun v s h' hv Rs=>?_;obtain⟨G2,rv,f2⟩:=G.eval hs.right hv;have hb2:aP T 23 1 [(0,v.av)]=some (vals [v]):=by rw[v.av_eq];simp[vals,dY,v.av_eq];rfl
  have ha2:dG T 23 (vals acc) (vals [v])=some (vals (acc++[v])):=I4 ZQ;have hc1:gG (vals (acc++[v]))=am (vals (acc++[v])):=rfl;have hw:IntKind.i64.wrap ((A.length:Int)+1)=((A.length+1:Nat):Int):=aV ZL;simp only[hb2,ae,ha2,hc1,aj,bj,hw];have ih:=AF IH own ns vs en es x5 x6 x7 x8 hes h8 B (A++[x]) (acc++[v]) s h' ZN (by simp[ha]) (fun w hw=>by
   grind) hen Rs G2 ZL (hs.less f2)
  grind
theorem t164{p:List Mod}{nm:SNm}{n:Nat}(IH:sD p nm n):KB p nm n:=by
 intro own ns vs e m h R G hn hs he;obtain⟨l1,l2⟩:=mA he;unfold mO;have ha:=t168 e.names ZL;have hcl:=t119 e.names ZL;have hB:cE T true 33 [(0,.int .i64 2),(2,strs e.names)]=some (.agg [.int .i64 2,.int .i64 0,strs e.names,.hn]):=rfl;have hC:bF 4 [3] (.agg [.int .i64 2,.int .i64 0,strs e.names,.hn])=am (.agg [.int .i64 2,.int .i64 0,strs e.names,.hn]):=rfl;rw[C164];simp only[S164,cd,FA108_4,FA108_5,XK,XG,LD31,LD48,gW,oP,ae,aH,ha,aj,aG,ao,au,bN,bk,da,fk,hcl,hB,hC,aI];have hsc:(AV.ip (aa (bB own ns vs)))= .ip [.int .i64 own,strs ns,vals vs]:=rfl;by_cases hl:e.names.length=e.args.length
 ·by_cases hasc:asc e.names=true
  ·have e1:((e.names.length:Int)== (e.args.length:Int)&&asc e.names)=true:=by simp[hl,hasc]
   simp only[hl,hasc,e1,Zy,XA];by_cases h8:e.args.length<=8
   ·have h8':decide ((e.args.length:Int)<=8)=true:=by simp;omega
    have e2:((e.args.length:Int)== (e.args.length:Int)&&true)=true:=ZO
    simp only[h8,h8',e2,XA]
    have:=AF IH own ns vs e.names e.args (.int .i64 0) (.int .i64 0) (.sl []) (.sl []) (fun x hx=>bu he hx) h8 e.args [] [] m h rfl rfl (fun v hv=>by cases hv) ZL R G hn hs
    simp only[XW]at this;exact this
   ·have h8':decide ((e.args.length:Int)<=8)=false:=by simp;omega
    have e2:((e.args.length:Int)== (e.args.length:Int)&&true)=true:=ZO
    simp only[h8,h8',e2,XA,Xo,Xu];exact gn R
  simp_all[gn]
 simp_all[gn]
def CI(s t:aW)(v:AV)(h:ay v=true):bT 3 (.agg [.str s,.str t,v])=true:=by
 simp only[bT,dy,aa,XL,Zm];rw[h];rfl
def BZ{p:List Mod}{nm:SNm}{tag:Nat->Nat}{dv cv sv:AV}{m:Ms}{h:Hp}(R:RepT (rowP p nm.told) nm tag dv cv sv m h)(l:List Val)(hb:l.length<=274877906944):
  ∃av h1 tag1,af pg 25 [vals l] h= .ok av h1/\RepT (rowP p nm.told) nm tag1 dv cv sv m h1/\xH tag1 4 h1 l av/\ay av=true:=by
 have e0:af pg 25 [vals l]=cu T 23 (af pg) [vals l]:=d8 gZ rfl _;have e1:=np (T:=T) (t:=23) rfl rfl rfl rfl rfl ZM (af pg) l (show l.length*64<=140737488355328 by omega) h;rw[e0];by_cases hl:l=[]
 ·rw[Xr hl]at e1;exact⟨_,h,tag,e1,R,.inl (.inr ⟨hl,rfl⟩),rfl⟩
 ·rw[Xn hl]at e1;refine⟨_,_,_,e1,(R.more (aw l) 4).1,.inr ⟨h.length,rfl,ZO,ZO⟩,rfl⟩
def Fw{p:List Mod}{nm:SNm}{tag:Nat->Nat}{dv cv sv:AV}{m:Ms}{h:Hp}(R:RepT (rowP p nm.told) nm tag dv cv sv m h)(c:Ap.Call)(av:AV)(ha:xH tag 4 h c.args av)(hok:ay av=true)(hb:m.calls.length<=2000000):
  ∃cv' h1 h2,appH T 35 false cv (.sl [.agg [.str c.module,.str c.func,av]]) h= .ok cv' h1/\bU T 35 (.hp 0 10) cv' h1= .ok (.tup []) h2/\gX p nm { m with calls:=m.calls++[c] } h2:=by
 obtain⟨h1,cv',tag',e1,K,H,hc⟩:=AU (T:=T) (t:=35) rfl rfl rfl rfl ZM rfl ZM (x:=.agg [.str c.module,.str c.func,av]) R.cs (fun h0=>by
  have:m.calls=[]:=XD h0;rw[this];rfl) (fun cs h=>h.ok.1) (CI _ _ _ hok) (show (m.calls.length+1)*56<=140737488355328 by omega)
 have h0:=(K 0 _ R.r0 (by rw[R.t0];decide)).1;refine⟨cv',h1,_,e1,bX rfl h0 (kG hc).1 (show 10+1<=12 by decide) ZM,?_⟩;have hac:aa cv'=[cv']:=(kG hc).2.1
 have:=R.pushCall (m':={ m with calls:=m.calls++[c] }) K ha H rfl rfl rfl id
 refine⟨tag',dv,cv',sv,?_⟩;rw[hac];exact this
def uY{p:List Mod}{nm:SNm}{m:Ms}{h:Hp}(R:gX p nm m h)(x:Int):∃h1,gX p nm { m with frames:=x } h1/\(∀f:AV->M AV,ar (bb T 3 (.hp 0 3)) f h=f (.int .i64 m.frames) h)/\
  (∀f:AV->M AV,ar (bU T 3 (.hp 0 3) (.int .i64 x)) f h=f (.tup []) h1):=by
 obtain⟨tag,dv,cv,sv,R⟩:=R;exact⟨_,⟨tag,dv,cv,sv,R.set0 rfl rfl rfl id⟩,fun f=>ap (bL rfl rfl R.r0 rfl),fun f=>ap (bX rfl R.r0 rfl (show 3+1<=12 by decide) ZM)⟩
theorem xa(f:Fun)(a:Int)(ps:List fu)(l:List Val)(x6 x7 x8 x9:AV)(hb:ps.length<=274877906944)(hl:l.length=ps.length):∀(B A:List fu)(lb la:List Val),A++B=ps->la++lb=l->la.length=A.length->
  ak (L87_0 (af pg) ak) [.hp 0 0,vals l,.ip (aa f.av),bR ps,.int .i64 ps.length,.int .i64 A.length,x6,x7,x8,x9,.int .i64 a,strs (A.map (·.1)),vals la]=
  ak (L87_0 (af pg) ak) [.hp 0 0,vals l,.ip (aa f.av),bR ps,.int .i64 ps.length,.int .i64 ps.length,x6,x7,x8,x9,.int .i64 a,strs (ps.map (·.1)),vals l]
 | [],A,lb,la,e,e2,hla=>by
  simp only[XN]at e;subst e;have hz:lb=[]:=by
   apply XD;have:(la++lb).length=l.length:=by rw[e2]
   rw[XI]at this;omega
  grind
 | x:: B,A,lb,la,e,e2,hla=>by
  have hll:A.length+(B.length+1)=ps.length:=by rw[<- e];simp
  have h1:(A.length:Int)<(ps.length:Int):=ZL
  have hx:ps[A.length]'(ZL)=x:=by subst e;simp
  obtain⟨v,lb',rfl⟩:∃v lb',lb=v:: lb':=by
   cases lb with
   |nil=>
    grind
   |cons v lb'=>grind
  have hv:l[A.length]'(ZL)=v:=by
   subst e2;rw[List.getElem_append_right ZL];simp[hla]
  have hi:=vH (l:=ps) (n:=(A.length:Int)) ZL h1;rw[show ((A.length:Int)).toNat=A.length by omega,Xv ps A.length ZL,hx]at hi;have hj:=sY (l:=l) (n:=(A.length:Int)) ZL ZL;rw[show ((A.length:Int)).toNat=A.length by omega,Xv l A.length ZL,hv]at hj;have hfl:ax T 158 (.ip [.str x.1,.int .i64 x.2.kind,bR x.2.fields])=some (dU x):=ZO
  have hvl:ax T 33 (.ip (aa v.av))=some v.av:=ZO
  have hw:IntKind.i64.wrap ((A.length:Int)+1)=((A.length+1:Nat):Int):=aV ZL;have hbd:=t148 a (A.map (·.1)) la x.1 v ZQ ZL;have ih:=xa f a ps l x6 x7 x8 x9 hb hl B (A++[x]) lb' (la++[v]) ZN ZN (by simp[hla]);simp only[Y5,Ye,ZA,XI,List.length_singleton]at ih;rw[<- ih,FL87_0];simp only[L87_0,ao,au,aB,ae,ai,h1,XP,XA,hi,hfl,aZ (uG x),aj,aI,ku,FA158_0,XG,LD9,hj,hvl,bS,hbd,dq,iq (pm _ _ _),fE,bj,hw]
def C2(p:List Mod)(nm:SNm)(n:Nat):Prop:=∀(a:Int) (f:Fun) (l:List Val) m h,0<=a->a<p.length->f∈(p[a.toNat]?.getD default).funcs->l.length=f.params.length->(∀v∈l,Rv v)->gX p nm m h->GoodM p m->mu m<1000000->m.fuel<=n->
 jZ p nm Val.av (jI p (cL p n) a f l m) (af pg 87 [.hp 0 0,.int .i64 a,f.av,vals l] h)
def BN(s t:aW)(v:AV)(h:ay v=true):cE T false 127 [(0,.str s),(1,.str t),(2,v)]=some (.agg [.str s,.str t,v]):=by
 have hc:=kG h;show (rK _ _ [(0,.str s),(1,.str t),(2,v)]).map AV.agg=_;simp only[rK];have h2:=hc.2.2;have h3:=hc.2.1;cases v with
 |any=>cases h
 |agg _=>cases h
 |tup _=>cases h
 |_=>rfl
theorem zy(x:AV)(hx:dy x=some 3):aP T 35 1 [(0,x)]=some (.sl [x]):=by
 have h1:aP T 35 1 [(0,x)]=(mB 3 (List.replicate 1 (.agg [.str [],.str [],.sl []])) [(0,x)]).map .sl:=rfl
 grind [mB]
theorem B8{p:List Mod}{nm:SNm}{n:Nat}(LB:LimB p)(IH:sD p nm n)(a:Int)(f:Fun)(l:List Val)(m:Ms)(h0:0<=a)(ha:a<p.length)(hf:f∈(p[a.toNat]?.getD default).funcs)(hl:l.length=f.params.length)(hr:∀v∈l,Rv v)(G:GoodM p m)(hmu:mu m<1000000)(hn:m.fuel<=n):
  ∀ (m1:Ms) (h1:Hp),gX p nm m1 h1->m1= { m with calls:=if f.pub=true then m.calls++[⟨(p[a.toNat]?.getD default).name,f.name,l⟩]else m.calls } ->m.frames<60->
   jZ p nm Val.av (((cL p n a (f.params.map (·.1)) l f.body).bind fun v=>.upd (fun m=>{ m with frames:=m.frames-1 }) (.ok v)) (qG p a f l m))
    (K87_0 (af pg) ak [.hp 0 0,.int .i64 a,vals l,.ip (aa f.av),.int .i64 0,.int .i64 0,.sl [],.sl []] h1):=by
 have hlt:a.toNat<p.length:=ZL
 have hmp:p[a.toNat]?.getD default∈p:=by rw[XC hlt];exact XB hlt
 obtain⟨hbody,hparams⟩:=LB.body _ hmp f hf;have hfb:=G.bud;have hfu:=G.fuel;have hfr:=G.fr;intro m1 h1 R1 e1 h60;have hB:cE T false 193 [(0,.int .i64 a)]=some (bB a [] []):=rfl;have hcell:=iq (pm a [] []);have hloop:=xa f a f.params l (.int .i64 0) (.int .i64 0) (.sl []) (.sl []) hparams hl f.params [] l [] rfl rfl rfl;have hw1:IntKind.i64.wrap (m.frames+1)=m.frames+1:=aS ZL ZL;obtain⟨h2,R2,l2,s2⟩:=uY R1 (m.frames+1);have e2:{ m1 with frames:=m.frames+1 } = qG p a f l m:=by rw[e1];rfl
 have hm1f:m1.frames=m.frames:=by rw[e1]
 rw[e2]at R2;rw[hm1f]at l2;have hld:ax T 47 (.ip (bR f.params:: [.int .i64 f.result.kind,bR f.result.fields,.int .i64 f.effects,.int .i64 f.body.op,.int .i64 f.body.n,.str f.body.s,.str f.body.m,strs f.body.names,df f.body.args]))=some (bR f.params):=rfl;have hex:ax T 108 (.ip [.int .i64 f.body.op,.int .i64 f.body.n,.str f.body.s,.str f.body.m,strs f.body.names,df f.body.args])=some f.body.av:=by
  have:ax T 108 (.ip (aa f.body.av))=some f.body.av:=ZO
  rwa [cd]at this
 simp only[ZA,X0]at hloop;have hz:((0:Nat):Int)=0:=rfl;rw[hz]at hloop;have hm2:(if f.pub=true then m.calls++[(⟨(p[a.toNat]?.getD default).name,f.name,l⟩:Ap.Call)]else m.calls).length<=m.calls.length+1:=by
  split
  ·simp
  ·omega
 have G2:GoodM p (qG p a f l m):=by
  refine⟨⟨G.right.1,fun c hc=>?_⟩,?_,ZN,hfu,G.shape⟩
  ·simp only[qG]at hc;split at hc
   ·rcases X8.1 hc with k|k
    ·exact G.right.2 c k
    grind
   ·exact G.right.2 c hc
  ·grind [mu]
 simp only[K87_0,ao,au,hB,ae,hcell,aj,aI,fE,kv,FA110_2,FA110_5,XK,XG,hld,mc]at hloop |-;rw[show strs []=strs []from rfl]at hloop;rw[hloop,FL87_0];simp only[L87_0,ao,au,aB,ae,ai,ZK,YJ,Xo,Xu,aJ,FH170_3,XE,l2,bj,hw1,s2,FA110_5,XK,XG,hex,bS];have hns:((f.params.map (·.1)).length:Int)+(qG p a f l m).fuel<=549755813888:=by
  simp only[Yt,qG];simp only[mu]at hfb;omega
 refine cG (IH a (f.params.map (·.1)) l f.body _ _ R2 G2 hn ⟨ha,⟨by simp[hl],hr⟩,hns⟩ hbody) fun v s h3 hv R3=>?_;obtain⟨G3,_,_⟩:=G2.eval ⟨by simp[hl],hr⟩ hv;obtain⟨h4,R4,l4,s4⟩:=uY R3 (s.frames-1);have hfr3:=G3.fr;have hw2:IntKind.i64.wrap (s.frames-1)=s.frames-1:=aS ZL ZL;have hvl:ax T 33 (.ip (aa v.av))=some v.av:=ZO
 simp only[aZ (dV v),aj,aI,aJ,ae,FH170_3,XE,l4,fF,hw2,s4,hvl];have e9:_=Av.R.ok v.av h4:=ru v h4;rw[e9];exact⟨h4,rfl,R4⟩
def t87{p:List Mod}{nm:SNm}{n:Nat}(LB:LimB p)(IH:sD p nm n):C2 p nm n:=by
 intro a f l m h h0 ha hf hl hr R G hmu hn;have hlt:a.toNat<p.length:=ZL
 have hmp:p[a.toNat]?.getD default∈p:=by rw[XC hlt];exact XB hlt
 obtain⟨hbody,hparams⟩:=LB.body _ hmp f hf;have hfb:=G.bud;have hfu:=G.fuel;have hfr:=G.fr;have tail:=B8 LB IH a f l m h0 ha hf hl hr G hmu hn;simp only[kv]at tail;obtain⟨tag,dv,cv,sv,R0⟩:=R;have l3:∀g:AV->M AV,ar (bb T 3 (.hp 0 3)) g h=g (.int .i64 m.frames) h:=fun g=>ap (bL rfl rfl R0.r0 rfl);have lc:∀g:AV->M AV,ar (bb T 35 (.hp 0 10)) g h=g cv h:=fun g=>ap (bL rfl rfl R0.r0 rfl);have lm:∀g:AV->M AV,ar (bb T 22 (.hp 0 0)) g h=g (mods p) h:=fun g=>ap (bL rfl rfl R0.r0 (by rw[<- sT (t:=nm.told) (fun e=>ZN)];rfl));generalize hcode:af pg 87 [.hp 0 0,.int .i64 a,f.av,vals l] h=code;rw[C87]at hcode;simp -implicitDefEqProofs only[S87,aJ,ae,FH170_3,XE,l3,aB,bk,uk]at hcode;by_cases h60:m.frames<60
 ·rw[qH,Xr h60];have hd:decide (m.frames<60)=true:=by simpa using h60
  simp only[hd,da,XA]at hcode;simp -implicitDefEqProofs only[kv,FA110_1,FA110_0,XK,XG,LD4,LD9,ae,ai]at hcode;by_cases hp:f.pub=true
  ·simp only[hp,XA]at hcode tail;have hi:=Ep (l:=p) (n:=a) h0 ha;rw[Xv p a.toNat hlt]at hi;have e3:p[a.toNat]?.getD default=p[a.toNat]:=by rw[XC hlt];rfl
   obtain⟨av,h1,tag1,c1,R1,A1,ok1⟩:=BZ R0 l ZL;obtain⟨cv',h2,h3,p1,p2,R3⟩:=Fw R1 ⟨p[a.toNat].name,f.name,l⟩ av A1 ok1 (by simp only[mu]at hmu;omega);have hB:cE T false 127 [(0,.str p[a.toNat].name),(1,.str f.name),(2,av)]=some (.agg [.str p[a.toNat].name,.str f.name,av]):=BN _ _ _ ok1;have hBS:=zy (.agg [.str p[a.toNat].name,.str f.name,av]) rfl;have lc1:∀g:AV->M AV,ar (bb T 35 (.hp 0 10)) g h=g cv h:=lc;simp -implicitDefEqProofs only[lc,lm,hi,eW,FA53_0,FH170_0,FH170_4,FH37_3,XG,LD9,ae,XE,Nat.reduceAdd]at hcode;rw[ap c1]at hcode;simp only[hB,hBS,ae]at hcode
   grind [ap]
  ·simp only[hp,Xo,Xu]at hcode tail;rw[<- hcode];exact tail m h ⟨tag,dv,cv,sv,R0⟩ rfl h60
 ·rw[qH,Xn h60];have hd:decide (m.frames<60)=false:=by simpa using h60
  simp only[hd,da,Xo,Xu]at hcode;rw[<- hcode];exact⟨h,rfl,tag,dv,cv,sv,R0⟩
theorem xb{p:List Mod}{nm:SNm}{n:Nat}(IH:sD p nm n)(IE:C2 p nm n)(own:Int)(ns:List aW)(vs:List Val)(at_:Int)(f:Fun)(es:List Exp)(x8 x9 x10 x11:AV)(ha:0<=at_)(hat:at_<p.length)(hf:f∈(p[at_.toNat]?.getD default).funcs)(hes:∀e∈es,bO e)(h8:es.length<=274877906944)(hlen:es.length=f.params.length):
  ∀(B A:List Exp)(acc:List Val)(m:Ms)(h:Hp),A++B=es->acc.length=A.length->(∀v∈acc,Rv v)->gX p nm m h->GoodM p m->mu m<1000000->m.fuel<=n->Sc p own ns vs m->
  jZ p nm Val.av ((listX (cL p n own ns vs) B).bind (fun ws=>jI p (cL p n) at_ f (acc++ws)) m)
   (ak (L166_0 (af pg) ak) [.hp 0 0,.ip (aa (bB own ns vs)),.int .i64 at_,.ip (aa f.av),vals acc,df es,.int .i64 es.length,.int .i64 A.length,x8,x9,x10,x11] h)
 |[],A,acc,m,h,e,hac,hr,R,G,hmu,hn,hs=>by
  simp only[XN]at e;subst e;have hfl:ax T 110 (.ip (aa f.av))=some f.av:=ZO
  have IE':=IE at_ f acc m h ha hat hf ZL hr R G hmu hn;generalize hcode:ak (L166_0 (af pg) ak) [.hp 0 0,.ip (aa (bB own ns vs)),.int .i64 at_,.ip (aa f.av),vals acc,df A,.int .i64 A.length,.int .i64 A.length,x8,x9,x10,x11] h=code;rw[FL166_0]at hcode;simp -implicitDefEqProofs only[L166_0,ao,au,aB,ae,ai,ZK,YJ,Xo,Xu,hfl]at hcode;simp only[listX,qw,XN];rw[<- hcode];exact ew IE'
 | x:: B,A,acc,m,h,e,hac,hr,R,G,hmu,hn,hs=>by
  have hll:A.length+(B.length+1)=es.length:=by rw[<- e];simp
  have h1:(A.length:Int)<(es.length:Int):=ZL
  have hx:es[A.length]'(ZL)=x:=by subst e;simp
  have hm:x∈es:=by rw[<- e];simp
  have hi:=m7 (l:=es) (n:=(A.length:Int)) ZL h1;rw[show ((A.length:Int)).toNat=A.length by omega,Xv es A.length ZL,hx]at hi;have hsc:ax T 193 (.ip (aa (bB own ns vs)))=some (bB own ns vs):=rfl;have hex:ax T 108 (.ip (aa x.av))=some x.av:=ZO
  have hw:IntKind.i64.wrap ((A.length:Int)+1)=((A.length+1:Nat):Int):=aV ZL;generalize hcode:ak (L166_0 (af pg) ak) [.hp 0 0,.ip (aa (bB own ns vs)),.int .i64 at_,.ip (aa f.av),vals acc,df es,.int .i64 es.length,.int .i64 A.length,x8,x9,x10,x11] h=code;rw[FL166_0]at hcode;simp -implicitDefEqProofs only[L166_0,ao,au,aB,ae,ai,h1,XP,XA,hi,hex,aZ (p8 x),aj,hsc]at hcode;have hex':ax T 108 (.ip (aa (.agg (aa x.av))))=some x.av:=hex;simp -implicitDefEqProofs only[hex',ae]at hcode;rw[<- hcode];simp only[listX,sC,qw];refine cG (IH own ns vs x m h R G hn hs (hes x hm)) fun v s h' hv Rs=>?_;obtain⟨G2,rv,f2⟩:=G.eval hs.right hv;obtain⟨t1,_⟩:=sX n own ns vs x m v s G.fuel hv;have hb2:aP T 23 1 [(0,v.av)]=some (vals [v]):=by rw[v.av_eq];simp[vals,dY,v.av_eq];rfl
  have ha2:dG T 23 (vals acc) (vals [v])=some (vals (acc++[v])):=I4 ZQ;have ih:=xb IH IE own ns vs at_ f es x8 x9 x10 x11 ha hat hf hes h8 hlen B (A++[x]) (acc++[v]) s h' ZN (by simp[hac]) (fun w hw=>by
   grind) Rs G2 ZL ZL (hs.less f2)
  simp_all
def mi(f:Fun):cg 12 f.av=am (.agg (aa f.av)):=aZ (p9 f)
theorem wA{p:List Mod}{nm:SNm}{n:Nat}(LB:LimB p)(IH:sD p nm n)(own:Int)(ns:List aW)(vs:List Val)(e:Exp)(at_:Int)(hat:at_<p.length)(m:Ms)(h:Hp)(R:gX p nm m h)(G:GoodM p m)(hmu:mu m<1000000)(hn:m.fuel<=n)(hs:Sc p own ns vs m)(he:bO e)(y1 y2 y3 y4:AV):
  jZ p nm Val.av ((match lO p at_ e.s with
   |none=>.er 12
   | some f=>if e.m=[]\/f.pub=true then
     (if e.args.length=f.params.length then(listX (cL p n own ns vs) e.args).bind fun l=>jI p (cL p n) at_ f l else .er 13)
    else .er 12:X Val) m)
   (K166_0 (af pg) ak [.hp 0 0,.ip (aa (bB own ns vs)),.ip (aa e.av),.int .i64 at_,y1,y2,y3,y4] h):=by
 have IE:=t87 LB IH;obtain⟨l1,l2⟩:=mA he;have hfn:=t83 R LB.lim at_ hat e.s;generalize hcode:K166_0 (af pg) ak [.hp 0 0,.ip (aa (bB own ns vs)),.ip (aa e.av),.int .i64 at_,y1,y2,y3,y4] h=code;simp -implicitDefEqProofs only[K166_0,ao,au,cd,FA108_2,FA108_3,FA108_5,XK,XG,LD9,LD48,oP,ae]at hcode;rw[ap hfn]at hcode;cases hf:lO p at_ e.s with
 |none=>
  rw[hf]at hcode;simp -implicitDefEqProofs only[Ck,eK,List.getElem?_cons_zero,X9,ae,mi,aj,wS,List.replicate,ao,Cl,ca,bk,da,Xo,Xu]at hcode;rw[<- hcode];exact gn R
 | some f=>
  rw[hf]at hcode;obtain⟨f1,f2,f3⟩:=pb hf;have hmp:p[at_.toNat]?.getD default∈p:=by rw[XC f2];exact XB f2
  obtain⟨_,hparams⟩:=LB.body _ hmp f f3;have hac:∀f:Fun,aa (.agg (aa f.av))=aa f.av:=fun _=>rfl;simp -implicitDefEqProofs only[Ck,eK,List.getElem?_cons_zero,X9,ae,mi,aj,bn,yS,ao,hac]at hcode;have hpub:ax T 4 (.ip (List.drop 1 (aa f.av)))=some (.bool f.pub):=ZO
  have hpar:ax T 47 (.ip (List.drop 2 (aa f.av)))=some (bR f.params):=ZO
  have hgu:aM (.bool (e.m== [])) false 1 (am [.bool f.pub])=am [gv (e.m== []) false (.bool f.pub)]:=aG _ _ _;have hpk:gp (.bool (e.m== [])) (.bool true) (gv (e.m== []) false (.bool f.pub))=some (.bool ((e.m== [])||f.pub)):=dW _ _;simp -implicitDefEqProofs only[FA110_1,FA110_2,hpub,hpar,ae,hgu,aj,ao,hpk,cw,bk,mc,aH]at hcode;by_cases h1:e.m=[]\/f.pub=true
  ·have h1':(e.m== []||f.pub)=true:=by
    simp only[Yh,Yb];exact h1
   simp only[h1',da,XA]at hcode;simp only[Xr h1];by_cases h2:e.args.length=f.params.length
   ·have h2':((e.args.length:Int)== (f.params.length:Int))=true:=by simp[h2]
    simp only[h2',XA]at hcode;simp only[Xr h2];rw[<- hcode]
    have:=xb IH IE own ns vs at_ f e.args y1 y2 y3 y4 ZL hat f3 (fun x hx=>bu he hx) ZL h2 e.args [] [] m h rfl rfl (fun v hv=>by cases hv) R G hmu hn hs
    simp only[XW]at this;exact this
   ·have h2':((e.args.length:Int)== (f.params.length:Int))=false:=by
     rw[YT];omega
    simp only[h2',Xo,Xu]at hcode;simp only[Xn h2];rw[<- hcode];exact gn R
  ·have h1':(e.m== []||f.pub)=false:=by
    rw[<- ZB];simp only[Yh,Yb];exact h1
   simp only[h1',da,Xo,Xu]at hcode;simp only[Xn h1];rw[<- hcode];exact gn R
theorem t166{p:List Mod}{nm:SNm}{n:Nat}(LB:LimB p)(IH:sD p nm n):FZ p nm n:=by
 intro own ns vs e m h R G hmu hn hs he;unfold tn;have hown:ax T 3 (.ip [.int .i64 own,strs ns,vals vs])=some (.int .i64 own):=rfl;have hmd:=t82 R LB.lim e.m;generalize hcode:af pg 166 [.hp 0 0,bB own ns vs,e.av] h=code;rw[C166]at hcode;simp -implicitDefEqProofs only[S166,fE,cd,FA193_0,FA108_3,XK,XG,hown,LD9,ae,uk,ol,ai]at hcode;by_cases h0:e.m=[]
 ·have h0':(!(e.m== []))=false:=by simp[h0]
  simp only[h0',Xo,Xu]at hcode;simp only[Xr h0];rw[<- hcode]
  have:=wA LB IH own ns vs e own hs.own m h R G hmu hn hs he (.int .i64 0) (.int .i64 0) (.sl []) (.sl [])
  simp only[fE,cd]at this;exact this
 ·have h0':(!(e.m== []))=true:=by simp[h0]
  simp only[h0',XA]at hcode;rw[ap hmd]at hcode;simp only[Xn h0];rw[<- hcode];have hlt:dD p e.m<p.length:=by
   rcases pQ (fun(x:Mod)=>x.name== e.m) p 0 with k|k
   ·show aY _ p 0<_;rw[k];omega
   ·show aY _ p 0<_;omega
  have:=wA LB IH own ns vs e (dD p e.m) hlt m h R G hmu hn hs he (.int .i64 0) (.int .i64 0) (.sl []) (.sl [])
  simp only[fE,cd]at this;exact this
def Wi{t e:Nat}{ti ei:TI}(ht:T t=some ti)(hk:ti.kind= .slice e)(he:T e=some ei){l off len sz:Nat}{ag:Bool}{n:Int}(h0:0<=n)(h1:n<len):aA T t (.hs l off len sz ag) (.int .i64 n)=some (.hp l (off+n.toNat*ei.size)):=by
 simp[aA,ht,hk,he,h0,h1]
def Fx{p:List Mod}{nm:SNm}{tag:Nat->Nat}{dv cv sv:AV}{m:Ms}{h:Hp}(R:RepT (rowP p nm.told) nm tag dv cv sv m h)(d:Deed)(hb:m.deeds.length<=2000000):
  ∃dv' h1 h2,appH T 34 false dv (.sl [d.av]) h= .ok dv' h1/\bU T 34 (.hp 0 9) dv' h1= .ok (.tup []) h2/\gX p nm { m with deeds:=m.deeds++[d] } h2:=by
 obtain⟨h1,dv',tag',e1,K,H,hc⟩:=AU (T:=T) (t:=34) rfl rfl rfl rfl ZM rfl ZM (x:=d.av) R.ds (fun h0=>by
  have:m.deeds=[]:=XD h0;rw[this];rfl) (fun cs h=>by rw[h];exact ye _) (Ft d) (show (m.deeds.length+1)*24<=140737488355328 by omega)
 have h0:=(K 0 _ R.r0 (by rw[R.t0];decide)).1;refine⟨dv',h1,_,e1,bX rfl h0 (kG hc).1 (show 9+1<=12 by decide) ZM,?_⟩;have hac:aa dv'=[dv']:=(kG hc).2.1
 have:=R.pushDeed (m':={ m with deeds:=m.deeds++[d] }) K H rfl rfl rfl id
 refine⟨tag',dv',cv,sv,?_⟩;rw[hac];exact this
theorem zj{p:List Mod}{nm:SNm}{m:Ms}{h:Hp}(R:gX p nm m h)(hb:m.deeds.length<=2000000)(e:Exp)(v:Val)(n:Int)(x1 x2 x3 x4:AV):
  jZ p nm Val.av (X.ok (cp n) { m with deeds:=m.deeds++[⟨e.n,v.n,n⟩] }) (K167_0 (af pg) ak [.hp 0 0,.ip (aa e.av),.ip (aa v.av),.int .i64 n,x1,x2,x3,x4] h):=by
 obtain⟨tag,dv,cv,sv,R0⟩:=R;obtain⟨dv',h1,h2,e1,e2,R2⟩:=Fx R0 ⟨e.n,v.n,n⟩ hb;have hB:cE T false 102 [(0,.int .i64 e.n),(1,.int .i64 v.n),(2,.int .i64 n)]=some (Deed.av ⟨e.n,v.n,n⟩):=rfl;have hBS:aP T 34 1 [(0,Deed.av ⟨e.n,v.n,n⟩)]=some (.sl [Deed.av ⟨e.n,v.n,n⟩]):=rfl;have ld:∀g:AV->M AV,ar (bb T 34 (.hp 0 9)) g h=g dv h:=fun g=>ap (bL rfl rfl R0.r0 rfl);generalize hcode:K167_0 (af pg) ak [.hp 0 0,.ip (aa e.av),.ip (aa v.av),.int .i64 n,x1,x2,x3,x4] h=code;simp -implicitDefEqProofs only[K167_0,ao,au,aJ,ae,FH170_4,FH37_2,XE,Nat.reduceAdd,ld,cd,FA108_1,XK,XG,LD3,bH,FA33_1,hB,hBS]at hcode;rw[ap e1]at hcode;rw[ap e2]at hcode;simp -implicitDefEqProofs only[t160,aj]at hcode;rw[ru]at hcode;rw[<- hcode];exact eU R2
def FC{p:List Mod}{nm:SNm}{m:Ms}{h:Hp}(R:gX p nm m h)(w:List Int)(hw0:m.world=[]->w=[]):∃h1,(m.world≠[]->gX p nm { m with world:=w } h1)/\(∀f:AV->M AV,ar (bb T 24 (.hp 0 1)) f h=f (FT nm.told m.world) h)/\
  (m.world≠[]->∀f:AV->M AV,ar (bU T 24 (.hp 0 1) (ints w)) f h=f (.tup []) h1):=by
 obtain⟨tag,dv,cv,sv,R⟩:=R;refine⟨h.set 0 (setCells (rowP p nm.told m dv cv sv) 1 (aa (ints w))),fun hne=>⟨tag,dv,cv,sv,?_⟩,fun f=>ap (bL rfl rfl R.r0 rfl),fun _ f=>ap (bX rfl R.r0 rfl (show 1+1<=12 by decide) ZM)⟩;have ht:nm.told=false:=by
  cases ht:nm.told with
  |false=>rfl
  |true=>exact absurd (R.wok ht) hne
 have e:setCells (rowP p nm.told m dv cv sv) 1 (aa (ints w))=rowP p nm.told { m with world:=w } dv cv sv:=by
  simp only[ht];rfl
 rw[e];exact R.set0 rfl rfl rfl hw0
theorem t167{p:List Mod}{nm:SNm}{n:Nat}(LB:LimB p)(IH:sD p nm n):Da p nm n:=by
 intro own ns vs e m h hop hcn R G hmu hn hs he;obtain⟨l1,l2⟩:=mA he;have hscl:ax T 193 (.ip [.int .i64 own,strs ns,vals vs])=some (bB own ns vs):=rfl;have hown:ax T 3 (.ip [.int .i64 own,strs ns,vals vs])=some (.int .i64 own):=rfl;generalize hcode:af pg 167 [.hp 0 0,bB own ns vs,e.av] h=code;rw[C167]at hcode;obtain⟨op,en,es,em,en2,ea⟩:=e;simp only[qe]at hop;unfold ry at hcn;simp only[qe,kV]at hcn;have hlen:op=16\/op=18->∃a,ea=[a]:=by
  intro h;apply NL;rcases h with rfl|rfl
  ·simp[bE]at hcn;omega
  ·simp[bE]at hcn;omega
 by_cases h16:op=16
 ·obtain⟨a,rfl⟩:=hlen (.inl h16);subst h16;have ha:bO a:=bu he ZO;simp -implicitDefEqProofs only[S167,fE,cd,qe,CE,Il,J1,jw,kV,FA108_0,FA108_1,FA108_5,XK,XG,LD3,LD48,ae,aH,XR,ai,XA,hscl,RN]at hcode;have hex:ax T 108 (.ip [.int .i64 a.op,.int .i64 a.n,.str a.s,.str a.m,strs a.names,df a.args])=some a.av:=by
   have:ax T 108 (.ip (aa a.av))=some a.av:=ZO
   rwa [cd]at this
  simp -implicitDefEqProofs only[hex,ae]at hcode;rw[<- hcode];simp only[vB,qe,XA,Bz];have e0:([a]:List Exp)[0]! = a:=rfl;simp only[kV,e0];refine cG (IH own ns vs a _ _ R G hn hs ha) fun v s1 h2 hv R2=>?_;obtain⟨G2,rv,f2⟩:=G.eval hs.right hv;generalize hcode2:ar (cg 4 v.av) _ h2=code2;simp -implicitDefEqProofs only[aZ (dV v),aj,aI,bH,FA33_0,XG,LD3,ae,aH,bk,aG,ao,dW]at hcode2;by_cases hk:v.kind=0
  ·have hk':(v.kind== 0)=true:=by simp[hk]
   simp only[hk',da,XA]at hcode2;simp only[Xr hk];by_cases hn4':(Exp.mk 16 en es em en2 [a]).n=1\/(Exp.mk 16 en es em en2 [a]).n=2\/(Exp.mk 16 en es em en2 [a]).n=4\/(Exp.mk 16 en es em en2 [a]).n=8
   ·have hn4:en=1\/en=2\/en=4\/en=8:=hn4';have hn':(en== 1||en== 2||en== 4||en== 8)=true:=by
     simp only[Yh,Yb];omega
    simp only[hn',XA]at hcode2;simp only[Xr hn4'];obtain⟨h3,R3,lw,sw⟩:=FC R2 s1.world.tail (fun h=>by rw[h];rfl);have hmu2:=(sX n own ns vs a m v s1 G.fuel hv).1;have hdl:s1.deeds.length<=2000000:=by
     have:=G2.fuel
     simp only[mu]at hmu2 hmu;omega
    show jZ p nm Val.av (X.ok (cp (s1.world.headD 0)) { s1 with world:=s1.world.tail,deeds:=s1.deeds++[⟨en,v.n,s1.world.headD 0⟩] }) code2;have lenw:bm T 24 (FT nm.told s1.world)=some (.int .i64 s1.world.length):=by
     unfold FT;split
     ·rename_i ht;obtain⟨_,_,_,_,R2'⟩:=R2;rw[R2'.wok ht];rfl
     ·exact m8 _
    simp -implicitDefEqProofs only[uk,aJ,ae,FH170_1,XE,lw,lenw,ae,dQ,ai]at hcode2;cases hwd:s1.world with
    |nil=>
     rw[hwd]at hcode2;simp only[X0,show decide ((0:Int)<((0:Nat):Int))=false by decide,Xo,Xu]at hcode2
     have:=zj R2 hdl (.mk 16 en es em en2 [a]) v 0 (.int .i64 0) (.int .i64 0) (.sl []) (.sl [])
     simp_all
    | cons x wl=>
     have hd:decide ((0:Int)<(((x:: wl).length:Nat):Int))=true:=by simp<;>omega
     have hne:s1.world≠[]:=by rw[hwd];simp
     have sw:=sw hne;have R3:=R3 hne;have hwv:FT nm.told s1.world=ints s1.world:=by
      unfold FT;rw[Xn];intro ht;obtain⟨_,_,_,_,R2'⟩:=R2;exact hne (R2'.wok ht)
     rw[hwv]at lw;rw[hwd]at hcode2 sw R3 lw;have hix:aA T 24 (ints (x:: wl)) (.int .i64 0)=some (.ip [.int .i64 x]):=by
      have:=I6 (l:=x:: wl) (n:=0) ZL (by simp<;>omega)
      simpa using this
     have hsl:cU T 24 (ints (x:: wl)) (some (.int .i64 1)) none none=some (ints wl):=by
      have:=Go.Av.oi (T:=T) (t:=24) (e:=3) rfl rfl rfl ((x:: wl).map (AV.int .i64)) (by exact qY _) (n:=1) ZL (by simp<;>omega)
      simpa [ints]using this
     simp only[List.tail_cons]at sw R3;simp -implicitDefEqProofs only[hd,XA,lw,hix,ae,LD3,hsl,sw]at hcode2
     have:=zj R3 hdl (.mk 16 en es em en2 [a]) v x (.int .i64 0) (.int .i64 0) (.sl []) (.sl [])
     simp_all
   ·have hn4:¬(en=1\/en=2\/en=4\/en=8):=hn4';have hn':(en== 1||en== 2||en== 4||en== 8)=false:=by
     rw[<- ZB];simp only[Yh,Yb];omega
    simp only[hn',Xo,Xu]at hcode2;simp only[Xn hn4'];rw[<- hcode2];exact gn R2
  ·have hk':(v.kind== 0)=false:=by simpa using hk
   simp only[hk',da,Xo,Xu]at hcode2;simp only[Xn hk];rw[<- hcode2];exact gn R2
 have h16':((op:Int)== 16)=false:=by simpa using h16
 have h16x:¬((Exp.mk op en es em en2 ea).op=16):=h16;unfold vB;simp only[Xn h16x];unfold C1;simp -implicitDefEqProofs only[S167,fE,cd,qe,CE,Il,J1,jw,kV,FA193_0,FA108_0,FA108_1,FA108_2,FA108_5,XK,XG,LD3,LD48,ae,aH,h16',Xo,ai,Xu,hown,hscl,jl,bk,uk]at hcode;by_cases ho:own<0
 ·have ho':decide (0<=own)=false:=by simp;omega
  simp only[ho',da,Xo,Xu]at hcode;simp only[Xr ho];rw[<- hcode];exact gn R
 have ho':decide (0<=own)=true:=by simp;omega
 simp only[ho',da,XA]at hcode;simp only[Xn ho];have hol:=hs.own;have hlt:own.toNat<p.length:=ZL
 have hix:=Ep (l:=p) (n:=own) ZL hol;rw[Xv p own.toNat hlt]at hix;have e3:p[own.toNat]?.getD default=p[own.toNat]:=by rw[XC hlt];rfl
 have hvl:=(LB.lim.funcsAt own.toNat).2;rw[e3]at hvl |-;have hff:=SR p[own.toNat].vars hvl (.mk op en es em en2 ea);simp only[cd,qe,CE,Il,J1,jw,kV]at hff;have Rk:=R;obtain⟨tag,dv,cv,sv,R0⟩:=R;have lm:∀g:AV->M AV,ar (bb T 22 (.hp 0 0)) g h=g (mods p) h:=fun g=>ap (bL rfl rfl R0.r0 (by rw[<- sT (t:=nm.told) (fun e=>ZN)];rfl));have lsv:∀g:AV->M AV,ar (bb T 28 (.hp 0 11)) g h=g nm.sv h:=fun g=>ap (bL rfl rfl R0.r0 (by rw[<- R0.sve];rfl));simp -implicitDefEqProofs only[aJ,ae,FH170_0,FH170_4,FH37_4,XE,Nat.reduceAdd,lm,hix,eW,FA53_2,XK,XG,LD47,hff,dq,aj,jl,bk]at hcode;by_cases hi:lM p[own.toNat].vars (Exp.mk op en es em en2 ea).s<0
 ·have hi':decide (0<=lM p[own.toNat].vars es)=false:=by
   have:lM p[own.toNat].vars es<0:=hi;simp;omega
  simp only[hi',da,Xo,Xu]at hcode;simp only[Xr hi];rw[<- hcode];exact gn Rk
 have hi0:0<=lM p[own.toNat].vars es:=by
  have:¬lM p[own.toNat].vars es<0:=hi;omega
 have hi':decide (0<=lM p[own.toNat].vars es)=true:=by simp;omega
 simp only[hi',da,XA,lsv]at hcode;simp only[Xn hi];have hil:lM p[own.toNat].vars es<p[own.toNat].vars.length:=by
  rcases pQ (fun(x:fu)=>x.1== es) p[own.toNat].vars 0 with k|k
  ·grind [lM]
  ·have:lM p[own.toNat].vars es=aY (fun(x:fu)=>x.1== es) p[own.toNat].vars 0:=rfl;omega
 obtain⟨l,hl1,hl2⟩:=G.shape own.toNat _ (XC hlt);have hne:l≠[]:=fun e=>ZN
 have hsl:own.toNat<m.state.length:=(Xx.1 hl1).1;obtain⟨q,r,v1,v2,v3,v4,v5,v6⟩:=R0.var (fun _=>rfl) hl1 hne;have hx1:aA T 28 nm.sv (.int .i64 own)=some (.hp q (own.toNat*2)):=by
  rw[v1]
  have:=Wi (t:=28) rfl rfl rfl (l:=q) (off:=0) (len:=m.state.length) (sz:=2) (ag:=true) (n:=own) ZL ZL
  rw[this];simp
 have lv:∀g:AV->M AV,ar (bb T 23 (.hp q (own.toNat*2+1))) g h=g (.hs r 0 l.length 4 true) h:=fun g=>ap (bL rfl rfl v2 v3);simp -implicitDefEqProofs only[hx1,ae,FH58_1,lv]at hcode;generalize hI:lM p[own.toNat].vars es=I at *;have hI2:lM p[own.toNat].vars (Exp.mk op en es em en2 ea).s=I:=hI;rw[hI2];have hx2:aA T 23 (.hs r 0 l.length 4 true) (.int .i64 I)=some (.hp r (I.toNat*4)):=by
  have:=Wi (t:=23) rfl rfl rfl (l:=r) (off:=0) (len:=l.length) (sz:=4) (ag:=true) (n:=I) ZL ZL
  rw[this];simp
 have hk:I.toNat<l.length:=ZL
 by_cases h18:op=18
 ·have h18x:(Exp.mk op en es em en2 ea).op=18:=h18;simp only[Xr h18x];obtain⟨a,rfl⟩:=hlen (.inr h18);have ha:bO a:=bu he ZO;have hb18:(op== 18)=true:=by simp[h18]
  have hex:ax T 108 (.ip (aa a.av))=some a.av:=ZO
  have e0:(Exp.mk op en es em en2 [a]).args[0]! = a:=rfl;simp -implicitDefEqProofs only[hb18,XA,RN,ae,hex]at hcode;rw[<- hcode,e0];refine cG (IH own ns vs a _ _ Rk G hn hs ha) fun v s1 h2 hv R2=>?_;obtain⟨G2,rv,f2⟩:=G.eval hs.right hv;obtain⟨tag2,dv2,cv2,sv2,R20⟩:=R2;obtain⟨l',hl1',hl2'⟩:=G2.shape own.toNat _ (XC hlt);have hne':l'≠[]:=fun e=>ZN
  obtain⟨q',r',w1,w2,w3,w4,w5,w6⟩:=R20.var (fun _=>rfl) hl1' hne';have hll:l'.length=l.length:=ZL
  have hrr:r'=r:=by
   rw[v3]at w3;simp only[Xm,AV.hs.injEq]at w3;exact w3.1.symm
  subst hrr;have hst:bU T 33 (.hp r' (I.toNat*4)) v.av h2= .ok (.tup []) (h2.set r' (aw (l'.set I.toNat v))):=by
   have:=bX (T:=T) (t:=33) rfl w5 (v:=v.av) (k:=I.toNat*4) (dV v) (by grind [aX]) ZM
   rw[this,ko ZL]
  have R3:=w6 I.toNat v ZL;have hset:((s1.state[own.toNat]?.getD []).set I.toNat v)=l'.set I.toNat v:=by rw[hl1'];rfl
  have hld2:bb T 33 (.hp r' (I.toNat*4)) (h2.set r' (aw (l'.set I.toNat v)))= .ok v.av (h2.set r' (aw (l'.set I.toNat v))):=by
   have hlt2:r'<h2.length:=(Xx.1 w5).1
   have:=lR (T:=T) (t:=33) rfl rfl (h:=h2.set r' (aw (l'.set I.toNat v))) (l:=r') (k:=I.toNat*4) (XS hlt2) (by grind [aX])
   rw[this];have hg:=iM (l:=l'.set I.toNat v) (k:=I.toNat) ZQ;show Av.R.ok (AV.agg (((aw (l'.set I.toNat v)).drop (I.toNat*4)).take 4)) _=_;rw[hg,List.getElem_set_self];rw[Val.av_eq];rfl
  generalize hcode2:ar (bP (aA T 23 (.hs r' 0 l.length 4 true) (.int .i64 I))) _ h2=code2;simp -implicitDefEqProofs only[hx2,ae]at hcode2;rw[ap hst]at hcode2;simp -implicitDefEqProofs only[K167_1,ao,au,hx2,ae]at hcode2;rw[ap hld2,ru]at hcode2;rw[<- hcode2];exact⟨_,rfl,tag2,dv2,cv2,sv2,R3⟩
 ·have h18x:¬((Exp.mk op en es em en2 ea).op=18):=h18;have hb18:(op== 18)=false:=by simpa using h18
  have hld2:bb T 33 (.hp r (I.toNat*4)) h= .ok (l[I.toNat]).av h:=by
   have:=lR (T:=T) (t:=33) rfl rfl (h:=h) (l:=r) (k:=I.toNat*4) v5 (by grind [aX])
   rw[this];have hg:=iM (l:=l) (k:=I.toNat) hk;show Av.R.ok (AV.agg (((aw l).drop (I.toNat*4)).take 4)) _=_;rw[hg,Val.av_eq];rfl
  simp only[Xn h18x];simp -implicitDefEqProofs only[hb18,Xo,Xu,K167_1,ao,au,hx2,ae]at hcode;rw[ap hld2,ru]at hcode;rw[<- hcode];have hgs:t8 m.state own.toNat I.toNat=l[I.toNat]:=by
   simp[t8,Yf,hl1,hk]
  show jZ p nm Val.av (X.ok (t8 m.state own.toNat I.toNat) m) _;rw[hgs];exact eU Rk
theorem Q4{p:List Mod}{nm:SNm}(LB:LimB p):∀n,sD p nm n
 |0=>fun own ns vs e m h R G hn hs he=>⟨h,GN R ZL _ e,R⟩
 |n+1=>by
  have IH:=Q4 (nm:=nm) LB n
  grind [ET,t164,t166,t167]
def DL{m:M AV}{r:AV}{h':Hp}(h1:m []= .ok r h')(h2:∀g,cl g r=r):be m=am r:=by
 funext h
 grind [be,am,frz]
def Wr(v:Val):ax T 33 (.ip (aa v.av))=some v.av:=ZO
def t104(v:Val)(hv:v.sz<=4611686018427387904):af pg 104 [v.av]=am (.bool !cM 4 v):=by
 rw[C104];simp only[S104,tt,Wr,ae,t49 v hv,aj,bc];simp_all
def t141(v:Val)(hv:v.sz<=4611686018427387904):af pg 141 [v.av]=am (.bool !cM 4 v):=by
 rw[C141];simp only[S141,tt,Wr,ae,t49 v hv,aj,bc];simp_all
def Ja(k:Nat)(hk:∀v:Val,v.sz<=4611686018427387904->af pg k [v.av]=am (.bool !cM 4 v))(l:List Val)(hl:cV l<=4611686018427387904):af pg 47 [vals l,.fn (.func k) [] []]=am (.bool !(l.all (cM 4))):=by
 have:=t47 (.fn (.func k) [] []) (fun v=>!cM 4 v) l (XM (py l) hl) (fun g=>rfl) (fun v hv=>hk v (XM (kN hv) hl))
 grind
def t85(f:AV)(h:Hp):af pg 85 [f] h=Bm 30 .i64 (.agg [.int .i64 0,.int .i64 0,.sl [],.sl []]) (cS (af pg) f [] h):=by
 have e:af pg 85 [f]=Bl 30 .i64 (.agg [.int .i64 0,.int .i64 0,.sl [],.sl []]) (af pg) [f]:=d8 gZ rfl _;rw[e];rfl
def Wp:SNm:=⟨[],.hn,[],true⟩
def Hz:LimB []:=⟨⟨ZO,fun m hm=>by cases hm⟩,fun m hm=>by cases hm⟩
def Kk:gX [] Wp (fO [] 100000 []) [[.hn,.hn,.int .i64 100000,.int .i64 0,.int .i64 0,.int .i64 0,.int .i64 0,.hn,.hn,.hn,.hn,.hn]]:=
 ⟨fun _=>0,.hn,.hn,.hn,rfl,rfl,.inl ⟨rfl,rfl⟩,.inl ⟨rfl,rfl⟩,.inl ⟨rfl,rfl⟩,rfl,fun _=>rfl⟩
def He:GoodM [] (fO [] 100000 []):=⟨⟨fun l hl=>by simp[fO]at hl,fun c hc=>by simp[fO]at hc⟩,by simp[mu,fO],by simp[fO],by simp[fO],fun i x hx=>by simp at hx⟩
def nJ:Rs Val->AV
 |.ok v _=>.tup [v.av,.int .i64 0]
 |.er e _=>.tup [Val.av default,.int .i64 e]
def xZ(g)(v:Val)(e:Int):cl g (.tup [v.av,.int .i64 e])= .tup [v.av,.int .i64 e]:=by simp[cl,fl]
theorem t46(e:Exp)(ns:List aW)(vs:List Val)(he:bO e)(hn:ns.length<=274877906944)(hv:cV vs<=4611686018427387904):af pg 46 [e.av,strs ns,vals vs]=am (nJ (yj e ns vs)):=by
 have ha:=Ja 104 t104 vs hv;have hl1:ax T 31 (.ip (aa (strs ns)))=some (strs ns):=rfl;have hl2:ax T 23 (.ip (aa (vals vs)))=some (vals vs):=rfl;have hB:cE T true 170 [(2,.int .i64 100000)]=some (.agg [.hn,.hn,.int .i64 100000,.int .i64 0,.int .i64 0,.int .i64 0,.int .i64 0,.hn,.hn,.hn,.hn,.hn]):=rfl;have hZ:cE T false 33 []=some (Val.av default):=rfl;have hcl:∀h:AV->M AV,ar (newH [.hn,.hn,.int .i64 100000,.int .i64 0,.int .i64 0,.int .i64 0,.int .i64 0,.hn,.hn,.hn,.hn,.hn]) h []=h (.hp 0 0) [[.hn,.hn,.int .i64 100000,.int .i64 0,.int .i64 0,.int .i64 0,.int .i64 0,.hn,.hn,.hn,.hn,.hn]]:=fun h=>rfl;rw[C46,nT,kX,tr];unfold yj;by_cases hr:ns.length=vs.length/\vs.all (cM 4)=true
 ·rw[Xr hr];have hne:((ns.length:Int) != (vs.length:Int))=false:=by simp[hr.1]
  have hrs:na ns vs:=⟨hr.1,fun v hv=>(XF.1 hr.2) v hv⟩;have hev:=Q4 (nm:=Wp) Hz 100000 (-1) ns vs e _ _ Kk He (by simp[fO]) ⟨ZO,hrs,by simp only[fO];omega⟩ he;have hcell:cg 1 (.hp 0 0)=am (.agg [.hp 0 0]):=rfl;have hBS:cE T false 193 [(0,.int .i64 (-1)),(1,strs ns),(2,vals vs)]=some (bB (-1) ns vs):=rfl;have hlp:ax T 168 (.ip [.hp 0 0])=some (.hp 0 0):=rfl;have hex:ax T 108 (.ip (aa e.av))=some e.av:=ZO
  have hcall:∀h,af pg 105 [.ip [.hp 0 0],.ip (aa (strs ns)),.ip (aa (vals vs)),.ip (aa e.av)] h=ar (af pg 106 [.hp 0 0,bB (-1) ns vs,e.av]) (fun v=>ar (bF 4 [] v) fun w=>am (AV.agg [ab (aa w) 0,ab (aa w) 1,ab (aa w) 2,ab (aa w) 3])) h:=fun h=>by
   simp_all[C105,S105]
  have hS:S46 (af pg) ak e.av (strs ns) (vals vs) []= .ok (nJ (cL [] 100000 (-1) ns vs e (fO [] 100000 []))) []\/∃h',S46 (af pg) ak e.av (strs ns) (vals vs) []= .ok (nJ (cL [] 100000 (-1) ns vs e (fO [] 100000 []))) h':=by
   right;simp -implicitDefEqProofs only[S46,hl1,hl2,ae,gW,qy,gw,hne,bn,ha,aj,bc,hr.2,XH,ao,ca,ai,Xo,Xu,hB,aI,hcl,hcell];have htry:=t85 (.fn (.func 105) [] [.ip [.hp 0 0],.ip (aa (strs ns)),.ip (aa (vals vs)),.ip (aa e.av)]) [[.hn,.hn,.int .i64 100000,.int .i64 0,.int .i64 0,.int .i64 0,.int .i64 0,.hn,.hn,.hn,.hn,.hn]];have hcv:cS (af pg) (.fn (.func 105) [] [.ip [.hp 0 0],.ip (aa (strs ns)),.ip (aa (vals vs)),.ip (aa e.av)]) []=af pg 105 [.ip [.hp 0 0],.ip (aa (strs ns)),.ip (aa (vals vs)),.ip (aa e.av)]:=rfl;rw[hcv,hcall]at htry;have how:=ew hev;generalize cL [] 100000 (-1) ns vs e (fO [] 100000 [])=r at how |-;cases r with
   |ok v s=>
    obtain⟨h',e1,_⟩:=how;refine⟨h',?_⟩;rw[e1]at htry;simp only[Bm,dV,Xs]at htry;rw[ap htry];simp[nJ,am]
   |er c s=>
    obtain⟨h',e1,_⟩:=how;refine⟨h',?_⟩;rw[e1]at htry;have ht:Bm 30 .i64 (.agg [.int .i64 0,.int .i64 0,.sl [],.sl []]) (.pan (pG c) h')= .ok (.tup [Val.av default,.int .i64 c]) h':=rfl;rw[ht]at htry;rw[ap htry];simp[nJ,am]
  rcases hS with h|⟨h',h⟩
  ·exact DL h fun g=>by cases cL [] 100000 (-1) ns vs e (fO [] 100000 [])<;>exact xZ g _ _
  ·exact DL h fun g=>by cases cL [] 100000 (-1) ns vs e (fO [] 100000 [])<;>exact xZ g _ _
 ·rw[Xn hr];have hb:((ns.length:Int) != (vs.length:Int)||!(vs.all (cM 4)))=true:=by
   by_cases h1:ns.length=vs.length
   ·grind
   ·grind
  have hgu:aM (.bool ((ns.length:Int) != (vs.length:Int))) false 1 (am [.bool !(vs.all (cM 4))])=am [gv ((ns.length:Int) != (vs.length:Int)) false (.bool !(vs.all (cM 4)))]:=aG _ _ _;have hS:S46 (af pg) ak e.av (strs ns) (vals vs)=am (.tup [Val.av default,.int .i64 1]):=by
   simp -implicitDefEqProofs only[S46,hl1,hl2,ae,gW,qy,gw,ha,aj,bc,hgu,ao,dW,hb,ai,XA,hZ];simp
  rw[hS];exact dw fun g=>xZ g _ _
def Wq(m:Mod):ax T 53 (.ip (aa m.av))=some m.av:=ZO
def t45(p:List Mod)(hp:p.length<=1099511627776):af pg 45 [mods p]=am (.int .i64 (jN p)):=by
 let D:Nat->Bool:=fun i=>(p.take i).any fun m=>m.name== (p[i]?.getD default).name;have hloop:∀(n k:Nat),p.length-k=n->k<=p.length->ak (L45_0 (af pg) ak) [mods p,mods p,.int .i64 p.length,.int .i64 k]=am (.int .i64 (if(List.range' k n).any D=true then 5 else 0)):=by
  intro n
  induction n with
  |zero=>
   intro k hk hl;obtain rfl:k=p.length:=ZL
   rw[FL45_0];simp[L45_0]
  | succ n ih=>
   intro k hk hl;have h1:(k:Int)<(p.length:Int):=ZL
   have hlt:k<p.length:=ZL
   have hi:=Ep (l:=p) (n:=(k:Int)) ZL h1;rw[show ((k:Int)).toNat=k by omega,Xv p k hlt]at hi;have hs:cU T 22 (mods p) none (some (.int .i64 k)) none=some (mods (p.take k)):=by
    have:=FD (T:=T) (t:=22) (e:=53) rfl rfl rfl (p.map Mod.av) (n:=(k:Int)) ZL ZQ
    simpa [mods,List.map_take]using this
   have ha:=t102 (.fn (.func 103) [] [.ip (aa p[k].av)]) (fun m=>m.name== p[k].name) (p.take k) ZQ (fun g=>by simp[cl,fl]) (fun m _=>t103 m p[k]);have hD:D k=((p.take k).any fun m=>m.name== p[k].name):=by simp only[D,XC hlt,YH]
   have hw:IntKind.i64.wrap ((k:Int)+1)=((k+1:Nat):Int):=aV ZL;rw[FL45_0];simp -implicitDefEqProofs only[L45_0,ao,au,aB,ae,ai,h1,XP,XA,hi,Wq,aZ (qa _),aj,aI,hs,ha,bj,hw]
   grind [List.range']
 rw[C45,mm];have h0:=hloop p.length 0 ZL ZL;have ht:vt p=(List.range' 0 p.length).any D:=by
  unfold vt;rw[Zj]
 have hS:S45 (af pg) ak (mods p)=am (.int .i64 (jN p)):=by
  unfold jN;rw[ht];by_cases h20:20<p.length
  ·have h20':(20:Int)<(p.length:Int):=ZL
   simp_all[S45]
  ·have:¬((20:Int)<(p.length:Int)):=ZL
   simp only[h20,Xu];simp -implicitDefEqProofs only[S45,F8,ae,dQ,ai,this,YJ,Xo,Xu];exact h0
 simp_all
def mD:Except Int (List Vars)->AV
 |.ok st=>.tup [br st,.int .i64 0]
 |.error e=>.tup [.sl [],.int .i64 e]
def GP{e:Exp}{ns:List aW}{vs:List Val}{c:Int}{s:Ms}(h:yj e ns vs= .er c s):c≠0:=by
 grind [yj,zS]
theorem Ad(outer:List AV->M AV)(p:List Mod)(out:List Vars)(i:AV)(nm:aW)(es:List Exp)(hes:∀e∈es,bO e)(hlen:es.length<=274877906944)(hout:out.length<=1099511627776):∀(B A:List Exp)(acc:List Val)(k:Int),A++B=es->acc.length=A.length->i= .int .i64 k->-4611686018427387904<=k->k<=4611686018427387904->
  ak (L21_0 (af pg) ak outer) [br out,mods p,.int .i64 p.length,i,df es,.int .i64 es.length,.int .i64 A.length,.str nm,vals acc]=
  match oG B with
  |.error c=>am (.tup [.sl [],.int .i64 c])
  |.ok vs=>outer [br (out++[⟨nm,acc++vs⟩]),mods p,.int .i64 p.length,.int .i64 (k+1)]
 |[],A,acc,k,e,hac,hi,hk1,hk2=>by
  simp only[XN]at e;subst e;subst hi;have hb:aP T 28 1 [(0,.agg [.str nm,vals acc])]=some (br [⟨nm,acc⟩]):=rfl;have ha:dG T 28 (br out) (br [⟨nm,acc⟩])=some (br (out++[⟨nm,acc⟩])):=To ZQ;have hw:IntKind.i64.wrap (k+1)=k+1:=aS ZL ZL;rw[FL21_0];simp_all[L21_0,oG]
 | x:: B,A,acc,k,e,hac,hi,hk1,hk2=>by
  have hll:A.length+(B.length+1)=es.length:=by rw[<- e];simp
  have h1:(A.length:Int)<(es.length:Int):=ZL
  have hx:es[A.length]'(ZL)=x:=by subst e;simp
  have hm:x∈es:=by rw[<- e];simp
  have hix:=m7 (l:=es) (n:=(A.length:Int)) ZL h1;rw[show ((A.length:Int)).toNat=A.length by omega,Xv es A.length ZL,hx]at hix;have hex:ax T 108 (.ip (aa x.av))=some x.av:=ZO
  have hx1:∀e:Exp,AV.agg (aa e.av)=e.av:=fun _=>rfl;have hcall:=t46 x [] [] (hes x hm) ZO (by simp[cV]);have hcall':af pg 46 [x.av,.sl [],.sl []]=am (nJ (yj x [] [])):=hcall;have hw:IntKind.i64.wrap ((A.length:Int)+1)=((A.length+1:Nat):Int):=aV ZL;have hne:∀a b:Int,cz T .neq 30 (.int .i64 a) (.int .i64 b)=some (.bool (a != b)):=fun _ _=>rfl;rw[FL21_0];simp -implicitDefEqProofs only[L21_0,ao,au,aB,ae,ai,h1,XP,XA,hix,hex,aZ (p8 x),aj,hx1,hcall'];unfold oG;cases hr:yj x [] []with
  | er c s=>
   have hc0:(c != 0)=true:=by
    have:=GP hr
    simpa using this
   simp_all[nJ]
  |ok v s=>
   have hb2:aP T 23 1 [(0,v.av)]=some (vals [v]):=by rw[v.av_eq];simp[vals,dY,v.av_eq];rfl
   have ha2:dG T 23 (vals acc) (vals [v])=some (vals (acc++[v])):=I4 ZQ;have hc1:gG (vals (acc++[v]))=am (vals (acc++[v])):=rfl;have hvv:∀v:Val,AV.agg (aa v.av)=v.av:=fun v=>ZO
   have h00:((0:Int) != 0)=false:=rfl;have hvl:ax T 33 (.ip (aa v.av))=some v.av:=ZO
   have ih:=Ad outer p out i nm es hes hlen hout B (A++[x]) (acc++[v]) k ZN (by simp[hac]) hi hk1 hk2;simp only[Yd,List.singleton_append,XI,List.length_singleton]at ih;simp -implicitDefEqProofs only[nJ,eK,List.getElem?_cons_zero,X9,ae,aZ (dV v),aj,hne,h00,ai,Xo,Xu,hvv,hvl,hb2,ha2,hc1,bj,hw,ih]
   grind
theorem t21(p:List Mod)(hp:p.length<=1099511627776)(hm:∀m∈p,m.vars.length<=1099511627776/\m.init.length<=274877906944/\∀e∈m.init,bO e):af pg 21 [mods p]=am (mD (lr p)):=by
 have hloop:∀(B A:List Mod)(out:List Vars),A++B=p->out.length=A.length->ak (L21_1 (af pg) ak) [br out,mods p,.int .i64 p.length,.int .i64 A.length]=
   am (match lq B with|.error c=>.tup [.sl [],.int .i64 c]|.ok r=>.tup [br (out++r),.int .i64 0]):=by
  intro B
  induction B with
  |nil=>
   simp_all[FL21_1,L21_1,lq]
  | cons x B ih=>
   intro A out e ho;have hll:A.length+(B.length+1)=p.length:=by rw[<- e];simp
   have h1:(A.length:Int)<(p.length:Int):=ZL
   have hx:p[A.length]'(ZL)=x:=by subst e;simp
   have hmm:x∈p:=by rw[<- e];simp
   obtain⟨m1,m2,m3⟩:=hm x hmm;have hix:=Ep (l:=p) (n:=(A.length:Int)) ZL h1;rw[show ((A.length:Int)).toNat=A.length by omega,Xv p A.length ZL,hx]at hix;have hB:cE T true 58 [(0,.str x.name)]=some (.agg [.str x.name,.hn]):=rfl;have hC:bF 2 [1] (.agg [.str x.name,.hn])=am (.agg [.str x.name,.hn]):=rfl;have hin:=Ad (ak (L21_1 (af pg) ak)) p out (.int .i64 A.length) x.name x.init m3 m2 ZL x.init [] [] A.length rfl rfl rfl ZL ZL;rw[FL21_1];simp -implicitDefEqProofs only[L21_1,ao,au,aB,ae,ai,h1,XP,XA,hix,Wq,aZ (qa x),aj,aI];simp -implicitDefEqProofs only[ao,au,ae,ai,aj,aI,eW,FA53_0,FA53_2,FA53_3,XK,XG,LD9,LD48,LD47,oP,mc,hB,hC,gw];unfold lq;by_cases hl:x.init.length=x.vars.length
   ·have hl':((x.init.length:Int) != (x.vars.length:Int))=false:=by simp[hl]
    simp only[hl',Xo,Xu,Xr hl];have hz:((([]:List Exp).length:Nat):Int)=0:=rfl;rw[hz]at hin;have hv0:vals []= .sl []:=rfl;rw[hv0]at hin;rw[hin];cases oG x.init with
    |error c=>rfl
    |ok vs=>
     have:=ih (A++[x]) (out++[⟨x.name,vs⟩]) ZN (by simp[ho])
     simp only[XI,List.length_singleton]at this
     grind
   grind
 have h0:=hloop p [] [] rfl rfl;have hne:∀a b:Int,cz T .neq 30 (.int .i64 a) (.int .i64 b)=some (.bool (a != b)):=fun _ _=>rfl;have hS:S21 (af pg) ak (mods p)=am (mD (lr p)):=by
  unfold lr;by_cases hn:jN p=0
  ·have hn':(jN p != 0)=false:=by simp[hn]
   simp -implicitDefEqProofs only[S21,t45 p hp,aj,hne,ae,hn',ai,Xo,Xu,F8];rw[Xr hn];simp only[X0,XW]at h0;have:br []= .sl []:=rfl;rw[this]at h0;have hz:((0:Nat):Int)=0:=rfl;rw[hz]at h0;rw[h0];cases lq p<;>rfl
  ·have hn':(jN p != 0)=true:=by simp[hn]
   simp -implicitDefEqProofs only[S21,t45 p hp,aj,hne,ae,hn',ai,XA];rw[Xn hn];rfl
 rw[C21,mm,hS];exact dw fun g=>by
  cases lr p with
  |error e=>rfl
  |ok st=>simp[mD,cl,fl]
end Go.Proofs.YtbndmpiddinalaaGreatDoor
