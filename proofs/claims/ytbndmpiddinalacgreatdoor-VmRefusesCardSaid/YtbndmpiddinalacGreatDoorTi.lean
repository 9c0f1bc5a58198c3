/- What the functions compute, part 9. Conditions: bounds. -/
import Derived.Test.YtbndmpiddinalacGreatDoorTh
set_option linter.defProp false
set_option linter.unusedSimpArgs false
set_option linter.unusedVariables false
namespace Go.Proofs.YtbndmpiddinalacGreatDoor
open Go Go.Av Go.Av.Ap
set_option maxRecDepth 100000
theorem pO:∀(n:Nat)(e:Exp),cS n e=true->e.Lim->bX e
 |0,e,h,_=>by simp[cS]at h
 | n+1,e,h,hL=>by
  have hs:im e=true:=by rw[fG,XJ]at h;exact h.1
  have h8:=Dw hs;have hk:∀l:List Exp,(∀x∈l,bX x)->oc l:=by
   intro l
   induction l with
   |nil=>intro _;trivial
   |cons x l ih=>exact fun h=>⟨h x Z8,ih fun y hy=>h y (by simp[hy])⟩
  have ha:oc e.args:=hk _ fun x hx=>pO n x (gB h hx) (hL.kid hx);have hn:=hL.names;obtain⟨o,k,s,m,ns,es⟩:=e;exact⟨hn,by simp only[Exp.args]at h8;omega,ha⟩
def Q8:∀(n:Nat)(e:Exp),SizeOf.sizeOf e<=n->e.Lim->∀most:Int,0<=most->most<=1000->∃r:Int,af pg 148 [e.av,.int .i64 most]=ao (.int .i64 r)/\(1<=r/\r<=most+1)/\(r<=most->∀d,(dL d e:Int)<=r):=by
 intro n
 induction n with
 |zero=>
  intro e h;cases e;simp at h
 | succ n ih=>
  intro e hs he most h0 h1;have hlen:=he.len;have hl:∀(k i:Nat),e.args.length-i=k->i<=e.args.length->∀m:Int,1<=m->m<=most+1->(m<=most->∀d,(1:Int)+(((e.args.take i).map (dL d)).sum:Nat)<=m)->∃r:Int,ak (L148_0 (af pg) ak) [.int .i64 most,.ip (aa e.av),.int .i64 m,.int .i64 i]=ao (.int .i64 r)/\(1<=r/\r<=most+1)/\(r<=most->∀d,(1:Int)+((e.args.map (dL d)).sum:Nat)<=r):=by
   intro k
   induction k with
   |zero=>
    intro i hk hi m hm1 hm2 hs;have ht:e.args.take i=e.args:=YO Z5;rw[ht]at hs;rw[FL148_0];have h1:¬((i:Int)<(e.args.length:Int)):=Z5
    exact⟨m,by simp[L148_0,h1],⟨hm1,hm2⟩,hs⟩
   | succ k ihk=>
    intro i hk hi m hm1 hm2 hs;rw[FL148_0];have hlt:i<e.args.length:=Z5
    have h1':(i:Int)<(e.args.length:Int):=Z5
    by_cases hm:m<=most
    ·have hix:=nf (l:=e.args) (n:=(i:Int)) Z5 h1';rw[XP,XN e.args i hlt]at hix;have hm':=XU hlt;have htk:∀d,(e.args.take (i+1)).map (dL d)=(e.args.take i).map (dL d)++[dL d e.args[i]]:=fun d=>by grind [List.take_succ_eq_append_getElem]
     generalize e.args[i]=f at hix hm' htk;have hsz:=vl hm';obtain⟨r,e1,e2,e3⟩:=ih f Z5 (he.kid hm') (most-m) Z5 Z5;obtain⟨r2,g1,g2,g3⟩:=ihk (i+1) Z5 Z5 (m+r) Z5 Z5 (fun h d=>by
      grind)
     have w1:IntKind.i64.wrap (most-m)=most-m:=aW Z5 Z5;have w2:IntKind.i64.wrap (m+r)=m+r:=aW Z5 Z5;have w3:IntKind.i64.wrap ((i:Int)+1)=((i+1:Nat):Int):=aR Z5;refine⟨r2,?_,g2,g3⟩;rw[<- g1];simp only[L148_0,am,au,cr,FA121_5,ae,X3,X0,LD48,oV,aB,dh,h1',hm,X8,aS,aj,bC,ai,XS,hix,LD121,Yb,Yk,XX,Nat.reduceAdd,XM,Yr,Yq,kL,fI,w1,e1,bm,w2,w3]
    ·exact⟨m,by simp[L148_0,h1',hm],⟨hm1,hm2⟩,fun h=>absurd h hm⟩
  obtain⟨r,e1,e2,e3⟩:=hl e.args.length 0 rfl Z5 1 Z5 Z5 (fun _ d=>Z8);refine⟨r,?_,e2,fun h d=>?_⟩
  ·grind [C148,S148,tz,xY,nG]
  ·cases d with
   |zero=>simp only[dL];omega
   |succ d=>
    grind [dL]
def BB(P:Prop)(m:M AV):Prop:=∃b,m=ao (.bool b)/\(b=true->P)
def BB.no{P:Prop}:BB P (ao (.bool false)):=⟨false,rfl,fun h=>by cases h⟩
def BB.imp{P Q:Prop}{m:M AV}(h:BB P m)(f:P->Q):BB Q m:=by
 obtain⟨b,h1,h2⟩:=h;exact⟨b,h1,fun hb=>f (h2 hb)⟩
def UF(e:Exp)(he:e.Lim):BB (∀d,dL d e<=120) (af pg 87 [e.av]):=by
 obtain⟨r,e1,e2,e3⟩:=Q8 _ e (XM _) he 120 Z5 Z5;obtain⟨b,hb⟩:=Lg _ e (XM _) he;rw[C87];by_cases h:r<=120
 ·exact⟨b,by simp[S87,e1,hb,h],fun _ d=>Z7⟩
 ·exact⟨false,by simp[S87,e1,h],fun h=>by cases h⟩
def nC{F:(List AV->M AV)->List AV->M AV}(hF:∀vs,ak F vs=F (ak F) vs)(st:Nat->List AV)(n c:Nat){E:M AV}{P:Prop}{R:Nat->Prop}(hE:BB P E)(hexit:∀k,k<=n->(k=n\/c<k)->F (ak F) (st k)=E)(hstep:∀k,k<n->k<=c->∃b:Bool,F (ak F) (st k)=(if b=true then ak F (st (k+1))else ao (.bool false))/\(b=true->R k)):BB (P/\∀k,k<n->k<=c->R k) (ak F (st 0)):=by
 have key:∀d k,n-k=d->k<=n->BB (P/\∀j,k<=j->j<n->j<=c->R j) (ak F (st k)):=by
  intro d
  induction d with
  |zero=>
   intro k hd hk;rw[hF,hexit k hk (.inl Z5)];exact hE.imp fun h=>⟨h,fun j _ _ _=>Z5⟩
  | succ d ih=>
   intro k hd hk;by_cases hc:c<k
   ·rw[hF,hexit k hk (.inr hc)];exact hE.imp fun h=>⟨h,fun j _ _ _=>Z5⟩
   ·obtain⟨b,e,hr⟩:=hstep k Z5 Z5;rw[hF,e];cases b with
    |false=>exact .no
    |true=>
     rw[XK rfl];refine (ih (k+1) Z5 Z5).imp fun h=>⟨h.1,fun j h1 h2 h3=>?_⟩
     grind
 grind
section
variable (m:Ap.Mod) (f:Fun)
theorem Vr:ah T 53 (.ip (aa m.av)) 0=some (.ip ((aa m.av).drop 0)):=rfl
theorem Rz:ah T 53 (.ip (aa m.av)) 1=some (.ip ((aa m.av).drop 1)):=rfl
theorem Vs:ah T 53 (.ip (aa m.av)) 2=some (.ip ((aa m.av).drop 2)):=rfl
theorem Vt:ah T 53 (.ip (aa m.av)) 3=some (.ip ((aa m.av).drop 3)):=rfl
theorem NU:ah T 53 (.ip (aa m.av)) 4=some (.ip ((aa m.av).drop 4)):=rfl
theorem Vu:ah T 53 (.ip (aa m.av)) 6=some (.ip ((aa m.av).drop 6)):=rfl
theorem Vo:ah T 51 (.ip ((aa m.av).drop 6)) 0=some (.ip ((aa m.av).drop 6)):=rfl
theorem Vp:ah T 51 (.ip ((aa m.av).drop 6)) 1=some (.ip ((aa m.av).drop 7)):=rfl
theorem Vq:ah T 51 (.ip ((aa m.av).drop 6)) 2=some (.ip ((aa m.av).drop 8)):=rfl
theorem VA:ax T 9 (.ip ((aa m.av).drop 0))=some (.str m.name):=rfl
theorem RA:ax T 27 (.ip ((aa m.av).drop 1))=some (strs m.uses):=rfl
theorem VB:ax T 47 (.ip ((aa m.av).drop 2))=some (ca m.vars):=rfl
theorem VD:ax T 48 (.ip ((aa m.av).drop 3))=some (dn m.init):=rfl
theorem NY:ax T 49 (.ip ((aa m.av).drop 4))=some (iP m.funcs):=rfl
theorem VE:ax T 47 (.ip ((aa m.av).drop 6))=some (ca m.old):=rfl
theorem VF:ax T 48 (.ip ((aa m.av).drop 7))=some (dn m.forward):=rfl
theorem VG:ax T 48 (.ip ((aa m.av).drop 8))=some (dn m.back):=rfl
theorem W1:ax T 53 (.ip (aa m.av))=some m.av:=rfl
theorem Vk:ah T 123 (.ip (aa f.av)) 0=some (.ip ((aa f.av).drop 0)):=rfl
theorem Vl:ah T 123 (.ip (aa f.av)) 2=some (.ip ((aa f.av).drop 2)):=rfl
theorem Vm:ah T 123 (.ip (aa f.av)) 3=some (.ip ((aa f.av).drop 3)):=rfl
theorem Vn:ah T 123 (.ip (aa f.av)) 5=some (.ip ((aa f.av).drop 6)):=rfl
theorem Vw:ax T 9 (.ip ((aa f.av).drop 0))=some (.str f.name):=Z9
theorem Vx:ax T 47 (.ip ((aa f.av).drop 2))=some (ca f.params):=Z9
theorem Vy:ax T 119 (.ip ((aa f.av).drop 3))=some f.result.av:=Z9
theorem Vz:ax T 121 (.ip ((aa f.av).drop 6))=some f.body.av:=Z9
theorem W0:ax T 123 (.ip (aa f.av))=some f.av:=Z9
theorem WZ:ct 12 f.av=ao (.agg (aa f.av)):=bc (qf f)
end
theorem VH(s:ba):ax T 9 (.ip (aa (.str s)))=some (.str s):=rfl
theorem CF(s:ba):bu T 9 (.str s)=some (.int .i64 s.length):=rfl
def UE(m:Ap.Mod)(hm:m.Lim):BB (∀f∈m.funcs,∀d,dL d f.body<=120) (af pg 37 [m.av]):=by
 have u1:=hm.uses;have f1:=hm.funcs;obtain⟨b1,e1⟩:=NI m.vars hm.vars hm.vty;obtain⟨b2,e2⟩:=NJ m.init hm.init hm.ies;obtain⟨b3,e3⟩:=NI m.old hm.old hm.oty;obtain⟨b4,e4⟩:=NJ m.forward hm.forward hm.fes;obtain⟨b5,e5⟩:=NJ m.back hm.back hm.bes;have lu:bu T 27 (strs m.uses)=some (.int .i64 m.uses.length):=g9 _;have lf:bu T 49 (iP m.funcs)=some (.int .i64 m.funcs.length):=BF _;have base:∀k:Nat,k<=m.uses.length->(k=m.uses.length\/14<k)->L37_0 (af pg) ak (ak (L37_0 (af pg) ak)) [.ip (aa m.av),.int .i64 (k:Int)]=
   ao (.bool (decide ((m.name.length:Int)<=30)&&decide ((m.uses.length:Int)<=14)&&decide ((m.funcs.length:Int)<=8)&&b1&&b2&&b3&&b4&&b5)):=by
  intro k hk h;have hg:(decide ((k:Int)<(m.uses.length:Int))&&decide ((k:Int)<=14))=false:=by
   rw[YQ,Yc,Yc];omega
  simp -implicitDefEqProofs only[L37_0,am,au,Rz,RA,lu,ae,aB,dh,aE,aj,br,hg,ai,XH,XO,Vr,VA,CF,NU,NY,lf,Vs,VB,e1,Vt,VD,e2,Vu,Vo,VE,e3,Vp,VF,e4,Vq,VG,e5]
 have hE:BB (m.funcs.length<=8) (ak (L37_0 (af pg) ak) [.ip (aa m.av),.int .i64 0]):=
  (nC (FL37_0 (af pg)) (fun k=>[.ip (aa m.av),.int .i64 (k:Int)]) m.uses.length 14 (R:=fun _=>True) (P:=m.funcs.length<=8) ⟨_,rfl,fun h=>by
   grind⟩ base (fun k hk hc=>by
   have h1:(k:Int)<(m.uses.length:Int):=Z5
   have h2:(k:Int)<=14:=Z5
   have hix:=oU (l:=m.uses) (n:=(k:Int)) Z5 h1;have hw:IntKind.i64.wrap ((k:Int)+1)=((k+1:Nat):Int):=aR Z5;generalize m.uses[(k:Int).toNat]! = s at hix;refine⟨!(decide (30<(s.length:Int))),?_,fun _=>trivial⟩;simp -implicitDefEqProofs only[L37_0,am,au,Rz,RA,lu,ae,aB,dh,aE,aj,br,h1,h2,X8,YH,ai,XS,hix,VH,CF,dO,bm,hw]
   grind)).imp fun h=>h.1
 rw[C37,show cl aF m.av=m.av by simp];obtain⟨b,hb,hP⟩:=nC (FL37_1 (af pg)) (fun k=>[.ip (aa m.av),.int .i64 (k:Int)]) m.funcs.length 8 (R:=fun k=>∀d,dL d (m.funcs[k]!).body<=120) hE (fun k hk h=>by
  have hg:(decide ((k:Int)<(m.funcs.length:Int))&&decide ((k:Int)<=8))=false:=by
   rw[YQ,Yc,Yc];omega
  simp -implicitDefEqProofs only[L37_1,am,au,NU,NY,lf,ae,aB,dh,aE,aj,br,hg,ai,XH,XO]) (fun k hk hc=>by
  have h1:(k:Int)<(m.funcs.length:Int):=Z5
  have h2:(k:Int)<=8:=Z5
  have hix:=BE (l:=m.funcs) (n:=(k:Int)) Z5 h1;have hw:IntKind.i64.wrap ((k:Int)+1)=((k+1:Nat):Int):=aR Z5;rw[XP]at hix;have hmem:m.funcs[k]! ∈m.funcs:=by rw[XN m.funcs k hk];exact XU hk
  have hf:=hm.fns _ hmem;generalize m.funcs[k]! = f at hix hf;obtain⟨c1,g1⟩:=NI f.params hf.params hf.pty;obtain⟨c2,g2⟩:=Ri f.result hf.result;obtain⟨c3,g3,g4⟩:=UF f.body hf.body;refine⟨!(decide (30<(f.name.length:Int))||!c1||!c2||!c3),?_,fun h=>?_⟩
  ·simp -implicitDefEqProofs only[L37_1,am,au,NU,NY,lf,ae,aB,dh,aE,aj,br,h1,h2,X8,YH,ai,XS,hix,W0,WZ,aK,Vk,Vw,CF,dO,Vl,Vx,g1,aT,eD,Vm,Vy,g2,Vn,Vz,g3,bm,hw]
   grind
  grind)
 refine⟨b,?_,fun h f hf d=>?_⟩
 ·grind [S37,ec]
 ·obtain⟨q1,q2⟩:=hP h;obtain⟨k,hk,rfl⟩:=Y1 hf
  have:=q2 k hk Z5 d
  grind
theorem t18(p:List Ap.Mod)(hp:p.length<=140737488355328)(hL:∀m∈p,m.Lim):BB (p.length<=4/\∀m∈p,∀f∈m.funcs,∀d,dL d f.body<=120) (af pg 18 [mods p]):=by
 have lm:bu T 22 (mods p)=some (.int .i64 p.length):=by
  have h:bu T 22 (mods p)=some (.int .i64 (p.map Mod.av).length):=rfl;rw[h,YM]
 rw[C18,show cl aF (mods p)=mods p by simp];obtain⟨b,hb,hP⟩:=nC (FL18_0 (af pg)) (fun k=>[mods p,.int .i64 (k:Int)]) p.length 4 (E:=ao (.bool (decide ((p.length:Int)<=4)))) (P:=p.length<=4) (R:=fun k=>∀f∈(p[k]!).funcs,∀d,dL d f.body<=120) ⟨_,rfl,fun h=>by
  grind⟩ (fun k hk h=>by
  have hg:(decide ((k:Int)<(p.length:Int))&&decide ((k:Int)<=4))=false:=by
   rw[YQ,Yc,Yc];omega
  simp -implicitDefEqProofs only[L18_0,am,au,lm,ae,aB,dh,aE,aj,br,hg,ai,XH,XO]) (fun k hk hc=>by
  have h1:(k:Int)<(p.length:Int):=Z5
  have h2:(k:Int)<=4:=Z5
  have hix:=bv (T:=T) (t:=22) (e:=53) (f:=Mod.av) (l:=p) (n:=(k:Int)) rfl rfl rfl (fun _=>rfl) Z5 h1;rw[XP]at hix;have hix:aA T 22 (mods p) (.int .i64 (k:Int))=some (.ip (aa (Mod.av p[k]!))):=hix;have hw:IntKind.i64.wrap ((k:Int)+1)=((k+1:Nat):Int):=aR Z5;have hmem:p[k]! ∈p:=by rw[XN p k hk];exact XU hk
  have hl:=hL _ hmem;generalize p[k]! = m at hix hl;obtain⟨b,e,q⟩:=UE m hl;refine⟨b,?_,q⟩;simp -implicitDefEqProofs only[L18_0,am,au,lm,ae,aB,dh,aE,aj,br,h1,h2,X8,YH,ai,XS,hix,W1,e,aT,bm,hw];cases b<;>rfl)
 refine⟨b,?_,fun h=>⟨(hP h).1,fun m hm=>?_⟩⟩
 ·grind [S18,ec]
 ·obtain⟨q1,q2⟩:=hP h;obtain⟨k,hk,rfl⟩:=Y1 hm
  have:=q2 k hk Z5
  grind
def Lv(F:Int->Prop)(most:Int)(m:M AV):Prop:=∃n,m=ao (.int .i64 n)/\1<=n/\n<=most+1/\(n<=most->F n)
def Gt(e:Val):Prop:=∀most:Int,0<=most->most<=1000->Lv (fun n=>(e.sz:Int)<=140737488355341*n) most (af pg 36 [e.av,.int .i64 most])
def Og(e:Val)(hL:e.Lim)(ih:∀x∈e.values,Gt x)(most:Int)(h0:0<=most)(h1:most<=1000):
  ∀(r:Nat)(n i:Int),e.values.length-i.toNat=r->0<=i->i<=e.values.length->1<=n->n<=most+1->Lv (fun k=>(de (e.values.drop i.toNat):Int)<=140737488355341*(k-n)) most (ak (L36_0 (af pg) ak) [.int .i64 most,.ip (aa e.av),.int .i64 n,.int .i64 i]):=by
 intro r
 induction r with
 |zero=>
  intro n i hr hi hb hn hm;rw[FL36_0];simp only[L36_0];have h1:¬(i<(e.values.length:Int)):=Z5
  simp[h1];exact⟨n,rfl,hn,hm,fun h=>by grind [List.drop_eq_nil_of_le,de]⟩
 | succ r IH=>
  intro n i hr hi hb hn hm;have hlen:=hL.len;have h5:i<(e.values.length:Int):=Z5
  have hlt:i.toNat<e.values.length:=Z5
  by_cases hs:n<=most
  ·obtain⟨k,hk,hk1,hk2,hk3⟩:=ih e.values[i.toNat] (XU hlt) (most-n) Z5 Z5;obtain⟨n',q1,q2,q3,q4⟩:=IH (n+k) (i+1) Z5 Z5 Z5 Z5 Z5;have h4:Lv (fun k=>(de (e.values.drop i.toNat):Int)<=140737488355341*(k-n)) most (ak (L36_0 (af pg) ak) [.int .i64 most,.ip (aa e.av),.int .i64 (n+k),.int .i64 (i+1)]):=by
    by_cases hk4:k<=most-n
    ·refine⟨n',q1,q2,q3,fun h=>?_⟩
     grind [List.drop_eq_getElem_cons,de]
    ·have hstop:ak (L36_0 (af pg) ak) [.int .i64 most,.ip (aa e.av),.int .i64 (n+k),.int .i64 (i+1)]=ao (.int .i64 (n+k)):=by
      rw[FL36_0];simp only[L36_0];have h6:¬(n+k<=most):=Z5
      simp[h6]
     exact⟨n+k,hstop,Z5,Z5,fun h=>Z5⟩
   rw[FL36_0];simp only[L36_0];simp (disch:=omega) [h5,hs,ta,XN e.values i.toNat hlt,aW,hk];simpa using h4
  ·rw[FL36_0];simp only[L36_0];simp[h5,hs];exact⟨n,rfl,hn,hm,fun h=>absurd h hs⟩
def I5{e x:Val}(h:x∈e.values):SizeOf.sizeOf x<SizeOf.sizeOf e:=by
 cases e with
 |mk k n ns vs=>
  have h1:=Y7 h;have h3:SizeOf.sizeOf x<SizeOf.sizeOf vs:=h1
  grind
def t36:∀(N:Nat)(e:Val),SizeOf.sizeOf e<=N->e.Lim->Gt e:=by
 intro N
 induction N with
 |zero=>intro e he;cases e;simp at he
 |succ N ih=>
  intro e he hL most h0 h1;rw[C36];obtain⟨n,hn,b1,b2,b3⟩:=Og e hL (fun x hx=>ih x (by have:=I5 hx;omega) (hL.kid hx)) most h0 h1 e.values.length 1 0 rfl Z5 Z5 Z5 Z5;simp at hn;simp[S36];rw[hn,nG];refine⟨n,rfl,b1,b2,fun h=>?_⟩;have e1:=b3 h;have e2:e.sz=1+e.names.length+de e.values:=by cases e;rfl
  have e3:=hL.names
  grind
def lx(n:Nat)(l:List Val):Prop:=l.length<=n/\∀v∈l,v.sz<=4611686018427387904/\v.names.length<=20
def t17(l:List Val)(n:Nat)(hn:n<=1000)(hL:ow l):BB (lx n l) (af pg 17 [vals l,.int .i64 (n:Int)]):=by
 have hl:=hL.1;have lv:bu T 28 (vals l)=some (.int .i64 l.length):=qE _;rw[C17,show cl aF (vals l)=vals l by simp,show cl aF (.int .i64 (n:Int))= .int .i64 (n:Int)from rfl];obtain⟨b,hb,hP⟩:=nC (FL17_0 (af pg)) (fun k=>[vals l,.int .i64 (n:Int),.int .i64 (k:Int)]) l.length n (E:=ao (.bool (decide ((l.length:Int)<=(n:Int))))) (P:=l.length<=n) (R:=fun k=>(l[k]!).sz<=4611686018427387904/\(l[k]!).names.length<=20) ⟨_,rfl,fun h=>by
  grind⟩ (fun k hk h=>by
  have hg:(decide ((k:Int)<(l.length:Int))&&decide ((k:Int)<=(n:Int)))=false:=by
   rw[YQ,Yc,Yc];omega
  simp -implicitDefEqProofs only[L17_0,am,au,lv,ae,aB,dh,aE,aj,br,hg,ai,XH,XO]) (fun k hk hc=>by
  have h1:(k:Int)<(l.length:Int):=Z5
  have h2:(k:Int)<=(n:Int):=Z5
  have hix:=ta (l:=l) (n:=(k:Int)) Z5 h1;rw[XP]at hix;have hw:IntKind.i64.wrap ((k:Int)+1)=((k+1:Nat):Int):=aR Z5;have hmem:l[k]! ∈l:=by rw[XN l k hk];exact XU hk
  have hl:=hL.2 _ hmem;generalize l[k]! = v at hix hl;obtain⟨s,hs,s1,s2,s3⟩:=t36 _ v (XM _) hl 100 Z5 Z5;have ls:bu T 27 (strs v.names)=some (.int .i64 v.names.length):=g9 _;have lV:ax T 30 (.ip (aa v.av))=some v.av:=by cases v;rfl
  have fV:ah T 30 (.ip (aa v.av)) 2=some (.ip ((aa v.av).drop 2)):=by cases v;rfl
  have gV:ax T 27 (.ip ((aa v.av).drop 2))=some (strs v.names):=by cases v;rfl
  refine⟨!(decide (100<s)||decide (20<(v.names.length:Int))),?_,fun h=>?_⟩
  ·simp -implicitDefEqProofs only[L17_0,am,au,lv,ae,aB,dh,aE,aj,br,h1,h2,X8,YH,ai,XS,hix,lV,hs,dO,fV,gV,ls,eD,bm,hw]
   grind
  grind)
 refine⟨b,?_,fun h=>⟨(hP h).1,fun v hv=>?_⟩⟩
 ·grind [S17,ec]
 ·obtain⟨q1,q2⟩:=hP h;obtain⟨k,hk,rfl⟩:=Y1 hv
  grind
structure FewPr (p:Proc):Prop where
 mods:p.mods.length<=4/\∀m∈p.mods,∀f∈m.funcs,∀d,dL d f.body<=120
 state:p.state.length<=6/\∀w∈p.state,lx 10 w.values
 frames:p.frames.length<=10/\∀f∈p.frames,lx 40 f.locals/\lx 40 f.stack
 world:p.world.length<=60
 deeds:p.out.deeds.length<=60
 calls:p.out.calls.length<=60/\∀c∈p.out.calls,lx 10 c.args
 ostate:p.out.state.length<=6/\∀w∈p.out.state,lx 10 w.values
 value:lx 1 [p.out.value]
section
variable (p:Proc)
theorem NV:ah T 36 (.ip (aa p.av)) 3=some (.ip ((aa p.av).drop 3)):=rfl
theorem Oa:ax T 25 (.ip ((aa p.av).drop 3))=some (ints p.world):=rfl
theorem Vj:ah T 34 (.ip ((aa p.av).drop 4)) 2=some (.ip ((aa p.av).drop 9)):=rfl
theorem NO:ah T 34 (.ip ((aa p.av).drop 4)) 3=some (.ip ((aa p.av).drop 10)):=rfl
theorem V4:ax T 31 (.ip ((aa p.av).drop 9))=some (deeds p.out.deeds):=rfl
theorem N8:ax T 32 (.ip ((aa p.av).drop 10))=some (calls p.out.calls):=rfl
variable (c:Ap.Call)
theorem Rj:ah T 65 (.ip (aa c.av)) 2=some (.ip ((aa c.av).drop 2)):=rfl
theorem R9:ax T 28 (.ip ((aa c.av).drop 2))=some (vals c.args):=rfl
end
def Ea(l:List Ap.Call):bu T 32 (calls l)=some (.int .i64 l.length):=by
 simp_all
def Eb(l:List Deed):bu T 31 (deeds l)=some (.int .i64 l.length):=by
 simp_all
def J5(l:List Int):bu T 25 (ints l)=some (.int .i64 l.length):=by
 simp_all
def yE{α:Type}[Inhabited α]{l:List α}{c:Nat}{R:α->Prop}(hl:l.length<=c)(h:∀k,k<l.length->k<=c->R l[k]!):∀x∈l,R x:=fun x hx=>by
 obtain⟨k,hk,rfl⟩:=Y1 hx
 grind
def ym(p:Proc)(hL:Proc.Lim p)(k:Nat)(hk:k<=p.out.state.length)(h:k=p.out.state.length\/6<k):∃b0 b1:Bool,(af pg 18 [mods p.mods]=ao (.bool b0)/\(b0=true->p.mods.length<=4/\∀m∈p.mods,∀f∈m.funcs,∀d,dL d f.body<=120))/\(b1=true->lx 1 [p.out.value])/\
  L5_0 (af pg) ak (ak (L5_0 (af pg) ak)) [.ip (aa p.av),.int .i64 (k:Int)]=
   ao (.bool (b0&&decide ((p.state.length:Int)<=6)&&decide ((p.frames.length:Int)<=10)&&decide ((p.world.length:Int)<=60)&&decide ((p.out.deeds.length:Int)<=60)&&decide ((p.out.calls.length:Int)<=60)&&decide ((p.out.state.length:Int)<=6)&&b1)):=by
 obtain⟨b0,e0,q0⟩:=t18 p.mods hL.mods.1 hL.mods.2;obtain⟨b1,e1,q1⟩:=t17 [p.out.value] 1 Z6 ⟨Z8,fun v hv=>by rw[Yo]at hv;subst hv;exact hL.value⟩;have e1':af pg 17 [.sl [p.out.value.av],.int .i64 1]=ao (.bool b1):=e1;refine⟨b0,b1,⟨e0,q0⟩,q1,?_⟩;have hg:(decide ((k:Int)<(p.out.state.length:Int))&&decide ((k:Int)<=6))=false:=by
  rw[YQ,Yc,Yc];omega
 simp -implicitDefEqProofs only[L5_0,am,au,Cp,NP,N9,q5,ae,aB,dh,aE,aj,br,hg,ai,XH,XO,Fl,FE,e0,Fo,FF,vR,vW,mM,NV,Oa,J5,Vj,V4,Eb,NO,N8,Ea,NN,Sf,zB,e1']
def t5(p:Proc)(hL:Proc.Lim p):BB (FewPr p) (af pg 5 [p.av]):=by
 rw[C5,nY];obtain⟨b0,b1,q0,q1,_⟩:=ym p hL p.out.state.length (XM _) (.inl rfl);have gates:∀ {n c k:Nat},(k=n\/c<k)->(decide ((k:Int)<(n:Int))&&decide ((k:Int)<=(c:Int)))=false:=fun{n c k} h=>by
  grind
 -- the state of the outcome
 have s0:BB ((p.mods.length<=4/\∀m∈p.mods,∀f∈m.funcs,∀d,dL d f.body<=120)/\lx 1 [p.out.value]/\p.state.length<=6/\p.frames.length<=10/\p.world.length<=60/\p.out.deeds.length<=60/\p.out.calls.length<=60/\p.out.state.length<=6/\∀w∈p.out.state,lx 10 w.values) (ak (L5_0 (af pg) ak) [.ip (aa p.av),.int .i64 0]):=by
  refine (nC (FL5_0 (af pg)) (fun k=>[.ip (aa p.av),.int .i64 (k:Int)]) p.out.state.length 6 (R:=fun k=>lx 10 (p.out.state[k]!).values) (P:=(p.mods.length<=4/\∀m∈p.mods,∀f∈m.funcs,∀d,dL d f.body<=120)/\lx 1 [p.out.value]/\p.state.length<=6/\p.frames.length<=10/\p.world.length<=60/\p.out.deeds.length<=60/\p.out.calls.length<=60/\p.out.state.length<=6)
   (E:=L5_0 (af pg) ak (ak (L5_0 (af pg) ak)) [.ip (aa p.av),.int .i64 (p.out.state.length:Int)]) ?_ ?_ ?_).imp fun h=>?_
  ·obtain⟨c0,c1,r0,r1,e⟩:=ym p hL p.out.state.length (XM _) (.inl rfl);rw[e];refine⟨_,rfl,fun h=>?_⟩
   grind
  ·intro k hk h;obtain⟨c0,c1,r0,r1,e⟩:=ym p hL k hk h
   grind
  ·intro k hk hc;have h1:(k:Int)<(p.out.state.length:Int):=Z5
   have h2:(k:Int)<=6:=Z5
   have hix:=yu hk;have hw:IntKind.i64.wrap ((k:Int)+1)=((k+1:Nat):Int):=aR Z5;have hmem:p.out.state[k]! ∈p.out.state:=by rw[XN _ k hk];exact XU hk
   have hl:=hL.ostate.2 _ hmem;generalize p.out.state[k]! = w at hix hl;obtain⟨b,e,q⟩:=t17 w.values 10 Z6 hl;have e:af pg 17 [vals w.values,.int .i64 10]=ao (.bool b):=e;refine⟨b,?_,q⟩;simp -implicitDefEqProofs only[L5_0,am,au,Cp,NP,N9,q5,ae,aB,dh,aE,aj,br,h1,h2,X8,YH,ai,XS,hix,Hb,HG,e,aT,bm,hw];cases b<;>rfl
  ·obtain⟨⟨h1,h2,h3,h4,h5,h6,h7,h8⟩,h9⟩:=h;exact⟨h1,h2,h3,h4,h5,h6,h7,h8,yE h8 h9⟩
 -- the calls
 have s1:=nC (FL5_1 (af pg)) (fun k=>[.ip (aa p.av),.int .i64 (k:Int)]) p.out.calls.length 60 (R:=fun k=>lx 10 (p.out.calls[k]!).args) s0 (fun k hk h=>by
  have hg:(decide ((k:Int)<(p.out.calls.length:Int))&&decide ((k:Int)<=60))=false:=gates h;simp -implicitDefEqProofs only[L5_1,am,au,Cp,NO,N8,Ea,ae,aB,dh,aE,aj,br,hg,ai,XH,XO]) (fun k hk hc=>by
  have h1:(k:Int)<(p.out.calls.length:Int):=Z5
  have h2:(k:Int)<=60:=Z5
  have hix:=Pm (l:=p.out.calls) (n:=(k:Int)) Z5 h1;rw[XP]at hix;have hw:IntKind.i64.wrap ((k:Int)+1)=((k+1:Nat):Int):=aR Z5;have hmem:p.out.calls[k]! ∈p.out.calls:=by rw[XN _ k hk];exact XU hk
  have hl:=hL.calls.2 _ hmem;generalize p.out.calls[k]! = w at hix hl;obtain⟨b,e,q⟩:=t17 w.args 10 Z6 hl;have e:af pg 17 [vals w.args,.int .i64 10]=ao (.bool b):=e;refine⟨b,?_,q⟩;simp -implicitDefEqProofs only[L5_1,am,au,Cp,NO,N8,Ea,ae,aB,dh,aE,aj,br,h1,h2,X8,YH,ai,XS,hix,Rj,R9,e,aT,bm,hw];cases b<;>rfl)
 -- the frames
 have s2:=nC (FL5_2 (af pg)) (fun k=>[.ip (aa p.av),.int .i64 (k:Int)]) p.frames.length 10 (R:=fun k=>lx 40 (p.frames[k]!).locals/\lx 40 (p.frames[k]!).stack) s1 (fun k hk h=>by
  have hg:(decide ((k:Int)<(p.frames.length:Int))&&decide ((k:Int)<=10))=false:=gates h;simp -implicitDefEqProofs only[L5_2,am,au,vR,vW,mM,ae,aB,dh,aE,aj,br,hg,ai,XH,XO];rfl) (fun k hk hc=>by
  have h1:(k:Int)<(p.frames.length:Int):=Z5
  have h2:(k:Int)<=10:=Z5
  have hix:=Aw hk;have hw:IntKind.i64.wrap ((k:Int)+1)=((k+1:Nat):Int):=aR Z5;have hmem:p.frames[k]! ∈p.frames:=by rw[XN _ k hk];exact XU hk
  have hl:=hL.frames.2 _ hmem;generalize p.frames[k]! = w at hix hl;obtain⟨b,e,q⟩:=t17 w.locals 40 Z6 hl.1;have e:af pg 17 [vals w.locals,.int .i64 40]=ao (.bool b):=e;obtain⟨c,e2,q2⟩:=t17 w.stack 40 Z6 hl.2;have e2:af pg 17 [vals w.stack,.int .i64 40]=ao (.bool c):=e2;refine⟨!(!b||!c),?_,fun h=>?_⟩
  ·simp -implicitDefEqProofs only[L5_2,am,au,vR,vW,mM,ae,aB,dh,aE,aj,br,h1,h2,X8,YH,ai,XS,hix,JP,J2,e,aT,Fj,FC,e2,eD,bm,hw]
   grind
  grind)
 -- the state
 have s3:=nC (FL5_3 (af pg)) (fun k=>[.ip (aa p.av),.int .i64 (k:Int)]) p.state.length 6 (R:=fun k=>lx 10 (p.state[k]!).values) s2 (fun k hk h=>by
  have hg:(decide ((k:Int)<(p.state.length:Int))&&decide ((k:Int)<=6))=false:=gates h;simp -implicitDefEqProofs only[L5_3,am,au,Fo,FF,q5,ae,aB,dh,aE,aj,br,hg,ai,XH,XO];rfl) (fun k hk hc=>by
  have h1:(k:Int)<(p.state.length:Int):=Z5
  have h2:(k:Int)<=6:=Z5
  have hix:=yu hk;have hw:IntKind.i64.wrap ((k:Int)+1)=((k+1:Nat):Int):=aR Z5;have hmem:p.state[k]! ∈p.state:=by rw[XN _ k hk];exact XU hk
  have hl:=hL.state.2 _ hmem;generalize p.state[k]! = w at hix hl;obtain⟨b,e,q⟩:=t17 w.values 10 Z6 hl;have e:af pg 17 [vals w.values,.int .i64 10]=ao (.bool b):=e;refine⟨b,?_,q⟩;simp -implicitDefEqProofs only[L5_3,am,au,Fo,FF,q5,ae,aB,dh,aE,aj,br,h1,h2,X8,YH,ai,XS,hix,Hb,HG,e,aT,bm,hw];cases b<;>rfl)
 obtain⟨b,hb,hP⟩:=s3;refine⟨b,?_,fun h=>?_⟩
 ·grind [S5,ec]
 ·obtain⟨⟨⟨⟨h1,h2,h3,h4,h5,h6,h7,h8,h9⟩,g1⟩,g2⟩,g3⟩:=hP h;exact⟨h1,⟨h3,yE h3 g3⟩,⟨h4,yE (R:=fun f:Frm=>lx 40 f.locals/\lx 40 f.stack) h4 g2⟩,h5,h6,⟨h7,yE (R:=fun c:Ap.Call=>lx 10 c.args) h7 g1⟩,⟨h8,h9⟩,h2⟩
@[simp] theorem RZ(a:Exp)(l:List Exp):aA T 48 (dn (a:: l)) (.int .i64 0)=some (.ip (aa a.av)):=by
 grind [nf]
@[simp] theorem W3(a b:Exp)(l:List Exp):aA T 48 (dn (a:: b:: l)) (.int .i64 1)=some (.ip (aa b.av)):=by
 grind [nf]
@[simp] theorem W4(a b c:Exp)(l:List Exp):aA T 48 (dn (a:: b:: c:: l)) (.int .i64 2)=some (.ip (aa c.av)):=by
 grind [nf]
section
variable (o n:Int) (s m:ba) (ns:List ba) (es:List Exp)
@[simp] theorem qk:(Exp.mk o n s m ns es).op=o:=rfl
@[simp] theorem CN:(Exp.mk o n s m ns es).n=n:=rfl
@[simp] theorem Iz:(Exp.mk o n s m ns es).s=s:=rfl
@[simp] theorem Kh:(Exp.mk o n s m ns es).m=m:=rfl
@[simp] theorem jx:(Exp.mk o n s m ns es).names=ns:=rfl
@[simp] theorem kZ:(Exp.mk o n s m ns es).args=es:=rfl
end
def lR(o n:Int)(s m:ba)(ns:List ba)(es:List Exp):AV.agg [.int .i64 o,.int .i64 n,.str s,.str m,strs ns,dn es]=(Exp.mk o n s m ns es).av:=by rw[Exp.av,Exp.cells_eq];rfl
theorem tP:∀(ns:List ba)(vs:List Val)(s:ba)(i:Int),ns.length=vs.length->(bb (fun x=>s== x) ns i= -1/\gO ns vs s=none)\/(∃(k:Nat)(h:k<vs.length),bb (fun x=>s== x) ns i=i+k/\gO ns vs s=some vs[k])
 |[],[],s,i,_=>.inl ⟨rfl,rfl⟩
 | n:: ns,v:: vs,s,i,h=>by
  simp only[bb,gO];by_cases hn:n=s
  ·grind
  ·have hn':(s== n)=false:=by simpa using fun e=>hn e.symm
   simp only[XG hn,hn',XH,XO];rcases tP ns vs s (i+1) (by simpa using h)with⟨h1,h2⟩|⟨k,hk,h1,h2⟩
   ·grind
   ·right;exact⟨k+1,by simp;omega,Z7,by simpa using h2⟩
 |[],_:: _,_,_,h=>by simp at h
 |_:: _,[],_,_,h=>by simp at h
def ma{p:List Mod}{nm:SNm}{x:X Val}(hx:(∃v,x= .ok v)\/(∃e,x= .er e)){m:Ms}{h:Hp}(R:hG p nm m h):kb p nm Val.av (x m) (gP x h):=by
 rcases hx with⟨v,rfl⟩|⟨e,rfl⟩
 ·exact eW R
 ·exact gw R
def lM(op:Int)(a b:Val):(∃v,oY op a b= .ok v)\/(∃e,oY op a b= .er e):=by
 unfold oY;split
 ·split
  all_goals grind
 ·split
  ·split
   ·grind
   ·split
    ·grind
    ·split
     all_goals grind
  grind
def Oe{l:List Exp}(h:l.length=1):∃a,l=[a]:=by
 match l,h with
 |[a],_=>grind
def AF{l:List Exp}(h:l.length=2):∃a b,l=[a,b]:=by
 match l,h with
 |[a,b],_=>grind
def V6{l:List Exp}(h:l.length=3):∃a b c,l=[a,b,c]:=by
 match l,h with
 |[a,b,c],_=>grind
def Ep{α:Type}{p:List Mod}{nm:SNm}{enc:α->AV}{c:Prop}[Decidable c]{x y:X α}{a b:M AV}{m:Ms}{h:Hp}(h1:c->kb p nm enc (x m) (a h))(h2:¬c->kb p nm enc (y m) (b h)):kb p nm enc ((if c then x else y) m) ((if c then a else b) h):=by
 grind
def DN(a b:Bool):cB T .eql 4 (.bool a) (.bool b)=some (.bool (a== b)):=by cases a<;>cases b<;>rfl
def rH(v:Val)(h:Hp):ar (bH 4 [] v.av) (fun w=>ao (AV.agg [ab (aa w) 0,ab (aa w) 1,ab (aa w) 2,ab (aa w) 3])) h=ao v.av h:=by rw[Ls]
def ez{p:List Mod}{nm:SNm}{r:Rs Val}{c:M AV}{h:Hp}(H:kb p nm Val.av r (c h)):kb p nm Val.av r (ar c (fun v=>ar (bH 4 [] v) fun w=>ao (AV.agg [ab (aa w) 0,ab (aa w) 1,ab (aa w) 2,ab (aa w) 3])) h):=by
 cases r with
 |ok v s=>
  obtain⟨h',h1,h2⟩:=H;refine⟨h',?_,h2⟩;rw[ap h1,Ls];rfl
 |er e s=>
  obtain⟨h',h1,h2⟩:=H;exact⟨h',DC h1,h2⟩
theorem Fh{p:List Mod}{nm:SNm}{n:Nat}(IH:sJ p nm n)(IR:KV p nm n)(IC:Gn p nm n)(IW:Dm p nm n):sJ p nm (n+1):=by
 intro own ns vs e m h R G hn hs he;have IB:=t171 IH;by_cases hf:0<m.fuel
 rotate_left
 ·have e1:cP p (n+1) own ns vs e m= .er 16 m:=by
   show qv p (cP p n) own ns vs e m=_;unfold qv X.get;simp only;rw[XK Z5];rfl
  rw[e1];exact⟨h,G5 R hf _ e,R⟩
 have hspec:cP p (n+1) own ns vs e m=(if bO e.op= -2\/(bO e.op≠-1/\bO e.op≠e.args.length)then .er 13
   else if e.op=0 then .ok (cg e.n)
   else if e.op=1 then(if e.n=0\/e.n=1 then .ok (dW (e.n== 1))else .er 13)
   else if e.op=2 then(match lr ns vs e.s with|some v=>.ok v|none=>.er 12)
   else if e.op=3\/e.op=4\/e.op=5\/e.op=6\/e.op=7 then(cP p n own ns vs e.args[0]!).bind fun a=>(cP p n own ns vs e.args[1]!).bind fun b=>oY e.op a b
   else if e.op=8\/e.op=9 then(boolX (cP p n own ns vs e.args[0]!)).bind fun x=>if x=(e.op== 9)then .ok (dW (e.op== 9))else(boolX (cP p n own ns vs e.args[1]!)).bind fun y=>.ok (dW y)
   else if e.op=10 then(boolX (cP p n own ns vs e.args[0]!)).bind fun x=>.ok (dW !x)
   else if e.op=11 then(boolX (cP p n own ns vs e.args[0]!)).bind fun x=>if x=true then cP p n own ns vs e.args[1]! else cP p n own ns vs e.args[2]!
   else if e.op=12 then(cP p n own ns vs e.args[0]!).bind fun v=>cP p n own (ns++[e.s]) (vs++[v]) e.args[1]!
   else if e.op=13 then mT (cP p n own ns vs) e
   else if e.op=14 then(cP p n own ns vs e.args[0]!).bind fun v=>(match gO v.names v.values e.s with|some x=>if v.kind=2 then .ok x else .er 13|none=>.er 13)
   else if e.op=15 then tw p (cP p n) own ns vs e
   else vF p (cP p n own ns vs) own e:X Val) (j9 m):=by
  show qv p (cP p n) own ns vs e m=_;unfold qv X.get;simp only;rw[XG Z5];have hw:(if e.op=16 then BG (cP p n own ns vs e.args[0]!) e else Dj p (cP p n own ns vs) own e)=vF p (cP p n own ns vs) own e:=rfl;rw[hw];rfl
 have hbm:=G.bud;have G1:GoodM p (j9 m):=⟨G.right,by simp only[mu,j9]at hbm |-;omega,G.fr,by simp only[j9];omega,G.shape⟩;have hmu:mu (j9 m)<1000000:=by simp only[mu,j9]at hbm |-;omega
 have hn1:(j9 m).fuel<=n:=by simp only[j9];omega
 have hft:(j9 m).fuel<=m.fuel:=by simp only[j9];omega
 have hs1:Sc p own ns vs (j9 m):=hs.less hft;by_cases hc:rI e
 rotate_left
 ·obtain⟨h1,R1,e1⟩:=NF R G hf (bG own ns vs) e hc;have hc':bO e.op= -2\/(bO e.op≠-1/\bO e.op≠e.args.length):=by
   unfold rI at hc;by_cases k:bO e.op= -2
   ·exact .inl k
   ·grind
  rw[hspec,XK hc'];exact⟨h1,e1,R1⟩
 obtain⟨h1,R1,hl,hst⟩:=step0 R;have hw:IntKind.i64.wrap (m.fuel-1)=m.fuel-1:=aW Z5 (by simp only[mu]at hbm;omega);have hc':¬(bO e.op= -2\/(bO e.op≠-1/\bO e.op≠e.args.length)):=by
  unfold rI at hc;rintro (k|⟨k1,k2⟩)
  ·exact hc.1 k
  ·grind
 rw[hspec,XG hc'];have hcc:=hc;have hce:=hc.2;obtain⟨op,en,es,em,en2,ea⟩:=e;simp only[qk,CN,Iz,kZ]at hce |-;unfold rI at hc;simp only[qk,kZ]at hc;generalize hcode:af pg 133 [.hp 0 0,bG own ns vs,(Exp.mk op en es em en2 ea).av] h=code;rw[C133]at hcode;have hW:∀v:Val,∀h,ar (bH 4 [] v.av) (fun w=>ao (AV.agg [ab (aa w) 0,ab (aa w) 1,ab (aa w) 2,ab (aa w) 3])) h=ao v.av h:=rH;by_cases k0:op=0
 ·subst k0;have hlen:ea.length=0:=by simp[bO]at hce;omega
  obtain rfl:=XV hlen;simp[S133,hl,hst,hf,bq,dj,hw,t167,bO,K133_2,K133_1,K133_0,cd,t168]at hcode;simp;rw[<- hcode];exact eW (a:=cg en) R1
 by_cases k1:op=1
 ·subst k1;have hlen:ea.length=0:=by simp[bO]at hce;omega
  obtain rfl:=XV hlen;simp[S133,hl,hst,hf,bq,dj,hw,t167,bO,K133_2,K133_1,K133_0,cd,t169]at hcode;simp;rw[<- hcode];exact Ep (fun _=>eW (a:=dW (en== 1)) R1) (fun _=>gw R1)
 by_cases k2:op=2
 ·subst k2;have hlen:ea.length=0:=by simp[bO]at hce;omega
  obtain rfl:=XV hlen;have hnl:=hs.right.1;have hns:(ns.length:Int)<=549755813888:=by have:=hs.len;omega
  have hloop:=AP (K133_0 (af pg) ak) own ns vs (.mk 2 en es em en2 []) (.int .i64 0) (.int .i64 0) (.sl []) (.sl []) hnl Z5 ns.length (XM _);have hwl:IntKind.i64.wrap ((ns.length:Int)-1)=(ns.length:Int)-1:=aW Z5 Z5;rw[Zz,hnl,Zz]at hloop;simp only[cr,qk,CN,Iz,Kh,jx,kZ]at hloop;simp[S133,hl,hst,hf,bq,dj,hw,t167,bO,hwl]at hcode;rw[hnl,hloop]at hcode;simp;rw[<- hcode];cases lr ns vs es with
  |none=>exact gw R1
  |some v=>exact eW R1
 by_cases k3:op=3
 ·subst k3;have hlen:ea.length=2:=by simp[bO]at hce;omega
  obtain⟨a,b,rfl⟩:=AF hlen;have ha:bX a:=bB he Z8;have hb:bX b:=bB he Z8;simp[S133,hl,hst,hf,bq,dj,hw,t167,bO,K133_2,K133_1,K133_0,cd]at hcode;simp;rw[<- hcode];refine cK (IH own ns vs a _ _ R1 G1 hn1 hs1 ha) fun x s1 h2 hx R2=>?_;obtain⟨G2,_,f2⟩:=G1.eval hs1.right hx;refine cK (IH own ns vs b _ _ R2 G2 Z5 (hs1.less f2) hb) fun y s2 h3 hy R3=>?_;rw[t170 3 x y Z8];exact ez (c:=gP (oY 3 x y)) (ma (lM _ _ _) R3)
 by_cases k4:op=4
 ·subst k4;have hlen:ea.length=2:=by simp[bO]at hce;omega
  obtain⟨a,b,rfl⟩:=AF hlen;have ha:bX a:=bB he Z8;have hb:bX b:=bB he Z8;simp[S133,hl,hst,hf,bq,dj,hw,t167,bO,K133_2,K133_1,K133_0,cd]at hcode;simp;rw[<- hcode];refine cK (IH own ns vs a _ _ R1 G1 hn1 hs1 ha) fun x s1 h2 hx R2=>?_;obtain⟨G2,_,f2⟩:=G1.eval hs1.right hx;refine cK (IH own ns vs b _ _ R2 G2 Z5 (hs1.less f2) hb) fun y s2 h3 hy R3=>?_;rw[t170 4 x y Z8];exact ez (c:=gP (oY 4 x y)) (ma (lM _ _ _) R3)
 by_cases k5:op=5
 ·subst k5;have hlen:ea.length=2:=by simp[bO]at hce;omega
  obtain⟨a,b,rfl⟩:=AF hlen;have ha:bX a:=bB he Z8;have hb:bX b:=bB he Z8;simp[S133,hl,hst,hf,bq,dj,hw,t167,bO,K133_2,K133_1,K133_0,cd]at hcode;simp;rw[<- hcode];refine cK (IH own ns vs a _ _ R1 G1 hn1 hs1 ha) fun x s1 h2 hx R2=>?_;obtain⟨G2,_,f2⟩:=G1.eval hs1.right hx;refine cK (IH own ns vs b _ _ R2 G2 Z5 (hs1.less f2) hb) fun y s2 h3 hy R3=>?_;rw[t170 5 x y Z8];exact ez (c:=gP (oY 5 x y)) (ma (lM _ _ _) R3)
 by_cases k6:op=6
 ·subst k6;have hlen:ea.length=2:=by simp[bO]at hce;omega
  obtain⟨a,b,rfl⟩:=AF hlen;have ha:bX a:=bB he Z8;have hb:bX b:=bB he Z8;simp[S133,hl,hst,hf,bq,dj,hw,t167,bO,K133_2,K133_1,K133_0,cd]at hcode;simp;rw[<- hcode];refine cK (IH own ns vs a _ _ R1 G1 hn1 hs1 ha) fun x s1 h2 hx R2=>?_;obtain⟨G2,_,f2⟩:=G1.eval hs1.right hx;refine cK (IH own ns vs b _ _ R2 G2 Z5 (hs1.less f2) hb) fun y s2 h3 hy R3=>?_;rw[t170 6 x y Z8];exact ez (c:=gP (oY 6 x y)) (ma (lM _ _ _) R3)
 by_cases k7:op=7
 ·subst k7;have hlen:ea.length=2:=by simp[bO]at hce;omega
  obtain⟨a,b,rfl⟩:=AF hlen;have ha:bX a:=bB he Z8;have hb:bX b:=bB he Z8;simp[S133,hl,hst,hf,bq,dj,hw,t167,bO,K133_2,K133_1,K133_0,cd]at hcode;simp;rw[<- hcode];refine cK (IH own ns vs a _ _ R1 G1 hn1 hs1 ha) fun x s1 h2 hx R2=>?_;obtain⟨G2,_,f2⟩:=G1.eval hs1.right hx;refine cK (IH own ns vs b _ _ R2 G2 Z5 (hs1.less f2) hb) fun y s2 h3 hy R3=>?_;rw[t170 7 x y Z8];exact ez (c:=gP (oY 7 x y)) (ma (lM _ _ _) R3)
 by_cases k8:op=8
 ·subst k8;have hlen:ea.length=2:=by simp[bO]at hce;omega
  obtain⟨a,b,rfl⟩:=AF hlen;have ha:bX a:=bB he Z8;have hb:bX b:=bB he Z8;simp[S133,hl,hst,hf,bq,dj,hw,t167,bO,K133_2,K133_1,K133_0,cd]at hcode;simp;rw[<- hcode];refine cK (IB own ns vs a _ _ R1 G1 hn1 hs1 ha) fun x s1 h2 hx R2=>?_;obtain⟨G2,f2⟩:=G1.bool hs1.right hx;rw[DN];simp only[ae,ai];cases x
  ·simp[t169];exact eW R2
  ·simp[t169];refine cK (IB own ns vs b _ _ R2 G2 Z5 (hs1.less f2) hb) fun y s2 h3 hy R3=>?_;simp_all[t169,eW]
 by_cases k9:op=9
 ·subst k9;have hlen:ea.length=2:=by simp[bO]at hce;omega
  obtain⟨a,b,rfl⟩:=AF hlen;have ha:bX a:=bB he Z8;have hb:bX b:=bB he Z8;simp[S133,hl,hst,hf,bq,dj,hw,t167,bO,K133_2,K133_1,K133_0,cd]at hcode;simp;rw[<- hcode];refine cK (IB own ns vs a _ _ R1 G1 hn1 hs1 ha) fun x s1 h2 hx R2=>?_;obtain⟨G2,f2⟩:=G1.bool hs1.right hx;rw[DN];simp only[ae,ai];cases x
  ·simp[t169];refine cK (IB own ns vs b _ _ R2 G2 Z5 (hs1.less f2) hb) fun y s2 h3 hy R3=>?_;simp_all[t169,eW]
  ·simp[t169];exact eW R2
 by_cases k10:op=10
 ·subst k10;have hlen:ea.length=1:=by simp[bO]at hce;omega
  obtain⟨a,rfl⟩:=Oe hlen;have ha:bX a:=bB he Z8;simp[S133,hl,hst,hf,bq,dj,hw,t167,bO,K133_2,K133_1,K133_0,cd]at hcode;simp;rw[<- hcode];refine cK (IB own ns vs a _ _ R1 G1 hn1 hs1 ha) fun x s1 h2 hx R2=>?_;simp_all[t169,eW]
 by_cases k11:op=11
 ·subst k11;have hlen:ea.length=3:=by simp[bO]at hce;omega
  obtain⟨a,b,c,rfl⟩:=V6 hlen;have ha:bX a:=bB he Z8;have hb:bX b:=bB he Z8;have hc3:bX c:=bB he Z8;simp[S133,hl,hst,hf,bq,dj,hw,t167,bO,K133_2,K133_1,K133_0,cd]at hcode;simp;rw[<- hcode];refine cK (IB own ns vs a _ _ R1 G1 hn1 hs1 ha) fun x s1 h2 hx R2=>?_;obtain⟨G2,f2⟩:=G1.bool hs1.right hx;simp only[ai];exact Ep (fun _=>ez (IH own ns vs b _ _ R2 G2 Z5 (hs1.less f2) hb)) (fun _=>ez (IH own ns vs c _ _ R2 G2 Z5 (hs1.less f2) hc3))
 by_cases k12:op=12
 ·subst k12;have hlen:ea.length=2:=by simp[bO]at hce;omega
  obtain⟨a,b,rfl⟩:=AF hlen;have ha:bX a:=bB he Z8;have hb:bX b:=bB he Z8;simp[S133,hl,hst,hf,bq,dj,hw,t167,bO,K133_2,K133_1,K133_0,cd]at hcode;simp;rw[<- hcode];refine cK (IH own ns vs a _ _ R1 G1 hn1 hs1 ha) fun x s1 h2 hx R2=>?_;obtain⟨G2,rx,f2⟩:=G1.eval hs1.right hx;have hsl:=hs1.len;have hrl:=hs1.right.1;have hfu:=G1.fuel;rw[t145 own ns vs es x Z5 Z5];simp only[da,aj];refine ez (IH own (ns++[es]) (vs++[x]) b _ _ R2 G2 Z5 ⟨hs1.own,⟨by simp[hrl],fun w hw=>?_⟩,?_⟩ hb)
  ·rcases Yl.1 hw with k|k
   ·exact hs1.right.2 w k
   grind
  ·have:(j9 m).fuel=m.fuel-1:=rfl
   have:=hs.len
   grind
 by_cases k13:op=13
 ·subst k13;simp[S133,hl,hst,hf,bq,dj,hw,t167,bO,K133_2,K133_1,K133_0,cd,lR]at hcode;simp;rw[<- hcode];exact ez (IR own ns vs _ _ _ R1 G1 hn1 hs1 he)
 by_cases k14:op=14
 ·subst k14;have hlen:ea.length=1:=by simp[bO]at hce;omega
  obtain⟨a,rfl⟩:=Oe hlen;have ha:bX a:=bB he Z8;simp[S133,hl,hst,hf,bq,dj,hw,t167,bO,K133_2,K133_1,K133_0,cd]at hcode;simp;rw[<- hcode];refine cK (IH own ns vs a _ _ R1 G1 hn1 hs1 ha) fun x s1 h2 hx R2=>?_;obtain⟨G2,rx,f2⟩:=G1.eval hs1.right hx;have hrl:=C1 rx;have h8:=pz rx;have hi:=t150 x.names es Z5;rw[bc (d3 x)];simp only[aj,aK,bQ,X3,X0,LD27,LD28,LD3,ae,hi,aI,jm,aE,am,br,bq,dj];rcases tP x.names x.values es 0 hrl with⟨j1,j2⟩|⟨k,hk,j1,j2⟩
  ·rw[j1,j2];simp only[show decide ((0:Int)<=-1)=false by decide,Zi,XH,XO];exact gw R2
  ·rw[j1,j2];have hk0:decide ((0:Int)<=0+(k:Int))=true:=Z8
   rw[hk0];simp only[YH];by_cases hk2:x.kind=2
   ·have hix:=ta (l:=x.values) (n:=0+(k:Int)) Z5 Z5;have e5:(0+(k:Int)).toNat=k:=Z5
    rw[e5,XN x.values k hk]at hix;have hld:ax T 30 (.ip (aa (x.values[k]).av))=some (x.values[k]).av:=Z8
    simp_all[eW]
   simp_all[gw]
 by_cases k15:op=15
 ·subst k15;simp[S133,hl,hst,hf,bq,dj,hw,t167,bO,K133_2,K133_1,K133_0,cd,lR]at hcode;simp;rw[<- hcode];exact ez (IC own ns vs _ _ _ R1 G1 hmu hn1 hs1 he)
 by_cases k16:op=16
 ·subst k16;simp[S133,hl,hst,hf,bq,dj,hw,t167,bO,K133_2,K133_1,K133_0,cd,lR]at hcode;have hce':bO 16=ea.length:=by simp only[bO]at hce |-;simpa using hce
  simp only[bO]at hce';simp at hce';simp[<- hce']at hcode;simp;rw[<- hcode];exact ez (IW own ns vs (.mk 16 en es em en2 ea) _ _ Z8 hcc R1 G1 hmu hn1 hs1 he)
 by_cases k17:op=17
 ·subst k17;simp[S133,hl,hst,hf,bq,dj,hw,t167,bO,K133_2,K133_1,K133_0,cd,lR]at hcode;have hce':bO 17=ea.length:=by simp only[bO]at hce |-;simpa using hce
  simp only[bO]at hce';simp at hce';simp[<- hce']at hcode;simp;rw[<- hcode];exact ez (IW own ns vs (.mk 17 en es em en2 ea) _ _ Z8 hcc R1 G1 hmu hn1 hs1 he)
 by_cases k18:op=18
 ·subst k18;simp[S133,hl,hst,hf,bq,dj,hw,t167,bO,K133_2,K133_1,K133_0,cd,lR]at hcode;have hce':bO 18=ea.length:=by simp only[bO]at hce |-;simpa using hce
  simp only[bO]at hce';simp at hce';simp[<- hce']at hcode;simp;rw[<- hcode];exact ez (IW own ns vs (.mk 18 en es em en2 ea) _ _ Z8 hcc R1 G1 hmu hn1 hs1 he)
 grind [bO]
def sI{α β γ:Type}(x:X α)(f:α->X β)(g:β->X γ):(x.bind f).bind g=x.bind fun a=>(f a).bind g:=by
 funext m;unfold X.bind
 grind
theorem qB{α β:Type}(a:α)(f:α->X β):(X.ok a).bind f=f a:=rfl
theorem AM{p:List Mod}{nm:SNm}{n:Nat}(IH:sJ p nm n)(own:Int)(ns:List ba)(vs:List Val)(en:List ba)(es:List Exp)(x5 x6 x7 x8:AV)(hes:∀e∈es,bX e)(h8:es.length<=8):
  ∀(B A:List Exp)(acc:List Val)(m:Ms)(h:Hp),A++B=es->acc.length=A.length->(∀v∈acc,Rv v)->en.length<=8->hG p nm m h->GoodM p m->m.fuel<=n->Sc p own ns vs m->
  kb p nm Val.av ((listX (cP p n own ns vs) B).bind (fun ws=>if dS (.mk 2 0 en (acc++ws))<=4 then .ok (.mk 2 0 en (acc++ws))else .er 6) m)
   (ak (L172_0 (af pg) ak) [.hp 0 0,.ip (aa (bG own ns vs)),dn es,.int .i64 es.length,.int .i64 A.length,x5,x6,x7,x8,.int .i64 2,.int .i64 0,strs en,vals acc] h)
 | [],A,acc,m,h,e,ha,hr,hen,R,G,hn,hs=>by
  simp only[X9]at e;subst e;have hsz:(Val.mk 2 0 en acc).sz<=1099511627776:=by
   have h2:de acc<=acc.length*200000:=by
    have key:∀l:List Val,(∀v∈l,Rv v)->de l<=l.length*200000:=by
     intro l
     induction l with
     |nil=>intro _;simp[de]
     |cons v l ih=>
      grind [nP,de]
    exact key acc hr
   simp only[Val.sz];have:acc.length*200000<=8*200000:=XR _ Z5;omega
  have hlv:=t186 _ (.mk 2 0 en acc) (XM _) hsz;rw[Val.av_eq]at hlv;simp only[XA,XC,Xv,Xt]at hlv;have hw:∀h,ar (bH 4 [] (AV.agg [.int .i64 2,.int .i64 0,strs en,vals acc])) (fun w=>ao (AV.agg [ab (aa w) 0,ab (aa w) 1,ab (aa w) 2,ab (aa w) 3])) h=ao (Val.mk 2 0 en acc).av h:=fun h=>by
   have:=rH (Val.mk 2 0 en acc) h
   simp_all[Val.av_eq]
  rw[FL172_0];simp only[listX,qB,X9];simp only[L172_0,am,au,aB,ae,ai,Z4,Y4,XH,XO,hlv,aj,dh,bq,dj,hw];by_cases h4:dS (.mk 2 0 en acc)<=4
  ·have h4':decide (((dS (.mk 2 0 en acc):Nat):Int)<=4)=true:=by simp;omega
   simp_all[eW]
  ·have h4':decide (((dS (.mk 2 0 en acc):Nat):Int)<=4)=false:=by simp;omega
   simp only[h4,h4',XH,XO];exact gw R
 | x:: B,A,acc,m,h,e,ha,hr,hen,R,G,hn,hs=>by
  have hll:A.length+(B.length+1)=es.length:=by rw[<- e];simp
  have h1:(A.length:Int)<(es.length:Int):=Z5
  have hx:es[A.length]'(Z5)=x:=by subst e;simp
  have hm:x∈es:=by rw[<- e];simp
  have hi:=nf (l:=es) (n:=(A.length:Int)) Z5 h1;rw[show ((A.length:Int)).toNat=A.length by omega,XN es A.length Z5,hx]at hi;have hsc:ax T 212 (.ip (aa (bG own ns vs)))=some (bG own ns vs):=rfl;have hex:ax T 121 (.ip (aa x.av))=some x.av:=Z8
  rw[FL172_0];simp only[listX,sI,qB];simp only[L172_0,am,au,aB,ae,ai,h1,X8,XS,hi,hex,bc (qe x),aj,hsc,aK];refine cK (IH own ns vs x m h R G hn hs (hes x hm)) fun v s h' hv Rs=>?_;obtain⟨G2,rv,f2⟩:=G.eval hs.right hv;have hb2:aM T 28 1 [(0,v.av)]=some (vals [v]):=by rw[v.av_eq];simp[vals,d5,v.av_eq];rfl
  have ha2:dH T 28 (vals acc) (vals [v])=some (vals (acc++[v])):=EH WD;have hc1:fW (vals (acc++[v]))=ao (vals (acc++[v])):=rfl;have hw:IntKind.i64.wrap ((A.length:Int)+1)=((A.length+1:Nat):Int):=aR Z5;simp only[hb2,ae,ha2,hc1,aj,bm,hw];have ih:=AM IH own ns vs en es x5 x6 x7 x8 hes h8 B (A++[x]) (acc++[v]) s h' Z7 (by simp[ha]) (fun w hw=>by
   grind) hen Rs G2 Z5 (hs.less f2)
  grind
theorem t172{p:List Mod}{nm:SNm}{n:Nat}(IH:sJ p nm n):KV p nm n:=by
 intro own ns vs e m h R G hn hs he;obtain⟨l1,l2⟩:=mF he;unfold mT;have ha:=t175 e.names Z5;have hcl:=t97 e.names Z5;have hB:cH T true 30 [(0,.int .i64 2),(2,strs e.names)]=some (.agg [.int .i64 2,.int .i64 0,strs e.names,.hn]):=rfl;have hC:bH 4 [3] (.agg [.int .i64 2,.int .i64 0,strs e.names,.hn])=ao (.agg [.int .i64 2,.int .i64 0,strs e.names,.hn]):=rfl;rw[C172];simp only[S172,cr,FA121_4,FA121_5,X3,X0,LD27,LD48,g9,oV,ae,aI,ha,aj,aE,am,au,br,bq,dj,dh,hcl,hB,hC,aK];have hsc:(AV.ip (aa (bG own ns vs)))= .ip [.int .i64 own,strs ns,vals vs]:=rfl;by_cases hl:e.names.length=e.args.length
 ·by_cases hasc:asc e.names=true
  ·have e1:((e.names.length:Int)== (e.args.length:Int)&&asc e.names)=true:=by simp[hl,hasc]
   simp only[hl,hasc,e1,ZS,XS];by_cases h8:e.args.length<=8
   ·have h8':decide ((e.args.length:Int)<=8)=true:=by simp;omega
    have e2:((e.args.length:Int)== (e.args.length:Int)&&true)=true:=Z8
    simp only[h8,h8',e2,XS]
    have:=AM IH own ns vs e.names e.args (.int .i64 0) (.int .i64 0) (.sl []) (.sl []) (fun x hx=>bB he hx) h8 e.args [] [] m h rfl rfl (fun v hv=>by cases hv) Z5 R G hn hs
    simp only[Ye]at this;exact this
   ·have h8':decide ((e.args.length:Int)<=8)=false:=by simp;omega
    have e2:((e.args.length:Int)== (e.args.length:Int)&&true)=true:=Z8
    simp only[h8,h8',e2,XS,XH,XO];exact gw R
  simp_all[gw]
 simp_all[gw]
def CR(s t:ba)(v:AV)(h:ay v=true):bY 3 (.agg [.str s,.str t,v])=true:=by
 simp only[bY,dC,aa,X7,ZH];rw[h];rfl
def B9{p:List Mod}{nm:SNm}{tag:Nat->Nat}{dv cv sv:AV}{m:Ms}{h:Hp}(R:RepT (rowP p nm.told) nm tag dv cv sv m h)(l:List Val)(hb:l.length<=274877906944):
  ∃av h1 tag1,af pg 32 [vals l] h= .ok av h1/\RepT (rowP p nm.told) nm tag1 dv cv sv m h1/\xM tag1 4 h1 l av/\ay av=true:=by
 have e0:af pg 32 [vals l]=cz T 28 (af pg) [vals l]:=d7 hJ rfl _;have e1:=nv (T:=T) (t:=28) rfl rfl rfl rfl rfl Z6 (af pg) l (show l.length*64<=140737488355328 by omega) h;rw[e0];by_cases hl:l=[]
 ·rw[XK hl]at e1;exact⟨_,h,tag,e1,R,.inl (.inr ⟨hl,rfl⟩),rfl⟩
 ·rw[XG hl]at e1;refine⟨_,_,_,e1,(R.more (aw l) 4).1,.inr ⟨h.length,rfl,Z8,Z8⟩,rfl⟩
def FT{p:List Mod}{nm:SNm}{tag:Nat->Nat}{dv cv sv:AV}{m:Ms}{h:Hp}(R:RepT (rowP p nm.told) nm tag dv cv sv m h)(c:Ap.Call)(av:AV)(ha:xM tag 4 h c.args av)(hok:ay av=true)(hb:m.calls.length<=2000000):
  ∃cv' h1 h2,appH T 32 false cv (.sl [.agg [.str c.module,.str c.func,av]]) h= .ok cv' h1/\bN T 32 (.hp 0 10) cv' h1= .ok (.tup []) h2/\hG p nm { m with calls:=m.calls++[c] } h2:=by
 obtain⟨h1,cv',tag',e1,K,H,hc⟩:=A3 (T:=T) (t:=32) rfl rfl rfl rfl Z6 rfl Z6 (x:=.agg [.str c.module,.str c.func,av]) R.cs (fun h0=>by
  have:m.calls=[]:=XV h0;rw[this];rfl) (fun cs h=>h.ok.1) (CR _ _ _ hok) (show (m.calls.length+1)*56<=140737488355328 by omega)
 have h0:=(K 0 _ R.r0 (by rw[R.t0];decide)).1;refine⟨cv',h1,_,e1,bU rfl h0 (kN hc).1 (show 10+1<=12 by decide) Z6,?_⟩;have hac:aa cv'=[cv']:=(kN hc).2.1
 have:=R.pushCall (m':={ m with calls:=m.calls++[c] }) K ha H rfl rfl rfl id
 refine⟨tag',dv,cv',sv,?_⟩;rw[hac];exact this
def vg{p:List Mod}{nm:SNm}{m:Ms}{h:Hp}(R:hG p nm m h)(x:Int):∃h1,hG p nm { m with frames:=x } h1/\(∀f:AV->M AV,ar (bg T 3 (.hp 0 3)) f h=f (.int .i64 m.frames) h)/\
  (∀f:AV->M AV,ar (bN T 3 (.hp 0 3) (.int .i64 x)) f h=f (.tup []) h1):=by
 obtain⟨tag,dv,cv,sv,R⟩:=R;exact⟨_,⟨tag,dv,cv,sv,R.set0 rfl rfl rfl id⟩,fun f=>ap (bT rfl rfl R.r0 rfl),fun f=>ap (bU rfl R.r0 rfl (show 3+1<=12 by decide) Z6)⟩
theorem xd(f:Fun)(a:Int)(ps:List fu)(l:List Val)(x6 x7 x8 x9:AV)(hb:ps.length<=274877906944)(hl:l.length=ps.length):∀(B A:List fu)(lb la:List Val),A++B=ps->la++lb=l->la.length=A.length->
  ak (L84_0 (af pg) ak) [.hp 0 0,vals l,.ip (aa f.av),ca ps,.int .i64 ps.length,.int .i64 A.length,x6,x7,x8,x9,.int .i64 a,strs (A.map (·.1)),vals la]=
  ak (L84_0 (af pg) ak) [.hp 0 0,vals l,.ip (aa f.av),ca ps,.int .i64 ps.length,.int .i64 ps.length,x6,x7,x8,x9,.int .i64 a,strs (ps.map (·.1)),vals l]
 | [],A,lb,la,e,e2,hla=>by
  simp only[X9]at e;subst e;have hz:lb=[]:=by
   apply XV;have:(la++lb).length=l.length:=by rw[e2]
   rw[X1]at this;omega
  grind
 | x:: B,A,lb,la,e,e2,hla=>by
  have hll:A.length+(B.length+1)=ps.length:=by rw[<- e];simp
  have h1:(A.length:Int)<(ps.length:Int):=Z5
  have hx:ps[A.length]'(Z5)=x:=by subst e;simp
  obtain⟨v,lb',rfl⟩:∃v lb',lb=v:: lb':=by
   cases lb with
   |nil=>
    grind
   |cons v lb'=>grind
  have hv:l[A.length]'(Z5)=v:=by
   subst e2;rw[List.getElem_append_right Z5];simp[hla]
  have hi:=vJ (l:=ps) (n:=(A.length:Int)) Z5 h1;rw[show ((A.length:Int)).toNat=A.length by omega,XN ps A.length Z5,hx]at hi;have hj:=ta (l:=l) (n:=(A.length:Int)) Z5 Z5;rw[show ((A.length:Int)).toNat=A.length by omega,XN l A.length Z5,hv]at hj;have hfl:ax T 143 (.ip [.str x.1,.int .i64 x.2.kind,ca x.2.fields])=some (dZ x):=Z8
  have hvl:ax T 30 (.ip (aa v.av))=some v.av:=Z8
  have hw:IntKind.i64.wrap ((A.length:Int)+1)=((A.length+1:Nat):Int):=aR Z5;have hbd:=t145 a (A.map (·.1)) la x.1 v WD Z5;have ih:=xd f a ps l x6 x7 x8 x9 hb hl B (A++[x]) lb' (la++[v]) Z7 Z7 (by simp[hla]);simp only[Zp,YA,ZU,X1,List.length_singleton]at ih;rw[<- ih,FL84_0];simp only[L84_0,am,au,aB,ae,ai,h1,X8,XS,hi,hfl,bc (uM x),aj,aK,kC,FA143_0,X0,LD9,hj,hvl,cd,hbd,da,gh (pu _ _ _),fH,bm,hw]
def Dl(p:List Mod)(nm:SNm)(n:Nat):Prop:=∀(a:Int) (f:Fun) (l:List Val) m h,0<=a->a<p.length->f∈(p[a.toNat]?.getD default).funcs->l.length=f.params.length->(∀v∈l,Rv v)->hG p nm m h->GoodM p m->mu m<1000000->m.fuel<=n->
 kb p nm Val.av (jM p (cP p n) a f l m) (af pg 84 [.hp 0 0,.int .i64 a,f.av,vals l] h)
def BW(s t:ba)(v:AV)(h:ay v=true):cH T false 65 [(0,.str s),(1,.str t),(2,v)]=some (.agg [.str s,.str t,v]):=by
 have hc:=kN h;show (rT _ _ [(0,.str s),(1,.str t),(2,v)]).map AV.agg=_;simp only[rT];have h2:=hc.2.2;have h3:=hc.2.1;cases v with
 |any=>cases h
 |agg _=>cases h
 |tup _=>cases h
 |_=>rfl
theorem zA(x:AV)(hx:dC x=some 3):aM T 32 1 [(0,x)]=some (.sl [x]):=by
 have h1:aM T 32 1 [(0,x)]=(mG 3 (List.replicate 1 (.agg [.str [],.str [],.sl []])) [(0,x)]).map .sl:=rfl
 grind [mG]
theorem Cg{p:List Mod}{nm:SNm}{n:Nat}(LB:LimB p)(IH:sJ p nm n)(a:Int)(f:Fun)(l:List Val)(m:Ms)(h0:0<=a)(ha:a<p.length)(hf:f∈(p[a.toNat]?.getD default).funcs)(hl:l.length=f.params.length)(hr:∀v∈l,Rv v)(G:GoodM p m)(hmu:mu m<1000000)(hn:m.fuel<=n):
  ∀ (m1:Ms) (h1:Hp),hG p nm m1 h1->m1= { m with calls:=if f.pub=true then m.calls++[⟨(p[a.toNat]?.getD default).name,f.name,l⟩]else m.calls } ->m.frames<60->
   kb p nm Val.av (((cP p n a (f.params.map (·.1)) l f.body).bind fun v=>.upd (fun m=>{ m with frames:=m.frames-1 }) (.ok v)) (qM p a f l m))
    (K84_0 (af pg) ak [.hp 0 0,.int .i64 a,vals l,.ip (aa f.av),.int .i64 0,.int .i64 0,.sl [],.sl []] h1):=by
 have hlt:a.toNat<p.length:=Z5
 have hmp:p[a.toNat]?.getD default∈p:=by rw[XW hlt];exact XU hlt
 obtain⟨hbody,hparams⟩:=LB.body _ hmp f hf;have hfb:=G.bud;have hfu:=G.fuel;have hfr:=G.fr;intro m1 h1 R1 e1 h60;have hB:cH T false 212 [(0,.int .i64 a)]=some (bG a [] []):=rfl;have hcell:=gh (pu a [] []);have hloop:=xd f a f.params l (.int .i64 0) (.int .i64 0) (.sl []) (.sl []) hparams hl f.params [] l [] rfl rfl rfl;have hw1:IntKind.i64.wrap (m.frames+1)=m.frames+1:=aW Z5 Z5;obtain⟨h2,R2,l2,s2⟩:=vg R1 (m.frames+1);have e2:{ m1 with frames:=m.frames+1 } = qM p a f l m:=by rw[e1];rfl
 have hm1f:m1.frames=m.frames:=by rw[e1]
 rw[e2]at R2;rw[hm1f]at l2;have hld:ax T 47 (.ip (ca f.params:: [.int .i64 f.result.kind,ca f.result.fields,.int .i64 f.effects,.int .i64 f.body.op,.int .i64 f.body.n,.str f.body.s,.str f.body.m,strs f.body.names,dn f.body.args]))=some (ca f.params):=rfl;have hex:ax T 121 (.ip [.int .i64 f.body.op,.int .i64 f.body.n,.str f.body.s,.str f.body.m,strs f.body.names,dn f.body.args])=some f.body.av:=by
  have:ax T 121 (.ip (aa f.body.av))=some f.body.av:=Z8
  rwa [cr]at this
 simp only[ZU,Yk]at hloop;have hz:((0:Nat):Int)=0:=rfl;rw[hz]at hloop;have hm2:(if f.pub=true then m.calls++[(⟨(p[a.toNat]?.getD default).name,f.name,l⟩:Ap.Call)]else m.calls).length<=m.calls.length+1:=by
  split
  ·simp
  ·omega
 have G2:GoodM p (qM p a f l m):=by
  refine⟨⟨G.right.1,fun c hc=>?_⟩,?_,Z7,hfu,G.shape⟩
  ·simp only[qM]at hc;split at hc
   ·rcases Yl.1 hc with k|k
    ·exact G.right.2 c k
    grind
   ·exact G.right.2 c hc
  ·grind [mu]
 simp only[K84_0,am,au,hB,ae,hcell,aj,aK,fH,kD,FA123_2,FA123_5,X3,X0,hld,mh]at hloop |-;rw[show strs []=strs []from rfl]at hloop;rw[hloop,FL84_0];simp only[L84_0,am,au,aB,ae,ai,Z4,Y4,XH,XO,aJ,FH166_3,XX,l2,bm,hw1,s2,FA123_5,X3,X0,hex,cd];have hns:((f.params.map (·.1)).length:Int)+(qM p a f l m).fuel<=549755813888:=by
  simp only[YM,qM];simp only[mu]at hfb;omega
 refine cK (IH a (f.params.map (·.1)) l f.body _ _ R2 G2 hn ⟨ha,⟨by simp[hl],hr⟩,hns⟩ hbody) fun v s h3 hv R3=>?_;obtain⟨G3,_,_⟩:=G2.eval ⟨by simp[hl],hr⟩ hv;obtain⟨h4,R4,l4,s4⟩:=vg R3 (s.frames-1);have hfr3:=G3.fr;have hw2:IntKind.i64.wrap (s.frames-1)=s.frames-1:=aW Z5 Z5;have hvl:ax T 30 (.ip (aa v.av))=some v.av:=Z8
 simp only[bc (d3 v),aj,aK,aJ,ae,FH166_3,XX,l4,fI,hw2,s4,hvl];have e9:_=Av.R.ok v.av h4:=rH v h4;rw[e9];exact⟨h4,rfl,R4⟩
def t84{p:List Mod}{nm:SNm}{n:Nat}(LB:LimB p)(IH:sJ p nm n):Dl p nm n:=by
 intro a f l m h h0 ha hf hl hr R G hmu hn;have hlt:a.toNat<p.length:=Z5
 have hmp:p[a.toNat]?.getD default∈p:=by rw[XW hlt];exact XU hlt
 obtain⟨hbody,hparams⟩:=LB.body _ hmp f hf;have hfb:=G.bud;have hfu:=G.fuel;have hfr:=G.fr;have tail:=Cg LB IH a f l m h0 ha hf hl hr G hmu hn;simp only[kD]at tail;obtain⟨tag,dv,cv,sv,R0⟩:=R;have l3:∀g:AV->M AV,ar (bg T 3 (.hp 0 3)) g h=g (.int .i64 m.frames) h:=fun g=>ap (bT rfl rfl R0.r0 rfl);have lc:∀g:AV->M AV,ar (bg T 32 (.hp 0 10)) g h=g cv h:=fun g=>ap (bT rfl rfl R0.r0 rfl);have lm:∀g:AV->M AV,ar (bg T 22 (.hp 0 0)) g h=g (mods p) h:=fun g=>ap (bT rfl rfl R0.r0 (by rw[<- sX (t:=nm.told) (fun e=>Z7)];rfl));generalize hcode:af pg 84 [.hp 0 0,.int .i64 a,f.av,vals l] h=code;rw[C84]at hcode;simp -implicitDefEqProofs only[S84,aJ,ae,FH166_3,XX,l3,aB,bq,uv]at hcode;by_cases h60:m.frames<60
 ·rw[qN,XK h60];have hd:decide (m.frames<60)=true:=by simpa using h60
  simp only[hd,dj,XS]at hcode;simp -implicitDefEqProofs only[kD,FA123_1,FA123_0,X3,X0,LD4,LD9,ae,ai]at hcode;by_cases hp:f.pub=true
  ·simp only[hp,XS]at hcode tail;have hi:=EI (l:=p) (n:=a) h0 ha;rw[XN p a.toNat hlt]at hi;have e3:p[a.toNat]?.getD default=p[a.toNat]:=by rw[XW hlt];rfl
   obtain⟨av,h1,tag1,c1,R1,A1,ok1⟩:=B9 R0 l Z5;obtain⟨cv',h2,h3,p1,p2,R3⟩:=FT R1 ⟨p[a.toNat].name,f.name,l⟩ av A1 ok1 (by simp only[mu]at hmu;omega);have hB:cH T false 65 [(0,.str p[a.toNat].name),(1,.str f.name),(2,av)]=some (.agg [.str p[a.toNat].name,.str f.name,av]):=BW _ _ _ ok1;have hBS:=zA (.agg [.str p[a.toNat].name,.str f.name,av]) rfl;have lc1:∀g:AV->M AV,ar (bg T 32 (.hp 0 10)) g h=g cv h:=lc;simp -implicitDefEqProofs only[lc,lm,hi,eY,FA53_0,FH166_0,FH166_4,FH34_3,X0,LD9,ae,XX,Nat.reduceAdd]at hcode;rw[ap c1]at hcode;simp only[hB,hBS,ae]at hcode
   grind [ap]
  ·simp only[hp,XH,XO]at hcode tail;rw[<- hcode];exact tail m h ⟨tag,dv,cv,sv,R0⟩ rfl h60
 ·rw[qN,XG h60];have hd:decide (m.frames<60)=false:=by simpa using h60
  simp only[hd,dj,XH,XO]at hcode;rw[<- hcode];exact⟨h,rfl,tag,dv,cv,sv,R0⟩
theorem xe{p:List Mod}{nm:SNm}{n:Nat}(IH:sJ p nm n)(IE:Dl p nm n)(own:Int)(ns:List ba)(vs:List Val)(at_:Int)(f:Fun)(es:List Exp)(x8 x9 x10 x11:AV)(ha:0<=at_)(hat:at_<p.length)(hf:f∈(p[at_.toNat]?.getD default).funcs)(hes:∀e∈es,bX e)(h8:es.length<=274877906944)(hlen:es.length=f.params.length):
  ∀(B A:List Exp)(acc:List Val)(m:Ms)(h:Hp),A++B=es->acc.length=A.length->(∀v∈acc,Rv v)->hG p nm m h->GoodM p m->mu m<1000000->m.fuel<=n->Sc p own ns vs m->
  kb p nm Val.av ((listX (cP p n own ns vs) B).bind (fun ws=>jM p (cP p n) at_ f (acc++ws)) m)
   (ak (L173_0 (af pg) ak) [.hp 0 0,.ip (aa (bG own ns vs)),.int .i64 at_,.ip (aa f.av),vals acc,dn es,.int .i64 es.length,.int .i64 A.length,x8,x9,x10,x11] h)
 |[],A,acc,m,h,e,hac,hr,R,G,hmu,hn,hs=>by
  simp only[X9]at e;subst e;have hfl:ax T 123 (.ip (aa f.av))=some f.av:=Z8
  have IE':=IE at_ f acc m h ha hat hf Z5 hr R G hmu hn;generalize hcode:ak (L173_0 (af pg) ak) [.hp 0 0,.ip (aa (bG own ns vs)),.int .i64 at_,.ip (aa f.av),vals acc,dn A,.int .i64 A.length,.int .i64 A.length,x8,x9,x10,x11] h=code;rw[FL173_0]at hcode;simp -implicitDefEqProofs only[L173_0,am,au,aB,ae,ai,Z4,Y4,XH,XO,hfl]at hcode;simp only[listX,qB,X9];rw[<- hcode];exact ez IE'
 | x:: B,A,acc,m,h,e,hac,hr,R,G,hmu,hn,hs=>by
  have hll:A.length+(B.length+1)=es.length:=by rw[<- e];simp
  have h1:(A.length:Int)<(es.length:Int):=Z5
  have hx:es[A.length]'(Z5)=x:=by subst e;simp
  have hm:x∈es:=by rw[<- e];simp
  have hi:=nf (l:=es) (n:=(A.length:Int)) Z5 h1;rw[show ((A.length:Int)).toNat=A.length by omega,XN es A.length Z5,hx]at hi;have hsc:ax T 212 (.ip (aa (bG own ns vs)))=some (bG own ns vs):=rfl;have hex:ax T 121 (.ip (aa x.av))=some x.av:=Z8
  have hw:IntKind.i64.wrap ((A.length:Int)+1)=((A.length+1:Nat):Int):=aR Z5;generalize hcode:ak (L173_0 (af pg) ak) [.hp 0 0,.ip (aa (bG own ns vs)),.int .i64 at_,.ip (aa f.av),vals acc,dn es,.int .i64 es.length,.int .i64 A.length,x8,x9,x10,x11] h=code;rw[FL173_0]at hcode;simp -implicitDefEqProofs only[L173_0,am,au,aB,ae,ai,h1,X8,XS,hi,hex,bc (qe x),aj,hsc]at hcode;have hex':ax T 121 (.ip (aa (.agg (aa x.av))))=some x.av:=hex;simp -implicitDefEqProofs only[hex',ae]at hcode;rw[<- hcode];simp only[listX,sI,qB];refine cK (IH own ns vs x m h R G hn hs (hes x hm)) fun v s h' hv Rs=>?_;obtain⟨G2,rv,f2⟩:=G.eval hs.right hv;obtain⟨t1,_⟩:=s9 n own ns vs x m v s G.fuel hv;have hb2:aM T 28 1 [(0,v.av)]=some (vals [v]):=by rw[v.av_eq];simp[vals,d5,v.av_eq];rfl
  have ha2:dH T 28 (vals acc) (vals [v])=some (vals (acc++[v])):=EH WD;have ih:=xe IH IE own ns vs at_ f es x8 x9 x10 x11 ha hat hf hes h8 hlen B (A++[x]) (acc++[v]) s h' Z7 (by simp[hac]) (fun w hw=>by
   grind) Rs G2 Z5 Z5 (hs.less f2)
  simp_all
def mo(f:Fun):ct 12 f.av=ao (.agg (aa f.av)):=bc (qf f)
theorem wF{p:List Mod}{nm:SNm}{n:Nat}(LB:LimB p)(IH:sJ p nm n)(own:Int)(ns:List ba)(vs:List Val)(e:Exp)(at_:Int)(hat:at_<p.length)(m:Ms)(h:Hp)(R:hG p nm m h)(G:GoodM p m)(hmu:mu m<1000000)(hn:m.fuel<=n)(hs:Sc p own ns vs m)(he:bX e)(y1 y2 y3 y4:AV):
  kb p nm Val.av ((match lS p at_ e.s with
   |none=>.er 12
   | some f=>if e.m=[]\/f.pub=true then
     (if e.args.length=f.params.length then(listX (cP p n own ns vs) e.args).bind fun l=>jM p (cP p n) at_ f l else .er 13)
    else .er 12:X Val) m)
   (K173_0 (af pg) ak [.hp 0 0,.ip (aa (bG own ns vs)),.ip (aa e.av),.int .i64 at_,y1,y2,y3,y4] h):=by
 have IE:=t84 LB IH;obtain⟨l1,l2⟩:=mF he;have hfn:=t80 R LB.lim at_ hat e.s;generalize hcode:K173_0 (af pg) ak [.hp 0 0,.ip (aa (bG own ns vs)),.ip (aa e.av),.int .i64 at_,y1,y2,y3,y4] h=code;simp -implicitDefEqProofs only[K173_0,am,au,cr,FA121_2,FA121_3,FA121_5,X3,X0,LD9,LD48,oV,ae]at hcode;rw[ap hfn]at hcode;cases hf:lS p at_ e.s with
 |none=>
  rw[hf]at hcode;simp -implicitDefEqProofs only[Cu,eN,List.getElem?_cons_zero,Yv,ae,mo,aj,wY,List.replicate,am,uh,bD,bq,dj,XH,XO]at hcode;rw[<- hcode];exact gw R
 | some f=>
  rw[hf]at hcode;obtain⟨f1,f2,f3⟩:=pk hf;have hmp:p[at_.toNat]?.getD default∈p:=by rw[XW f2];exact XU f2
  obtain⟨_,hparams⟩:=LB.body _ hmp f f3;have hac:∀f:Fun,aa (.agg (aa f.av))=aa f.av:=fun _=>rfl;simp -implicitDefEqProofs only[Cu,eN,List.getElem?_cons_zero,Yv,ae,mo,aj,aS,yU,am,hac]at hcode;have hpub:ax T 4 (.ip (List.drop 1 (aa f.av)))=some (.bool f.pub):=Z8
  have hpar:ax T 47 (.ip (List.drop 2 (aa f.av)))=some (ca f.params):=Z8
  have hgu:aO (.bool (e.m== [])) false 1 (ao [.bool f.pub])=ao [gv (e.m== []) false (.bool f.pub)]:=aE _ _ _;have hpk:gx (.bool (e.m== [])) (.bool true) (gv (e.m== []) false (.bool f.pub))=some (.bool ((e.m== [])||f.pub)):=eD _ _;simp -implicitDefEqProofs only[FA123_1,FA123_2,hpub,hpar,ae,hgu,aj,am,hpk,bC,bq,mh,aI]at hcode;by_cases h1:e.m=[]\/f.pub=true
  ·have h1':(e.m== []||f.pub)=true:=by
    simp only[Yy,Yt];exact h1
   simp only[h1',dj,XS]at hcode;simp only[XK h1];by_cases h2:e.args.length=f.params.length
   ·have h2':((e.args.length:Int)== (f.params.length:Int))=true:=by simp[h2]
    simp only[h2',XS]at hcode;simp only[XK h2];rw[<- hcode]
    have:=xe IH IE own ns vs at_ f e.args y1 y2 y3 y4 Z5 hat f3 (fun x hx=>bB he hx) Z5 h2 e.args [] [] m h rfl rfl (fun v hv=>by cases hv) R G hmu hn hs
    simp only[Ye]at this;exact this
   ·have h2':((e.args.length:Int)== (f.params.length:Int))=false:=by
     rw[Zc];omega
    simp only[h2',XH,XO]at hcode;simp only[XG h2];rw[<- hcode];exact gw R
  ·have h1':(e.m== []||f.pub)=false:=by
    rw[<- ZV];simp only[Yy,Yt];exact h1
   simp only[h1',dj,XH,XO]at hcode;simp only[XG h1];rw[<- hcode];exact gw R
theorem t173{p:List Mod}{nm:SNm}{n:Nat}(LB:LimB p)(IH:sJ p nm n):Gn p nm n:=by
 intro own ns vs e m h R G hmu hn hs he;unfold tw;have hown:ax T 3 (.ip [.int .i64 own,strs ns,vals vs])=some (.int .i64 own):=rfl;have hmd:=t79 R LB.lim e.m;generalize hcode:af pg 173 [.hp 0 0,bG own ns vs,e.av] h=code;rw[C173]at hcode;simp -implicitDefEqProofs only[S173,fH,cr,FA212_0,FA121_3,X3,X0,hown,LD9,ae,uv,ou,ai]at hcode;by_cases h0:e.m=[]
 ·have h0':(!(e.m== []))=false:=by simp[h0]
  simp only[h0',XH,XO]at hcode;simp only[XK h0];rw[<- hcode]
  have:=wF LB IH own ns vs e own hs.own m h R G hmu hn hs he (.int .i64 0) (.int .i64 0) (.sl []) (.sl [])
  simp only[fH,cr]at this;exact this
 ·have h0':(!(e.m== []))=true:=by simp[h0]
  simp only[h0',XS]at hcode;rw[ap hmd]at hcode;simp only[XG h0];rw[<- hcode];have hlt:dI p e.m<p.length:=by
   rcases pW (fun(x:Mod)=>x.name== e.m) p 0 with k|k
   ·show bb _ p 0<_;rw[k];omega
   ·show bb _ p 0<_;omega
  have:=wF LB IH own ns vs e (dI p e.m) hlt m h R G hmu hn hs he (.int .i64 0) (.int .i64 0) (.sl []) (.sl [])
  simp only[fH,cr]at this;exact this
def WC{t e:Nat}{ti ei:TI}(ht:T t=some ti)(hk:ti.kind= .slice e)(he:T e=some ei){l off len sz:Nat}{ag:Bool}{n:Int}(h0:0<=n)(h1:n<len):aA T t (.hs l off len sz ag) (.int .i64 n)=some (.hp l (off+n.toNat*ei.size)):=by
 simp[aA,ht,hk,he,h0,h1]
def FU{p:List Mod}{nm:SNm}{tag:Nat->Nat}{dv cv sv:AV}{m:Ms}{h:Hp}(R:RepT (rowP p nm.told) nm tag dv cv sv m h)(d:Deed)(hb:m.deeds.length<=2000000):
  ∃dv' h1 h2,appH T 31 false dv (.sl [d.av]) h= .ok dv' h1/\bN T 31 (.hp 0 9) dv' h1= .ok (.tup []) h2/\hG p nm { m with deeds:=m.deeds++[d] } h2:=by
 obtain⟨h1,dv',tag',e1,K,H,hc⟩:=A3 (T:=T) (t:=31) rfl rfl rfl rfl Z6 rfl Z6 (x:=d.av) R.ds (fun h0=>by
  have:m.deeds=[]:=XV h0;rw[this];rfl) (fun cs h=>by rw[h];exact yg _) (FP d) (show (m.deeds.length+1)*24<=140737488355328 by omega)
 have h0:=(K 0 _ R.r0 (by rw[R.t0];decide)).1;refine⟨dv',h1,_,e1,bU rfl h0 (kN hc).1 (show 9+1<=12 by decide) Z6,?_⟩;have hac:aa dv'=[dv']:=(kN hc).2.1
 have:=R.pushDeed (m':={ m with deeds:=m.deeds++[d] }) K H rfl rfl rfl id
 refine⟨tag',dv',cv,sv,?_⟩;rw[hac];exact this
theorem zk{p:List Mod}{nm:SNm}{m:Ms}{h:Hp}(R:hG p nm m h)(hb:m.deeds.length<=2000000)(e:Exp)(v:Val)(n:Int)(x1 x2 x3 x4:AV):
  kb p nm Val.av (X.ok (cg n) { m with deeds:=m.deeds++[⟨e.n,v.n,n⟩] }) (K174_0 (af pg) ak [.hp 0 0,.ip (aa e.av),.ip (aa v.av),.int .i64 n,x1,x2,x3,x4] h):=by
 obtain⟨tag,dv,cv,sv,R0⟩:=R;obtain⟨dv',h1,h2,e1,e2,R2⟩:=FU R0 ⟨e.n,v.n,n⟩ hb;have hB:cH T false 102 [(0,.int .i64 e.n),(1,.int .i64 v.n),(2,.int .i64 n)]=some (Deed.av ⟨e.n,v.n,n⟩):=rfl;have hBS:aM T 31 1 [(0,Deed.av ⟨e.n,v.n,n⟩)]=some (.sl [Deed.av ⟨e.n,v.n,n⟩]):=rfl;have ld:∀g:AV->M AV,ar (bg T 31 (.hp 0 9)) g h=g dv h:=fun g=>ap (bT rfl rfl R0.r0 rfl);generalize hcode:K174_0 (af pg) ak [.hp 0 0,.ip (aa e.av),.ip (aa v.av),.int .i64 n,x1,x2,x3,x4] h=code;simp -implicitDefEqProofs only[K174_0,am,au,aJ,ae,FH166_4,FH34_2,XX,Nat.reduceAdd,ld,cr,FA121_1,X3,X0,LD3,bQ,FA30_1,hB,hBS]at hcode;rw[ap e1]at hcode;rw[ap e2]at hcode;simp -implicitDefEqProofs only[t168,aj]at hcode;rw[rH]at hcode;rw[<- hcode];exact eW R2
def F0{p:List Mod}{nm:SNm}{m:Ms}{h:Hp}(R:hG p nm m h)(w:List Int)(hw0:m.world=[]->w=[]):∃h1,(m.world≠[]->hG p nm { m with world:=w } h1)/\(∀f:AV->M AV,ar (bg T 25 (.hp 0 1)) f h=f (Gj nm.told m.world) h)/\
  (m.world≠[]->∀f:AV->M AV,ar (bN T 25 (.hp 0 1) (ints w)) f h=f (.tup []) h1):=by
 obtain⟨tag,dv,cv,sv,R⟩:=R;refine⟨h.set 0 (setCells (rowP p nm.told m dv cv sv) 1 (aa (ints w))),fun hne=>⟨tag,dv,cv,sv,?_⟩,fun f=>ap (bT rfl rfl R.r0 rfl),fun _ f=>ap (bU rfl R.r0 rfl (show 1+1<=12 by decide) Z6)⟩;have ht:nm.told=false:=by
  cases ht:nm.told with
  |false=>rfl
  |true=>exact absurd (R.wok ht) hne
 have e:setCells (rowP p nm.told m dv cv sv) 1 (aa (ints w))=rowP p nm.told { m with world:=w } dv cv sv:=by
  simp only[ht];rfl
 rw[e];exact R.set0 rfl rfl rfl hw0
theorem t174{p:List Mod}{nm:SNm}{n:Nat}(LB:LimB p)(IH:sJ p nm n):Dm p nm n:=by
 intro own ns vs e m h hop hcn R G hmu hn hs he;obtain⟨l1,l2⟩:=mF he;have hscl:ax T 212 (.ip [.int .i64 own,strs ns,vals vs])=some (bG own ns vs):=rfl;have hown:ax T 3 (.ip [.int .i64 own,strs ns,vals vs])=some (.int .i64 own):=rfl;generalize hcode:af pg 174 [.hp 0 0,bG own ns vs,e.av] h=code;rw[C174]at hcode;obtain⟨op,en,es,em,en2,ea⟩:=e;simp only[qk]at hop;unfold rI at hcn;simp only[qk,kZ]at hcn;have hlen:op=16\/op=18->∃a,ea=[a]:=by
  intro h;apply Oe;rcases h with rfl|rfl
  ·simp[bO]at hcn;omega
  ·simp[bO]at hcn;omega
 by_cases h16:op=16
 ·obtain⟨a,rfl⟩:=hlen (.inl h16);subst h16;have ha:bX a:=bB he Z8;simp -implicitDefEqProofs only[S174,fH,cr,qk,CN,Iz,Kh,jx,kZ,FA121_0,FA121_1,FA121_5,X3,X0,LD3,LD48,ae,aI,Yf,ai,XS,hscl,RZ]at hcode;have hex:ax T 121 (.ip [.int .i64 a.op,.int .i64 a.n,.str a.s,.str a.m,strs a.names,dn a.args])=some a.av:=by
   have:ax T 121 (.ip (aa a.av))=some a.av:=Z8
   rwa [cr]at this
  simp -implicitDefEqProofs only[hex,ae]at hcode;rw[<- hcode];simp only[vF,qk,XS,BG];have e0:([a]:List Exp)[0]! = a:=rfl;simp only[kZ,e0];refine cK (IH own ns vs a _ _ R G hn hs ha) fun v s1 h2 hv R2=>?_;obtain⟨G2,rv,f2⟩:=G.eval hs.right hv;generalize hcode2:ar (ct 4 v.av) _ h2=code2;simp -implicitDefEqProofs only[bc (d3 v),aj,aK,bQ,FA30_0,X0,LD3,ae,aI,bq,aE,am,eD]at hcode2;by_cases hk:v.kind=0
  ·have hk':(v.kind== 0)=true:=by simp[hk]
   simp only[hk',dj,XS]at hcode2;simp only[XK hk];by_cases hn4':(Exp.mk 16 en es em en2 [a]).n=1\/(Exp.mk 16 en es em en2 [a]).n=2\/(Exp.mk 16 en es em en2 [a]).n=4\/(Exp.mk 16 en es em en2 [a]).n=8
   ·have hn4:en=1\/en=2\/en=4\/en=8:=hn4';have hn':(en== 1||en== 2||en== 4||en== 8)=true:=by
     simp only[Yy,Yt];omega
    simp only[hn',XS]at hcode2;simp only[XK hn4'];obtain⟨h3,R3,lw,sw⟩:=F0 R2 s1.world.tail (fun h=>by rw[h];rfl);have hmu2:=(s9 n own ns vs a m v s1 G.fuel hv).1;have hdl:s1.deeds.length<=2000000:=by
     have:=G2.fuel
     simp only[mu]at hmu2 hmu;omega
    show kb p nm Val.av (X.ok (cg (s1.world.headD 0)) { s1 with world:=s1.world.tail,deeds:=s1.deeds++[⟨en,v.n,s1.world.headD 0⟩] }) code2;have lenw:bu T 25 (Gj nm.told s1.world)=some (.int .i64 s1.world.length):=by
     unfold Gj;split
     ·rename_i ht;obtain⟨_,_,_,_,R2'⟩:=R2;rw[R2'.wok ht];rfl
     ·exact nh _
    simp -implicitDefEqProofs only[uv,aJ,ae,FH166_1,XX,lw,lenw,ae,dO,ai]at hcode2;cases hwd:s1.world with
    |nil=>
     rw[hwd]at hcode2;simp only[Yk,show decide ((0:Int)<((0:Nat):Int))=false by decide,XH,XO]at hcode2
     have:=zk R2 hdl (.mk 16 en es em en2 [a]) v 0 (.int .i64 0) (.int .i64 0) (.sl []) (.sl [])
     simp_all
    | cons x wl=>
     have hd:decide ((0:Int)<(((x:: wl).length:Nat):Int))=true:=by simp<;>omega
     have hne:s1.world≠[]:=by rw[hwd];simp
     have sw:=sw hne;have R3:=R3 hne;have hwv:Gj nm.told s1.world=ints s1.world:=by
      unfold Gj;rw[XG];intro ht;obtain⟨_,_,_,_,R2'⟩:=R2;exact hne (R2'.wok ht)
     rw[hwv]at lw;rw[hwd]at hcode2 sw R3 lw;have hix:aA T 25 (ints (x:: wl)) (.int .i64 0)=some (.ip [.int .i64 x]):=by
      have:=Jj (l:=x:: wl) (n:=0) Z5 (by simp<;>omega)
      simpa using this
     have hsl:dc T 25 (ints (x:: wl)) (some (.int .i64 1)) none none=some (ints wl):=by
      have:=Go.Av.ot (T:=T) (t:=25) (e:=3) rfl rfl rfl ((x:: wl).map (AV.int .i64)) (by exact rk _) (n:=1) Z5 (by simp<;>omega)
      simpa [ints]using this
     simp only[List.tail_cons]at sw R3;simp -implicitDefEqProofs only[hd,XS,lw,hix,ae,LD3,hsl,sw]at hcode2
     have:=zk R3 hdl (.mk 16 en es em en2 [a]) v x (.int .i64 0) (.int .i64 0) (.sl []) (.sl [])
     simp_all
   ·have hn4:¬(en=1\/en=2\/en=4\/en=8):=hn4';have hn':(en== 1||en== 2||en== 4||en== 8)=false:=by
     rw[<- ZV];simp only[Yy,Yt];omega
    simp only[hn',XH,XO]at hcode2;simp only[XG hn4'];rw[<- hcode2];exact gw R2
  ·have hk':(v.kind== 0)=false:=by simpa using hk
   simp only[hk',dj,XH,XO]at hcode2;simp only[XG hk];rw[<- hcode2];exact gw R2
 have h16':((op:Int)== 16)=false:=by simpa using h16
 have h16x:¬((Exp.mk op en es em en2 ea).op=16):=h16;unfold vF;simp only[XG h16x];unfold Dj;simp -implicitDefEqProofs only[S174,fH,cr,qk,CN,Iz,Kh,jx,kZ,FA212_0,FA121_0,FA121_1,FA121_2,FA121_5,X3,X0,LD3,LD48,ae,aI,h16',XH,ai,XO,hown,hscl,jm,bq,uv]at hcode;by_cases ho:own<0
 ·have ho':decide (0<=own)=false:=by simp;omega
  simp only[ho',dj,XH,XO]at hcode;simp only[XK ho];rw[<- hcode];exact gw R
 have ho':decide (0<=own)=true:=by simp;omega
 simp only[ho',dj,XS]at hcode;simp only[XG ho];have hol:=hs.own;have hlt:own.toNat<p.length:=Z5
 have hix:=EI (l:=p) (n:=own) Z5 hol;rw[XN p own.toNat hlt]at hix;have e3:p[own.toNat]?.getD default=p[own.toNat]:=by rw[XW hlt];rfl
 have hvl:=(LB.lim.funcsAt own.toNat).2;rw[e3]at hvl |-;have hff:=Tg p[own.toNat].vars hvl (.mk op en es em en2 ea);simp only[cr,qk,CN,Iz,Kh,jx,kZ]at hff;have Rk:=R;obtain⟨tag,dv,cv,sv,R0⟩:=R;have lm:∀g:AV->M AV,ar (bg T 22 (.hp 0 0)) g h=g (mods p) h:=fun g=>ap (bT rfl rfl R0.r0 (by rw[<- sX (t:=nm.told) (fun e=>Z7)];rfl));have lsv:∀g:AV->M AV,ar (bg T 23 (.hp 0 11)) g h=g nm.sv h:=fun g=>ap (bT rfl rfl R0.r0 (by rw[<- R0.sve];rfl));simp -implicitDefEqProofs only[aJ,ae,FH166_0,FH166_4,FH34_4,XX,Nat.reduceAdd,lm,hix,eY,FA53_2,X3,X0,LD47,hff,da,aj,jm,bq]at hcode;by_cases hi:lQ p[own.toNat].vars (Exp.mk op en es em en2 ea).s<0
 ·have hi':decide (0<=lQ p[own.toNat].vars es)=false:=by
   have:lQ p[own.toNat].vars es<0:=hi;simp;omega
  simp only[hi',dj,XH,XO]at hcode;simp only[XK hi];rw[<- hcode];exact gw Rk
 have hi0:0<=lQ p[own.toNat].vars es:=by
  have:¬lQ p[own.toNat].vars es<0:=hi;omega
 have hi':decide (0<=lQ p[own.toNat].vars es)=true:=by simp;omega
 simp only[hi',dj,XS,lsv]at hcode;simp only[XG hi];have hil:lQ p[own.toNat].vars es<p[own.toNat].vars.length:=by
  rcases pW (fun(x:fu)=>x.1== es) p[own.toNat].vars 0 with k|k
  ·grind [lQ]
  ·have:lQ p[own.toNat].vars es=bb (fun(x:fu)=>x.1== es) p[own.toNat].vars 0:=rfl;omega
 obtain⟨l,hl1,hl2⟩:=G.shape own.toNat _ (XW hlt);have hne:l≠[]:=fun e=>Z7
 have hsl:own.toNat<m.state.length:=(XQ.1 hl1).1;obtain⟨q,r,v1,v2,v3,v4,v5,v6⟩:=R0.var (fun _=>rfl) hl1 hne;have hx1:aA T 23 nm.sv (.int .i64 own)=some (.hp q (own.toNat*2)):=by
  rw[v1]
  have:=WC (t:=23) rfl rfl rfl (l:=q) (off:=0) (len:=m.state.length) (sz:=2) (ag:=true) (n:=own) Z5 Z5
  rw[this];simp
 have lv:∀g:AV->M AV,ar (bg T 28 (.hp q (own.toNat*2+1))) g h=g (.hs r 0 l.length 4 true) h:=fun g=>ap (bT rfl rfl v2 v3);simp -implicitDefEqProofs only[hx1,ae,FH58_1,lv]at hcode;generalize hI:lQ p[own.toNat].vars es=I at *;have hI2:lQ p[own.toNat].vars (Exp.mk op en es em en2 ea).s=I:=hI;rw[hI2];have hx2:aA T 28 (.hs r 0 l.length 4 true) (.int .i64 I)=some (.hp r (I.toNat*4)):=by
  have:=WC (t:=28) rfl rfl rfl (l:=r) (off:=0) (len:=l.length) (sz:=4) (ag:=true) (n:=I) Z5 Z5
  rw[this];simp
 have hk:I.toNat<l.length:=Z5
 by_cases h18:op=18
 ·have h18x:(Exp.mk op en es em en2 ea).op=18:=h18;simp only[XK h18x];obtain⟨a,rfl⟩:=hlen (.inr h18);have ha:bX a:=bB he Z8;have hb18:(op== 18)=true:=by simp[h18]
  have hex:ax T 121 (.ip (aa a.av))=some a.av:=Z8
  have e0:(Exp.mk op en es em en2 [a]).args[0]! = a:=rfl;simp -implicitDefEqProofs only[hb18,XS,RZ,ae,hex]at hcode;rw[<- hcode,e0];refine cK (IH own ns vs a _ _ Rk G hn hs ha) fun v s1 h2 hv R2=>?_;obtain⟨G2,rv,f2⟩:=G.eval hs.right hv;obtain⟨tag2,dv2,cv2,sv2,R20⟩:=R2;obtain⟨l',hl1',hl2'⟩:=G2.shape own.toNat _ (XW hlt);have hne':l'≠[]:=fun e=>Z7
  obtain⟨q',r',w1,w2,w3,w4,w5,w6⟩:=R20.var (fun _=>rfl) hl1' hne';have hll:l'.length=l.length:=Z5
  have hrr:r'=r:=by
   rw[v3]at w3;simp only[XF,AV.hs.injEq]at w3;exact w3.1.symm
  subst hrr;have hst:bN T 30 (.hp r' (I.toNat*4)) v.av h2= .ok (.tup []) (h2.set r' (aw (l'.set I.toNat v))):=by
   have:=bU (T:=T) (t:=30) rfl w5 (v:=v.av) (k:=I.toNat*4) (d3 v) (by grind [aZ]) Z6
   rw[this,kw Z5]
  have R3:=w6 I.toNat v Z5;have hset:((s1.state[own.toNat]?.getD []).set I.toNat v)=l'.set I.toNat v:=by rw[hl1'];rfl
  have hld2:bg T 30 (.hp r' (I.toNat*4)) (h2.set r' (aw (l'.set I.toNat v)))= .ok v.av (h2.set r' (aw (l'.set I.toNat v))):=by
   have hlt2:r'<h2.length:=(XQ.1 w5).1
   have:=lW (T:=T) (t:=30) rfl rfl (h:=h2.set r' (aw (l'.set I.toNat v))) (l:=r') (k:=I.toNat*4) (Yg hlt2) (by grind [aZ])
   rw[this];have hg:=iO (l:=l'.set I.toNat v) (k:=I.toNat) WD;show Av.R.ok (AV.agg (((aw (l'.set I.toNat v)).drop (I.toNat*4)).take 4)) _=_;rw[hg,List.getElem_set_self];rw[Val.av_eq];rfl
  generalize hcode2:ar (bS (aA T 28 (.hs r' 0 l.length 4 true) (.int .i64 I))) _ h2=code2;simp -implicitDefEqProofs only[hx2,ae]at hcode2;rw[ap hst]at hcode2;simp -implicitDefEqProofs only[K174_1,am,au,hx2,ae]at hcode2;rw[ap hld2,rH]at hcode2;rw[<- hcode2];exact⟨_,rfl,tag2,dv2,cv2,sv2,R3⟩
 ·have h18x:¬((Exp.mk op en es em en2 ea).op=18):=h18;have hb18:(op== 18)=false:=by simpa using h18
  have hld2:bg T 30 (.hp r (I.toNat*4)) h= .ok (l[I.toNat]).av h:=by
   have:=lW (T:=T) (t:=30) rfl rfl (h:=h) (l:=r) (k:=I.toNat*4) v5 (by grind [aZ])
   rw[this];have hg:=iO (l:=l) (k:=I.toNat) hk;show Av.R.ok (AV.agg (((aw l).drop (I.toNat*4)).take 4)) _=_;rw[hg,Val.av_eq];rfl
  simp only[XG h18x];simp -implicitDefEqProofs only[hb18,XH,XO,K174_1,am,au,hx2,ae]at hcode;rw[ap hld2,rH]at hcode;rw[<- hcode];have hgs:uf m.state own.toNat I.toNat=l[I.toNat]:=by
   simp[uf,YB,hl1,hk]
  show kb p nm Val.av (X.ok (uf m.state own.toNat I.toNat) m) _;rw[hgs];exact eW Rk
theorem Rc{p:List Mod}{nm:SNm}(LB:LimB p):∀n,sJ p nm n
 |0=>fun own ns vs e m h R G hn hs he=>⟨h,G5 R Z5 _ e,R⟩
 |n+1=>by
  have IH:=Rc (nm:=nm) LB n
  grind [Fh,t172,t173,t174]
def D8{m:M AV}{r:AV}{h':Hp}(h1:m []= .ok r h')(h2:∀g,cl g r=r):bj m=ao r:=by
 funext h
 grind [bj,ao,frz]
def Xi(v:Val):ax T 30 (.ip (aa v.av))=some v.av:=Z8
def t131(v:Val)(hv:v.sz<=4611686018427387904):af pg 131 [v.av]=ao (.bool !cQ 4 v):=by
 rw[C131];simp only[S131,yb,Xi,ae,t76 v hv,aj,aT];simp_all
def Jn(k:Nat)(hk:∀v:Val,v.sz<=4611686018427387904->af pg k [v.av]=ao (.bool !cQ 4 v))(l:List Val)(hl:de l<=4611686018427387904):af pg 74 [vals l,.fn (.func k) [] []]=ao (.bool !(l.all (cQ 4))):=by
 have:=t74 (.fn (.func k) [] []) (fun v=>!cQ 4 v) l (X4 (pF l) hl) (fun g=>rfl) (fun v hv=>hk v (X4 (kT hv) hl))
 grind
def t82(f:AV)(h:Hp):af pg 82 [f] h=Bu 26 .i64 (.agg [.int .i64 0,.int .i64 0,.sl [],.sl []]) (cV (af pg) f [] h):=by
 have e:af pg 82 [f]=Bt 26 .i64 (.agg [.int .i64 0,.int .i64 0,.sl [],.sl []]) (af pg) [f]:=d7 hJ rfl _;rw[e];rfl
def WK:SNm:=⟨[],.hn,[],true⟩
def HK:LimB []:=⟨⟨Z8,fun m hm=>by cases hm⟩,fun m hm=>by cases hm⟩
def KG:hG [] WK (fQ [] 100000 []) [[.hn,.hn,.int .i64 100000,.int .i64 0,.int .i64 0,.int .i64 0,.int .i64 0,.hn,.hn,.hn,.hn,.hn]]:=
 ⟨fun _=>0,.hn,.hn,.hn,rfl,rfl,.inl ⟨rfl,rfl⟩,.inl ⟨rfl,rfl⟩,.inl ⟨rfl,rfl⟩,rfl,fun _=>rfl⟩
def Hu:GoodM [] (fQ [] 100000 []):=⟨⟨fun l hl=>by simp[fQ]at hl,fun c hc=>by simp[fQ]at hc⟩,by simp[mu,fQ],by simp[fQ],by simp[fQ],fun i x hx=>by simp at hx⟩
def nN:Rs Val->AV
 |.ok v _=>.tup [v.av,.int .i64 0]
 |.er e _=>.tup [Val.av default,.int .i64 e]
def ya(g)(v:Val)(e:Int):cl g (.tup [v.av,.int .i64 e])= .tup [v.av,.int .i64 e]:=by simp[cl,fk]
theorem t73(e:Exp)(ns:List ba)(vs:List Val)(he:bX e)(hn:ns.length<=274877906944)(hv:de vs<=4611686018427387904):af pg 73 [e.av,strs ns,vals vs]=ao (nN (yl e ns vs)):=by
 have ha:=Jn 131 t131 vs hv;have hl1:ax T 27 (.ip (aa (strs ns)))=some (strs ns):=rfl;have hl2:ax T 28 (.ip (aa (vals vs)))=some (vals vs):=rfl;have hB:cH T true 166 [(2,.int .i64 100000)]=some (.agg [.hn,.hn,.int .i64 100000,.int .i64 0,.int .i64 0,.int .i64 0,.int .i64 0,.hn,.hn,.hn,.hn,.hn]):=rfl;have hZ:cH T false 30 []=some (Val.av default):=rfl;have hcl:∀h:AV->M AV,ar (newH [.hn,.hn,.int .i64 100000,.int .i64 0,.int .i64 0,.int .i64 0,.int .i64 0,.hn,.hn,.hn,.hn,.hn]) h []=h (.hp 0 0) [[.hn,.hn,.int .i64 100000,.int .i64 0,.int .i64 0,.int .i64 0,.int .i64 0,.hn,.hn,.hn,.hn,.hn]]:=fun h=>rfl;rw[C73,my,ke,tz];unfold yl;by_cases hr:ns.length=vs.length/\vs.all (cQ 4)=true
 ·rw[XK hr];have hne:((ns.length:Int) != (vs.length:Int))=false:=by simp[hr.1]
  have hrs:nj ns vs:=⟨hr.1,fun v hv=>(XY.1 hr.2) v hv⟩;have hev:=Rc (nm:=WK) HK 100000 (-1) ns vs e _ _ KG Hu (by simp[fQ]) ⟨Z8,hrs,by simp only[fQ];omega⟩ he;have hcell:ct 1 (.hp 0 0)=ao (.agg [.hp 0 0]):=rfl;have hBS:cH T false 212 [(0,.int .i64 (-1)),(1,strs ns),(2,vals vs)]=some (bG (-1) ns vs):=rfl;have hlp:ax T 164 (.ip [.hp 0 0])=some (.hp 0 0):=rfl;have hex:ax T 121 (.ip (aa e.av))=some e.av:=Z8
  have hcall:∀h,af pg 132 [.ip [.hp 0 0],.ip (aa (strs ns)),.ip (aa (vals vs)),.ip (aa e.av)] h=ar (af pg 133 [.hp 0 0,bG (-1) ns vs,e.av]) (fun v=>ar (bH 4 [] v) fun w=>ao (AV.agg [ab (aa w) 0,ab (aa w) 1,ab (aa w) 2,ab (aa w) 3])) h:=fun h=>by
   simp_all[C132,S132]
  have hS:S73 (af pg) ak e.av (strs ns) (vals vs) []= .ok (nN (cP [] 100000 (-1) ns vs e (fQ [] 100000 []))) []\/∃h',S73 (af pg) ak e.av (strs ns) (vals vs) []= .ok (nN (cP [] 100000 (-1) ns vs e (fQ [] 100000 []))) h':=by
   right;simp -implicitDefEqProofs only[S73,hl1,hl2,ae,g9,qE,gC,hne,aS,ha,aj,aT,hr.2,XZ,am,bD,ai,XH,XO,hB,aK,hcl,hcell];have htry:=t82 (.fn (.func 132) [] [.ip [.hp 0 0],.ip (aa (strs ns)),.ip (aa (vals vs)),.ip (aa e.av)]) [[.hn,.hn,.int .i64 100000,.int .i64 0,.int .i64 0,.int .i64 0,.int .i64 0,.hn,.hn,.hn,.hn,.hn]];have hcv:cV (af pg) (.fn (.func 132) [] [.ip [.hp 0 0],.ip (aa (strs ns)),.ip (aa (vals vs)),.ip (aa e.av)]) []=af pg 132 [.ip [.hp 0 0],.ip (aa (strs ns)),.ip (aa (vals vs)),.ip (aa e.av)]:=rfl;rw[hcv,hcall]at htry;have how:=ez hev;generalize cP [] 100000 (-1) ns vs e (fQ [] 100000 [])=r at how |-;cases r with
   |ok v s=>
    obtain⟨h',e1,_⟩:=how;refine⟨h',?_⟩;rw[e1]at htry;simp only[Bu,d3,XL]at htry;rw[ap htry];simp[nN,ao]
   |er c s=>
    obtain⟨h',e1,_⟩:=how;refine⟨h',?_⟩;rw[e1]at htry;have ht:Bu 26 .i64 (.agg [.int .i64 0,.int .i64 0,.sl [],.sl []]) (.pan (pL c) h')= .ok (.tup [Val.av default,.int .i64 c]) h':=rfl;rw[ht]at htry;rw[ap htry];simp[nN,ao]
  rcases hS with h|⟨h',h⟩
  ·exact D8 h fun g=>by cases cP [] 100000 (-1) ns vs e (fQ [] 100000 [])<;>exact ya g _ _
  ·exact D8 h fun g=>by cases cP [] 100000 (-1) ns vs e (fQ [] 100000 [])<;>exact ya g _ _
 ·rw[XG hr];have hb:((ns.length:Int) != (vs.length:Int)||!(vs.all (cQ 4)))=true:=by
   by_cases h1:ns.length=vs.length
   ·grind
   ·grind
  have hgu:aO (.bool ((ns.length:Int) != (vs.length:Int))) false 1 (ao [.bool !(vs.all (cQ 4))])=ao [gv ((ns.length:Int) != (vs.length:Int)) false (.bool !(vs.all (cQ 4)))]:=aE _ _ _;have hS:S73 (af pg) ak e.av (strs ns) (vals vs)=ao (.tup [Val.av default,.int .i64 1]):=by
   simp -implicitDefEqProofs only[S73,hl1,hl2,ae,g9,qE,gC,ha,aj,aT,hgu,am,eD,hb,ai,XS,hZ];simp
  rw[hS];exact dB fun g=>ya g _ _
end Go.Proofs.YtbndmpiddinalacGreatDoor
