/- What the functions compute, part 11. Conditions: bounds. -/
import Derived.Test.YtkidiopjcgeifaaGreatTj
import Derived.Lib.SmallJoins
set_option linter.defProp false
set_option linter.unusedSimpArgs false
set_option linter.unusedVariables false
namespace Go.Proofs.YtkidiopjcgeifaaGreat
open Go Go.Av Go.Av.Ap
set_option maxRecDepth 100000
def L9{e x:Exp}(h:x∈e.args):SizeOf.sizeOf x<SizeOf.sizeOf e:=by
 cases e with
 |mk o n s m ns es=>
  have:=ad3 h
  simp only[Exp.mk.sizeOf_spec];show SizeOf.sizeOf x<1+SizeOf.sizeOf o+SizeOf.sizeOf n+SizeOf.sizeOf s+SizeOf.sizeOf m+SizeOf.sizeOf ns+SizeOf.sizeOf es;have h2:SizeOf.sizeOf x<SizeOf.sizeOf es:=this;omega
def Qp{σ:Type}{H:σ->Hp}{st:σ->Exp->σ}{g:AV}{l:List Exp}(hl:l.length<=140737488355328)(ih:∀x∈l,∀s,aa pg 167 [x.av,g] (H s)= .ok (.tup []) (H ((je x).foldl st s))):
  ∀(n:Nat) (i:Int) s,l.length-i.toNat=n->0<=i->i<=l.length->ae (L167_0 (aa pg) ae) [g,bg l,qi l.length,qi i] (H s)= .ok (.tup []) (H (((l.drop i.toNat).flatMap je).foldl st s)):=by
 intro n
 induction n with
 |zero=>
  intro i s hn hi hb;rw[FL167_0];simp only[L167_0];have h1:¬(i<(l.length:Int)):=WD
  have h2:l.drop i.toNat=[]:=List.drop_eq_nil_of_le WD;simp[h1,h2];rfl
 |succ n IH=>
  intro i s hn hi hb;have h1:i<(l.length:Int):=WD
  have hlt:i.toNat<l.length:=WD
  have h4:=IH (i+1) ((je l[i.toNat]).foldl st s) WD WD WD;rw[show (i+1).toNat=i.toNat+1 by omega]at h4;have h5:=ih _ (List.getElem_mem hlt) s;rw[FL167_0];simp only[L167_0];simp (disch:=omega) [h1,aW,lj,acF l i.toNat hlt]
  grind [nX,List.drop_eq_getElem_cons]
def t167{σ:Type}{H:σ->Hp}{st:σ->Exp->σ}{g:AV}(hg:∀s e,ba (aa pg) g [e.av] (H s)= .ok (.tup []) (H (st s e))):
  ∀(n:Nat)(e:Exp),SizeOf.sizeOf e<=n->e.Lim->∀s,aa pg 167 [e.av,g] (H s)= .ok (.tup []) (H ((je e).foldl st s)):=by
 intro n
 induction n with
 |zero=>intro e he;cases e;simp at he
 |succ n ih=>
  intro e he hL s;rw[C167];have h1:=hg s e;have h2:=Qp (H:=H) (st:=st) (g:=g) hL.len (fun x hx s=>ih x (by have:=L9 hx;omega) (hL.kid hx) s) e.args.length 0 (st s e) rfl WD WD;simp[S167]
  grind [nX,re]
theorem tK{α β γ:Type}{f:β->Option γ}{k:α->β}{g:α->γ}(hf:∀x,f (k x)=some (g x)):∀l:List α,(l.map k).mapM f=some (l.map g)
 |[]=>rfl
 |x:: l=>by
  rw[ac3,afn,hf,tK hf l];rfl
def NO(m:Mod):H6 m.av=some (m.name,m.funcs.map fun f=>(f.name,f.av)):=by
 show ((m.funcs.map Fun.av).mapM E4).map (fun l=>(m.name,l))=_;rw[tK (f:=E4) (k:=Fun.av) (g:=fun f:Fun=>(f.name,f.av)) (fun f=>by cases f with|mk a b c r w e=>cases r;cases e;rfl)];rfl
def t48(p:List Mod)(h1:p.length<=1000000)(h2:∀m∈p,m.funcs.length<=1000000)(h:Hp):aa pg 48 [mods p] h= .ok (.mp h.length) (h++[[.tup ((mN p).map (gB Fun.av))]]):=by
 rw[ct hOther (E:=yD) rfl];show (match (p.map Mod.av).mapM H6 with|some l=>_|none=>_)=_;rw[tK (g:=fun m:Mod=>(m.name,m.funcs.map fun f=>(f.name,f.av))) NO];simp only;rw[acL ⟨by simpa using h1,fun m hm=>by
  grind⟩]
 have:(p.map fun m:Mod=>(m.name,m.funcs.map fun f=>(f.name,f.av)))=(p.map uV).map fun m=>(m.1,m.2.map fun x=>(x.1,x.2.av)):=by
  rw[adW];apply ad0;intro m _;simp[uV]
 rw[this]
 have:=yx Fun.av (p.map uV) [] []
 rw[ael]at this;rw[this,adW];rfl
variable {h:Hp}
def t45{V:Type}{f:V->AV}{l:Nat}{es:List (aX×V)}(hl:h[l]? = some [.tup (es.map (gB f))])(hb:es.length<=1000000)(g:Nat)(hg:g=225\/g=105):
  aa pg 45 [.fn (.func g) [] [.ip [.mp l]],.fn (.func 49) [] []] h= .ok (dx (iD (es.map (·.1)))) h:=by
 rw[ct hOther (E:=rr [105,225] 49) rfl];have hk:(es.map (gB f)).mapM Fl=some (es.map (·.1)):=tK (f:=Fl) (k:=gB f) (g:=fun x:aX×V=>x.1) (fun x=>rfl) es;have hm:(dM [105,225] g&&Nat.beq 49 49)=true:=by rcases hg with rfl|rfl<;>rfl
 show (bif dM [105,225] g&&Nat.beq 49 49 then _ else _:R AV)=_;simp_all[mE]
def YF(f:Fun):xS T 56 f.av 5=some f.body.av:=by
 cases f with|mk a b c r w e=>cases r;cases e;rfl
variable {p:List Mod}
def t106{la:Nat}(ha:sX p h la)(f:aX)(hL:(vG p f).Lim)(hb:(found p f).length<=1000000):
  aa pg 106 [.mp la,dj f] h= .ok (dx (gg p f)) (h++[[.tup ((found p f).map (gB AV.bool))]]):=by
 rw[C106];have hla:la<h.length:=(acJ.1 ha).1;let H0:List (aX×Bool)->Hp:=fun o=>h++[[.tup (o.map (gB AV.bool))]];have h0:=t167 (H:=H0) (st:=qk p f) (g:=.fn (.func 168) [] [.ip [.str f.1,.str f.2],.ip [.mp la],.ip [.mp h.length]]) (fun o e=>by
  have:=t168 p f e (h++[[.tup (o.map (gB AV.bool))]]) la h.length o (by grind [sX]) AI
  show aa pg 168 ([]++[e.av]++_) _=_
  grind) _ (vG p f) (acC _) hL []
 have hlk:=tJ (p:=p) (h:=h++[[.tup []]]) (l:=la) (by grind [sX]) f false;have hs:=t45 (f:=AV.bool) (h:=h++[[.tup ((found p f).map (gB AV.bool))]]) (l:=h.length) (es:=found p f) AI hb 225 (.inl rfl);have hk:aa pg 170 [.mp h.length]=ao (.fn (.func 225) [] [.ip [.mp h.length]]):=C170 _;simp[S106];rw[nX (m:=jN) (h:=h) rfl];have hc1:bB 1 (.mp h.length)=ao (.agg [.mp h.length]):=bZ rfl;have hc2:∀n,ab (.mp n)=[.mp n]:=fun _=>rfl;simp only[hc1];simp[hk,hc2];rw[nX hlk];simp[YF];refine (nX h0).trans ?_;refine (nX hs).trans ?_;rfl
structure Sm (p:List Mod):Prop where
 len:p.length<=1000000
 funcs:∀m∈p,m.funcs.length<=1000000
 idx:(mN p).length<=1000000
 body:∀r,(vG p r).Lim
theorem Sm.calls(S:Sm p)(f:aX):(gg p f).length<=1000000:=by
 have:=kJ (l:=gg p f) (m:=(mN p).map (·.1)) (pX p f) (fun x hx=>(yz p x).2 (Ex hx))
 have:=S.idx
 grind
def Sm.found(S:Sm p)(f:aX):(found p f).length<=1000000:=by
 have h1:=S.calls f;have h2:(gg p f).length=((Ap.found p f).map (·.1)).length:=(gu _).length_eq
 grind
def set_mid(h:Hp)(x y:List AV)(J:Hp):(h++x:: J).set h.length y=h++y:: J:=qr
def NH{l:Nat}{es:List (aX×aX)}(hl:h[l]? = some [.tup (es.map (gB dj))])(k:aX):iO T 116 (.mp l) (dj k) true h= .ok (.tup [dj ((jL es k).getD ([],[])),.bool (jL es k).isSome]) h:=by
 grind [V5,Bv,NQ]
def za(D:List (aX×List aX)):(D.map Ij).map (·.1)=D.map (·.1):=by rw[adW];rfl
def M7(D:List (aX×List aX))(r:aX):(jL (D.map Ij) r).isSome=decide (r∈D.map (·.1)):=by
 rw[<- za];cases h:jL (D.map Ij) r with
 |none=>grind [qW]
 |some v=>rw[afm (adj.2 ⟨_,M6 h,rfl⟩)];rfl
def N6{V:Type}(l:List (aX×V))(k:aX)(v:V)(h:k ∉ l.map (·.1)):kX l k v=l++[(k,v)]:=by
 induction l with
 |nil=>rfl
 |cons x l ih=>
  simp only[ac3,ac2,not_or]at h;simp only[kX]
  grind
theorem PM(x:aX)(l:List aX):Ks T 57 (dx (x:: l)) (some (.int .i64 1))=some (dx l):=by
 have:Ks T 57 (dx (x:: l)) (some (.int .i64 1))=eR T 57 (.sl ((x:: l).map dj)) (some (.int .i64 1)) none none:=rfl;rw[this,BZ (e:=60) rfl rfl rfl ((x:: l).map dj) (Lf _) (n:=1) Vc Bk];rfl
def ix0(y:aX)(l:List aX):ax T 57 (dx (y:: l)) (qi 0)=some (.ip (ab (dj y))):=by
 grind [Sr]
def zm(h:Hp)(D:List (aX×List aX))(J:Hp):(h++wN D:: J)[h.length]? = some [.tup ((D.map Ij).map (gB dj))]:=by simp[wN]
def Oi(h:Hp)(D:List (aX×List aX))(J:Hp)(c:List aX)(r y:aX)(hc:c.getLast? = some y)(hr:r ∉ D.map (·.1)):tZ T 116 (.mp h.length) (dj r) (dj y) (h++wN D:: J)= .ok (.tup []) (h++wN (D++[(r,c++[r])]):: J):=by
 rw[zc NQ (zm h D J),set_mid,N6 _ _ _ (by rw[za];exact hr)]
 grind [wN,Ll]
def Vv(la:Nat)(h:Hp)(J:Hp)(l:List aX)(y:aX)(c:List aX)(hc:c.getLast? = some y)(k:Nat)(K:List AV->M AV):∀(n:Nat)(i:Int)(D:List (aX×List aX)),l.length-i.toNat=n->0<=i->i<=l.length->k<=D.length->D.length+n<=4000000->l.length<=4000000->
  ae (L47_0 (aa pg) ae K) [.mp la,.mp h.length,dx (y:: (D.map (·.1)).drop k),dx l,qi l.length,qi i] (h++wN D:: J)=
   K [.mp la,.mp h.length,dx ((((l.drop i.toNat).foldl (zB c) D).map (·.1)).drop k)] (h++wN ((l.drop i.toNat).foldl (zB c) D):: J):=by
 intro n
 induction n with
 |zero=>
  intro i D hn hi hb _ _ _;rw[FL47_0];simp only[L47_0];have h1:¬(i<(l.length:Int)):=WD
  have h2:l.drop i.toNat=[]:=List.drop_eq_nil_of_le WD;simp[h1,h2,PM]
 | succ n IH=>
  intro i D hn hi hb hk hD hll;have h1:i<(l.length:Int):=WD
  have hlt:i.toNat<l.length:=WD
  have h3:=NH (zm h D J) l[i.toNat];rw[M7]at h3;have hcm:∀r,bB 2 (dj r)=ao (dj r):=fun r=>by grind [bZ,yT,xp,EX]
  rw[FL47_0];simp only[L47_0];simp (disch:=omega) [h1,aW,Sr,acF l i.toNat hlt,hcm];rw[nX h3];have hB:∀x:aX,aI T 57 1 [(0,dj x)]=some (dx [x]):=fun x=>rfl;by_cases hr:l[i.toNat]∈D.map (·.1)
  ·have h4:=IH (i+1) D WD WD WD hk WD hll;rw[show (i+1).toNat=i.toNat+1 by omega]at h4;have h5:zB c D l[i.toNat]=D:=acL hr;simp only[hr,acX];simp[hcm]
   grind [List.drop_eq_getElem_cons]
  ·have h4:=IH (i+1) (D++[(l[i.toNat],c++[l[i.toNat]])]) WD WD WD Bk Bk hll;rw[show (i+1).toNat=i.toNat+1 by omega]at h4;have h5:zB c D l[i.toNat]=D++[(l[i.toNat],c++[l[i.toNat]])]:=acE hr;have h6:=Oi h D J c l[i.toNat] y hc hr;have h7:((D++[(l[i.toNat],c++[l[i.toNat]])]).map (·.1)).drop k=(D.map (·.1)).drop k++[l[i.toNat]]:=by
    rw[adO,ad4 (by simpa using hk)];rfl
   rw[h7]at h4;simp only[hr,adg];simp[hcm];simp[ix0,hB];rw[nX h6];have h8:dL T 57 (dx (y:: (D.map (·.1)).drop k)) (dx [l[i.toNat]])=some (dx (y:: ((D.map (·.1)).drop k++[l[i.toNat]]))):=by
    rw[Z7 Bk];rfl
   simp only[h8];simp
   grind [List.drop_eq_getElem_cons]
theorem QB(S:Sm p){f:aX}(la:Nat)(h:Hp)(ha:sX p h la):∀(n k:Nat)(D:List (aX×List aX))(J:Hp),DInv p f k D->(mN p).length<=k+n->k<=D.length->
  ∃J':Hp,J'.length+k=J.length+(s6 (gg p) n k D).length/\ae (L47_1 (aa pg) ae) [.mp la,.mp h.length,dx ((D.map (·.1)).drop k)] (h++wN D:: J)= .ok (.mp h.length) (h++wN (s6 (gg p) n k D):: J'):=by
 have hla:la<h.length:=(acJ.1 ha).1;intro n
 induction n with
 |zero=>
  intro k D J I hn hk
  have:=I.len
  have h1:(D.map (·.1)).drop k=[]:=List.drop_eq_nil_of_le Bk;refine⟨J,by simp only[s6];omega,?_⟩;rw[h1,FL47_1];simp only[L47_1];simp[dx];rfl
 | succ n IH=>
  intro k D J I hn hk;cases hD:D[k]? with
  |none=>
   have h0:=aeL.1 hD;have h1:(D.map (·.1)).drop k=[]:=List.drop_eq_nil_of_le Bk;refine⟨J,by simp only[s6,hD];omega,?_⟩;rw[h1,FL47_1];simp only[L47_1,s6,hD];simp[dx];rfl
  | some e=>
   obtain⟨x,c⟩:=e;obtain⟨hlt,he⟩:=acJ.1 hD;have hI:=S.idx;have hIl:=I.len;have hcl:=S.calls x;have h1:(D.map (·.1)).drop k=x:: (D.map (·.1)).drop (k+1):=by
    rw[List.drop_eq_getElem_cons (by simpa using hlt)];simp[he]
   have hc:=t106 (p:=p) (h:=h++wN D:: J) (la:=la) (by grind [sX]) x (S.body x) (S.found x);have hlast:c.getLast? = some x:=I.last (adl hD);have h2:=Vv la h (J++[[.tup ((found p x).map (gB AV.bool))]]) (gg p x) x c hlast (k+1) (ae (L47_1 (aa pg) ae)) (gg p x).length 0 D rfl WD WD WD WD WD;obtain⟨J',hJ,h3⟩:=IH (k+1) (D++FN (gg p) D x c) (J++[[.tup ((found p x).map (gB AV.bool))]]) (I.step hD) WD Bk;refine⟨J',by simp only[s6,hD];grind,?_⟩;have hdr:(gg p x).drop (0:Int).toNat=gg p x:=rfl;rw[hdr,QK _ _ _ _ (pX p x),h3]at h2;rw[h1,FL47_1];simp only[L47_1,s6,hD];have hpos:(0:Int)<((D.map (·.1)).drop (k+1)).length+1:=WD
   simp[ix0];rw[nX hc];simp_all
theorem t47(S:Sm p){la:Nat}(ha:sX p h la)(f:aX):
  ∃J:Hp,J.length=(iJ p f).length/\aa pg 47 [.mp la,dj f] h=if(dq p f).isSome=true then .ok (.mp h.length) (h++wN (iJ p f):: J)else .ok .nilm h:=by
 have hla:la<h.length:=(acJ.1 ha).1;have h1:=tJ ha f true;by_cases hf:(dq p f).isSome=true
 ·obtain⟨J,hJ,h2⟩:=QB S la h ha ((mN p).length+1) 0 [(f,[f])] [] (DInv.zero hf) WD AI;have h3:iJ p f=s6 (gg p) ((mN p).length+1) 0 [(f,[f])]:=acL hf;refine⟨J,qr,?_⟩;rw[acL hf];rw[h3,C47];simp[S47];rw[nX h1];simp[hf];rw[nX (m:=jN) (h:=h) rfl];have h4:=zc (f:=dj) (h:=h++[[.tup []]]) (l:=h.length) (es:=[]) NQ AI f f;rw[nX h4];have hB:aI T 57 1 [(0,dj f)]=some (dx [f]):=rfl;have h5:(h++[[AV.tup []]]).set h.length [.tup ((kX [] f f).map (gB dj))]=h++wN [(f,[f])]:: []:=by
   rw[set_mid];rfl
  simp_all
 ·refine⟨[],by unfold iJ;grind,?_⟩;rw[acE hf];have hf':(dq p f).isSome=false:=by simpa using hf
  rw[C47];simp[S47];rw[nX h1];simp[hf'];rfl
def abv{m:M AV}{a:AV}(hm:m []= .ok a h)(hc:Go.Av.Ap.Clean a):aF m=ao a:=by
 funext h0;simp only[aF,hm,hc.frz];rfl
def Hj(l:List aX):Go.Av.Ap.Clean (dx l):=fun g=>I6 g l
def abt(S:Sm p):aa pg 48 [mods p] []= .ok (.mp 0) [[.tup ((mN p).map (gB Fun.av))]]:=t48 p S.len S.funcs []
theorem Nj(p:List Mod):sX p [[.tup ((mN p).map (gB Fun.av))]] 0:=rfl
theorem BQ(S:Sm p)(f:aX):(iJ p f).length<=1000000:=by
 by_cases h:(dq p f).isSome=true
 ·have:=(u6 h).len;have:=S.idx;omega
 ·unfold iJ;grind
def t15(S:Sm p)(f:aX):aa pg 15 [mods p,dj f]=ao (dx (ry p f)):=by
 rw[C15];have h1:=tJ (Nj p) f true;obtain⟨J,_,h2⟩:=t47 S (Nj p) f;have hk:∀x,aa pg 46 [.mp x]=ao (.fn (.func 105) [] [.ip [.mp x]]):=fun x=>C46 _;have hk0:aa pg 46 [.nilm]=ao (.fn (.func 105) [] [.ip [.nilm]]):=C46 _;have h3:∃h',S15 (aa pg) ae (mods p) (dj f) []= .ok (dx (ry p f)) h':=by
  simp only[S15];simp;rw[nX (abt S)];by_cases hf:(dq p f).isSome=true
  ·rw[acL hf]at h2;rw[nX h2];have hs:=t45 (f:=dj) (zm [[.tup ((mN p).map (gB Fun.av))]] (iJ p f) J) (by simpa using BQ S f) 105 (.inr rfl);rw[za]at hs;simp[hk];exact⟨_,nX hs⟩
  ·rw[acE hf]at h2;rw[nX h2];simp[hk0];have hs:aa pg 45 [.fn (.func 105) [] [.ip [.nilm]],.fn (.func 49) [] []] [[.tup ((mN p).map (gB Fun.av))]]= .ok (dx []) [[.tup ((mN p).map (gB Fun.av))]]:=by
    rw[ct hOther (E:=rr [105,225] 49) rfl];rfl
   have he:ry p f=[]:=by unfold ry iJ;rw[acE hf];rfl
   rw[he];exact⟨_,nX hs⟩
 obtain⟨h',h3⟩:=h3;simp only[oT,Mq];exact abv h3 (Hj _)
def Zk(x:Sig):(ab x.av).length=5:=AI
def J3(h:Hp)(v:AV)(l:List Sig):Prop:=(l=[]/\v= .hn)\/(l≠[]/\∃q,v= .hs q 0 l.length 5 true/\h[q]? = some (rowOf Sig.av l))
theorem Ie:(l:List Sig)->(rowOf Sig.av l).all aO=true
 |[]=>rfl
 |f:: l=>by
  rw[m0,List.all_append,Ie l,aer,rP];rfl
def LW{v:AV}{l:List Sig}(A:J3 h v l)(hl:l.length<=1000000)(s:Sig):∃v' h',appH T 41 false v (sigs [s]) h= .ok v' h'/\J3 h' v' (l++[s])/\dP v'=ao v':=by
 rcases A with⟨rfl,rfl⟩|⟨hne,q,rfl,hq⟩
 ·have e2:=RG (T:=T) (t:=41) (e:=101) rfl rfl rfl (x:=s.av) (yV s) Vc Vc Vc h;refine⟨_,_,e2,.inr ⟨AI,h.length,rfl,?_⟩,rfl⟩;simp[rowOf]
 ·have hln:=jE (f:=Sig.av) Zk l;have e2:=RH (T:=T) (t:=41) (e:=101) rfl rfl rfl (x:=s.av) (yV s) Vc Vc hq (Ie l) hln (aed.2 hne) (show (l.length+1)*80<=140737488355328 by omega);refine⟨_,_,e2,.inr ⟨AI,h.length,qr,?_⟩,rfl⟩;simp[rowOf]
theorem QQ(V:List AV->M AV)(m:Ap.Mod)(f:Fun)(hf:FunOk f)(i:Nat)(hv x3 x4:AV)(h:Hp):∀(k j:Nat)(acc:List Ty),f.params.length-j=k->j<=f.params.length->acc.length<=j->
  ae (L9_0 (aa pg) ae V) [eL m.funcs,qi m.funcs.length,qi i,aE f.params,qi f.params.length,qi j,x3,x4,.str m.name,hv,.str f.name,kN acc,qi f.result.kind,aE f.result.fields,qi f.effects] h=aG (appH T 41 false hv (sigs [⟨f.name,acc++(f.params.drop j).map (·.2),f.result,f.effects⟩])) (fun v=>aG (dP v) fun _=>V [eL m.funcs,qi m.funcs.length,qi (IntKind.i64.wrap ((i:Int)+1)),x3,x4,.str m.name,v]) h:=by
 have hpl:=hf.plen;intro k
 induction k with
 |zero=>
  intro j acc hk hj ha;have h1:¬((j:Int)<(f.params.length:Int)):=WD
  have h2:f.params.drop j=[]:=List.drop_eq_nil_of_le WD;have b1:aI T 41 1 [(0,.agg [.str f.name,kN acc,qi f.result.kind,aE f.result.fields,qi f.effects])]=some (sigs [⟨f.name,acc,f.result,f.effects⟩]):=rfl;rw[FL9_0,h2];simp only[L9_0,ak,au,aC,af,h1,adg,ah,acA,acI,b1,aY,ael,adL]
 |succ k ih=>
  intro j acc hk hj ha;have hlt:j<f.params.length:=WD
  have h1:(j:Int)<(f.params.length:Int):=WD
  have h2:f.params.drop j=f.params[j]:: f.params.drop (j+1):=List.drop_eq_getElem_cons hlt;have hw:IntKind.i64.wrap ((j:Int)+1)=(j:Int)+1:=aH WD;have hix:=lP (l:=f.params) (n:=(j:Int)) WD h1;rw[acG,acF f.params j hlt]at hix;have hcl:=t33 f.params[j].2 (hf.pars _ (List.getElem_mem hlt));have ih':=ih (j+1) (acc++[f.params[j].2]) WD WD Bk;have hap:=Sj (a:=acc) (b:=[f.params[j].2]) Bk;rw[h2,ac3];generalize f.params[j]=z at hix hcl hap ih' |-;have hsl:aI T 99 1 [(0,z.2.av)]=some (kN [z.2]):=by cases z.2;rfl
  have hc1:∀l:List Ty,dP (kN l)=ao (kN l):=fun l=>rfl;rw[show acc++z.2:: (f.params.drop (j+1)).map (·.2)=acc++[z.2]++(f.params.drop (j+1)).map (·.2) by simp,<- ih'];generalize hcode:ae (L9_0 (aa pg) ae V) [eL m.funcs,qi m.funcs.length,qi i,aE f.params,qi f.params.length,qi j,x3,x4,.str m.name,hv,.str f.name,kN acc,qi f.result.kind,aE f.result.fields,qi f.effects] h=code;rw[FL9_0]at hcode;simp -implicitDefEqProofs only[L9_0,ak,au,aC,af,h1,acX,ah,acK,hix,kc,LD79,acR,acS,ac8,Nat.reduceAdd,acC,adF,ady,ye,rS,aj,FA79_1,ac5,ac0,LD52,iU,hcl,bE,hsl,hap,hc1,aY,hw]at hcode
  grind
theorem QR(m:Ap.Mod)(MK:ModOk m):∀(k i:Nat)(hv x3 x4:AV)(h:Hp),m.funcs.length-i=k->i<=m.funcs.length->J3 h hv (ni (m.funcs.take i))->
  ∃hv' h',J3 h' hv' (ni m.funcs)/\ae (L9_1 (aa pg) ae) [eL m.funcs,qi m.funcs.length,qi i,x3,x4,.str m.name,hv] h=aG (aa pg 34 [hv',.fn (.func 35) [] []]) (fun _=>aG (aK 2 [] (.agg [.str m.name,hv'])) fun v=>ao (.agg [aD (ab v) 0,aD (ab v) 1])) h':=by
 have hfl:=MK.flen;intro k
 induction k with
 |zero=>
  intro i hv x3 x4 h hk hi A;have h1:¬((i:Int)<(m.funcs.length:Int)):=WD
  have h2:m.funcs.take i=m.funcs:=adY WD;rw[h2]at A;refine⟨hv,h,A,?_⟩;rw[FL9_1];simp only[L9_1,ak,au,aC,af,h1,adg,ah,acA,acI]
 | succ k ih=>
  intro i hv x3 x4 h hk hi A;have hlt:i<m.funcs.length:=WD
  have h1:(i:Int)<(m.funcs.length:Int):=WD
  have hw:IntKind.i64.wrap ((i:Int)+1)=((i+1:Nat):Int):=aH WD;have hix:=sW (l:=m.funcs) (n:=(i:Int)) WD h1;rw[acG,acF m.funcs i hlt]at hix;have hf:=MK.fns _ (List.getElem_mem hlt);have ht:m.funcs.take (i+1)=m.funcs.take i++[m.funcs[i]]:=adP hlt;have ih0:=ih (i+1);rw[ht]at ih0;have cf:∀f:Fun,bB 12 f.av=ao f.av:=fun f=>AN
  rw[FL9_1];generalize m.funcs[i]=f at hix hf ih0 |-;cases hp:f.pub with
  |false=>
   have e:ni (m.funcs.take i++[f])=ni (m.funcs.take i):=by simp[ni,hp]
   rw[e]at ih0;obtain⟨hv',h',A',e'⟩:=ih0 hv x3 x4 h WD WD A;refine⟨hv',h',A',?_⟩;rw[<- e'];simp[L9_1,h1,hix,cf,hw];simp[hp]
  | true=>
   have e:ni (m.funcs.take i++[f])=ni (m.funcs.take i)++[JO f]:=by simp[ni,hp]
   rw[e]at ih0;have hlen:(ni (m.funcs.take i)).length<=1000000:=by
    have:(ni (m.funcs.take i)).length<=(m.funcs.take i).length:=by
     unfold ni;rw[adJ];exact aeV _ _
    rw[aei]at this;omega
   obtain⟨v1,h1',e1,A1,c1⟩:=LW A hlen (JO f);obtain⟨hv',h',A',e'⟩:=ih0 v1 x3 x4 h1' WD WD A1;refine⟨hv',h',A',?_⟩;rw[<- e'];have hin:=QQ (ae (L9_1 (aa pg) ae)) m f hf i hv x3 x4 h f.params.length 0 [] rfl (acU _) (acU _);rw[hw]at hin;have hin2:ae (L9_0 (aa pg) ae (ae (L9_1 (aa pg) ae))) [eL m.funcs,qi m.funcs.length,qi i,aE f.params,qi f.params.length,qi 0,x3,x4,.str m.name,hv,.str f.name,.sl [],qi f.result.kind,aE f.result.fields,qi f.effects] h=ae (L9_1 (aa pg) ae) [eL m.funcs,qi m.funcs.length,qi ((i+1:Nat):Int),x3,x4,.str m.name,v1] h1':=by
    refine hin.trans ?_;show aG (appH T 41 false hv (sigs [JO f])) _ h=_;rw[aS e1,c1,aj]
   have hcl:=t33 f.result hf.res;have UJ:∀(k:Int)(x:List ca)(e:Int),bW T true 101 [(0,.str f.name),(2,(Ty.mk k x).av),(3,qi e)]=some (.agg [.str f.name,.hn,qi k,aE x,qi e]):=fun k x e=>rfl;have bs2:bW T true 101 [(0,.str f.name),(2,f.result.av),(3,qi f.effects)]=some (.agg [.str f.name,.hn,qi f.result.kind,aE f.result.fields,qi f.effects]):=by
    have:=UJ f.result.kind f.result.fields f.effects
    rwa [Ty.eta]at this
   have bs3:aK 5 [1] (.agg [.str f.name,.hn,qi f.result.kind,aE f.result.fields,qi f.effects])=ao (.agg [.str f.name,.hn,qi f.result.kind,aE f.result.fields,qi f.effects]):=rfl;rw[<- hin2];simp[L9_1,h1,hix,cf,hcl,bs2,bs3];simp[hp]
theorem AR(l:List Sig)(i:Nat)(hi:i<l.length):gh 5 (rowOf Sig.av l) i=ab l[i].av:=kY Zk l i hi
def It(l:List Sig):rowOf Sig.av l=(l.map fun s=>ab s.av).flatten:=by
 unfold rowOf;rw[List.flatMap_def,adW];rfl
theorem rq(l:List Sig):(m8 l).length=l.length:=(sL l).length_eq
theorem J6{hv:AV}{l:List Sig}(A:J3 h hv l)(hl:l.length<=1000):∃h',aa pg 34 [hv,.fn (.func 35) [] []] h= .ok (.tup []) h'/\J3 h' hv (m8 l):=by
 have e0:aa pg 34 [hv,.fn (.func 35) [] []]=km 5 35 (aa pg) [hv,.fn (.func 35) [] []]:=ct hOther rfl _;rw[e0];rcases A with⟨rfl,rfl⟩|⟨hne,q,rfl,hq⟩
 ·exact⟨h,rfl,.inl ⟨acW (rq []),rfl⟩⟩
 ·have hln:=jE (f:=Sig.av) Zk l;have hpos:0<l.length:=aed.2 hne;have hrow:((rowOf Sig.av l).drop 0).take (l.length*5)=rowOf Sig.av l:=by rw[ac0,<- hln];exact adV
  have hkeys:keysOf 5 l.length (rowOf Sig.av l)=some (l.map (·.name)):=by
   unfold keysOf;have e:(List.range l.length).map (fun i=>gh 5 (rowOf Sig.av l) i)=l.map fun s=>ab s.av:=by
    apply aee
    ·simp
    ·grind [AR]
   rw[e]
   have:=Fo (nm:=fun c=>match c with|.str s:: _=>s|_=>[]) (cs:=l.map fun s=>ab s.av) (fun c hc=>by
    obtain⟨s,_,rfl⟩:=adj.1 hc;rfl)
   rw[this,adW];rfl
  have hpl:(jZ (l.map (·.name))).length=l.length:=by
   have:=(FU (l.map (·.name))).1.length_eq
   simpa using this
  have hflat:((jZ (l.map (·.name))).map fun i=>gh 5 (rowOf Sig.av l) (i % l.length)).flatten=rowOf Sig.av (m8 l):=by
   rw[It (m8 l)];unfold m8;rw[adW];congr 1;apply ad0;intro i _;have hm:=afo i hpos;simp only[Function.comp];rw[AR l _ hm,acF l _ hm]
  have hlen2:(rowOf Sig.av (m8 l)).length=(rowOf Sig.av l).length:=by rw[jE (f:=Sig.av) Zk,rq,hln]
  have hset:setCells (rowOf Sig.av l) 0 (rowOf Sig.av (m8 l))=rowOf Sig.av (m8 l):=by
   unfold setCells;rw[ady,acT,ac8,hlen2,afg,adL]
  have hok:=Ie l;refine⟨h.set q (rowOf Sig.av (m8 l)),?_,.inr ⟨fun e=>hne (by grind [rq]),q,by rw[rq],adu (acJ.1 hq).1⟩⟩;unfold km;simp only[hq,hrow,hkeys,hflat,hset];have hb:Nat.beq 35 35=true:=rfl;have hb5:Nat.beq 5 5=true:=rfl
  grind
theorem q9(m:Ap.Mod)(hm:m.Lim):aa pg 9 [m.av]=ao (pJ m).av:=by
 have hR:=t29 m hm;have lm:ay T 29 (.ip (ab m.av))=some m.av:=rfl;simp only[bu]at lm;rw[C9,fL];unfold pJ;by_cases hr:cU m=true
 ·rw[hr]at hR;rw[acL hr];have MK:=mR hr;obtain⟨hv,h',A,e'⟩:=QR m MK m.funcs.length 0 .hn (.str []) (.sl []) [] rfl (acU _) (.inl ⟨rfl,rfl⟩);have hpl:(ni m.funcs).length<=1000:=by
   have:(ni m.funcs).length<=m.funcs.length:=by
    unfold ni;rw[adJ];exact aeV _ _
   have:=MK.flen
   omega
  obtain⟨h2,e2,A2⟩:=J6 A hpl;have b1:bW T true 43 [(0,.str m.name)]=some (.agg [.str m.name,.hn]):=rfl;have b2:aK 2 [1] (.agg [.str m.name,.hn])=ao (.agg [.str m.name,.hn]):=rfl;have b2':aK 2 [] (.agg [.str m.name,.hn])=ao (.agg [.str m.name,.hn]):=rfl;have hcn:aK 2 [] (.agg [.str m.name,hv])=ao (.agg [.str m.name,hv]):=by
   rcases A2 with⟨_,rfl⟩|⟨_,q,rfl,_⟩
   ·rfl
   ·exact cw rfl
  have hfz:jt 6 h2 (.agg [.str m.name,hv])=(Face.mk m.name (m8 (ni m.funcs))).av:=by
   rcases A2 with⟨e,rfl⟩|⟨_,q,rfl,hq⟩
   ·rw[e];rfl
   ·have hfr:=uG (f:=Sig.av) Zk (fun x=>AN) (fun x g=>CG g x) Vc hq 5;have e:(Face.mk m.name (m8 (ni m.funcs))).av= .agg [.str m.name,.sl ((m8 (ni m.funcs)).map Sig.av)]:=rfl;rw[e,<- hfr];rfl
  refine cL (v:=.agg [.str m.name,hv]) (h':=h2) ?_ hfz;have e'':ae (L9_1 (aa pg) ae) [eL m.funcs,qi m.funcs.length,qi 0,.str [],.sl [],.str m.name,.hn] []= .ok (.agg [.str m.name,hv]) h2:=by
   refine e'.trans ?_;rw[aS e2,hcn];rfl
  simp[S9,lm,hR,b1,b2,b2',e'']
 ·rw[acE hr];rw[aej]at hr;rw[hr]at hR;have b1:bW T false 43 []=some mG.av:=rfl;have b2:aK 2 [] mG.av=ao mG.av:=rfl;have hfz:jt 6 [] mG.av=mG.av:=rfl;simp_all[S9]
end Go.Proofs.YtkidiopjcgeifaaGreat
namespace Go.Proofs.YtkidiopjcgeifaaGreat
open Go Go.Av Go.Av.Ap
def su{o n:Int}{s m:aA}{ns:List aA}{es:List Exp}(h1:ns.length<=8796093022208)(h2:es.length<=140737488355328)(h3:∀x∈es,x.Lim):(Exp.mk o n s m ns es).Lim:=fun k=>by
 cases k with
 |zero=>trivial
 |succ k=>exact⟨h1,h2,fun x hx=>h3 x hx k⟩
def Ny:Sd.Lim:=su AI AI (fun x hx=>by cases hx)
def Mj{p:List Mod}(h:∀m∈p,∀f∈m.funcs,f.body.Lim)(r:aX):(vG p r).Lim:=by
 unfold vG;cases hf:dq p r with
 |none=>exact Ny
 |some g=>
  grind [dq]
def VZ{p:List Mod}(hM:∀m∈p,m.Lim)(h1:p.length<=9)(h2:∀m∈p,m.funcs.length<=9):Sm p where
 len:=WD
 funcs:=fun m hm=>qr
 idx:=by
  have h3:=PY p;have h4:=LY p h2
  grind
 body:=Mj fun m hm f hf=>((hM m hm).fns f hf).body
end Go.Proofs.YtkidiopjcgeifaaGreat
namespace Go.Proofs.YtkidiopjcgeifaaGreat.Mg
open Go Go.Av Go.Av.Ap
set_option maxRecDepth 100000
def zH{m:Mod}(h:FewMod m):Sz m:=⟨by have:=h.uses;omega,by have:=h.vars;omega,by have:=h.funcs;omega⟩
structure Keep (a b c:Mod) (B:List Mod) (F:List Face) (args:List Val):Prop where
 la:a.Lim
 lb:b.Lim
 lc:c.Lim
 fa:FewMod a
 fb:FewMod b
 fc:FewMod c
 bl:B.length<=2
 bm:∀m∈B,m.Lim/\FewMod m
 bc:∀m∈B,J4 B m
 fB:∀f∈F,∃m∈B,m.name=f.module
 asz:bw args<=4611686018427387904
 ok:(dJ a b c F).2.2=0
 ck:(fK b F).2=0
 nm:(dJ a b c F).1.vars.map (·.1)=b.vars.map (·.1)
section
variable {a b c:Mod} {B:List Mod} {F:List Face} {args:List Val}
theorem Keep.right(K:Keep a b c B F args):cU a=true/\cU b=true/\cU c=true/\cU (dJ a b c F).1=true:=by
 obtain⟨hp,hr,_,_⟩:=pd K.ok
 grind [pre]
theorem Keep.fin(K:Keep a b c B F args)(hv:∀s∈b.vars.map (·.1),mT a c 1 s){s:aA}(hs:∃f∈b.funcs,f.name=s)(hk:∀r∈ry (B++[b]) (b.name,s),r.1=b.name->mT a c 2 r.2)(w:List Int):FinP (B++[b]) (B++[(dJ a b c F).1]) b.name s args w:=by
 have hl:=K.bl;have hfew:∀m∈B++[b],FewMod m:=fun m hm=>by
  rcases acZ.1 hm with h|h
  ·exact (K.bm m h).2
  ·rw[adk]at h;subst h;exact K.fb
 obtain⟨_,_,_,KK⟩:=pd K.ok;obtain⟨v1,v2⟩:=Bi KK K.right.2.1 K.right.2.2.2 K.nm hv;have hfn:∀f∈(dJ a b c F).1.funcs,bj f.body/\f.params.length<=8:=fun f hf=>by
  rw[KK.funcs]at hf;rcases pc _ _ _ _ _ hf with h|h
  ·exact K.fb.body f h
  ·exact K.fc.body f h
 have hfl:(dJ a b c F).1.funcs.length<=1000:=by
  rw[KK.funcs]
  have:=K.fa.funcs;have:=K.fb.funcs;have:=K.fc.funcs
  exact adi (mQ Fun.name ic a.funcs b.funcs c.funcs) WD
 refine⟨MR Bk hfew,⟨⟨⟨by simp;omega,fun m hm=>?_⟩,fun m hm f hf=>?_⟩,fun m hm=>?_⟩,K.asz,fun fuel=>HB Bk hfew ..,fun fuel=>Np K.ok K.bc K.fB K.ck K.nm hv hs hk args w fuel⟩
 ·rcases acZ.1 hm with h|h
  ·have:=(K.bm m h).2.funcs;have:=(K.bm m h).2.vars;grind
  ·rw[adk]at h;subst h
   have:=K.fb.vars
   grind
 ·rcases acZ.1 hm with h|h
  ·have:=(K.bm m h).2.body f hf;grind
  grind
 ·rcases acZ.1 hm with h|h
  ·exact⟨by have:=(K.bm m h).2.init.1;omega,(K.bm m h).2.init.2⟩
  ·rw[adk]at h;subst h;rw[<- v2];exact⟨by have:=K.fb.init.1;omega,K.fb.init.2⟩
theorem Keep.same(K:Keep a b c B F args)(k:Nat)(hk:k<4)(s:aA):BB (mT a c k s) (aa pg 14 [a.av,c.av,qi k,.str s]):=
 t14 a c K.la (zH K.fa) (zH K.fc) (mR K.right.1).ilen (mR K.right.2.2.1).ilen k hk s
theorem Vq(K:Keep a b c B F args)(hv:∀s∈b.vars.map (·.1),mT a c 1 s){s:aA}(hs:∃f∈b.funcs,f.name=s)(w:List Int){l:List aX}(hl:l=ry (B++[b]) (b.name,s))(hll:l.length<=1000000):∀(n i:Nat),l.length-i=n->i<=l.length->(∀r∈l.take i,r.1=b.name->mT a c 2 r.2)->
  ae (L3_1 (aa pg) ae) [vals args,ints w,.ip (ab a.av),.ip (ab b.av),.ip (ab c.av),.bool true,.str s,mods (B++[b]),mods (B++[(dJ a b c F).1]),dx l,qi i]=ao (.bool true):=by
 intro n
 induction n with
 |zero=>
  intro i hn hi hq;obtain rfl:i=l.length:=WD
  rw[adV]at hq;exact abl l (K.fin hv hs qr w)
 | succ n ih=>
  intro i hn hi hq;have hlt:i<l.length:=WD
  have g:(i:Int)<(l.length:Int):=WD
  have hlen:ff T 57 (dx l)=some (.int .i64 l.length):=by simp[dx]
  have hix:=Sr (l:=l) (n:=(i:Int)) WD g;rw[acG,acF l i hlt]at hix;have hw:IntKind.i64.wrap ((i:Int)+1)=((i+1:Nat):Int):=aH WD;have ht:l.take (i+1)=l.take i++[l[i]]:=by rw[List.take_add_one,acH hlt];rfl
  have h4:=ih (i+1) WD WD;rw[ht]at h4;generalize l[i]=r at *;obtain⟨bs,hb,hp⟩:=K.same 2 Vc r.2;have hb':aa pg 14 [a.av,c.av,qi 2,.str r.2]=ao (.bool bs):=hb;have lm:∀m:Mod,ay T 29 (.ip (ab m.av))=some m.av:=fun m=>AI
  have f0:ar T 60 (.ip (ab (dj r))) 0=some (.ip (ab (dj r))):=rfl;have f1:ar T 60 (.ip (ab (dj r))) 1=some (.ip ((ab (dj r)).drop 1)):=rfl;have l0:ay T 9 (.ip (ab (dj r)))=some (.str r.1):=rfl;have l1:ay T 9 (.ip ((ab (dj r)).drop 1))=some (.str r.2):=rfl;have fM:∀cs,ar T 29 (.ip cs) 0=some (.ip (cs.drop 0)):=fun _=>rfl;have lM:∀m:Mod,ay T 9 (.ip ((ab m.av).drop 0))=some (.str m.name):=fun m=>AI
  have es:bN T .eql 9 (.str r.1) (.str b.name)=some (.bool (r.1== b.name)):=rfl;rw[FL3_1];simp -implicitDefEqProofs only[L3_1,ak,au,hlen,af,aC,g,acX,ah,acK,hix,f0,l0,fM,lM,es];cases hc:(r.1== b.name)with
  |false=>
   simp -implicitDefEqProofs only[mh,aj,cy,af,ah,acA,acI,aY,hw]
   grind
  | true=>
   simp -implicitDefEqProofs only[cD,lm,af,f1,l1,hb',bE,aj,b9,ak,dD,ah];cases bs with
   |false=>grind
   |true=>
    simp -implicitDefEqProofs only[adb,acA,acI,aY,af,hw]
    grind
def Z1(a b c o:Mod)(B:List Mod)(z:Int)(args:List Val)(w:List Int)(k:Nat):List AV:=[mods B,.int .u8 z,vals args,ints w,.ip (ab a.av),.ip (ab b.av),.ip (ab c.av),.bool true,.ip (ab o.av),qi k]
def Z0(a b c o:Mod)(B:List Mod)(z:Int)(args:List Val)(w:List Int)(k:Nat)(l:List aA)(i:Nat):List AV:=[mods B,.int .u8 z,vals args,ints w,.ip (ab a.av),.ip (ab b.av),.ip (ab c.av),.bool true,.ip (ab o.av),qi k,strs l,qi i]
theorem Vp(K:Keep a b c B F args)(z:Int)(w:List Int)(k:Nat)(hk:k<4)(l:List aA)(hl:l.length<=1000000)(cont:List AV->M AV)(hc:(k≠2->∀s∈l,mT a c k s)->cont (Z1 a b c (dJ a b c F).1 B z args w (k+1))=ao (.bool true)):
  ∀(n i:Nat),l.length-i=n->i<=l.length->(k≠2->∀s∈l.take i,mT a c k s)->ae (L3_0 (aa pg) ae cont) (Z0 a b c (dJ a b c F).1 B z args w k l i)=ao (.bool true):=by
 have hwk:IntKind.i64.wrap ((k:Int)+1)=((k+1:Nat):Int):=aH WD;intro n
 induction n with
 |zero=>
  intro i hn hi hq;obtain rfl:i=l.length:=WD
  rw[adV]at hq;have g:¬((l.length:Int)<(l.length:Int)):=WD
  rw[<- hc hq,FL3_0];simp -implicitDefEqProofs only[L3_0,Z0,ak,au,lk,af,aC,g,adg,mh,aj,cy,ah,acA,acI,aY,hwk];rfl
 | succ n ih=>
  intro i hn hi hq;have hlt:i<l.length:=WD
  have g:(i:Int)<(l.length:Int):=WD
  have hw:IntKind.i64.wrap ((i:Int)+1)=((i+1:Nat):Int):=aH WD;have hix:=pH (l:=l) (n:=(i:Int)) WD g;rw[acG,acF l i hlt]at hix;have ht:l.take (i+1)=l.take i++[l[i]]:=by rw[List.take_add_one,acH hlt];rfl
  have h4:=ih (i+1) WD WD;rw[ht]at h4;generalize l[i]=s at *;have lm:∀m:Mod,ay T 29 (.ip (ab m.av))=some m.av:=fun m=>AI
  by_cases h2:k=2
  ·have hn2:((k:Int) != 2)=false:=by rw[h2];rfl
   rw[<- hc (fun h=>absurd h2 h),FL3_0];simp -implicitDefEqProofs only[L3_0,Z0,ak,au,lk,af,aC,g,acX,cD,jI,hn2,aj,dD,ah,acA,acI,aY,hwk];rfl
  ·have hn2:((k:Int) != 2)=true:=by rw[aek];omega
   obtain⟨bs,hb,hp⟩:=K.same k hk s;rw[FL3_0];simp -implicitDefEqProofs only[L3_0,Z0,ak,au,lk,af,aC,g,acX,cD,jI,hn2,aj,dD,ah,acK,lm,hix,gm,LD9,hb,bE,b9];cases bs with
   |false=>grind
   |true=>
    simp -implicitDefEqProofs only[adb,acA,acI,aY,af,hw];refine h4 fun _ x hx=>?_
    grind
theorem uQ{s:aA}:∀(l out:List aA),s∈out\/s∈l->s∈gO l out
 |[],out,h=>by
  rcases h with h|h
  ·exact h
  ·cases h
 | x:: l,out,h=>by
  simp only[gO];split
  ·rename_i hx;refine uQ l out ?_
   grind
  ·refine uQ l _ ?_
   grind
end
end Go.Proofs.YtkidiopjcgeifaaGreat.Mg
namespace Go.Proofs.YtkidiopjcgeifaaGreat
open Go Go.Av
set_option maxRecDepth 1000000
def zv(s:UInt8)(op n:Int)(c:List UInt8):AV:=.agg [.str [s],.bool true,.sl [],qi 0,.sl [],qi 0,qi op,qi n,.str c,.str [],.sl [],.sl []]
def iC(l:List AV):AV:=.agg [.str [103,101,111],.sl [],.sl [],.sl [],.sl l,.bool false,.sl [],.sl [],.sl []]
def VX:AV:=.agg [.str [],.sl [],.sl [],.sl [],.sl [],.bool false,.sl [],.sl [],.sl []]
def VW(c:UInt8):AV:=.agg [.str [c],qi 0,.sl []]
def Rc:AV:=.agg [qi 0,qi 0,.str [],.str [],.sl [],.sl []]
def DG:=zv 97 0 1 []
def Lz:=zv 97 0 5 []
def Q8:=zv 97 0 6 []
def nU:=zv 98 0 2 []
def Q9:=zv 98 0 6 []
def Ra:=zv 99 0 7 []
def Zv:=zv 98 15 0 [97]
def wO:=iC [DG,nU]
def Zw:AV:=.agg [.str [103,101,111],.sl [],.sl [VW 120],.sl [Rc],.sl [DG,nU],.bool true,.sl [],.sl [Rc],.sl []]
def Zx:AV:=.agg [.str [103,101,111],.sl [],.sl [VW 120,VW 121],.sl [Rc,Rc],.sl [DG,nU],.bool false,.sl [],.sl [],.sl []]
def wA(s:List UInt8)(e:Int):AV:=.tup [VX,.str s,qi e]
def DI(l:List AV):AV:=.tup [iC l,.str [],qi 0]
def abZ:dQ pg 60 10 [wO,iC [Lz,nU],iC [DG,Q9],.sl []] []= .ok (DI [Lz,Q9]) []:=BT
def ab0:dQ pg 60 10 [wO,iC [nU],iC [DG,nU,Ra],.sl []] []= .ok (DI [nU,Ra]) []:=BT
def ab1:dQ pg 60 10 [wO,iC [Lz,nU],iC [Q8,nU],.sl []] []= .ok (wA [97] 27) []:=BT
def ab2:dQ pg 60 10 [wO,iC [nU],iC [Q8,nU],.sl []] []= .ok (wA [97] 27) []:=BT
def ab3:dQ pg 60 10 [wO,iC [nU],iC [DG,Zv],.sl []] []= .ok (wA [98] 12) []:=BT
def ab4:dQ pg 60 10 [wO,Zw,Zx,.sl []] []= .ok (wA [109,111,118,101] 27) []:=BT
def B6{a:List AV}{v:AV}(ha:eB ai a=a)(h:dQ pg 60 10 a []= .ok v []):aa pg 10 a=ao v:=by
 have e:aa pg 10 a=aF (cj (pg.cx (aa pg) Tryz.f10.ntmps L0) ae Tryz.f10 (pg.own 10) (eB ai a)):=fw hOther rfl rfl rfl a;have h1:=Mm hOther h AI;rw[e]at h1 |-;funext hp;unfold aF at h1 |-;generalize cj (pg.cx (aa pg) Tryz.f10.ntmps L0) ae Tryz.f10 (pg.own 10) (eB ai a) []=r at h1 |-;cases r with
 |ok w h'=>
  simp only[R.ok.injEq]at h1;show R.ok (jt 6 h' w) hp=_;rw[h1.1];rfl
 |pan w h'=>cases h1
 |fail=>cases h1
def Rb:List (List AV×AV):=[([wO,iC [Lz,nU],iC [DG,Q9],.sl []],DI [Lz,Q9]),([wO,iC [nU],iC [DG,nU,Ra],.sl []],DI [nU,Ra]),([wO,iC [Lz,nU],iC [Q8,nU],.sl []],wA [97] 27),([wO,iC [nU],iC [Q8,nU],.sl []],wA [97] 27),([wO,iC [nU],iC [DG,Zv],.sl []],wA [98] 12),([wO,Zw,Zx,.sl []],wA [109,111,118,101] 27)]
def VY:∀x∈Rb,eB ai x.1=x.1/\aa pg 10 x.1=ao x.2:=by
 intro x hx;simp only[Rb,ac2,List.not_mem_nil,or_false]at hx;rcases hx with rfl|rfl|rfl|rfl|rfl|rfl
 ·exact⟨BT,B6 BT abZ⟩
 ·exact⟨BT,B6 BT ab0⟩
 ·exact⟨BT,B6 BT ab1⟩
 ·exact⟨BT,B6 BT ab2⟩
 ·exact⟨BT,B6 BT ab3⟩
 ·exact⟨BT,B6 BT ab4⟩
def abY:lD pg (OC pg 10 60 Rb) (dV 60) 4 [] []= .ok (.bool true) []:=BT
def LA:aa pg 4 []=ao (.bool true):=by
 funext h;have h1:=Kn hOther (JW hOther 10 (fw hOther rfl rfl rfl) 60 Rb VY) abY AI;have e:∀h,aa pg 4 [] h=aF (cj (pg.cx (aa pg) Tryz.f4.ntmps UE) ae Tryz.f4 (pg.own 4) (eB ai [])) h:=fun h=>ae5 (fw hOther rfl rfl rfl []) h;rw[e]at h1 |-;unfold aF at h1 |-;generalize cj (pg.cx (aa pg) Tryz.f4.ntmps UE) ae Tryz.f4 (pg.own 4) (eB ai []) []=r at h1 |-;cases r with
 |ok v h'=>
  simp only[R.ok.injEq]at h1;show R.ok (jt 6 h' v) h=_;rw[h1.1];rfl
 |pan v h'=>cases h1
 |fail=>cases h1
end Go.Proofs.YtkidiopjcgeifaaGreat
namespace Go.Proofs.YtkidiopjcgeifaaGreat.Mg
open Go Go.Av Go.Av.Ap
set_option maxRecDepth 100000
section
variable {a b c:Mod} {B:List Mod} {F:List Face} {args:List Val}
theorem Vs(K:Keep a b c B F args)(z:Int)(hz0:0<=z)(hz1:z<=255)(w:List Int)(hfl:b.funcs.length≠0):∀(n k:Nat),4-k=n->k<=4->(1<k->∀s∈gO (dU a 1++(dU b 1++dU c 1)) [],mT a c 1 s)->
  ae (L3_2 (aa pg) ae) (Z1 a b c (dJ a b c F).1 B z args w k)=ao (.bool true):=by
 have lm:∀m:Mod,ay T 29 (.ip (ab m.av))=some m.av:=fun m=>AI
 intro n
 induction n with
 | zero=>
  intro k hn hk hq;obtain rfl:k=4:=WD
  have hv:∀s∈b.vars.map (·.1),mT a c 1 s:=fun s hs=>hq Vc s (uQ _ _ (.inr (adt _ (adB _ hs))));have g:decide (((4:Nat):Int)<4)=false:=rfl;have hbl:=K.bl;have hff:=K.fb.funcs;obtain⟨k,hk⟩:∃k:Nat,z.tmod (b.funcs.length:Int)=(k:Int):=⟨(z.tmod (b.funcs.length:Int)).toNat,(Int.toNat_of_nonneg (Int.tmod_nonneg _ hz0)).symm⟩;have hlt:k<b.funcs.length:=by
   have:=Int.tmod_lt_of_pos z (show (0:Int)<(b.funcs.length:Int) by omega)
   omega
  have hcv:AW T 5 3 (.int .u8 z)=some (.int .i64 z):=by
   have:AW T 5 3 (.int .u8 z)=some (.int .i64 (IntKind.i64.wrap z)):=rfl;rw[this,aW WD WD]
  have hn0:¬((b.funcs.length:Int)=0):=WD
  have hrm:bN T .rem 3 (qi z) (qi (b.funcs.length:Int))=some (.int .i64 (k:Int)):=by
   have:bN T .rem 3 (qi z) (qi (b.funcs.length:Int))=if(b.funcs.length:Int)=0 then none else some (.int .i64 (z.tmod (b.funcs.length:Int))):=rfl;rw[this,acE hn0,hk]
  have hix:=sW (l:=b.funcs) (n:=(k:Int)) WD WD;rw[acG,acF b.funcs k hlt]at hix;have hmem:=List.getElem_mem hlt;generalize b.funcs[k]=f at hix hmem;have f4:∀cs,ar T 29 (.ip cs) 4=some (.ip (cs.drop 4)):=fun _=>rfl;have l4:∀m:Mod,ay T 25 (.ip ((ab m.av).drop 4))=some (eL m.funcs):=fun m=>AI
  have f0:∀cs,ar T 29 (.ip cs) 0=some (.ip (cs.drop 0)):=fun _=>rfl;have l0:∀m:Mod,ay T 9 (.ip ((ab m.av).drop 0))=some (.str m.name):=fun m=>AI
  have fN:ar T 56 (.ip (ab f.av)) 0=some (.ip (ab f.av)):=rfl;have lN:ay T 9 (.ip (ab f.av))=some (.str f.name):=AI
  have b0:aI T 30 0 []=some (mods []):=rfl;have aB:dL T 30 (mods []) (mods B)=some (mods B):=Wz (a:=[]) (b:=B) Bk;have bm:∀m:Mod,aI T 30 1 [(0,m.av)]=some (mods [m]):=fun _=>rfl;have aM:∀m:Mod,dL T 30 (mods B) (mods [m])=some (mods (B++[m])):=fun m=>Wz (a:=B) (b:=[m]) Bk;have bR:bW T false 60 [(0,.str b.name),(1,.str f.name)]=some (dj (b.name,f.name)):=rfl;have S:Go.Proofs.YtkidiopjcgeifaaGreat.Sm (B++[b]):=VZ (fun m hm=>by
   rcases acZ.1 hm with h|h
   ·exact (K.bm m h).1
   ·rw[adk]at h;subst h;exact K.lb) Bk (fun m hm=>by
   rcases acZ.1 hm with h|h
   ·have:=(K.bm m h).2.funcs;omega
   grind)
  have hA:=t15 S (b.name,f.name);have hlen:(ry (B++[b]) (b.name,f.name)).length<=1000000:=by grind [ry,u9,BQ]
  have hloop:=Vq K hv ⟨f,hmem,rfl⟩ w rfl hlen _ 0 rfl (acU _) (fun r hr=>by simp at hr);simp_all[FL3_2,L3_2,Z1]
 | succ n ih=>
  intro k hn hk hq;have hlt:k<4:=WD
  have g:(k:Int)<4:=WD
  have sa:=zH K.fa;have sb:=zH K.fb;have sc:=zH K.fc;have o1:=t13 a sa k hlt;have o2:=t13 b sb k hlt;have o3:=t13 c sc k hlt;have hnm:=t12 (dU a k) (dU b k) (dU c k) (jx sa k) (jx sb k) (jx sc k);have hl2:(gO (dU a k++(dU b k++dU c k)) []).length<=1000000:=by
   have hl:=qy (dU a k++(dU b k++dU c k)) []
   have:=jx sa k;have:=jx sb k;have:=jx sc k
   simp only[ac7,acS]at hl;omega
  have h0:=Vp K z w k hlt _ hl2 (ae (L3_2 (aa pg) ae)) (fun hp=>ih (k+1) WD WD fun h1 s hs=>by
   grind) _ 0 rfl (acU _) (fun _ s hs=>by simp at hs)
  rw[FL3_2];simp -implicitDefEqProofs only[L3_2,Z1,ak,au,af,aC,g,acX,ah,acK,lm,o1,o2,o3,hnm,bE,aj];exact h0
def ZZ(a b c:Mod)(B:List Mod)(z:Int)(args:List Val)(w:List Int)(i:Nat):List AV:=[mods B,.int .u8 z,vals args,ints w,.ip (ab a.av),.ip (ab b.av),.ip (ab c.av),.bool true,faces ((B.take i).map pJ),qi i]
theorem EA{m:Mod}{F:List Face}(h:(fK m F).2=0):cU m=true:=by
 unfold fK at h
 grind
theorem I4{j:Nat}(hacc:∀j (h:j<B.length),(fK B[j] ((B.take j).map pJ)).2=0){f:Face}(hf:f∈(B.take j).map pJ):∃m∈B,m.name=f.module:=by
 obtain⟨m,hm,rfl⟩:=adj.1 hf;have hm:=ae0 hm;obtain⟨i,hi,rfl⟩:=aew hm;refine⟨_,hm,?_⟩;unfold pJ;rw[acL (EA (hacc i hi))]
theorem HW(la:a.Lim)(lb:b.Lim)(lc:c.Lim)(fa:FewMod a)(fb:FewMod b)(fc:FewMod c)(bl:B.length<=2)(bL:∀m∈B,m.Lim)(asz:bw args<=4611686018427387904)(z:Int)(hz0:0<=z)(hz1:z<=255)(w:List Int)(hfl:b.funcs.length≠0):
  ∀(n i:Nat),B.length-i=n->i<=B.length->(∀m∈B.take i,FewMod m)->(∀j (h:j<B.length),j<i->(fK B[j] ((B.take j).map pJ)).2=0)->ae (L3_3 (aa pg) ae) (ZZ a b c B z args w i)=ao (.bool true):=by
 have lm:∀m:Mod,ay T 29 (.ip (ab m.av))=some m.av:=fun m=>AI
 have fl:∀i,∀f∈(B.take i).map pJ,f.Lim:=fun i f hf=>by
  obtain⟨m,hm,rfl⟩:=adj.1 hf
  grind [QO]
 have fn:∀i,((B.take i).map pJ).length<=140737488355328:=fun i=>by simp;omega
 have en:∀e:Int,bN T .neq 38 (qi e) (qi 0)=some (.bool (e != 0)):=fun _=>rfl;have x0:∀x:aA×Int,jK (rW x) 0=some (.str x.1):=fun _=>rfl;have x1:∀x:aA×Int,jK (rW x) 1=some (.int .i64 x.2):=fun _=>rfl;intro n
 induction n with
 | zero=>
  intro i hn hi hq hacc;obtain rfl:i=B.length:=WD
  have g:¬((B.length:Int)<(B.length:Int)):=WD
  have hM:=VQ a b c _ la lb lc (fl B.length) (fn B.length);have hM:aa pg 10 [a.av,b.av,c.av,faces ((B.take B.length).map pJ)]=ao (.tup [(dJ a b c ((B.take B.length).map pJ)).1.av,.str (dJ a b c ((B.take B.length).map pJ)).2.1,qi (dJ a b c ((B.take B.length).map pJ)).2.2]):=hM;have hC:=q8 b lb _ (fl B.length) (fn B.length);have hacc':∀j (h:j<B.length),(fK B[j] ((B.take j).map pJ)).2=0:=fun j h=>hacc j h h;rw[adV]at hq;have f2:∀cs,ar T 29 (.ip cs) 2=some (.ip (cs.drop 2)):=fun _=>rfl;have l2:∀m:Mod,ay T 23 (.ip ((ab m.av).drop 2))=some (aE m.vars):=fun m=>AI
  rw[FL3_3];simp -implicitDefEqProofs only[L3_3,ZZ,ak,au,xk,af,aC,g,adg,ah,acA,acI,lm,hM,aj,cC,acV,adc,xB,hC,x0,x1,en];by_cases he:(dJ a b c ((B.take B.length).map pJ)).2.2=0
  ·by_cases hk:(fK b ((B.take B.length).map pJ)).2=0
   ·have e1:((dJ a b c ((B.take B.length).map pJ)).2.2 != 0)=false:=by rw[he];rfl
    have e2:((fK b ((B.take B.length).map pJ)).2 != 0)=false:=by rw[hk];rfl
    have hN:=t11 (dJ a b c ((B.take B.length).map pJ)).1.vars b.vars (by have:=(mR (pd he).2.1).vlen;omega);simp -implicitDefEqProofs only[e1,e2,cD,aj,ak,cy,af,f2,l2,hN,b9,ah];cases hnn:bp (fun x y:ca=>x.1== y.1) (dJ a b c ((B.take B.length).map pJ)).1.vars b.vars with
    |false=>grind
    | true=>
     simp -implicitDefEqProofs only[adb,acA,acI];have K:Keep a b c B ((B.take B.length).map pJ) args:=⟨la,lb,lc,fa,fb,fc,bl,fun m hm=>⟨bL m hm,hq m hm⟩,fun m hm=>by
      obtain⟨j,hj,rfl⟩:=aew hm;exact⟨_,hacc' j hj,fun f hf=>I4 hacc' hf⟩,fun f hf=>I4 hacc' hf,asz,he,hk,FK hnn⟩
     exact Vs K z hz0 hz1 w hfl _ 0 rfl Vc (fun h=>absurd h Vc)
   ·have e2:((fK b ((B.take B.length).map pJ)).2 != 0)=true:=by simpa using hk
    cases e1:((dJ a b c ((B.take B.length).map pJ)).2.2 != 0)<;>simp -implicitDefEqProofs only[e2,cD,ot,aj,ak,cy,dD,af,ah,acK]
  ·have e1:((dJ a b c ((B.take B.length).map pJ)).2.2 != 0)=true:=by simpa using he
   simp -implicitDefEqProofs only[e1,ot,aj,dD,af,ah,acK]
 | succ n ih=>
  intro i hn hi hq hacc;have hlt:i<B.length:=WD
  have g:(i:Int)<(B.length:Int):=WD
  have hw:IntKind.i64.wrap ((i:Int)+1)=((i+1:Nat):Int):=aH WD;have hm:=bL _ (List.getElem_mem hlt);have hix:=D8 (l:=B) (n:=(i:Int)) WD g;rw[acG,acF B i hlt]at hix;have hC:=q8 B[i] hm _ (fl i) (fn i);have hO:=q9 B[i] hm;obtain⟨bf,hbf,hfw⟩:=t7 B[i] hm;have h3:(B.take (i+1)).map pJ=(B.take i).map pJ++[pJ B[i]]:=by
   rw[List.take_add_one,acH hlt,adO];rfl
  have ht:B.take (i+1)=B.take i++[B[i]]:=by rw[List.take_add_one,acH hlt];rfl
  have hB:aI T 36 1 [(0,(pJ B[i]).av)]=some (faces [pJ B[i]]):=rfl;have hA:dL T 36 (faces ((B.take i).map pJ)) (faces [pJ B[i]])=some (faces ((B.take i).map pJ++[pJ B[i]])):=Z6 Bk;rw[FL3_3];simp -implicitDefEqProofs only[L3_3,ZZ,ak,au,xk,af,aC,g,acX,ah,acK,hix,lm,hbf,aj,b9];cases bf with
  |false=>grind
  | true=>
   simp -implicitDefEqProofs only[adb,acA,acI,hC,aj,x0,x1,af,en,ah];by_cases h0:(fK B[i] ((B.take i).map pJ)).2=0
   ·have e1:((fK B[i] ((B.take i).map pJ)).2 != 0)=false:=by rw[h0];rfl
    have h4:=ih (i+1) WD WD (fun m hm'=>by
     grind) (fun j hj hji=>by
     grind)
    unfold ZZ at h4;rw[h3]at h4;simp -implicitDefEqProofs only[e1,acA,acI,hO,aj,hB,af,hA,aY,hw];exact h4
   grind
end
def t3(a b c:Mod)(B:List Mod)(z:Int)(args:List Val)(w:List Int)(la:a.Lim)(lb:b.Lim)(lc:c.Lim)(hB:B.length<=140737488355328/\∀m∈B,m.Lim)(hz0:0<=z)(hz1:z<=255)(ha:args.length<=140737488355328/\∀v∈args,v.Lim):
  aa pg 3 [a.av,b.av,c.av,mods B,.int .u8 z,vals args,ints w]=ao (.bool true):=by
 obtain⟨r,hr,hq⟩:=t5 a b c la lb lc [] AI (fun f hf=>by cases hf);have hr:aa pg 5 [a.av,b.av,c.av,.sl []]=ao (.bool r):=hr;obtain⟨s,hs,hsz⟩:=t6 args ha.1 ha.2;rw[C3,fL,fL,fL,oT,show cl ai (.int .u8 z)= .int .u8 z from rfl,show cl ai (vals args)=vals args by simp,show cl ai (ints w)=ints w by simp];have lm:∀m:Mod,ay T 29 (.ip (ab m.av))=some m.av:=fun m=>AI
 have f4:∀cs,ar T 29 (.ip cs) 4=some (.ip (cs.drop 4)):=fun _=>rfl;have l4:∀m:Mod,ay T 25 (.ip ((ab m.av).drop 4))=some (eL m.funcs):=fun m=>AI
 have gt:∀x y:Int,bN T .gtr 3 (qi x) (qi y)=some (.bool (decide (y<x))):=fun _ _=>rfl;have key:S3 (aa pg) ae a.av b.av c.av (mods B) (.int .u8 z) (vals args) (ints w)=ao (.bool true):=by
  simp -implicitDefEqProofs only[S3,LA,aj,lm,af,hr,b9,xk,gt,aV,ak,iR,hs,LQ,f4,l4,Ss,ej,ah];cases hg:(!r||decide ((2:Int)<(B.length:Int))||!s||decide ((30:Int)<(w.length:Int))||((b.funcs.length:Int)== 0))with
  |true=>grind
  | false=>
   simp only[aeb,aey,aeh]at hg;obtain⟨⟨⟨⟨rfl,h1⟩,rfl⟩,_⟩,h2⟩:=hg;obtain⟨fa,fb,fc⟩:=hq rfl;have h2:b.funcs.length≠0:=by
    have:=ne_of_beq_false h2
    omega
   have hloop:=HW la lb lc fa fb fc WD hB.2 (hsz rfl) z hz0 hz1 w h2 _ 0 rfl (acU _) (fun m hm=>by simp at hm) (fun j _ h=>WD);simp -implicitDefEqProofs only[acA,acI];exact hloop
 simp_all
end Go.Proofs.YtkidiopjcgeifaaGreat.Mg
namespace Go.Proofs.YtkidiopjcgeifaaGreat
open Go Go.Av Go.Av.Ap
def t3(a b c:Mod)(B:List Mod)(z:Int)(args:List Val)(w:List Int)(la:a.Lim)(lb:b.Lim)(lc:c.Lim)(hB:B.length<=140737488355328/\∀m∈B,m.Lim)(hz0:0<=z)(hz1:z<=255)(ha:args.length<=140737488355328/\∀v∈args,v.Lim):
  aa pg 3 [a.av,b.av,c.av,mods B,.int .u8 z,vals args,ints w]=ao (.bool true):=Mg.t3 a b c B z args w la lb lc hB hz0 hz1 ha
end Go.Proofs.YtkidiopjcgeifaaGreat
namespace Go.Proofs.YtkidiopjcgeifaaGreat.patchKeeps
open Go Go.Av Go.Av.Ap Go.ChangeShapes Go.WideShapes Go.ChangeAt Go.RowKit Go.Joins Go.Deep
set_option maxRecDepth 1000000
def kids:Kids Tryz.prog (· < Tryz.prog.types.size):=kids_rows BT BT
def Gs:∀t e,t<Tryz.prog.types.size->Tryz.prog.underlying t=some (.slice e)->0<Tryz.prog.cellsOf e:=slices_full_of Tryz.prog BT
def Mz(H:Type)(enc:TypeId×Value->H)(W:World)(base:Nat)(args:Array Value)(ds gs:List (DataW H))(before:List MemPlace)(hval:∀(j:Nat) t v,Tryz.f3.params[j]? = some t->args[j]? = some v->Value.okWide Tryz.prog W .any base t v)(hW:DataW.Whole enc Tryz.prog Tryz.f3.params.toList Rows.patchKeepsSpec.vars false W args.toList ds gs before)(hz:(DataW.weightsEach Tryz.prog (Tryz.f3.params.toList++Rows.patchKeepsSpec.plain.varTypes Tryz.prog) (ds++gs)).all (· <=reachBytes)=true)(hL:laidMetH Tryz.prog Rows.patchKeepsRow.laid W)(hS:W.ShapedOpen Tryz.prog):
  Calls Tryz.prog 3 args W fun e W'=>∃v,e= .returned v/\Rows.patchKeepsSpec.post enc Tryz.prog Tryz.f3 false true false false W args v W':=by
 have hW':=hW;obtain⟨p,q,hA0,hV,rfl,hfz,hnd⟩:=hW;have hA:DataW.TrodAll enc Tryz.prog W 0 (fun _=>true) true Tryz.f3.params.toList args.toList ds p:=hA0;have hA1:=hA;rw[Tryz.params3]at hA hval hz;obtain⟨v0,vs0,d0,ds0,p0,q0,ha0,rfl,rfl,h0,r0⟩:=trodAll_cons hA;obtain⟨v1,vs1,d1,ds1,p1,q1,ha1,rfl,rfl,h1,r1⟩:=trodAll_cons r0;obtain⟨v2,vs2,d2,ds2,p2,q2,ha2,rfl,rfl,h2,r2⟩:=trodAll_cons r1;obtain⟨v3,vs3,d3,ds3,p3,q3,ha3,rfl,rfl,h3,r3⟩:=trodAll_cons r2;obtain⟨v4,vs4,d4,ds4,p4,q4,ha4,rfl,rfl,h4,r4⟩:=trodAll_cons r3;obtain⟨v5,vs5,d5,ds5,p5,q5,ha5,rfl,rfl,h5,r5⟩:=trodAll_cons r4;obtain⟨v6,vs6,d6,ds6,p6,q6,ha6,rfl,rfl,h6,r6⟩:=trodAll_cons r5;obtain⟨hnil,rfl,rfl⟩:=trodAll_nil r6;subst hnil;subst ha6;subst ha5;subst ha4;subst ha3;subst ha2;subst ha1;obtain rfl:args= #[v0,v1,v2,v3,v4,v5,v6]:=by cases args;simp_all
 obtain⟨rfl,rfl⟩:=trodVars_none hV;obtain⟨x0,k0,o0⟩:=rR (fun N=>(Dt N).le (aeD N)) (fun a=>rfl) Tryz.underlying29 (hval 0 29 v0 rfl rfl) h0 (jd hz (j:=0) rfl rfl);obtain⟨x1,k1,o1⟩:=rR (fun N=>(Dt N).le (aeD N)) (fun a=>rfl) Tryz.underlying29 (hval 1 29 v1 rfl rfl) h1 (jd hz (j:=1) rfl rfl);obtain⟨x2,k2,o2⟩:=rR (fun N=>(Dt N).le (aeD N)) (fun a=>rfl) Tryz.underlying29 (hval 2 29 v2 rfl rfl) h2 (jd hz (j:=2) rfl rfl);obtain⟨x3,k3,o3⟩:=uu (fun N=>QZ N) Tryz.underlying30 (hval 3 30 v3 rfl rfl) h3 (jd hz (j:=3) rfl rfl);obtain⟨x4,k4,o4⟩:=Pb (fun N=>qG Tryz.underlying5) Tryz.underlying5 (hval 4 5 v4 rfl rfl) h4 (jd hz (j:=4) rfl rfl);obtain⟨x5,k5,o5⟩:=uu (fun N=>Q0 N) Tryz.underlying31 (hval 5 31 v5 rfl rfl) h5 (jd hz (j:=5) rfl rfl);obtain⟨x6,k6,o6⟩:=uu (fun N=>QY N) Tryz.underlying32 (hval 6 32 v6 rfl rfl) h6 (jd hz (j:=6) rfl rfl);clear hA0;simp only[adL]at hW' hA1;have hlt:=hW'.lt;have hv:be (nf W) [] [x0.av,x1.av,x2.av,mods x3,.int .u8 x4,vals x5,ints x6] [v0,v1,v2,v3,v4,v5,v6]:=by
  simp only[be];exact⟨_,_,rfl,k0,_,_,rfl,k1,_,_,rfl,k2,_,_,rfl,k3,_,_,rfl,k4,_,_,rfl,k5,_,_,rfl,k6,rfl⟩
 refine (KY good hOther (U8 hS) hv (by rw[t3 x0 x1 x2 x3 x4 x5 x6 o0 o1 o2 ⟨o3.1,o3.2⟩ (OL o4).1 (OL o4).2 ⟨o5.1,o5.2⟩];rfl)).mono fun e W' ⟨he,hb⟩=>?_;subst he;exact⟨_,rfl,Al (pv:=[]) hW' (fun _ _ _=>trodAll_cons_mk (shut_bool Tryz.underlying4 _) trodAll_mk0) (fun sp hsp=>
   GX kids Gs (by rw[Tryz.params3];decide +kernel) hA1 hlt hb sp hsp) (fun _ _=>rfl) AI
  hb (ok_one BT rfl (okWide_bool_mk Tryz.underlying4 _))⟩
def reads(os:Os){H:Type}(enc:TypeId×Value->H):∃ds places,DataW.whole enc Tryz.prog ((Bn os).forCall (fun _ _=>0) ⟨#[],#[.agg #[.string ⟨#[]⟩,.slice none 0 0,.slice none 0 0,.slice none 0 0,.slice none 0 0,.bool false,.slice none 0 0,.slice none 0 0,.slice none 0 0],.agg #[.string ⟨#[]⟩,.slice none 0 0,.slice none 0 0,.slice none 0 0,.slice none 0 0,.bool false,.slice none 0 0,.slice none 0 0,.slice none 0 0],.agg #[.string ⟨#[]⟩,.slice none 0 0,.slice none 0 0,.slice none 0 0,.slice none 0 0,.bool false,.slice none 0 0,.slice none 0 0,.slice none 0 0],.slice none 0 0,.int .u8 0,.slice none 0 0,.slice none 0 0],[]⟩).memory Tryz.f3.params.toList Rows.patchKeepsSpec.vars false #[.agg #[.string ⟨#[]⟩,.slice none 0 0,.slice none 0 0,.slice none 0 0,.slice none 0 0,.bool false,.slice none 0 0,.slice none 0 0,.slice none 0 0],.agg #[.string ⟨#[]⟩,.slice none 0 0,.slice none 0 0,.slice none 0 0,.slice none 0 0,.bool false,.slice none 0 0,.slice none 0 0,.slice none 0 0],.agg #[.string ⟨#[]⟩,.slice none 0 0,.slice none 0 0,.slice none 0 0,.slice none 0 0,.bool false,.slice none 0 0,.slice none 0 0,.slice none 0 0],.slice none 0 0,.int .u8 0,.slice none 0 0,.slice none 0 0].toList 8=some (ds,[],places):=
 ⟨[.agg [.lit (.string []),.nil,.nil,.nil,.nil,.lit (.bool false),.agg [.nil,.nil,.nil]],.agg [.lit (.string []),.nil,.nil,.nil,.nil,.lit (.bool false),.agg [.nil,.nil,.nil]],.agg [.lit (.string []),.nil,.nil,.nil,.nil,.lit (.bool false),.agg [.nil,.nil,.nil]],.nil,.lit (.int .u8 0),.nil,.nil],[],BT⟩
def lifted(os:Os)(started:os.Started)(H:Type)(enc:TypeId×Value->H)(F:Stop.Interp):
  ReturnsInHanded {} Tryz.checked os 3 .any ((OpenSpec.ofChange Rows.patchKeepsSpec).preRow enc Tryz.prog Tryz.f3 Rows.patchKeepsRow.domain false Rows.patchKeepsRow.laid) (((OpenSpec.ofChange Rows.patchKeepsSpec).at F).post enc Tryz.prog Tryz.f3 false true false false):=by
 obtain⟨ds,places,hx⟩:=reads os enc;refine returnsInHanded_of_row (C:=Tryz.checked) (s:=OpenSpec.ofChange Rows.patchKeepsSpec) abQ started BT Tryz.func3
  (witness_row_atRef (enc:=enc) (C:=Tryz.checked) false (Bn os) #[.agg #[.string ⟨#[]⟩,.slice none 0 0,.slice none 0 0,.slice none 0 0,.slice none 0 0,.bool false,.slice none 0 0,.slice none 0 0,.slice none 0 0],.agg #[.string ⟨#[]⟩,.slice none 0 0,.slice none 0 0,.slice none 0 0,.slice none 0 0,.bool false,.slice none 0 0,.slice none 0 0,.slice none 0 0],.agg #[.string ⟨#[]⟩,.slice none 0 0,.slice none 0 0,.slice none 0 0,.slice none 0 0,.bool false,.slice none 0 0,.slice none 0 0,.slice none 0 0],.slice none 0 0,.int .u8 0,.slice none 0 0,.slice none 0 0] rfl BT BT BT
   (OpenSpec.preRow_of_cond 8 hx BT (fun k hk=>by cases hk) BT (laidMet_nil _ _))) ?_
 intro W base args ds gs before hval hW _ _ hz hL hS _;exact Mz H enc W base args ds gs before hval hW hz hL hS
end Go.Proofs.YtkidiopjcgeifaaGreat.patchKeeps
