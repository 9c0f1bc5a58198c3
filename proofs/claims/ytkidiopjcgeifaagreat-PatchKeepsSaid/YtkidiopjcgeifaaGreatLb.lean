/- The abstract evaluator and plain laws, part 2. Condition: the table of types is the program's. -/
import Derived.Test.YtkidiopjcgeifaaGreatLa
import Derived.Sort.MapsRangeIn
import Derived.Maps.OwnIn
import Derived.RangeFuncSeq
import Derived.Orders
set_option linter.defProp false
set_option linter.unusedSimpArgs false
set_option linter.unusedVariables false
namespace Go.Av
mutual
theorem vH{S S':az}{β β':List bQ}{g:Nat->Nat->Nat->Nat->Bool->AV}(hS:S.le S')(hg:∀l off len sz ag v,VR S β (.hs l off len sz ag) v->VR S' β' (g l off len sz ag) v):(a:AV)->(v:Value)->VR S β a v->VR S' β' (cl g a) v
 |.any,_,_=>by simp[cl,VR]
 |.bool _,_,x=>by simpa [cl,VR]using x
 |.int _ _,_,x=>by simpa [cl,VR]using x
 |.str _,_,x=>by simpa [cl,VR]using x
 |.nilp,_,x=>by simpa [cl,VR]using x
 |.nilf,_,x=>by simpa [cl,VR]using x
 |.nili,_,x=>by simpa [cl,VR]using x
 |.mp _,_,_=>by simp[cl,VR]
 |.it _,_,_=>by simp[cl,VR]
 |.nilm,_,x=>by simpa [cl,VR]using x
 |.nilb _,_,x=>by simpa [cl,VR]using x
 |.byt _ _,_,x=>by simpa [cl,VR]using x
 |.agg cs,v,x=>by
  simp only[cl,VR]at x |-;obtain⟨vs,rfl,y⟩:=x;exact⟨vs,rfl,rT hS hg cs vs y⟩
 |.tup cs,v,x=>by
  simp only[cl,VR]at x |-;obtain⟨vs,rfl,y⟩:=x;exact⟨vs,rfl,rT hS hg cs vs y⟩
 |.sl es,v,x=>by
  simp only[cl,VR]at x |-;obtain⟨a,cap,rfl,hc,hn,hq⟩:=x;have hl:(eB g es).length=es.length:=xJ g es;refine⟨a,cap,by rw[hl],qr,hn,fun q e=>?_⟩;obtain⟨hs,sz,he⟩:=hq q e;exact⟨hs,sz,ME hS hg es _ _ _ he⟩
 |.ip cs,v,x=>by
  simp only[cl,VR]at x |-;obtain⟨b,off,vs,rfl,y,z⟩:=x;exact⟨b,off,vs,rfl,rT hS hg cs vs y,z.mono hS⟩
 |.hp l off,v,x=>by simp[cl,VR]
 |.hn,v,x=>by
  simp only[cl,VR]at x |-
  grind
 |.he,v,x=>by
  simp only[cl,VR]at x |-;obtain⟨a,rfl⟩:=x;exact⟨a,0,rfl,acC _,fun _=>rfl,fun q _=>⟨fun h=>WD,0,by simp[eB,cr]⟩⟩
 |.hs l off len sz ag,v,x=>by
  grind [cl]
 |.fn f a c,v,x=>by
  simp only[cl,VR]at x |-;obtain⟨x,y,rfl,hx,hy⟩:=x;exact⟨x,y,rfl,rT hS hg a x hx,rT hS hg c y hy⟩
 |.iface t a,v,x=>by
  simp only[cl,VR]at x |-;obtain⟨y,rfl,hy⟩:=x;exact⟨y,rfl,vH hS hg a y hy⟩
theorem xJ(g:Nat->Nat->Nat->Nat->Bool->AV):(cs:List AV)->(eB g cs).length=cs.length
 |[]=>rfl
 |c:: cs=>by simp[eB,xJ g cs]
theorem rT{S S':az}{β β':List bQ}{g:Nat->Nat->Nat->Nat->Bool->AV}(hS:S.le S')(hg:∀l off len sz ag v,VR S β (.hs l off len sz ag) v->VR S' β' (g l off len sz ag) v):(cs:List AV)->(vs:List Value)->be S β cs vs->be S' β' (eB g cs) vs
 |[],_,x=>by simpa [eB,be]using x
 |c:: cs,vs,x=>by
  simp only[eB,be]at x |-;obtain⟨y,ys,rfl,hy,hys⟩:=x;exact⟨y,ys,rfl,vH hS hg c y hy,rT hS hg cs ys hys⟩
theorem ME{S S':az}{β β':List bQ}{g:Nat->Nat->Nat->Nat->Bool->AV}(hS:S.le S')(hg:∀l off len sz ag v,VR S β (.hs l off len sz ag) v->VR S' β' (g l off len sz ag) v):(es:List AV)->(b off sz:Nat)->cr S β es b off sz->cr S' β' (eB g es) b off sz
 |[],_,_,_,_=>by simp[eB,cr]
 |e:: es,b,off,sz,x=>by
  simp only[eB,cr]at x |-;obtain⟨⟨v,hv,hs,hc⟩,hes⟩:=x;exact⟨⟨v,vH hS hg e v hv,hs,hc.mono hS⟩,ME hS hg es b (off+sz) sz hes⟩
end
variable [Dr]
variable {β:List bQ}{S:az}
section
omit [Dr]
theorem Mv{args:List AV}{vs:List Value}(h:be S β args vs):be S [] (eB ai args) vs:=
 rT (az.le_refl S) (fun _ _ _ _ _ _ _=>by simp[ai,VR]) args vs h
theorem Dj{a:AV}{v:Value}(h:aO a=true)(hv:VR S β a v):v.cells= #[v]:=by
 cases a<;>simp only[aO,acA]at h<;>simp only[VR]at hv
 case bool=>subst hv;rfl
 case int=>subst hv;rfl
 case str=>obtain⟨x,rfl,_⟩:=hv;rfl
 case nilp=>subst hv;rfl
 case nilf=>subst hv;rfl
 case nili=>subst hv;rfl
 case sl=>obtain⟨x,c,rfl,_⟩:=hv;rfl
 case ip=>obtain⟨b,o,vs,rfl,_⟩:=hv;rfl
 case hp=>obtain⟨b,_,_,rfl⟩:=hv;rfl
 case mp=>obtain⟨b,_,_,rfl⟩:=hv;rfl
 case nilm=>subst hv;rfl
 case hs=>rcases hv with⟨b,c,_,_,rfl,_⟩|⟨_,_,rfl⟩<;>rfl
 case hn=>subst hv;rfl
 case he=>obtain⟨_,rfl⟩:=hv;rfl
 case fn=>obtain⟨x,y,rfl,_⟩:=hv;rfl
 case iface=>obtain⟨x,rfl,_⟩:=hv;rfl
theorem ym{S S2:az}{β β2:List bQ}{w:World}{ω:Nat->Owner}{h:Hp}(hH:ge S β w ω h)(hS:S.le S2)(h2:∀(b o:Nat)(x:Array Value),cQ β h b->Row w b x->S2 b o=x[o]?):∀(d:Nat)(a:AV)(v:Value),VR S β a v->VR S2 β2 (jt d h a) v
 |0,a,v,hv=>vH hS (fun _ _ _ _ _ _ _=>by simp[ai,VR]) a v hv
 | d + 1,a,v,hv=>by
  refine vH hS (fun l off len sz ag u hu=>?_) a v hv;cases hl:h[l]? with
  |none=>simp[VR]
  | some cs=>
   simp only;cases hc:(decide (off+len*sz<=cs.length)&&decide (0<sz)&&(ag||(Nat.beq sz 1&&cs.all aO)))with
   |false=>simp[VR]
   | true=>
    simp only[acB,acP,adm]at hc;obtain⟨⟨hc1,hc2⟩,hc3⟩:=hc;simp only[acD];simp only[VR]at hu |-;rcases hu with⟨⟨b,nb⟩,cap,hβ,hb0,rfl,hlc,hcn⟩|⟨h00,q0,rfl⟩
    rotate_left
    ·subst h00;exact⟨some q0,0,rfl,acC _,fun _=>rfl,fun q hq=>⟨fun h=>absurd h WD,sz,trivial⟩⟩
    refine⟨some ⟨b,off,none⟩,cap,AI,by simpa using hlc,(fun hh=>by cases hh),fun q hq=>?_⟩;simp only[acz]at hq;subst hq;refine⟨fun _=>rfl,sz,.of_get fun i e he=>?_⟩;have hi:i<len:=by
     rcases ac9 i len with h'|h'
     ·exact h'
     ·grind
    rw[adK,List.getElem?_range hi]at he;simp only[adv,acz]at he;have hile:off+i*sz+sz<=cs.length:=by
     have:(i+1)*sz<=len*sz:=ac4 _ hi;rw[Nat.add_mul]at this;omega
    have hne:cs≠[]:=by rintro rfl;simp at hile;omega
    obtain⟨x,k1,k2,k3,k4,k5⟩:=hH.cells hl hne hβ hb0;rw[hβ]at k1;simp only[acz,ado,aeR]at k1;subst k1;have hx:=k4.length;simp only[aei,adE]at hx;have hS2:∀o,S2 b o=x[o]?:=fun o=>h2 b o x ⟨l,cs,_,hl,hne,hβ⟩ k2;subst he;cases ag with
    |true=>
     simp only[acD];have hsub:=(k4.drop (off+i*sz)).take sz;refine⟨.agg (((x.toList.take cs.length).drop (off+i*sz)).take sz).toArray,ym hH hS h2 d _ _ (by simp only[VR];grind),?_,fun j y hy=>?_⟩
     all_goals grind [Value.cells]
    |false=>
     simp only[acO];simp only[acA,false_or]at hc3;have hsz:sz=1:=Nat.eq_of_beq_eq_true hc3.1;subst hsz;have hlt:off+i*1<cs.length:=WD
     have hcs:cs[off+i*1]? = some (aD cs (off+i*1)):=by unfold aD;rw[adH,acH hlt];rfl
     obtain⟨y,hy1,hy2⟩:=k4.get hcs;have hok:=acQ.1 hc3.2 _ (adl hcs);have hcells:=Dj hok hy2;refine⟨y,ym hH hS h2 d _ _ hy2,qr,fun j z hz=>?_⟩
     grind
end
variable {a:Act}{c:Entry}{e:Env}{h:Hp}{N:Nat}{U:Nat->Prop}{w:World}
theorem FR.weak{e2:Env}{γ:Nat->Value}{lam:Nat->Option Nat}{ω:Nat->Owner}(H:FR c N U e h a w S β γ lam ω)(hv:∀t,(e2.get t).v=(e.get t).v\/(e2.get t).v= .val .any/\t<1000)(hg:∀t g,(e2.get t).g=some g->(e.get t).g=some g)(hal:∀g z,aQ e2.al g=some z->aQ e.al g=some z)(hlb:∀B n,bb e2.lb B=some n->bb e.lb B=some n):FR c N U e2 h a w S β γ lam ω:=by
 refine⟨H.wf,H.gro,H.keep,H.le,H.ext,H.hlen,H.heap,H.tsz,fun t ht=>?_,fun t g z ht hgg hz=>H.grps t g z ht (hg t g hgg) (hal g z hz),fun B n hB=>?_,fun g z hz=>H.free g z (hal g z hz),H.mine,⟨fun t g hgg=>H.used.1 t g (hg t g hgg),fun g z hz=>H.used.2 g z (hal g z hz)⟩⟩
 ·rcases hv t with h1|⟨h1,_⟩
  ·rw[h1];exact H.slots t ht
  ·rw[h1];simp[jp,VR]
 ·obtain⟨h1,h2,h3,b,x,h4,h5,h6,h7,h8⟩:=H.lblk B n (hlb B n hB)
  grind
theorem FR.acts{a2:Act}{γ:Nat->Value}{lam:Nat->Option Nat}{ω:Nat->Owner}(H:FR c N U e h a w S β γ lam ω)(ht:a2.tmps=a.tmps):FR c N U e h a2 w S β γ lam ω:=
 ⟨H.wf,H.gro,H.keep,H.le,H.ext,H.hlen,H.heap,by rw[ht];exact H.tsz,fun t h=>by rw[ht];exact H.slots t h,fun t g z h=>by rw[ht];exact H.grps t g z h,H.lblk,H.free,H.mine,H.used⟩
open Classical in
theorem FR.freezeK{γ:Nat->Value}{lam:Nat->Option Nat}{ω:Nat->Owner}(H:FR c N U e h a w S β γ lam ω)(h1 h2:Hp)(hlen:h2.length=h.length)(hk1:∀(j:Nat)(cs:List AV),h1[j]? = some cs->cs≠[]->h[j]? = some cs)(hk2:∀(j:Nat)(cs:List AV),h2[j]? = some cs->cs≠[]->h[j]? = some cs/\∀ds:List AV,h1[j]? = some ds->ds=[]):
  ∃S2 ω2,FR c N U e h2 a w S2 β γ lam ω2/\S.le S2/\ge S β w ω h1/\∀(b o:Nat)(x:Array Value),cQ β h1 b->Row w b x->S2 b o=x[o]?:=by
 have hsub:∀b,cQ β h1 b->cQ β h b:=fun b ⟨l,cs,n,k1,k2,k3⟩=>⟨l,cs,n,hk1 l cs k1 k2,k2,k3⟩;have hown:=fun b (hb:cQ β h1 b)=>H.hown (hsub b hb);let S2:az:=fun b o=>if cQ β h1 b then w.cell? ⟨b,o,none⟩else S b o;let ω2:Nat->Owner:=fun b=>if cQ β h1 b then .no else ω b;have hn:∀b,¬cQ β h1 b->∀o,S2 b o=S b o:=fun b hb o=>acE hb;have hy:∀b,cQ β h1 b->∀o,S2 b o=w.cell? ⟨b,o,none⟩:=fun b hb o=>acL hb;have hωn:∀b,¬cQ β h1 b->ω2 b=ω b:=fun b hb=>acE hb;have hωy:∀b,cQ β h1 b->ω2 b= .no:=fun b hb=>acL hb;have hho:∀b,cQ β h1 b->∃l,ω b= .heap l:=fun b hb=>qr
 have hno:∀b,(∀l,ω b≠.heap l)->¬cQ β h1 b:=fun b hb ho=>qr
 have hle:S.le S2:=by
  intro b o v hv;by_cases hb:cQ β h1 b
  ·grind
  ·grind
 have hwf:Wf S2 w:=by
  intro b o v hv;by_cases hb:cQ β h1 b
  ·grind
  ·rw[hn b hb]at hv;exact H.wf b o v hv
 refine⟨S2,ω2,⟨hwf,H.gro,fun b hb hE=>⟨(H.keep b hb hE).1,fun o=>?_⟩,az.le_trans H.le hle,H.ext,by rw[hlen];exact H.hlen,?_,H.tsz,fun t ht=>?_,H.grps,fun B n hB=>?_,fun g z hg=>?_,fun b hb=>?_,H.used⟩,hle,?_,fun b o x hb hr=>?_⟩
 ·have:¬cQ β h1 b:=fun ho=>by
   obtain⟨l,hl⟩:=hho b ho;rcases (H.mine b (by rw[hl];simp)).1.low with h1|h1
   all_goals grind
  rw[hn b this];exact (H.keep b hb hE).2 o
 ·refine H.heap.rows hle (ig.refl β) H.hlen fun j ds hj hd=>.inl ⟨(hk2 j ds hj hd).1,fun b _ ho=>?_⟩;have hb:¬cQ β h1 b:=fun hb=>by
   obtain⟨l,cs,n,k1,k2,k3⟩:=hb;obtain⟨b',n',g1,_,g2,_⟩:=H.heap.own (hk1 l cs k1 k2) k2
   grind
  grind
 ·have:=H.slots t ht
  cases hv:(e.get t).v with
  |val av=>rw[hv]at this;exact VR.mono hle (ig.refl β) _ _ this
  |loc B off=>rw[hv]at this;exact this
 ·obtain⟨h1,h2,h3,b,x,h4,h5,h6,h7,h8⟩:=H.lblk B n hB;have hb:=hno b (fun l hl=>qr);refine⟨h1,h2,h3,b,x,h4,h5,qr,fun o=>qr,fun i hi=>?_⟩;obtain⟨v,a',g1,g2,g3,g4⟩:=h8 i hi;exact⟨v,a',g1,g2,VR.mono hle (ig.refl β) _ _ g3,g4⟩
 ·obtain⟨a',len,cap,h1,h2,h3,h4⟩:=H.free g z hg;refine⟨a',len,cap,h1,h2,h3,h4.imp id ?_⟩
  grind
 ·by_cases ho:cQ β h1 b
  ·grind
  ·have hb':ω b≠.no:=by rw[<- hωn b ho];exact hb
   exact⟨(H.mine b hb').1.of_eq (hωn b ho),(H.mine b hb').2⟩
 ·exact H.heap.rows (az.le_refl S) (ig.refl β) H.hlen fun j ds hj hd=>.inl ⟨hk1 j ds hj hd,fun b _ ho=>⟨ho,rfl,fun o h=>h⟩⟩
 ·rw[hy b hb,hr.cell]
theorem FR.freeze{γ:Nat->Value}{lam:Nat->Option Nat}{ω:Nat->Owner}(H:FR c N U e h a w S β γ lam ω):
  ∃S2 ω2,FR c N U e (h.map fun _=>[]) a w S2 β γ lam ω2/\∀v u,VR S β v u->VR S2 β (jt 6 h v) u:=by
 obtain⟨S2,ω2,F,h1,h2,h3⟩:=H.freezeK h (h.map fun _=>[]) AI (fun _ _ h _=>h) fun j cs hj hc=>by
  grind
 grind [ym]
theorem FR.freeze1{γ:Nat->Value}{lam:Nat->Option Nat}{ω:Nat->Owner}(H:FR c N U e h a w S β γ lam ω)(l:Nat):
  ∃S2 ω2,FR c N U e (h.set l []) a w S2 β γ lam ω2/\S.le S2/\∀off len sz ag u,VR S β (.hs l off len sz ag) u->VR S2 β (jt 1 h (.hs l off len sz ag)) u:=by
 have e0:∀j,j≠l->(List.replicate l ([]:List AV)++[(h[l]?).getD []])[j]? = none\/(List.replicate l ([]:List AV)++[(h[l]?).getD []])[j]? = some []:=fun j hj=>by
  grind
 have e1:(List.replicate l ([]:List AV)++[(h[l]?).getD []])[l]? = some ((h[l]?).getD []):=by
  rw[adh AI];simp
 obtain⟨S2,ω2,F,h1,h2,h3⟩:=H.freezeK (List.replicate l []++[(h[l]?).getD []]) (h.set l []) AI (fun j cs hj hc=>by
  grind) fun j cs hj hc=>by
  grind
 refine⟨S2,ω2,F,h1,fun off len sz ag u hu=>?_⟩
 have:=ym (β2:=β) h2 h1 h3 1 _ _ hu
 have e2:jt 1 h (.hs l off len sz ag)= .any\/jt 1 h (.hs l off len sz ag)=jt 1 (List.replicate l []++[(h[l]?).getD []]) (.hs l off len sz ag):=by
  simp only[jt,cl,e1];cases h[l]? with
  |none=>exact .inl rfl
  |some cs=>exact .inr rfl
 grind [VR]
variable {gid:Nat}
theorem vZ{d:Option Tmp}{u:Upd}{r:AV}{h2:Hp}(hfz:∀S β γ lam ω,FR c N U (e.upd d u) h a w S β γ lam ω->∃S2 ω2,FR c N U (e.upd d u) h2 a w S2 β γ lam ω2/\∀x,VR S β u.ent.av x->VR S2 β r x)(hd:∀t,d=some t->t<N)(hs:Shape e gid {} none u)(H:gz c N U (e.upd d u) h a w):gz c N U (e.upd d (.ofV r)) h2 a w:=by
 obtain⟨S,β,γ,lam,ω,F⟩:=H;obtain⟨S2,ω2,F2,hf⟩:=hfz _ _ _ _ _ F;have h1:=hs.ls rfl;have h22:=hs.lb rfl;have h3:=hs.unlb rfl;have h4:=hs.noad rfl;have h5:=hs.nodr rfl;have hget:∀t,(e.upd d u).get t=if d=some t then u.ent else e.get t:=fun t=>by rw[cO,h1];rfl
 have hget':∀x t,(e.upd d (.ofV x)).get t=if d=some t then⟨.val x,none⟩else e.get t:=fun x t=>by rw[cO];rfl
 have hal:(e.upd d u).al=e.al:=by show u.add++gK e.al u.drop=e.al;rw[h4,h5];rfl
 have hlb:(e.upd d u).lb=e.lb:=by show pQ (fO e.lb u.unlb) u.lb=e.lb;rw[h22,h3];rfl
 -- first forget the slot, then tell it anew
 have F3:FR c N U (e.upd d (.ofV .any)) h2 a w S2 β γ lam ω2:=by
  refine F2.weak (fun t=>?_) (fun t g hg=>?_) (fun g z hz=>by rw[hal];exact hz) (fun B n hB=>by rw[hlb];exact hB)
  ·rw[hget,hget'];split
   ·rename_i hdt;exact .inr ⟨rfl,by have h1:=hd t hdt;have h5:=F.tsz.2;grind⟩
   grind
  ·grind
 cases d with
 |none=>exact⟨S2,β,γ,lam,ω2,F3⟩
 | some s=>
  have hsl:=F.slots s (Nat.lt_of_lt_of_le (hd s rfl) F.tsz.2);rw[hget,acL rfl]at hsl;generalize hv0:a.tmps.getD s undef=v0 at hsl;have hvr:VR S β u.ent.av v0:=by
   unfold Ent.av;cases hv:u.ent.v with
   |val x=>rw[hv]at hsl;exact hsl
   |loc B off=>simp[VR]
  have F4:=F3.setV (d:=some s) hd (hf _ hvr);refine⟨S2,β,γ,lam,ω2,(F4.weak (e2:=e.upd (some s) (.ofV r)) (fun t=>.inl ?_) (fun t g hg=>?_) (fun g z hz=>hz) (fun B n hB=>hB)).acts ?_⟩
  ·rw[hget',cO];split
   ·rfl
   ·rename_i hdt;show (e.get t).v=(cF ((s,⟨.val .any,none⟩):: e.sl) t).v;rw[dC,acE (fun hh=>hdt (by rw[hh]))];rfl
  ·rw[hget']at hg;rw[cO];split at hg
   ·cases hg
   ·rename_i hdt;rw[acE hdt];show (cF ((s,⟨.val .any,none⟩):: e.sl) t).g=some g;rw[dC,acE (fun hh=>hdt (by rw[hh]))];exact hg
  ·have hlt:s<a.tmps.size:=Nat.lt_of_lt_of_le (hd s rfl) F.tsz.1;simp only[Act.put];rw[<- hv0,adQ,adf hlt]
   grind
theorem yh{d:Option Tmp}{u:Upd}(hd:∀t,d=some t->t<N)(hs:Shape e gid {} none u)(H:gz c N U (e.upd d u) h a w):gz c N U (e.upd d (.ofV (jt 6 h u.ent.av))) (h.map fun _=>[]) a w:=
 vZ (fun S β γ lam ω F=>by obtain⟨S2,ω2,F2,hf⟩:=F.freeze;grind) hd hs H
omit [Dr]in
theorem M2(v:AV)(h:Hp):∃r h2,tw v h= .ok r h2:=by
 unfold tw;split
 ·exact⟨_,_,rfl⟩
 ·split<;>exact⟨_,_,rfl⟩
 ·exact⟨_,_,rfl⟩
theorem vX{h':Hp}{d:Option Tmp}{u:Upd}{r:AV}(hd:∀t,d=some t->t<N)(hs:Shape e gid {} none u)(hr:tw u.ent.av h= .ok r h')(H:gz c N U (e.upd d u) h a w):gz c N U (e.upd d (.ofV r)) h' a w:=by
 refine vZ (gid:=gid) (fun S β γ lam ω F=>?_) hd hs H;generalize u.ent.av=v at hr;unfold tw at hr;split at hr
 ·cases hr;obtain⟨S2,ω2,F2,_,hf⟩:=F.freeze1 _;exact⟨S2,ω2,F2,fun x hx=>hf _ _ _ _ _ hx⟩
 ·split at hr
  ·rename_i l hl;cases hr;obtain⟨S2,ω2,F2,hle,hf⟩:=F.freeze1 l;refine⟨S2,ω2,F2,fun x hx=>vH hle (fun l' off len sz ag y hy=>?_) _ _ hx⟩;unfold YM;cases he:Nat.beq l' l with
   |true=>
    obtain rfl:=Nat.eq_of_beq_eq_true he;exact hf _ _ _ _ _ hy
   |false=>simp[VR]
  ·cases hr;exact⟨S,ω,F,fun x hx=>vH (az.le_refl S) (fun _ _ _ _ _ _ _=>by simp[ai,VR]) _ _ hx⟩
 ·cases hr;exact⟨S,ω,F,fun x hx=>vH (az.le_refl S) (fun _ _ _ _ _ _ _=>by simp[ai,VR]) _ _ hx⟩
theorem vY{d:Option Tmp}{u:Upd}(one:Bool)(h:Hp)(hd:∀t,d=some t->t<N)(hs:Shape e gid {} none u):
  ∃r h2,(bif one then tw u.ent.av else Jm u.ent.av) h= .ok r h2/\∀a w,gz c N U (e.upd d u) h a w->gz c N U (e.upd d (.ofV r)) h2 a w:=by
 cases one with
 |false=>exact⟨_,_,rfl,fun a w H=>yh hd hs H⟩
 |true=>
  obtain⟨r,h2,hz⟩:=M2 u.ent.av h;exact⟨r,h2,hz,fun a w H=>vX hd hs hz H⟩
end Go.Av
namespace Go.Av
variable {clock t:Nat}
section
variable {P:Program} {T:TT} {w:World} {S:az} {β:List bQ}
theorem E0{α:Type}{g:α->PUnit->Sem (ForInStep PUnit)}:∀(l:List α),(∀x∈l,(g x ⟨⟩).run P w= .ok (.yield ⟨⟩) w)->(forIn l PUnit.unit g).run P w= .ok ⟨⟩ w
 |[],_=>AI
 |x:: l,h=>by
  rw[List.forIn_cons];simp only[Sem.run_bind,h x AI,Result.andThen_ok];exact E0 l fun y hy=>h y (by simp[hy])
theorem pY(hT:TOK P T):(d n:Nat)->d<=n->(t:TypeId)->(x:AV)->(v:Value)->(em:Bool)->GO T d t x=true->VR S β x v->(Instr.checkKey em n t v).run P w= .ok () w
 |0,_,_,t,x,v,em,h,_=>by simp[GO]at h
 |d+1,0,hn,_,_,_,_,_,_=>WD
 | d + 1,n+1,hn,t,x,v,em,h,hx=>by
  unfold GO at h;cases ht:T t with
  |none=>grind
  | some ti=>
   rw[ht]at h;simp only at h;obtain⟨i,dd,z,hi,hd,_,_,hsz,_,hk,hag,hof,_⟩:=(hT.get ht).ex;unfold Instr.checkKey;simp only[Sem.run_bind,run_underlying hd,Result.andThen_ok];split at h
   case h_1 hkk=>cases dd<;>simp only[kindOf,hkk,reduceCtorEq]at hk;simp
   case h_2 hkk=>cases dd<;>simp only[kindOf,hkk,reduceCtorEq]at hk;simp
   case h_3 hkk=>cases dd<;>simp only[kindOf,hkk,reduceCtorEq]at hk;simp
   case h_4 hkk=>cases dd<;>simp only[kindOf,hkk,reduceCtorEq]at hk;simp
   case h_5 cs hkk=>
    obtain⟨fs,rfl⟩:∃fs,dd= .struct fs:=by cases dd<;>simp only[kindOf,hkk,reduceCtorEq]at hk;grind
    simp only[VR]at hx;obtain⟨vs,rfl,hvs⟩:=hx;simp only;rw[<- hof,acQ]at h
    have hall:∀f∈fs.toList,((if f.name≠ "_" then(do
       let y <- part f.type vs.toArray f.offset
       Instr.checkKey em n f.type y
       pure (ForInStep.yield PUnit.unit))else pure (ForInStep.yield PUnit.unit)):Sem (ForInStep PUnit)).run P w= .ok (.yield ⟨⟩) w:=by
     intro f hf
     have:=h (f.offset,f.type,decide (f.name≠ "_")) (by simp only[sG,adj];grind)
     simp only at this;split
     ·cases htf:T f.type with
      |none=>grind
      | some fi=>
       rw[htf]at this;simp only at this;cases hp:wn fi cs f.offset with
       |none=>grind
       |some y=>
        rw[hp]at this;obtain⟨u,hu,hur⟩:=tY (P:=P) (w:=w) (S:=S) (β:=β) hT htf hvs hp;simp only[Sem.run_bind,hu,Result.andThen_ok];rw[pY hT d n WD f.type y u em this hur];simp
     ·simp
    have:=E0 (P:=P) (w:=w) (g:=fun(f:Field) (_:PUnit)=>(if f.name≠ "_" then(do
       let y <- part f.type vs.toArray f.offset
       Instr.checkKey em n f.type y
       pure (ForInStep.yield PUnit.unit))else pure (ForInStep.yield PUnit.unit):Sem (ForInStep PUnit))) fs.toList hall
    simp_all
   ·cases h
theorem Gi(w:World)(hT:TOK P T){d:Nat}{dd:TypeDesc}(hd:P.underlying t=some dd){x y:AV}{vx vy:Value}{b b':Bool}(h:vK T (d+1) t x y=some b)(hx:VR S β x vx)(hy:VR S β y vy)(hs:Instr.sameNow dd vx vy=some b'):b'=b:=by
 have h0:=xN (P:=P) (w:=w) hT (d+1) (d+1) (acC _) t x y vx vy b h hx hy;unfold Instr.sameNow at hs;split at hs
 ·split at hs
  ·rename_i hkk;simp only[acz]at hs;subst hs;simp[Op.equalIn,run_underlying hd,hkk]at h0;exact h0
  ·cases hs
 ·simp_all[Op.equalIn,run_underlying]
 ·simp_all[Op.equalIn,run_underlying]
 ·cases hs
def Ch(S:az)(β:List bQ)(ents:List MapEntry)(i0:Nat):Option (Nat×AV×AV)->Option (Nat×Value)->Prop
 |none,r=>r=none
 |some (i,k,v),r=>∃u x,r=some (i,u)/\i0<=i/\ents[i-i0]? = some x/\VR S β k x.key/\VR S β v x.val/\u=x.val
theorem mr.cons{e:AV}{es:List AV}{ents:List MapEntry}(h:mr S β (e:: es) ents):∃k v x ents',e= .tup [k,v]/\ents=x:: ents'/\VR S β k x.key/\VR S β v x.val/\mr S β es ents':=by
 obtain⟨h1,h2⟩:=h;cases ents with
 |nil=>simp at h1
 |cons x ents'=>
  obtain⟨k,v,g1,g2,g3⟩:=h2 0 e x rfl rfl;exact⟨k,v,x,ents',g1,rfl,g2,g3,by simpa using h1,fun i a b ha hb=>h2 (i+1) a b (by simpa using ha) (by simpa using hb)⟩
theorem ET(hT:TOK P T){kt:Nat}{dd:TypeDesc}(hd:P.underlying kt=some dd){k:AV}{vk:Value}(hk:VR S β k vk):∀(es:List AV)(ents:List MapEntry)(i:Nat)(r:Option (Nat×AV×AV)),gC T kt k es i=some r->mr S β es ents->
  ∃r',Ch S β ents i r r'/\(∀r2,Instr.findNow dd vk ents i=some r2->r2=r')/\(Instr.findAsking kt vk ents i).run P w= .ok r' w
 |[],ents,i,r,h,he=>by
  have:ents=[]:=by simpa using he.1.symm
  subst this;simp only[gC,acz]at h;subst h;exact⟨none,rfl,fun r2 h2=>by grind [Instr.findNow],by simp[Instr.findAsking]⟩
 | e :: es,ents,i,r,h,he=>by
  obtain⟨k',v,x,ents',rfl,rfl,hk',hv,he'⟩:=he.cons;simp only[gC]at h;cases hq:vK T 20 kt k k' with
  |none=>grind
  | some b=>
   have heq:=xN (P:=P) (w:=w) hT 20 Op.maxDepth Vc kt k k' vk x.key b hq hk hk';have hsn:=fun b'=>Gi (P:=P) (b':=b') w hT hd hq hk hk';rw[hq]at h;cases b with
   | true=>
    simp only[acz]at h;subst h;refine⟨some (i,x.val),⟨x.val,x,rfl,acC _,AI,hk',hv,rfl⟩,fun r2 h2=>?_,?_⟩
    ·unfold Instr.findNow at h2
     grind
    simp_all[Instr.findAsking,Op.equal]
   | false=>
    simp only at h;obtain⟨r',h1,h2,h3⟩:=ET hT hd hk es ents' (i+1) r h he';refine⟨r',?_,fun r2 hr2=>?_,?_⟩
    ·cases r with
     |none=>exact h1
     |some q=>
      obtain⟨j,k2,v2⟩:=q;obtain⟨u,y,g1,g2,g3,g4⟩:=h1;refine⟨u,y,g1,WD,?_,g4⟩
      grind
    ·unfold Instr.findNow at hr2
     grind
    simp_all[Instr.findAsking,Op.equal]
theorem xX(hT:TOK P T){kt:Nat}{dd:TypeDesc}(hd:P.underlying kt=some dd){k:AV}{vk:Value}(hk:VR S β k vk){es:List AV}{ents:List MapEntry}{r:Option (Nat×AV×AV)}(h:gC T kt k es 0=some r)(he:mr S β es ents):
  ∃r',Ch S β ents 0 r r'/\(Instr.findKey kt vk ents).run P w= .ok r' w:=by
 obtain⟨r',h1,h2,h3⟩:=ET (P:=P) (w:=w) hT hd hk es ents 0 r h he;refine⟨r',h1,?_⟩;unfold Instr.findKey;simp only[Sem.run_bind,run_underlying hd,Result.andThen_ok];cases hn:Instr.findNow dd vk ents 0 with
 |none=>exact h3
 |some r2=>
  simp_all
theorem Gf{x y:AV}(h:JL x y=true){v u:Value}(hx:VR S β x v)(hy:VR S β y u):v=u/\x=y/\∀n,Instr.sameBits n v u=true:=by
 unfold JL at h;split at h
 ·simp only[VR]at hx hy
  have:=eq_of_beq h
  subst this hx hy;exact⟨rfl,rfl,fun n=>by cases n<;>simp[Instr.sameBits]⟩
 ·simp only[VR]at hx hy;simp only[acB,acP,ada]at h;obtain⟨rfl,rfl⟩:=h;subst hx hy;exact⟨rfl,rfl,fun n=>by cases n<;>simp[Instr.sameBits]⟩
 ·simp only[VR]at hx hy
  have:=eq_of_beq h
  subst this;obtain⟨x,rfl,hx⟩:=hx;obtain⟨y,rfl,hy⟩:=hy;have:x=y:=EG.1 (hx.trans hy.symm);subst this;exact⟨rfl,rfl,fun n=>by grind [Instr.sameBits,beq_toListBytes]⟩
 ·cases h
theorem BW:∀ {xs ys:List AV},Dy xs ys=true->∀ {vs us:List Value},be S β xs vs->be S β ys us->vs=us/\xs=ys/\∀n,(vs.zip us).all (fun(x,y)=>Instr.sameBits n x y)=true
 |[],[],_,vs,us,hx,hy=>by
  simp only[be]at hx hy;simp_all
 |x:: xs,y:: ys,h,vs,us,hx,hy=>by
  simp only[Dy,acB]at h;simp only[be]at hx hy;obtain⟨v,vs,rfl,h1,h2⟩:=hx;obtain⟨u,us,rfl,g1,g2⟩:=hy;obtain⟨rfl,rfl,k1⟩:=Gf h.1 h1 g1;obtain⟨rfl,rfl,k2⟩:=BW h.2 h2 g2;simp_all
 |[],_:: _,h,_,_,_,_=>by cases h
 |_:: _,[],h,_,_,_,_=>by cases h
theorem On{x y:AV}(h:Gg x y=true){v u:Value}(hx:VR S β x v)(hy:VR S β y u):v=u/\x=y/\∀n,Instr.sameBits (n+1) v u=true:=by
 unfold Gg at h;split at h
 ·simp only[VR]at hx hy;obtain⟨vs,rfl,h1⟩:=hx;obtain⟨us,rfl,h2⟩:=hy;obtain⟨rfl,rfl,k⟩:=BW h h1 h2;exact⟨rfl,rfl,fun n=>by simp_all[Instr.sameBits]⟩
 grind [Gf]
theorem Dd(hT:TOK P T){kt et:Nat}(h:jY T t=some (kt,et)):P.underlying t=some (.map kt et):=by
 unfold jY at h;cases ht:T t with
 |none=>grind
 | some ti=>
  rw[ht]at h;obtain⟨i,dd,z,hi,hd,_,_,hsz,_,hk,_⟩:=(hT.get ht).ex;simp only at h;split at h
  ·rename_i hkk;simp only[acz,ado]at h;obtain⟨rfl,rfl⟩:=h;cases dd<;>simp only[kindOf,hkk,reduceCtorEq,TK.map.injEq]at hk
   grind
  ·cases h
theorem AS(hT:TOK P T){d:Nat}{x:AV}(h:GO T d t x=true):∃dd,P.underlying t=some dd:=by
 cases d with
 |zero=>simp[GO]at h
 | succ d=>
  unfold GO at h;cases ht:T t with
  |none=>grind
  |some ti=>
   obtain⟨i,dd,z,hi,hd,_⟩:=(hT.get ht).ex
   grind
theorem OQ(hT:TOK P T){ti:TI}(ht:T t=some ti):∃z,(zeroValue t).run P w= .ok z w/\VR S β (jm ti) z:=by
 obtain⟨i,d,z,hi,hd,hz,_⟩:=(hT.get ht).ex;exact⟨z,by simp[zeroValue,typeInfo,hi,hz],(Ay hT ht hi hz).1⟩
theorem uc{r:Nat}{es:Array MapEntry}(hb:w.heap[r]? = some (.map es clock)):(getObj r).run P w= .ok (.map es clock) w:=by
 simp[getObj,Sem.run,hb]
def dy(w:World)(b:Nat)(o:Obj):World:={ w with heap:=w.heap.setIfInBounds b o }
theorem Gd{r:Nat}{es:Array MapEntry}(o:Obj)(hb:w.heap[r]? = some (.map es clock)):(setObj r o).run P w= .ok () (dy w r o):=by
 simp[setObj,Sem.run,hb,dy]
theorem look_ok(hT:TOK P T){es:List AV}{k r:AV}{ok:Bool}(h:pF T t es k ok=some r){vm vk:Value}(hk:VR S β k vk){ents:Array MapEntry}(he:mr S β es ents.toList)(hm:(vm= .map none/\ents= #[])\/∃b clock,vm= .map (some b)/\w.heap[b]? = some (.map ents clock)):xn P w S β (Instr.lookup t vm vk ok) r:=by
 unfold pF at h;cases hmt:jY T t with
 |none=>grind
 | some q=>
  obtain⟨kt,et⟩:=q;rw[hmt]at h;simp only at h;cases hck:GO T 20 kt k with
  |false=>grind
  | true=>
   rw[hck]at h;simp only[acD]at h;cases hte:T et with
   |none=>grind
   | some ei=>
    rw[hte]at h;simp only at h;obtain⟨dd,hd⟩:=AS hT hck;have hu:=Dd hT hmt;have hc:=fun em=>pY (P:=P) (w:=w) hT 20 10000 Vc kt k vk em hck hk;have hgo:∀(r:AV)(r':Option (Nat×Value)),(Instr.findKey kt vk ents.toList).run P w= .ok r' w->
      (∃v b,(r'=none->b=false/\(zeroValue et).run P w= .ok v w)/\(∀q,r'=some q->b=true/\v=q.2)/\VR S β r (if ok then .tuple #[v,.bool b]else v))->xn P w S β (Instr.lookup t vm vk ok) r:=by
     rintro r r' hf ⟨v,b0,h1,h2,h3⟩;refine⟨_,?_,h3⟩;unfold Instr.lookup;rcases hm with⟨rfl,rfl⟩|⟨b,clock,rfl,hb⟩
     ·simp only[Sem.run_bind,run_underlying hu,Result.andThen_ok,Sem.run_pure,hc,hf];cases r' with
      |none=>simp_all
      |some q=>simp_all
     ·simp only[Sem.run_bind,run_underlying hu,Result.andThen_ok,uc hb,Sem.run_pure,hc,hf];cases r' with
      |none=>simp_all
      |some q=>simp_all
    cases hf:gC T kt k es 0 with
    |none=>grind
    | some q=>
     rw[hf]at h;obtain⟨r',h1,h2⟩:=xX (P:=P) (w:=w) hT hd hk hf he;cases q with
     |none=>
      simp only[acz]at h;subst h;simp only[Ch]at h1;subst h1;obtain⟨z,hz,hzr⟩:=OQ (w:=w) (S:=S) (β:=β) hT hte;refine hgo _ none h2 ⟨z,false,fun _=>⟨rfl,hz⟩,(fun _ h=>by cases h),?_⟩;cases ok with
      |true=>simp only[acD,acK,VR];exact⟨[z,.bool false],rfl,by simp only[be,VR];grind⟩
      |false=>simpa using hzr
     |some q=>
      obtain⟨i,k',v⟩:=q;simp only[acz]at h;subst h;obtain⟨u,x,rfl,_,g2,g3,g4,rfl⟩:=h1;refine hgo _ _ h2 ⟨x.val,true,(fun h=>by cases h),(fun q h=>qr),?_⟩;cases ok with
      |true=>simp only[acD,acK,VR];exact⟨[x.val,.bool true],rfl,by simp only[be,VR];grind⟩
      |false=>simpa using g4
theorem N8(hT:TOK P T){kt et:Nat}(hmt:jY T t=some (kt,et)){es es':List AV}{k v:AV}(hck:GO T 20 kt k=true)(h:uY T kt es k v=some es'){vk vv:Value}(hk:VR S β k vk)(hv:VR S β v vv){ents:Array MapEntry}{b:Nat}(he:mr S β es ents.toList)(hst:my ents.toList clock)(hb:w.heap[b]? = some (.map ents clock)):
  ∃ents' clock',(Instr.mapUpdate t (.map (some b)) vk vv).run P w= .ok () (dy w b (.map ents' clock'))/\mr S β es' ents'.toList/\my ents'.toList clock'/\
   es.length<=es'.length/\(es'.length=es.length->clock'=clock/\ents'.toList.map (·.born)=ents.toList.map (·.born)):=by
 obtain⟨dd,hd⟩:=AS hT hck;have hu:=Dd hT hmt;have hc:=pY (P:=P) (w:=w) hT 20 10000 Vc kt k vk false hck hk;unfold uY at h;cases hf:gC T kt k es 0 with
 |none=>grind
 | some q=>
  rw[hf]at h;obtain⟨r',h1,h2⟩:=xX (P:=P) (w:=w) hT hd hk hf he;cases q with
  | none=>
   simp only[acz]at h;subst h;simp only[Ch]at h1;subst h1;refine⟨ents.push { key:=vk,val:=vv,born:=clock },clock+1,?_,?_,?_,AI,AI⟩
   ·unfold Instr.mapUpdate;simp only[Sem.run_bind,run_underlying hu,Result.andThen_ok,uc hb,hc,h2,Gd _ hb]
   ·refine⟨by simpa using he.1,fun i a x ha hx=>?_⟩;have hl:=he.1;simp only[ae8]at hx;rw[List.getElem?_append]at ha hx;split at ha
    ·rename_i hlt;rw[acL WD]at hx;exact he.2 i a x ha hx
    grind
   ·refine⟨fun x hx=>?_,?_⟩
    ·simp only[ae8,acZ,adk]at hx;rcases hx with hx|rfl
     ·exact Nat.lt_succ_of_lt (hst.1 x hx)
     grind
    ·simp only[ae8];rw[List.pairwise_append];refine⟨hst.2,AI,fun x hx y hy=>?_⟩;simp only[adk]at hy;subst hy;exact Nat.ne_of_lt (hst.1 x hx)
  | some q=>
   obtain⟨i,k',v0⟩:=q;simp only at h;cases hs:Gg k' k with
   |false=>grind
   | true=>
    rw[hs]at h;simp only[acD,acz]at h;subst h;obtain⟨u,x,rfl,_,g2,g3,g4,rfl⟩:=h1;rw[aeN]at g2;obtain⟨hkk,_,hbits⟩:=On hs g3 hk;have g2':ents[i]? = some x:=by simpa using g2
    have hmod:(ents.modify i fun e=>{ e with key:=vk,val:=vv }).toList=ents.toList.set i { x with key:=vk,val:=vv }:=by
     apply adZ;intro j;rw[ads,aeH,adR];by_cases hij:i=j
     ·grind
     ·simp[hij]
    have hmap:(ents.toList.set i { x with key:=vk,val:=vv }).map (·.born)=ents.toList.map (·.born):=by
     rw[List.map_set];apply adZ;intro j;rw[adR];by_cases hij:i=j
     ·grind
     ·simp[hij]
    refine⟨ents.modify i fun e=>{ e with key:=vk,val:=vv },clock,?_,?_,?_,AI,fun _=>?_⟩
    ·unfold Instr.mapUpdate;simp only[Sem.run_bind,run_underlying hu,Result.andThen_ok,uc hb,hc,h2];simp only[g2',adv,aeJ,Instr.keyThatStays,hbits 9999,acK,Sem.run_pure,Result.andThen_ok,Gd _ hb]
    ·rw[hmod];refine⟨by simpa using he.1,fun j a y ha hy=>?_⟩;rw[adR]at ha hy;by_cases hij:i=j
     ·grind
     ·simp only[hij,acI]at ha hy;exact he.2 j a y ha hy
    ·rw[hmod];have hxm:x∈ents.toList:=adl g2;refine⟨fun y hy=>?_,?_⟩
     ·have:y.born∈(ents.toList.set i { x with key:=vk,val:=vv }).map (·.born):=List.mem_map_of_mem hy;rw[hmap,adj]at this;obtain⟨z,hz,hzb⟩:=this;rw[<- hzb];exact hst.1 z hz
     ·have h3:(ents.toList.map (·.born)).Pairwise (· ≠·):=List.pairwise_map.2 hst.2
      grind
    grind
end
end Go.Av
namespace Go.Av
variable [Dr]
variable {t:Nat}{x:Operand}
section
variable {P:Program} {cx:Cx} {c:Entry} {N:Nat} {U:Nat->Prop} {e:Env} {h:Hp} {a:Act} {w:World} {S:az} {β:List bQ} {γ:Nat->Value} {lam:Nat->Option Nat} {ω:Nat->Owner} {o:Oper} {gid:Nat}
theorem bd(H:FR c N U e h a w S β γ lam ω)(x:Operand)(ht:∀t,x= .tmp t->t<1000):VR S β (opnd e x) (a.eval x):=by
 cases x with
 |tmp t=>
  have:=H.slots t (ht t rfl)
  simp only[opnd,Env.av,Ent.av,Act.eval];cases hv:(e.get t).v with
  |val av=>rw[hv]at this;exact this
  |loc B off=>simp[VR]
 |const v=>exact WY S β v
 | global g=>
  simp only[opnd,Act.eval];cases hg:Jn g with
  |none=>simp only[VR]
  |some cs=>
   obtain⟨vs,h1,h2⟩:=c.gok.2.2 g cs hg;simp only[VR];exact⟨g,0,vs,rfl,be.mono H.le (ig.nil β) _ _ h1,h2.mono H.le⟩
 |func f=>simp only[opnd,VR,Act.eval];exact⟨[],[],rfl,by simp[be],by simp[be]⟩
theorem tX(H:FR c N U e h a w S β γ lam ω):(xs:List Operand)->(∀x∈xs,∀t,x= .tmp t->t<1000)->be S β (xs.map (opnd e)) (xs.map a.eval)
 |[],_=>by simp[be]
 |x:: xs,ht=>by
  simp only[ac3,be];exact⟨_,_,rfl,bd H x (ht x AI),tX H xs fun y hy=>ht y (by simp[hy])⟩
theorem pi(H:FR c N U e h a w S β γ lam ω)(x:Option Operand)(ht:∀y,x=some y->∀t,y= .tmp t->t<1000):nK S β (x.map (opnd e)) (x.map a.eval):=by
 cases x with
 |none=>rfl
 |some y=>exact⟨_,rfl,bd H y (ht y rfl)⟩
theorem aa0(H:gz c N U e h a w):gz c N (UG U gid) e h a w:=H.wider fun _ h=>.inl h
theorem fX(H:FR c N U e h a w S β γ lam ω)(hd:∀t,o.dst=some t->t<N){r:Option AV}{m:Sem Value}(hrun:execOp a.eval o=(do pure (.value (<- m))))(hp:∀x,r=some x->xn P w S β m x)(hr:(aG (bJ r) fun v=>ao (e.upd o.dst (.ofV v))) h≠.fail):After P c N (UG U gid) ((aG (bJ r) fun v=>ao (e.upd o.dst (.ofV v))) h) o a w:=by
 cases r with
 |none=>exact absurd rfl hr
 |some x=>
  obtain⟨v,h1,h2⟩:=hp x rfl;exact After.val (v:=v) (w':=w) AN (aa0 ⟨S,β,γ,lam,ω,H.setV hd h2⟩)
theorem I7(H:FR c N U e h a w S β γ lam ω)(hd:∀t,o.dst=some t->t<N)(ht:t<1000)(hrun:(execOp a.eval o).run P w= .ok (.value (a.tmps.getD t undef)) w):
  After P c N (UG U gid) (.ok (e.upd o.dst { ent:=e.get t }) h) o a w:=
 After.val hrun (aa0 ⟨S,β,γ,lam,ω,H.set hd (H.slots t ht) (fun g z hg hz=>H.grps t g z ht hg hz) (fun g hg=>H.used.1 t g hg)⟩)
theorem JB(H:FR c N U e h a w S β γ lam ω)(hd:∀t,o.dst=some t->t<N)(hU:∀g,gid<=g->g<gid+1000->¬U g)(hx:o.op= .move x\/o.op= .assign x)(ht:∀t,x= .tmp t->t<1000):
  After P c N (UG U gid) (bT cx e gid o h) o a w:=by
 have hrun:(execOp a.eval o).run P w= .ok (.value (a.eval x)) w:=by rcases hx with hx|hx<;>simp[execOp,hx]
 have hop:bT cx e gid o=aP e o.dst (mS (bX cx.ann.hb o.dst) e gid x):=by unfold bT iK;rcases hx with hx|hx<;>rw[hx]
 rw[hop];unfold mS;cases x with
 |tmp t=>exact I7 H hd (ht t rfl) hrun
 | const v=>
  simp only;cases hn:bD (.const v)with
  | true=>
   have hv:v= .slice none 0 0:=by
    unfold bD at hn;split at hn
    ·grind
    ·simp at hn
   subst hv;simp only[acD];cases htold:bX cx.ann.hb o.dst with
   |true=>exact After.val hrun (aa0 ⟨S,β,γ,lam,ω,H.setV hd (by simp only[VR];rfl)⟩)
   |false=>
   simp only[acO];obtain⟨ω',F⟩:=H.own (v:=.slice none 0 0) (r:=.sl []) (z:=none) hd (by simp only[VR];grind) hU (.inl ⟨none,0,rfl,fun _=>rfl⟩);exact After.val hrun ⟨S,β,_,lam,ω',F⟩
  |false=>
   simp only[acO];exact After.val hrun (aa0 ⟨S,β,γ,lam,ω,H.setV hd (bd H _ (fun t h=>by cases h))⟩)
 |global g=>
  exact After.val hrun (aa0 ⟨S,β,γ,lam,ω,H.setV hd (bd H _ (fun t h=>by cases h))⟩)
 |func f=>
  exact After.val hrun (aa0 ⟨S,β,γ,lam,ω,H.setV hd (bd H _ (fun t h=>by cases h))⟩)
omit [Dr]in
theorem be.allR{S:az}{β:List bQ}{cs:List AV}{vs:List Value}(h:be S β cs vs):∀i,i<cs.length->∃v,vs[i]? = some v/\VR S β (aD cs i) v:=by
 intro i hi;obtain⟨v,h1,h2⟩:=h.get (acH hi)
 grind [aD]
theorem uW(H:FR c N U e h a w S β γ lam ω):(ps:List (Nat×Operand))->(∀p∈ps,∀t,p.2= .tmp t->t<1000)->mw S β (ps.map fun p=>(p.1,opnd e p.2)) (ps.map fun p=>(p.1,a.eval p.2))
 |[],_=>rfl
 |(i,x):: ps,ht=>by
  simp only[ac3,mw];exact⟨_,_,rfl,bd H x (ht (i,x) AI),uW H ps fun q hq=>ht q (by simp[hq])⟩
theorem zX(hT:TOK P cx.T)(H:FR c N U e h a w S β γ lam ω)(hd:∀t,o.dst=some t->t<N)(hU:∀g,gid<=g->g<gid+1000->¬U g){n:Nat}{ps:Array (Nat×Operand)}(ho:o.op= .buildSlice t n ps)(ht:∀p∈ps.toList,∀t,p.2= .tmp t->t<1000)(hha:bX cx.ann.ha o.dst=false)(hr:bT cx e gid o h≠.fail):After P c N (UG U gid) (bT cx e gid o h) o a w:=by
 unfold bT iK at hr |-;rw[ho]at hr |-;simp only[hha,acO]at hr |-;cases hb:aI cx.T t n (ps.toList.map fun p=>(p.1,opnd e p.2))with
 |none=>rw[hb]at hr;exact absurd rfl hr
 | some r=>
  obtain⟨es,x,el,sz,rfl,hlen,hrow,hrun⟩:=zW (w:=w) (qs:=ps.map fun p=>(p.1,a.eval p.2)) hT hb (by simpa using uW H ps.toList ht);have H2:=H.allocS x el x.size;have hv:VR (S.withRowTo w.heap.size x.size x) β (.sl es) (.slice (some ⟨w.heap.size,0,none⟩) n n):=by
   simp only[VR];refine⟨_,n,by rw[hlen],WD,(fun h=>by cases h),fun q hq=>?_⟩;simp only[acz]at hq;subst hq;refine⟨fun _=>rfl,sz,hrow.at (fun k o v hv=>?_) (fun o y hy=>?_)⟩
   ·unfold az.withRowTo;split
    ·rename_i hk;subst hk;rw[H.wf.none (acC _)]at hv;simp at hv
    ·exact hv
   ·unfold az.withRowTo
    grind
  have hex:(execOp a.eval o).run P w= .ok (.value (.slice (some ⟨w.heap.size,0,none⟩) n n)) (w.alloc (.cells x el)):=by
   simp only[execOp,ho,Sem.run_bind,hrun,Result.andThen_ok,Sem.run_pure]
  simp only[aP,bJ,aG,ao];cases hno:bX cx.ann.no o.dst with
  |true=>
   simp only[acD];exact After.val hex (aa0 ⟨_,_,_,_,_,H2.setV hd hv⟩)
  |false=>
   simp only[acO];obtain⟨ω',F⟩:=H2.own (z:=none) hd hv hU (.inl ⟨_,_,rfl,fun h=>by cases h⟩);exact After.val hex ⟨_,_,_,_,ω',F⟩
theorem Dc(hT:TOK P cx.T)(H:FR c N U e h a w S β γ lam ω)(hd:∀t,o.dst=some t->t<N)(hU:∀g,gid<=g->g<gid+1000->¬U g){l k:Operand}(ho:o.op= .makeSlice t l k)(hl:∀t,l= .tmp t->t<1000)(hk:∀t,k= .tmp t->t<1000)(hha:bX cx.ann.ha o.dst=false)(hr:bT cx e gid o h≠.fail):After P c N (UG U gid) (bT cx e gid o h) o a w:=by
 unfold bT iK at hr |-;rw[ho]at hr |-;simp only[hha,acO]at hr |-;cases hb:sC cx.T t (opnd e l) (opnd e k)with
 |none=>rw[hb]at hr;exact absurd rfl hr
 | some r=>
  obtain⟨es,x,el,sz,cap,rfl,hes,hlen,hxs,hrow,hrun⟩:=Db (w:=w) hT hb (bd H l hl) (bd H k hk);have H2:=H.allocS x el (es.length*sz);have hle:es.length*sz<=cap*sz:=ac4 _ hlen;have hv:VR (S.withRowTo w.heap.size (es.length*sz) x) β (.sl es) (.slice (some ⟨w.heap.size,0,none⟩) es.length cap):=by
   simp only[VR];refine⟨_,cap,rfl,hlen,(fun h=>by cases h),fun q hq=>?_⟩;simp only[acz]at hq;subst hq;refine⟨fun _=>rfl,sz,.of_get fun i y hy=>?_⟩;obtain⟨v,v1,v2,v3⟩:=hrow i y hy;have hi:i<es.length:=by
    rcases ac9 i es.length with h|h
    ·exact h
    ·grind
   have hm:(i+1)*sz<=es.length*sz:=ac4 _ hi;rw[Nat.add_mul]at hm;refine⟨v,VR.mono (fun k o v hv=>?_) (ig.refl β) _ _ v1,v2,fun j u hu=>?_⟩
   ·unfold az.withRowTo;split
    ·rename_i hk;subst hk;rw[H.wf.none (acC _)]at hv;simp at hv
    ·exact hv
   ·have hj:j<sz:=by
     rcases ac9 j v.cells.toList.length with h|h
     ·grind
     ·grind
    unfold az.withRowTo
    grind
  have hωn:ω w.heap.size= .no:=by
   cases hoo:ω w.heap.size with
   |no=>rfl
   |_=>have:=(H.mine w.heap.size (by rw[hoo];simp)).2;omega
  obtain⟨ω',F⟩:=H2.own (z:=eK cx.T t) hd hv hU (.inr ⟨es.length,cap,sz,w.heap.size,0,x,rfl,hlen,hes,Row.new w x el,WD,hωn,H.size,fun o' ho'=>by
   unfold az.withRowTo;grind⟩)
  refine After.val (v:=.slice (some ⟨w.heap.size,0,none⟩) es.length cap) (w':=w.alloc (.cells x el)) ?_ ⟨_,_,_,_,ω',F⟩
  grind [execOp,Sem.run_bind,Result.andThen_ok,Sem.run_pure]
theorem Ov(hT:TOK P cx.T)(H:FR c N U e h a w S β γ lam ω)(hd:∀t,o.dst=some t->t<N)(hU:∀g,gid<=g->g<gid+1000->¬U g){lo hi mx:Option Operand}(ho:o.op= .slice t x lo hi mx)(hx:∀t,x= .tmp t->t<1000)(hlo:∀y,lo=some y->∀t,y= .tmp t->t<1000)(hhi:∀y,hi=some y->∀t,y= .tmp t->t<1000)(hmx:∀y,mx=some y->∀t,y= .tmp t->t<1000)(hso:bX cx.ann.so o.dst=false)(hr:bT cx e gid o h≠.fail):After P c N (UG U gid) (bT cx e gid o h) o a w:=by
 unfold bT iK at hr |-;rw[ho]at hr |-;simp only[hso,acO]at hr |-;cases hb:(bif bX cx.ann.hb o.dst then Iw cx.T t (opnd e x) (lo.map (opnd e)) (hi.map (opnd e)) (mx.map (opnd e))else eR cx.T t (opnd e x) (lo.map (opnd e)) (hi.map (opnd e)) (mx.map (opnd e)))with
 |none=>rw[hb]at hr;exact absurd rfl hr
 | some r=>
  have hboth:∃v,(Instr.sliceAt t (a.eval x) (lo.map a.eval) (hi.map a.eval) (mx.map a.eval)).run P w= .ok v w/\VR S β r v/\((mx.map (opnd e)).isSome=true->(∃a n,v= .slice a n n)/\∃es,r= .sl es):=by
   cases htold:bX cx.ann.hb o.dst with
   |true=>rw[htold]at hb;exact Ly (P:=P) (w:=w) hT hb (bd H x hx) (pi H lo hlo) (pi H hi hhi) (pi H mx hmx)
   |false=>rw[htold]at hb;exact Ou (P:=P) (w:=w) hT hb (bd H x hx) (pi H lo hlo) (pi H hi hhi) (pi H mx hmx)
  obtain⟨v,hrun,hv,hown⟩:=hboth;have hrun':(execOp a.eval o).run P w= .ok (.value v) w:=by simp only[execOp,ho,Sem.run_bind,hrun,Result.andThen_ok,Sem.run_pure]
  cases mx with
  |none=>exact After.val hrun' (aa0 ⟨S,β,γ,lam,ω,H.setV hd hv⟩)
  | some m=>
   obtain⟨⟨ad,n,rfl⟩,es,rfl⟩:=hown rfl;have hn:ad=none->n=0:=by
    rintro rfl;have hv:=hv;simp only[VR]at hv;obtain⟨_,_,he,_,h2,_⟩:=hv;simp only[Value.slice.injEq]at he;obtain⟨rfl,_,rfl⟩:=he;exact h2 rfl
   obtain⟨ω',F⟩:=H.own (z:=none) hd hv hU (.inl ⟨ad,n,rfl,hn⟩);exact After.val hrun' ⟨_,_,_,_,ω',F⟩
end
section
variable {P:Program} {cx:Cx} {c:Entry} {N:Nat} {U:Nat->Prop} {e:Env} {h:Hp} {a:Act} {w:World} {S:az} {β:List bQ} {γ:Nat->Value} {lam:Nat->Option Nat} {ω:Nat->Owner} {o:Oper} {gid:Nat}
open Classical in
theorem UY(hT:TOK P cx.T)(H:FR c N U e h a w S β γ lam ω)(hd:∀t,o.dst=some t->t<N)(hU:∀g,gid<=g->g<gid+1000->¬U g){lo hi mx:Option Operand}(ho:o.op= .slice t x lo hi mx)(hx:∀t,x= .tmp t->t<1000)(hlo:∀y,lo=some y->∀t,y= .tmp t->t<1000)(hr:aP e o.dst (tV cx e gid t x lo hi mx) h≠.fail):After P c N (UG U gid) (aP e o.dst (tV cx e gid t x lo hi mx) h) o a w:=by
 unfold tV at hr |-;cases x with
 | tmp s =>
  have hs:=hx s rfl;simp only at hr |-;cases hg:(e.get s).g with
  |none=>rw[hg]at hr;exact absurd rfl hr
  | some g =>
   rw[hg]at hr;simp only at hr |-;cases hal:aQ e.al g with
   |none=>rw[hal]at hr;exact absurd rfl hr
   | some z0 =>
    rw[hal]at hr;cases z0 with
    |none=>exact absurd rfl hr
    | some z =>
     simp only at hr |-;cases hck:Ho cx.T t z&&hi.isNone&&mx.isNone with
     |false=>rw[hck]at hr;exact absurd rfl hr
     | true =>
      rw[hck]at hr;simp only[acD]at hr |-;simp only[acB,Option.isNone_iff_eq_none]at hck;obtain⟨⟨hz,rfl⟩,rfl⟩:=hck;have hvx:=bd H (.tmp s) (fun t ht=>qr);cases hc:Ks cx.T t (opnd e (.tmp s)) (lo.map (opnd e))with
      |none=>rw[hc]at hr;exact absurd rfl hr
      | some r=>
       unfold Ks at hc;split at hc
       ·rename_i es hq;rw[hq]at hvx;have hvx0:=hvx;simp only[VR]at hvx;obtain⟨ad,cap,hv,hle,hnn,hqq⟩:=hvx;rw[hv]at hvx0;obtain⟨l,ei,ti,el,ht,hk,hei,hl,hrun,hvr⟩:=UX (P:=P) (w:=w) hT hc hvx0 (pi H lo hlo);have hzz:z=ei.size:=by
         unfold Ho eK at hz;rw[ht]at hz;simp only[hk,hei,adv]at hz;exact Nat.eq_of_beq_eq_true hz
        subst hzz;have hrun':(execOp a.eval o).run P w= .ok (.value (.slice (if cap=l then ad else ad.map (·.add (l*ei.size))) (es.length-l) (cap-l))) w:=by
         simp only[execOp,ho,Option.map_none,Sem.run_bind];rw[hv,hrun];simp only[Result.andThen_ok,Sem.run_pure]
        have hval:a.tmps.getD s undef=γ g:=H.grps s g (some ei.size) hs hg hal;have hfree:=H.free g (some ei.size) hal;have hav:a.eval (.tmp s)=a.tmps.getD s undef:=rfl;rw[<- hval,<- hav,hv]at hfree;obtain⟨a',len,cap',he,f1,f2,f3⟩:=hfree;simp only[Value.slice.injEq]at he;obtain⟨rfl,rfl,rfl⟩:=he;let ω':Nat->Owner:=fun k=>if ω k= .grp g then .grp gid else ω k
        have F:=H.regrp (r:=r) (v:=.slice (if cap=l then ad else ad.map (·.add (l*ei.size))) (es.length-l) (cap-l)) (gid:=gid) (z:=some ei.size) (g0:=some g) (w':=w) (S':=S) (ω':=ω') hd hU H.wf (Gro.refl w) (az.le_refl S)
         (fun k _ _=>⟨rfl,fun _=>rfl⟩) (fun k _ hk=>acE (hk g rfl)) (fun b hb=>by
          by_cases hbg:ω b= .grp g
          ·have:=H.mine b (by rw[hbg];simp)
           exact⟨.inr (this.1.grp hbg),this.2⟩
          ·have hb':ω b≠.no:=by
            have e1:ω' b=ω b:=acE hbg;rw[<- e1];exact hb
           have:=H.mine b hb'
           exact⟨this.1.of_eq (acE hbg),this.2⟩) hvr (by
          refine⟨_,_,_,rfl,WD,fun hn=>?_,?_⟩
          ·grind [Option.map_eq_none_iff]
          ·rcases f3 with f3|⟨sz,b,off,x,g1,g2,g3,g4,g5,g6⟩
           ·left;omega
           ·by_cases hcl:cap=l
            ·left;omega
            ·right;simp only[acz]at g1;subst g1 g2;refine⟨ei.size,b,off+l*ei.size,x,rfl,by simp_all[addr_add],g3,?_,qr,fun o ho=>g6 o ?_⟩
             ·rw[Nat.sub_mul];have:l*ei.size<=cap*ei.size:=ac4 _ WD;omega
             grind [Nat.sub_mul])
        simp only[aP,aG,bJ,ao];exact After.val hrun' ⟨_,_,_,_,ω',F⟩
       ·cases hc
 |_=>exact absurd rfl hr
end
variable {b:Nat}
section
omit [Dr]
theorem C0{a b:List MapEntry}(h:a.map (·.born)=b.map (·.born))(seen:Array Nat):dF a seen=dF b seen:=by
 have hl:a.length=b.length:=by simpa using acY List.length h
 unfold dF;rw[hl];refine aeO fun i _=>?_
 have:=acY (·[i]?) h
 grind
theorem wK.keepM{S S':az}{β β':List bQ}{w w':World}{h h':Hp}{cs:List AV}(H:wK S β w h b cs)(hS:S.le S')(hβ:ig β β')(hb:w'.heap[b]? = w.heap[b]?)
  (hm:∀(l b':Nat)(es:List AV),β[l]? = some (b',0)->h'[l]? = some [.tup es]->∃es0,h[l]? = some [.tup es0]/\es0.length<=es.length/\
   (es.length=es0.length->∀ents clock,w.heap[b']? = some (.map ents clock)->∃ents',w'.heap[b']? = some (.map ents' clock)/\ents'.toList.map (·.born)=ents.toList.map (·.born))):wK S' β' w' h' b cs:=by
 rcases H with⟨es,h1,ents,clock,h2,h3,h4⟩|⟨l,n,ps,b',since,seen,last,cur,h1,h2,h3,h4,hcu,h5⟩|⟨h1,since,seen,last,h2⟩
 ·exact .inl ⟨es,h1,ents,clock,hb.trans h2,h3.mono hS hβ,h4⟩
 ·refine .inr (.inl ⟨l,n,ps,b',since,seen,last,cur,h1,hβ _ _ h2,h3,hb.trans h4,hcu,fun es he=>?_⟩);obtain⟨es0,g1,g2,g3⟩:=hm l b' es h2 he;obtain⟨k1,k2⟩:=h5 es0 g1;refine⟨WD,fun hn=>?_⟩;obtain⟨ents,clock,j1,j2,j3,j4,j5⟩:=k2 WD;obtain⟨ents',i1,i2⟩:=g3 WD ents clock j1;refine⟨ents',clock,i1,fun x hx=>?_,by rw[j3,C0 i2],j4,fun c hc=>?_⟩
  ·grind [List.mem_map_of_mem]
  ·obtain⟨x,hx,hs⟩:=j5 c hc;have h1:(ents'.toList.map (·.born))[c]? = some x.born:=by rw[i2,adK,hx];rfl
   grind
 ·exact .inr (.inr ⟨h1,since,seen,last,hb.trans h2⟩)
theorem ge.mapRow{S:az}{β:List bQ}{w:World}{ω:Nat->Owner}{h:Hp}(H:ge S β w ω h){l:Nat}{es:List AV}(hl:h[l]? = some [.tup es])(hb:β[l]? = some (b,0)):
  ∃ents clock,w.heap[b]? = some (.map ents clock)/\mr S β es ents.toList/\my ents.toList clock/\ω b= .heap l/\∀o,S b o=none:=by
 rcases H l _ hl (AI)with⟨b',x,k1,k2,k3,k4,k5,_⟩|⟨b',k1,k2,k3,k4⟩
 ·rw[hb]at k1;simp only[acz,ado]at k1;have h2:=k4.length
  grind
 ·rw[hb]at k1;simp only[acz,ado,aeq]at k1;subst k1;rcases k4 with⟨es',h1,ents,clock,h2,h3,h4⟩|⟨l',n,ps,b',since,seen,last,cur,h1,_⟩|⟨h1,_⟩
  all_goals grind
end
section
variable {P:Program} {cx:Cx} {c:Entry} {N:Nat} {U:Nat->Prop} {e:Env} {h:Hp} {a:Act} {w:World} {S:az} {β:List bQ} {γ:Nat->Value} {lam:Nat->Option Nat} {ω:Nat->Owner} {o:Oper} {gid:Nat}
theorem Gro.allocO(w:World)(o:Obj):Gro w (w.alloc o):=⟨AI,rfl,rfl,rfl,fun _=>AI⟩
theorem FR.allocO(H:FR c N U e h a w S β γ lam ω)(o:Obj):FR c N U e h a (w.alloc o) S β γ lam ω:=
 H.world (fun b o' v hv=>by rw[cell_of_heap (alloc_old w _ (H.wf.lt hv))];exact H.wf b o' v hv) (Gro.allocO w o) (fun b hb=>⟨alloc_old w _ hb,fun _=>rfl⟩) (az.le_refl S)
theorem FR.newM(H:FR c N U e h a w S β γ lam ω):
  ∃ω',FR c N U e (h++[[.tup []]]) a (w.alloc (.map #[] 0)) S (β++[(w.heap.size,0)]) γ lam ω'/\(β++[(w.heap.size,0)])[h.length]? = some (w.heap.size,0):=by
 have H2:=H.allocO (.map #[] 0);have hext:ig β (β++[(w.heap.size,0)]):=fun l b hb=>by
  grind
 have hnew:(β++[(w.heap.size,0)])[h.length]? = some (w.heap.size,0):=by rw[<- H.hlen];simp
 have hωn:ω w.heap.size= .no:=by
  cases ho:ω w.heap.size with
  |no=>rfl
  |_=>have:=(H.mine w.heap.size (by rw[ho];simp)).2;omega
 have hω:∀b,ω b≠.no->eJ ω w.heap.size (.heap h.length) b=ω b:=fun b hb=>by
  unfold eJ;grind
 refine⟨eJ ω w.heap.size (.heap h.length),⟨H2.wf,H2.gro,H2.keep,H2.le,ig.trans H2.ext hext,by simp[H.hlen],?_,H2.tsz,?_,H2.grps,?_,?_,?_,H2.used⟩,hnew⟩
 ·intro l cs' hl hne;rcases ac9 l h.length with hlt|hge
  ·rw[ac6 hlt]at hl;rcases H2.heap l cs' hl hne with⟨b,x,k1,k2,k3,k4,k5⟩|⟨b,k1,k2,k3,k4⟩
   ·exact .inl ⟨b,x,hext _ _ k1,k2,qr,k4.mono (az.le_refl S) hext,k5⟩
   ·refine .inr ⟨b,hext _ _ k1,qr,k3,k4.keepM (az.le_refl S) hext rfl fun j b' es hj he=>?_⟩;have hjl:j<h.length:=by
     rw[<- H.hlen];exact (acJ.1 hj).1
    grind
  ·rw[adh hge]at hl;have hlz:l=h.length:=by
    rcases adp (l-h.length)with h0|h0
    ·omega
    ·grind
   subst hlz;simp only[aeF,acV,acz]at hl;subst hl;exact .inr ⟨w.heap.size,hnew,by simp[eJ],fun o=>H.wf.none (acC _) o,.inl ⟨[],rfl,#[],0,heap_alloc_new w _,⟨rfl,fun i e x he=>by simp at he⟩,fun x hx=>by simp at hx,AI⟩⟩
 ·intro t' ht'
  have:=H2.slots t' ht'
  cases hv:(e.get t').v with
  |val av=>rw[hv]at this;exact VR.mono (az.le_refl S) hext _ _ this
  |loc B off=>rw[hv]at this;exact this
 ·intro B n hB;obtain⟨h1,h2,h3,b,y,h4,h5,h6,h7,h8⟩:=H2.lblk B n hB;refine⟨h1,h2,h3,b,y,h4,h5,qr,h7,fun i hi=>?_⟩;obtain⟨v,a',g1,g2,g3,g4⟩:=h8 i hi;exact⟨v,a',g1,g2,VR.mono (az.le_refl S) hext _ _ g3,g4⟩
 ·intro g z hg;obtain⟨a',len,cap,g1,g2,g3,g4⟩:=H2.free g z hg;refine⟨a',len,cap,g1,g2,g3,g4.imp id ?_⟩
  grind
 ·intro b hb;unfold eJ at hb;split at hb
  ·rename_i hbb;subst hbb;exact⟨.inr H.size,AI⟩
  ·rename_i hbb;exact⟨(H2.mine b hb).1.of_eq qr,(H2.mine b hb).2⟩
omit [Dr]in
theorem cp(w:World)(b:Nat)(o:Obj){k:Nat}(h:k≠b):(dy w b o).heap[k]? = w.heap[k]?:=by
 simp[dy,Ne.symm h]
omit [Dr]in
theorem kz{w:World}(o:Obj)(h:b<w.heap.size):(dy w b o).heap[b]? = some o:=by
 simp[dy,h]
theorem FR.turnM(H:FR c N U e h a w S β γ lam ω){l clock clock':Nat}{es es':List AV}{ents ents':Array MapEntry}(hl:h[l]? = some [.tup es])(hb:β[l]? = some (b,0))(hw:w.heap[b]? = some (.map ents clock))(he:mr S β es' ents'.toList)(hst:my ents'.toList clock')(hle:es.length<=es'.length)(hborn:es'.length=es.length->clock'=clock/\ents'.toList.map (·.born)=ents.toList.map (·.born)):
  FR c N U e (h.set l [.tup es']) a (dy w b (.map ents' clock')) S β γ lam ω:=by
 obtain⟨ents0,clock0,h1,_,_,h3,h5⟩:=H.heap.mapRow hl hb;rw[hw]at h1;simp only[acz,Obj.map.injEq]at h1;obtain⟨rfl,rfl⟩:=h1;have hbw:b<w.heap.size:=(acN.1 hw).1;have hlt:l<h.length:=by
  rcases ac9 l h.length with h'|h'
  ·exact h'
  ·grind
 have hωb:∀k,ω k≠.heap l->k≠b:=fun k hk=>qr
 have hother:∀k,ω k≠.heap l->(dy w b (.map ents' clock')).heap[k]? = w.heap[k]?:=fun k hk=>cp w b _ (hωb k hk);have hg:Gro w (dy w b (.map ents' clock')):=⟨by simp[dy],rfl,rfl,rfl,fun _=>acC _⟩;refine⟨fun k o v hv=>?_,H.gro.trans hg,fun k hk hE=>?_,H.le,H.ext,by simp[H.hlen],?_,H.tsz,H.slots,H.grps,?_,?_,fun k hk=>⟨(H.mine k hk).1,by simpa [dy]using(H.mine k hk).2⟩,H.used⟩
 ·have hkb:k≠b:=by rintro rfl;rw[h5]at hv;cases hv
  rw[cell_of_heap (cp w b _ hkb)];exact H.wf k o v hv
 ·have hkb:k≠b:=by
   rintro rfl
   have:=(H.mine k (by rw[h3];simp)).1.low
   rcases this with h|h
   ·exact hE h
   ·omega
  have:=H.keep k hk hE
  grind [cp]
 ·intro j ds hj hd;rw[adR]at hj;split at hj
  ·rename_i hlj;subst hlj;simp only[acz]at hj;subst hj;exact .inr ⟨b,hb,h3,h5,.inl ⟨es',rfl,ents',clock',kz _ hbw,he,hst⟩⟩
  ·rename_i hlj;rcases H.heap j ds hj hd with⟨k,x,k1,k2,k3,k4,k5⟩|⟨k,k1,k2,k3,k4⟩
   ·have hk:=hother k qr;exact .inl ⟨k,x,k1,k2.of_eq hk,k3,k4,k5.1,fun t ht=>by obtain⟨z,hz⟩:=k5.2 t ht;grind⟩
   ·have hk:=hother k qr;refine .inr ⟨k,k1,k2,k3,k4.keepM (az.le_refl S) (ig.refl β) hk fun i b' es2 hi he2=>?_⟩;rw[adR]at he2;split at he2
    ·rename_i hli;subst hli;simp only[acz,adN,AV.tup.injEq,aeq]at he2;subst he2;rw[hb]at hi;simp only[acz,ado,aeq]at hi;subst hi;refine⟨es,hl,hle,fun hh ents2 clock2 h2=>?_⟩;rw[hw]at h2;simp only[acz,Obj.map.injEq]at h2;obtain⟨rfl,rfl⟩:=h2
     grind [kz]
    ·rename_i hli;refine⟨es2,he2,acC _,fun _ ents2 clock2 h2=>⟨ents2,?_,rfl⟩⟩;obtain⟨_,_,_,_,_,g,_⟩:=H.heap.mapRow he2 hi
     grind
 ·intro B n hB;obtain⟨k1,k2,k3,k,z,k4,k5,k6,k7,k8⟩:=H.lblk B n hB;exact⟨k1,k2,k3,k,z,k4,k5.of_eq (hother k (by rw[k6];simp)),k6,k7,k8⟩
 ·intro g z hg;obtain⟨a',len,cap,g1,g2,g3,g4⟩:=H.free g z hg;refine⟨a',len,cap,g1,g2,g3,g4.imp id ?_⟩;rintro⟨sz,k,off,z',k1,k2,k3,k4,k5,k6⟩;exact⟨sz,k,off,z',k1,k2,k3.of_eq (hother k (by rw[k5];simp)),k4,k5,k6⟩
theorem H3(H:FR c N U e h a w S β γ lam ω)(hd:∀t,o.dst=some t->t<N){t:TypeId}(ho:o.op= .makeMap t none)(hr:aP e o.dst (.dyn jN .ofV) h≠.fail):After P c N (UG U gid) (aP e o.dst (.dyn jN .ofV) h) o a w:=by
 obtain⟨ω',F,hnew⟩:=H.newM;have hrun:(execOp a.eval o).run P w= .ok (.value (.map (some w.heap.size))) (w.alloc (.map #[] 0)):=by
  simp[execOp,ho,Instr.makeMap]
 refine After.val hrun (aa0 ⟨_,_,γ,lam,ω',F.setV hd ?_⟩);simp only[VR]
 grind
theorem K5(hT:TOK P cx.T)(H:FR c N U e h a w S β γ lam ω)(hd:∀t,o.dst=some t->t<N){t:TypeId}{i:Operand}{ok:Bool}(ho:o.op= .lookup t x i ok)(hx:∀t,x= .tmp t->t<1000)(hi:∀t,i= .tmp t->t<1000)(hr:aP e o.dst (.dyn (iO cx.T t (opnd e x) (opnd e i) ok) .ofV) h≠.fail):After P c N (UG U gid) (aP e o.dst (.dyn (iO cx.T t (opnd e x) (opnd e i) ok) .ofV) h) o a w:=by
 have hvx:=bd H x hx;have hvi:=bd H i hi;simp only[aP,aG,ao]at hr |-;unfold iO at hr |-;cases hes:mE h (opnd e x)with
 |none=>grind
 | some es=>
  rw[hes]at hr;simp only at hr |-;cases hl:pF cx.T t es (opnd e i) ok with
  |none=>grind
  | some r=>
   have key:xn P w S β (Instr.lookup t (a.eval x) (a.eval i) ok) r:=by
    unfold mE at hes;split at hes
    ·rename_i l hq;split at hes
     ·rename_i es' hh;simp only[acz]at hes;subst hes;rw[hq]at hvx;simp only[VR]at hvx;obtain⟨⟨b,n⟩,hb,h0,hv⟩:=hvx;simp only at h0;subst h0;obtain⟨ents,clock,g1,g2,_⟩:=H.heap.mapRow hh hb
      grind [look_ok]
     ·cases hes
    ·rename_i hq;simp only[acz]at hes;subst hes;rw[hq]at hvx;simp only[VR]at hvx;exact look_ok hT hl hvi (ents:=#[]) ⟨rfl,fun i e x he=>by simp at he⟩ (.inl ⟨hvx,rfl⟩)
    ·cases hes
   obtain⟨v,h1,h2⟩:=key;exact After.val (v:=v) (w':=w) (by grind [execOp,Sem.run_bind,Result.andThen_ok,Sem.run_pure]) (aa0 ⟨S,β,γ,lam,ω,H.setV hd h2⟩)
theorem N9(hT:TOK P cx.T)(H:FR c N U e h a w S β γ lam ω){t:TypeId}{m k:Operand}(ho:o.op= .mapUpdate t m k x\/o.op= .insert t m k x)(hm:∀t,m= .tmp t->t<1000)(hk:∀t,k= .tmp t->t<1000)(hx:∀t,x= .tmp t->t<1000)(hr:aP e o.dst (qC cx e o.dst t m k x) h≠.fail):After P c N (UG U gid) (aP e o.dst (qC cx e o.dst t m k x) h) o a w:=by
 have hvm:=bd H m hm;have hvk:=bd H k hk;have hvx:=bd H x hx;unfold qC at hr |-;cases hdst:o.dst with
 |some d=>rw[hdst]at hr;exact absurd rfl hr
 | none =>
  rw[hdst]at hr;simp only[aP,aG,ao]at hr |-;unfold tZ at hr |-;cases hmt:jY cx.T t with
  |none=>grind
  | some q=>
   obtain⟨kt,et⟩:=q;rw[hmt]at hr;simp only at hr |-;cases hck:GO cx.T 20 kt (opnd e k)with
   |false=>grind
   | true=>
    rw[hck]at hr;simp only[acD]at hr |-;cases hq:opnd e m with
    | mp l=>
     rw[hq]at hr hvm;simp only at hr |-;cases hh:h[l]? with
     |none=>grind
     | some cs=>
      rw[hh]at hr
      match cs,hh,hr with
      | [.tup es],hh,hr=>
       simp only at hr |-;cases hp:uY cx.T kt es (opnd e k) (opnd e x)with
       |none=>grind
       |some es'=>
        simp only[VR]at hvm;obtain⟨⟨b,n⟩,hb,h0,hv⟩:=hvm;simp only at h0;subst h0;obtain⟨ents,clock,g1,g2,g3,_⟩:=H.heap.mapRow hh hb;obtain⟨ents',clock',k1,k2,k3,k4,k5⟩:=N8 hT hmt hck hp hvk hvx g2 g3 g1;refine After.skip (w':=dy w b (.map ents' clock')) hdst ?_ ?_
        ·grind [execOp,Sem.run_bind,Result.andThen_ok,Sem.run_pure]
        ·exact aa0 ⟨_,_,_,_,_,H.turnM hh hb g1 k2 k3 k4 k5⟩
    |_=>grind
end
section
variable {c:Entry} {N:Nat} {U:Nat->Prop} {e:Env} {h:Hp} {a:Act} {w:World} {S:az} {β:List bQ} {γ:Nat->Value} {lam:Nat->Option Nat} {ω:Nat->Owner} {P:Program} {cx:Cx} {gid:Nat} {o:Oper}
omit [Dr]in
theorem jv{α:Type}{l:List α}{i:Nat}{x:α}(h:l[i]? = some x):i<l.length:=(acJ.1 h).1
theorem FR.newO(H:FR c N U e h a w S β γ lam ω)(ob:Obj)(cs:List AV)(_hcs:∀t,cs≠[.tup t])(hob:wK S (β++[(w.heap.size,0)]) (w.alloc ob) (h++[cs]) w.heap.size cs):
  ∃ω',FR c N U e (h++[cs]) a (w.alloc ob) S (β++[(w.heap.size,0)]) γ lam ω'/\(β++[(w.heap.size,0)])[h.length]? = some (w.heap.size,0):=by
 have H2:=H.allocO ob;have hext:ig β (β++[(w.heap.size,0)]):=fun l b hb=>by
  grind
 have hnew:(β++[(w.heap.size,0)])[h.length]? = some (w.heap.size,0):=by rw[<- H.hlen];simp
 have hωn:ω w.heap.size= .no:=by
  cases ho:ω w.heap.size with
  |no=>rfl
  |_=>have:=(H.mine w.heap.size (by rw[ho];simp)).2;omega
 have hω:∀b,ω b≠.no->eJ ω w.heap.size (.heap h.length) b=ω b:=fun b hb=>by
  unfold eJ;grind
 refine⟨eJ ω w.heap.size (.heap h.length),⟨H2.wf,H2.gro,H2.keep,H2.le,ig.trans H2.ext hext,by simp[H.hlen],?_,H2.tsz,?_,H2.grps,?_,?_,?_,H2.used⟩,hnew⟩
 ·intro l cs' hl hne;rcases ac9 l h.length with hlt|hge
  ·rw[ac6 hlt]at hl;rcases H2.heap l cs' hl hne with⟨b,x,k1,k2,k3,k4,k5⟩|⟨b,k1,k2,k3,k4⟩
   ·exact .inl ⟨b,x,hext _ _ k1,k2,qr,k4.mono (az.le_refl S) hext,k5⟩
   ·refine .inr ⟨b,hext _ _ k1,qr,k3,k4.keep (az.le_refl S) hext rfl fun j b' es hj he=>?_⟩
    grind
  ·rw[adh hge]at hl;have hlz:l=h.length:=by
    have:=jv hl
    simp at this;omega
   subst hlz;simp only[aeF,acV,acz]at hl;subst hl;exact .inr ⟨w.heap.size,hnew,by simp[eJ],fun o=>H.wf.none (acC _) o,hob⟩
 ·intro t' ht'
  have:=H2.slots t' ht'
  cases hv:(e.get t').v with
  |val av=>rw[hv]at this;exact VR.mono (az.le_refl S) hext _ _ this
  |loc B off=>rw[hv]at this;exact this
 ·intro B n hB;obtain⟨h1,h2,h3,b,y,h4,h5,h6,h7,h8⟩:=H2.lblk B n hB;refine⟨h1,h2,h3,b,y,h4,h5,qr,h7,fun i hi=>?_⟩;obtain⟨v,a',g1,g2,g3,g4⟩:=h8 i hi;exact⟨v,a',g1,g2,VR.mono (az.le_refl S) hext _ _ g3,g4⟩
 ·intro g z hg;obtain⟨a',len,cap,g1,g2,g3,g4⟩:=H2.free g z hg;refine⟨a',len,cap,g1,g2,g3,g4.imp id ?_⟩
  grind
 ·intro b hb;unfold eJ at hb;split at hb
  ·rename_i hbb;subst hbb;exact⟨.inr H.size,AI⟩
  ·rename_i hbb;exact⟨(H2.mine b hb).1.of_eq qr,(H2.mine b hb).2⟩
omit [Dr]in
theorem ge.iterRow(H:ge S β w ω h){l:Nat}{cs:List AV}(hl:h[l]? = some cs)(hne:cs≠[])(hcs:∀t,cs≠[.tup t])(hb:β[l]? = some (b,0)):LP β w h b cs/\ω b= .heap l/\∀o,S b o=none:=by
 rcases H l _ hl hne with⟨b',x,k1,k2,k3,k4,k5,_⟩|⟨b',k1,k2,k3,k4⟩
 ·rw[hb]at k1;simp only[acz,ado]at k1;have h2:=k4.length
  grind
 ·rw[hb]at k1;simp only[acz,ado,aeq]at k1;subst k1;rcases k4 with⟨es,h1,_⟩|k4
  all_goals grind
theorem FR.turnI(H:FR c N U e h a w S β γ lam ω){l:Nat}{cs cs':List AV}(ob:Obj)(hl:h[l]? = some cs)(hne:cs≠[])(hcs0:∀t,cs≠[.tup t])(hcs:∀t,cs'≠[.tup t])(hb:β[l]? = some (b,0))(hob:wK S β (dy w b ob) (h.set l cs') b cs'):FR c N U e (h.set l cs') a (dy w b ob) S β γ lam ω:=by
 obtain⟨hI,h3,h5⟩:=H.heap.iterRow hl hne hcs0 hb;have hbw:b<w.heap.size:=wK.lt (S:=S) (.inr hI);have hlt:=jv hl;have hωb:∀k,ω k≠.heap l->k≠b:=fun k hk=>qr
 have hother:∀k,ω k≠.heap l->(dy w b ob).heap[k]? = w.heap[k]?:=fun k hk=>cp w b _ (hωb k hk);have hg:Gro w (dy w b ob):=⟨by simp[dy],rfl,rfl,rfl,fun _=>acC _⟩;refine⟨fun k o v hv=>?_,H.gro.trans hg,fun k hk hE=>?_,H.le,H.ext,by simp[H.hlen],?_,H.tsz,H.slots,H.grps,?_,?_,fun k hk=>⟨(H.mine k hk).1,by simpa [dy]using(H.mine k hk).2⟩,H.used⟩
 ·have hkb:k≠b:=by rintro rfl;rw[h5]at hv;cases hv
  rw[cell_of_heap (cp w b _ hkb)];exact H.wf k o v hv
 ·have hkb:k≠b:=by
   rintro rfl
   have:=(H.mine k (by rw[h3];simp)).1.low
   rcases this with h|h
   ·exact hE h
   ·omega
  have:=H.keep k hk hE
  grind [cp]
 ·intro j ds hj hd;rw[adR]at hj;split at hj
  ·grind
  ·rename_i hlj;rcases H.heap j ds hj hd with⟨k,x,k1,k2,k3,k4,k5⟩|⟨k,k1,k2,k3,k4⟩
   ·have hk:=hother k qr;exact .inl ⟨k,x,k1,k2.of_eq hk,k3,k4,k5.1,fun t ht=>by obtain⟨z,hz⟩:=k5.2 t ht;grind⟩
   ·have hk:=hother k qr;refine .inr ⟨k,k1,k2,k3,k4.keep (az.le_refl S) (ig.refl β) hk fun i b' es2 hi he2=>?_⟩;rw[adR]at he2;split at he2
    ·grind
    ·rename_i hli;refine⟨he2,?_⟩;obtain⟨_,_,_,_,_,g,_⟩:=H.heap.mapRow he2 hi
     grind
 ·intro B n hB;obtain⟨k1,k2,k3,k,z,k4,k5,k6,k7,k8⟩:=H.lblk B n hB;exact⟨k1,k2,k3,k,z,k4,k5.of_eq (hother k (by rw[k6];simp)),k6,k7,k8⟩
 ·intro g z hg;obtain⟨a',len,cap,g1,g2,g3,g4⟩:=H.free g z hg;refine⟨a',len,cap,g1,g2,g3,g4.imp id ?_⟩;rintro⟨sz,k,off,z',k1,k2,k3,k4,k5,k6⟩;exact⟨sz,k,off,z',k1,k2,k3.of_eq (hother k (by rw[k5];simp)),k4,k5,k6⟩
theorem Od(hT:TOK P cx.T)(H:FR c N U e h a w S β γ lam ω)(hd:∀t,o.dst=some t->t<N){t:TypeId}(ho:o.op= .range t x)(hx:∀t,x= .tmp t->t<1000)(hr:aP e o.dst (.dyn (u4 cx.T t (opnd e x)) .ofV) h≠.fail):After P c N (UG U gid) (aP e o.dst (.dyn (u4 cx.T t (opnd e x)) .ofV) h) o a w:=by
 have hvx:=bd H x hx;simp only[aP,aG,ao]at hr |-;unfold u4 at hr |-;cases hm:jY cx.T t with
 |none=>grind
 | some q=>
  obtain⟨kt,et⟩:=q;have hu:=Dd hT hm;rw[hm]at hr;simp only at hr |-;cases hq:opnd e x with
  | mp l=>
   rw[hq]at hr hvx;simp only at hr |-;cases hh:h[l]? with
   |none=>grind
   | some cs=>
    rw[hh]at hr
    match cs,hh,hr with
    | [.tup es],hh,hr=>
     simp only at hr |-;simp only[VR]at hvx;obtain⟨⟨b,n⟩,hb,h0,hv⟩:=hvx;simp only at h0;subst h0;obtain⟨ents,clock,g1,g2,g3,_⟩:=H.heap.mapRow hh hb;have hbw:b<w.heap.size:=(acN.1 g1).1;have hl:=jv hh;have hext:ig β (β++[(w.heap.size,0)]):=fun l b hb=>qr
     obtain⟨ω',F,hnew⟩:=H.newO (.mapIter (some b) clock #[] clock) [.tup [],.mp l,qi (es.length:Nat),FV (List.range es.length),.any] AI
      (.inr (.inl ⟨l,es.length,List.range es.length,b,clock,#[],clock,.any,rfl,hext _ _ hb,acC _,heap_alloc_new w _,.inl rfl,fun es2 he2=>by
       rw[ac6 hl,hh]at he2;simp only[acz,adN,AV.tup.injEq,aeq]at he2;subst he2;refine⟨acC _,fun _=>⟨ents,clock,by rw[alloc_old w _ hbw];exact g1,g3.1,?_,rfl,fun c hc=>by cases hc⟩⟩;unfold dF;rw[<- g2.1];symm;rw[List.filter_eq_self];intro i hi;have hi':i<ents.toList.length:=by rw[<- g2.1];simpa using hi
       grind⟩))
     have hrun:(execOp a.eval o).run P w= .ok (.value (.pointer (some ⟨w.heap.size,0,none⟩))) (w.alloc (.mapIter (some b) clock #[] clock)):=by
      simp[execOp,ho,hv,Instr.range,run_underlying hu,uc g1]
     refine After.val hrun (aa0 ⟨_,_,γ,lam,ω',F.setV hd ?_⟩);simp only[VR]
     grind
  | nilm=>
   rw[hq]at hvx;simp only[VR]at hvx;simp only;obtain⟨ω',F,hnew⟩:=H.newO (.mapIter none 0 #[] 0) [.tup [],.nilm] AI (.inr (.inr ⟨rfl,0,#[],0,heap_alloc_new w _⟩));have hrun:(execOp a.eval o).run P w= .ok (.value (.pointer (some ⟨w.heap.size,0,none⟩))) (w.alloc (.mapIter none 0 #[] 0)):=by
    simp[execOp,ho,hvx,Instr.range,run_underlying hu]
   refine After.val hrun (aa0 ⟨_,_,γ,lam,ω',F.setV hd ?_⟩);simp only[VR]
   grind
  |_=>grind
section
omit [Dr]
theorem rZ{x:MapEntry}:{l:List MapEntry} ->{c:Nat} ->l.Pairwise (fun x y=>x.born≠y.born)->l[c]? = some x->l.find? (·.born== x.born)=some x
 |[],_,_,h=>by simp at h
 | y:: l,c,hp,h=>by
  obtain⟨h1,h2⟩:=aeA.1 hp;cases c with
  |zero=>grind
  |succ c=>
   have h':l[c]? = some x:=by simpa using h
   have hne:=h1 x (adl h');rw[adS,acM.2 hne];exact rZ h2 h'
theorem jS{r:Nat}{ob:Obj}(hb:w.heap[r]? = some ob)(hc:∀c t f,ob≠.cells c t f):(getObj r).run P w= .ok ob w:=by
 simp only[getObj,Sem.run,hb]
theorem rV{x:AV}{h:Hp}(hr:oU x h≠.fail):∃l m n p cu es k u,x= .it l/\h[l]? = some [.tup [],.mp m,.int .i64 n,p,.int .i64 cu]/\h[m]? = some [.tup es]/\(es.length:Int)=n/\es[cu.toNat]? = some (.tup [k,u])/\oU x h= .ok (.tup [k,u]) h:=by
 unfold oU at hr |-
 grind
end
theorem MI(H:FR c N U e h a w S β γ lam ω)(hd:∀t,o.dst=some t->t<N){x:Operand}(ho:o.op= .entry x)(hx:∀t,x= .tmp t->t<1000)(hr:aP e o.dst (.dyn (oU (opnd e x)) .ofV) h≠.fail):After P c N (UG U gid) (aP e o.dst (.dyn (oU (opnd e x)) .ofV) h) o a w:=by
 have hvx:=bd H x hx;simp only[aP,aG,ao]at hr |-;obtain⟨l,m,n,p,cu,es,k,u,hq,hh,hm,hn,he,hok⟩:=rV (x:=opnd e x) (h:=h) (fun hf=>qr);rw[hok];simp only;rw[hq]at hvx;simp only[VR]at hvx;obtain⟨⟨b,z⟩,hb,h0,hv⟩:=hvx;simp only at h0;subst h0;obtain⟨hI,_,_⟩:=H.heap.iterRow hh AI AI hb;rcases hI with⟨l',n',ps,b',since,seen,last,cur,h1,h2,h3,h4,hcu,h5⟩|⟨h1,_⟩
 ·simp only[adN,AV.mp.injEq,AV.int.injEq,aeR,aeq]at h1;obtain⟨rfl,rfl,rfl,rfl⟩:=h1;rcases hcu with hcu|⟨ci,hcu⟩
  ·cases hcu
  simp only[AV.int.injEq,aeR]at hcu;subst hcu;obtain⟨_,k2⟩:=h5 es hm;obtain⟨ents,clock,j1,j2,j3,j4,j5⟩:=k2 WD;obtain⟨y,hy,hs⟩:=j5 ci rfl;obtain⟨ents0,clock0,g1,g2,g3,_⟩:=H.heap.mapRow hm h2;rw[j1]at g1;simp only[acz,Obj.map.injEq]at g1;obtain⟨rfl,rfl⟩:=g1;subst j4;have hf:ents.find? (·.born== y.born)=some y:=by rw[<- Array.find?_toList];exact rZ g3.2 hy
  have hrun:(execOp a.eval o).run P w= .ok (.value (.tuple #[y.key,y.val])) w:=by
   simp[execOp,ho,hv,Instr.entry,jS h4 AI,hs,jS j1 AI,hf]
  simp only[acG]at he;obtain⟨k',v',hkv,hk,hvv⟩:=g2.2 ci _ y he hy;simp only[AV.tup.injEq,adN,aeq]at hkv;obtain⟨rfl,rfl⟩:=hkv;refine After.val hrun (aa0 ⟨_,_,γ,lam,ω,H.setV hd ?_⟩);simp only[VR];exact⟨[y.key,y.val],rfl,by simp only[be];grind⟩
 ·simp at h1
section
omit [Dr]
theorem we{ents:List MapEntry}{seen:Array Nat}{i:Nat}:i∈dF ents seen↔∃x,ents[i]? = some x/\seen.contains x.born=false:=by
 grind [dF]
theorem born_inj{ents:List MapEntry}(h:ents.Pairwise fun x y=>x.born≠y.born){i j:Nat}{x y:MapEntry}(hi:ents[i]? = some x)(hj:ents[j]? = some y)(hb:x.born=y.born):i=j:=by
 rcases Nat.lt_trichotomy i j with hl|hl|hl
 ·obtain⟨h1,rfl⟩:=acJ.1 hi;obtain⟨h2,rfl⟩:=acJ.1 hj
  grind [List.pairwise_iff_getElem]
 ·exact hl
 ·obtain⟨h1,rfl⟩:=acJ.1 hi;obtain⟨h2,rfl⟩:=acJ.1 hj
  grind [List.pairwise_iff_getElem]
theorem oZ{ents:List MapEntry}(hp:ents.Pairwise fun x y=>x.born≠y.born){seen:Array Nat}{i:Nat}{x:MapEntry}(hi:ents[i]? = some x):
  dF ents (seen.push x.born)=(dF ents seen).filter fun r=>!(Nat.beq r i):=by
 unfold dF;rw[List.filter_filter];refine aeO fun r hr=>?_;have hr':r<ents.length:=by simpa using hr
 rw[acH hr'];show (!(seen.push x.born).contains ents[r].born)=(!(Nat.beq r i)&&!seen.contains ents[r].born);have hc:(seen.push x.born).contains ents[r].born=(seen.contains ents[r].born||ents[r].born== x.born):=by
  rw[aen];simp
 rw[hc];have hri:(ents[r].born== x.born)=Nat.beq r i:=by
  cases hb:Nat.beq r i with
  |true=>
   grind [Nat.eq_of_beq_eq_true]
  |false=>
   have hne:r≠i:=fun hh=>AN
   exact acM.2 fun hh=>hne (born_inj hp (acH hr') hi hh)
 grind
theorem BU(ty:TypeId){bm since last clock:Nat}{seen:Array Nat}{es:Array MapEntry}(hb:w.heap[b]? = some (.mapIter (some bm) since seen last))(hm:w.heap[bm]? = some (.map es clock))(hold:∀x∈es.toList,x.born<since)(hsc:since<=last):
  (dF es.toList seen=[]/\(Instr.next (.pointer (some ⟨b,0,none⟩)) false ty).run P w= .ok (.tuple #[.bool false]) w)\/
  ∃i x w1,i∈dF es.toList seen/\es.toList[i]? = some x/\(w1=w\/w1=w.drew)/\(Instr.next (.pointer (some ⟨b,0,none⟩)) false ty).run P w= .ok (.tuple #[.bool true,x.key,x.val]) (dy w1 b (.mapIter (some bm) since (seen.push x.born) clock)):=by
 have htest:(!seen.isEmpty&&!es.isEmpty&&es.all (fun x=>decide (x.born >= last)))=false:=by
  cases he:es.isEmpty with
  |true=>simp
  | false=>
   have hall:es.all (fun x=>decide (x.born >= last))=false:=by
    rw[adT];intro h;rw[aeS]at h;have h0:0<es.size:=by
     rcases adp es.size with h0|h0
     ·grind
     ·exact h0
    have h1:=h _ (Array.getElem_mem h0);have h2:=hold es[0] AI;simp at h1;omega
   simp[hall]
 have hleft:∀x,x∈(es.filter fun e=>!seen.contains e.born).toList->∃i,i∈dF es.toList seen/\es.toList[i]? = some x:=fun x hx=>by
  grind [List.getElem?_of_mem,we]
 have hnone:(es.filter fun e=>!seen.contains e.born).size=0->dF es.toList seen=[]:=fun h0=>by
  rw[aeY];intro i hi;obtain⟨x,hx,hs⟩:=we.1 hi;have:x∈(es.filter fun e=>!seen.contains e.born).toList:=by
   simp only[Array.toList_filter,aeK];exact⟨adl hx,by simpa using hs⟩
  grind
 have hmem:∀x∈(es.filter fun e=>!seen.contains e.born).toList,x.born<since:=fun x hx=>by
  grind
 simp only[Instr.next,getObj,Sem.run_bind,Sem.run,hb,hm,Result.andThen,htest,acA,acI];generalize (es.filter fun e=>!seen.contains e.born)=L at hleft hnone hmem |-;have e1:L.filter (fun x=>decide (x.born<since))=L:=Array.filter_eq_self.2 (fun x hx=>qr);have e2:L.filter (fun x=>decide (x.born >= since))= #[]:=by
  rw[Array.filter_eq_empty_iff];intro x hx
  have:=hmem x (by simpa using hx)
  simp;omega
 simp only[e1,e2,Array.append_empty];by_cases h0:L.size=0
 ·simp_all[Question.forced]
 ·right;have hne:L.isEmpty=false:=by simp[Array.isEmpty,h0]
  simp only[hne,acA,acI,Array.empty_append,Array.size_map];have hch:∃(j:Nat)(w1:World),j<L.size/\(w1=w\/w1=w.drew)/\(choose (Question.mapNext L.size)).run P w= .ok j w1:=by
   by_cases hf:L.size<=1
   ·exact⟨0,w,WD,.inl rfl,by grind [choose,Sem.run,Question.forced]⟩
   ·exact⟨_,w.drew,afo _ WD,.inr rfl,by
     simp only[choose,Sem.run,Question.forced,acP,hf,acI,Question.cut];rfl⟩
  obtain⟨j,w1,hj,hw1,hrun⟩:=hch;obtain⟨i,hi1,hi2⟩:=hleft L[j] AI;refine⟨i,L[j],w1,hi1,hi2,hw1,?_⟩;have hb1:w1.heap[b]? = some (.mapIter (some bm) since seen last):=by rcases hw1 with rfl|rfl<;>exact hb
  simp_all[setObj,dy,Sem.run]
end
end
end Go.Av
namespace Go.Av
open Go
section
variable {F:Fence} {n:Nat} {P:Program} {w w':World} {ops:Array Oper} {rest:List Oper} {o:Oper} {a:Act} {Q:Exit->Act->World->Prop} {v:Value}
theorem gx(hg:o.guard=none)(m:Operand)(t:TypeId)(hop:o.op=Op.range t m)(hrun:(Instr.range t (a.eval m)).run P w= .ok v w')(hK:wpListIn F n P ops Q rest (a.put o.dst v) w'):wpListIn F n P ops Q (o:: rest) a w:=by
 refine wpListIn_plain hg fun K' hK'=>?_;unfold Oper.wpIn;refine⟨by simp[Oper.about,hop],?_⟩;rw[Oper.semAt_plain F _ _ (by rw[hop];intro c hc';cases hc')];simp[execOp,hop,hrun,Result.andThen];exact hK' _ _ hK
theorem gS(hg:o.guard=none)(it:Operand)(hop:o.op=Op.next it false)(hrun:(Instr.next (a.eval it) false o.type).run P w= .ok v w')(hK:wpListIn F n P ops Q rest (a.put o.dst v) w'):wpListIn F n P ops Q (o:: rest) a w:=by
 refine wpListIn_plain hg fun K' hK'=>?_;unfold Oper.wpIn;refine⟨by simp[Oper.about,hop],?_⟩;rw[Oper.semAt_plain F _ _ (by rw[hop];intro c hc';cases hc')];simp[execOp,hop,hrun,Result.andThen];exact hK' _ _ hK
theorem nI(hg:o.guard=none)(it:Operand)(hop:o.op=Op.next it false){b bm since last clock:Nat}{seen:Array Nat}{es:Array MapEntry}(hit:a.eval it= .pointer (some ⟨b,0,none⟩))(hb:w.heap[b]? = some (.mapIter (some bm) since seen last))(hm:w.heap[bm]? = some (.map es clock))(hold:∀x∈es.toList,x.born<since)(hsc:since<=last)(hDone:dF es.toList seen=[]->wpListIn F n P ops Q rest (a.put o.dst (.tuple #[.bool false])) w)(hMore:∀i x w1,i∈dF es.toList seen->es.toList[i]? = some x->(w1=w\/w1=w.drew)->wpListIn F n P ops Q rest (a.put o.dst (.tuple #[.bool true,x.key,x.val])) (dy w1 b (.mapIter (some bm) since (seen.push x.born) clock))):
  wpListIn F n P ops Q (o:: rest) a w:=by
 rcases BU (P:=P) o.type hb hm hold hsc with⟨i1,i2⟩|⟨i,u,w1,i1,i2,i3,i4⟩
 ·exact gS hg it hop (by rw[hit];exact i2) (hDone i1)
 ·exact gS hg it hop (by rw[hit];exact i4) (hMore i u w1 i1 i2 i3)
theorem lJ(hg:o.guard=none)(m x:Operand)(t:TypeId)(ok:Bool)(hop:o.op=Op.lookup t m x ok)(hrun:(Instr.lookup t (a.eval m) (a.eval x) ok).run P w= .ok v w')(hK:wpListIn F n P ops Q rest (a.put o.dst v) w'):wpListIn F n P ops Q (o:: rest) a w:=by
 refine wpListIn_plain hg fun K' hK'=>?_;unfold Oper.wpIn;refine⟨by simp[Oper.about,hop],?_⟩;rw[Oper.semAt_plain F _ _ (by rw[hop];intro c hc';cases hc')];simp[execOp,hop,hrun,Result.andThen];exact hK' _ _ hK
theorem lK(hg:o.guard=none)(m x y:Operand)(t:TypeId)(hop:o.op=Op.mapUpdate t m x y)(hrun:(Instr.mapUpdate t (a.eval m) (a.eval x) (a.eval y)).run P w= .ok () w')(hK:wpListIn F n P ops Q rest (a.put o.dst undef) w'):wpListIn F n P ops Q (o:: rest) a w:=by
 refine wpListIn_plain hg fun K' hK'=>?_;unfold Oper.wpIn;refine⟨by simp[Oper.about,hop],?_⟩;rw[Oper.semAt_plain F _ _ (by rw[hop];intro c hc';cases hc')];simp[execOp,hop,hrun,Result.andThen];exact hK' _ _ hK
end
def lW(w:World)(b:Nat)(o:Obj):w.grownBy (dy w b o) (some b):=
 ⟨rfl,rfl,rfl,by simp[dy],fun k _ hk=>cp w b o (fun e=>hk (by rw[e]))⟩
def yv(w:World):w.grownBy w.drew none:=⟨rfl,rfl,rfl,acC _,fun _ _ _=>rfl⟩
def zo{P:Program}{w:World}{b bm since last:Nat}{seen:Array Nat}{es:Array MapEntry}{x:MapEntry}{i:Nat}(hb:w.heap[b]? = some (.mapIter (some bm) since (seen.push x.born) last))(hm:w.heap[bm]? = some (.map es last))(hst:my es.toList last)(hi:es.toList[i]? = some x):
  (Instr.entry (.pointer (some ⟨b,0,none⟩))).run P w= .ok (.tuple #[x.key,x.val]) w:=by
 have hf:es.find? (·.born== x.born)=some x:=by rw[<- Array.find?_toList];exact rZ hst.2 hi
 simp[Instr.entry,jS hb AI,jS hm AI,hf]
def vQ{l:List Nat}(hn:l.Nodup){i:Nat}(hi:i∈l):l.Perm (i:: l.filter fun r=>!(Nat.beq r i)):=by
 have he:(l.filter fun r=>!(Nat.beq r i))=l.erase i:=by
  rw[hn.erase_eq_filter];refine aeO fun r _=>?_;cases hb:Nat.beq r i with
  |true=>have:=Nat.eq_of_beq_eq_true hb;subst this;simp
  | false => have:r≠i:=fun e=>by subst e;simp at hb
             simp[this]
 rw[he];exact List.perm_cons_erase hi
def rG(es:List MapEntry)(seen:Array Nat):(dF es seen).Nodup:=List.Nodup.sublist List.filter_sublist List.nodup_range
def wg(es:List MapEntry):dF es #[]=List.range es.length:=by
 unfold dF;rw[List.filter_eq_self];intro i hi;have hi':i<es.length:=by simpa using hi
 rw[acH hi'];simp
def wZ(w:World)(r b:Nat):Nat:=match w.heap[r]?,w.heap[b]? with
 |some (.mapIter _ _ seen _),some (.map es _)=>(dF es.toList seen).length
 |_,_=>0
end Go.Av
namespace Go.Av
variable [Dr]
variable {B off t:Nat}{ti:TI}
section
variable {P:Program} {cx:Cx} {c:Entry} {N:Nat} {U:Nat->Prop} {e:Env} {h:Hp} {a:Act} {w:World} {S:az} {β:List bQ} {γ:Nat->Value} {lam:Nat->Option Nat} {ω:Nat->Owner} {o:Oper} {gid:Nat}
theorem FR.locals(H:FR c N U e h a w S β γ lam ω){n:Nat}(hin:nh e B off n=true):∃b x m,bb e.lb B=some m/\off+n<=m/\lam B=some b/\Row w b x/\m<=x.size/\
  ∀i,i<n->∃v a',x[off+i]? = some v/\(e.get (B+off+i)).v= .val a'/\VR S β a' v/\∀g z,(e.get (B+off+i)).g=some g->aQ e.al g=some z->v=γ g:=by
 unfold nh at hin;split at hin
 ·rename_i m hm;have hle:off+n<=m:=by simp at hin;exact hin.1.1.1
  obtain⟨_,_,_,b,x,h1,h2,h3,h4,h5⟩:=H.lblk B m hm;have hms:m<=x.size:=by
   rcases adp m with h0|h0
   ·omega
   ·grind
  refine⟨b,x,m,hm,hle,h1,h2,hms,fun i hi=>?_⟩
  have:=h5 (off+i) WD
  grind
 ·simp at hin
section
omit [Dr]
theorem yt{S:az}{β:List bQ}{e:Env}{B:Nat}{f:Nat->Value}:(n:Nat)->(∀i,i<n->VR S β (e.av (B+i)) (f i))->be S β (pE e B n) ((List.range n).map f)
 |0,_=>by simp[pE,be]
 |n+1,hh=>by
  simp only[pE,List.range_succ,adO,ac3,ael];refine be.append (yt n fun i hi=>hh i WD) ?_;simp only[be]
  grind
theorem wi(hT:TOK P cx.T)(ht:cx.T t=some ti){b:Nat}{x:Array Value}(hr:Row w b x)(f:Nat->Value)(hf:∀i,i<ti.size->x[off+i]? = some (f i)):
  (ti.agg=true->(loadVar t ⟨b,off,none⟩).run P w= .ok (.agg ((List.range ti.size).map f).toArray) w)/\(ti.agg=false->ti.size=1->(loadVar t ⟨b,off,none⟩).run P w= .ok (f 0) w):=by
 obtain⟨ii,d,_,hii,hd,_,_,hsz,_,_,hag,_⟩:=(hT.get ht).ex;refine⟨fun hagg=>?_,fun hagg hone=>?_⟩
 ·have:=run_loadCells (P:=P) w ⟨b,off,none⟩ ti.size f (fun j hj=>by rw[addr_add,hr.cell];exact hf j hj)
  simp_all[loadVar,ky,run_sizeOf]
 ·have h0:=hf 0 WD;rw[<- hr.cell]at h0;simp_all[loadVar,ky]
theorem NA{T:TT}{x:AV}{h:Hp}(hx:∀l off,x≠.hp l off):bM T t x h=match ay T t x with|some v=>.ok v h|none=>.fail:=by
 unfold bM
 grind
end
theorem C4(hT:TOK P cx.T)(H:FR c N U e h a w S β γ lam ω)(hd:∀t,o.dst=some t->t<N){p:Nat}(ho:o.op= .load t (.tmp p))(hx:p<1000)(hr:aP e o.dst (fR cx e o.dst t p) h≠.fail):
  After P c N (UG U gid) (aP e o.dst (fR cx e o.dst t p) h) o a w:=by
 have hp:=H.slots p hx;unfold fR at hr |-;cases hv:(e.get p).v with
 | loc B off=>
  rw[hv]at hr hp;simp only at hr |-;simp only[jp]at hp;obtain⟨b,hlam,hpv⟩:=hp;cases ht:cx.T t with
  |none=>rw[ht]at hr;exact absurd rfl hr
  | some ti=>
   rw[ht]at hr;simp only at hr |-;cases hin:nh e B off ti.size with
   |false=>rw[hin]at hr;exact absurd rfl hr
   | true=>
    rw[hin]at hr;simp only[acD]at hr |-;obtain⟨b',x,m,hm,hle,hlam',hrow,hms,hcells⟩:=H.locals hin;rw[hlam]at hlam';cases hlam';let f:Nat->Value:=fun i=>(x[off+i]?).getD undef;have hf:∀i,i<ti.size->x[off+i]? = some (f i):=fun i hi=>by
     grind
    have hload:=wi hT ht hrow f hf;have hexec:∀v,(loadVar t ⟨b,off,none⟩).run P w= .ok v w->(execOp a.eval o).run P w= .ok (.value v) w:=fun v hv'=>by
     grind [execOp,Act.eval,Instr.loadAt,Instr.sureAddr,Sem.run_bind,Sem.run_pure,Result.andThen_ok]
    cases hag:ti.agg with
    |true=>
     simp only[acD];refine After.val (hexec _ (hload.1 hag)) (aa0 ⟨S,β,γ,lam,ω,H.setV hd ?_⟩);simp only[VR];refine⟨_,rfl,yt ti.size fun i hi=>?_⟩
     grind [Env.av,Ent.av]
    | false=>
     rw[hag]at hr;simp only[acO]at hr |-;cases hone:decide (ti.size=1)with
     |false=>rw[hone]at hr;exact absurd rfl hr
     |true=>
      have hone':ti.size=1:=by simpa using hone
      simp only[acD];obtain⟨v,a',g1,g2,g3,g4⟩:=hcells 0 WD;simp only[aeG]at g1 g2 g4;have hfv:f 0=v:=by show (x[off+0]?).getD undef=v;rw[aeG,g1];rfl
      refine After.val (hexec _ (hfv▸hload.2 hag hone')) (aa0 ⟨S,β,γ,lam,ω,H.set hd ?_ (fun g z hg hz=>g4 g z hg hz) (fun g hg=>H.used.1 _ g hg)⟩);rw[g2];exact g3
 | val av =>
  rw[hv]at hr hp;simp only at hr |-;simp only[jp]at hp;have hexec:∀v,(Instr.loadAt t (a.tmps.getD p undef)).run P w= .ok v w->(execOp a.eval o).run P w= .ok (.value v) w:=fun v hv'=>by
   grind [execOp,Act.eval,Sem.run_bind,Result.andThen_ok,Sem.run_pure]
  have hbyval:∀r,ay cx.T t av=some r->After P c N (UG U gid) (.ok (e.upd o.dst (.ofV r)) h) o a w:=fun r hr'=>by
   obtain⟨v,h1,h2⟩:=C2 hT H.wf hr' hp;exact After.val (hexec v h1) (aa0 ⟨S,β,γ,lam,ω,H.setV hd h2⟩)
  cases hmem:bX cx.ann.hl o.dst with
  |false=>
   rw[hmem]at hr;simp only[acO]at hr |-;cases hl:ay cx.T t av with
   |none=>rw[hl]at hr;exact absurd rfl hr
   |some r=>exact hbyval r hl
  | true =>
   rw[hmem]at hr;simp only[acD]at hr |-;simp only[aP,aG]at hr |-;by_cases hav:∃l off,av= .hp l off
   ·obtain⟨l,off,rfl⟩:=hav;unfold bM at hr |-;simp only at hr |-;simp only[VR]at hp;obtain⟨⟨b,nb⟩,hb,hb0,hpv⟩:=hp;cases ht:cx.T t with
    |none=>grind
    | some ti=>
     cases hcs:h[l]? with
     |none=>grind
     | some cs=>
      rw[ht,hcs]at hr;simp only at hr |-;obtain⟨ii,d,_,hii,hdd,_,_,hsz,_,_,hagd,_⟩:=(hT.get ht).ex;by_cases hne:cs=[]
      ·subst hne;cases hag:ti.agg with
       | true=>
        rw[hag]at hr;simp only[acD,acS]at hr |-;by_cases hz:off+ti.size<=0
        ·rw[acL hz]at hr |-;have hz0:ti.size=0:=WD
         have hl0:(loadVar t ⟨b,off,none⟩).run P w= .ok (.agg #[]) w:=by
          simp[loadVar,ky hdd,hagd,hag,run_sizeOf hii,hsz,hz0,loadCells,loadCellsFrom]
         refine After.val (v:=.agg #[]) (hexec _ (by grind [Instr.loadAt,Instr.sureAddr])) (aa0 ⟨S,β,γ,lam,ω,H.setV hd ?_⟩)
         grind [VR,be]
        grind
       |false=>grind
      ·obtain⟨y,k1,k2,k3,k4,k5⟩:=H.heap.cells hcs hne hb hb0;rw[hb]at k1;cases k1;have hcell:∀j v,(y.toList.take cs.length)[j]? = some v->w.cell? ⟨b,0+j,none⟩=some v:=fun j v hj=>by
        rw[ac8,k2.cell]
        grind
       have hvd:=k4.drop off;have hcd:∀j v,((y.toList.take cs.length).drop off)[j]? = some v->w.cell? ⟨b,off+j,none⟩=some v:=fun j v hj=>by
        grind
       cases hag:ti.agg with
       | true=>
        rw[hag]at hr;simp only[acD]at hr |-;by_cases hz:off+ti.size<=cs.length
        ·rw[acL hz]at hr |-;obtain⟨v,h1,h2⟩:=sA hT ht hvd hcd (r:=.agg ((cs.drop off).take ti.size)) qr;exact After.val (hexec v (by grind [Instr.loadAt,Instr.sureAddr])) (aa0 ⟨S,β,γ,lam,ω,H.setV hd h2⟩)
        grind
       | false=>
        rw[hag]at hr;simp only[acO]at hr |-;cases hg:cs[off]? with
        |none=>grind
        |some r=>
         simp only;obtain⟨v,h1,h2⟩:=sA hT ht hvd hcd (r:=r) AN;exact After.val (hexec v (by grind [Instr.loadAt,Instr.sureAddr])) (aa0 ⟨S,β,γ,lam,ω,H.setV hd h2⟩)
   ·rw[NA (fun l off hh=>hav ⟨l,off,hh⟩)]at hr |-;cases hl:ay cx.T t av with
    |none=>grind
    |some r=>exact hbyval r hl
end
variable {cs:List AV}{x:Operand}
section
variable {P:Program} {cx:Cx} {c:Entry} {N:Nat} {U:Nat->Prop} {e:Env} {h:Hp} {a:Act} {w:World} {S:az} {β:List bQ} {γ:Nat->Value} {lam:Nat->Option Nat} {ω:Nat->Owner} {o:Oper} {gid:Nat}
section
omit [Dr]
theorem ko{x:AV}{v:Value}(h:aO x=true)(hv:VR S β x v):v.cells= #[v]/\v.oneCell'=true:=by
 have h1:cW x=some 1:=by cases x<;>simp_all[aO,cW]
 have h2:cn 1 x=true:=by
  unfold cn;rw[h1];cases x<;>simp_all[aO,ab]
 obtain⟨g1,g2,g3⟩:=pf h2 hv;have hc:v.cells= #[v]:=by
  cases x<;>simp[aO]at h<;>simp only[VR]at hv
  case bool=>subst hv;rfl
  case int=>subst hv;rfl
  case nilp=>subst hv;rfl
  case nilf=>subst hv;rfl
  case nili=>subst hv;rfl
  case hn=>subst hv;rfl
  case he=>obtain⟨_,rfl⟩:=hv;rfl
  case str=>obtain⟨_,rfl,_⟩:=hv;rfl
  case sl=>obtain⟨_,_,rfl,_⟩:=hv;rfl
  case ip=>obtain⟨_,_,_,rfl,_⟩:=hv;rfl
  case hp=>obtain⟨_,_,_,rfl⟩:=hv;rfl
  case mp=>obtain⟨_,_,_,rfl⟩:=hv;rfl
  case nilm=>subst hv;rfl
  case hs=>rcases hv with⟨_,_,_,_,rfl,_⟩|⟨_,_,rfl⟩<;>rfl
  case fn=>obtain⟨_,_,rfl,_⟩:=hv;rfl
  case iface=>obtain⟨_,rfl,_⟩:=hv;rfl
 grind
theorem wD(hT:TOK P cx.T)(ht:cx.T t=some ti){b:Nat}{x:Array Value}{v:Value}(hr:Row w b x)(hs:v.cells.size=ti.size)(hone:∀y∈v.cells.toList,y.oneCell'=true)(hle:off+ti.size<=x.size):
  (Instr.storeAt t (.pointer (some ⟨b,off,none⟩)) v).run P w= .ok () (w.setRow b (x.toList.take off++v.cells.toList++x.toList.drop (off+v.cells.toList.length)).toArray):=by
 obtain⟨ii,d,_,hii,hd,_,_,hsz,_⟩:=(hT.get ht).ex;obtain⟨te,hrow⟩:=hr;have hst:=run_storeCells_at P b off te v.cells.toList 0 x w hrow qr hone;simp_all[Instr.storeAt,Instr.sureAddr,storeVar,run_sizeOf]
theorem uw{n:Nat}{x:AV}{v:Value}(h:oR n x=some cs)(hv:VR S β x v):cs=ab x/\v.cells.size=n/\be S β cs v.cells.toList/\∀y∈v.cells.toList,y.oneCell'=true:=by
 unfold oR at h;cases hk:cn n x with
 |false=>grind
 |true=>
  rw[hk]at h;simp only[acD,acz]at h;subst h;obtain⟨h1,h2,h3⟩:=pf hk hv
  grind
theorem Fi{x:AV}(h:Vd x=true):x= .hn:=by cases x<;>simp_all[Vd]
end
theorem Gy(hT:TOK P cx.T)(H:FR c N U e h a w S β γ lam ω)(_hN:∀t,t<1000->True)(hU:∀g,gid<=g->g<gid+1000->¬U g){y:Operand}(ho:o.op= .store t x y)(hx:∀t,x= .tmp t->t<1000)(hy:∀t,y= .tmp t->t<1000)(hpN:∀p,x= .tmp p->KW (dw cx.ann.kinds p .L)=true->p<N)(hsp:∀p,x= .tmp p->zt cx p=false)(hr:bT cx e gid o h≠.fail):After P c N (UG U gid) (bT cx e gid o h) o a w:=by
 unfold bT iK at hr |-;rw[ho]at hr |-;cases x<;>simp only at hr |- <;> (try exact absurd rfl hr);rename_i p;cases hdst:o.dst with
 |some d=>rw[hdst]at hr;exact absurd rfl hr
 |none=>
 rw[hdst]at hr;simp only[hsp p rfl,acO]at hr |-;cases hlw:dM cx.ann.lw p&&!(mO (e.get p))with
 |true=>rw[hlw]at hr;exact absurd rfl hr
 |false=>
 rw[hlw]at hr;simp only[acO]at hr |-;have hp:=H.slots p (hx p rfl);have hyv:=bd H y hy;have hexec:∀w',(Instr.storeAt t (a.tmps.getD p undef) (a.eval y)).run P w= .ok () w'->(execOp a.eval o).run P w= .ok .skip w':=fun w' hh=>by
  have he:a.eval (.tmp p)=a.tmps.getD p undef:=rfl
  grind [execOp,Sem.run_bind,Result.andThen_ok,Sem.run_pure]
 unfold iW at hr |-;cases hv:(e.get p).v with
 | loc B off=>
  rw[hv]at hr hp;simp only at hr |-;simp only[jp]at hp;obtain⟨b,hlam,hpv⟩:=hp;cases ht:cx.T t with
  |none=>rw[ht]at hr;exact absurd rfl hr
  | some ti =>
   rw[ht]at hr;simp only at hr |-;cases hin:nh e B off ti.size with
   |false=>rw[hin]at hr;exact absurd rfl hr
   | true =>
    rw[hin]at hr;simp only[acD]at hr |-;obtain⟨b',z,m,hm,hle,hlam',hrow,hms,hcells⟩:=H.locals hin;rw[hlam]at hlam';cases hlam';have hst:∀v,a.eval y=v->v.cells.size=ti.size->(∀q∈v.cells.toList,q.oneCell'=true)->
      (execOp a.eval o).run P w= .ok .skip (w.setRow b (z.toList.take off++v.cells.toList++z.toList.drop (off+v.cells.toList.length)).toArray):=fun v hv' h1 h2=>
     hexec _ (by grind [wD])
    cases hS:KW (dw cx.ann.kinds p .L)with
    | true=>
     rw[hS]at hr;simp only[acD]at hr |-;cases hcond:sS e B off p ti.size with
     |false=>rw[hcond]at hr;exact absurd rfl hr
     | true=>
      rw[hcond]at hr;simp only[acD]at hr |-;unfold sS at hcond;rw[hm]at hcond;simp only[acB]at hcond;obtain⟨⟨h1,h2⟩,h3⟩:=hcond;have h1:=Nat.eq_of_beq_eq_true h1;have h3:=Nat.eq_of_beq_eq_true h3;subst h1 h3;unfold bB at hr |-;cases hcs:oR ti.size (opnd e y)with
      |none=>rw[hcs]at hr;exact absurd rfl hr
      |some cs=>
       obtain⟨k1,k2,k3,k4⟩:=uw hcs hyv;obtain⟨S',ω',_,F⟩:=H.storeS (u:=⟨.val (.tup []),none⟩) (hpN p rfl hS) hm (by simpa using k2) hlam hrow k3 hpv;refine After.skip hdst (hst _ rfl k2 k4) ?_;have F2:=F.wider (V:=UG U gid) (fun _ h=>.inl h);have hacs:ab (.agg cs)=cs:=rfl;simp only[ady,acT,ac8]at F2 |-;exact⟨_,_,_,_,_,F2⟩
    | false =>
     rw[hS]at hr;simp only[acO]at hr |-;cases hag:ti.agg with
     | true =>
      rw[hag]at hr;simp only[acD]at hr |-;unfold aK at hr |-;cases hcs:oR ti.size (opnd e y)with
      |none=>rw[hcs]at hr;exact absurd rfl hr
      | some cs=>
       rw[hcs]at hr;simp only at hr |-;cases hnil:jO cs (gD cx.ann.nils p) ti.size with
       |false=>rw[hnil]at hr;exact absurd rfl hr
       | true=>
        obtain⟨k1,k2,k3,k4⟩:=uw hcs hyv;have hnb:∀i∈gD cx.ann.nils p,i<ti.size/\aD cs i= .hn:=fun i hi=>by
         simp_all[jO,Fi]
        have hm1000:m<1000:=(H.lblk B m hm).2.2.1;have hcsl:cs.length=ti.size:=by rw[<- k3.length];simpa using k2
        have F:=H.storeL (u:=⟨.val (.tup []),none⟩) (L:=lX (B+off) cs (gD cx.ann.nils p) gid ti.size) (A:=uI (gD cx.ann.nils p) gid) (vs:=(a.eval y).cells.toList) (ent:=np cs (gD cx.ann.nils p) gid)
         hU (qA (fun i hi=>(hnb i hi).1) WD) hm hle (by simpa using k2) hlam hrow (fun t'=>yM _ _ _ _ _ _ _) (fun i hi=>by
          obtain⟨v,v1,v2⟩:=k3.allR i WD;unfold np;cases hmem:dM (gD cx.ann.nils p) i with
          | true=>
           have hn:=(hnb i ((jM _ _).1 hmem)).2;rw[hn]at v2;simp only[VR]at v2;subst v2;refine⟨_,.sl [],v1,rfl,?_,fun g z hg _=>?_,fun g hg=>?_⟩
           ·simp only[VR];grind
           ·simp only[acD,acz]at hg;unfold γN
            grind
           grind
          |false=>grind)
        refine After.skip hdst (hst _ rfl k2 k4) ?_;exact⟨_,_,_,_,_,F⟩
     | false=>
      rw[hag]at hr;simp only[acO]at hr |-;cases hone:decide (ti.size=1)with
      |false=>rw[hone]at hr;exact absurd rfl hr
      | true=>
       have hone':ti.size=1:=by simpa using hone
       rw[hone]at hr;simp only[acD]at hr |-;have hput:∀(v:Value)(u:Ent)(en:Ent)(A:List (Nat×Option Nat))(av:AV),a.eval y=v->v.cells= #[v]->v.oneCell'=true->jo A gid->en.v= .val av->VR S β av v->
         (∀g z,en.g=some g->aQ (A++e.al) g=some z->v=γN γ gid g)->(∀g,en.g=some g->U g\/(gid<=g/\g<gid+1000))->
         After P c N (UG U gid) (.ok (e.upd none { ent:=u,ls:=[(B+off,en)],add:=A }) h) o a w:=by
        intro v u en A av hav hc1 hc2 hA hen hr1 hg1 hg2;have F:=H.storeL (u:=u) (L:=[(B+off,en)]) (A:=A) (n:=1) (m:=m) (off:=off) (vs:=v.cells.toList) (ent:=fun _=>en) hU hA hm WD (by rw[hc1];rfl) hlam hrow (fun t'=>by
          simp only[ac1,acT,dC];by_cases ht':B+off=t'
          ·grind
          ·rw[acE ht',acE WD];rfl) (fun i hi=>by
          grind)
        refine After.skip hdst (hst v hav qr qr) ?_;exact⟨_,_,_,_,_,F⟩
       rw[hdst]at *;cases y with
       | tmp s=>
        simp only at hr |-;have hs:=H.slots s (hy s rfl);cases hsv:(e.get s).v with
        |loc _ _=>rw[hsv]at hr;exact absurd rfl hr
        | val av=>
         rw[hsv]at hr hs;simp only at hr |-;unfold dP at hr |-;cases hok:aO av with
         |false=>rw[hok]at hr;exact absurd rfl hr
         |true=>
          obtain⟨j1,j2⟩:=ko hok hs;refine hput _ _ (e.get s) [] av rfl j1 j2 (kK gid) hsv hs (fun g z hg hz=>?_) (fun g hg=>.inl (H.used.1 s g hg));unfold γN;rw[acE (fun hr=>hU g hr.1 hr.2 (H.used.1 s g hg))];exact H.grps s g z (hy s rfl) hg hz
       | const v=>
        simp only at hr |-;cases hn:bD (.const v)with
        | true=>
         have hv':v= .slice none 0 0:=by
          unfold bD at hn;split at hn
          ·grind
          ·simp at hn
         subst hv';refine hput _ _ _ _ (.sl []) rfl rfl rfl (Aj gid) rfl ?_ (fun g z hg hz=>?_) (fun g hg=>?_)
         ·simp only[VR];exact⟨none,0,rfl,acC _,fun _=>rfl,fun q hq=>by cases hq⟩
         ·simp only[acz]at hg;unfold γN;rw[acL WD];rfl
         grind
        | false=>
         rw[hn]at hr;simp only[acO]at hr |-;unfold dP at hr |-;cases hok:aO (opnd e (.const v))with
         |false=>rw[hok]at hr;exact absurd rfl hr
         |true=>
          obtain⟨j1,j2⟩:=ko hok hyv;exact hput _ _ _ [] _ rfl j1 j2 (kK gid) rfl hyv (fun g z hg _=>by cases hg) (fun g hg=>by cases hg)
       | global g=>
        simp only[bD,acO]at hr |-;unfold dP at hr |-;cases hok:aO (opnd e (.global g))with
        |false=>rw[hok]at hr;exact absurd rfl hr
        |true=>
         obtain⟨j1,j2⟩:=ko hok hyv;exact hput _ _ _ [] _ rfl j1 j2 (kK gid) rfl hyv (fun g z hg _=>by cases hg) (fun g hg=>by cases hg)
       | func f=>
        simp only[bD,acO]at hr |-;unfold dP at hr |-;cases hok:aO (opnd e (.func f))with
        |false=>rw[hok]at hr;exact absurd rfl hr
        |true=>
         obtain⟨j1,j2⟩:=ko hok hyv;exact hput _ _ _ [] _ rfl j1 j2 (kK gid) rfl hyv (fun g z hg _=>by cases hg) (fun g hg=>by cases hg)
 | val av=>
  rw[hv]at hr hp;simp only at hr |-;simp only[jp]at hp;simp only[aP,aG]at hr |-;cases hav:av with
  | hp l off=>
   subst hav;simp only[VR]at hp;obtain⟨⟨b,nb⟩,hb,hb0,hpv⟩:=hp;unfold cG at hr |-;cases ht:cx.T t with
   |none=>grind
   | some ti=>
    rw[ht]at hr;simp only at hr |-;cases hcs:h[l]? with
    |none=>grind
    | some cs=>
     rw[hcs]at hr;simp only at hr |-;cases hcond:(cn ti.size (opnd e y)&&decide (off+ti.size<=cs.length)&&decide (0<ti.size))with
     |false=>grind
     | true=>
      rw[hcond]at hr;simp only[acD]at hr |-;simp only[acB,acP]at hcond;obtain⟨⟨h1,h2⟩,h3⟩:=hcond;obtain⟨k2,k3,k4⟩:=pf h1 hyv;have hne:cs≠[]:=by rintro rfl;simp at h2;omega
      obtain⟨z,j1,j2,j3,j4,j5⟩:=H.heap.cells hcs hne hb hb0;rw[hb]at j1;cases j1;have hzs:cs.length<=z.size:=by
       have:=j4.length
       simp at this;omega
      have hacl:(ab (opnd e y)).length=ti.size:=by rw[<- k3.length];simpa using k2
      have F:=H.turnH (cs':=setCells cs off (ab (opnd e y))) (y:=(z.toList.take off++(a.eval y).cells.toList++z.toList.drop (off+(a.eval y).cells.toList.length)).toArray) hcs hne ⟨_,hb⟩ j2 qr (by
       rw[iY _ _ _ WD];have hsp:be S β (setCells cs off (ab (opnd e y))) (((z.toList.take cs.length).take off++(a.eval y).cells.toList++(z.toList.take cs.length).drop (off+(a.eval y).cells.toList.length))):=by
        unfold setCells;have hl1:(a.eval y).cells.toList.length=(ab (opnd e y)).length:=k3.length;rw[hl1];exact ((j4.take off).append k3).append (j4.drop _)
       have heq:(z.toList.take off++(a.eval y).cells.toList++z.toList.drop (off+(a.eval y).cells.toList.length)).take cs.length=
         (z.toList.take cs.length).take off++(a.eval y).cells.toList++(z.toList.take cs.length).drop (off+(a.eval y).cells.toList.length):=by
        rw[aev,aev];have hl:(a.eval y).cells.toList.length=ti.size:=by simpa using k2
        have e1:(z.toList.take off).length=off:=by simp;omega
        rw[aeu,aeu];have e2:min cs.length off=off:=WD
        have e3:min off cs.length=off:=WD
        rw[e2,e3,e1];have e4:(a.eval y).cells.toList.take (cs.length-off)=(a.eval y).cells.toList:=adY WD;rw[e4];congr 1;rw[afl,ac7,e1,hl];congr 2;omega
       grind) (fun t ht=>ht.setCells.resolve_right (FP h1 t))
      refine After.skip hdst (hexec _ (by rw[hpv];exact wD hT ht j2 k2 k4 WD)) ?_;have hupd:∀E:Env,E.upd none (.ofV (.tup []))=E:=fun E=>rfl;rw[hupd];exact aa0 ⟨_,_,_,_,_,F⟩
  |_=>subst hav;unfold cG at hr;grind
end
variable {cc:Call}
section
variable {P:Program} {cx:Cx} {c:Entry} {N:Nat} {U:Nat->Prop} {e:Env} {h:Hp} {a:Act} {w:World} {S:az} {β:List bQ} {γ:Nat->Value} {lam:Nat->Option Nat} {ω:Nat->Owner} {o:Oper} {gid:Nat}
omit [Dr]in
theorem NX{vs:List Value}(h:be S β cs vs)(ho:cs.all aO=true):∀y∈vs,y.oneCell'=true:=by
 induction cs generalizing vs with
 |nil=>grind [be]
 |cons x cs ih=>
  simp only[be]at h;obtain⟨v,r,rfl,h1,h2⟩:=h;simp only[adz,acB]at ho;intro y hy;rcases ac2.1 hy with rfl|hy
  ·exact (ko ho.1 h1).2
  grind
theorem FR.putH(H:FR c N U e h a w S β γ lam ω){l b nb:Nat}{acs:List AV}{vs:List Value}(hcs:h[l]? = some cs)(hne:cs≠[])(hb:β[l]? = some (b,nb))(hb0:nb≠0)(hvs:be S β acs vs)(hle:off+acs.length<=cs.length)(htag:∀t,¬fU t acs):
  ∃z,Row w b z/\cs.length<=z.size/\FR c N U e (h.set l (setCells cs off acs)) a (w.setRow b (z.toList.take off++vs++z.toList.drop (off+vs.length)).toArray) S β γ lam ω:=by
 obtain⟨z,j1,j2,j3,j4,j5⟩:=H.heap.cells hcs hne hb hb0;rw[hb]at j1;cases j1;have hvl:=hvs.length;have hzs:cs.length<=z.size:=by
  have:=j4.length
  simp at this;omega
 refine⟨z,j2,hzs,H.turnH hcs hne ⟨_,hb⟩ j2 Bk ?_ (fun t ht=>ht.setCells.resolve_right (htag t))⟩;rw[iY _ _ _ WD];have hsp:be S β (setCells cs off acs) (((z.toList.take cs.length).take off++vs++(z.toList.take cs.length).drop (off+vs.length))):=by
  unfold setCells;rw[hvl];exact ((j4.take off).append hvs).append (j4.drop _)
 have heq:(z.toList.take off++vs++z.toList.drop (off+vs.length)).take cs.length=
   (z.toList.take cs.length).take off++vs++(z.toList.take cs.length).drop (off+vs.length):=by
  rw[aev,aev];have e1:(z.toList.take off).length=off:=by simp;omega
  rw[aeu,aeu];have e2:min cs.length off=off:=WD
  have e3:min off cs.length=off:=WD
  rw[e2,e3,e1];have e4:vs.take (cs.length-off)=vs:=adY WD;rw[e4];congr 1;rw[afl,ac7,e1];congr 2;omega
 grind
theorem Mw(hT:TOK P cx.T)(H:FR c N U e h a w S β γ lam ω)(hd:∀t,o.dst=some t->t<N)(ho:o.op= .call cc)(hcal:cc.callee= .builtin .clear){t:TypeId}{ts:List TypeId}{xs:List Operand}(hts:cc.argTypes.toList=t:: ts)(hxs:cc.args.toList=x:: xs)(hx:∀t,x= .tmp t->t<1000)(hr:aP e o.dst (.dyn (CH cx.T t (opnd e x)) .ofV) h≠.fail):After P c N (UG U gid) (aP e o.dst (.dyn (CH cx.T t (opnd e x)) .ofV) h) o a w:=absurd rfl hr
end
section
variable {P:Program} {cx:Cx} {c:Entry} {N:Nat} {U:Nat->Prop} {e:Env} {h:Hp} {a:Act} {w:World} {S:az} {β:List bQ} {γ:Nat->Value} {lam:Nat->Option Nat} {ω:Nat->Owner} {o:Oper} {gid:Nat}
theorem Yk(H:FR c N U e h a w S β γ lam ω)(hd:∀t,o.dst=some t->t<N){x:Array Value}{vs:List Value}{t:TypeId}(hvs:be S β cs vs)(hx:∀(j:Nat)(v:Value),vs[j]? = some v->x[j]? = some v)(hrun:(execOp a.eval o).run P w= .ok (.value (.pointer (some ⟨w.heap.size,0,none⟩))) (w.alloc (.cells x t))):After P c N (UG U gid) (.ok (e.upd o.dst (.ofV (.ip cs))) h) o a w:=by
 have H2:=H.allocS x t x.size;refine After.val hrun (aa0 ⟨_,β,γ,lam,ω,H2.setV hd ?_⟩);simp only[VR];refine⟨w.heap.size,0,vs,rfl,hvs.mono (fun k o v hv=>?_) (ig.refl β),fun j v hj=>?_⟩
 ·unfold az.withRowTo;split
  ·rename_i hk;subst hk;rw[H.wf.none (acC _)]at hv;simp at hv
  ·exact hv
 ·have:=hx j v hj
  unfold az.withRowTo
  grind
theorem JD(H:FR c N U e h a w S β γ lam ω)(hd:∀t,o.dst=some t->t<N){x:Array Value}{vs:List Value}{t:TypeId}(hvs:be S β cs vs)(hx:∀(j:Nat)(v:Value),vs[j]? = some v->x[j]? = some v)(hrun:(execOp a.eval o).run P w= .ok (.value (.pointer (some ⟨w.heap.size,0,none⟩))) (w.alloc (.cells x t)))(hr:aP e o.dst (.dyn (newH cs) .ofV) h≠.fail):After P c N (UG U gid) (aP e o.dst (.dyn (newH cs) .ofV) h) o a w:=by
 have hcs:cs≠[]:=by
  rintro rfl;exact hr rfl
 have hemp:(cs.isEmpty||cs.any yG)=false:=by
  cases hq:(cs.isEmpty||cs.any yG)with
  |false=>rfl
  |true=>
   simp_all[aP,aG,newH]
 have hnb:=QN (aeb.1 hemp).2;have htake:be S β cs (x.toList.take cs.length):=by
  refine .of_get ?_ fun i y v hy hv=>?_
  ·have hl:=hvs.length;rw[aei];have:cs.length<=x.size:=by
    rcases adp cs.length with h0|h0
    ·omega
    ·obtain⟨v,hv,_⟩:=hvs.allR (cs.length-1) WD
     grind
   simp;omega
  ·obtain⟨u,hu,hur⟩:=hvs.get hy
   grind
 obtain⟨ω',F,hnew,_⟩:=H.newH x t htake (fun t ht=>absurd ht (hnb t));have hx0:x.size≠0:=by
  have h1:=htake.length;have h2:=aed.2 hcs;simp only[aei,adE]at h1;omega
 simp only[aP,aG,newH,hemp,acO,ao];refine After.val hrun (aa0 ⟨_,_,γ,lam,ω',F.setV hd ?_⟩);simp only[VR]
 grind
theorem QJ(H:FR c N U e h a w S β γ lam ω)(hd:∀t,o.dst=some t->t<N){x:Array Value}{t:TypeId}(hvs:be S β cs x.toList)(hrun:(execOp a.eval o).run P w= .ok (.value (.pointer (some ⟨w.heap.size,0,none⟩))) (w.alloc (.cells x t)))(hr:aP e o.dst (.dyn (QI t cs) .ofV) h≠.fail):After P c N (UG U gid) (aP e o.dst (.dyn (QI t cs) .ofV) h) o a w:=absurd rfl hr
omit [Dr]in
theorem Ka(hT:TOK P cx.T)(ht:cx.T t=some ti):∃z:Value,(Instr.alloc t true (.tuple #[])).run P w= .ok (.pointer (some ⟨w.heap.size,0,none⟩)) (w.alloc (.cells z.cells t))/\z.cells.size=ti.size/\
  (∀told,be S β (dG told ti) z.cells.toList):=by
 obtain⟨i,d,z,hi,hd,hz,hzs,hsz,_⟩:=(hT.get ht).ex;refine⟨z,?_,WD,fun told=>zQ hT ht told hi hz⟩;simp_all[Instr.alloc,zeroValue,typeInfo,newVar,newRow]
theorem LZ(hT:TOK P cx.T)(H:FR c N U e h a w S β γ lam ω)(hd:∀t,o.dst=some t->t<N)(hU:∀g,gid<=g->g<gid+1000->¬U g)(ho:o.op= .alloc t)(hr:bT cx e gid o h≠.fail):
  After P c N (UG U gid) (bT cx e gid o h) o a w:=by
 unfold bT iK at hr |-;rw[ho]at hr |-;simp only at hr |-;cases hdst:o.dst with
 |none=>rw[hdst]at hr;exact absurd rfl hr
 | some s=>
  rw[hdst]at hr;simp only at hr |-;unfold gq at hr |-;cases ht:cx.T t with
  |none=>rw[ht]at hr;exact absurd rfl hr
  | some ti=>
   rw[ht]at hr;simp only at hr |-;obtain⟨z,hrun,hzs,hz⟩:=Ka (w:=w) (S:=S) (β:=β) hT ht;have hexec:(execOp a.eval o).run P w= .ok (.value (.pointer (some ⟨w.heap.size,0,none⟩))) (w.alloc (.cells z.cells t)):=by
    simp only[execOp,ho,Sem.run_bind,hrun,Result.andThen_ok,Sem.run_pure]
   have hL:∀A:Act1,A=(bif decide (ti.size<1000)&&aT e.sl (aN s)&&jO (dG true ti) (gD cx.ann.nils s) ti.size then
     .stat { ent:=⟨.loc (aN s) 0,none⟩,ls:=lX (aN s) (dG (dM cx.ann.hb s) ti) (gD cx.ann.nils s) gid ti.size,add:=uI (gD cx.ann.nils s) gid,lb:=some (aN s,ti.size) }else .bad)->
     aP e (some s) A h≠.fail->After P c N (UG U gid) (aP e (some s) A h) o a w:=by
    rintro A rfl hr;cases hcond:(decide (ti.size<1000)&&aT e.sl (aN s)&&jO (dG true ti) (gD cx.ann.nils s) ti.size)with
    |false=>rw[hcond]at hr;exact absurd rfl hr
    |true=>
     simp only[acD];simp only[acB,acP]at hcond;obtain⟨⟨h1,h2⟩,h3⟩:=hcond;obtain⟨lam',ω',F⟩:=H.allocL (s:=s) (n:=ti.size) (gid:=gid) (x:=z.cells) (t:=t) (cs:=dG (dM cx.ann.hb s) ti) (offs:=gD cx.ann.nils s) (hd s hdst) hU h1 (fun i hi=>by
       have hzz:=hz (dM cx.ann.hb s);have hl:=hzz.length;obtain⟨v,v1,v2⟩:=hzz.allR i qr
       grind) (fun i hi=>by
       unfold jO at h3;rw[acQ]at h3
       have:=h3 i hi
       rw[acB]at this;have hn:=Fi this.2;have hlt:i<ti.size:=by simpa using this.1
       have hzz:=hz true;have hl:=hzz.length;obtain⟨v,v1,v2⟩:=hzz.allR i qr
       grind [VR]) h2
     refine After.val hexec ?_;rw[hdst];exact⟨_,_,_,_,_,F⟩
   cases hk:dw cx.ann.kinds s .L with
   |F=>
    simp only;rw[<- hdst];exact Yk H hd (hz false) (fun j v hj=>by simpa using hj) hexec
   |H=>
    grind [JD]
   |B=>
    grind [QJ]
   |L=>grind
   |S=>grind
theorem UI(H:FR c N U e h a w S β γ lam ω)(hd:∀t,o.dst=some t->t<N)(hU:∀g,gid<=g->g<gid+1000->¬U g)(ho:o.op= .box t x)(hx:∀t,x= .tmp t->t<1000)(hr:bT cx e gid o h≠.fail):
  After P c N (UG U gid) (bT cx e gid o h) o a w:=by
 unfold bT iK at hr |-;rw[ho]at hr |-;simp only at hr |-;cases hdst:o.dst with
 |none=>rw[hdst]at hr;exact absurd rfl hr
 | some s=>
  rw[hdst]at hr;simp only at hr |-;have hv:=bd H x hx;have hexec:(execOp a.eval o).run P w= .ok (.value (.pointer (some ⟨w.heap.size,0,none⟩))) (w.alloc (.cells (a.eval x).cells t)):=by
   simp[execOp,ho,Instr.box,newVar,newRow]
  obtain⟨vs,hvs,hvx⟩:=hv.acells
  have hL:∀A:Act1,A=(match cx.T t with
    |none=>.bad
    | some ti=>bif decide (ti.size<1000)&&aT e.sl (aN s)then
      .dyn (bB ti.size (opnd e x)) fun v=>{ ent:=⟨.loc (aN s) 0,none⟩,ls:=lX (aN s) (ab v) [] 0 ti.size,lb:=some (aN s,ti.size) }
     else .bad)->aP e (some s) A h≠.fail->After P c N (UG U gid) (aP e (some s) A h) o a w:=by
   rintro A rfl hr;cases ht:cx.T t with
   |none=>rw[ht]at hr;exact absurd rfl hr
   | some ti=>
    rw[ht]at hr;simp only at hr |-;cases hcond:(decide (ti.size<1000)&&aT e.sl (aN s))with
    |false=>rw[hcond]at hr;exact absurd rfl hr
    | true=>
     rw[hcond]at hr;simp only[acD]at hr |-;simp only[acB,acP]at hcond;obtain⟨h1,h2⟩:=hcond;unfold bB at hr |-;cases hcs:oR ti.size (opnd e x)with
     |none=>rw[hcs]at hr;exact absurd rfl hr
     | some cs=>
      obtain⟨_,k2,k3,_⟩:=uw hcs hv;obtain⟨lam',ω',F⟩:=H.allocL (s:=s) (n:=ti.size) (gid:=gid) (x:=(a.eval x).cells) (t:=t) (cs:=cs) (offs:=[]) (hd s hdst) hU h1 (fun i hi=>by
       obtain⟨v,v1,v2⟩:=k3.allR i (by rw[<- k3.length];grind)
       grind) (fun i hi=>by simp at hi) h2
      refine After.val hexec ?_;rw[hdst];have hls:lX (aN s) cs [] 0 ti.size=lX (aN s) cs [] gid ti.size:=by simp[lX,dM]
      have hac:ab (.agg cs)=cs:=rfl;simp only[hac,hls];exact⟨_,_,_,_,_,F⟩
  unfold qB at hr |-;cases hk:dw cx.ann.kinds s .F with
  |F=>
   simp only;rw[<- hdst];exact Yk H hd hvs (fun j v hj=>qr) hexec
  |H=>
   grind [JD]
  |B=>rw[hk]at hr;exact absurd rfl hr
  |L=>grind
  |S=>grind
theorem Ot(H:FR c N U e h a w S β γ lam ω)(hd:∀t,o.dst=some t->t<N){b:Nat}(hlam:lam B=some b)(hrun:(execOp a.eval o).run P w= .ok (.value (.pointer (some ⟨b,off,none⟩))) w):
  After P c N (UG U gid) (.ok (e.upd o.dst { ent:=⟨.loc B off,none⟩ }) h) o a w:=
 After.val hrun (aa0 ⟨S,β,γ,lam,ω,H.set hd (by simp only[jp];grind) (fun _ _ h=>by cases h) (fun _ h=>by cases h)⟩)
theorem CV(hT:TOK P cx.T)(H:FR c N U e h a w S β γ lam ω)(hd:∀t,o.dst=some t->t<N){f:Nat}(ho:o.op= .fieldAddr t x f)(hx:∀t,x= .tmp t->t<1000)(hr:bT cx e gid o h≠.fail):
  After P c N (UG U gid) (bT cx e gid o h) o a w:=by
 unfold bT iK at hr |-;rw[ho]at hr |-;cases x<;>simp only at hr |- <;> (try exact absurd rfl hr);rename_i p;have hp:=H.slots p (hx p rfl);unfold l9 at hr |-;cases hv:(e.get p).v with
 | loc B off=>
  rw[hv]at hr hp;simp only at hr |-;simp only[jp]at hp;obtain⟨b,hlam,hpv⟩:=hp;cases ht:cx.T t with
  |none=>rw[ht]at hr;exact absurd rfl hr
  | some ti=>
   rw[ht]at hr;simp only at hr |-;cases hf:ti.offs[f]? with
   |none=>rw[hf]at hr;exact absurd rfl hr
   | some q=>
    obtain⟨o',ft,nm⟩:=q;rw[hf]at hr;simp only at hr |-;cases hft:cx.T ft with
    |none=>rw[hft]at hr;exact absurd rfl hr
    | some fi=>
     rw[hft]at hr;simp only at hr |-;cases hz:decide (fi.size=0)with
     |true=>rw[hz]at hr;exact absurd rfl hr
     | false=>
      simp only[acO];have hfa:ar cx.T t (.hp 0 off) f=some (.hp 0 (off+o')):=by
       unfold ar;rw[ht];simp only;rw[hf];simp only;rw[hft];simp only;rw[acE (by simpa using hz)]
      obtain⟨v,h1,h2⟩:=tj (P:=P) (w:=w) (S:=S) (β:=[(b,1)]) hT hfa (vx:=.pointer (some ⟨b,off,none⟩)) (by simp[VR]);simp only[VR]at h2;obtain⟨b',hb',_,rfl⟩:=h2;simp only[acV,acz]at hb';subst hb';refine Ot H hd hlam ?_;have he:a.eval (.tmp p)= .pointer (some ⟨b,off,none⟩):=hpv
      grind [execOp,Sem.run_bind,Result.andThen_ok,Sem.run_pure]
 |val av=>
  rw[hv]at hr hp;simp only at hr |-;refine fX H hd (m:=Instr.fieldAt t (a.eval (.tmp p)) f) (by simp[execOp,ho]) (fun r hr'=>tj hT hr' hp) hr
theorem CY(hT:TOK P cx.T)(H:FR c N U e h a w S β γ lam ω)(hd:∀t,o.dst=some t->t<N){i:Operand}(ho:o.op= .indexAddr t x i)(hx:∀t,x= .tmp t->t<1000)(hi:∀t,i= .tmp t->t<1000)(hr:bT cx e gid o h≠.fail):
  After P c N (UG U gid) (bT cx e gid o h) o a w:=by
 unfold bT iK at hr |-;rw[ho]at hr |-;cases x<;>simp only at hr |- <;> (try exact absurd rfl hr)
 rotate_left
 ·rename_i g;exact fX H hd (m:=Instr.indexAt t (a.eval (.global g)) (a.eval i)) (by simp[execOp,ho]) (fun r hr'=>oY hT hr' (bd H (.global g) (fun t h=>by cases h)) (bd H i hi)) hr
 rename_i p;have hp:=H.slots p (hx p rfl);unfold fI at hr |-;cases hv:(e.get p).v with
 | loc B off=>
  rw[hv]at hr hp;simp only at hr |-;simp only[jp]at hp;obtain⟨b,hlam,hpv⟩:=hp;cases ht:cx.T t with
  |none=>rw[ht]at hr;exact absurd rfl hr
  | some ti=>
   rw[ht]at hr;cases hci:xL i with
   |none=>rw[hci]at hr;exact absurd rfl hr
   |some n=>
   rw[hci]at hr;simp only at hr |-;obtain⟨ik,rfl⟩:∃ik,i= .const (.int ik n):=by
    unfold xL at hci
    grind
   cases hk:ti.kind<;>rw[hk]at hr<;>simp only at hr |- <;> (try exact absurd rfl hr);rename_i m el;cases hel:cx.T el with
   |none=>rw[hel]at hr;exact absurd rfl hr
   | some ei=>
    rw[hel]at hr;simp only at hr |-;cases hc:decide (0<=n/\n<m)with
    |false=>rw[hc]at hr;exact absurd rfl hr
    | true=>
     simp only[acD];have hia:ax cx.T t (.hp 0 off) (.int ik n)=some (.hp 0 (off+n.toNat*ei.size)):=by
      unfold ax;rw[ht];simp only;rw[hk];simp only;rw[hel];simp only;rw[acL (by simpa using hc)]
     obtain⟨v,h1,h2⟩:=oY (P:=P) (w:=w) (S:=S) (β:=[(b,1)]) hT hia (vx:=.pointer (some ⟨b,off,none⟩)) (vi:=.int ik n) (by simp[VR]) (by simp[VR]);simp only[VR]at h2;obtain⟨b',hb',_,rfl⟩:=h2;simp only[acV,acz]at hb';subst hb';refine Ot H hd hlam ?_;have he:a.eval (.tmp p)= .pointer (some ⟨b,off,none⟩):=hpv;have hei:a.eval (.const (.int ik n))= .int ik n:=rfl
     grind [execOp,Sem.run_bind,Result.andThen_ok,Sem.run_pure]
 |val av=>
  rw[hv]at hr hp;simp only at hr |-;refine fX H hd (m:=Instr.indexAt t (a.eval (.tmp p)) (a.eval i)) (by simp[execOp,ho]) (fun r hr'=>oY hT hr' hp (bd H i hi)) hr
theorem FO(H:FR c N U e h a w S β γ lam ω)(hd:∀t,o.dst=some t->t<N)(ho:o.op= .nilCheck x)(hx:∀t,x= .tmp t->t<1000)(hr:bT cx e gid o h≠.fail):
  After P c N (UG U gid) (bT cx e gid o h) o a w:=by
 unfold bT iK at hr |-;rw[ho]at hr |-;cases x<;>simp only at hr |- <;> (try exact absurd rfl hr);rename_i p;have hp:=H.slots p (hx p rfl);cases hv:(e.get p).v with
 |loc B off=>
  have hp2:=hp;rw[hv]at hr hp;simp only at hr |-;simp only[jp]at hp;obtain⟨b,hlam,hpv⟩:=hp;have he:a.eval (.tmp p)= .pointer (some ⟨b,off,none⟩):=hpv;exact I7 H hd (hx p rfl) (by simp[execOp,ho,he,hpv])
 | val av=>
  rw[hv]at hr hp;simp only at hr |-;have he:a.eval (.tmp p)=a.tmps.getD p undef:=rfl;cases hn:nC av with
  |none=>rw[hn]at hr;exact absurd rfl hr
  | some r=>
   have hrun:(execOp a.eval o).run P w= .ok (.value (a.tmps.getD p undef)) w/\r=av:=by
    simp only[jp]at hp;unfold nC at hn;split at hn<;>simp only[acz,reduceCtorEq]at hn<;>subst hn<;>simp only[VR]at hp
    ·obtain⟨b,off,vs,hpv,_⟩:=hp;exact⟨by simp[execOp,ho,he,hpv],rfl⟩
    ·obtain⟨b,hb,hpv⟩:=hp;exact⟨by simp[execOp,ho,he,hpv],rfl⟩
    ·obtain⟨y,hpv,_⟩:=hp;exact⟨by simp[execOp,ho,he,hpv],rfl⟩
    ·obtain⟨y,z,hpv,_⟩:=hp;exact⟨by simp[execOp,ho,he,hpv],rfl⟩
   obtain⟨hrun,rfl⟩:=hrun;exact After.val hrun (aa0 ⟨S,β,γ,lam,ω,H.setV hd hp⟩)
end
variable {h':Hp}
section
variable {P:Program} {cx:Cx} {c:Entry} {N:Nat} {U:Nat->Prop} {e:Env} {h:Hp} {a:Act} {w:World} {S:az} {β:List bQ} {γ:Nat->Value} {lam:Nat->Option Nat} {ω:Nat->Owner} {o:Oper} {gid:Nat}
theorem FR.out'(H:FR c N U e h a w S β γ lam ω){S':az}{β':List bQ}{w':World}(L:Left (cQ β h) S β w S' β' w' h'):Out c h' w' S' β':=by
 obtain⟨ω',F,_⟩:=H.left L;exact F.out
theorem mA(hC:eh P cx.own cx.call)(H:FR c N U e h a w S β γ lam ω)(hd:∀t,o.dst=some t->t<N)(hU:∀g,gid<=g->g<gid+1000->¬U g){f:FuncId}{args:List AV}{vs:List Value}(hargs:be S β args vs)(hrun:(P.funcs[f]?).any (fun fn=>fn.body.isSome&&!(fn.name== "runtime.NumGoroutine"))=true->(execOp a.eval o).run P w= .ok (.enter f vs.toArray) w){sh:AV->Upd}(hsh:(∀v,sh v= .ofV v)\/∃sz,cx.own f=some sz/\∀v,sh v= .own v gid (some sz))(hr:(aG (cx.call f args) fun v=>ao (e.upd o.dst (sh v))) h≠.fail):After P c N (UG U gid) ((aG (cx.call f args) fun v=>ao (e.upd o.dst (sh v))) h) o a w:=by
 have hne:cx.call f args h≠.fail:=by
  intro hf;unfold aG at hr;rw[hf]at hr;exact hr rfl
 obtain⟨hcalls,hfn⟩:=hC f args h S β w vs hne H.gok H.wf H.heapX hargs;have hrun:=hrun hfn;intro next Q hn hp
 unfold Oper.wp;rw[hrun];simp only[Oper.upon];refine hcalls.mono fun en w' hpost=>?_;unfold aG at hn hp;cases hres:cx.call f args h with
 |fail=>grind
 |pan pv h'=>
  rw[hres]at hpost hp;obtain⟨S',β',v,rfl,hv,hleft⟩:=hpost;exact hp pv h' v w' rfl ⟨S',β',H.out' hleft,hv⟩
 | ok rv h'=>
  rw[hres]at hpost hn;obtain⟨S',β',v,rfl,hv,hleft,hown⟩:=hpost;obtain⟨ω',F,hno⟩:=H.left hleft;refine hn (e.upd o.dst (sh rv)) h' _ _ rfl ?_ (put_defers a o.dst v);rcases hsh with hsh|⟨sz,hof,hsh⟩
  ·rw[hsh];exact aa0 ⟨_,_,_,_,_,F.setV hd hv⟩
  ·rw[hsh];obtain⟨ad,len,cap,rfl,h1,h2,h3⟩:=hown sz hof;obtain⟨ω2,F2⟩:=F.own (z:=some sz) hd hv hU (by
    rcases h3 with h3|⟨b,off,x,rfl,g1,g2,g3,g4,g5⟩
    ·grind
    ·exact .inr ⟨len,cap,sz,b,off,x,rfl,h1,rfl,g1,g2,hno b g3 g4,adi H.size g3,g5⟩)
   exact⟨_,_,_,_,ω2,F2⟩
section
omit [Dr]
theorem lT{f:FuncId}{args:Array Value}(hf:(P.funcs[f]?).any (fun fn=>fn.body.isSome&&!(fn.name== "runtime.NumGoroutine"))=true):(callFunc f args).run P w= .ok (.enter f args) w:=by
 cases hfn:P.funcs[f]? with
 |none=>grind
 |some fn=>
  rw[hfn]at hf;simp only[Option.any_some,acB,ade]at hf;obtain⟨h1,h2⟩:=hf;have h3:fn.body.isNone=false:=by cases hb:fn.body<;>simp_all
  simp only[callFunc,Sem.run_bind,run_program,Result.andThen_ok,hfn,h2,acA,acI,h3,Sem.run_pure]
theorem A9{z:Option Nat}{g sz:Nat}{v:Value}(hf:vz S w ω g z v)(hz:DO z (some sz)=true):xo w sz v/\(z=none\/z=some sz):=by
 have hz':z=none\/z=some sz:=by
  unfold DO at hz;cases z with
  |none=>exact .inl rfl
  |some n=>simp_all
 refine⟨?_,hz'⟩;obtain⟨ad,len,cap,h1,h2,h3,h4⟩:=hf;refine⟨ad,len,cap,h1,h2,h3,h4.imp id ?_⟩
 grind
theorem L5{T:TT}{as:List AV}{y r:AV}(h:dL T t (.sl as) y=some r):∃ti e ei bs,T t=some ti/\ti.kind= .slice e/\T e=some ei/\jX y=some bs/\dK ei.size as=true/\dK ei.size bs=true/\
  (as.length+bs.length)*ei.bytes<=140737488355328/\0<ei.bytes/\r= .sl (as++bs)/\eK T t=some ei.size/\nd y ei.size=true:=by
 unfold dL at h;cases ht:T t with
 |none=>grind
 | some ti=>
  rw[ht]at h;simp only at h;split at h
  ·rename_i e hk;cases he:T e with
   |none=>grind
   | some ei=>
    rw[he]at h;simp only at h;cases hb:jX y with
    |none=>grind
    | some bs=>
     rw[hb]at h;simp only at h;cases hc:(dK ei.size as&&dK ei.size bs&&decide ((as.length+bs.length)*ei.bytes<=140737488355328)&&decide (0<ei.bytes)&&nd y ei.size)with
     |false=>grind
     |true=>
      rw[hc]at h;simp only[acD,acz]at h;simp only[acB,acP]at hc;obtain⟨⟨⟨⟨h1,h2⟩,h3⟩,h4⟩,h5⟩:=hc;exact⟨ti,e,ei,bs,rfl,hk,he,rfl,h1,h2,h3,h4,h.symm,by simp[eK,ht,hk,he],h5⟩
  ·simp at h
theorem O8{T:TT}{x y r:AV}(h:dL T t x y=some r):∃as,x= .sl as:=by
 unfold dL at h
 grind
theorem Ca{y:AV}{n:Nat}(h:nd y n=true):∀s,y= .str s->n=1:=by
 rintro s rfl;exact Nat.eq_of_beq_eq_true h
theorem fC{t u:TypeId}{y:Operand}(ho:o.op= .call cc)(hb:cc.callee= .builtin .append)(ht:cc.argTypes.toList=[t,u])(hx:cc.args.toList=[x,y]){v:Value}{w':World}(hrun:(Builtin.append_ #[t,u] o.type #[a.eval x,a.eval y]).run P w= .ok v w'):(execOp a.eval o).run P w= .ok (.value v) w':=by
 have h1:cc.argTypes= #[t,u]:=by apply Array.ext';simpa using ht
 have h2:cc.args= #[x,y]:=by apply Array.ext';simpa using hx
 simp_all[execOp,resolve,invoke,builtin]
theorem vS{ag:Bool}{sz:Nat}(hs:ag=true\/sz=1):∀(n:Nat)(cs:List AV)(vs:List Value),be S β cs vs->n*sz<=cs.length->(cs.take (n*sz)).all aO=true->fy S β (oS ag sz n cs) (vs.take (n*sz)) sz
 |0,cs,vs,_,_,_=>by rw[afc,ady];exact .nil sz
 | n + 1,cs,vs,hv,hl,hok=>by
  have hm:(n+1)*sz=sz+n*sz:=by rw[Nat.add_mul,Nat.one_mul,Nat.add_comm]
  have hle:sz<=cs.length:=WD
  have hvl:=hv.length
  have h1:fy S β [bif ag then .agg (cs.take sz)else aD cs 0] (vs.take sz) sz:=by
   have hcl:(vs.take sz).length=sz:=by simp;omega
   have hone:∀(c:AV)(x:Value)(j:Nat),j<sz->cs[j]? = some c->vs[j]? = some x->x.cells= #[x]/\x.oneCell'=true:=fun c x j hj hc hx=>by
    obtain⟨y,hy,hr⟩:=hv.get hc;rw[hx]at hy;cases hy;refine ko (acQ.1 hok c (adl (i:=j) ?_)) hr
    grind
   have hex:∀(j:Nat)(x:Value),j<sz->vs[j]? = some x->∃c,cs[j]? = some c:=fun j x hj hx=>⟨_,acH WD⟩;refine⟨by rw[hcl];simp,fun i e he=>?_,fun x hx=>?_⟩
   ·cases i with
    |succ i=>simp at he
    | zero=>
     simp only[acV,acz]at he;subst he;cases ag with
     |true=>
      refine⟨.agg (vs.take sz).toArray,by simp only[acD,VR];exact⟨_,rfl,hv.take sz⟩,by simp[Value.cells];omega,fun j x hx=>?_⟩;simpa [Value.cells]using hx
     | false=>
      rcases hs with hs|hs
      ·cases hs
      ·subst hs;have hc0:cs[0]? = some (aD cs 0):=by
        unfold aD;rw[acH WD,adH,acH WD];rfl
       obtain⟨y,hy,hr⟩:=hv.get hc0
       grind
   ·grind [List.getElem?_of_mem]
  have h2:=vS hs n (cs.drop sz) (vs.drop sz) (hv.drop sz) Bk (by
   grind)
  have:=h1.append h2
  rw[hm,List.take_add];exact this
end
def Ax(P:Program)(S:az)(β:List bQ)(w:World)(v:Value)(Y:AV):Prop:=
 ∀(sz:Nat)(bs:List AV),jX Y=some bs->dK sz bs=true->(∀s,Y= .str s->sz=1)->(Builtin.lenOf v).run P w= .ok bs.length w/\∃cs:List Value,fy S β bs cs sz/\
  ∀w':World,(∀a:Addr,w'.cell? a=w.cell? a)->(Builtin.firstCells sz bs.length v).run P w'= .ok cs.toArray w'
omit [Dr]in
theorem oJ{Y:AV}{v:Value}(hw:Wf S w)(hv:VR S β Y v):Ax P S β w v Y:=fun sz bs he hok hs=>by
 obtain⟨h1,cs,h2,h3⟩:=src_ok (P:=P) hw he hv hok hs;exact⟨h1,cs,h2,fun w' hw'=>h3 w' fun b o x hx=>by rw[hw'];exact hw b o x hx⟩
omit [Dr]in
theorem xE(ag:Bool)(sz:Nat):∀(n:Nat)(cs:List AV),(oS ag sz n cs).length=n
 |0,_=>rfl
 |n+1,cs=>by simp[oS,xE ag sz n]
theorem sM(H:FR c N U e h a w S β γ lam ω){Y:AV}{v:Value}{es:List AV}(hv:VR S β Y v)(hsrc:vd h Y=some es):Ax P S β w v (.sl es):=fun sz' bs he hok _=>by
 simp only[jX,acz]at he;subst he;unfold vd at hsrc;split at hsrc
 ·cases hsrc;obtain⟨q,cap,rfl,_⟩:=hv.hs_some;exact⟨rfl,[],.nil sz',fun w' _=>run_firstCells_some w' sz' 0 q 0 cap [] AI fun j x hx=>by simp at hx⟩
 ·rename_i l off len sz ag _;cases hcs:h[l]? with
  |none=>grind
  | some cs=>
   rw[hcs]at hsrc;simp only at hsrc;cases hb:((ag||Nat.beq sz 1)&&decide (off+len*sz<=cs.length)&&((cs.drop off).take (len*sz)).all aO)with
   |false=>grind
   | true =>
    rw[hb]at hsrc;simp only[acD,acz]at hsrc;subst hsrc;simp only[acB,acP,adm]at hb;obtain⟨⟨h1,h2⟩,h3⟩:=hb;have hag:ag=true\/sz=1:=h1.imp id Nat.eq_of_beq_eq_true;rw[xE];rcases adp len with rfl|h0
    ·grind
    ·obtain⟨⟨b',nb⟩,cap,hβ,hb0,rfl,hlc,hcn⟩:=hv.hs_pos h0;have hne:cs≠[]\/sz=0:=by
      rcases adp sz with hz|hz
      ·exact .inr hz
      ·refine .inl ?_;rintro rfl
       have:=Nat.mul_pos h0 hz
       grind
     -- the size of an element is that of the slice
     have hsz:sz'=sz:=by
      have hall:=acQ.1 hok (bif ag then .agg ((cs.drop off).take sz)else aD (cs.drop off) 0) (by
       cases len with
       |zero=>omega
       |succ n=>simp[oS])
      simp only[cn,acB,ada]at hall;have hsa:=hall.1;have hle:sz<=(cs.drop off).length:=by
       have:1*sz<=len*sz:=ac4 _ h0;simp;omega
      cases ag with
      |true=>
       simp_all[cW]
      | false=>
       rcases hag with hag|hag
       ·cases hag
       ·subst hag;simp only[acO]at hsa;have hc0:(cs.drop off)[0]? = some (aD (cs.drop off) 0):=by
         unfold aD;rw[acH WD,adH,acH WD];rfl
        have hoc:=acQ.1 h3 (aD (cs.drop off) 0) (adl (i:=0) qr);generalize aD (cs.drop off) 0=q at hsa hoc;cases q<;>simp[aO,cW]at hsa hoc<;>omega
     subst hsz;rcases hne with hne|hz
     ·obtain⟨z,j1,j2,j3,j4,j5⟩:=H.heap.cells hcs hne hβ hb0;rw[hβ]at j1;cases j1;have hzl:cs.length<=z.size:=by have:=j4.length;simp at this;omega
      have j6:be S β (cs.drop off) ((z.toList.take cs.length).drop off):=j4.drop off;have hF:=vS hag len (cs.drop off) _ j6 Bk h3;refine⟨rfl,_,hF,fun w' hw'=>?_⟩;refine run_firstCells_some w' sz' len ⟨b',off,none⟩ len cap _ Bk fun j q hq=>?_;rw[addr_add,hw',j2.cell]
      grind
     ·subst hz;rcases hag with rfl|hag
      ·have hall:∀n cs,fy S β (oS true 0 n cs) [] 0:=by
        intro n
        induction n with
        |zero=>intro cs;exact .nil 0
        | succ n ih=>
         intro cs;have:fy S β [AV.agg (cs.take 0)] [] 0:=⟨AI,fun i e he=>by
          cases i with
          |zero=>
           simp only[acV,acz]at he;subst he;exact⟨.agg #[],by simp only[VR,ady];exact⟨[],rfl,by simp[be]⟩,rfl,fun j x hx=>by simp[Value.cells]at hx⟩
          |succ i=>simp at he,fun x hx=>by simp at hx⟩
         exact this.append (ih _)
       exact⟨rfl,[],hall _ _,fun w' _=>run_firstCells_some w' 0 len _ len cap [] AI fun j x hx=>by simp at hx⟩
      ·omega
 ·cases hsrc;exact oJ (P:=P) H.wf hv sz' [] rfl hok (fun s h=>by cases h)
 ·cases hsrc;exact oJ (P:=P) H.wf hv sz' [] rfl hok (fun s h=>by cases h)
 ·cases hsrc;exact oJ (P:=P) H.wf hv sz' _ rfl hok (fun s h=>by cases h)
 ·cases hsrc
theorem AJ(hT:TOK P cx.T)(H:FR c N U e h a w S β γ lam ω)(hd:∀t,o.dst=some t->t<N)(hU:∀g,gid<=g->g<gid+1000->¬U g){t u:TypeId}{y:Operand}(ho:o.op= .call cc)(hb:cc.callee= .builtin .append)(hts:cc.argTypes.toList=[t,u])(hxs:cc.args.toList=[x,y])(hu:lx cx.T u=true){as:List AV}{vx:Value}{g0:Option Nat}{r Y:AV}(hav:a.eval x=vx)(hx:VR S β (.sl as) vx)(hfree:(g0=none/\vx= .slice none 0 0)\/∃g z,g0=some g/\vz S w ω g z vx/\DO z (eK cx.T t)=true)(happ:dL cx.T t (.sl as) Y=some r)(hsrc:Ax P S β w (a.eval y) Y):
  After P c N (UG U gid) (.ok (e.upd o.dst { Upd.own r gid (eK cx.T t)with drop:=g0 }) h) o a w:=by
 obtain⟨ti,el,ei,bs,ht,hk,hei,hels,hoa,hob,hby,hb0,rfl,hes,hstr⟩:=L5 happ;rw[hes]at hfree |-;have hroom:xo w ei.size vx:=by
  rcases hfree with⟨_,rfl⟩|⟨g,z,_,hf,hz⟩
  ·exact⟨none,0,0,rfl,acC _,fun _=>rfl,.inl rfl⟩
  ·exact (A9 hf hz).1
 obtain⟨hlen,cs,hflat,hfirst⟩:=hsrc ei.size bs hels hob (Ca hstr);obtain⟨v,w',hrun,hA⟩:=GW (ty:=o.type) hT H.wf ht hk hei hu hx hlen hflat hfirst hoa hby hb0 hroom;have hfr2:∃z,((g0=none/\vx= .slice none 0 0)\/∃g,g0=some g/\vz S w ω g z vx)/\(z=none\/z=some ei.size):=by
  rcases hfree with h1|⟨g,z,h1,hf,hz⟩
  ·simp_all
  ·exact⟨z,.inr ⟨g,h1,hf⟩,(A9 hf hz).2⟩
 obtain⟨z,hf2,hz2⟩:=hfr2;obtain⟨S',ω',F⟩:=H.app hd hU hx hoa hf2 hz2 hA;exact After.val (fC ho hb hts hxs qr) ⟨_,_,_,_,_,F⟩
end
section
variable {P:Program} {cx:Cx} {c:Entry} {N:Nat} {U:Nat->Prop} {e:Env} {h:Hp} {a:Act} {w:World} {S:az} {β:List bQ} {γ:Nat->Value} {lam:Nat->Option Nat} {ω:Nat->Owner} {o:Oper} {gid:Nat}
omit [Dr]in
theorem yd{sz:Nat}{x:Array Value}:(es:List AV)->(off:Nat)->(∀(i:Nat)(e:AV),es[i]? = some e->∃v,VR S β e v/\v.cells.size=sz/\∀(j:Nat)(y:Value),v.cells[j]? = some y->x[off+i*sz+j]? = some y)->
  dK sz es=true->(es.flatMap ab).length=es.length*sz/\be S β (es.flatMap ab) ((x.toList.drop off).take (es.length*sz))
 |[],off,_,_=>by simp[be]
 | e:: es,off,hh,hok=>by
  simp only[dK,adz,acB]at hok;obtain⟨v,v1,v2,v3⟩:=hh 0 e AI;obtain⟨k1,k2,k3⟩:=pf hok.1 v1;obtain⟨h1,h2⟩:=yd es (off+sz) (fun i e' he=>by
   obtain⟨u,u1,u2,u3⟩:=hh (i+1) e' (by simpa using he);exact⟨u,u1,u2,fun j y hy=>by
    have:=u3 j y hy
    rwa [show off+(i+1)*sz+j=off+sz+i*sz+j by grind]at this⟩) hok.2
  have hacl:(ab e).length=sz:=by rw[<- k2.length];simpa using k1
  refine⟨qr,?_⟩;have hfirst:(x.toList.drop off).take sz=v.cells.toList:=by
   apply adZ;intro j;rw[adM];split
   ·grind
   ·grind
  have hsplit:(x.toList.drop off).take ((e:: es).length*sz)=v.cells.toList++(x.toList.drop (off+sz)).take (es.length*sz):=by
   rw[<- hfirst,acR,Nat.add_mul,Nat.one_mul,Nat.add_comm (es.length*sz) sz,List.take_add,List.drop_drop]
  rw[hsplit,aeg];exact k2.append h2
inductive AppRaw (w:World) (el sz n0 n:Nat) (olds news:List Value) (vx:Value):Value->World->Prop where
 |same (h:n=0):AppRaw w el sz n0 n olds news vx vx w
 | place (b off cap:Nat) (x:Array Value) (hv:vx= .slice (some ⟨b,off,none⟩) n0 cap) (hr:Row w b x) (hlt:n0+n<=cap) (hc:off+cap*sz<=x.size) (hn:n≠0):
   AppRaw w el sz n0 n olds news vx (.slice (some ⟨b,off,none⟩) (n0+n) cap)
    (w.setRow b (x.toList.take (off+n0*sz)++news++x.toList.drop (off+n0*sz+news.length)).toArray)
 | fresh (x:Array Value) (e cap:Nat) (hlt:n0+n<=cap) (hc:x.size=cap*sz) (hr:∀(i:Nat)(y:Value),(olds++news)[i]? = some y->x[i]? = some y) (hn:n≠0) (he:e=el):
   AppRaw w el sz n0 n olds news vx (.slice (some ⟨w.heap.size,0,none⟩) (n0+n) cap) (w.drew.alloc (.cells x e))
omit [Dr]in
theorem gV{T:TT}(hT:TOK P T){u e ty:Nat}{ei:TI}{n0 n:Nat}{olds news:List Value}{vx vy:Value}(ht:T t=some ti)(hk:ti.kind= .slice e)(hei:T e=some ei)(hu:lx T u=true)(hvx:∃a cap,vx= .slice a n0 cap)(hlen:(Builtin.lenOf vy).run P w= .ok n w)(hfirst:∀w':World,(∀a:Addr,w'.cell? a=w.cell? a)->(Builtin.firstCells ei.size n vy).run P w'= .ok news.toArray w')(hold:∀w':World,(∀a:Addr,w'.cell? a=w.cell? a)->(Builtin.firstCells ei.size n0 vx).run P w'= .ok olds.toArray w')(hol:olds.length=n0*ei.size)(hnl:news.length=n*ei.size)(hone:∀x∈news,x.oneCell'=true)(hby:(n0+n)*ei.bytes<=140737488355328)(hb0:0<ei.bytes)(hroom:xo w ei.size vx):
  ∃v w',(Builtin.append_ #[t,u] ty #[vx,vy]).run P w= .ok v w'/\AppRaw w e ei.size n0 n olds news vx v w':=by
 obtain⟨_,d,_,_,hd,_,_,_,_,hkd,_⟩:=(hT.get ht).ex;have hd':d= .slice e:=by cases d<;>simp_all[kindOf]
 subst hd';obtain⟨ii,_,zz,hii,_,hzz,hzs,hsz,hbb,_⟩:=(hT.get hei).ex;have hz:∃du,P.underlying u=some du/\((∃e',du= .slice e')\/du= .string):=by
  unfold lx at hu;split at hu
  ·rename_i tu htu;obtain⟨_,du,_,_,hdu,_,_,_,_,hku,_⟩:=(hT.get htu).ex;refine⟨du,hdu,?_⟩;split at hu
   ·rename_i e' hk';exact .inl ⟨e',by cases du<;>simp_all[kindOf]⟩
   ·exact .inr (by cases du<;>simp_all[kindOf])
   ·simp at hu
  ·simp at hu
 obtain⟨du,hdu,hduk⟩:=hz;obtain⟨a,len,cap,rfl,hlc,hnone,hspare⟩:=hroom;obtain⟨a',cap',he⟩:=hvx;simp only[Value.slice.injEq]at he;obtain⟨rfl,rfl,rfl⟩:=he;by_cases hfit:len+n<=cap
 ·by_cases hn0:n=0
  ·subst hn0;refine⟨.slice a len cap,w,?_,.same rfl⟩;have hns:news=[]:=acW (by simpa using hnl);subst hns;have hf:(Builtin.firstCells ei.size 0 vy).run P w= .ok #[] w:=by simpa using hfirst w (fun _=>rfl)
   rcases hduk with⟨e',rfl⟩|rfl<;>cases a <;>
    simp[Builtin.append_,run_underlying hd,run_underlying hdu,sizeOf,typeInfo,hii,hsz,hlen,hlc,hf,storeCells]
  ·rcases hspare with hsp|⟨b,off,x,rfl,⟨ce,hrow⟩,hcap⟩
   ·omega
   ·refine⟨_,_,?_,.place b off cap x rfl ⟨ce,hrow⟩ hfit hcap hn0⟩;have hf:=hfirst w (fun _=>rfl);have hle:(len+n)*ei.size<=cap*ei.size:=ac4 _ hfit;rw[Nat.add_mul]at hle;have hst:=run_storeCells_at P b (off+len*ei.size) ce news 0 x w hrow WD hone;simp only[aeG]at hst;rcases hduk with⟨e',rfl⟩|rfl <;>
     simp[Builtin.append_,run_underlying hd,run_underlying hdu,sizeOf,typeInfo,hii,hsz,hlen,hfit,hf,addr_add,hst]
 ·have hne:n≠0:=by rintro rfl;omega
  have hgt:cap<len+n:=WD
  have h63:¬(9223372036854775807<((len:Int)+(n:Int))):=by
   have:=adi (afh (len+n) hb0) hby
   omega
  have hfit48:=growslice_fits hgt hby;have h48:¬(281474976710656<Builtin.nextslicecap (len+n) cap*ei.bytes):=WD
  have hb0':ei.bytes≠0:=WD
  have hof:=hold w.drew (fun a=>World.cell?_drew ..);have hf:=hfirst w.drew (fun a=>World.cell?_drew ..);have hcapn:len+n<=grownCap w (len+n) cap e:=Nat.le_add_right _ _;have hzcs:(Builtin.zeroCells zz.cells (grownCap w (len+n) cap e-(len+n))).size=(grownCap w (len+n) cap e-(len+n))*ei.size:=by
   rw[size_zeroCells,hzs,hsz]
  refine⟨_,_,?_,.fresh ((olds++news).toArray++Builtin.zeroCells zz.cells (grownCap w (len+n) cap e-(len+n))) e (grownCap w (len+n) cap e) hcapn ?_ ?_ hne rfl⟩
  ·rcases hduk with⟨e',rfl⟩|rfl <;>
    (simp[Builtin.append_,run_underlying hd,run_underlying hdu,sizeOf,typeInfo,zeroValue,hii,hsz,hzz,hlen,hfit,hbb,h48,hb0',Question.forced,hf,hof,newRow,grownCap]
     grind)
  ·rw[Array.size_append,hzcs];simp only[adn,ac7,hol,hnl];rw[<- Nat.add_mul,<- Nat.add_mul]
   grind
  grind
end
section
variable {P:Program} {cx:Cx} {c:Entry} {N:Nat} {U:Nat->Prop} {e:Env} {h:Hp} {a:Act} {w:World} {S:az} {β:List bQ} {γ:Nat->Value} {lam:Nat->Option Nat} {ω:Nat->Owner} {o:Oper} {gid:Nat}
omit [Dr]in
theorem wM{es:List AV}{cs:List Value}{sz:Nat}(hf:fy S β es cs sz)(hok:dK sz es=true):(es.flatMap ab).length=es.length*sz/\be S β (es.flatMap ab) cs:=by
 obtain⟨h1,h2,_⟩:=hf;obtain⟨g1,g2⟩:=yd (x:=cs.toArray) es 0 (fun i e he=>by
  obtain⟨v,v1,v2,v3⟩:=h2 i e he;exact⟨v,v1,v2,fun j y hy=>qr⟩) hok
 grind
theorem Kk(hT:TOK P cx.T)(H:FR c N U e h a w S β γ lam ω)(hd:∀t,o.dst=some t->t<N){n:Nat}{ps:Array (Nat×Operand)}(ho:o.op= .buildSlice t n ps)(ht:∀p∈ps.toList,∀t,p.2= .tmp t->t<1000)(hr:aP e o.dst (.dyn (Cz cx.T t n (ps.toList.map fun p=>(p.1,opnd e p.2))) .ofV) h≠.fail):
  After P c N (UG U gid) (aP e o.dst (.dyn (Cz cx.T t n (ps.toList.map fun p=>(p.1,opnd e p.2))) .ofV) h) o a w:=absurd rfl hr
theorem NL(hT:TOK P cx.T)(H:FR c N U e h a w S β γ lam ω)(hd:∀t,o.dst=some t->t<N){l k:Operand}(ho:o.op= .makeSlice t l k)(hl:∀t,l= .tmp t->t<1000)(hk:∀t,k= .tmp t->t<1000)(hr:aP e o.dst (.dyn (Jy cx.T t (opnd e l) (opnd e k)) .ofV) h≠.fail):
  After P c N (UG U gid) (aP e o.dst (.dyn (Jy cx.T t (opnd e l) (opnd e k)) .ofV) h) o a w:=absurd rfl hr
theorem Ek(hT:TOK P cx.T)(H:FR c N U e h a w S β γ lam ω)(hd:∀t,o.dst=some t->t<N){t u:TypeId}{y:Operand}(ho:o.op= .call cc)(hb:cc.callee= .builtin .append)(hts:cc.argTypes.toList=[t,u])(hxs:cc.args.toList=[x,y])(hx:∀t,x= .tmp t->t<1000)(hu:lx cx.T u=true){Y:AV}(hsrc:Ax P S β w (a.eval y) Y)(hr:aP e o.dst (.dyn (appH cx.T t (iV e x) (opnd e x) Y) .ofV) h≠.fail):After P c N (UG U gid) (aP e o.dst (.dyn (appH cx.T t (iV e x) (opnd e x) Y) .ofV) h) o a w:=by
 have hvx:=bd H x hx;simp only[aP,aG,ao]at hr |-;have hz:iV e x=true->opnd e x= .sl []->∃a0,a.eval x= .slice a0 0 0:=by
  intro hz hX;unfold iV at hz;split at hz
  ·rename_i s;have hs1:=hx s rfl;have hs2:=H.slots s hs1;split at hz
   ·rename_i g hg;split at hz
    ·rename_i hal;obtain⟨a0,len,cap,e1,e2,e3,e4⟩:=H.free g none hal;have e5:=H.grps s g none hs1 hg hal;have e6:a.eval (.tmp s)=γ g:=e5
     grind [VR]
    ·cases hz
   ·cases hz
  ·cases hz
 generalize iV e x=zz at hr hz |-;generalize hX:opnd e x=X at hr hvx hz |-;unfold appH at hr |-;cases ht:cx.T t with
 |none=>grind
 | some ti =>
  rw[ht]at hr;simp only at hr |-;cases hk:ti.kind<;>rw[hk]at hr<;>simp only at hr |- <;> (try exact absurd rfl hr);rename_i el;cases hei:cx.T el with
  |none=>grind
  | some ei =>
   rw[hei]at hr;simp only at hr |-;cases hels:jX Y with
   |none=>grind
   | some bs =>
    rw[hels]at hr;simp only at hr |-;cases hc:(dK ei.size bs&&decide (0<ei.bytes)&&decide (0<ei.size)&&nd Y ei.size)with
    |false=>grind
    | true =>
     rw[hc]at hr;simp only[acD]at hr |-;simp only[acB,acP]at hc;obtain⟨⟨⟨h1,h2⟩,h3⟩,h4⟩:=hc;obtain⟨hlen,news,hflat,hfirst'⟩:=hsrc ei.size bs hels h1 (Ca h4);obtain⟨hfl,hfv⟩:=wM hflat h1;have hna:ei.agg=false->ei.size=1:=by
      intro hag;obtain⟨ii,_,zz,_,_,_,hzs,hsz,_,_,_,_,_,_,_,hnn⟩:=(hT.get hei).ex;have hz1:zz.cells.size=1:=by cases zz<;>first|rfl|grind
      omega
     by_cases hXe:X= .he
     ·subst hXe;simp only at hr |-;have hvr:=hvx;simp only[VR]at hvx;obtain⟨a0,hvx⟩:=hvx;cases hbe:bs.isEmpty with
      | true=>
       have hbs:bs=[]:=by simpa using hbe
       subst hbs;simp only[acD];obtain⟨v,w',hrun,hA⟩:=gV (ty:=o.type) hT ht hk hei hu (n0:=0) (olds:=[]) ⟨a0,0,hvx⟩ hlen hfirst' (fun w' _=>by rw[hvx];cases a0 with|none=>simp[Builtin.firstCells]|some q=>simp_all[run_firstCells_some]) AI hflat.1 hflat.2.2 AI h2
        (by rw[hvx];exact⟨a0,0,0,rfl,acC _,fun _=>rfl,.inl rfl⟩)
       cases hA with
       |same _=>
        exact After.val (fC ho hb hts hxs hrun) (aa0 ⟨S,β,γ,lam,ω,H.setV hd hvr⟩)
       |place _ _ _ _ _ _ _ _ hn=>grind
       |fresh _ _ _ _ _ _ hn=>grind
      | false=>
       rw[hbe]at hr;simp only[acO]at hr |-;cases hby:decide (bs.length*ei.bytes<=140737488355328)with
       |false=>grind
       | true=>
        simp only[acD];have hne:bs.length≠0:=by
         intro h0
         have:=acW h0
         subst this;simp at hbe
        obtain⟨v,w',hrun,hA⟩:=gV (ty:=o.type) hT ht hk hei hu (n0:=0) (olds:=[]) ⟨a0,0,hvx⟩ hlen hfirst' (fun w' _=>by rw[hvx];cases a0 with|none=>simp[Builtin.firstCells]|some q=>grind [run_firstCells_some]) AI hflat.1 hflat.2.2 (by simpa using hby) h2
         (by rw[hvx];exact⟨a0,0,0,rfl,acC _,fun _=>rfl,.inl rfl⟩)
        cases hA with
        |same h0=>grind
        |place b off cap z hv _ hlt _ _=>grind
        | fresh z te cap hlt hzc hzr hn=>
         obtain⟨ω',F,hnew,hext⟩:=(H.drew).newH z te (cs:=bs.flatMap ab) (by
          refine .of_get ?_ fun i q v hq hv=>?_
          ·simp_all
          ·obtain⟨v',h1',h2'⟩:=hfv.get hq
           grind) (fun t ht=>absurd ht (oC h1 t))
         have hnew':(β++[(w.drew.heap.size,z.size)])[h.length]? = some (w.heap.size,z.size):=hnew;refine After.val (fC ho hb hts hxs hrun) (aa0 ⟨_,_,γ,lam,ω',F.setV hd ?_⟩);simp only[VR];have hz0:z.size≠0:=by
          have:0<cap*ei.size:=Nat.mul_pos WD h3;omega
         grind
     by_cases hXs:X= .sl []/\zz=true
     ·obtain⟨rfl,hzz⟩:=hXs;subst hzz;simp only[acD]at hr |-;obtain⟨a0,hvx0⟩:=hz rfl rfl;have hvr:=hvx
      replace hvx:=hvx0
      cases hbe:bs.isEmpty with
      | true=>
       have hbs:bs=[]:=by simpa using hbe
       subst hbs;simp only[acD];obtain⟨v,w',hrun,hA⟩:=gV (ty:=o.type) hT ht hk hei hu (n0:=0) (olds:=[]) ⟨a0,0,hvx⟩ hlen hfirst' (fun w' _=>by rw[hvx];cases a0 with|none=>simp[Builtin.firstCells]|some q=>simp_all[run_firstCells_some]) AI hflat.1 hflat.2.2 AI h2
        (by rw[hvx];exact⟨a0,0,0,rfl,acC _,fun _=>rfl,.inl rfl⟩)
       cases hA with
       |same _=>
        exact After.val (fC ho hb hts hxs hrun) (aa0 ⟨S,β,γ,lam,ω,H.setV hd hvr⟩)
       |place _ _ _ _ _ _ _ _ hn=>grind
       |fresh _ _ _ _ _ _ hn=>grind
      | false=>
       rw[hbe]at hr;simp only[acO]at hr |-;cases hby:decide (bs.length*ei.bytes<=140737488355328)with
       |false=>grind
       | true=>
        simp only[acD];have hne:bs.length≠0:=by
         intro h0
         have:=acW h0
         subst this;simp at hbe
        obtain⟨v,w',hrun,hA⟩:=gV (ty:=o.type) hT ht hk hei hu (n0:=0) (olds:=[]) ⟨a0,0,hvx⟩ hlen hfirst' (fun w' _=>by rw[hvx];cases a0 with|none=>simp[Builtin.firstCells]|some q=>grind [run_firstCells_some]) AI hflat.1 hflat.2.2 (by simpa using hby) h2
         (by rw[hvx];exact⟨a0,0,0,rfl,acC _,fun _=>rfl,.inl rfl⟩)
        cases hA with
        |same h0=>grind
        |place b off cap z hv _ hlt _ _=>grind
        | fresh z te cap hlt hzc hzr hn=>
         obtain⟨ω',F,hnew,hext⟩:=(H.drew).newH z te (cs:=bs.flatMap ab) (by
          refine .of_get ?_ fun i q v hq hv=>?_
          ·simp_all
          ·obtain⟨v',h1',h2'⟩:=hfv.get hq
           grind) (fun t ht=>absurd ht (oC h1 t))
         have hnew':(β++[(w.drew.heap.size,z.size)])[h.length]? = some (w.heap.size,z.size):=hnew;refine After.val (fC ho hb hts hxs hrun) (aa0 ⟨_,_,γ,lam,ω',F.setV hd ?_⟩);simp only[VR];have hz0:z.size≠0:=by
          have:0<cap*ei.size:=Nat.mul_pos WD h3;omega
         grind
     by_cases hXn:X= .hn
     ·subst hXn;simp only at hr |-;simp only[VR]at hvx;cases hbe:bs.isEmpty with
      | true=>
       have hbs:bs=[]:=by simpa using hbe
       subst hbs;simp only[acD];obtain⟨v,w',hrun,hA⟩:=gV (ty:=o.type) hT ht hk hei hu (n0:=0) (olds:=[]) ⟨none,0,hvx⟩ hlen hfirst' (fun w' _=>by rw[hvx];simp[Builtin.firstCells]) AI hflat.1 hflat.2.2 AI h2
        (by rw[hvx];exact⟨none,0,0,rfl,acC _,fun _=>rfl,.inl rfl⟩)
       cases hA with
       |same _=>
        exact After.val (fC ho hb hts hxs hrun) (aa0 ⟨S,β,γ,lam,ω,H.setV hd (by simp only[VR];exact hvx)⟩)
       |place _ _ _ _ _ _ _ _ hn=>grind
       |fresh _ _ _ _ _ _ hn=>grind
      | false=>
       rw[hbe]at hr;simp only[acO]at hr |-;cases hby:decide (bs.length*ei.bytes<=140737488355328)with
       |false=>grind
       | true=>
        simp only[acD];have hne:bs.length≠0:=by
         intro h0
         have:=acW h0
         subst this;simp at hbe
        obtain⟨v,w',hrun,hA⟩:=gV (ty:=o.type) hT ht hk hei hu (n0:=0) (olds:=[]) ⟨none,0,hvx⟩ hlen hfirst' (fun w' _=>by rw[hvx];simp[Builtin.firstCells]) AI hflat.1 hflat.2.2 (by simpa using hby) h2
         (by rw[hvx];exact⟨none,0,0,rfl,acC _,fun _=>rfl,.inl rfl⟩)
        cases hA with
        |same h0=>grind
        |place b off cap z hv _ _ _ _=>grind
        | fresh z te cap hlt hzc hzr hn=>
         obtain⟨ω',F,hnew,hext⟩:=(H.drew).newH z te (cs:=bs.flatMap ab) (by
          refine .of_get ?_ fun i q v hq hv=>?_
          ·simp_all
          ·obtain⟨v',h1',h2'⟩:=hfv.get hq
           grind) (fun t ht=>absurd ht (oC h1 t))
         have hnew':(β++[(w.drew.heap.size,z.size)])[h.length]? = some (w.heap.size,z.size):=hnew;refine After.val (fC ho hb hts hxs hrun) (aa0 ⟨_,_,γ,lam,ω',F.setV hd ?_⟩);simp only[VR];have hz0:z.size≠0:=by
          have:0<cap*ei.size:=Nat.mul_pos WD h3;omega
         grind
     ·-- a row of the heap
      cases X with
      | hs l off len sz ag=>
       cases off with
       |succ k=>grind
       | zero =>
        simp only at hr |-;cases hcs:h[l]? with
        |none=>grind
        | some cs=>
         rw[hcs]at hr;simp only at hr |-;cases hc2:(sz== ei.size&&ag== ei.agg&&cs.all aO&&decide (len*sz<=cs.length)&&decide (0<cs.length)&&decide ((len+bs.length)*ei.bytes<=140737488355328))with
         |false=>grind
         | true=>
          simp only[acD];simp only[acB,acP,ada]at hc2;obtain⟨⟨⟨⟨⟨rfl,rfl⟩,k3⟩,k4⟩,k5⟩,k6⟩:=hc2;have hvx0:=hvx;have hne:cs≠[]:=by
           rintro rfl;simp at k5
          have hl:l<h.length:=by
           rcases ac9 l h.length with h'|h'
           ·exact h'
           ·grind
          simp only[VR]at hvx;rcases hvx with⟨⟨b,nb⟩,cap,hβ,hb0,hvx,hlc,hcn⟩|⟨h00,q,hvx⟩
          ·obtain⟨z,j1,j2,j3,j4,j5⟩:=H.heap.cells hcs hne hβ hb0;rw[hβ]at j1;simp only[acz,ado,aeR]at j1;subst j1;have hzs:cs.length<=z.size:=by have:=j4.length;simp at this;omega
           have hol:(z.toList.take (len*ei.size)).length=len*ei.size:=by simp;omega
           have j6:be S β (cs.take (len*ei.size)) (z.toList.take (len*ei.size)):=by
            have:=j4.take (len*ei.size)
            rw[aeu,Nat.min_eq_left k4]at this;exact this
           have hcl:(cs.take (len*ei.size)).length=len*ei.size:=by simp;omega
           have hold:∀w':World,(∀a:Addr,w'.cell? a=w.cell? a)->(Builtin.firstCells ei.size len (a.eval x)).run P w'= .ok (z.toList.take (len*ei.size)).toArray w':=fun w' hw'=>by
            rw[hvx];refine run_firstCells_some w' ei.size len ⟨b,0,none⟩ len cap _ hol fun j q hq=>?_;rw[addr_add,ac8,hw',j2.cell]
            grind
           have hroom:xo w ei.size (a.eval x):=⟨_,len,cap,hvx,hlc,(fun h=>by cases h),.inr ⟨b,0,z,rfl,j2,hcn⟩⟩;obtain⟨v,w',hrun,hA⟩:=gV (ty:=o.type) hT ht hk hei hu (n0:=len) (olds:=z.toList.take (len*ei.size)) ⟨_,cap,hvx⟩ hlen hfirst' hold hol hflat.1 hflat.2.2 k6 h2 hroom;have hexec:=fC ho hb hts hxs hrun;cases hA with
           |same h0=>
            have hbs:bs=[]:=acW h0;subst hbs;simp only[List.isEmpty_nil,acD];exact After.val hexec (aa0 ⟨S,β,γ,lam,ω,H.setV hd hvx0⟩)
           | place b2 off2 cap2 z2 hv2 hr2 hlt2 hc2' hn2=>
            have hbe:bs.isEmpty=false:=by cases bs<;>simp_all
            rw[hbe];simp only[acO];rw[hvx]at hv2;simp only[Value.slice.injEq,acz,Addr.mk.injEq]at hv2;obtain⟨⟨rfl,rfl,_⟩,_,rfl⟩:=hv2;cases j2.inj hr2;have hnl:=hflat.1;have hle:(len+bs.length)*ei.size<=cap*ei.size:=ac4 _ hlt2;rw[Nat.add_mul]at hle;have hysz:(z.toList.take (0+len*ei.size)++news++z.toList.drop (0+len*ei.size+news.length)).toArray.size=z.size:=by simp;omega
            have hyv:be S β (cs.take (len*ei.size)++bs.flatMap ab) ((z.toList.take (0+len*ei.size)++news++z.toList.drop (0+len*ei.size+news.length)).toArray.toList.take (cs.take (len*ei.size)++bs.flatMap ab).length):=by
             have hl1:(z.toList.take (0+len*ei.size)++news).length=(cs.take (len*ei.size)++bs.flatMap ab).length:=by
              rw[ac7,ac7,ac8,hol,hcl,hfl,hnl]
             show be S β _ (List.take _ (z.toList.take (0+len*ei.size)++news++z.toList.drop (0+len*ei.size+news.length)));rw[List.take_left' hl1,ac8];exact j6.append hfv
            have hne2:cs.take (len*ei.size)++bs.flatMap ab≠[]:=by
             intro h0;have h1':=(List.append_eq_nil_iff.1 h0).2;rw[h1']at hfl;have:0<bs.length*ei.size:=Nat.mul_pos (Nat.pos_of_ne_zero fun h=>qr) h3;rw[acS]at hfl;omega
            have hnb:∀t,¬fU t (cs.take (len*ei.size)++bs.flatMap ab):=fun t ht=>by
             rcases ht.append with ht|ht
             all_goals grind [oB,oC]
            have F1:=H.turnH hcs hne ⟨_,hβ⟩ j2 hysz hyv (fun t ht=>absurd ht (hnb t));have hcs1:(h.set l (cs.take (len*ei.size)++bs.flatMap ab))[l]? = some (cs.take (len*ei.size)++bs.flatMap ab):=by simp[hl]
            obtain⟨ω',F2,hnew,hext⟩:=F1.moveH hcs1 hne2 ⟨_,hβ⟩ j2.setRow hyv (fun t ht=>ht);have hset:(h.set l (cs.take (len*ei.size)++bs.flatMap ab)).set l []=h.set l []:=AI
            rw[hset]at F2;rw[aez]at hnew;refine After.val hexec (aa0 ⟨_,_,γ,lam,ω',F2.setV hd ?_⟩);simp only[VR]
            grind
           | fresh z2 te cap2 hlt2 hzc hzr hn2=>
            have hbe:bs.isEmpty=false:=by cases bs<;>simp_all
            rw[hbe];simp only[acO];have F1:=(H.drew).killH l;obtain⟨ω',F2,hnew,hext⟩:=F1.newH z2 te (cs:=cs.take (len*ei.size)++bs.flatMap ab) (by
             refine .of_get ?_ fun i q v hq hv=>?_
             ·have:(len+bs.length)*ei.size<=cap2*ei.size:=ac4 _ hlt2
              grind
             ·obtain⟨v',h1',h2'⟩:=(j6.append hfv).get hq
              grind) (fun t ht=>absurd ht (fun ht=>by
             rcases ht.append with ht|ht
             all_goals grind [oB,oC]))
            rw[aez]at hnew;have hnew':(β++[(w.drew.heap.size,z2.size)])[h.length]? = some (w.heap.size,z2.size):=hnew;refine After.val hexec (aa0 ⟨_,_,γ,lam,ω',F2.setV hd ?_⟩);simp only[VR];have hz0:z2.size≠0:=by
             have:0<cap2*ei.size:=Nat.mul_pos WD h3;omega
            grind
          ·subst h00;obtain⟨v,w',hrun,hA⟩:=gV (ty:=o.type) hT ht hk hei hu (n0:=0) (olds:=[]) ⟨some q,0,hvx⟩ hlen hfirst' (fun w' _=>by simp_all[run_firstCells_some]) AI hflat.1 hflat.2.2 k6 h2
            (by rw[hvx];exact⟨some q,0,0,rfl,acC _,fun _=>rfl,.inl rfl⟩)
           have hexec:=fC ho hb hts hxs hrun;cases hA with
           |same h0=>
            have hbs:bs=[]:=acW h0;subst hbs;simp only[List.isEmpty_nil,acD];exact After.val hexec (aa0 ⟨S,β,γ,lam,ω,H.setV hd hvx0⟩)
           |place b off cap z hv _ hlt _ hn=>
            grind
           | fresh z2 te cap2 hlt2 hzc hzr hn2=>
            have hbe:bs.isEmpty=false:=by cases bs<;>simp_all
            rw[hbe];simp only[acO,afc,ady,acT];have F1:=(H.drew).killH l;obtain⟨ω',F2,hnew,hext⟩:=F1.newH z2 te (cs:=bs.flatMap ab) (by
             refine .of_get ?_ fun i q v hq hv=>?_
             ·simp_all
             ·obtain⟨v',h1',h2'⟩:=hfv.get hq
              grind) (fun t ht=>absurd ht (oC h1 t))
            rw[aez]at hnew;have hnew':(β++[(w.drew.heap.size,z2.size)])[h.length]? = some (w.heap.size,z2.size):=hnew;refine After.val hexec (aa0 ⟨_,_,γ,lam,ω',F2.setV hd ?_⟩);simp only[VR];have hz0:z2.size≠0:=by
             have:0<cap2*ei.size:=Nat.mul_pos WD h3;omega
            grind
      |sl es=>
       grind
      |_=>grind
end
section
variable {P:Program} {cx:Cx} {c:Entry} {N:Nat} {U:Nat->Prop} {e:Env} {h:Hp} {a:Act} {w:World} {S:az} {β:List bQ} {γ:Nat->Value} {lam:Nat->Option Nat} {ω:Nat->Owner} {o:Oper} {gid:Nat}
theorem Pa(hT:TOK P cx.T)(H:FR c N U e h a w S β γ lam ω)(hd:∀t,o.dst=some t->t<N){t u:TypeId}{y:Operand}(ho:o.op= .call cc)(hb:cc.callee= .builtin .append)(hts:cc.argTypes.toList=[t,u])(hxs:cc.args.toList=[x,y])(hx:∀t,x= .tmp t->t<1000)(hy:∀t,y= .tmp t->t<1000)(hu:lx cx.T u=true)(hr:aP e o.dst (.dyn (O9 cx.T t (opnd e x) (opnd e y)) .ofV) h≠.fail):After P c N (UG U gid) (aP e o.dst (.dyn (O9 cx.T t (opnd e x) (opnd e y)) .ofV) h) o a w:=absurd rfl hr
end
section
variable {P:Program} {cx:Cx} {c:Entry} {N:Nat} {U:Nat->Prop} {e:Env} {h:Hp} {a:Act} {w:World} {S:az} {β:List bQ} {γ:Nat->Value} {lam:Nat->Option Nat} {ω:Nat->Owner} {o:Oper} {gid:Nat}
omit [Dr]in
theorem yF(h:bD x=true):x= .const (.slice none 0 0):=by
 grind [bD]
theorem M4{m:M AV}(hd:∀t,o.dst=some t->t<N)(hl:aP e o.dst (.dyn m .ofV) h≠.fail->After P c N (UG U gid) (aP e o.dst (.dyn m .ofV) h) o a w)(hr:aP e o.dst (.dyn (aG m Jm) .ofV) h≠.fail):After P c N (UG U gid) (aP e o.dst (.dyn (aG m Jm) .ofV) h) o a w:=by
 intro next Q hn hp
 simp only[aP,aG,Jm,ao]at hr hn hp hl;cases hm:m h with
 |fail=>grind
 |pan pv h1=>
  rw[hm]at hp hl;exact hl AI next Q (fun e' h' a' w' h1=>by cases h1) hp
 |ok v h1=>
  rw[hm]at hn hl;refine hl AI next Q (fun e' h' a' w' k1 k2 k3=>?_) (fun pv h' v w' k1=>by cases k1)
  cases k1;exact hn _ _ a' w' rfl (yh (gid:=gid) hd (Shape.ofV ..) k2) k3
theorem KO{m:M AV}(hd:∀t,o.dst=some t->t<N)(hl:aP e o.dst (.dyn m .ofV) h≠.fail->After P c N (UG U gid) (aP e o.dst (.dyn m .ofV) h) o a w)(hr:aP e o.dst (.dyn (aG m tw) .ofV) h≠.fail):After P c N (UG U gid) (aP e o.dst (.dyn (aG m tw) .ofV) h) o a w:=by
 intro next Q hn hp
 simp only[aP,aG,ao]at hr hn hp hl;cases hm:m h with
 |fail=>grind
 |pan pv h1=>
  rw[hm]at hp hl;exact hl AI next Q (fun e' h' a' w' h1=>by cases h1) hp
 |ok v h1=>
  rw[hm]at hn hl;simp only at hn;obtain⟨r,h2,hz⟩:=M2 v h1;rw[hz]at hn;refine hl AI next Q (fun e' h' a' w' k1 k2 k3=>?_) (fun pv h' v w' k1=>by cases k1)
  cases k1;exact hn _ _ a' w' rfl (vX (gid:=gid) (u:=.ofV v) hd (Shape.ofV ..) hz k2) k3
omit [Dr]in
theorem yY(h:VR S β (opnd e x) (a.eval x)):VR S β (yX e x) (a.eval x):=by
 unfold yX;cases hn:bD x with
 |false=>exact h
 |true=>
  grind [bD,Act.eval,VR]
omit [Dr]in
theorem abM{f g:Operand->AV}{v:Operand->Value}{l:List Operand}(_:be S β (l.map f) (l.map v))(h:∀x∈l,VR S β (g x) (v x)):be S β (l.map g) (l.map v):=by
 induction l with
 |nil=>simp[be]
 |cons x l ih=>
  rename_i hh;simp only[ac3,be]at hh |-
  grind
theorem Pk(hT:TOK P cx.T)(hC:eh P cx.own cx.call)(H:FR c N U e h a w S β γ lam ω)(hd:∀t,o.dst=some t->t<N)(hU:∀g,gid<=g->g<gid+1000->¬U g)(ho:o.op= .call cc)(ht:∀x∈o.op.operands.toList,∀t,x= .tmp t->t<1000)(hr:aP e o.dst (jg cx e gid o cc) h≠.fail):After P c N (UG U gid) (aP e o.dst (jg cx e gid o cc) h) o a w:=by
 have hargs:∀x∈cc.args.toList,∀t,x= .tmp t->t<1000:=fun x hx t hxt=>ht x (by rw[ho];simp[Op.operands,Call.operands];exact .inr (by simpa using hx)) t hxt;have hvs:=tX H cc.args.toList hargs;have hmap:cc.args.map a.eval=(cc.args.toList.map a.eval).toArray:=by apply Array.ext';simp
 unfold jg at hr |-;cases hcal:cc.callee with
 |invoke r m=>rw[hcal]at hr;exact absurd rfl hr
 | value f=>
  rw[hcal]at hr;have hfv:∀t,f= .tmp t->t<1000:=fun t hft=>ht f (by rw[ho];simp[Op.operands,Call.operands,hcal]) t hft;have hclos:∀(hr:aP e o.dst (.dyn (ba cx.call (opnd e f) (cc.args.toList.map (opnd e))) .ofV) h≠.fail),After P c N (UG U gid) (aP e o.dst (.dyn (ba cx.call (opnd e f) (cc.args.toList.map (opnd e))) .ofV) h) o a w:=by
   intro hr;have hf:=bd H f hfv;simp only[aP]at hr |-;generalize hq:opnd e f=q at hr hf |-;unfold ba at hr |-;split at hr
   ·rename_i g fi cap;simp only[VR]at hf;obtain⟨xs,ys,hav,hx,hy⟩:=hf;refine mA hC H hd hU ((hx.append hvs).append hy) (fun hfn=>?_) (.inl fun v=>rfl) hr;have hargs':(xs++cc.args.toList.map a.eval++ys).toArray=xs.toArray++cc.args.map a.eval++ys.toArray:=by rw[hmap];simp
    simp only[execOp,ho,resolve,hcal,hav,Deferred.ofValue,Sem.run_bind,Sem.run_pure,Result.andThen_ok,invoke];rw[hargs'];exact lT (w:=w) hfn
   ·exact absurd rfl hr
  cases f with
  | func f=>
   simp only at hr |-;have hrunc:∀hfn,(execOp a.eval o).run P w= .ok (.enter f (cc.args.toList.map a.eval).toArray) w:=fun hfn=>by
    simp only[execOp,ho,resolve,hcal,Act.eval,Deferred.ofValue,Sem.run_bind,Sem.run_pure,Result.andThen_ok,invoke];rw[hmap];simpa using lT (w:=w) (args:=(cc.args.toList.map a.eval).toArray) hfn
   cases hfz:bX cx.ann.fz o.dst with
   | true=>
    rw[hfz]at hr;simp only[acD]at hr |-;cases hq:!(cx.iso f)&&(cx.own f).isNone with
    |false=>rw[hq]at hr;exact absurd rfl hr
    | true=>
     rw[hq]at hr;simp only[acD]at hr |-;cases hhl:bX cx.ann.hl o.dst with
     |true=>
      rw[hhl]at hr;exact KO (m:=cx.call f (cc.args.toList.map (opnd e))) hd (fun hr=>mA hC H hd hU hvs hrunc (.inl fun v=>rfl) hr) hr
     |false=>
      rw[hhl]at hr;exact M4 (m:=cx.call f (cc.args.toList.map (opnd e))) hd (fun hr=>mA hC H hd hU hvs hrunc (.inl fun v=>rfl) hr) hr
   |false=>
   rw[hfz]at hr;simp only[acO]at hr |-;cases hcm:kR cx.ann.cm o.dst with
   | some x=>
    obtain⟨m,r⟩:=x;rw[hcm]at hr;simp only at hr |-;cases hq:!(cx.iso f)&&(cx.own f).isNone with
    |false=>rw[hq]at hr;exact absurd rfl hr
    | true=>
     rw[hq]at hr;simp only[acD]at hr |-;have e1:aP e o.dst (.dyn (lG m r (cx.call f (cc.args.toList.map (opnd e)))) .ofV) h=aP e o.dst (.dyn (cx.call f (cc.args.toList.map (opnd e))) .ofV) h:=by
      simp only[aP,Av.aG,lG]at hr |-;cases hx:cx.call f (cc.args.toList.map (opnd e)) h with
      |fail=>rfl
      |pan v h1=>rfl
      |ok v h1=>
       rw[hx]at hr;simp only at hr |-;cases hk:rF m r h h1 with
       |false=>rw[hk]at hr;exact absurd rfl hr
       |true=>rfl
     rw[e1]at hr |-;exact mA hC H hd hU hvs hrunc (.inl fun v=>rfl) hr
   |none=>
   rw[hcm]at hr;simp only at hr |-;have hvt:be S β (cc.args.toList.map (rI (bX cx.ann.hb o.dst) e)) (cc.args.toList.map a.eval):=by
    refine abM hvs fun x hx=>?_;unfold rI;cases bX cx.ann.hb o.dst with
    |false=>exact bd H x (hargs x hx)
    |true=>exact yY (bd H x (hargs x hx))
   refine mA hC H hd hU hvt (fun hfn=>?_) ?_ hr
   rotate_left
   ·cases hof:cx.own f with
    |none=>exact .inl fun v=>rfl
    |some sz=>exact .inr ⟨sz,rfl,fun v=>rfl⟩
   simp only[execOp,ho,resolve,hcal,Act.eval,Deferred.ofValue,Sem.run_bind,Sem.run_pure,Result.andThen_ok,invoke];rw[hmap];simpa using lT (w:=w) (args:=(cc.args.toList.map a.eval).toArray) hfn
  |tmp t=>exact hclos hr
  |const v=>exact hclos hr
  |global g=>exact hclos hr
 | builtin b=>
  rw[hcal]at hr;cases b<;>simp only at hr |- <;> (try exact absurd rfl hr)
  case append=>
   split at hr
   ·rename_i t u x y hts hxs;cases hu:lx cx.T u with
    |false=>rw[hu]at hr;exact absurd rfl hr
    | true =>
     rw[hu]at hr;simp only[adb,acO]at hr |-;have hx:∀t,x= .tmp t->t<1000:=hargs x (by rw[hxs];simp);have hy:∀t,y= .tmp t->t<1000:=hargs y (by rw[hxs];simp);cases hha:bX cx.ann.ha o.dst with
     | true=>
      rw[hha]at hr;simp only[acD]at hr |-;cases hhb:bX cx.ann.hb o.dst with
      |true=>
       rw[hhb]at hr;exact Pa hT H hd ho hcal hts hxs hx hy hu hr
      | false=>
       rw[hhb]at hr;simp only[acO]at hr |-;cases hhl:bX cx.ann.hl o.dst with
       | true=>
        rw[hhl]at hr;simp only[acD]at hr |-;have e1:∀e':Env,aP e o.dst (.dyn (Ej cx.T t (iV e x) (opnd e x) (opnd e y)) .ofV) h=match vd h (opnd e y)with
          |some es=>aP e o.dst (.dyn (appH cx.T t (iV e x) (opnd e x) (.sl es)) .ofV) h
          |none=>.fail:=fun _=>by
         simp only[aP,Av.aG,Ej];cases vd h (opnd e y)<;>rfl
        rw[e1 e]at hr |-;cases hsa:vd h (opnd e y)with
        |none=>rw[hsa]at hr;exact absurd rfl hr
        |some es=>
         rw[hsa]at hr;exact Ek hT H hd ho hcal hts hxs hx hu (sM H (bd H y hy) hsa) hr
       |false=>
        rw[hhl]at hr;simp only[acO]at hr |-;exact Ek hT H hd ho hcal hts hxs hx hu (oJ H.wf (bd H y hy)) hr
     | false=>
      rw[hha]at hr;simp only[acO]at hr |-;cases hnc:bD x with
      | true=>
       rw[hnc]at hr;simp only[acD]at hr |-;have hxc:=yF hnc;subst hxc;have key:∀Y r,dL cx.T t (.sl []) Y=some r->Ax P S β w (a.eval y) Y->After P c N (UG U gid) (.ok (e.upd o.dst (Upd.own r gid (eK cx.T t))) h) o a w:=fun Y r happ hsrc=>
        AJ hT H hd hU ho hcal hts hxs hu (as:=[]) (g0:=none) rfl (by simp only[VR];exact⟨none,0,rfl,acC _,fun _=>rfl,fun q hq=>by cases hq⟩) (.inl ⟨rfl,rfl⟩) happ hsrc
       cases hhl:bX cx.ann.hl o.dst with
       | true=>
        rw[hhl]at hr;simp only[acD,aP,Av.aG,El]at hr |-;cases hsa:vd h (opnd e y)with
        |none=>rw[hsa]at hr;exact absurd rfl hr
        |some es=>
         rw[hsa]at hr;simp only at hr |-;cases happ:dL cx.T t (.sl []) (.sl es)with
         |none=>rw[happ]at hr;exact absurd rfl hr
         |some r=>exact key _ r happ (sM H (bd H y hy) hsa)
       |false=>
        rw[hhl]at hr;simp only[acO]at hr |-;cases happ:dL cx.T t (.sl []) (opnd e y)with
        |none=>rw[happ]at hr;exact absurd rfl hr
        |some r=>exact key _ r happ (oJ H.wf (bd H y hy))
      | false=>
       rw[hnc]at hr;simp only[acO]at hr |-;cases x<;>simp only at hr |- <;> (try exact absurd rfl hr);rename_i s;cases hg:(e.get s).g with
       |none=>rw[hg]at hr;exact absurd rfl hr
       | some g=>
        rw[hg]at hr;simp only at hr |-;cases hal:aQ e.al g with
        |none=>rw[hal]at hr;exact absurd rfl hr
        | some z=>
         rw[hal]at hr;simp only at hr |-;cases hz:DO z (eK cx.T t)with
         |false=>rw[hz]at hr;exact absurd rfl hr
         | true=>
          rw[hz]at hr;simp only[acD]at hr |-;have key:∀Y r,dL cx.T t (opnd e (.tmp s)) Y=some r->Ax P S β w (a.eval y) Y->After P c N (UG U gid) (.ok (e.upd o.dst { Upd.own r gid (eK cx.T t)with drop:=some g }) h) o a w:=fun Y r happ hsrc=>by
           obtain⟨as,has⟩:=O8 happ;have hvx:=bd H (.tmp s) hx;rw[has]at hvx happ;have hγ:=H.grps s g z (hx s rfl) hg hal;exact AJ hT H hd hU ho hcal hts hxs hu (as:=as) (g0:=some g) rfl hvx (.inr ⟨g,z,rfl,by
            have:a.eval (.tmp s)=γ g:=hγ;rw[this];exact H.free g z hal,hz⟩) happ hsrc
          cases hhl:bX cx.ann.hl o.dst with
          | true=>
           rw[hhl]at hr;simp only[acD,aP,Av.aG,El]at hr |-;cases hsa:vd h (opnd e y)with
           |none=>rw[hsa]at hr;exact absurd rfl hr
           |some es=>
            rw[hsa]at hr;simp only at hr |-;cases happ:dL cx.T t (opnd e (.tmp s)) (.sl es)with
            |none=>rw[happ]at hr;exact absurd rfl hr
            |some r=>exact key _ r happ (sM H (bd H y hy) hsa)
          |false=>
           rw[hhl]at hr;simp only[acO]at hr |-;cases happ:dL cx.T t (opnd e (.tmp s)) (opnd e y)with
           |none=>rw[happ]at hr;exact absurd rfl hr
           |some r=>exact key _ r happ (oJ H.wf (bd H y hy))
   ·exact absurd rfl hr
  case clear=>
   split at hr
   ·rename_i t ts x xs hts hxs;exact Mw hT H hd ho hcal hts hxs (hargs x (by rw[hxs];simp)) hr
   ·exact absurd rfl hr
  case len=>
   split at hr
   ·rename_i t ts x xs hts hxs;refine fX H hd (m:=Builtin.len_ cc.argTypes o.type (cc.args.map a.eval)) ?_ (fun r hr'=>?_) hr
    ·simp only[execOp,ho,resolve,hcal,invoke,builtin,pure_bind]
    ·have h1:cc.argTypes=(t:: ts).toArray:=by apply Array.ext';simpa using hts
     have h2:cc.args.map a.eval=(a.eval x:: xs.map a.eval).toArray:=by rw[hmap,hxs];simp
     rw[h1,h2];exact Vi hT ts (xs.map a.eval) hr' (bd H x (hargs x (by rw[hxs];simp)))
   ·exact absurd rfl hr
  case min=>
   refine fX H hd (m:=Builtin.min_ cc.argTypes o.type (cc.args.map a.eval)) ?_ (fun r hr'=>?_) hr
   ·simp only[execOp,ho,resolve,hcal,invoke,builtin,pure_bind]
   ·obtain⟨v,rest,he,hp⟩:=Dg (P:=P) (w:=w) _ _ (acC _) r _ hr' hvs;obtain⟨u,hu,hur⟩:=hp;exact⟨u,by rw[hmap];simp only[Builtin.min_];rw[he];simpa using hu,hur⟩
  case max=>
   refine fX H hd (m:=Builtin.max_ cc.argTypes o.type (cc.args.map a.eval)) ?_ (fun r hr'=>?_) hr
   ·simp only[execOp,ho,resolve,hcal,invoke,builtin,pure_bind]
   ·obtain⟨v,rest,he,hp⟩:=Dg (P:=P) (w:=w) _ _ (acC _) r _ hr' hvs;obtain⟨u,hu,hur⟩:=hp;exact⟨u,by rw[hmap];simp only[Builtin.max_];rw[he];simpa using hu,hur⟩
theorem YN(hT:TOK P cx.T)(H:FR c N U e h a w S β γ lam ω)(hd:∀t,o.dst=some t->t<N){one:Bool}{p:Nat}(ho:o.op= .load t (.tmp p))(hx:p<1000)(hr:aP e o.dst (U7 one (fR cx e o.dst t p)) h≠.fail):
  After P c N (UG U gid) (aP e o.dst (U7 one (fR cx e o.dst t p)) h) o a w:=by
 have hsh:dl (Shape e gid {} none) (fR cx e o.dst t p):=sB o.dst t p {};have hl:=fun hr=>C4 (gid:=gid) hT H hd ho hx hr;revert hr;generalize fR cx e o.dst t p=A at hsh hl;intro hr;cases A with
 |bad=>exact absurd rfl hr
 | stat u=>
  intro next Q hn hp
  obtain⟨r,h2,hz,hk⟩:=vY (c:=c) (U:=UG U gid) one h hd hsh;simp only[aP,U7,aG,ao]at hn;rw[hz]at hn;exact hl (by simp[aP,ao]) next Q (fun e' h' a' w' h1 h3 h4=>by
   cases h1;exact hn _ _ a' w' rfl (hk _ _ h3) h4) (fun pv h' v w' h1=>by cases h1)
 |thr v=>exact hl hr
 | dyn m sh=>
  intro next Q hn hp
  simp only[aP,U7,aG,ao]at hr hn hp hl;cases hm:m h with
  |fail=>rw[hm]at hr;exact absurd rfl hr
  |pan pv h1=>
   rw[hm]at hp hl;exact hl AI next Q (fun e' h' a' w' h1=>by cases h1) hp
  |ok v h1=>
   obtain⟨r,h2,hz,hk⟩:=vY (c:=c) (U:=UG U gid) one h1 hd (hsh v);rw[hm]at hn hl;simp only[hz]at hn;refine hl AI next Q (fun e' h' a' w' k1 k2 k3=>?_) (fun pv h' v w' k1=>by cases k1)
   cases k1;exact hn _ _ a' w' rfl (hk _ _ k2) k3
theorem NY(hT:TOK P cx.T)(hC:eh P cx.own cx.call)(H:FR c N U e h a w S β γ lam ω)(hd:∀t,o.dst=some t->t<N)(hU:∀g,gid<=g->g<gid+1000->¬U g)(ht:∀x∈o.op.operands.toList,∀t,x= .tmp t->t<1000)(hpN:∀p,KW (dw cx.ann.kinds p .L)=true->p<N)(hr:bT cx e gid o h≠.fail):After P c N (UG U gid) (bT cx e gid o h) o a w:=by
 cases ho:o.op with
 |move x=>grind [JB,Op.operands]
 |assign x=>exact JB H hd hU (.inr ho) (fun t hx=>ht x (by rw[ho];simp[Op.operands]) t hx)
 |pick k x y=>
  have h1:=fun t hx=>ht k (by rw[ho];simp[Op.operands]) t hx;have h2:=fun t hx=>ht x (by rw[ho];simp[Op.operands]) t hx;have h3:=fun t hx=>ht y (by rw[ho];simp[Op.operands]) t hx;unfold bT iK at hr |-;rw[ho]at hr |-;simp only at hr |-;refine fX H hd (m:=do pure (if <- asBool (a.eval k)then a.eval x else a.eval y)) ?_ (fun r hr'=>QU hr' (bd H k h1) (bd H x h2) (bd H y h3)) hr
  grind [execOp,bind_assoc]
 |alloc t=>exact LZ hT H hd hU ho hr
 |box t x=>grind [UI,Op.operands]
 |build t ps=>
  have hps:∀p∈ps.toList,∀t,p.2= .tmp t->t<1000:=fun p hp t hx=>ht p.2 (by grind [Op.operands]) t hx;unfold bT iK at hr |-;rw[ho]at hr |-;simp only at hr |-;exact fX H hd (m:=Instr.build t (ps.map fun p=>(p.1,a.eval p.2))) (by simp only[execOp,ho]) (fun r hr'=>Ew hT hr' (by simpa using uW H ps.toList hps)) hr
 | buildSlice t n ps=>
  have hps:∀p∈ps.toList,∀t,p.2= .tmp t->t<1000:=fun p hp t hx=>ht p.2 (by grind [Op.operands]) t hx;cases hha:bX cx.ann.ha o.dst with
  |false=>grind [zX]
  |true=>
   unfold bT iK at hr |-;rw[ho]at hr |-;simp only[hha,acD]at hr |-;exact Kk hT H hd ho hps hr
 | load t x=>
  unfold bT iK at hr |-;rw[ho]at hr |-;cases x with
  | tmp p=>
   have hp:=ht (.tmp p) (by rw[ho];simp[Op.operands]) p rfl;simp only at hr |-;cases hlm:kR cx.ann.lm o.dst with
   | some x=>
    obtain⟨m,r⟩:=x;rw[hlm]at hr;simp only at hr |-;cases hv:(e.get p).v with
    |loc B off=>rw[hv]at hr;exact absurd rfl hr
    | val av=>
     rw[hv]at hr;have e1:aP e o.dst (.dyn (iu cx.T m r t av) .ofV) h=aP e o.dst (fR { cx with ann:={ cx.ann with hl:=o.dst.toList } } e o.dst t p) h:=by
      unfold fR;rw[hv];cases hd':o.dst with
      |none=>rw[hd']at hlm;simp[kR]at hlm
      |some s=>
       rw[hd']at hr;have h1:bX [s] (some s)=true:=by simp[bX,dM]
       simp only[Option.toList,h1,acD,aP,Av.aG,iu]at hr |-
       grind
     grind [C4]
   |none=>
   rw[hlm]at hr;simp only at hr |-;cases hnl:bX cx.ann.nl o.dst&&mO (e.get p)with
   |true=>rw[hnl]at hr;exact absurd rfl hr
   |false=>
   rw[hnl]at hr;simp only[acO]at hr |-;cases hz:bX cx.ann.fz o.dst with
   |false=>grind [C4]
   |true=>
    rw[hz]at hr;simp only[acD]at hr |-;exact YN hT H hd ho hp hr
  |global g=>
   simp only at hr |-;exact fX H hd (m:=Instr.loadAt t (a.eval (.global g))) (by simp only[execOp,ho]) (fun r hr'=>C2 hT H.wf hr' (bd H (.global g) (fun t hx=>by cases hx))) hr
  |_=>exact absurd rfl hr
 | store t x y=>
  by_cases hsep:∃p,x= .tmp p/\zt cx p=true
  ·obtain⟨p,rfl,hs⟩:=hsep;have hcx:bT { cx with ann:={ cx.ann with sl1:=[],sl0:=[],lw:=[] } } e gid o h=bT cx e gid o h:=by
    unfold bT iK at hr |-;rw[ho]at hr |-;simp only at hr |-;cases hd':o.dst with
    |some d=>rfl
    | none=>
     rw[hd']at hr;simp only[hs,acD]at hr |-;have h0:zt { cx with ann:={ cx.ann with sl1:=[],sl0:=[],lw:=[] } } p=false:=rfl;have h1:dM ([]:List Nat) p=false:=rfl;simp only[h0,h1,acO,ae4];unfold BM at hr |-;unfold iW;cases hv:(e.get p).v with
     |loc B off=>rw[hv]at hr;exact absurd rfl hr
     | val av=>
      rw[hv]at hr;simp only[aP,Av.aG]at hr |-;cases av with
      |hp l off=>
       simp only[ud]at hr |-
       grind
      |_=>exact absurd rfl hr
   have:=Gy (cx:={ cx with ann:={ cx.ann with sl1:=[],sl0:=[],lw:=[] } }) hT H (fun _ _=>trivial) hU ho (fun t hx=>ht (.tmp p) (by rw[ho];simp[Op.operands]) t hx) (fun t hx=>ht y (by rw[ho];simp[Op.operands]) t hx) (fun p _ hp=>hpN p hp) (fun _ _=>rfl) qr
   grind
  exact Gy hT H (fun _ _=>trivial) hU ho (fun t hx=>ht x (by rw[ho];simp[Op.operands]) t hx) (fun t hx=>ht y (by rw[ho];simp[Op.operands]) t hx) (fun p _ hp=>hpN p hp) (fun p hx=>by
   grind) hr
 |nilCheck x=>grind [FO,Op.operands]
 |binOp op t x y u=>
  have h1:=fun t hx=>ht x (by rw[ho];simp[Op.operands]) t hx;have h2:=fun t hx=>ht y (by rw[ho];simp[Op.operands]) t hx;unfold bT iK at hr |-;rw[ho]at hr |-;simp only at hr |-;cases hlit:yA cx.T op t x y with
  |true=>rw[hlit]at hr;exact absurd rfl hr
  |false=>
  rw[hlit]at hr;simp only[acO]at hr |-;exact fX H hd (m:=do eqGuard op t x y (a.eval x) (a.eval y);Go.binOp op t (a.eval x) (a.eval y)) (by simp only[execOp,ho]) (fun r hr'=>UH hT x y hlit hr' (yY (bd H x h1)) (yY (bd H y h2))) hr
 |unOp op t x=>
  have h1:=fun t hx=>ht x (by rw[ho];simp[Op.operands]) t hx;unfold bT iK at hr |-;rw[ho]at hr |-;simp only at hr |-;exact fX H hd (m:=Op.unary op (a.eval x)) (by simp only[execOp,ho]) (fun r hr'=>ZG hr' (bd H x h1)) hr
 |convert s t x=>
  have h1:=fun t hx=>ht x (by rw[ho];simp[Op.operands]) t hx;unfold bT iK at hr |-;rw[ho]at hr |-;simp only at hr |-;exact fX H hd (m:=convert s t (a.eval x)) (by simp only[execOp,ho]) (fun r hr'=>PK hT hr' (bd H x h1)) hr
 |makeInterface t x=>
  have h1:=fun t hx=>ht x (by rw[ho];simp[Op.operands]) t hx;unfold bT iK at hr |-;rw[ho]at hr |-;simp only at hr |-;exact fX H hd (m:=Instr.makeInterface t (a.eval x)) (by simp only[execOp,ho]) (fun r hr'=>H5 hT hr' (bd H x h1)) hr
 |makeFunc f x y=>
  have h1:=tX H x.toList (fun z hz t hx=>ht z (by grind [Op.operands]) t hx);have h2:=tX H y.toList (fun z hz t hx=>ht z (by grind [Op.operands]) t hx);unfold bT iK at hr |-;rw[ho]at hr |-;simp only at hr |-;refine After.val (v:=.func f (x.map a.eval) (y.map a.eval)) (w':=w) (by simp[execOp,ho,Instr.makeFunc]) (aa0 ⟨S,β,γ,lam,ω,H.setV hd ?_⟩)
  grind [VR,Array]
 | makeSlice t x y=>
  have hx1:∀t,x= .tmp t->t<1000:=fun t hx=>ht x (by rw[ho];simp[Op.operands]) t hx;have hy1:∀t,y= .tmp t->t<1000:=fun t hx=>ht y (by rw[ho];simp[Op.operands]) t hx;cases hha:bX cx.ann.ha o.dst with
  |false=>grind [Dc]
  |true=>
   unfold bT iK at hr |-;rw[ho]at hr |-;simp only[hha,acD]at hr |-;exact NL hT H hd ho hx1 hy1 hr
 | slice t x lo hi mx=>
  cases hso:bX cx.ann.so o.dst with
  |true=>
   unfold bT iK at hr |-;rw[ho]at hr |-;simp only[hso,acD]at hr |-
   grind [UY,Op.operands]
  |false=>
   grind [Ov,Op.operands]
 |fieldAddr t x f=>grind [CV,Op.operands]
 |field t x f=>
  have h1:=fun t hx=>ht x (by rw[ho];simp[Op.operands]) t hx;unfold bT iK at hr |-;rw[ho]at hr |-;simp only at hr |-;exact fX H hd (m:=Instr.field t (a.eval x) f) (by simp only[execOp,ho]) (fun r hr'=>MS hT hr' (bd H x h1)) hr
 |indexAddr t x i=>grind [CY,Op.operands]
 |index t x i=>
  have h1:=fun t hx=>ht x (by rw[ho];simp[Op.operands]) t hx;have h2:=fun t hx=>ht i (by rw[ho];simp[Op.operands]) t hx;unfold bT iK at hr |-;rw[ho]at hr |-;simp only at hr |-;exact fX H hd (m:=Instr.index t (a.eval x) (a.eval i)) (by simp only[execOp,ho]) (fun r hr'=>Ff hT hr' (bd H x h1) (bd H i h2)) hr
 |extract x i=>
  have h1:=fun t hx=>ht x (by rw[ho];simp[Op.operands]) t hx;unfold bT iK at hr |-;rw[ho]at hr |-;simp only at hr |-;exact fX H hd (m:=Instr.extract (a.eval x) i) (by simp only[execOp,ho]) (fun r hr'=>HA hr' (bd H x h1)) hr
 |panic x=>
  have h1:=fun t hx=>ht x (by rw[ho];simp[Op.operands]) t hx;have hv:=bd H x h1;unfold bT iK at hr |-;rw[ho]at hr |-;simp only at hr |-;cases hq:opnd e x<;>rw[hq]at hr hv<;>(try exact absurd rfl hr);rename_i t v;intro next Q hn hp
  simp only[VR]at hv;obtain⟨y,hav,hy⟩:=hv;unfold Oper.wp;have hrun:(execOp a.eval o).run P w= .halt (.panic (.iface t y)) w:=by simp[execOp,ho,hav,Instr.panic]
  rw[hrun];exact hp (.iface t v) h (.iface t y) w rfl ⟨S,β,H.out,by simp only[VR];grind⟩
 |call cc=>
  unfold bT iK at hr |-
  grind [Pk]
 | makeMap t r=>
  unfold bT iK at hr |-;rw[ho]at hr |-;simp only at hr |-;cases r with
  |some r=>exact absurd rfl hr
  |none=>
   simp only[Option.isSome_none,acO];exact H3 H hd ho hr
 |lookup t x i ok=>
  have h1:=fun t hx=>ht x (by rw[ho];simp[Op.operands]) t hx;have h2:=fun t hx=>ht i (by rw[ho];simp[Op.operands]) t hx;unfold bT iK at hr |-
  grind [K5]
 |range t x=>
  have h1:=fun t hx=>ht x (by rw[ho];simp[Op.operands]) t hx;unfold bT iK at hr |-
  grind [Od]
 |entry x=>
  have h1:=fun t hx=>ht x (by rw[ho];simp[Op.operands]) t hx;unfold bT iK at hr |-
  grind [MI]
 |mapUpdate t m k x=>
  have h1:=fun t hx=>ht m (by rw[ho];simp[Op.operands]) t hx;have h2:=fun t hx=>ht k (by rw[ho];simp[Op.operands]) t hx;have h3:=fun t hx=>ht x (by rw[ho];simp[Op.operands]) t hx;unfold bT iK at hr |-
  grind [N9]
 |insert t m k x=>
  have h1:=fun t hx=>ht m (by rw[ho];simp[Op.operands]) t hx;have h2:=fun t hx=>ht k (by rw[ho];simp[Op.operands]) t hx;have h3:=fun t hx=>ht x (by rw[ho];simp[Op.operands]) t hx;unfold bT iK at hr |-
  grind [N9]
 |_=>unfold bT iK at hr;rw[ho]at hr;exact absurd rfl hr
end
def eT:Act1->M Upd
 |.bad=>gk
 |.stat u=>ao u
 |.dyn m sh=>aG m fun v=>ao (sh v)
 |.thr v=>lz v
def pD(c:AV)(want:Bool)(m:M Upd):M Upd:=match c with
 |.bool b=>bif b== want then m else ao (.ofV (.tup []))
 |.tup []=>ao (.ofV (.tup []))
 |_=>gk
def gG(cx:Cx)(base:Nat)(ops:Array Oper)(i:Nat)(e:Env):M Upd:=match ops[i]? with
 |none=>gk
 | some o=>match o.guard with
  |none=>eT (iK cx e ((base+i)*1000) o)
  |some (j,want)=>match dT ops j with
   |none=>gk
   |some t=>bif iy cx o then pD (e.av t) want (eT (ly (iK cx e ((base+i)*1000) o)))else gk
def stepG(cx:Cx)(base:Nat)(ops:Array Oper)(i:Nat)(e:Env):M Env:=aG (gG cx base ops i e) fun u=>ao (e.upd (dT ops i) u)
def bk(cx:Cx)(base:Nat)(ops:Array Oper):List Nat->Env->M Env
 |[],e=>ao e
 |i:: is,e=>aG (stepG cx base ops i e) (bk cx base ops is)
variable {A:Act1}{u:Upd}
section
omit [Dr]
theorem rm(e:Env)(d:Option Tmp)(A:Act1):aP e d A=aG (eT A) fun u=>ao (e.upd d u):=by
 cases A with
 |bad=>rfl
 |stat u=>rfl
 |dyn m sh=>grind [aP,eT,kG,aj]
 |thr v=>rfl
theorem qP{p:Upd->Prop}(h:dl p A){x y:Hp}(hr:eT A x= .ok u y):p u:=by
 cases A with
 |bad=>cases hr
 |stat v=>cases hr;exact h
 |dyn m sh=>
  simp only[eT,aG,ao]at hr;cases hm:m x<;>rw[hm]at hr<;>simp at hr;rw[<- hr.1];exact h _
 |thr v=>cases hr
theorem vC(A:Act1)(x:Hp):eT (ly A) x=(match eT A x with|.ok u y=>.ok (kA u) y|.pan v y=>.pan v y|.fail=>.fail):=by
 cases A with
 |bad=>rfl
 |stat v=>rfl
 |dyn m sh=>
  simp only[eT,ly,aG,ao];cases m x<;>rfl
 |thr v=>rfl
end
variable {i:Nat}{ss:Option Nat}
section
variable {P:Program} {cx:Cx} {c:Entry} {N:Nat} {e:Env} {h:Hp} {a:Act} {w:World} {ops:Array Oper} {base:Nat}
def UD(base:Nat)(D:List Nat):Nat->Prop:=fun g=>g<base*1000\/∃i∈D,(base+i)*1000<=g/\g<(base+i)*1000+1000
omit [Dr]in
theorem Ea{D:List Nat}(hi:i ∉ D):∀g,(base+i)*1000<=g->g<(base+i)*1000+1000->¬UD base D g:=by
 rintro g h1 h2 (h3|⟨j,hj,h4,h5⟩)
 all_goals grind
omit [Dr]in
theorem Cn{D:List Nat}:∀g,UG (UD base D) ((base+i)*1000) g->UD base (i:: D) g:=by
 rintro g ((h1|⟨j,hj,h2⟩)|h1)
 ·exact .inl h1
 ·exact .inr ⟨j,by simp[hj],h2⟩
 ·exact .inr ⟨i,AI,h1⟩
structure OpsOk (N:Nat) (cx:Cx) (ops:Array Oper):Prop where
 dst:∀(i:Nat)(o:Oper),ops[i]? = some o->∀t,o.dst=some t->t<N
 src:∀(i:Nat)(o:Oper),ops[i]? = some o->∀x∈o.op.operands.toList,∀t,x= .tmp t->t<1000
 kin:∀p,KW (dw cx.ann.kinds p .L)=true->p<N
omit [Dr]in
theorem KP{x:Array Value}{b:Bool}(h:x.getD t undef= .bool b):x[t]? = some (.bool b):=by
 rw[adQ]at h;cases hx:x[t]? with
 |none=>rw[hx]at h;cases h
 |some v=>grind
theorem LD{U:Nat->Prop}{gid:Nat}{f:Foot}{d:Option Tmp}(hs:Shape e gid f ss u)(hw:f.wl=false)(hdr:f.dr=false)(hU:∀g z,aQ e.al g=some z->g≠gid){a':Act}{w':World}(H:gz c N U (e.upd d u) h' a' w'):gz c N U (e.upd d (kA u)) h' a' w':=by
 obtain⟨S,β,γ,lam,ω,F⟩:=H;have h1:=hs.ls hw;have h2:=hs.lb hw;have h3:=hs.unlb hw;have h4:=hs.nodr hdr;have hget:∀t,(e.upd d (kA u)).get t=if d=some t then⟨u.ent.v,none⟩else e.get t:=fun t=>by rw[cO];rfl
 have hget':∀t,(e.upd d u).get t=if d=some t then u.ent else e.get t:=fun t=>by rw[cO,h1];rfl
 refine⟨S,β,γ,lam,ω,F.weak (fun t=>.inl ?_) (fun t g hg=>?_) (fun g z hz=>?_) (fun B n hB=>?_)⟩
 ·grind
 ·grind
 ·have hz':aQ e.al g=some z:=hz;show aQ (u.add++gK e.al u.drop) g=some z;rw[h4];have hne:=hU g z hz';have:∀l:List (Nat×Option Nat),(∀x∈l,x.1=gid)->aQ (l++gK e.al none) g=some z:=by
   intro l
   induction l with
   |nil=>intro _;exact hz'
   | cons x l ih=>
    intro hl;obtain⟨k,y⟩:=x;rw[ac1,dp,acE]
    ·grind
    ·have:=hl (k,y) AI
     grind
  exact this u.add (hs.add hw)
 ·show bb (pQ (fO e.lb u.unlb) u.lb) B=some n;rw[h2,h3];exact hB
theorem zE(hT:TOK P cx.T)(hC:eh P cx.own cx.call)(hO:OpsOk N cx ops){D:List Nat}(hi:i ∉ D)(H:gz c N (UD base D) e h a w)(hr:stepG cx base ops i e h≠.fail){K:Act->World->Prop}{Q:Exit->Act->World->Prop}(hn:∀e' h' a' w',stepG cx base ops i e h= .ok e' h'->gz c N (UD base (i:: D)) e' h' a' w'->a'.defers=a.defers->K a' w')(hp:∀pv h' v w',stepG cx base ops i e h= .pan pv h'->rO c pv h' v w'->Q (.panic [{ v,recovered:=false }]) a w'):wpOp P ops Q i K a w:=by
 obtain⟨S,β,γ,lam,ω,F⟩:=H;unfold stepG gG at hr hn hp;simp only[wpOp];cases ho:ops[i]? with
 |none=>rw[ho]at hr;exact absurd rfl hr
 | some o=>
  have hdst:dT ops i=o.dst:=by simp[dT,ho]
  rw[hdst,ho]at hr hn hp;simp only at hr hn hp |-;have hop:=fun(hr:bT cx e ((base+i)*1000) o h≠.fail)=>NY hT hC F (hO.dst i o ho) (Ea hi) (hO.src i o ho) hO.kin hr;cases hg:o.guard with
  |none=>
   rw[hg]at hr hn hp;simp only at hr hn hp;rw[<- rm]at hr hn hp;have hw:Region.wanted o (yielded ops a.tmps)=true:=by unfold Region.wanted;rw[hg]
   rw[acL hw];exact .inl (hop hr K Q (fun e' h' a' w' h1 h2 h3=>hn e' h' a' w' h1 (h2.wider Cn) h3) hp)
  | some g=>
   obtain⟨j,want⟩:=g;rw[hg]at hr hn hp;simp only at hr hn hp;have hwant:Region.wanted o (yielded ops a.tmps)=(yielded ops a.tmps j== some want):=by unfold Region.wanted;rw[hg]
   cases hdj:dT ops j with
   |none=>rw[hdj]at hr;exact absurd rfl hr
   | some t=>
    rw[hdj]at hr hn hp;simp only at hr hn hp;cases hpl:iy cx o with
    |false=>rw[hpl]at hr;exact absurd rfl hr
    |true=>
    rw[hpl]at hr hn hp;simp only[acD]at hr hn hp;have hdj':(ops[j]?).bind (·.dst)=some t:=hdj;have htN:t<N:=by
     cases hoj:ops[j]? with
     |none=>grind
     |some oj=>rw[hoj]at hdj';exact hO.dst j oj hoj t hdj'
    have hs:=F.slots t (by have:=F.tsz.2;omega);have hav:VR S β (e.av t) (a.tmps.getD t undef):=by
     simp only[Env.av,Ent.av];cases hv:(e.get t).v with
     |val av=>rw[hv]at hs;exact hs
     |loc B off=>simp[VR]
    have hskip:(∀e' h' a' w',(R.ok (e.upd o.dst (.ofV (.tup []))) h:R Env)= .ok e' h'->gz c N (UD base (i:: D)) e' h' a' w'->a'.defers=a.defers->K a' w')->K (a.put o.dst undef) w:=by
     intro hn;exact hn _ _ _ _ rfl ⟨S,β,γ,lam,ω,(F.setV (v:=undef) (hO.dst i o ho) (by simp only[VR];exact⟨[],rfl,by simp[be]⟩)).wider (fun g hg=>Cn g (.inl hg))⟩ (put_defers a o.dst undef)
    cases hq:e.av t with
    | bool b=>
     rw[hq]at hr hn hp hav;simp only[VR]at hav;have hy:yielded ops a.tmps j=some b:=by
      unfold yielded;rw[hdj'];simp only[ad7,KP hav]
     rw[hwant,hy];cases hbw:(b== want)with
     | true=>
      simp only[pD,hbw,acD]at hr hn hp;have:b=want:=by simpa using hbw
      subst this;rw[acL AI];simp only[iy,acB,ade]at hpl;simp only[aG,vC,ao]at hr hn hp;have hact:eT (iK cx e ((base+i)*1000) o) h≠.fail:=by
       intro hf;rw[hf]at hr;exact hr rfl
      refine .inl (hop ?_ K Q (fun e' h' a' w' h1 h2 h3=>?_) (fun pv h' v w' h1 h2=>?_))
      ·unfold bT;rw[rm]
       grind [aG,ao]
      ·unfold bT at h1;rw[rm]at h1;simp only[aG,ao]at h1;cases hx:eT (iK cx e ((base+i)*1000) o) h with
       |fail=>grind
       |pan pv hh=>grind
       |ok u hh=>
        rw[hx]at h1 hn;simp only[R.ok.injEq]at h1;obtain⟨rfl,rfl⟩:=h1;have hsh:=qP (rf cx e ((base+i)*1000) o) hx;exact hn _ _ a' w' rfl ((LD hsh hpl.1 hpl.2 (fun g z hz hgg=>Ea hi g WD WD (F.used.2 g z hz)) h2).wider Cn) h3
      ·unfold bT at h1;rw[rm]at h1;simp only[aG,ao]at h1
       grind
     |false=>
      simp only[pD,hbw,acO,aj]at hn;have:(some b== some want)=false:=by simpa using hbw
      rw[acE (by rw[this];simp)];exact hskip hn
    | tup vs=>
     rw[hq]at hr hn hp hav;cases vs with
     | nil=>
      simp only[pD,aj]at hn;simp only[VR,be]at hav;obtain⟨vs,hav,rfl⟩:=hav;have hy:yielded ops a.tmps j=none:=by
       unfold yielded;rw[hdj'];simp only[ad7];rw[adQ]at hav;cases hx:a.tmps[t]? with
       |none=>rfl
       |some v=>grind
      rw[hwant,hy,acE AI];exact hskip hn
     |cons v vs=>exact absurd rfl hr
    |_=>rw[hq]at hr;exact absurd rfl hr
def UR(base n:Nat):Nat->Prop:=fun g=>g<(base+n)*1000
omit [Dr]in
theorem Ry{D:List Nat}{n:Nat}(h:∀i∈D,i<n):∀g,UD base D g->UR base n g:=by
 rintro g (h1|⟨i,hi,h2,h3⟩)
 ·exact Nat.lt_of_lt_of_le h1 (ac4 _ WD)
 ·have h4:(base+i)*1000+1000<=(base+n)*1000:=by
   have:=h i hi
   rw[show (base+i)*1000+1000=(base+i+1)*1000 by grind];exact ac4 _ WD
  exact Nat.lt_of_lt_of_le h3 h4
theorem BX(hT:TOK P cx.T)(hC:eh P cx.own cx.call)(hO:OpsOk N cx ops){Q:Exit->Act->World->Prop}:∀(l:List Nat)(D:List Nat)(e:Env)(h:Hp)(a:Act)(w:World),l.Nodup->(∀i∈l,i ∉ D)->
  gz c N (UD base D) e h a w->bk cx base ops l e h≠.fail->
  (∀e' h' a' w',bk cx base ops l e h= .ok e' h'->gz c N (UD base (l.reverse++D)) e' h' a' w'->a'.defers=a.defers->Q .normal a' w')->
  (∀pv h' v w' a',bk cx base ops l e h= .pan pv h'->rO c pv h' v w'->a'.defers=a.defers->Q (.panic [{ v,recovered:=false }]) a' w')->wpOps P ops Q l a w
 |[],D,e,h,a,w,_,_,H,_,hn,_=>by
  simp only[wpOps];exact hn e h a w rfl (by simpa using H) rfl
 | i:: l,D,e,h,a,w,hnd,hdis,H,hr,hn,hp=>by
  simp only[bk,aG]at hr hn hp;have hnd':=ad1.1 hnd;rw[wpOps_cons];refine zE hT hC hO (hdis i AI) H (fun hf=>qr) (fun e' h' a' w' hst hs hdf=>?_) (fun pv h' v w' hst hps=>?_)
  ·rw[hst]at hr hn hp;simp only at hr hn hp;refine BX hT hC hO l (i:: D) e' h' a' w' hnd'.2 (fun j hj=>?_) hs hr (fun e2 h2 a2 w2 h1 h3 h4=>hn e2 h2 a2 w2 h1 (by simpa using h3) (h4.trans hdf)) (fun pv h2 v w2 a2 h1 h3 h4=>hp pv h2 v w2 a2 h1 h3 (h4.trans hdf))
   grind
  grind
end
def bK{α:Type}(m:M α):Prop:=∃o,m=bJ o
def fA{α:Type}(m:M α):Prop:=∀h,m h= .fail\/∃v,m h= .ok v h
def fZ{α:Type}(m:M α):Prop:=∀h v h',m h≠.pan v h'
variable {α:Type}
section
omit [Dr]
theorem bK.read{m:M α}(h:bK m):fA m:=by
 obtain⟨o,rfl⟩:=h;intro h;cases o with
 |none=>exact .inl rfl
 |some v=>exact .inr ⟨v,rfl⟩
theorem fA.stay{m:M α}(g:fA m):fZ m:=by
 intro h v h' hh;rcases g h with g|⟨x,g⟩<;>rw[g]at hh<;>cases hh
theorem bK.bnd{β:Type}{m:M α}(h:bK m)(f:α->β):bK (aG m fun v=>ao (f v)):=by
 obtain⟨o,rfl⟩:=h;cases o with
 |none=>exact⟨none,rfl⟩
 |some v=>exact⟨some (f v),rfl⟩
theorem fA.bnd{β:Type}{m:M α}(g:fA m)(f:α->β):fA (aG m fun v=>ao (f v)):=by
 intro h;simp only[Av.aG,ao];rcases g h with g|⟨x,g⟩<;>rw[g]
 all_goals grind
theorem fZ.bnd{β:Type}{m:M α}(g:fZ m)(f:α->β):fZ (aG m fun v=>ao (f v)):=by
 intro h v h' hh;simp only[Av.aG,ao]at hh;cases hm:m h<;>rw[hm]at hh<;>simp at hh;exact g _ _ _ hm
theorem bK.lft(o:Option α):bK (bJ o):=⟨o,rfl⟩
theorem bK.pure(a:α):bK (ao a):=⟨some a,rfl⟩
theorem bK.fail:bK (gk:M α):=⟨none,rfl⟩
end
def pK(m:M α):Prop:=∀h t v,m h= .ok v h->m (h++t)= .ok v (h++t)
def D9{α:Type}(m:M α):Prop:=∀h v h',m h= .ok v h'->∃t,h'=h++t
section
omit [Dr]
theorem bK.app{m:M α}(h:bK m):pK m:=by
 obtain⟨o,rfl⟩:=h;intro h t v hh;cases o with
 |none=>cases hh
 |some x=>cases hh;rfl
theorem bK.nw{m:M α}(h:bK m):D9 m:=by
 obtain⟨o,rfl⟩:=h;intro h v h' hh;cases o with
 |none=>cases hh
 |some x=>cases hh;simp_all
theorem pK.bnd{β:Type}{m:M α}(g:pK m/\fA m)(f:α->β):pK (aG m fun v=>ao (f v))/\fA (aG m fun v=>ao (f v)):=by
 refine⟨fun h t v hh=>?_,g.2.bnd f⟩;simp only[Av.aG,ao]at hh |-;rcases g.2 h with k|⟨x,k⟩
 ·grind
 ·rw[k]at hh;cases hh;rw[g.1 h t x k]
theorem D9.bnd{β:Type}{m:M α}(g:D9 m)(f:α->β):D9 (aG m fun v=>ao (f v)):=by
 intro h v h' hh;simp only[Av.aG,ao]at hh;cases hm:m h<;>rw[hm]at hh<;>simp at hh;obtain⟨t,ht⟩:=g _ _ _ hm
 grind
end
def cE(p:∀ {α:Type},M α->Prop):Act1->Prop
 |.dyn m _=>p m
 |.thr _=>False
 |_=>True
structure IsoPure (cx:Cx):Prop where
 iso:∀f args,cx.iso f=true->bK (cx.call f args)
 nw:∀f args,cx.nw f=true->D9 (cx.call f args)
section
variable {cx:Cx} {e:Env} {gid:Nat} {o:Oper}
section
omit [Dr]
theorem cE.cond{p:∀ {α:Type},M α->Prop}{b:Bool}{x y:Act1}(h1:b=true->cE p x)(h2:b=false->cE p y):cE p (bif b then x else y):=by
 grind
theorem cE.lft(o:Option AV)(sh:AV->Upd):cE bK (.dyn (bJ o) sh):=bK.lft o
theorem sy(T:TT)(t:TypeId)(x:AV):fA (bM T t x):=by
 have key:∀x,fA (fun h:Hp=>(match ay T t x with|some v=>R.ok v h|none=>.fail)):=by
  intro x h;cases hq:ay T t x with
  |none=>exact .inl rfl
  |some v=>grind
 cases x with
 |hp l off=>
  intro h;simp only[bM]
  grind
 |_=>exact key _
theorem wE(T:TT)(t:TypeId)(x y:AV):fZ (cG T t x y):=by
 intro h v h' hh;unfold cG at hh
 grind
theorem EE(T:TT)(t:TypeId)(x:AV):fZ (CH T t x):=fun h v h' hh=>by cases hh
theorem BH(cs:List AV):fZ (newH cs):=by
 intro h v h' hh
 grind [newH]
theorem K8(t:Nat)(cs:List AV):fZ (QI t cs):=fun h v h' hh=>by cases hh
theorem Di:fZ jN:=by
 intro h v h' hh;cases hh
theorem HV(T:TT)(t:TypeId)(x k:AV)(ok:Bool):fA (iO T t x k ok):=by
 intro h;unfold iO
 grind
theorem Kv{h s:Hp}{x:AV}{es:List AV}(hh:mE h x=some es):mE (h++s) x=some es:=by
 unfold mE at hh |-
 grind
theorem K3(T:TT)(t:TypeId)(x k:AV)(ok:Bool):pK (iO T t x k ok):=by
 intro h s v hh;unfold iO at hh |-;cases hs:mE h x with
 |none=>grind
 |some es=>
  rw[hs]at hh;rw[Kv hs];simp only at hh |-;cases ha:pF T t es k ok with
  |none=>grind
  |some u=>grind
theorem F6(T:TT)(t:TypeId)(x:AV):fZ (u4 T t x):=by
 intro h v h' hh;unfold u4 at hh
 grind
theorem EM(x:AV):fA (oU x):=by
 intro h
 grind [rV]
theorem Ht(x:AV):pK (oU x):=by
 intro h s v hh;obtain⟨l,m,n,p,cu,es,k,u,rfl,h1,h2,h3,h4,h5⟩:=rV (x:=x) (h:=h) (by rw[hh];simp);rw[h5]at hh;cases hh;unfold oU
 grind
theorem BP(T:TT)(t:TypeId)(x k y:AV):fZ (tZ T t x k y):=by
 intro h v h' hh;unfold tZ at hh
 grind
theorem AG(T:TT)(t:TypeId)(z:Bool)(x y:AV):fZ (appH T t z x y):=by
 intro h v h' hh;unfold appH at hh;have hc:∀ {b:Bool} {r s:R AV},(∀v h',r≠.pan v h')->(∀v h',s≠.pan v h')->(bif b then r else s)≠.pan v h':=by
  intro b r s h1 h2;cases b
  ·exact h2 _ _
  ·exact h1 _ _
 split at hh
 ·cases hh
 ·split at hh
  all_goals grind
theorem Nn(m r:Nat){x:M AV}(h:D9 x):D9 (lG m r x):=by
 intro hp v h' hh;unfold lG at hh;cases hx:x hp with
 |fail=>grind
 |pan v h1=>grind
 |ok v1 h1=>
  rw[hx]at hh;simp only at hh;cases hk:rF m r hp h1 with
  |false=>grind
  |true=>rw[hk]at hh;cases hh;exact h _ _ _ hx
theorem o7(T:TT)(m r:Nat)(t:TypeId)(x:AV):fA (iu T m r t x):=by
 intro h;unfold iu;split
 ·rename_i l off ti ht;cases hb:Nat.beq (off % m) r&&!ti.agg with
  |false=>exact .inl rfl
  |true=>exact sy T t (.hp l off) h
 grind
theorem u7(T:TT)(b:Bool)(t:TypeId)(x y:AV):fZ (ud T b t x y):=by
 intro h v h' hh;unfold ud at hh;split at hh
 ·rename_i l off;cases hb:Nat.beq (l+1) h.length== b with
  |false=>grind
  |true=>rw[hb]at hh;exact wE _ _ _ _ h v h' hh
 ·cases hh
theorem GV(T:TT)(t:TypeId)(z:Bool)(x y:AV):fZ (Ej T t z x y):=by
 intro h v h' hh;unfold Ej at hh;split at hh
 ·exact AG _ _ _ _ _ h v h' hh
 ·cases hh
theorem Kc(T:TT)(t:TypeId)(x y:AV):fZ (O9 T t x y):=fun h v h' hh=>by cases hh
theorem Es(T:TT)(t n:Nat)(ps:List (Nat×AV)):fZ (Cz T t n ps):=fun h v h' hh=>by cases hh
theorem HZ(T:TT)(t:Nat)(x y:AV):fZ (Jy T t x y):=fun h v h' hh=>by cases hh
theorem BF(told:Bool)(x:Operand):cE bK (mS told e gid x):=by
 unfold mS;split
 ·trivial
 ·exact cE.cond (fun _=>cE.cond (fun _=>trivial) (fun _=>trivial)) (fun _=>trivial)
theorem HT(d:Option Tmp)(t:TypeId)(p:Nat):cE fA (fR cx e d t p)/\(bX cx.ann.hl d=false->cE bK (fR cx e d t p)):=by
 unfold fR;split
 ·split
  ·exact⟨trivial,fun _=>trivial⟩
  ·constructor
   ·exact cE.cond (fun _=>cE.cond (fun _=>trivial) (fun _=>cE.cond (fun _=>trivial) (fun _=>trivial))) (fun _=>trivial)
   ·exact fun _=>cE.cond (fun _=>cE.cond (fun _=>trivial) (fun _=>cE.cond (fun _=>trivial) (fun _=>trivial))) (fun _=>trivial)
 ·cases hm:bX cx.ann.hl d with
  |true=>exact⟨sy _ _ _,fun h=>by cases h⟩
  |false=>exact⟨(bK.lft _).read,fun _=>bK.lft _⟩
theorem Bu(T:TT)(t:TypeId)(x:AV):pK (bM T t x):=by
 intro h s v hh;have hk:∀y,(match ay T t y with|some v=>R.ok v h|none=>.fail)=R.ok v h->(match ay T t y with|some v=>R.ok v (h++s)|none=>.fail)=R.ok v (h++s):=by
  intro y hy;cases hq:ay T t y with
  |none=>grind
  |some u=>grind
 unfold bM at hh |-;cases x with
 | hp l off=>
  simp only at hh |-;cases hT:T t with
  |none=>grind
  | some ti=>
   rw[hT]at hh;cases hl:h[l]? with
   |none=>grind
   |some cs=>
    grind
 |_=>exact hk _ hh
theorem FC(T:TT)(m r:Nat)(t:TypeId)(x:AV):pK (iu T m r t x):=by
 intro h s v hh;unfold iu at hh |-;split at hh
 ·rename_i l off ti ht;cases hb:Nat.beq (off % m) r&&!ti.agg with
  |false=>grind
  |true=>
   rw[hb]at hh;simp only[acD]at hh |-;exact Bu T t (.hp l off) h s v hh
 ·cases hh
theorem NC(d:Option Tmp)(t:TypeId)(p:Nat):cE (fun m=>pK m/\fA m) (fR cx e d t p):=by
 unfold fR;split
 ·split
  ·trivial
  ·exact cE.cond (fun _=>cE.cond (fun _=>trivial) (fun _=>cE.cond (fun _=>trivial) (fun _=>trivial))) (fun _=>trivial)
 ·cases hm:bX cx.ann.hl d with
  |true=>exact⟨Bu _ _ _,sy _ _ _⟩
  |false=>exact⟨(bK.lft _).app,(bK.lft _).read⟩
theorem M3{one:Bool}(h:cE fZ A):cE fZ (U7 one A):=by
 have key:∀(v:AV)(x:Hp)(p:AV)(h':Hp),(bif one then tw v else Jm v) x≠.pan p h':=by
  intro v x p h' hh;cases one with
  |false=>cases hh
  |true=>
   simp only[acD]at hh;unfold tw at hh;split at hh
   ·cases hh
   ·split at hh<;>cases hh
   ·cases hh
 cases A with
 |bad=>trivial
 |stat u=>exact fun x v h' hh=>key _ _ _ _ hh
 |dyn m sh=>
  intro x v h' hh;simp only[Av.aG]at hh;cases hm:m x with
  |ok y z=>rw[hm]at hh;exact key _ _ _ _ hh
  |pan y z=>exact h _ _ _ hm
  |fail=>rw[hm]at hh;cases hh
 |thr v=>exact h.elim
theorem HC(t p i:Nat):cE bK (l9 cx e t p i):=by
 unfold l9;split
 ·split
  ·trivial
  ·split
   ·trivial
   ·split
    ·trivial
    ·exact cE.cond (fun _=>trivial) (fun _=>trivial)
 ·exact bK.lft _
theorem HL(t p:Nat)(i:Operand):cE bK (fI cx e t p i):=by
 unfold fI;split
 ·split
  ·split
   ·split
    ·trivial
    ·exact cE.cond (p:=bK) (fun _=>trivial) (fun _=>trivial)
   ·trivial
  ·trivial
 ·exact bK.lft _
theorem ID(t p:Nat)(y:Operand):cE fZ (iW cx e gid t p y):=by
 have hl:∀o:Option AV,fZ (Av.bJ o):=fun o=>(bK.lft o).read.stay;unfold iW;split
 ·split
  ·trivial
  ·refine cE.cond (fun _=>cE.cond (fun _=>cE.cond (fun _=>hl _) (fun _=>trivial)) (fun _=>cE.cond (fun _=>hl _) (fun _=>cE.cond (fun _=>?_) (fun _=>trivial)))) (fun _=>trivial);split
   ·split
    ·exact hl _
    ·trivial
   ·exact cE.cond (fun _=>trivial) (fun _=>hl _)
 ·exact wE _ _ _ _
theorem IA(t p:Nat)(y:Operand)(hl:mO (e.get p)=true):cE bK (iW cx e gid t p y):=by
 have hl':∀o:Option AV,bK (Av.bJ o):=fun o=>bK.lft o;unfold iW;cases hv:(e.get p).v with
 |val a=>simp[mO,hv]at hl
 | loc B off=>
  simp only;split
  ·trivial
  ·refine cE.cond (fun _=>cE.cond (fun _=>cE.cond (fun _=>hl' _) (fun _=>trivial)) (fun _=>cE.cond (fun _=>hl' _) (fun _=>cE.cond (fun _=>?_) (fun _=>trivial)))) (fun _=>trivial);split
   ·split
    ·exact hl' _
    ·trivial
   ·exact cE.cond (fun _=>trivial) (fun _=>hl' _)
theorem pU(s t:Nat):cE fZ (gq cx e gid s t)/\(dw cx.ann.kinds s .L≠.H->dw cx.ann.kinds s .L≠.B->cE bK (gq cx e gid s t)):=by
 unfold gq;split
 ·exact⟨trivial,fun _ _=>trivial⟩
 ·cases hk:dw cx.ann.kinds s .L with
  |F=>exact⟨trivial,fun _ _=>trivial⟩
  |H=>exact⟨BH _,fun h=>absurd rfl h⟩
  |B=>exact⟨K8 _ _,fun _ h=>absurd rfl h⟩
  |L=>exact⟨cE.cond (fun _=>trivial) (fun _=>trivial),fun _ _=>cE.cond (fun _=>trivial) (fun _=>trivial)⟩
  |S=>exact⟨cE.cond (fun _=>trivial) (fun _=>trivial),fun _ _=>cE.cond (fun _=>trivial) (fun _=>trivial)⟩
theorem AM(s t:Nat)(x:Operand):cE fZ (qB cx e s t x)/\(dw cx.ann.kinds s .F≠.H->cE bK (qB cx e s t x)):=by
 have hl:∀o:Option AV,fZ (Av.bJ o):=fun o=>(bK.lft o).read.stay;unfold qB;cases hk:dw cx.ann.kinds s .F with
 |F=>exact⟨trivial,fun _=>trivial⟩
 |H=>exact⟨BH _,fun h=>absurd rfl h⟩
 |B=>exact⟨trivial,fun _=>trivial⟩
 |L=>
  simp only;split
  ·exact⟨trivial,fun _=>trivial⟩
  ·exact⟨cE.cond (fun _=>hl _) (fun _=>trivial),fun _=>cE.cond (fun _=>bK.lft _) (fun _=>trivial)⟩
 |S=>
  simp only;split
  ·exact⟨trivial,fun _=>trivial⟩
  ·exact⟨cE.cond (fun _=>hl _) (fun _=>trivial),fun _=>cE.cond (fun _=>bK.lft _) (fun _=>trivial)⟩
end
structure Class (f:Foot) (A:Act1):Prop where
 stay:f.piv=false->cE fZ A
 read:f.wh=false->cE fA A
 pure:f.wh=false->f.rh=false->cE bK A
 app:f.wh=false->cE (fun m=>pK m/\fA m) A
 nw:f.nw=true->cE D9 A
section
omit [Dr]
theorem cE.imp{p q:∀ {α:Type},M α->Prop}(hpq:∀ {α:Type} (m:M α),p m->q m)(h:cE p A):cE q A:=by
 cases A<;>first|trivial|exact hpq _ h|exact h
theorem Class.of_pure{f:Foot}(h:cE bK A):Class f A:=
 ⟨fun _=>h.imp fun _ g=>g.read.stay,fun _=>h.imp fun _ g=>g.read,fun _ _=>h,fun _=>h.imp fun _ g=>⟨g.app,g.read⟩,fun _=>h.imp fun _ g=>g.nw⟩
theorem pK.nw{m:M α}(h:fA m):D9 m:=fun x v h' hh=>by
 rcases h x with g|⟨u,g⟩
 all_goals simp_all
theorem Class.of_app{f:Foot}(_hw:f.wh=false)(hr:f.rh=true)(h:cE (fun m=>pK m/\fA m) A):Class f A:=
 ⟨fun _=>h.imp fun _ g=>g.2.stay,fun _=>h.imp fun _ g=>g.2,fun _ h=>qr,fun _=>h,fun _=>h.imp fun _ g=>pK.nw g.2⟩
theorem AH(T:TT)(t:TypeId)(x y:AV):fA (El T t x y):=by
 intro h;unfold El
 grind
theorem Ox{h s:Hp}{y:AV}{es:List AV}(hh:vd h y=some es):vd (h++s) y=some es:=by
 unfold vd at hh |-
 grind
theorem Em(T:TT)(t:TypeId)(x y:AV):pK (El T t x y):=by
 intro h s v hh;unfold El at hh |-;cases hs:vd h y with
 |none=>grind
 |some es=>
  rw[hs]at hh;rw[Ox hs];simp only at hh |-;cases ha:dL T t x (.sl es)with
  |none=>grind
  |some u=>grind
theorem Class.of_stay{f:Foot}(hw:f.wh=true)(hn:f.nw=false)(h:cE fZ A):Class f A:=
 ⟨fun _=>h,fun h=>qr,fun h=>qr,fun h=>qr,fun h=>qr⟩
theorem Class.of_piv{f:Foot}(hw:f.wh=true)(h:f.piv=true)(hn:f.nw=true->cE D9 A):Class f A:=
 ⟨fun h'=>qr,fun h=>qr,fun h=>qr,fun h=>qr,hn⟩
theorem Hc(hI:IsoPure cx){c:Call}(ho:o.op= .call c):Class (aw cx o) (jg cx e gid o c):=by
 unfold jg;cases hc:c.callee with
 |invoke r m=>exact .of_pure trivial
 | value x=>
  cases x with
  | func f=>
   simp only;cases hfz:bX cx.ann.fz o.dst with
   | true=>
    simp only[acD];cases hq:!(cx.iso f)&&(cx.own f).isNone with
    |false=>exact .of_pure trivial
    |true=>
     simp only[acB,ade]at hq;exact .of_piv (by simp_all[aw]) (by simp_all[aw]) fun hn=>by grind [aw]
   |false=>
   simp only[acO];cases hcm:kR cx.ann.cm o.dst with
   | some x=>
    obtain⟨m,r⟩:=x;simp only;cases hq:!(cx.iso f)&&(cx.own f).isNone with
    |false=>exact .of_pure trivial
    |true=>
     simp only[acB,ade]at hq;exact .of_piv (by simp_all[aw]) (by simp_all[aw]) fun hn=>Nn m r (hI.nw f _ (by simp_all[aw]))
   |none=>
   simp only;cases hi:cx.iso f with
   |true=>exact .of_pure (hI.iso f _ hi)
   |false=>exact .of_piv (by simp_all[aw]) (by simp_all[aw]) fun hn=>hI.nw f _ (by simp_all[aw])
  |_=>exact .of_piv (by unfold aw;grind) (by unfold aw;grind) fun hn=>by grind [aw]
 | builtin b=>
  cases b<;>simp only<;>(try exact .of_pure trivial)
  case clear=>
   have hw:(aw cx o).wh=true/\(aw cx o).nw=false:=by unfold aw;rw[ho];simp only[hc];exact⟨trivial,trivial⟩
   split
   ·exact .of_stay hw.1 hw.2 (EE _ _ _)
   ·exact .of_pure trivial
  case append=>
   split
   ·cases hu:lx cx.T _ with
    |false=>exact .of_pure trivial
    | true=>
     simp only[adb,acO];cases hha:bX cx.ann.ha o.dst with
     | true=>exact .of_stay (by simp_all[aw]) (by simp_all[aw]) (by
       cases bX cx.ann.hb o.dst with
       |true=>simp only[acD];exact Kc _ _ _ _
       |false=>
        cases bX cx.ann.hl o.dst with
        |true=>exact GV _ _ _ _ _
        |false=>exact AG _ _ _ _ _)
     | false=>
      simp only[acO];cases hhl:bX cx.ann.hl o.dst with
      | true=>
       refine .of_app (by simp_all[aw]) (by simp_all[aw]) ?_;simp only[acD];refine cE.cond (fun _=>⟨Em _ _ _ _,AH _ _ _ _⟩) (fun _=>?_);split
       ·split
        ·trivial
        ·split
         ·trivial
         ·exact cE.cond (fun _=>⟨Em _ _ _ _,AH _ _ _ _⟩) (fun _=>trivial)
       ·trivial
      | false=>
       refine .of_pure ?_;simp only[acO];refine cE.cond (fun _=>bK.lft _) (fun _=>?_);split
       ·split
        ·trivial
        ·split
         ·trivial
         ·exact cE.cond (fun _=>bK.lft _) (fun _=>trivial)
       ·trivial
   ·exact .of_pure trivial
  case len=>
   split
   ·exact .of_pure (bK.lft _)
   ·exact .of_pure trivial
  case min=>exact .of_pure (bK.lft _)
  case max=>exact .of_pure (bK.lft _)
theorem iv(hI:IsoPure cx)(e:Env)(gid:Nat)(o:Oper):Class (aw cx o) (iK cx e gid o):=by
 unfold iK;cases ho:o.op<;>simp only<;>(try exact .of_pure (bK.lft _))<;>(try exact .of_pure trivial)
 case binOp=>exact .of_pure (cE.cond (fun _=>trivial) fun _=>bK.lft _)
 case buildSlice t n ps=>
  cases hha:bX cx.ann.ha o.dst with
  |true=>exact .of_stay (by simp_all[aw]) (by simp_all[aw]) (Es _ _ _ _)
  |false=>exact .of_pure (bK.lft _)
 case makeSlice t x y=>
  cases hha:bX cx.ann.ha o.dst with
  |true=>exact .of_stay (by simp_all[aw]) (by simp_all[aw]) (HZ _ _ _ _)
  |false=>exact .of_pure (bK.lft _)
 case move x=>exact .of_pure (BF _ x)
 case assign x=>exact .of_pure (BF _ x)
 case box t x=>
  cases hd:o.dst with
  |none=>exact .of_pure trivial
  |some s=>
   cases hk:dw cx.ann.kinds s .F with
   |H=>exact .of_stay (by grind [aw]) (by grind [aw]) (AM s t x).1
   |_=>exact .of_pure ((AM s t x).2 (by rw[hk];simp))
 case alloc t=>
  cases hd:o.dst with
  |none=>exact .of_pure trivial
  |some s=>
   cases hk:dw cx.ann.kinds s .L with
   |H=>exact .of_stay (by grind [aw]) (by grind [aw]) (pU s t).1
   |B=>exact .of_stay (by grind [aw]) (by grind [aw]) (pU s t).1
   |_=>exact .of_pure ((pU s t).2 (by rw[hk];simp) (by rw[hk];simp))
 case load t x=>
  cases x with
  | tmp p=>
   have h:=HT (cx:=cx) (e:=e) o.dst t p;simp only;cases hlm:kR cx.ann.lm o.dst with
   |some x=>
    obtain⟨m,r⟩:=x;simp only;refine .of_app (by unfold aw;grind) (by unfold aw;grind) ?_;split
    ·trivial
    ·exact⟨FC _ _ _ _ _,o7 _ _ _ _ _⟩
   |none=>
   simp only;cases hnl:bX cx.ann.nl o.dst&&mO (e.get p)with
   |true=>exact .of_pure trivial
   |false=>
   simp only[acO];cases hz:bX cx.ann.fz o.dst with
   |true=>exact .of_stay (by grind [aw]) (by unfold aw;grind) (M3 (h.1.imp fun _ g=>g.stay))
   |false=>exact⟨fun _=>h.1.imp fun _ g=>g.stay,fun _=>h.1,fun _ hr=>h.2 (by grind [aw]),fun _=>NC o.dst t p,fun hn=>by grind [aw]⟩
  |global g=>exact .of_pure (bK.lft _)
  |_=>exact .of_pure trivial
 case store t x y=>
  cases x with
  | tmp p=>
   cases hd:o.dst with
   |some d=>exact .of_pure trivial
   | none=>
    simp only;cases hs:zt cx p with
    |true=>
     refine .of_stay (by simp_all[aw]) (by simp_all[aw]) ?_;simp only[acD];unfold BM;split
     ·trivial
     ·exact u7 _ _ _ _ _
    |false=>
    simp only[acO];cases hlw:dM cx.ann.lw p with
    |false=>exact .of_stay (by unfold aw;grind) (by simp_all[aw]) (by simp_all[ID])
    |true=>
     cases hlo:mO (e.get p)with
     |false=>exact .of_pure trivial
     |true=>exact .of_pure (by simp_all[IA])
  |_=>exact .of_pure trivial
 case nilCheck x=>
  cases x with
  |tmp p=>
   simp only;split
   ·exact .of_pure trivial
   ·exact .of_pure (bK.lft _)
  |_=>exact .of_pure trivial
 case fieldAddr t x i=>cases x<;>first|exact .of_pure (HC _ _ _)|exact .of_pure trivial
 case indexAddr t x i=>cases x<;>first|exact .of_pure (HL _ _ _)|exact .of_pure (bK.lft _)|exact .of_pure trivial
 case slice t x lo hi mx=>
  refine .of_pure (cE.cond (fun _=>?_) fun _=>bK.lft _);unfold tV;split
  ·split
   ·trivial
   ·split
    ·exact cE.cond (fun _=>bK.lft _) fun _=>trivial
    ·trivial
  ·trivial
 case makeMap t r=>exact .of_stay (by unfold aw;rw[ho]) (by unfold aw;rw[ho]) (cE.cond (fun _=>trivial) fun _=>Di)
 case lookup t x i ok=>exact .of_app (by unfold aw;rw[ho]) (by unfold aw;rw[ho]) ⟨K3 _ _ _ _ _,HV _ _ _ _ _⟩
 case mapUpdate t m k x=>exact .of_stay (by unfold aw;rw[ho]) (by unfold aw;rw[ho]) (by unfold qC;split;exact BP _ _ _ _ _;trivial)
 case insert t m k x=>exact .of_stay (by unfold aw;rw[ho]) (by unfold aw;rw[ho]) (by unfold qC;split;exact BP _ _ _ _ _;trivial)
 case range t x=>exact .of_stay (by unfold aw;rw[ho]) (by unfold aw;rw[ho]) (F6 _ _ _)
 case entry x=>exact .of_app (by unfold aw;rw[ho]) (by unfold aw;rw[ho]) ⟨Ht _,EM _⟩
 case panic x=>
  refine .of_piv ?_ ?_ ?_
  all_goals grind [aw]
 case call c=>exact Hc hI ho
end
end
structure EqE (e e':Env):Prop where
 get:∀t,e'.get t=e.get t
 al:∀g,aQ e'.al g=aQ e.al g
 lb:∀B,bb e'.lb B=bb e.lb B
 lf:∀B,aT e'.sl B=aT e.sl B
variable {e':Env}
section
omit [Dr]
theorem EqE.refl(e:Env):EqE e e:=⟨fun _=>rfl,fun _=>rfl,fun _=>rfl,fun _=>rfl⟩
theorem EqE.symm{e:Env}(h:EqE e e'):EqE e' e:=⟨fun t=>(h.get t).symm,fun t=>(h.al t).symm,fun t=>(h.lb t).symm,fun t=>(h.lf t).symm⟩
theorem EqE.trans{a b c:Env}(h:EqE a b)(g:EqE b c):EqE a c:=
 ⟨fun t=>(g.get t).trans (h.get t),fun t=>(g.al t).trans (h.al t),fun t=>(g.lb t).trans (h.lb t),fun t=>(g.lf t).trans (h.lf t)⟩
end
def RE:R Env->R Env->Prop
 |.fail,_=>True
 |.ok e h,r=>∃e',r= .ok e' h/\EqE e e'
 |.pan v h,r=>r= .pan v h
section
omit [Dr]
theorem RE.refl(r:R Env):RE r r:=by
 cases r with
 |ok e h=>exact⟨e,rfl,.refl e⟩
 |pan v h=>exact rfl
 |fail=>trivial
theorem RE.trans{a b c:R Env}(h:RE a b)(g:RE b c):RE a c:=by
 cases a with
 |ok e x=>
  obtain⟨e',rfl,h⟩:=h;obtain⟨e2,rfl,g⟩:=g;exact⟨e2,rfl,h.trans g⟩
 |pan v x=>cases h;exact g
 |fail=>trivial
theorem ow(l r:List (Nat×Ent))(t:Nat):cF (l++r) t=if(∃x∈l,x.1=t)then cF l t else cF r t:=by
 induction l with
 |nil=>simp
 | cons x l ih=>
  obtain⟨k,y⟩:=x;rw[ac1,dC,dC];by_cases hk:k=t
  ·subst hk;simp
  ·rw[acE hk,acE hk,ih];have:(∃x∈(k,y):: l,x.1=t)↔(∃x∈l,x.1=t):=by
    simp only[ac2,exists_eq_or_imp];constructor
    ·grind
    ·exact .inr
   simp only[this]
theorem gp{l:List (Nat×Ent)}(r:List (Nat×Ent))(h:∀x∈l,x.1≠t):cF (l++r) t=cF r t:=by
 rw[ow,acE]
 grind
theorem gb(d:Option Tmp)(x:Ent)(r:List (Nat×Ent))(t:Nat):cF (uf d x r) t=if d=some t then x else cF r t:=by
 cases d with
 |none=>simp[uf]
 |some s=>grind [uf,dC]
theorem ny{l r s:List (Nat×Ent)}(h:cF r t=cF s t):cF (l++r) t=cF (l++s) t:=by
 rw[ow,ow,h]
theorem gZ(l r:List (Nat×Ent))(B:Nat):aT (l++r) B=(aT l B&&aT r B):=by
 unfold aT;grind
end
def qT(x:Ent)(B:Nat):Bool:=match x.v with
 |.loc C _=>!(Nat.beq C B)
 |.val _=>true
section
omit [Dr]
theorem fH(d:Option Tmp)(x:Ent)(r:List (Nat×Ent))(B:Nat):aT (uf d x r) B=((d.isNone||qT x B)&&aT r B):=by
 cases d with
 |none=>simp[uf]
 |some t=>rfl
theorem o9{l:List (Nat×Ent)}{C:Nat}(h:aT l B=true)(ht:(cF l t).v= .loc C off):C≠B:=by
 induction l with
 |nil=>simp[cF,Ent.none]at ht
 |cons x l ih=>
  obtain⟨k,y⟩:=x;rw[dC]at ht;simp only[aT,adz,acB]at h
  grind [Nat.beq_refl,aT]
theorem gU(l r:List (Nat×Option Nat))(g:Nat):aQ (l++r) g=(match aQ l g with|some z=>some z|none=>aQ r g):=by
 induction l with
 |nil=>rfl
 |cons x l ih=>
  grind [dp]
theorem vD{l:List (Nat×Option Nat)}{k g:Nat}(h:∀x∈l,x.1=k)(hg:g≠k):aQ l g=none:=by
 induction l with
 |nil=>rfl
 | cons x l ih=>
  obtain⟨j,y⟩:=x;rw[dp,acE]
  ·grind
  ·have:=h (j,y) AI
   grind
theorem tH(r:List (Nat×Nat))(k B:Nat):bb (rC r k) B=if k=B then none else bb r B:=by
 induction r with
 |nil=>simp[rC,bb]
 | cons x r ih=>
  obtain⟨j,y⟩:=x;simp only[rC];by_cases hj:j=k
  ·simp_all[fG]
  ·have:Nat.beq j k=false:=by rw[adT];intro hh;exact hj (Nat.eq_of_beq_eq_true hh)
   simp only[this,acO,fG,ih]
   grind
theorem EqE.upd{e:Env}(h:EqE e e')(d:Option Tmp)(u:Upd):EqE (e.upd d u) (e'.upd d u):=by
 refine⟨fun t=>?_,fun g=>?_,fun B=>?_,fun B=>?_⟩
 ·show cF (uf d u.ent (u.ls++e'.sl)) t=cF (uf d u.ent (u.ls++e.sl)) t;rw[gb,gb,ny (h.get t)]
 ·show aQ (u.add++gK e'.al u.drop) g=aQ (u.add++gK e.al u.drop) g;have:aQ (gK e'.al u.drop) g=aQ (gK e.al u.drop) g:=by
   cases u.drop with
   |none=>exact h.al g
   |some k=>simp only[gK,pR,h.al g]
  rw[gU,gU,this]
 ·show bb (pQ (fO e'.lb u.unlb) u.lb) B=bb (pQ (fO e.lb u.unlb) u.lb) B;have:bb (fO e'.lb u.unlb) B=bb (fO e.lb u.unlb) B:=by
   cases u.unlb with
   |none=>exact h.lb B
   |some k=>simp only[fO,tH,h.lb B]
  cases u.lb with
  |none=>exact this
  |some x=>
   grind [pQ,fG]
 ·show aT (uf d u.ent (u.ls++e'.sl)) B=aT (uf d u.ent (u.ls++e.sl)) B;rw[fH,fH,gZ,gZ,h.lf B]
end
section
variable {cx:Cx} {ops:Array Oper} {base:Nat}
def ir(ops:Array Oper)(o:Oper):List Nat:=match o.guard with
 |some (j,_)=>(match (ops[j]?).bind (·.dst)with|some t=>[t]|none=>[])
 |none=>[]
section
omit [Dr]
theorem ku{o:Oper}(ho:ops[i]? = some o):eQ ops i=ir ops o++jh o:=by
 grind [eQ,ir]
theorem ke{e:Env}{o:Oper}(ho:ops[i]? = some o)(hg:∀t∈ir ops o,e'.get t=e.get t)(A:Agree cx o e e'){h:Hp}(hr:gG cx base ops i e h≠.fail):gG cx base ops i e' h=gG cx base ops i e h:=by
 unfold gG at hr |-;rw[ho]at hr;rw[ho];simp only at hr |-;have key:∀ {A':Act1->Act1} ,(∀h,eT (A' .bad) h= .fail)->eT (A' (iK cx e ((base+i)*1000) o)) h≠.fail->eT (A' (iK cx e' ((base+i)*1000) o)) h=eT (A' (iK cx e ((base+i)*1000) o)) h:=by
  intro A' h1 h2;rw[Lh A];intro hb;rw[hb]at h2;exact h2 (h1 h)
 cases hgd:o.guard with
 |none=>
  rw[hgd]at hr;exact key (A':=id) (fun _=>rfl) hr
 | some g=>
  obtain⟨j,want⟩:=g;rw[hgd]at hr;simp only at hr |-;cases hdj:dT ops j with
  |none=>rfl
  | some t=>
   rw[hdj]at hr;simp only at hr |-;cases hpl:iy cx o with
   |false=>rfl
   | true=>
    rw[hpl]at hr;simp only[acD]at hr |-;have ht:e'.get t=e.get t:=hg t (by unfold ir;rw[hgd];simp only;rw[show (ops[j]?).bind (·.dst)=some t from hdj];simp);have hav:e'.av t=e.av t:=by simp only[Env.av,ht]
    rw[hav];cases hq:e.av t with
    | bool b=>
     rw[hq]at hr;simp only[pD]at hr |-;cases hb:(b== want)with
     |false=>rfl
     |true=>
      rw[hb]at hr;exact key (A':=ly) (fun _=>rfl) hr
    |tup vs=>cases vs<;>rfl
    |_=>rfl
theorem EqE.agree{e:Env}(h:EqE e e')(o:Oper):Agree cx o e e':=
 ⟨fun t _=>h.get t,fun _=>.inl ⟨fun t _=>h.get t,h.lb⟩,fun _=>h.al,fun _ s _ hl=>by rw[h.lf];exact hl⟩
theorem Gu{e:Env}(h:EqE e e')(i:Nat)(x:Hp):RE (stepG cx base ops i e x) (stepG cx base ops i e' x):=by
 unfold stepG;simp only[aG,ao];cases hr:gG cx base ops i e x with
 |fail=>trivial
 | _=>
  have ho:∃o,ops[i]? = some o:=by
   cases ho:ops[i]? with
   |none=>unfold gG at hr;rw[ho]at hr;cases hr
   |some o=>grind
  obtain⟨o,ho⟩:=ho;rw[ke ho (fun t _=>h.get t) (h.agree o) (by rw[hr];simp),hr]
  first
   |exact⟨_,rfl,h.upd _ _⟩
   |exact rfl
theorem RE.bind{m m':M Env}{x x':Hp}(h:RE (m x) (m' x')){f f':Env->M Env}(hf:∀e e' x,EqE e e'->RE (f e x) (f' e' x)):RE (aG m f x) (aG m' f' x'):=by
 simp only[aG];revert h;generalize m x=r;generalize m' x'=r';intro h;cases r with
 |ok e x=>obtain⟨e',rfl,h⟩:=h;grind
 |pan v x=>cases h;exact rfl
 |fail=>trivial
theorem ua:∀(l:List Nat){e e':Env}(_:EqE e e')(x:Hp),RE (bk cx base ops l e x) (bk cx base ops l e' x)
 |[],e,e',h,x=>⟨e',rfl,h⟩
 |i:: l,e,e',h,x=>by
  exact RE.bind (Gu h i x) fun e e' x h=>ua l h x
end
end
section
omit [Dr]
theorem FI{l:List Nat}(h:t∈l):dM l t=true:=(jM l t).2 h
theorem tQ{l:List Nat}{d:Option Nat}(h:bX l d=false):∀t∈l,d≠some t:=by
 grind [bX,FI]
theorem uR{a b:Option Nat}(h:clash a b=false):∀t,a=some t->b≠some t:=by
 intro t ha hb;rw[ha,hb]at h;simp[clash]at h
end
section
variable {cx:Cx} {ops:Array Oper} {base:Nat} {e:Env}
section
omit [Dr]
theorem DN{gid:Nat}{f:Foot}(h:Shape e gid f ss u):Shape e gid f ss (kA u):=
 ⟨fun _=>rfl,fun _=>rfl,fun _=>rfl,fun _ x h=>by simp[kA]at h,fun _=>rfl,fun _=>rfl,fun hw C off hh=>h.loc hw C off hh,fun x h=>by simp[kA]at h⟩
theorem IF{p q:Upd->Prop}(hpq:∀u,p u->q (kA u))(h:dl p A):dl q (ly A):=by
 cases A with
 |bad=>trivial
 |stat u=>exact hpq _ h
 |dyn m sh=>exact fun v=>hpq _ (h v)
 |thr v=>trivial
theorem OA{p:∀ {α:Type},M α->Prop}(h:cE p A):cE p (ly A):=by
 cases A<;>exact h
theorem xu{o:Oper}(ho:ops[i]? = some o){h:Hp}(hr:gG cx base ops i e h= .ok u h'):Shape e ((base+i)*1000) (aw cx o) (df o) u:=by
 unfold gG at hr;rw[ho]at hr;simp only at hr;cases hgd:o.guard with
 |none=>rw[hgd]at hr;exact qP (rf _ _ _ _) hr
 | some g=>
  obtain⟨j,want⟩:=g;rw[hgd]at hr;simp only at hr;cases hdj:dT ops j with
  |none=>rw[hdj]at hr;cases hr
  | some t=>
   rw[hdj]at hr;simp only at hr;cases hpl:iy cx o with
   |false=>rw[hpl]at hr;cases hr
   | true=>
    rw[hpl]at hr;simp only[acD]at hr;have h0:∀ {h h':Hp},(ao (Upd.ofV (.tup [])):M Upd) h= .ok u h'->Shape e ((base+i)*1000) (aw cx o) (df o) u:=by
     intro h h' hh;cases hh;exact Shape.ofV ..
    generalize e.av t=q at hr;cases q with
    |bool b=>
     simp only[pD]at hr;cases hb:(b== want)with
     |false=>grind
     |true=>rw[hb]at hr;exact qP (IF (fun u=>DN) (rf _ _ _ _)) hr
    |tup vs=>
     cases vs with
     |nil=>exact h0 hr
     |cons v vs=>cases hr
    |_=>cases hr
theorem IX{p:∀ {α:Type},M α->Prop}(h1:∀ {α:Type} (m:M α),bK m->p m)(h2:∀ {α β:Type} (m:M α) (f:α->β),p m->p (aG m fun v=>ao (f v)))(h:cE p A):p (eT A):=by
 cases A with
 |bad=>exact h1 _ bK.fail
 |stat u=>exact h1 _ (bK.pure u)
 |dyn m sh=>exact h2 _ _ h
 |thr v=>exact h.elim
theorem oO{p:∀ {α:Type},M α->Prop}(h1:∀ {α:Type} (m:M α),bK m->p m)(h2:∀ {α β:Type} (m:M α) (f:α->β),p m->p (aG m fun v=>ao (f v))){o:Oper}(ho:ops[i]? = some o)(h:cE p (iK cx e ((base+i)*1000) o)):p (gG cx base ops i e):=by
 unfold gG;rw[ho];simp only;cases hgd:o.guard with
 |none=>exact IX h1 h2 h
 | some g=>
  obtain⟨j,want⟩:=g;simp only;cases hdj:dT ops j with
  |none=>exact h1 _ bK.fail
  | some t=>
   simp only;cases hpl:iy cx o with
   |false=>exact h1 _ bK.fail
   | true=>
    simp only[acD];unfold pD;split
    ·rename_i b _;cases hb:(b== want)with
     |false=>exact h1 _ (bK.pure _)
     |true=>exact IX h1 h2 (OA h)
    all_goals grind [bK.pure,bK.fail]
end
structure Small (ops:Array Oper):Prop where
 dst:∀(i:Nat)(o:Oper),ops[i]? = some o->∀t,o.dst=some t->t<1000
 src:∀(i:Nat)(o:Oper),ops[i]? = some o->∀t∈jh o,t<1000
section
omit [Dr]
theorem Small.reads(hS:Small ops){o:Oper}(ho:ops[i]? = some o):∀t∈eQ ops i,t<1000:=by
 intro t ht;rw[ku ho,acZ]at ht;rcases ht with ht|ht
 ·unfold ir at ht;split at ht
  ·rename_i j _ _;cases hj:ops[j]? with
   |none=>grind
   |some oj=>
    rw[hj]at ht;simp only[ad7]at ht;cases hd:oj.dst with
    |none=>grind
    |some s=>rw[hd]at ht;simp at ht;rw[ht];exact hS.dst j oj hj s hd
  ·simp at ht
 ·exact hS.src i o ho t ht
theorem qX{gid:Nat}{x:Foot}{d:Option Tmp}(hsh:Shape e gid x ss u)(h1:d≠some t)(h2:ss≠some t)(h3:t<1000):(e.upd d u).get t=e.get t:=by
 rw[cO,acE h1];refine gp _ fun y hy hyt=>?_;rcases hsh.keys y hy with h|h
 all_goals grind
theorem E7{gid:Nat}{x:Foot}{d:Option Tmp}(hsh:Shape e gid x ss u)(hw:x.wl=false)(h1:d≠some t):(e.upd d u).get t=e.get t:=by
 rw[cO,acE h1,hsh.ls hw];rfl
theorem AA{gid:Nat}{x:Foot}{d:Option Tmp}{o:Oper}(hsh:Shape e gid x ss u)(hd:∀t,d=some t->t<1000)(hops:∀t∈jh o,d≠some t/\ss≠some t/\t<1000)(hloc:((aw cx o).rl||(aw cx o).wl)=true->x.wl=false)(hal:(aw cx o).dr=true->x.ad=false/\x.dr=false):Agree cx o e (e.upd d u):=by
 refine⟨fun t ht=>qX hsh (hops t ht).1 (hops t ht).2.1 (hops t ht).2.2,fun h=>.inl ⟨fun t ht=>E7 hsh (hloc h) (fun hh=>Nat.not_lt.2 ht (hd t hh)),fun B=>?_⟩,fun h g=>?_,fun h s _ hl=>?_⟩
 ·show bb (pQ (fO e.lb u.unlb) u.lb) B=bb e.lb B;rw[hsh.lb (hloc h),hsh.unlb (hloc h)];rfl
 ·show aQ (u.add++gK e.al u.drop) g=aQ e.al g;rw[hsh.noad (hal h).1,hsh.nodr (hal h).2];rfl
 ·have hw:=hloc (by rw[h];simp);show aT (uf d u.ent (u.ls++e.sl)) (aN s)=true;rw[hsh.ls hw,fH,acT,hl,aer];have:qT u.ent (aN s)=true:=by
   unfold qT;split
   ·rename_i C off hv;obtain⟨t,off',ht⟩:=hsh.loc hw C off hv
    have:=o9 hl ht
    rw[ade,adT];simp_all
   ·rfl
  grind
theorem J8{gid:Nat}{x:Foot}{d:Option Tmp}{o:Oper}(hsh:Shape e gid x ss u)(hd:∀t,d=some t->t<1000)(hops:∀t∈jh o,d≠some t/\ss≠some t/\t<1000)(hloc:((aw cx o).rl||(aw cx o).wl)=true->x.wl=false)(hal:(aw cx o).dr=true->x.ad=false/\x.dr=false):Agree cx o (e.upd d u) e:=by
 have A:=AA (cx:=cx) hsh hd hops hloc hal;refine⟨fun t ht=>(A.ops t ht).symm,fun h=>.inl ⟨fun t ht=>(E7 hsh (hloc h) (fun hh=>Nat.not_lt.2 ht (hd t hh))).symm,fun B=>?_⟩,fun h g=>(A.al h g).symm,fun _ s _ hl=>?_⟩
 case refine_1=>
  show bb e.lb B=bb (pQ (fO e.lb u.unlb) u.lb) B;rw[hsh.lb (hloc h),hsh.unlb (hloc h)];rfl
 have hl':aT (uf d u.ent (u.ls++e.sl)) (aN s)=true:=hl;simp_all[fH,gZ]
theorem sK{n gid:Nat}{offs:List Nat}:∀x∈lX B cs offs gid n,B<=x.1/\x.1<B+n:=by
 intro x hx;unfold lX at hx
 grind
theorem BJ{s:Nat}{k:Nat}(h:s=B+k)(hs:s<1000)(hB:1000<=B):False:=WD
theorem Ee{gid:Nat}{a b:Oper}{t:TypeId}{p:Nat}{t':TypeId}{h:Hp}(hsh:Shape e gid (aw cx b) (df b) u)(ha:a.op= .load t (.tmp p))(hb:b.op= .alloc t')(hd:∀s,b.dst=some s->s<1000)(hops:∀t∈jh a,b.dst≠some t/\df b≠some t/\t<1000)(hr:eT (iK cx e gid b) h= .ok u h'):Agree cx a e (e.upd b.dst u):=by
 refine⟨fun t ht=>qX hsh (hops t ht).1 (hops t ht).2.1 (hops t ht).2.2,fun _=>.inr ⟨t,p,ha,fun B off hB=>?_⟩,fun hdr=>?_,fun hw=>?_⟩
 ·unfold iK at hr;rw[hb]at hr;cases hdst:b.dst with
  |none=>rw[hdst]at hr;cases hr
  | some s=>
   rw[hdst]at hr;have hs:=hd s hdst;simp only at hr;have plain:u.ls=[]->u.lb=none->u.unlb=none->bb (e.upd (some s) u).lb B=bb e.lb B/\(1000<=B->B % 1000=0->∀k,k<1000->(e.upd (some s) u).get (B+k)=e.get (B+k)):=fun h1 h2 h3=>by
    refine⟨by show bb (pQ (fO e.lb u.unlb) u.lb) B=_;rw[h2,h3];rfl,fun hB1 _ k _=>?_⟩;rw[cO,acE (fun hh=>BJ (adI hh) hs hB1),h1];rfl
   unfold gq at hr;cases hT:cx.T t' with
   |none=>rw[hT]at hr;cases hr
   | some ti=>
    rw[hT]at hr;simp only at hr;split at hr
    ·cases hr;exact plain rfl rfl rfl
    ·simp only[eT,aG,ao]at hr;split at hr<;>cases hr;exact plain rfl rfl rfl
    ·simp only[eT,aG,ao]at hr;split at hr<;>cases hr;exact plain rfl rfl rfl
    ·cases hc:(decide (ti.size<1000)&&aT e.sl (aN s)&&jO (dG true ti) (gD cx.ann.nils s) ti.size)with
     |false=>rw[hc]at hr;cases hr
     | true=>
      rw[hc]at hr;simp only[acB,acP]at hc;obtain⟨⟨hz,hf⟩,_⟩:=hc;cases hr;have hne:=o9 hf hB;refine⟨?_,fun hB1 hB0 k hk=>?_⟩
      ·show bb ((aN s,ti.size):: e.lb) B=bb e.lb B;rw[fG,acE (fun hh=>hne hh.symm)]
      ·rw[cO,acE (fun hh=>BJ (adI hh) hs hB1)];refine gp _ fun y hy hyt=>?_
       have:=sK y hy
       grind [aN]
 all_goals grind [aw]
theorem zL{gi gj:Nat}{x y:Foot}{si sj:Option Nat}{v:Upd}{d f:Option Tmp}(hu:Shape e gi x si u)(hv:Shape e gj y sj v)(hy:y.wl=false)(hf:∀t,f=some t->t<1000)(hdf:∀t,d=some t->f≠some t)(hsf:∀t,si=some t->f≠some t)(hg:gi≠gj)(h1:x.dr=true->y.dr=false/\y.ad=false)(h2:x.ad=true->y.dr=false)(h3:x.ad=true->y.ad=true->x.wl=false):EqE ((e.upd d u).upd f v) ((e.upd f v).upd d u):=by
 have e1:=hv.ls hy;have e2:=hv.lb hy;have e3:=hv.unlb hy;refine⟨fun t=>?_,fun g=>?_,fun B=>?_,fun B=>?_⟩
 ·rw[cO,cO,e1];show (if d=some t then u.ent else cF (u.ls++uf f v.ent (v.ls++e.sl)) t)=if f=some t then v.ent else cF (uf d u.ent (u.ls++e.sl)) t;rw[e1,gb,acT];by_cases hft:f=some t
  ·rw[acL hft,acE (fun h=>hdf t h hft),gp,gb,acL hft];intro z hz hzt;rcases hu.keys z hz with h|h
   all_goals grind
  ·rw[acE hft];split
   ·rfl
   ·exact ny (by rw[gb,acE hft])
 ·show aQ (u.add++gK (v.add++gK e.al v.drop) u.drop) g=aQ (v.add++gK (u.add++gK e.al u.drop) v.drop) g;cases hxd:x.dr with
  |true=>
   obtain⟨h4,h5⟩:=h1 hxd;rw[hv.noad h5,hv.nodr h4];rfl
  | false=>
   rw[hu.nodr hxd];cases hxa:x.ad with
   |false=>rw[hu.noad hxa];rfl
   | true=>
    rw[hv.nodr (h2 hxa)];cases hya:y.ad with
    |false=>rw[hv.noad hya];rfl
    |true=>
     have k1:=hu.add (h3 hxa hya);have k2:=hv.add hy;show aQ (u.add++(v.add++e.al)) g=aQ (v.add++(u.add++e.al)) g;rw[gU,gU,gU,gU];by_cases hgi:g=gi
     ·rw[vD k2 WD]
     ·rw[vD k1 hgi]
 ·show bb (pQ (fO (pQ (fO e.lb v.unlb) v.lb) u.unlb) u.lb) B=bb (pQ (fO (pQ (fO e.lb u.unlb) u.lb) v.unlb) v.lb) B;rw[e2,e3];rfl
 ·show aT (uf d u.ent (u.ls++uf f v.ent (v.ls++e.sl))) B=aT (uf f v.ent (v.ls++uf d u.ent (u.ls++e.sl))) B
  grind [fH,gZ]
end
end
end Go.Av
