/- The abstract evaluator and plain laws, part 2. Condition: the table of types is the program's. -/
import Derived.Test.YtighgcgmocboaaaGreatDoorLa
import Derived.Orders
set_option linter.defProp false
set_option linter.unusedSimpArgs false
set_option linter.unusedVariables false
namespace Go.Av
mutual
theorem oN{S S':ay}{β β':List bI}{g:Nat->Nat->Nat->Nat->Bool->AV}(hS:S.le S')(hg:∀l off len sz ag v,VR S β (.hs l off len sz ag) v->VR S' β' (g l off len sz ag) v):(a:AV)->(v:Value)->VR S β a v->VR S' β' (cl g a) v
 |.any,_,_=>by simp[cl,VR]
 |.bool _,_,x=>by simpa [cl,VR]using x
 |.int _ _,_,x=>by simpa [cl,VR]using x
 |.str _,_,x=>by simpa [cl,VR]using x
 |.nilp,_,x=>by simpa [cl,VR]using x
 |.nilf,_,x=>by simpa [cl,VR]using x
 |.nili,_,x=>by simpa [cl,VR]using x
 |.mp _,_,_=>by simp[cl,VR]
 |.it _,_,_=>by simp[cl,VR]
 |.nilm,_,x=>by simpa [cl,VR]using x
 |.nilb _,_,x=>by simpa [cl,VR]using x
 |.byt _ _,_,x=>by simpa [cl,VR]using x
 |.agg cs,v,x=>by
  simp only[cl,VR]at x |-;obtain⟨vs,rfl,y⟩:=x;exact⟨vs,rfl,mq hS hg cs vs y⟩
 |.tup cs,v,x=>by
  simp only[cl,VR]at x |-;obtain⟨vs,rfl,y⟩:=x;exact⟨vs,rfl,mq hS hg cs vs y⟩
 |.sl es,v,x=>by
  simp only[cl,VR]at x |-;obtain⟨a,cap,rfl,hc,hn,hq⟩:=x;have hl:(fo g es).length=es.length:=qf g es;refine⟨a,cap,by rw[hl],by grind,hn,fun q e=>?_⟩;obtain⟨hs,sz,he⟩:=hq q e;exact⟨hs,sz,BJ hS hg es _ _ _ he⟩
 |.ip cs,v,x=>by
  simp only[cl,VR]at x |-;obtain⟨b,off,vs,rfl,y,z⟩:=x;exact⟨b,off,vs,rfl,mq hS hg cs vs y,z.mono hS⟩
 |.hp l off,v,x=>by simp[cl,VR]
 |.hn,v,x=>by
  simp only[cl,VR]at x |-
  grind
 |.he,v,x=>by
  simp only[cl,VR]at x |-;obtain⟨a,rfl⟩:=x;exact⟨a,0,rfl,M7 _,fun _=>rfl,fun q _=>⟨fun h=>by omega,0,by simp[fo,bO]⟩⟩
 |.hs l off len sz ag,v,x=>by
  grind [cl]
 |.fn f a c,v,x=>by
  simp only[cl,VR]at x |-;obtain⟨x,y,rfl,hx,hy⟩:=x;exact⟨x,y,rfl,mq hS hg a x hx,mq hS hg c y hy⟩
 |.iface t a,v,x=>by
  simp only[cl,VR]at x |-;obtain⟨y,rfl,hy⟩:=x;exact⟨y,rfl,oN hS hg a y hy⟩
theorem qf(g:Nat->Nat->Nat->Nat->Bool->AV):(cs:List AV)->(fo g cs).length=cs.length
 |[]=>rfl
 |c:: cs=>by simp[fo,qf g cs]
theorem mq{S S':ay}{β β':List bI}{g:Nat->Nat->Nat->Nat->Bool->AV}(hS:S.le S')(hg:∀l off len sz ag v,VR S β (.hs l off len sz ag) v->VR S' β' (g l off len sz ag) v):(cs:List AV)->(vs:List Value)->aV S β cs vs->aV S' β' (fo g cs) vs
 |[],_,x=>by simpa [fo,aV]using x
 |c:: cs,vs,x=>by
  simp only[fo,aV]at x |-;obtain⟨y,ys,rfl,hy,hys⟩:=x;exact⟨y,ys,rfl,oN hS hg c y hy,mq hS hg cs ys hys⟩
theorem BJ{S S':ay}{β β':List bI}{g:Nat->Nat->Nat->Nat->Bool->AV}(hS:S.le S')(hg:∀l off len sz ag v,VR S β (.hs l off len sz ag) v->VR S' β' (g l off len sz ag) v):(es:List AV)->(b off sz:Nat)->bO S β es b off sz->bO S' β' (fo g es) b off sz
 |[],_,_,_,_=>by simp[fo,bO]
 |e:: es,b,off,sz,x=>by
  simp only[fo,bO]at x |-;obtain⟨⟨v,hv,hs,hc⟩,hes⟩:=x;exact⟨⟨v,oN hS hg e v hv,hs,hc.mono hS⟩,BJ hS hg es b (off+sz) sz hes⟩
end
variable [Dr]
section
omit [Dr]
theorem BC{S:ay}{β:List bI}{args:List AV}{vs:List Value}(h:aV S β args vs):aV S [] (fo aA args) vs:=
 mq (ay.le_refl S) (fun _ _ _ _ _ _ _=>by simp[aA,VR]) args vs h
theorem ul{S:ay}{β:List bI}{a:AV}{v:Value}(h:bh a=true)(hv:VR S β a v):v.cells= #[v]:=by
 cases a<;>simp only[bh,M3]at h<;>simp only[VR]at hv
 case bool=>subst hv;rfl
 case int=>subst hv;rfl
 case str=>obtain⟨x,rfl,_⟩:=hv;rfl
 case nilp=>subst hv;rfl
 case nilf=>subst hv;rfl
 case nili=>subst hv;rfl
 case sl=>obtain⟨x,c,rfl,_⟩:=hv;rfl
 case ip=>obtain⟨b,o,vs,rfl,_⟩:=hv;rfl
 case hp=>obtain⟨b,_,_,rfl⟩:=hv;rfl
 case mp=>obtain⟨b,_,_,rfl⟩:=hv;rfl
 case nilm=>subst hv;rfl
 case hs=>rcases hv with⟨b,c,_,_,rfl,_⟩|⟨_,_,rfl⟩<;>rfl
 case hn=>subst hv;rfl
 case he=>obtain⟨_,rfl⟩:=hv;rfl
 case fn=>obtain⟨x,y,rfl,_⟩:=hv;rfl
 case iface=>obtain⟨x,rfl,_⟩:=hv;rfl
theorem qy{S S2:ay}{β β2:List bI}{w:World}{ω:Nat->Owner}{h:Hp}(hH:e9 S β w ω h)(hS:S.le S2)(h2:∀(b o:Nat)(x:Array Value),ci β h b->Row w b x->S2 b o=x[o]?):∀(d:Nat)(a:AV)(v:Value),VR S β a v->VR S2 β2 (gG d h a) v
 |0,a,v,hv=>oN hS (fun _ _ _ _ _ _ _=>by simp[aA,VR]) a v hv
 | d + 1,a,v,hv=>by
  refine oN hS (fun l off len sz ag u hu=>?_) a v hv;cases hl:h[l]? with
  |none=>simp[VR]
  | some cs=>
   simp only;cases hc:(decide (off+len*sz<=cs.length)&&decide (0<sz)&&(ag||(Nat.beq sz 1&&cs.all bh)))with
   |false=>simp[VR]
   | true=>
    simp only[M5,M8,NU]at hc;obtain⟨⟨hc1,hc2⟩,hc3⟩:=hc;simp only[M6];simp only[VR]at hu |-;rcases hu with⟨⟨b,nb⟩,cap,hβ,hb0,rfl,hlc,hcn⟩|⟨h00,q0,rfl⟩
    rotate_left
    ·subst h00;exact⟨some q0,0,rfl,M7 _,fun _=>rfl,fun q hq=>⟨fun h=>absurd h (by omega),sz,trivial⟩⟩
    refine⟨some ⟨b,off,none⟩,cap,by simp,by simpa using hlc,(fun hh=>by cases hh),fun q hq=>?_⟩;simp only[M4]at hq;subst hq;refine⟨fun _=>rfl,sz,.of_get fun i e he=>?_⟩;have hi:i<len:=by
     rcases NE i len with h'|h'
     ·exact h'
     ·grind
    rw[OZ,List.getElem?_range hi]at he;simp only[OB,M4]at he;have hile:off+i*sz+sz<=cs.length:=by
     have:(i+1)*sz<=len*sz:=NA _ hi;rw[Ov]at this;omega
    have hne:cs≠[]:=by rintro rfl;simp at hile;omega
    obtain⟨x,k1,k2,k3,k4,k5⟩:=hH.cells hl hne hβ hb0;rw[hβ]at k1;simp only[M4,N9,Pw]at k1;subst k1;have hx:=k4.length;simp only[N8,NZ]at hx;have hS2:∀o,S2 b o=x[o]?:=fun o=>h2 b o x ⟨l,cs,_,hl,hne,hβ⟩ k2;subst he;cases ag with
    |true=>
     simp only[M6];have hsub:=(k4.drop (off+i*sz)).take sz;refine⟨.agg (((x.toList.take cs.length).drop (off+i*sz)).take sz).toArray,qy hH hS h2 d _ _ (by simp only[VR];grind),?_,fun j y hy=>?_⟩
     all_goals grind [Value.cells]
    |false=>
     simp only[Nh];simp only[M3,false_or]at hc3;have hsz:sz=1:=Nat.eq_of_beq_eq_true hc3.1;subst hsz;have hlt:off+i*1<cs.length:=by omega
     have hcs:cs[off+i*1]? = some (aa cs (off+i*1)):=by unfold aa;rw[Ot,Ns hlt];rfl
     obtain⟨y,hy1,hy2⟩:=k4.get hcs;have hok:=Nl.1 hc3.2 _ (Oy hcs);have hcells:=ul hok hy2;refine⟨y,qy hH hS h2 d _ _ hy2,by grind,fun j z hz=>?_⟩
     grind
end
theorem FR.weak{c:Entry}{N:Nat}{U:Nat->Prop}{e e2:Env}{h:Hp}{a:Act}{w:World}{S:ay}{β:List bI}{γ:Nat->Value}{lam:Nat->Option Nat}{ω:Nat->Owner}(H:FR c N U e h a w S β γ lam ω)(hv:∀t,(e2.get t).v=(e.get t).v\/(e2.get t).v= .val .any/\t<1000)(hg:∀t g,(e2.get t).g=some g->(e.get t).g=some g)(hal:∀g z,aK e2.al g=some z->aK e.al g=some z)(hlb:∀B n,aS e2.lb B=some n->aS e.lb B=some n):FR c N U e2 h a w S β γ lam ω:=by
 refine⟨H.wf,H.gro,H.keep,H.le,H.ext,H.hlen,H.heap,H.tsz,fun t ht=>?_,fun t g z ht hgg hz=>H.grps t g z ht (hg t g hgg) (hal g z hz),fun B n hB=>?_,fun g z hz=>H.free g z (hal g z hz),H.mine,⟨fun t g hgg=>H.used.1 t g (hg t g hgg),fun g z hz=>H.used.2 g z (hal g z hz)⟩⟩
 ·rcases hv t with h1|⟨h1,_⟩
  ·rw[h1];exact H.slots t ht
  ·rw[h1];simp[fU,VR]
 ·obtain⟨h1,h2,h3,b,x,h4,h5,h6,h7,h8⟩:=H.lblk B n (hlb B n hB)
  grind
theorem FR.acts{c:Entry}{N:Nat}{U:Nat->Prop}{e:Env}{h:Hp}{a a2:Act}{w:World}{S:ay}{β:List bI}{γ:Nat->Value}{lam:Nat->Option Nat}{ω:Nat->Owner}(H:FR c N U e h a w S β γ lam ω)(ht:a2.tmps=a.tmps):FR c N U e h a2 w S β γ lam ω:=
 ⟨H.wf,H.gro,H.keep,H.le,H.ext,H.hlen,H.heap,by rw[ht];exact H.tsz,fun t h=>by rw[ht];exact H.slots t h,fun t g z h=>by rw[ht];exact H.grps t g z h,H.lblk,H.free,H.mine,H.used⟩
open Classical in
theorem FR.freezeK{c:Entry}{N:Nat}{U:Nat->Prop}{e:Env}{h:Hp}{a:Act}{w:World}{S:ay}{β:List bI}{γ:Nat->Value}{lam:Nat->Option Nat}{ω:Nat->Owner}(H:FR c N U e h a w S β γ lam ω)(h1 h2:Hp)(hlen:h2.length=h.length)(hk1:∀(j:Nat)(cs:List AV),h1[j]? = some cs->cs≠[]->h[j]? = some cs)(hk2:∀(j:Nat)(cs:List AV),h2[j]? = some cs->cs≠[]->h[j]? = some cs/\∀ds:List AV,h1[j]? = some ds->ds=[]):
  ∃S2 ω2,FR c N U e h2 a w S2 β γ lam ω2/\S.le S2/\e9 S β w ω h1/\∀(b o:Nat)(x:Array Value),ci β h1 b->Row w b x->S2 b o=x[o]?:=by
 have hsub:∀b,ci β h1 b->ci β h b:=fun b ⟨l,cs,n,k1,k2,k3⟩=>⟨l,cs,n,hk1 l cs k1 k2,k2,k3⟩;have hown:=fun b (hb:ci β h1 b)=>H.hown (hsub b hb);let S2:ay:=fun b o=>if ci β h1 b then w.cell? ⟨b,o,none⟩else S b o;let ω2:Nat->Owner:=fun b=>if ci β h1 b then .no else ω b;have hn:∀b,¬ci β h1 b->∀o,S2 b o=S b o:=fun b hb o=>M9 hb;have hy:∀b,ci β h1 b->∀o,S2 b o=w.cell? ⟨b,o,none⟩:=fun b hb o=>Nn hb;have hωn:∀b,¬ci β h1 b->ω2 b=ω b:=fun b hb=>M9 hb;have hωy:∀b,ci β h1 b->ω2 b= .no:=fun b hb=>Nn hb;have hho:∀b,ci β h1 b->∃l,ω b= .heap l:=fun b hb=>by grind
 have hno:∀b,(∀l,ω b≠.heap l)->¬ci β h1 b:=fun b hb ho=>by grind
 have hle:S.le S2:=by
  intro b o v hv;by_cases hb:ci β h1 b
  ·grind
  ·grind
 have hwf:Wf S2 w:=by
  intro b o v hv;by_cases hb:ci β h1 b
  ·grind
  ·rw[hn b hb]at hv;exact H.wf b o v hv
 refine⟨S2,ω2,⟨hwf,H.gro,fun b hb hE=>⟨(H.keep b hb hE).1,fun o=>?_⟩,ay.le_trans H.le hle,H.ext,by rw[hlen];exact H.hlen,?_,H.tsz,fun t ht=>?_,H.grps,fun B n hB=>?_,fun g z hg=>?_,fun b hb=>?_,H.used⟩,hle,?_,fun b o x hb hr=>?_⟩
 ·have:¬ci β h1 b:=fun ho=>by
   obtain⟨l,hl⟩:=hho b ho;rcases (H.mine b (by rw[hl];simp)).1.low with h1|h1
   all_goals grind
  rw[hn b this];exact (H.keep b hb hE).2 o
 ·refine H.heap.rows hle (fN.refl β) H.hlen fun j ds hj hd=>.inl ⟨(hk2 j ds hj hd).1,fun b _ ho=>?_⟩;have hb:¬ci β h1 b:=fun hb=>by
   obtain⟨l,cs,n,k1,k2,k3⟩:=hb;obtain⟨b',n',g1,_,g2,_⟩:=H.heap.own (hk1 l cs k1 k2) k2
   grind
  grind
 ·have:=H.slots t ht
  cases hv:(e.get t).v with
  |val av=>rw[hv]at this;exact VR.mono hle (fN.refl β) _ _ this
  |loc B off=>rw[hv]at this;exact this
 ·obtain⟨h1,h2,h3,b,x,h4,h5,h6,h7,h8⟩:=H.lblk B n hB;have hb:=hno b (fun l hl=>by grind);refine⟨h1,h2,h3,b,x,h4,h5,by grind,fun o=>by grind,fun i hi=>?_⟩;obtain⟨v,a',g1,g2,g3,g4⟩:=h8 i hi;exact⟨v,a',g1,g2,VR.mono hle (fN.refl β) _ _ g3,g4⟩
 ·obtain⟨a',len,cap,h1,h2,h3,h4⟩:=H.free g z hg;refine⟨a',len,cap,h1,h2,h3,h4.imp id ?_⟩
  grind
 ·by_cases ho:ci β h1 b
  ·grind
  ·have hb':ω b≠.no:=by rw[<- hωn b ho];exact hb
   exact⟨(H.mine b hb').1.of_eq (hωn b ho),(H.mine b hb').2⟩
 ·exact H.heap.rows (ay.le_refl S) (fN.refl β) H.hlen fun j ds hj hd=>.inl ⟨hk1 j ds hj hd,fun b _ ho=>⟨ho,rfl,fun o h=>h⟩⟩
 ·rw[hy b hb,hr.cell]
theorem FR.freeze{c:Entry}{N:Nat}{U:Nat->Prop}{e:Env}{h:Hp}{a:Act}{w:World}{S:ay}{β:List bI}{γ:Nat->Value}{lam:Nat->Option Nat}{ω:Nat->Owner}(H:FR c N U e h a w S β γ lam ω):
  ∃S2 ω2,FR c N U e (h.map fun _=>[]) a w S2 β γ lam ω2/\∀v u,VR S β v u->VR S2 β (gG 6 h v) u:=by
 obtain⟨S2,ω2,F,h1,h2,h3⟩:=H.freezeK h (h.map fun _=>[]) (by simp) (fun _ _ h _=>h) fun j cs hj hc=>by
  grind
 grind [qy]
theorem FR.freeze1{c:Entry}{N:Nat}{U:Nat->Prop}{e:Env}{h:Hp}{a:Act}{w:World}{S:ay}{β:List bI}{γ:Nat->Value}{lam:Nat->Option Nat}{ω:Nat->Owner}(H:FR c N U e h a w S β γ lam ω)(l:Nat):
  ∃S2 ω2,FR c N U e (h.set l []) a w S2 β γ lam ω2/\S.le S2/\∀off len sz ag u,VR S β (.hs l off len sz ag) u->VR S2 β (gG 1 h (.hs l off len sz ag)) u:=by
 have e0:∀j,j≠l->(List.replicate l ([]:List AV)++[(h[l]?).getD []])[j]? = none\/(List.replicate l ([]:List AV)++[(h[l]?).getD []])[j]? = some []:=fun j hj=>by
  grind
 have e1:(List.replicate l ([]:List AV)++[(h[l]?).getD []])[l]? = some ((h[l]?).getD []):=by
  rw[NS (by simp)];simp
 obtain⟨S2,ω2,F,h1,h2,h3⟩:=H.freezeK (List.replicate l []++[(h[l]?).getD []]) (h.set l []) (by simp) (fun j cs hj hc=>by
  grind) fun j cs hj hc=>by
  grind
 refine⟨S2,ω2,F,h1,fun off len sz ag u hu=>?_⟩
 have:=qy (β2:=β) h2 h1 h3 1 _ _ hu
 have e2:gG 1 h (.hs l off len sz ag)= .any\/gG 1 h (.hs l off len sz ag)=gG 1 (List.replicate l []++[(h[l]?).getD []]) (.hs l off len sz ag):=by
  simp only[gG,cl,e1];cases h[l]? with
  |none=>exact .inl rfl
  |some cs=>exact .inr rfl
 grind [VR]
theorem o7{c:Entry}{N:Nat}{U:Nat->Prop}{e:Env}{h:Hp}{a:Act}{w:World}{gid:Nat}{d:Option Tmp}{u:Upd}{r:AV}{h2:Hp}(hfz:∀S β γ lam ω,FR c N U (e.upd d u) h a w S β γ lam ω->∃S2 ω2,FR c N U (e.upd d u) h2 a w S2 β γ lam ω2/\∀x,VR S β u.ent.av x->VR S2 β r x)(hd:∀t,d=some t->t<N)(hs:Shape e gid {} none u)(H:eE c N U (e.upd d u) h a w):eE c N U (e.upd d (.ofV r)) h2 a w:=by
 obtain⟨S,β,γ,lam,ω,F⟩:=H;obtain⟨S2,ω2,F2,hf⟩:=hfz _ _ _ _ _ F;have h1:=hs.ls rfl;have h22:=hs.lb rfl;have h3:=hs.unlb rfl;have h4:=hs.noad rfl;have h5:=hs.nodr rfl;have hget:∀t,(e.upd d u).get t=if d=some t then u.ent else e.get t:=fun t=>by rw[bV,h1];rfl
 have hget':∀x t,(e.upd d (.ofV x)).get t=if d=some t then⟨.val x,none⟩else e.get t:=fun x t=>by rw[bV];rfl
 have hal:(e.upd d u).al=e.al:=by show u.add++eY e.al u.drop=e.al;rw[h4,h5];rfl
 have hlb:(e.upd d u).lb=e.lb:=by show kT (dY e.lb u.unlb) u.lb=e.lb;rw[h22,h3];rfl
 -- first forget the slot, then tell it anew
 have F3:FR c N U (e.upd d (.ofV .any)) h2 a w S2 β γ lam ω2:=by
  refine F2.weak (fun t=>?_) (fun t g hg=>?_) (fun g z hz=>by rw[hal];exact hz) (fun B n hB=>by rw[hlb];exact hB)
  ·rw[hget,hget'];split
   ·rename_i hdt;exact .inr ⟨rfl,by have h1:=hd t hdt;have h5:=F.tsz.2;grind⟩
   grind
  ·grind
 cases d with
 |none=>exact⟨S2,β,γ,lam,ω2,F3⟩
 | some s=>
  have hsl:=F.slots s (Nat.lt_of_lt_of_le (hd s rfl) F.tsz.2);rw[hget,Nn rfl]at hsl;generalize hv0:a.tmps.getD s undef=v0 at hsl;have hvr:VR S β u.ent.av v0:=by
   unfold Ent.av;cases hv:u.ent.v with
   |val x=>rw[hv]at hsl;exact hsl
   |loc B off=>simp[VR]
  have F4:=F3.setV (d:=some s) hd (hf _ hvr);refine⟨S2,β,γ,lam,ω2,(F4.weak (e2:=e.upd (some s) (.ofV r)) (fun t=>.inl ?_) (fun t g hg=>?_) (fun g z hz=>hz) (fun B n hB=>hB)).acts ?_⟩
  ·rw[hget',bV];split
   ·rfl
   ·rename_i hdt;show (e.get t).v=(bM ((s,⟨.val .any,none⟩):: e.sl) t).v;rw[cn,M9 (fun hh=>hdt (by rw[hh]))];rfl
  ·rw[hget']at hg;rw[bV];split at hg
   ·cases hg
   ·rename_i hdt;rw[M9 hdt];show (bM ((s,⟨.val .any,none⟩):: e.sl) t).g=some g;rw[cn,M9 (fun hh=>hdt (by rw[hh]))];exact hg
  ·have hlt:s<a.tmps.size:=Nat.lt_of_lt_of_le (hd s rfl) F.tsz.1;simp only[Act.put];rw[<- hv0,Oj,NY hlt]
   grind
theorem qx{c:Entry}{N:Nat}{U:Nat->Prop}{e:Env}{h:Hp}{a:Act}{w:World}{gid:Nat}{d:Option Tmp}{u:Upd}(hd:∀t,d=some t->t<N)(hs:Shape e gid {} none u)(H:eE c N U (e.upd d u) h a w):eE c N U (e.upd d (.ofV (gG 6 h u.ent.av))) (h.map fun _=>[]) a w:=
 o7 (fun S β γ lam ω F=>by obtain⟨S2,ω2,F2,hf⟩:=F.freeze;grind) hd hs H
omit [Dr]in
theorem B5(v:AV)(h:Hp):∃r h2,nd v h= .ok r h2:=by
 unfold nd;split
 ·exact⟨_,_,rfl⟩
 ·split<;>exact⟨_,_,rfl⟩
 ·exact⟨_,_,rfl⟩
theorem oZ{c:Entry}{N:Nat}{U:Nat->Prop}{e:Env}{h h':Hp}{a:Act}{w:World}{gid:Nat}{d:Option Tmp}{u:Upd}{r:AV}(hd:∀t,d=some t->t<N)(hs:Shape e gid {} none u)(hr:nd u.ent.av h= .ok r h')(H:eE c N U (e.upd d u) h a w):eE c N U (e.upd d (.ofV r)) h' a w:=by
 refine o7 (gid:=gid) (fun S β γ lam ω F=>?_) hd hs H;generalize u.ent.av=v at hr;unfold nd at hr;split at hr
 ·cases hr;obtain⟨S2,ω2,F2,_,hf⟩:=F.freeze1 _;exact⟨S2,ω2,F2,fun x hx=>hf _ _ _ _ _ hx⟩
 ·split at hr
  ·rename_i l hl;cases hr;obtain⟨S2,ω2,F2,hle,hf⟩:=F.freeze1 l;refine⟨S2,ω2,F2,fun x hx=>oN hle (fun l' off len sz ag y hy=>?_) _ _ hx⟩;unfold J8;cases he:Nat.beq l' l with
   |true=>
    obtain rfl:=Nat.eq_of_beq_eq_true he;exact hf _ _ _ _ _ hy
   |false=>simp[VR]
  ·cases hr;exact⟨S,ω,F,fun x hx=>oN (ay.le_refl S) (fun _ _ _ _ _ _ _=>by simp[aA,VR]) _ _ hx⟩
 ·cases hr;exact⟨S,ω,F,fun x hx=>oN (ay.le_refl S) (fun _ _ _ _ _ _ _=>by simp[aA,VR]) _ _ hx⟩
theorem o6{c:Entry}{N:Nat}{U:Nat->Prop}{e:Env}{gid:Nat}{d:Option Tmp}{u:Upd}(one:Bool)(h:Hp)(hd:∀t,d=some t->t<N)(hs:Shape e gid {} none u):
  ∃r h2,(bif one then nd u.ent.av else yX u.ent.av) h= .ok r h2/\∀a w,eE c N U (e.upd d u) h a w->eE c N U (e.upd d (.ofV r)) h2 a w:=by
 cases one with
 |false=>exact⟨_,_,rfl,fun a w H=>qx hd hs H⟩
 |true=>
  obtain⟨r,h2,hz⟩:=B5 u.ent.av h;exact⟨r,h2,hz,fun a w H=>oZ hd hs hz H⟩
end Go.Av
namespace Go.Av
section
variable {P:Program} {T:TT} {w:World} {S:ay} {β:List bI}
theorem vK{α:Type}{g:α->PUnit->Sem (ForInStep PUnit)}:∀(l:List α),(∀x∈l,(g x ⟨⟩).run P w= .ok (.yield ⟨⟩) w)->(forIn l PUnit.unit g).run P w= .ok ⟨⟩ w
 |[],_=>by simp
 |x:: l,h=>by
  rw[List.forIn_cons];simp only[Sem.run_bind,h x (by simp),Result.andThen_ok];exact vK l fun y hy=>h y (by simp[hy])
theorem kY(hT:TOK P T):(d n:Nat)->d<=n->(t:TypeId)->(x:AV)->(v:Value)->(em:Bool)->Ba T d t x=true->VR S β x v->(Instr.checkKey em n t v).run P w= .ok () w
 |0,_,_,t,x,v,em,h,_=>by simp[Ba]at h
 |d+1,0,hn,_,_,_,_,_,_=>by omega
 | d + 1,n+1,hn,t,x,v,em,h,hx=>by
  unfold Ba at h;cases ht:T t with
  |none=>grind
  | some ti=>
   rw[ht]at h;simp only at h;obtain⟨i,dd,z,hi,hd,_,_,hsz,_,hk,hag,hof,_⟩:=(hT.get ht).ex;unfold Instr.checkKey;simp only[Sem.run_bind,run_underlying hd,Result.andThen_ok];split at h
   case h_1 hkk=>cases dd<;>simp only[kindOf,hkk,reduceCtorEq]at hk;simp
   case h_2 hkk=>cases dd<;>simp only[kindOf,hkk,reduceCtorEq]at hk;simp
   case h_3 hkk=>cases dd<;>simp only[kindOf,hkk,reduceCtorEq]at hk;simp
   case h_4 hkk=>cases dd<;>simp only[kindOf,hkk,reduceCtorEq]at hk;simp
   case h_5 cs hkk=>
    obtain⟨fs,rfl⟩:∃fs,dd= .struct fs:=by cases dd<;>simp only[kindOf,hkk,reduceCtorEq]at hk;grind
    simp only[VR]at hx;obtain⟨vs,rfl,hvs⟩:=hx;simp only;rw[<- hof,Nl]at h
    have hall:∀f∈fs.toList,((if f.name≠ "_" then(do
       let y <- part f.type vs.toArray f.offset
       Instr.checkKey em n f.type y
       pure (ForInStep.yield PUnit.unit))else pure (ForInStep.yield PUnit.unit)):Sem (ForInStep PUnit)).run P w= .ok (.yield ⟨⟩) w:=by
     intro f hf
     have:=h (f.offset,f.type,decide (f.name≠ "_")) (by simp only[qT,Ou];grind)
     simp only at this;split
     ·cases htf:T f.type with
      |none=>grind
      | some fi=>
       rw[htf]at this;simp only at this;cases hp:q6 fi cs f.offset with
       |none=>grind
       |some y=>
        rw[hp]at this;obtain⟨u,hu,hur⟩:=pE (P:=P) (w:=w) (S:=S) (β:=β) hT htf hvs hp;simp only[Sem.run_bind,hu,Result.andThen_ok];rw[kY hT d n (by omega) f.type y u em this hur];simp
     ·simp
    have:=vK (P:=P) (w:=w) (g:=fun(f:Field) (_:PUnit)=>(if f.name≠ "_" then(do
       let y <- part f.type vs.toArray f.offset
       Instr.checkKey em n f.type y
       pure (ForInStep.yield PUnit.unit))else pure (ForInStep.yield PUnit.unit):Sem (ForInStep PUnit))) fs.toList hall
    simp_all
   ·cases h
theorem wN(w:World)(hT:TOK P T){d:Nat}{t:Nat}{dd:TypeDesc}(hd:P.underlying t=some dd){x y:AV}{vx vy:Value}{b b':Bool}(h:Bb T (d+1) t x y=some b)(hx:VR S β x vx)(hy:VR S β y vy)(hs:Instr.sameNow dd vx vy=some b'):b'=b:=by
 have h0:=qj (P:=P) (w:=w) hT (d+1) (d+1) (M7 _) t x y vx vy b h hx hy;unfold Instr.sameNow at hs;split at hs
 ·split at hs
  ·rename_i hkk;simp only[M4]at hs;subst hs;simp[Op.equalIn,run_underlying hd,hkk]at h0;exact h0
  ·cases hs
 ·simp_all[Op.equalIn,run_underlying]
 ·simp_all[Op.equalIn,run_underlying]
 ·cases hs
def tG(S:ay)(β:List bI)(ents:List MapEntry)(i0:Nat):Option (Nat×AV×AV)->Option (Nat×Value)->Prop
 |none,r=>r=none
 |some (i,k,v),r=>∃u x,r=some (i,u)/\i0<=i/\ents[i-i0]? = some x/\VR S β k x.key/\VR S β v x.val/\u=x.val
theorem jl.cons{e:AV}{es:List AV}{ents:List MapEntry}(h:jl S β (e:: es) ents):∃k v x ents',e= .tup [k,v]/\ents=x:: ents'/\VR S β k x.key/\VR S β v x.val/\jl S β es ents':=by
 obtain⟨h1,h2⟩:=h;cases ents with
 |nil=>simp at h1
 |cons x ents'=>
  obtain⟨k,v,g1,g2,g3⟩:=h2 0 e x rfl rfl;exact⟨k,v,x,ents',g1,rfl,g2,g3,by simpa using h1,fun i a b ha hb=>h2 (i+1) a b (by simpa using ha) (by simpa using hb)⟩
theorem vF(hT:TOK P T){kt:Nat}{dd:TypeDesc}(hd:P.underlying kt=some dd){k:AV}{vk:Value}(hk:VR S β k vk):∀(es:List AV)(ents:List MapEntry)(i:Nat)(r:Option (Nat×AV×AV)),iX T kt k es i=some r->jl S β es ents->
  ∃r',tG S β ents i r r'/\(∀r2,Instr.findNow dd vk ents i=some r2->r2=r')/\(Instr.findAsking kt vk ents i).run P w= .ok r' w
 |[],ents,i,r,h,he=>by
  have:ents=[]:=by simpa using he.1.symm
  subst this;simp only[iX,M4]at h;subst h;exact⟨none,rfl,fun r2 h2=>by grind [Instr.findNow],by simp[Instr.findAsking]⟩
 | e :: es,ents,i,r,h,he=>by
  obtain⟨k',v,x,ents',rfl,rfl,hk',hv,he'⟩:=he.cons;simp only[iX]at h;cases hq:Bb T 20 kt k k' with
  |none=>grind
  | some b=>
   have heq:=qj (P:=P) (w:=w) hT 20 Op.maxDepth (by decide) kt k k' vk x.key b hq hk hk';have hsn:=fun b'=>wN (P:=P) (b':=b') w hT hd hq hk hk';rw[hq]at h;cases b with
   | true=>
    simp only[M4]at h;subst h;refine⟨some (i,x.val),⟨x.val,x,rfl,M7 _,by simp,hk',hv,rfl⟩,fun r2 h2=>?_,?_⟩
    ·unfold Instr.findNow at h2
     grind
    simp_all[Instr.findAsking,Op.equal]
   | false=>
    simp only at h;obtain⟨r',h1,h2,h3⟩:=vF hT hd hk es ents' (i+1) r h he';refine⟨r',?_,fun r2 hr2=>?_,?_⟩
    ·cases r with
     |none=>exact h1
     |some q=>
      obtain⟨j,k2,v2⟩:=q;obtain⟨u,y,g1,g2,g3,g4⟩:=h1;refine⟨u,y,g1,by omega,?_,g4⟩
      grind
    ·unfold Instr.findNow at hr2
     grind
    simp_all[Instr.findAsking,Op.equal]
theorem qp(hT:TOK P T){kt:Nat}{dd:TypeDesc}(hd:P.underlying kt=some dd){k:AV}{vk:Value}(hk:VR S β k vk){es:List AV}{ents:List MapEntry}{r:Option (Nat×AV×AV)}(h:iX T kt k es 0=some r)(he:jl S β es ents):
  ∃r',tG S β ents 0 r r'/\(Instr.findKey kt vk ents).run P w= .ok r' w:=by
 obtain⟨r',h1,h2,h3⟩:=vF (P:=P) (w:=w) hT hd hk es ents 0 r h he;refine⟨r',h1,?_⟩;unfold Instr.findKey;simp only[Sem.run_bind,run_underlying hd,Result.andThen_ok];cases hn:Instr.findNow dd vk ents 0 with
 |none=>exact h3
 |some r2=>
  simp_all
theorem wM{x y:AV}(h:zw x y=true){v u:Value}(hx:VR S β x v)(hy:VR S β y u):v=u/\x=y/\∀n,Instr.sameBits n v u=true:=by
 unfold zw at h;split at h
 ·simp only[VR]at hx hy
  have:=eq_of_beq h
  subst this hx hy;exact⟨rfl,rfl,fun n=>by cases n<;>simp[Instr.sameBits]⟩
 ·simp only[VR]at hx hy;simp only[M5,M8,NW]at h;obtain⟨rfl,rfl⟩:=h;subst hx hy;exact⟨rfl,rfl,fun n=>by cases n<;>simp[Instr.sameBits]⟩
 ·simp only[VR]at hx hy
  have:=eq_of_beq h
  subst this;obtain⟨x,rfl,hx⟩:=hx;obtain⟨y,rfl,hy⟩:=hy;have:x=y:=vq.1 (hx.trans hy.symm);subst this;exact⟨rfl,rfl,fun n=>by grind [Instr.sameBits,beq_toListBytes]⟩
 ·cases h
theorem tt:∀ {xs ys:List AV},ux xs ys=true->∀ {vs us:List Value},aV S β xs vs->aV S β ys us->vs=us/\xs=ys/\∀n,(vs.zip us).all (fun(x,y)=>Instr.sameBits n x y)=true
 |[],[],_,vs,us,hx,hy=>by
  simp only[aV]at hx hy;simp_all
 |x:: xs,y:: ys,h,vs,us,hx,hy=>by
  simp only[ux,M5]at h;simp only[aV]at hx hy;obtain⟨v,vs,rfl,h1,h2⟩:=hx;obtain⟨u,us,rfl,g1,g2⟩:=hy;obtain⟨rfl,rfl,k1⟩:=wM h.1 h1 g1;obtain⟨rfl,rfl,k2⟩:=tt h.2 h2 g2;simp_all
 |[],_:: _,h,_,_,_,_=>by cases h
 |_:: _,[],h,_,_,_,_=>by cases h
theorem CS{x y:AV}(h:zx x y=true){v u:Value}(hx:VR S β x v)(hy:VR S β y u):v=u/\x=y/\∀n,Instr.sameBits (n+1) v u=true:=by
 unfold zx at h;split at h
 ·simp only[VR]at hx hy;obtain⟨vs,rfl,h1⟩:=hx;obtain⟨us,rfl,h2⟩:=hy;obtain⟨rfl,rfl,k⟩:=tt h h1 h2;exact⟨rfl,rfl,fun n=>by simp_all[Instr.sameBits]⟩
 grind [wM]
theorem zi(hT:TOK P T){t kt et:Nat}(h:qP T t=some (kt,et)):P.underlying t=some (.map kt et):=by
 unfold qP at h;cases ht:T t with
 |none=>grind
 | some ti=>
  rw[ht]at h;obtain⟨i,dd,z,hi,hd,_,_,hsz,_,hk,_⟩:=(hT.get ht).ex;simp only at h;split at h
  ·rename_i hkk;simp only[M4,N9]at h;obtain⟨rfl,rfl⟩:=h;cases dd<;>simp only[kindOf,hkk,reduceCtorEq,TK.map.injEq]at hk
   grind
  ·cases h
theorem sJ(hT:TOK P T){d t:Nat}{x:AV}(h:Ba T d t x=true):∃dd,P.underlying t=some dd:=by
 cases d with
 |zero=>simp[Ba]at h
 | succ d=>
  unfold Ba at h;cases ht:T t with
  |none=>grind
  |some ti=>
   obtain⟨i,dd,z,hi,hd,_⟩:=(hT.get ht).ex
   grind
theorem Dp(hT:TOK P T){t:Nat}{ti:TI}(ht:T t=some ti):∃z,(zeroValue t).run P w= .ok z w/\VR S β (lF ti) z:=by
 obtain⟨i,d,z,hi,hd,hz,_⟩:=(hT.get ht).ex;exact⟨z,by simp[zeroValue,typeInfo,hi,hz],(sc hT ht hi hz).1⟩
theorem rj{r clock:Nat}{es:Array MapEntry}(hb:w.heap[r]? = some (.map es clock)):(getObj r).run P w= .ok (.map es clock) w:=by
 simp[getObj,Sem.run,hb]
def gR(w:World)(b:Nat)(o:Obj):World:={ w with heap:=w.heap.setIfInBounds b o }
theorem wL{r clock:Nat}{es:Array MapEntry}(o:Obj)(hb:w.heap[r]? = some (.map es clock)):(setObj r o).run P w= .ok () (gR w r o):=by
 simp[setObj,Sem.run,hb,gR]
theorem look_ok(hT:TOK P T){t:Nat}{es:List AV}{k r:AV}{ok:Bool}(h:ta T t es k ok=some r){vm vk:Value}(hk:VR S β k vk){ents:Array MapEntry}(he:jl S β es ents.toList)(hm:(vm= .map none/\ents= #[])\/∃b clock,vm= .map (some b)/\w.heap[b]? = some (.map ents clock)):rI P w S β (Instr.lookup t vm vk ok) r:=by
 unfold ta at h;cases hmt:qP T t with
 |none=>grind
 | some q=>
  obtain⟨kt,et⟩:=q;rw[hmt]at h;simp only at h;cases hck:Ba T 20 kt k with
  |false=>grind
  | true=>
   rw[hck]at h;simp only[M6]at h;cases hte:T et with
   |none=>grind
   | some ei=>
    rw[hte]at h;simp only at h;obtain⟨dd,hd⟩:=sJ hT hck;have hu:=zi hT hmt;have hc:=fun em=>kY (P:=P) (w:=w) hT 20 10000 (by decide) kt k vk em hck hk;have hgo:∀(r:AV)(r':Option (Nat×Value)),(Instr.findKey kt vk ents.toList).run P w= .ok r' w->
      (∃v b,(r'=none->b=false/\(zeroValue et).run P w= .ok v w)/\(∀q,r'=some q->b=true/\v=q.2)/\VR S β r (if ok then .tuple #[v,.bool b]else v))->rI P w S β (Instr.lookup t vm vk ok) r:=by
     rintro r r' hf ⟨v,b0,h1,h2,h3⟩;refine⟨_,?_,h3⟩;unfold Instr.lookup;rcases hm with⟨rfl,rfl⟩|⟨b,clock,rfl,hb⟩
     ·simp only[Sem.run_bind,run_underlying hu,Result.andThen_ok,Sem.run_pure,hc,hf];cases r' with
      |none=>simp_all
      |some q=>simp_all
     ·simp only[Sem.run_bind,run_underlying hu,Result.andThen_ok,rj hb,Sem.run_pure,hc,hf];cases r' with
      |none=>simp_all
      |some q=>simp_all
    cases hf:iX T kt k es 0 with
    |none=>grind
    | some q=>
     rw[hf]at h;obtain⟨r',h1,h2⟩:=qp (P:=P) (w:=w) hT hd hk hf he;cases q with
     |none=>
      simp only[M4]at h;subst h;simp only[tG]at h1;subst h1;obtain⟨z,hz,hzr⟩:=Dp (w:=w) (S:=S) (β:=β) hT hte;refine hgo _ none h2 ⟨z,false,fun _=>⟨rfl,hz⟩,(fun _ h=>by cases h),?_⟩;cases ok with
      |true=>simp only[M6,Nj,VR];exact⟨[z,.bool false],rfl,by simp only[aV,VR];grind⟩
      |false=>simpa using hzr
     |some q=>
      obtain⟨i,k',v⟩:=q;simp only[M4]at h;subst h;obtain⟨u,x,rfl,_,g2,g3,g4,rfl⟩:=h1;refine hgo _ _ h2 ⟨x.val,true,(fun h=>by cases h),(fun q h=>by grind),?_⟩;cases ok with
      |true=>simp only[M6,Nj,VR];exact⟨[x.val,.bool true],rfl,by simp only[aV,VR];grind⟩
      |false=>simpa using g4
theorem Hk(hT:TOK P T){t kt et:Nat}(hmt:qP T t=some (kt,et)){es es':List AV}{k v:AV}(hck:Ba T 20 kt k=true)(h:AL T kt es k v=some es'){vk vv:Value}(hk:VR S β k vk)(hv:VR S β v vv){ents:Array MapEntry}{clock b:Nat}(he:jl S β es ents.toList)(hst:pO ents.toList clock)(hb:w.heap[b]? = some (.map ents clock)):
  ∃ents' clock',(Instr.mapUpdate t (.map (some b)) vk vv).run P w= .ok () (gR w b (.map ents' clock'))/\jl S β es' ents'.toList/\pO ents'.toList clock'/\
   es.length<=es'.length/\(es'.length=es.length->clock'=clock/\ents'.toList.map (·.born)=ents.toList.map (·.born)):=by
 obtain⟨dd,hd⟩:=sJ hT hck;have hu:=zi hT hmt;have hc:=kY (P:=P) (w:=w) hT 20 10000 (by decide) kt k vk false hck hk;unfold AL at h;cases hf:iX T kt k es 0 with
 |none=>grind
 | some q=>
  rw[hf]at h;obtain⟨r',h1,h2⟩:=qp (P:=P) (w:=w) hT hd hk hf he;cases q with
  | none=>
   simp only[M4]at h;subst h;simp only[tG]at h1;subst h1;refine⟨ents.push { key:=vk,val:=vv,born:=clock },clock+1,?_,?_,?_,by simp,by simp⟩
   ·unfold Instr.mapUpdate;simp only[Sem.run_bind,run_underlying hu,Result.andThen_ok,rj hb,hc,h2,wL _ hb]
   ·refine⟨by simpa using he.1,fun i a x ha hx=>?_⟩;have hl:=he.1;simp only[Py]at hx;rw[List.getElem?_append]at ha hx;split at ha
    ·rename_i hlt;rw[Nn (by omega)]at hx;exact he.2 i a x ha hx
    grind
   ·refine⟨fun x hx=>?_,?_⟩
    ·simp only[Py,N5,OL]at hx;rcases hx with hx|rfl
     ·exact Nat.lt_succ_of_lt (hst.1 x hx)
     grind
    ·simp only[Py];rw[OQ];refine⟨hst.2,by simp,fun x hx y hy=>?_⟩;simp only[OL]at hy;subst hy;exact Nat.ne_of_lt (hst.1 x hx)
  | some q=>
   obtain⟨i,k',v0⟩:=q;simp only at h;cases hs:zx k' k with
   |false=>grind
   | true=>
    rw[hs]at h;simp only[M6,M4]at h;subst h;obtain⟨u,x,rfl,_,g2,g3,g4,rfl⟩:=h1;rw[OI]at g2;obtain⟨hkk,_,hbits⟩:=CS hs g3 hk;have g2':ents[i]? = some x:=by simpa using g2
    have hmod:(ents.modify i fun e=>{ e with key:=vk,val:=vv }).toList=ents.toList.set i { x with key:=vk,val:=vv }:=by
     apply OP;intro j;rw[Oi,O2,NP];by_cases hij:i=j
     ·grind
     ·simp[hij]
    have hmap:(ents.toList.set i { x with key:=vk,val:=vv }).map (·.born)=ents.toList.map (·.born):=by
     rw[List.map_set];apply OP;intro j;rw[NP];by_cases hij:i=j
     ·grind
     ·simp[hij]
    refine⟨ents.modify i fun e=>{ e with key:=vk,val:=vv },clock,?_,?_,?_,by simp,fun _=>?_⟩
    ·unfold Instr.mapUpdate;simp only[Sem.run_bind,run_underlying hu,Result.andThen_ok,rj hb,hc,h2];simp only[g2',OB,Option.getD_some,Instr.keyThatStays,hbits 9999,Nj,Sem.run_pure,Result.andThen_ok,wL _ hb]
    ·rw[hmod];refine⟨by simpa using he.1,fun j a y ha hy=>?_⟩;rw[NP]at ha hy;by_cases hij:i=j
     ·grind
     ·simp only[hij,Na]at ha hy;exact he.2 j a y ha hy
    ·rw[hmod];have hxm:x∈ents.toList:=Oy g2;refine⟨fun y hy=>?_,?_⟩
     ·have:y.born∈(ents.toList.set i { x with key:=vk,val:=vv }).map (·.born):=List.mem_map_of_mem hy;rw[hmap,Ou]at this;obtain⟨z,hz,hzb⟩:=this;rw[<- hzb];exact hst.1 z hz
     ·have h3:(ents.toList.map (·.born)).Pairwise (· ≠·):=Pz.2 hst.2
      grind
    grind
end
end Go.Av
namespace Go.Av
variable [Dr]
section
variable {P:Program} {cx:Cx} {c:Entry} {N:Nat} {U:Nat->Prop} {e:Env} {h:Hp} {a:Act} {w:World} {S:ay} {β:List bI} {γ:Nat->Value} {lam:Nat->Option Nat} {ω:Nat->Owner} {o:Oper} {gid:Nat}
theorem aU(H:FR c N U e h a w S β γ lam ω)(x:Operand)(ht:∀t,x= .tmp t->t<1000):VR S β (opnd e x) (a.eval x):=by
 cases x with
 |tmp t=>
  have:=H.slots t (ht t rfl)
  simp only[opnd,Env.av,Ent.av,Act.eval];cases hv:(e.get t).v with
  |val av=>rw[hv]at this;exact this
  |loc B off=>simp[VR]
 |const v=>exact Ie S β v
 | global g=>
  simp only[opnd,Act.eval];cases hg:yY g with
  |none=>simp only[VR]
  |some cs=>
   obtain⟨vs,h1,h2⟩:=c.gok.2.2 g cs hg;simp only[VR];exact⟨g,0,vs,rfl,aV.mono H.le (fN.nil β) _ _ h1,h2.mono H.le⟩
 |func f=>simp only[opnd,VR,Act.eval];exact⟨[],[],rfl,by simp[aV],by simp[aV]⟩
theorem nC(H:FR c N U e h a w S β γ lam ω):(xs:List Operand)->(∀x∈xs,∀t,x= .tmp t->t<1000)->aV S β (xs.map (opnd e)) (xs.map a.eval)
 |[],_=>by simp[aV]
 |x:: xs,ht=>by
  simp only[NL,aV];exact⟨_,_,rfl,aU H x (ht x (by simp)),nC H xs fun y hy=>ht y (by simp[hy])⟩
theorem lT(H:FR c N U e h a w S β γ lam ω)(x:Option Operand)(ht:∀y,x=some y->∀t,y= .tmp t->t<1000):jF S β (x.map (opnd e)) (x.map a.eval):=by
 cases x with
 |none=>rfl
 |some y=>exact⟨_,rfl,aU H y (ht y rfl)⟩
theorem ML(H:eE c N U e h a w):eE c N (UG U gid) e h a w:=H.wider fun _ h=>.inl h
theorem ef(H:FR c N U e h a w S β γ lam ω)(hd:∀t,o.dst=some t->t<N){r:Option AV}{m:Sem Value}(hrun:execOp a.eval o=(do pure (.value (<- m))))(hp:∀x,r=some x->rI P w S β m x)(hr:(ap (bF r) fun v=>am (e.upd o.dst (.ofV v))) h≠.fail):After P c N (UG U gid) ((ap (bF r) fun v=>am (e.upd o.dst (.ofV v))) h) o a w:=by
 cases r with
 |none=>exact absurd rfl hr
 |some x=>
  obtain⟨v,h1,h2⟩:=hp x rfl;exact After.val (v:=v) (w':=w) (by simp_all) (ML ⟨S,β,γ,lam,ω,H.setV hd h2⟩)
theorem yR(H:FR c N U e h a w S β γ lam ω)(hd:∀t,o.dst=some t->t<N){t:Nat}(ht:t<1000)(hrun:(execOp a.eval o).run P w= .ok (.value (a.tmps.getD t undef)) w):
  After P c N (UG U gid) (.ok (e.upd o.dst { ent:=e.get t }) h) o a w:=
 After.val hrun (ML ⟨S,β,γ,lam,ω,H.set hd (H.slots t ht) (fun g z hg hz=>H.grps t g z ht hg hz) (fun g hg=>H.used.1 t g hg)⟩)
theorem zj(H:FR c N U e h a w S β γ lam ω)(hd:∀t,o.dst=some t->t<N)(hU:∀g,gid<=g->g<gid+1000->¬U g){x:Operand}(hx:o.op= .move x\/o.op= .assign x)(ht:∀t,x= .tmp t->t<1000):
  After P c N (UG U gid) (bv cx e gid o h) o a w:=by
 have hrun:(execOp a.eval o).run P w= .ok (.value (a.eval x)) w:=by rcases hx with hx|hx<;>simp[execOp,hx]
 have hop:bv cx e gid o=aJ e o.dst (jb (bC cx.ann.hb o.dst) e gid x):=by unfold bv fE;rcases hx with hx|hx<;>rw[hx]
 rw[hop];unfold jb;cases x with
 |tmp t=>exact yR H hd (ht t rfl) hrun
 | const v=>
  simp only;cases hn:be (.const v)with
  | true=>
   have hv:v= .slice none 0 0:=by
    unfold be at hn;split at hn
    ·grind
    ·simp at hn
   subst hv;simp only[M6];cases htold:bC cx.ann.hb o.dst with
   |true=>exact After.val hrun (ML ⟨S,β,γ,lam,ω,H.setV hd (by simp only[VR];rfl)⟩)
   |false=>
   simp only[Nh];obtain⟨ω',F⟩:=H.own (v:=.slice none 0 0) (r:=.sl []) (z:=none) hd (by simp only[VR];grind) hU (.inl ⟨none,0,rfl,fun _=>rfl⟩);exact After.val hrun ⟨S,β,_,lam,ω',F⟩
  |false=>
   simp only[Nh];exact After.val hrun (ML ⟨S,β,γ,lam,ω,H.setV hd (aU H _ (fun t h=>by cases h))⟩)
 |global g=>
  exact After.val hrun (ML ⟨S,β,γ,lam,ω,H.setV hd (aU H _ (fun t h=>by cases h))⟩)
 |func f=>
  exact After.val hrun (ML ⟨S,β,γ,lam,ω,H.setV hd (aU H _ (fun t h=>by cases h))⟩)
omit [Dr]in
theorem aV.allR{S:ay}{β:List bI}{cs:List AV}{vs:List Value}(h:aV S β cs vs):∀i,i<cs.length->∃v,vs[i]? = some v/\VR S β (aa cs i) v:=by
 intro i hi;obtain⟨v,h1,h2⟩:=h.get (Ns hi)
 grind [aa]
theorem oA(H:FR c N U e h a w S β γ lam ω):(ps:List (Nat×Operand))->(∀p∈ps,∀t,p.2= .tmp t->t<1000)->iN S β (ps.map fun p=>(p.1,opnd e p.2)) (ps.map fun p=>(p.1,a.eval p.2))
 |[],_=>rfl
 |(i,x):: ps,ht=>by
  simp only[NL,iN];exact⟨_,_,rfl,aU H x (ht (i,x) (by simp)),oA H ps fun q hq=>ht q (by simp[hq])⟩
theorem rM(hT:TOK P cx.T)(H:FR c N U e h a w S β γ lam ω)(hd:∀t,o.dst=some t->t<N)(hU:∀g,gid<=g->g<gid+1000->¬U g){t n:Nat}{ps:Array (Nat×Operand)}(ho:o.op= .buildSlice t n ps)(ht:∀p∈ps.toList,∀t,p.2= .tmp t->t<1000)(hha:bC cx.ann.ha o.dst=false)(hr:bv cx e gid o h≠.fail):After P c N (UG U gid) (bv cx e gid o h) o a w:=by
 unfold bv fE at hr |-;rw[ho]at hr |-;simp only[hha,Nh]at hr |-;cases hb:bP cx.T t n (ps.toList.map fun p=>(p.1,opnd e p.2))with
 |none=>rw[hb]at hr;exact absurd rfl hr
 | some r=>
  obtain⟨es,x,el,sz,rfl,hlen,hrow,hrun⟩:=rL (w:=w) (qs:=ps.map fun p=>(p.1,a.eval p.2)) hT hb (by simpa using oA H ps.toList ht);have H2:=H.allocS x el x.size;have hv:VR (S.withRowTo w.heap.size x.size x) β (.sl es) (.slice (some ⟨w.heap.size,0,none⟩) n n):=by
   simp only[VR];refine⟨_,n,by rw[hlen],by omega,(fun h=>by cases h),fun q hq=>?_⟩;simp only[M4]at hq;subst hq;refine⟨fun _=>rfl,sz,hrow.at (fun k o v hv=>?_) (fun o y hy=>?_)⟩
   ·unfold ay.withRowTo;split
    ·rename_i hk;subst hk;rw[H.wf.none (M7 _)]at hv;simp at hv
    ·exact hv
   ·unfold ay.withRowTo
    grind
  have hex:(execOp a.eval o).run P w= .ok (.value (.slice (some ⟨w.heap.size,0,none⟩) n n)) (w.alloc (.cells x el)):=by
   simp only[execOp,ho,Sem.run_bind,hrun,Result.andThen_ok,Sem.run_pure]
  simp only[aJ,bF,ap,am];cases hno:bC cx.ann.no o.dst with
  |true=>
   simp only[M6];exact After.val hex (ML ⟨_,_,_,_,_,H2.setV hd hv⟩)
  |false=>
   simp only[Nh];obtain⟨ω',F⟩:=H2.own (z:=none) hd hv hU (.inl ⟨_,_,rfl,fun h=>by cases h⟩);exact After.val hex ⟨_,_,_,_,ω',F⟩
theorem uf(hT:TOK P cx.T)(H:FR c N U e h a w S β γ lam ω)(hd:∀t,o.dst=some t->t<N)(hU:∀g,gid<=g->g<gid+1000->¬U g){t:Nat}{l k:Operand}(ho:o.op= .makeSlice t l k)(hl:∀t,l= .tmp t->t<1000)(hk:∀t,k= .tmp t->t<1000)(hha:bC cx.ann.ha o.dst=false)(hr:bv cx e gid o h≠.fail):After P c N (UG U gid) (bv cx e gid o h) o a w:=by
 unfold bv fE at hr |-;rw[ho]at hr |-;simp only[hha,Nh]at hr |-;cases hb:mD cx.T t (opnd e l) (opnd e k)with
 |none=>rw[hb]at hr;exact absurd rfl hr
 | some r=>
  obtain⟨es,x,el,sz,cap,rfl,hes,hlen,hxs,hrow,hrun⟩:=ue (w:=w) hT hb (aU H l hl) (aU H k hk);have H2:=H.allocS x el (es.length*sz);have hle:es.length*sz<=cap*sz:=NA _ hlen;have hv:VR (S.withRowTo w.heap.size (es.length*sz) x) β (.sl es) (.slice (some ⟨w.heap.size,0,none⟩) es.length cap):=by
   simp only[VR];refine⟨_,cap,rfl,hlen,(fun h=>by cases h),fun q hq=>?_⟩;simp only[M4]at hq;subst hq;refine⟨fun _=>rfl,sz,.of_get fun i y hy=>?_⟩;obtain⟨v,v1,v2,v3⟩:=hrow i y hy;have hi:i<es.length:=by
    rcases NE i es.length with h|h
    ·exact h
    ·grind
   have hm:(i+1)*sz<=es.length*sz:=NA _ hi;rw[Ov]at hm;refine⟨v,VR.mono (fun k o v hv=>?_) (fN.refl β) _ _ v1,v2,fun j u hu=>?_⟩
   ·unfold ay.withRowTo;split
    ·rename_i hk;subst hk;rw[H.wf.none (M7 _)]at hv;simp at hv
    ·exact hv
   ·have hj:j<sz:=by
     rcases NE j v.cells.toList.length with h|h
     ·grind
     ·grind
    unfold ay.withRowTo
    grind
  have hωn:ω w.heap.size= .no:=by
   cases hoo:ω w.heap.size with
   |no=>rfl
   |_=>have:=(H.mine w.heap.size (by rw[hoo];simp)).2;omega
  obtain⟨ω',F⟩:=H2.own (z:=dv cx.T t) hd hv hU (.inr ⟨es.length,cap,sz,w.heap.size,0,x,rfl,hlen,hes,Row.new w x el,by omega,hωn,H.size,fun o' ho'=>by
   unfold ay.withRowTo;grind⟩)
  refine After.val (v:=.slice (some ⟨w.heap.size,0,none⟩) es.length cap) (w':=w.alloc (.cells x el)) ?_ ⟨_,_,_,_,ω',F⟩
  grind [execOp,Sem.run_bind,Result.andThen_ok,Sem.run_pure]
theorem C2(hT:TOK P cx.T)(H:FR c N U e h a w S β γ lam ω)(hd:∀t,o.dst=some t->t<N)(hU:∀g,gid<=g->g<gid+1000->¬U g){t:Nat}{x:Operand}{lo hi mx:Option Operand}(ho:o.op= .slice t x lo hi mx)(hx:∀t,x= .tmp t->t<1000)(hlo:∀y,lo=some y->∀t,y= .tmp t->t<1000)(hhi:∀y,hi=some y->∀t,y= .tmp t->t<1000)(hmx:∀y,mx=some y->∀t,y= .tmp t->t<1000)(hso:bC cx.ann.so o.dst=false)(hr:bv cx e gid o h≠.fail):After P c N (UG U gid) (bv cx e gid o h) o a w:=by
 unfold bv fE at hr |-;rw[ho]at hr |-;simp only[hso,Nh]at hr |-;cases hb:(bif bC cx.ann.hb o.dst then yz cx.T t (opnd e x) (lo.map (opnd e)) (hi.map (opnd e)) (mx.map (opnd e))else dl cx.T t (opnd e x) (lo.map (opnd e)) (hi.map (opnd e)) (mx.map (opnd e)))with
 |none=>rw[hb]at hr;exact absurd rfl hr
 | some r=>
  have hboth:∃v,(Instr.sliceAt t (a.eval x) (lo.map a.eval) (hi.map a.eval) (mx.map a.eval)).run P w= .ok v w/\VR S β r v/\((mx.map (opnd e)).isSome=true->(∃a n,v= .slice a n n)/\∃es,r= .sl es):=by
   cases htold:bC cx.ann.hb o.dst with
   |true=>rw[htold]at hb;exact A6 (P:=P) (w:=w) hT hb (aU H x hx) (lT H lo hlo) (lT H hi hhi) (lT H mx hmx)
   |false=>rw[htold]at hb;exact C1 (P:=P) (w:=w) hT hb (aU H x hx) (lT H lo hlo) (lT H hi hhi) (lT H mx hmx)
  obtain⟨v,hrun,hv,hown⟩:=hboth;have hrun':(execOp a.eval o).run P w= .ok (.value v) w:=by simp only[execOp,ho,Sem.run_bind,hrun,Result.andThen_ok,Sem.run_pure]
  cases mx with
  |none=>exact After.val hrun' (ML ⟨S,β,γ,lam,ω,H.setV hd hv⟩)
  | some m=>
   obtain⟨⟨ad,n,rfl⟩,es,rfl⟩:=hown rfl;have hn:ad=none->n=0:=by
    rintro rfl;have hv:=hv;simp only[VR]at hv;obtain⟨_,_,he,_,h2,_⟩:=hv;simp only[Value.slice.injEq]at he;obtain⟨rfl,_,rfl⟩:=he;exact h2 rfl
   obtain⟨ω',F⟩:=H.own (z:=none) hd hv hU (.inl ⟨ad,n,rfl,hn⟩);exact After.val hrun' ⟨_,_,_,_,ω',F⟩
end
section
variable {P:Program} {cx:Cx} {c:Entry} {N:Nat} {U:Nat->Prop} {e:Env} {h:Hp} {a:Act} {w:World} {S:ay} {β:List bI} {γ:Nat->Value} {lam:Nat->Option Nat} {ω:Nat->Owner} {o:Oper} {gid:Nat}
open Classical in
theorem Gt(hT:TOK P cx.T)(H:FR c N U e h a w S β γ lam ω)(hd:∀t,o.dst=some t->t<N)(hU:∀g,gid<=g->g<gid+1000->¬U g){t:Nat}{x:Operand}{lo hi mx:Option Operand}(ho:o.op= .slice t x lo hi mx)(hx:∀t,x= .tmp t->t<1000)(hlo:∀y,lo=some y->∀t,y= .tmp t->t<1000)(hr:aJ e o.dst (nB cx e gid t x lo hi mx) h≠.fail):After P c N (UG U gid) (aJ e o.dst (nB cx e gid t x lo hi mx) h) o a w:=by unfold nB at hr;exfalso;revert hr;(repeat' split)<;>first|(intro hr;exact hr rfl)|(generalize (BI cx.T t _&&hi.isNone&&mx.isNone)=b;cases b<;>exact fun hr=>hr rfl)
end
section
omit [Dr]
theorem tZ{a b:List MapEntry}(h:a.map (·.born)=b.map (·.born))(seen:Array Nat):pC a seen=pC b seen:=by
 have hl:a.length=b.length:=by simpa using Nq List.length h
 unfold pC;rw[hl];refine List.filter_congr fun i _=>?_
 have:=Nq (·[i]?) h
 grind
theorem tH.keepM{S S':ay}{β β':List bI}{w w':World}{h h':Hp}{b:Nat}{cs:List AV}(H:tH S β w h b cs)(hS:S.le S')(hβ:fN β β')(hb:w'.heap[b]? = w.heap[b]?)
  (hm:∀(l b':Nat)(es:List AV),β[l]? = some (b',0)->h'[l]? = some [.tup es]->∃es0,h[l]? = some [.tup es0]/\es0.length<=es.length/\
   (es.length=es0.length->∀ents clock,w.heap[b']? = some (.map ents clock)->∃ents',w'.heap[b']? = some (.map ents' clock)/\ents'.toList.map (·.born)=ents.toList.map (·.born))):tH S' β' w' h' b cs:=by
 rcases H with⟨es,h1,ents,clock,h2,h3,h4⟩|⟨l,n,ps,b',since,seen,last,cur,h1,h2,h3,h4,hcu,h5⟩|⟨h1,since,seen,last,h2⟩
 ·exact .inl ⟨es,h1,ents,clock,hb.trans h2,h3.mono hS hβ,h4⟩
 ·refine .inr (.inl ⟨l,n,ps,b',since,seen,last,cur,h1,hβ _ _ h2,h3,hb.trans h4,hcu,fun es he=>?_⟩);obtain⟨es0,g1,g2,g3⟩:=hm l b' es h2 he;obtain⟨k1,k2⟩:=h5 es0 g1;refine⟨by omega,fun hn=>?_⟩;obtain⟨ents,clock,j1,j2,j3,j4,j5⟩:=k2 (by omega);obtain⟨ents',i1,i2⟩:=g3 (by omega) ents clock j1;refine⟨ents',clock,i1,fun x hx=>?_,by rw[j3,tZ i2],j4,fun c hc=>?_⟩
  ·grind [List.mem_map_of_mem]
  ·obtain⟨x,hx,hs⟩:=j5 c hc;have h1:(ents'.toList.map (·.born))[c]? = some x.born:=by rw[i2,OZ,hx];rfl
   grind
 ·exact .inr (.inr ⟨h1,since,seen,last,hb.trans h2⟩)
theorem e9.mapRow{S:ay}{β:List bI}{w:World}{ω:Nat->Owner}{h:Hp}(H:e9 S β w ω h){l b:Nat}{es:List AV}(hl:h[l]? = some [.tup es])(hb:β[l]? = some (b,0)):
  ∃ents clock,w.heap[b]? = some (.map ents clock)/\jl S β es ents.toList/\pO ents.toList clock/\ω b= .heap l/\∀o,S b o=none:=by
 rcases H l _ hl (by simp)with⟨b',x,k1,k2,k3,k4,k5,_⟩|⟨b',k1,k2,k3,k4⟩
 ·rw[hb]at k1;simp only[M4,N9]at k1;have h2:=k4.length
  grind
 ·rw[hb]at k1;simp only[M4,N9,PN]at k1;subst k1;rcases k4 with⟨es',h1,ents,clock,h2,h3,h4⟩|⟨l',n,ps,b',since,seen,last,cur,h1,_⟩|⟨h1,_⟩
  all_goals grind
end
section
variable {P:Program} {cx:Cx} {c:Entry} {N:Nat} {U:Nat->Prop} {e:Env} {h:Hp} {a:Act} {w:World} {S:ay} {β:List bI} {γ:Nat->Value} {lam:Nat->Option Nat} {ω:Nat->Owner} {o:Oper} {gid:Nat}
theorem Gro.allocO(w:World)(o:Obj):Gro w (w.alloc o):=⟨by simp,rfl,rfl,rfl,fun _=>by simp⟩
theorem FR.allocO(H:FR c N U e h a w S β γ lam ω)(o:Obj):FR c N U e h a (w.alloc o) S β γ lam ω:=
 H.world (fun b o' v hv=>by rw[cell_of_heap (alloc_old w _ (H.wf.lt hv))];exact H.wf b o' v hv) (Gro.allocO w o) (fun b hb=>⟨alloc_old w _ hb,fun _=>rfl⟩) (ay.le_refl S)
theorem FR.newM(H:FR c N U e h a w S β γ lam ω):
  ∃ω',FR c N U e (h++[[.tup []]]) a (w.alloc (.map #[] 0)) S (β++[(w.heap.size,0)]) γ lam ω'/\(β++[(w.heap.size,0)])[h.length]? = some (w.heap.size,0):=by
 have H2:=H.allocO (.map #[] 0);have hext:fN β (β++[(w.heap.size,0)]):=fun l b hb=>by
  grind
 have hnew:(β++[(w.heap.size,0)])[h.length]? = some (w.heap.size,0):=by rw[<- H.hlen];simp
 have hωn:ω w.heap.size= .no:=by
  cases ho:ω w.heap.size with
  |no=>rfl
  |_=>have:=(H.mine w.heap.size (by rw[ho];simp)).2;omega
 have hω:∀b,ω b≠.no->ec ω w.heap.size (.heap h.length) b=ω b:=fun b hb=>by
  unfold ec;grind
 refine⟨ec ω w.heap.size (.heap h.length),⟨H2.wf,H2.gro,H2.keep,H2.le,fN.trans H2.ext hext,by simp[H.hlen],?_,H2.tsz,?_,H2.grps,?_,?_,?_,H2.used⟩,hnew⟩
 ·intro l cs' hl hne;rcases NE l h.length with hlt|hge
  ·rw[N4 hlt]at hl;rcases H2.heap l cs' hl hne with⟨b,x,k1,k2,k3,k4,k5⟩|⟨b,k1,k2,k3,k4⟩
   ·exact .inl ⟨b,x,hext _ _ k1,k2,by grind,k4.mono (ay.le_refl S) hext,k5⟩
   ·refine .inr ⟨b,hext _ _ k1,by grind,k3,k4.keepM (ay.le_refl S) hext rfl fun j b' es hj he=>?_⟩;have hjl:j<h.length:=by
     rw[<- H.hlen];exact (N6.1 hj).1
    grind
  ·rw[NS hge]at hl;have hlz:l=h.length:=by
    rcases NO (l-h.length)with h0|h0
    ·omega
    ·grind
   subst hlz;simp only[Pt,ND,M4]at hl;subst hl;exact .inr ⟨w.heap.size,hnew,by simp[ec],fun o=>H.wf.none (M7 _) o,.inl ⟨[],rfl,#[],0,heap_alloc_new w _,⟨rfl,fun i e x he=>by simp at he⟩,fun x hx=>by simp at hx,by simp⟩⟩
 ·intro t' ht'
  have:=H2.slots t' ht'
  cases hv:(e.get t').v with
  |val av=>rw[hv]at this;exact VR.mono (ay.le_refl S) hext _ _ this
  |loc B off=>rw[hv]at this;exact this
 ·intro B n hB;obtain⟨h1,h2,h3,b,y,h4,h5,h6,h7,h8⟩:=H2.lblk B n hB;refine⟨h1,h2,h3,b,y,h4,h5,by grind,h7,fun i hi=>?_⟩;obtain⟨v,a',g1,g2,g3,g4⟩:=h8 i hi;exact⟨v,a',g1,g2,VR.mono (ay.le_refl S) hext _ _ g3,g4⟩
 ·intro g z hg;obtain⟨a',len,cap,g1,g2,g3,g4⟩:=H2.free g z hg;refine⟨a',len,cap,g1,g2,g3,g4.imp id ?_⟩
  grind
 ·intro b hb;unfold ec at hb;split at hb
  ·rename_i hbb;subst hbb;exact⟨.inr H.size,by simp⟩
  ·rename_i hbb;exact⟨(H2.mine b hb).1.of_eq (by grind),(H2.mine b hb).2⟩
omit [Dr]in
theorem mH(w:World)(b:Nat)(o:Obj){k:Nat}(h:k≠b):(gR w b o).heap[k]? = w.heap[k]?:=by
 simp[gR,PL h]
omit [Dr]in
theorem rp{w:World}{b:Nat}(o:Obj)(h:b<w.heap.size):(gR w b o).heap[b]? = some o:=by
 simp[gR,h]
theorem FR.turnM(H:FR c N U e h a w S β γ lam ω){l b clock clock':Nat}{es es':List AV}{ents ents':Array MapEntry}(hl:h[l]? = some [.tup es])(hb:β[l]? = some (b,0))(hw:w.heap[b]? = some (.map ents clock))(he:jl S β es' ents'.toList)(hst:pO ents'.toList clock')(hle:es.length<=es'.length)(hborn:es'.length=es.length->clock'=clock/\ents'.toList.map (·.born)=ents.toList.map (·.born)):
  FR c N U e (h.set l [.tup es']) a (gR w b (.map ents' clock')) S β γ lam ω:=by
 obtain⟨ents0,clock0,h1,_,_,h3,h5⟩:=H.heap.mapRow hl hb;rw[hw]at h1;simp only[M4,Obj.map.injEq]at h1;obtain⟨rfl,rfl⟩:=h1;have hbw:b<w.heap.size:=(Ob.1 hw).1;have hlt:l<h.length:=by
  rcases NE l h.length with h'|h'
  ·exact h'
  ·grind
 have hωb:∀k,ω k≠.heap l->k≠b:=fun k hk=>by grind
 have hother:∀k,ω k≠.heap l->(gR w b (.map ents' clock')).heap[k]? = w.heap[k]?:=fun k hk=>mH w b _ (hωb k hk);have hg:Gro w (gR w b (.map ents' clock')):=⟨by simp[gR],rfl,rfl,rfl,fun _=>M7 _⟩;refine⟨fun k o v hv=>?_,H.gro.trans hg,fun k hk hE=>?_,H.le,H.ext,by simp[H.hlen],?_,H.tsz,H.slots,H.grps,?_,?_,fun k hk=>⟨(H.mine k hk).1,by simpa [gR]using(H.mine k hk).2⟩,H.used⟩
 ·have hkb:k≠b:=by rintro rfl;rw[h5]at hv;cases hv
  rw[cell_of_heap (mH w b _ hkb)];exact H.wf k o v hv
 ·have hkb:k≠b:=by
   rintro rfl
   have:=(H.mine k (by rw[h3];simp)).1.low
   rcases this with h|h
   ·exact hE h
   ·omega
  have:=H.keep k hk hE
  grind [mH]
 ·intro j ds hj hd;rw[NP]at hj;split at hj
  ·rename_i hlj;subst hlj;simp only[M4]at hj;subst hj;exact .inr ⟨b,hb,h3,h5,.inl ⟨es',rfl,ents',clock',rp _ hbw,he,hst⟩⟩
  ·rename_i hlj;rcases H.heap j ds hj hd with⟨k,x,k1,k2,k3,k4,k5⟩|⟨k,k1,k2,k3,k4⟩
   ·have hk:=hother k (by grind);exact .inl ⟨k,x,k1,k2.of_eq hk,k3,k4,k5.1,fun t ht=>by obtain⟨z,hz⟩:=k5.2 t ht;grind⟩
   ·have hk:=hother k (by grind);refine .inr ⟨k,k1,k2,k3,k4.keepM (ay.le_refl S) (fN.refl β) hk fun i b' es2 hi he2=>?_⟩;rw[NP]at he2;split at he2
    ·rename_i hli;subst hli;simp only[M4,Pb,AV.tup.injEq,PN]at he2;subst he2;rw[hb]at hi;simp only[M4,N9,PN]at hi;subst hi;refine⟨es,hl,hle,fun hh ents2 clock2 h2=>?_⟩;rw[hw]at h2;simp only[M4,Obj.map.injEq]at h2;obtain⟨rfl,rfl⟩:=h2
     grind [rp]
    ·rename_i hli;refine⟨es2,he2,M7 _,fun _ ents2 clock2 h2=>⟨ents2,?_,rfl⟩⟩;obtain⟨_,_,_,_,_,g,_⟩:=H.heap.mapRow he2 hi
     grind
 ·intro B n hB;obtain⟨k1,k2,k3,k,z,k4,k5,k6,k7,k8⟩:=H.lblk B n hB;exact⟨k1,k2,k3,k,z,k4,k5.of_eq (hother k (by rw[k6];simp)),k6,k7,k8⟩
 ·intro g z hg;obtain⟨a',len,cap,g1,g2,g3,g4⟩:=H.free g z hg;refine⟨a',len,cap,g1,g2,g3,g4.imp id ?_⟩;rintro⟨sz,k,off,z',k1,k2,k3,k4,k5,k6⟩;exact⟨sz,k,off,z',k1,k2,k3.of_eq (hother k (by rw[k5];simp)),k4,k5,k6⟩
theorem yg(H:FR c N U e h a w S β γ lam ω)(hd:∀t,o.dst=some t->t<N){t:TypeId}(ho:o.op= .makeMap t none)(hr:aJ e o.dst (.dyn gW .ofV) h≠.fail):After P c N (UG U gid) (aJ e o.dst (.dyn gW .ofV) h) o a w:=by
 obtain⟨ω',F,hnew⟩:=H.newM;have hrun:(execOp a.eval o).run P w= .ok (.value (.map (some w.heap.size))) (w.alloc (.map #[] 0)):=by
  simp[execOp,ho,Instr.makeMap]
 refine After.val hrun (ML ⟨_,_,γ,lam,ω',F.setV hd ?_⟩);simp only[VR]
 grind
theorem AC(hT:TOK P cx.T)(H:FR c N U e h a w S β γ lam ω)(hd:∀t,o.dst=some t->t<N){t:TypeId}{x i:Operand}{ok:Bool}(ho:o.op= .lookup t x i ok)(hx:∀t,x= .tmp t->t<1000)(hi:∀t,i= .tmp t->t<1000)(hr:aJ e o.dst (.dyn (jU cx.T t (opnd e x) (opnd e i) ok) .ofV) h≠.fail):After P c N (UG U gid) (aJ e o.dst (.dyn (jU cx.T t (opnd e x) (opnd e i) ok) .ofV) h) o a w:=by
 have hvx:=aU H x hx;have hvi:=aU H i hi;simp only[aJ,ap,am]at hr |-;unfold jU at hr |-;cases hes:oP h (opnd e x)with
 |none=>grind
 | some es=>
  rw[hes]at hr;simp only at hr |-;cases hl:ta cx.T t es (opnd e i) ok with
  |none=>grind
  | some r=>
   have key:rI P w S β (Instr.lookup t (a.eval x) (a.eval i) ok) r:=by
    unfold oP at hes;split at hes
    ·rename_i l hq;split at hes
     ·rename_i es' hh;simp only[M4]at hes;subst hes;rw[hq]at hvx;simp only[VR]at hvx;obtain⟨⟨b,n⟩,hb,h0,hv⟩:=hvx;simp only at h0;subst h0;obtain⟨ents,clock,g1,g2,_⟩:=H.heap.mapRow hh hb
      grind [look_ok]
     ·cases hes
    ·rename_i hq;simp only[M4]at hes;subst hes;rw[hq]at hvx;simp only[VR]at hvx;exact look_ok hT hl hvi (ents:=#[]) ⟨rfl,fun i e x he=>by simp at he⟩ (.inl ⟨hvx,rfl⟩)
    ·cases hes
   obtain⟨v,h1,h2⟩:=key;exact After.val (v:=v) (w':=w) (by grind [execOp,Sem.run_bind,Result.andThen_ok,Sem.run_pure]) (ML ⟨S,β,γ,lam,ω,H.setV hd h2⟩)
theorem CK(hT:TOK P cx.T)(H:FR c N U e h a w S β γ lam ω){t:TypeId}{m k x:Operand}(ho:o.op= .mapUpdate t m k x\/o.op= .insert t m k x)(hm:∀t,m= .tmp t->t<1000)(hk:∀t,k= .tmp t->t<1000)(hx:∀t,x= .tmp t->t<1000)(hr:aJ e o.dst (lp cx e o.dst t m k x) h≠.fail):After P c N (UG U gid) (aJ e o.dst (lp cx e o.dst t m k x) h) o a w:=by
 have hvm:=aU H m hm;have hvk:=aU H k hk;have hvx:=aU H x hx;unfold lp at hr |-;cases hdst:o.dst with
 |some d=>rw[hdst]at hr;exact absurd rfl hr
 | none =>
  rw[hdst]at hr;simp only[aJ,ap,am]at hr |-;unfold rY at hr |-;cases hmt:qP cx.T t with
  |none=>grind
  | some q=>
   obtain⟨kt,et⟩:=q;rw[hmt]at hr;simp only at hr |-;cases hck:Ba cx.T 20 kt (opnd e k)with
   |false=>grind
   | true=>
    rw[hck]at hr;simp only[M6]at hr |-;cases hq:opnd e m with
    | mp l=>
     rw[hq]at hr hvm;simp only at hr |-;cases hh:h[l]? with
     |none=>grind
     | some cs=>
      rw[hh]at hr
      match cs,hh,hr with
      | [.tup es],hh,hr=>
       simp only at hr |-;cases hp:AL cx.T kt es (opnd e k) (opnd e x)with
       |none=>grind
       |some es'=>
        simp only[VR]at hvm;obtain⟨⟨b,n⟩,hb,h0,hv⟩:=hvm;simp only at h0;subst h0;obtain⟨ents,clock,g1,g2,g3,_⟩:=H.heap.mapRow hh hb;obtain⟨ents',clock',k1,k2,k3,k4,k5⟩:=Hk hT hmt hck hp hvk hvx g2 g3 g1;refine After.skip (w':=gR w b (.map ents' clock')) hdst ?_ ?_
        ·grind [execOp,Sem.run_bind,Result.andThen_ok,Sem.run_pure]
        ·exact ML ⟨_,_,_,_,_,H.turnM hh hb g1 k2 k3 k4 k5⟩
    |_=>grind
end
section
variable {c:Entry} {N:Nat} {U:Nat->Prop} {e:Env} {h:Hp} {a:Act} {w:World} {S:ay} {β:List bI} {γ:Nat->Value} {lam:Nat->Option Nat} {ω:Nat->Owner} {P:Program} {cx:Cx} {gid:Nat} {o:Oper}
omit [Dr]in
theorem lQ{α:Type}{l:List α}{i:Nat}{x:α}(h:l[i]? = some x):i<l.length:=(N6.1 h).1
theorem CL(hT:TOK P cx.T)(H:FR c N U e h a w S β γ lam ω)(hd:∀t,o.dst=some t->t<N){t:TypeId}{x:Operand}(ho:o.op= .range t x)(hx:∀t,x= .tmp t->t<1000)(hr:aJ e o.dst (.dyn (uq cx.T t (opnd e x)) .ofV) h≠.fail):After P c N (UG U gid) (aJ e o.dst (.dyn (uq cx.T t (opnd e x)) .ofV) h) o a w:=absurd rfl hr
theorem BM(H:FR c N U e h a w S β γ lam ω)(hd:∀t,o.dst=some t->t<N){x:Operand}(ho:o.op= .entry x)(hx:∀t,x= .tmp t->t<1000)(hr:aJ e o.dst (.dyn (qh (opnd e x)) .ofV) h≠.fail):After P c N (UG U gid) (aJ e o.dst (.dyn (qh (opnd e x)) .ofV) h) o a w:=absurd rfl hr
end
section
variable {P:Program} {cx:Cx} {c:Entry} {N:Nat} {U:Nat->Prop} {e:Env} {h:Hp} {a:Act} {w:World} {S:ay} {β:List bI} {γ:Nat->Value} {lam:Nat->Option Nat} {ω:Nat->Owner} {o:Oper} {gid:Nat}
theorem FR.locals(H:FR c N U e h a w S β γ lam ω){B off n:Nat}(hin:jh e B off n=true):∃b x m,aS e.lb B=some m/\off+n<=m/\lam B=some b/\Row w b x/\m<=x.size/\
  ∀i,i<n->∃v a',x[off+i]? = some v/\(e.get (B+off+i)).v= .val a'/\VR S β a' v/\∀g z,(e.get (B+off+i)).g=some g->aK e.al g=some z->v=γ g:=by
 unfold jh at hin;split at hin
 ·rename_i m hm;have hle:off+n<=m:=by simp at hin;exact hin.1.1.1
  obtain⟨_,_,_,b,x,h1,h2,h3,h4,h5⟩:=H.lblk B m hm;have hms:m<=x.size:=by
   rcases NO m with h0|h0
   ·omega
   ·grind
  refine⟨b,x,m,hm,hle,h1,h2,hms,fun i hi=>?_⟩
  have:=h5 (off+i) (by omega)
  grind
 ·simp at hin
section
omit [Dr]
theorem qz{S:ay}{β:List bI}{e:Env}{B:Nat}{f:Nat->Value}:(n:Nat)->(∀i,i<n->VR S β (e.av (B+i)) (f i))->aV S β (kH e B n) ((List.range n).map f)
 |0,_=>by simp[kH,aV]
 |n+1,hh=>by
  simp only[kH,List.range_succ,PK,NL,PD];refine aV.append (qz n fun i hi=>hh i (by omega)) ?_;simp only[aV]
  grind
theorem pc(hT:TOK P cx.T){t:Nat}{ti:TI}(ht:cx.T t=some ti){b off:Nat}{x:Array Value}(hr:Row w b x)(f:Nat->Value)(hf:∀i,i<ti.size->x[off+i]? = some (f i)):
  (ti.agg=true->(loadVar t ⟨b,off,none⟩).run P w= .ok (.agg ((List.range ti.size).map f).toArray) w)/\(ti.agg=false->ti.size=1->(loadVar t ⟨b,off,none⟩).run P w= .ok (f 0) w):=by
 obtain⟨ii,d,_,hii,hd,_,_,hsz,_,_,hag,_⟩:=(hT.get ht).ex;refine⟨fun hagg=>?_,fun hagg hone=>?_⟩
 ·have:=run_loadCells (P:=P) w ⟨b,off,none⟩ ti.size f (fun j hj=>by rw[addr_add,hr.cell];exact hf j hj)
  simp_all[loadVar,gQ,run_sizeOf]
 ·have h0:=hf 0 (by omega);rw[<- hr.cell]at h0;simp_all[loadVar,gQ]
theorem Cn{T:TT}{t:Nat}{x:AV}{h:Hp}(hx:∀l off,x≠.hp l off):eI T t x h=match aX T t x with|some v=>.ok v h|none=>.fail:=by
 unfold eI
 grind
end
theorem ub(hT:TOK P cx.T)(H:FR c N U e h a w S β γ lam ω)(hd:∀t,o.dst=some t->t<N){t p:Nat}(ho:o.op= .load t (.tmp p))(hx:p<1000)(hr:aJ e o.dst (d8 cx e o.dst t p) h≠.fail):
  After P c N (UG U gid) (aJ e o.dst (d8 cx e o.dst t p) h) o a w:=by
 have hp:=H.slots p hx;unfold d8 at hr |-;cases hv:(e.get p).v with
 | loc B off=>
  rw[hv]at hr hp;simp only at hr |-;simp only[fU]at hp;obtain⟨b,hlam,hpv⟩:=hp;cases ht:cx.T t with
  |none=>rw[ht]at hr;exact absurd rfl hr
  | some ti=>
   rw[ht]at hr;simp only at hr |-;cases hin:jh e B off ti.size with
   |false=>rw[hin]at hr;exact absurd rfl hr
   | true=>
    rw[hin]at hr;simp only[M6]at hr |-;obtain⟨b',x,m,hm,hle,hlam',hrow,hms,hcells⟩:=H.locals hin;rw[hlam]at hlam';cases hlam';let f:Nat->Value:=fun i=>(x[off+i]?).getD undef;have hf:∀i,i<ti.size->x[off+i]? = some (f i):=fun i hi=>by
     grind
    have hload:=pc hT ht hrow f hf;have hexec:∀v,(loadVar t ⟨b,off,none⟩).run P w= .ok v w->(execOp a.eval o).run P w= .ok (.value v) w:=fun v hv'=>by
     grind [execOp,Act.eval,Instr.loadAt,Instr.sureAddr,Sem.run_bind,Sem.run_pure,Result.andThen_ok]
    cases hag:ti.agg with
    |true=>
     simp only[M6];refine After.val (hexec _ (hload.1 hag)) (ML ⟨S,β,γ,lam,ω,H.setV hd ?_⟩);simp only[VR];refine⟨_,rfl,qz ti.size fun i hi=>?_⟩
     grind [Env.av,Ent.av]
    | false=>
     rw[hag]at hr;simp only[Nh]at hr |-;cases hone:decide (ti.size=1)with
     |false=>rw[hone]at hr;exact absurd rfl hr
     |true=>
      have hone':ti.size=1:=by simpa using hone
      simp only[M6];obtain⟨v,a',g1,g2,g3,g4⟩:=hcells 0 (by omega);simp only[O0]at g1 g2 g4;have hfv:f 0=v:=by show (x[off+0]?).getD undef=v;rw[O0,g1];rfl
      refine After.val (hexec _ (hfv▸hload.2 hag hone')) (ML ⟨S,β,γ,lam,ω,H.set hd ?_ (fun g z hg hz=>g4 g z hg hz) (fun g hg=>H.used.1 _ g hg)⟩);rw[g2];exact g3
 | val av =>
  rw[hv]at hr hp;simp only at hr |-;simp only[fU]at hp;have hexec:∀v,(Instr.loadAt t (a.tmps.getD p undef)).run P w= .ok v w->(execOp a.eval o).run P w= .ok (.value v) w:=fun v hv'=>by
   grind [execOp,Act.eval,Sem.run_bind,Result.andThen_ok,Sem.run_pure]
  have hbyval:∀r,aX cx.T t av=some r->After P c N (UG U gid) (.ok (e.upd o.dst (.ofV r)) h) o a w:=fun r hr'=>by
   obtain⟨v,h1,h2⟩:=ua hT H.wf hr' hp;exact After.val (hexec v h1) (ML ⟨S,β,γ,lam,ω,H.setV hd h2⟩)
  cases hmem:bC cx.ann.hl o.dst with
  |false=>
   rw[hmem]at hr;simp only[Nh]at hr |-;cases hl:aX cx.T t av with
   |none=>rw[hl]at hr;exact absurd rfl hr
   |some r=>exact hbyval r hl
  | true =>
   rw[hmem]at hr;simp only[M6]at hr |-;simp only[aJ,ap]at hr |-;by_cases hav:∃l off,av= .hp l off
   ·obtain⟨l,off,rfl⟩:=hav;unfold eI at hr |-;simp only at hr |-;simp only[VR]at hp;obtain⟨⟨b,nb⟩,hb,hb0,hpv⟩:=hp;cases ht:cx.T t with
    |none=>grind
    | some ti=>
     cases hcs:h[l]? with
     |none=>grind
     | some cs=>
      rw[ht,hcs]at hr;simp only at hr |-;obtain⟨ii,d,_,hii,hdd,_,_,hsz,_,_,hagd,_⟩:=(hT.get ht).ex;by_cases hne:cs=[]
      ·subst hne;cases hag:ti.agg with
       | true=>
        rw[hag]at hr;simp only[M6,Nu]at hr |-;by_cases hz:off+ti.size<=0
        ·rw[Nn hz]at hr |-;have hz0:ti.size=0:=by omega
         have hl0:(loadVar t ⟨b,off,none⟩).run P w= .ok (.agg #[]) w:=by
          simp[loadVar,gQ hdd,hagd,hag,run_sizeOf hii,hsz,hz0,loadCells,loadCellsFrom]
         refine After.val (v:=.agg #[]) (hexec _ (by grind [Instr.loadAt,Instr.sureAddr])) (ML ⟨S,β,γ,lam,ω,H.setV hd ?_⟩)
         grind [VR,aV]
        grind
       |false=>grind
      ·obtain⟨y,k1,k2,k3,k4,k5⟩:=H.heap.cells hcs hne hb hb0;rw[hb]at k1;cases k1;have hcell:∀j v,(y.toList.take cs.length)[j]? = some v->w.cell? ⟨b,0+j,none⟩=some v:=fun j v hj=>by
        rw[NB,k2.cell]
        grind
       have hvd:=k4.drop off;have hcd:∀j v,((y.toList.take cs.length).drop off)[j]? = some v->w.cell? ⟨b,off+j,none⟩=some v:=fun j v hj=>by
        grind
       cases hag:ti.agg with
       | true=>
        rw[hag]at hr;simp only[M6]at hr |-;by_cases hz:off+ti.size<=cs.length
        ·rw[Nn hz]at hr |-;obtain⟨v,h1,h2⟩:=mB hT ht hvd hcd (r:=.agg ((cs.drop off).take ti.size)) (by grind);exact After.val (hexec v (by grind [Instr.loadAt,Instr.sureAddr])) (ML ⟨S,β,γ,lam,ω,H.setV hd h2⟩)
        grind
       | false=>
        rw[hag]at hr;simp only[Nh]at hr |-;cases hg:cs[off]? with
        |none=>grind
        |some r=>
         simp only;obtain⟨v,h1,h2⟩:=mB hT ht hvd hcd (r:=r) (by simp_all);exact After.val (hexec v (by grind [Instr.loadAt,Instr.sureAddr])) (ML ⟨S,β,γ,lam,ω,H.setV hd h2⟩)
   ·rw[Cn (fun l off hh=>hav ⟨l,off,hh⟩)]at hr |-;cases hl:aX cx.T t av with
    |none=>grind
    |some r=>exact hbyval r hl
end
section
variable {P:Program} {cx:Cx} {c:Entry} {N:Nat} {U:Nat->Prop} {e:Env} {h:Hp} {a:Act} {w:World} {S:ay} {β:List bI} {γ:Nat->Value} {lam:Nat->Option Nat} {ω:Nat->Owner} {o:Oper} {gid:Nat}
section
omit [Dr]
theorem gL{x:AV}{v:Value}(h:bh x=true)(hv:VR S β x v):v.cells= #[v]/\v.oneCell'=true:=by
 have h1:dA x=some 1:=by cases x<;>simp_all[bh,dA]
 have h2:cM 1 x=true:=by
  unfold cM;rw[h1];cases x<;>simp_all[bh,af]
 obtain⟨g1,g2,g3⟩:=lR h2 hv;have hc:v.cells= #[v]:=by
  cases x<;>simp[bh]at h<;>simp only[VR]at hv
  case bool=>subst hv;rfl
  case int=>subst hv;rfl
  case nilp=>subst hv;rfl
  case nilf=>subst hv;rfl
  case nili=>subst hv;rfl
  case hn=>subst hv;rfl
  case he=>obtain⟨_,rfl⟩:=hv;rfl
  case str=>obtain⟨_,rfl,_⟩:=hv;rfl
  case sl=>obtain⟨_,_,rfl,_⟩:=hv;rfl
  case ip=>obtain⟨_,_,_,rfl,_⟩:=hv;rfl
  case hp=>obtain⟨_,_,_,rfl⟩:=hv;rfl
  case mp=>obtain⟨_,_,_,rfl⟩:=hv;rfl
  case nilm=>subst hv;rfl
  case hs=>rcases hv with⟨_,_,_,_,rfl,_⟩|⟨_,_,rfl⟩<;>rfl
  case fn=>obtain⟨_,_,rfl,_⟩:=hv;rfl
  case iface=>obtain⟨_,rfl,_⟩:=hv;rfl
 grind
theorem pk(hT:TOK P cx.T){t:Nat}{ti:TI}(ht:cx.T t=some ti){b off:Nat}{x:Array Value}{v:Value}(hr:Row w b x)(hs:v.cells.size=ti.size)(hone:∀y∈v.cells.toList,y.oneCell'=true)(hle:off+ti.size<=x.size):
  (Instr.storeAt t (.pointer (some ⟨b,off,none⟩)) v).run P w= .ok () (w.setRow b (x.toList.take off++v.cells.toList++x.toList.drop (off+v.cells.toList.length)).toArray):=by
 obtain⟨ii,d,_,hii,hd,_,_,hsz,_⟩:=(hT.get ht).ex;obtain⟨te,hrow⟩:=hr;have hst:=run_storeCells_at P b off te v.cells.toList 0 x w hrow (by grind) hone;simp_all[Instr.storeAt,Instr.sureAddr,storeVar,run_sizeOf]
theorem nT{n:Nat}{x:AV}{cs:List AV}{v:Value}(h:ki n x=some cs)(hv:VR S β x v):cs=af x/\v.cells.size=n/\aV S β cs v.cells.toList/\∀y∈v.cells.toList,y.oneCell'=true:=by
 unfold ki at h;cases hk:cM n x with
 |false=>grind
 |true=>
  rw[hk]at h;simp only[M6,M4]at h;subst h;obtain⟨h1,h2,h3⟩:=lR hk hv
  grind
theorem wa{x:AV}(h:GG x=true):x= .hn:=by cases x<;>simp_all[GG]
end
theorem wX(hT:TOK P cx.T)(H:FR c N U e h a w S β γ lam ω)(_hN:∀t,t<1000->True)(hU:∀g,gid<=g->g<gid+1000->¬U g){t:Nat}{x y:Operand}(ho:o.op= .store t x y)(hx:∀t,x= .tmp t->t<1000)(hy:∀t,y= .tmp t->t<1000)(hpN:∀p,x= .tmp p->Aw (cj cx.ann.kinds p .L)=true->p<N)(hsp:∀p,x= .tmp p->rn cx p=false)(hr:bv cx e gid o h≠.fail):After P c N (UG U gid) (bv cx e gid o h) o a w:=by
 unfold bv fE at hr |-;rw[ho]at hr |-;cases x<;>simp only at hr |- <;> (try exact absurd rfl hr);rename_i p;cases hdst:o.dst with
 |some d=>rw[hdst]at hr;exact absurd rfl hr
 |none=>
 rw[hdst]at hr;simp only[hsp p rfl,Nh]at hr |-;cases hlw:cW cx.ann.lw p&&!(iZ (e.get p))with
 |true=>rw[hlw]at hr;exact absurd rfl hr
 |false=>
 rw[hlw]at hr;simp only[Nh]at hr |-;have hp:=H.slots p (hx p rfl);have hyv:=aU H y hy;have hexec:∀w',(Instr.storeAt t (a.tmps.getD p undef) (a.eval y)).run P w= .ok () w'->(execOp a.eval o).run P w= .ok .skip w':=fun w' hh=>by
  have he:a.eval (.tmp p)=a.tmps.getD p undef:=rfl
  grind [execOp,Sem.run_bind,Result.andThen_ok,Sem.run_pure]
 unfold fL at hr |-;cases hv:(e.get p).v with
 | loc B off=>
  rw[hv]at hr hp;simp only at hr |-;simp only[fU]at hp;obtain⟨b,hlam,hpv⟩:=hp;cases ht:cx.T t with
  |none=>rw[ht]at hr;exact absurd rfl hr
  | some ti =>
   rw[ht]at hr;simp only at hr |-;cases hin:jh e B off ti.size with
   |false=>rw[hin]at hr;exact absurd rfl hr
   | true =>
    rw[hin]at hr;simp only[M6]at hr |-;obtain⟨b',z,m,hm,hle,hlam',hrow,hms,hcells⟩:=H.locals hin;rw[hlam]at hlam';cases hlam';have hst:∀v,a.eval y=v->v.cells.size=ti.size->(∀q∈v.cells.toList,q.oneCell'=true)->
      (execOp a.eval o).run P w= .ok .skip (w.setRow b (z.toList.take off++v.cells.toList++z.toList.drop (off+v.cells.toList.length)).toArray):=fun v hv' h1 h2=>
     hexec _ (by grind [pk])
    cases hS:Aw (cj cx.ann.kinds p .L)with
    | true=>
     rw[hS]at hr;simp only[M6]at hr |-;cases hcond:mN e B off p ti.size with
     |false=>rw[hcond]at hr;exact absurd rfl hr
     | true=>
      rw[hcond]at hr;simp only[M6]at hr |-;unfold mN at hcond;rw[hm]at hcond;simp only[M5]at hcond;obtain⟨⟨h1,h2⟩,h3⟩:=hcond;have h1:=Nat.eq_of_beq_eq_true h1;have h3:=Nat.eq_of_beq_eq_true h3;subst h1 h3;unfold cy at hr |-;cases hcs:ki ti.size (opnd e y)with
      |none=>rw[hcs]at hr;exact absurd rfl hr
      |some cs=>
       obtain⟨k1,k2,k3,k4⟩:=nT hcs hyv;obtain⟨S',ω',_,F⟩:=H.storeS (u:=⟨.val (.tup []),none⟩) (hpN p rfl hS) hm (by simpa using k2) hlam hrow k3 hpv;refine After.skip hdst (hst _ rfl k2 k4) ?_;have F2:=F.wider (V:=UG U gid) (fun _ h=>.inl h);have hacs:af (.agg cs)=cs:=rfl;simp only[NM,NF,NB]at F2 |-;exact⟨_,_,_,_,_,F2⟩
    | false =>
     rw[hS]at hr;simp only[Nh]at hr |-;cases hag:ti.agg with
     | true =>
      rw[hag]at hr;simp only[M6]at hr |-;unfold aI at hr |-;cases hcs:ki ti.size (opnd e y)with
      |none=>rw[hcs]at hr;exact absurd rfl hr
      | some cs=>
       rw[hcs]at hr;simp only at hr |-;cases hnil:ge cs (eR cx.ann.nils p) ti.size with
       |false=>rw[hnil]at hr;exact absurd rfl hr
       | true=>
        obtain⟨k1,k2,k3,k4⟩:=nT hcs hyv;have hnb:∀i∈eR cx.ann.nils p,i<ti.size/\aa cs i= .hn:=fun i hi=>by
         simp_all[ge,wa]
        have hm1000:m<1000:=(H.lblk B m hm).2.2.1;have hcsl:cs.length=ti.size:=by rw[<- k3.length];simpa using k2
        have F:=H.storeL (u:=⟨.val (.tup []),none⟩) (L:=iE (B+off) cs (eR cx.ann.nils p) gid ti.size) (A:=oh (eR cx.ann.nils p) gid) (vs:=(a.eval y).cells.toList) (ent:=jo cs (eR cx.ann.nils p) gid)
         hU (ll (fun i hi=>(hnb i hi).1) (by omega)) hm hle (by simpa using k2) hlam hrow (fun t'=>qN _ _ _ _ _ _ _) (fun i hi=>by
          obtain⟨v,v1,v2⟩:=k3.allR i (by omega);unfold jo;cases hmem:cW (eR cx.ann.nils p) i with
          | true=>
           have hn:=(hnb i ((gd _ _).1 hmem)).2;rw[hn]at v2;simp only[VR]at v2;subst v2;refine⟨_,.sl [],v1,rfl,?_,fun g z hg _=>?_,fun g hg=>?_⟩
           ·simp only[VR];grind
           ·simp only[M6,M4]at hg;unfold γN
            grind
           grind
          |false=>grind)
        refine After.skip hdst (hst _ rfl k2 k4) ?_;exact⟨_,_,_,_,_,F⟩
     | false=>
      rw[hag]at hr;simp only[Nh]at hr |-;cases hone:decide (ti.size=1)with
      |false=>rw[hone]at hr;exact absurd rfl hr
      | true=>
       have hone':ti.size=1:=by simpa using hone
       rw[hone]at hr;simp only[M6]at hr |-;have hput:∀(v:Value)(u:Ent)(en:Ent)(A:List (Nat×Option Nat))(av:AV),a.eval y=v->v.cells= #[v]->v.oneCell'=true->fT A gid->en.v= .val av->VR S β av v->
         (∀g z,en.g=some g->aK (A++e.al) g=some z->v=γN γ gid g)->(∀g,en.g=some g->U g\/(gid<=g/\g<gid+1000))->
         After P c N (UG U gid) (.ok (e.upd none { ent:=u,ls:=[(B+off,en)],add:=A }) h) o a w:=by
        intro v u en A av hav hc1 hc2 hA hen hr1 hg1 hg2;have F:=H.storeL (u:=u) (L:=[(B+off,en)]) (A:=A) (n:=1) (m:=m) (off:=off) (vs:=v.cells.toList) (ent:=fun _=>en) hU hA hm (by omega) (by rw[hc1];rfl) hlam hrow (fun t'=>by
          simp only[NQ,NF,cn];by_cases ht':B+off=t'
          ·grind
          ·rw[M9 ht',M9 (by omega)];rfl) (fun i hi=>by
          grind)
        refine After.skip hdst (hst v hav (by grind) (by grind)) ?_;exact⟨_,_,_,_,_,F⟩
       rw[hdst]at *;cases y with
       | tmp s=>
        simp only at hr |-;have hs:=H.slots s (hy s rfl);cases hsv:(e.get s).v with
        |loc _ _=>rw[hsv]at hr;exact absurd rfl hr
        | val av=>
         rw[hsv]at hr hs;simp only at hr |-;unfold cw at hr |-;cases hok:bh av with
         |false=>rw[hok]at hr;exact absurd rfl hr
         |true=>
          obtain⟨j1,j2⟩:=gL hok hs;refine hput _ _ (e.get s) [] av rfl j1 j2 (gX gid) hsv hs (fun g z hg hz=>?_) (fun g hg=>.inl (H.used.1 s g hg));unfold γN;rw[M9 (fun hr=>hU g hr.1 hr.2 (H.used.1 s g hg))];exact H.grps s g z (hy s rfl) hg hz
       | const v=>
        simp only at hr |-;cases hn:be (.const v)with
        | true=>
         have hv':v= .slice none 0 0:=by
          unfold be at hn;split at hn
          ·grind
          ·simp at hn
         subst hv';refine hput _ _ _ _ (.sl []) rfl rfl rfl (rU gid) rfl ?_ (fun g z hg hz=>?_) (fun g hg=>?_)
         ·simp only[VR];exact⟨none,0,rfl,M7 _,fun _=>rfl,fun q hq=>by cases hq⟩
         ·simp only[M4]at hg;unfold γN;rw[Nn (by omega)];rfl
         grind
        | false=>
         rw[hn]at hr;simp only[Nh]at hr |-;unfold cw at hr |-;cases hok:bh (opnd e (.const v))with
         |false=>rw[hok]at hr;exact absurd rfl hr
         |true=>
          obtain⟨j1,j2⟩:=gL hok hyv;exact hput _ _ _ [] _ rfl j1 j2 (gX gid) rfl hyv (fun g z hg _=>by cases hg) (fun g hg=>by cases hg)
       | global g=>
        simp only[be,Nh]at hr |-;unfold cw at hr |-;cases hok:bh (opnd e (.global g))with
        |false=>rw[hok]at hr;exact absurd rfl hr
        |true=>
         obtain⟨j1,j2⟩:=gL hok hyv;exact hput _ _ _ [] _ rfl j1 j2 (gX gid) rfl hyv (fun g z hg _=>by cases hg) (fun g hg=>by cases hg)
       | func f=>
        simp only[be,Nh]at hr |-;unfold cw at hr |-;cases hok:bh (opnd e (.func f))with
        |false=>rw[hok]at hr;exact absurd rfl hr
        |true=>
         obtain⟨j1,j2⟩:=gL hok hyv;exact hput _ _ _ [] _ rfl j1 j2 (gX gid) rfl hyv (fun g z hg _=>by cases hg) (fun g hg=>by cases hg)
 | val av=>
  rw[hv]at hr hp;simp only at hr |-;simp only[fU]at hp;simp only[aJ,ap]at hr |-;cases hav:av with
  | hp l off=>
   subst hav;simp only[VR]at hp;obtain⟨⟨b,nb⟩,hb,hb0,hpv⟩:=hp;unfold da at hr |-;cases ht:cx.T t with
   |none=>grind
   | some ti=>
    rw[ht]at hr;simp only at hr |-;cases hcs:h[l]? with
    |none=>grind
    | some cs=>
     rw[hcs]at hr;simp only at hr |-;cases hcond:(cM ti.size (opnd e y)&&decide (off+ti.size<=cs.length)&&decide (0<ti.size))with
     |false=>grind
     | true=>
      rw[hcond]at hr;simp only[M6]at hr |-;simp only[M5,M8]at hcond;obtain⟨⟨h1,h2⟩,h3⟩:=hcond;obtain⟨k2,k3,k4⟩:=lR h1 hyv;have hne:cs≠[]:=by rintro rfl;simp at h2;omega
      obtain⟨z,j1,j2,j3,j4,j5⟩:=H.heap.cells hcs hne hb hb0;rw[hb]at j1;cases j1;have hzs:cs.length<=z.size:=by
       have:=j4.length
       simp at this;omega
      have hacl:(af (opnd e y)).length=ti.size:=by rw[<- k3.length];simpa using k2
      have F:=H.turnH (cs':=setCells cs off (af (opnd e y))) (y:=(z.toList.take off++(a.eval y).cells.toList++z.toList.drop (off+(a.eval y).cells.toList.length)).toArray) hcs hne ⟨_,hb⟩ j2 (by grind) (by
       rw[fM _ _ _ (by omega)];have hsp:aV S β (setCells cs off (af (opnd e y))) (((z.toList.take cs.length).take off++(a.eval y).cells.toList++(z.toList.take cs.length).drop (off+(a.eval y).cells.toList.length))):=by
        unfold setCells;have hl1:(a.eval y).cells.toList.length=(af (opnd e y)).length:=k3.length;rw[hl1];exact ((j4.take off).append k3).append (j4.drop _)
       have heq:(z.toList.take off++(a.eval y).cells.toList++z.toList.drop (off+(a.eval y).cells.toList.length)).take cs.length=
         (z.toList.take cs.length).take off++(a.eval y).cells.toList++(z.toList.take cs.length).drop (off+(a.eval y).cells.toList.length):=by
        rw[OD,OD];have hl:(a.eval y).cells.toList.length=ti.size:=by simpa using k2
        have e1:(z.toList.take off).length=off:=by simp;omega
        rw[Oz,Oz];have e2:min cs.length off=off:=by omega
        have e3:min off cs.length=off:=by omega
        rw[e2,e3,e1];have e4:(a.eval y).cells.toList.take (cs.length-off)=(a.eval y).cells.toList:=Od (by omega);rw[e4];congr 1;rw[PM,Np,e1,hl];congr 2;omega
       grind) (fun t ht=>ht.setCells.resolve_right (wz h1 t))
      refine After.skip hdst (hexec _ (by rw[hpv];exact pk hT ht j2 k2 k4 (by omega))) ?_;have hupd:∀E:Env,E.upd none (.ofV (.tup []))=E:=fun E=>rfl;rw[hupd];exact ML ⟨_,_,_,_,_,F⟩
  |_=>subst hav;unfold da at hr;grind
end
section
variable {P:Program} {cx:Cx} {c:Entry} {N:Nat} {U:Nat->Prop} {e:Env} {h:Hp} {a:Act} {w:World} {S:ay} {β:List bI} {γ:Nat->Value} {lam:Nat->Option Nat} {ω:Nat->Owner} {o:Oper} {gid:Nat}
omit [Dr]in
theorem CH{cs:List AV}{vs:List Value}(h:aV S β cs vs)(ho:cs.all bh=true):∀y∈vs,y.oneCell'=true:=by
 induction cs generalizing vs with
 |nil=>grind [aV]
 |cons x cs ih=>
  simp only[aV]at h;obtain⟨v,r,rfl,h1,h2⟩:=h;simp only[N0,M5]at ho;intro y hy;rcases NT.1 hy with rfl|hy
  ·exact (gL ho.1 h1).2
  grind
theorem FR.putH(H:FR c N U e h a w S β γ lam ω){l off b nb:Nat}{cs acs:List AV}{vs:List Value}(hcs:h[l]? = some cs)(hne:cs≠[])(hb:β[l]? = some (b,nb))(hb0:nb≠0)(hvs:aV S β acs vs)(hle:off+acs.length<=cs.length)(htag:∀t,¬cT t acs):
  ∃z,Row w b z/\cs.length<=z.size/\FR c N U e (h.set l (setCells cs off acs)) a (w.setRow b (z.toList.take off++vs++z.toList.drop (off+vs.length)).toArray) S β γ lam ω:=by
 obtain⟨z,j1,j2,j3,j4,j5⟩:=H.heap.cells hcs hne hb hb0;rw[hb]at j1;cases j1;have hvl:=hvs.length;have hzs:cs.length<=z.size:=by
  have:=j4.length
  simp at this;omega
 refine⟨z,j2,hzs,H.turnH hcs hne ⟨_,hb⟩ j2 (by simp;omega) ?_ (fun t ht=>ht.setCells.resolve_right (htag t))⟩;rw[fM _ _ _ (by omega)];have hsp:aV S β (setCells cs off acs) (((z.toList.take cs.length).take off++vs++(z.toList.take cs.length).drop (off+vs.length))):=by
  unfold setCells;rw[hvl];exact ((j4.take off).append hvs).append (j4.drop _)
 have heq:(z.toList.take off++vs++z.toList.drop (off+vs.length)).take cs.length=
   (z.toList.take cs.length).take off++vs++(z.toList.take cs.length).drop (off+vs.length):=by
  rw[OD,OD];have e1:(z.toList.take off).length=off:=by simp;omega
  rw[Oz,Oz];have e2:min cs.length off=off:=by omega
  have e3:min off cs.length=off:=by omega
  rw[e2,e3,e1];have e4:vs.take (cs.length-off)=vs:=Od (by omega);rw[e4];congr 1;rw[PM,Np,e1];congr 2;omega
 grind
theorem BD(hT:TOK P cx.T)(H:FR c N U e h a w S β γ lam ω)(hd:∀t,o.dst=some t->t<N){cc:Call}(ho:o.op= .call cc)(hcal:cc.callee= .builtin .clear){t:TypeId}{ts:List TypeId}{x:Operand}{xs:List Operand}(hts:cc.argTypes.toList=t:: ts)(hxs:cc.args.toList=x:: xs)(hx:∀t,x= .tmp t->t<1000)(hr:aJ e o.dst (.dyn (tO cx.T t (opnd e x)) .ofV) h≠.fail):After P c N (UG U gid) (aJ e o.dst (.dyn (tO cx.T t (opnd e x)) .ofV) h) o a w:=absurd rfl hr
end
section
variable {P:Program} {cx:Cx} {c:Entry} {N:Nat} {U:Nat->Prop} {e:Env} {h:Hp} {a:Act} {w:World} {S:ay} {β:List bI} {γ:Nat->Value} {lam:Nat->Option Nat} {ω:Nat->Owner} {o:Oper} {gid:Nat}
theorem JG(H:FR c N U e h a w S β γ lam ω)(hd:∀t,o.dst=some t->t<N){cs:List AV}{x:Array Value}{vs:List Value}{t:TypeId}(hvs:aV S β cs vs)(hx:∀(j:Nat)(v:Value),vs[j]? = some v->x[j]? = some v)(hrun:(execOp a.eval o).run P w= .ok (.value (.pointer (some ⟨w.heap.size,0,none⟩))) (w.alloc (.cells x t))):After P c N (UG U gid) (.ok (e.upd o.dst (.ofV (.ip cs))) h) o a w:=by
 have H2:=H.allocS x t x.size;refine After.val hrun (ML ⟨_,β,γ,lam,ω,H2.setV hd ?_⟩);simp only[VR];refine⟨w.heap.size,0,vs,rfl,hvs.mono (fun k o v hv=>?_) (fN.refl β),fun j v hj=>?_⟩
 ·unfold ay.withRowTo;split
  ·rename_i hk;subst hk;rw[H.wf.none (M7 _)]at hv;simp at hv
  ·exact hv
 ·have:=hx j v hj
  unfold ay.withRowTo
  grind
theorem zk(H:FR c N U e h a w S β γ lam ω)(hd:∀t,o.dst=some t->t<N){cs:List AV}{x:Array Value}{vs:List Value}{t:TypeId}(hvs:aV S β cs vs)(hx:∀(j:Nat)(v:Value),vs[j]? = some v->x[j]? = some v)(hrun:(execOp a.eval o).run P w= .ok (.value (.pointer (some ⟨w.heap.size,0,none⟩))) (w.alloc (.cells x t)))(hr:aJ e o.dst (.dyn (newH cs) .ofV) h≠.fail):After P c N (UG U gid) (aJ e o.dst (.dyn (newH cs) .ofV) h) o a w:=by
 have hcs:cs≠[]:=by
  rintro rfl;exact hr rfl
 have hemp:(cs.isEmpty||cs.any mw)=false:=by
  cases hq:(cs.isEmpty||cs.any mw)with
  |false=>rfl
  |true=>
   simp_all[aJ,ap,newH]
 have hnb:=zl (Oc.1 hemp).2;have htake:aV S β cs (x.toList.take cs.length):=by
  refine .of_get ?_ fun i y v hy hv=>?_
  ·have hl:=hvs.length;rw[N8];have:cs.length<=x.size:=by
    rcases NO cs.length with h0|h0
    ·omega
    ·obtain⟨v,hv,_⟩:=hvs.allR (cs.length-1) (by omega)
     grind
   simp;omega
  ·obtain⟨u,hu,hur⟩:=hvs.get hy
   grind
 obtain⟨ω',F,hnew,_⟩:=H.newH x t htake (fun t ht=>absurd ht (hnb t));have hx0:x.size≠0:=by
  have h1:=htake.length;have h2:=Oh.2 hcs;simp only[N8,NZ]at h1;omega
 simp only[aJ,ap,newH,hemp,Nh,am];refine After.val hrun (ML ⟨_,_,γ,lam,ω',F.setV hd ?_⟩);simp only[VR]
 grind
theorem ED(H:FR c N U e h a w S β γ lam ω)(hd:∀t,o.dst=some t->t<N){cs:List AV}{x:Array Value}{t:TypeId}(hvs:aV S β cs x.toList)(hrun:(execOp a.eval o).run P w= .ok (.value (.pointer (some ⟨w.heap.size,0,none⟩))) (w.alloc (.cells x t)))(hr:aJ e o.dst (.dyn (wx t cs) .ofV) h≠.fail):After P c N (UG U gid) (aJ e o.dst (.dyn (wx t cs) .ofV) h) o a w:=by
 simp only[aJ,ap,wx,am]at hr |-;split at hr
 ·rename_i h1 hm;split at hm
  ·rename_i r;cases hq:r.any mw with
   |true=>grind
   | false=>
    rw[hq]at hm;simp only[Nh,R.ok.injEq]at hm;obtain⟨rfl,rfl⟩:=hm;have htake:aV S β (.nilb t:: r) (x.toList.take (AV.nilb t:: r).length):=by
     have hl:=hvs.length;rw[show (AV.nilb t:: r).length=x.toList.length by rw[hl];rfl,OE];simp only[aV,VR]at hvs |-;exact hvs
    obtain⟨ω',F,hnew,_⟩:=H.newH x t htake (fun t' ht'=>by
     rcases ht'.cons with h|h
     all_goals grind [nL,zl])
    have hx0:x.size≠0:=by
     have hl:=hvs.length;simp at hl;omega
    refine After.val hrun (ML ⟨_,_,γ,lam,ω',F.setV hd ?_⟩);simp only[VR]
    grind
  ·cases hm
 all_goals grind
omit [Dr]in
theorem zM(hT:TOK P cx.T){t:Nat}{ti:TI}(ht:cx.T t=some ti):∃z:Value,(Instr.alloc t true (.tuple #[])).run P w= .ok (.pointer (some ⟨w.heap.size,0,none⟩)) (w.alloc (.cells z.cells t))/\z.cells.size=ti.size/\
  (∀told,aV S β (cr told ti) z.cells.toList):=by
 obtain⟨i,d,z,hi,hd,hz,hzs,hsz,_⟩:=(hT.get ht).ex;refine⟨z,?_,by omega,fun told=>rH hT ht told hi hz⟩;simp_all[Instr.alloc,zeroValue,typeInfo,newVar,newRow]
theorem Bh(hT:TOK P cx.T)(H:FR c N U e h a w S β γ lam ω)(hd:∀t,o.dst=some t->t<N)(hU:∀g,gid<=g->g<gid+1000->¬U g){t:Nat}(ho:o.op= .alloc t)(hr:bv cx e gid o h≠.fail):
  After P c N (UG U gid) (bv cx e gid o h) o a w:=by
 unfold bv fE at hr |-;rw[ho]at hr |-;simp only at hr |-;cases hdst:o.dst with
 |none=>rw[hdst]at hr;exact absurd rfl hr
 | some s=>
  rw[hdst]at hr;simp only at hr |-;unfold eP at hr |-;cases ht:cx.T t with
  |none=>rw[ht]at hr;exact absurd rfl hr
  | some ti=>
   rw[ht]at hr;simp only at hr |-;obtain⟨z,hrun,hzs,hz⟩:=zM (w:=w) (S:=S) (β:=β) hT ht;have hexec:(execOp a.eval o).run P w= .ok (.value (.pointer (some ⟨w.heap.size,0,none⟩))) (w.alloc (.cells z.cells t)):=by
    simp only[execOp,ho,Sem.run_bind,hrun,Result.andThen_ok,Sem.run_pure]
   have hL:∀A:Act1,A=(bif decide (ti.size<1000)&&aM e.sl (aH s)&&ge (cr true ti) (eR cx.ann.nils s) ti.size then
     .stat { ent:=⟨.loc (aH s) 0,none⟩,ls:=iE (aH s) (cr (cW cx.ann.hb s) ti) (eR cx.ann.nils s) gid ti.size,add:=oh (eR cx.ann.nils s) gid,lb:=some (aH s,ti.size) }else .bad)->
     aJ e (some s) A h≠.fail->After P c N (UG U gid) (aJ e (some s) A h) o a w:=by
    rintro A rfl hr;cases hcond:(decide (ti.size<1000)&&aM e.sl (aH s)&&ge (cr true ti) (eR cx.ann.nils s) ti.size)with
    |false=>rw[hcond]at hr;exact absurd rfl hr
    |true=>
     simp only[M6];simp only[M5,M8]at hcond;obtain⟨⟨h1,h2⟩,h3⟩:=hcond;obtain⟨lam',ω',F⟩:=H.allocL (s:=s) (n:=ti.size) (gid:=gid) (x:=z.cells) (t:=t) (cs:=cr (cW cx.ann.hb s) ti) (offs:=eR cx.ann.nils s) (hd s hdst) hU h1 (fun i hi=>by
       have hzz:=hz (cW cx.ann.hb s);have hl:=hzz.length;obtain⟨v,v1,v2⟩:=hzz.allR i (by grind)
       grind) (fun i hi=>by
       unfold ge at h3;rw[Nl]at h3
       have:=h3 i hi
       rw[M5]at this;have hn:=wa this.2;have hlt:i<ti.size:=by simpa using this.1
       have hzz:=hz true;have hl:=hzz.length;obtain⟨v,v1,v2⟩:=hzz.allR i (by grind)
       grind [VR]) h2
     refine After.val hexec ?_;rw[hdst];exact⟨_,_,_,_,_,F⟩
   cases hk:cj cx.ann.kinds s .L with
   |F=>
    simp only;rw[<- hdst];exact JG H hd (hz false) (fun j v hj=>by simpa using hj) hexec
   |H=>
    grind [zk]
   |B=>
    grind [ED]
   |L=>grind
   |S=>grind
theorem Gi(H:FR c N U e h a w S β γ lam ω)(hd:∀t,o.dst=some t->t<N)(hU:∀g,gid<=g->g<gid+1000->¬U g){t:Nat}{x:Operand}(ho:o.op= .box t x)(hx:∀t,x= .tmp t->t<1000)(hr:bv cx e gid o h≠.fail):
  After P c N (UG U gid) (bv cx e gid o h) o a w:=by
 unfold bv fE at hr |-;rw[ho]at hr |-;simp only at hr |-;cases hdst:o.dst with
 |none=>rw[hdst]at hr;exact absurd rfl hr
 | some s=>
  rw[hdst]at hr;simp only at hr |-;have hv:=aU H x hx;have hexec:(execOp a.eval o).run P w= .ok (.value (.pointer (some ⟨w.heap.size,0,none⟩))) (w.alloc (.cells (a.eval x).cells t)):=by
   simp[execOp,ho,Instr.box,newVar,newRow]
  obtain⟨vs,hvs,hvx⟩:=hv.acells
  have hL:∀A:Act1,A=(match cx.T t with
    |none=>.bad
    | some ti=>bif decide (ti.size<1000)&&aM e.sl (aH s)then
      .dyn (cy ti.size (opnd e x)) fun v=>{ ent:=⟨.loc (aH s) 0,none⟩,ls:=iE (aH s) (af v) [] 0 ti.size,lb:=some (aH s,ti.size) }
     else .bad)->aJ e (some s) A h≠.fail->After P c N (UG U gid) (aJ e (some s) A h) o a w:=by
   rintro A rfl hr;cases ht:cx.T t with
   |none=>rw[ht]at hr;exact absurd rfl hr
   | some ti=>
    rw[ht]at hr;simp only at hr |-;cases hcond:(decide (ti.size<1000)&&aM e.sl (aH s))with
    |false=>rw[hcond]at hr;exact absurd rfl hr
    | true=>
     rw[hcond]at hr;simp only[M6]at hr |-;simp only[M5,M8]at hcond;obtain⟨h1,h2⟩:=hcond;unfold cy at hr |-;cases hcs:ki ti.size (opnd e x)with
     |none=>rw[hcs]at hr;exact absurd rfl hr
     | some cs=>
      obtain⟨_,k2,k3,_⟩:=nT hcs hv;obtain⟨lam',ω',F⟩:=H.allocL (s:=s) (n:=ti.size) (gid:=gid) (x:=(a.eval x).cells) (t:=t) (cs:=cs) (offs:=[]) (hd s hdst) hU h1 (fun i hi=>by
       obtain⟨v,v1,v2⟩:=k3.allR i (by rw[<- k3.length];grind)
       grind) (fun i hi=>by simp at hi) h2
      refine After.val hexec ?_;rw[hdst];have hls:iE (aH s) cs [] 0 ti.size=iE (aH s) cs [] gid ti.size:=by simp[iE,cW]
      have hac:af (.agg cs)=cs:=rfl;simp only[hac,hls];exact⟨_,_,_,_,_,F⟩
  unfold ln at hr |-;cases hk:cj cx.ann.kinds s .F with
  |F=>
   simp only;rw[<- hdst];exact JG H hd hvs (fun j v hj=>by grind) hexec
  |H=>
   grind [zk]
  |B=>rw[hk]at hr;exact absurd rfl hr
  |L=>grind
  |S=>grind
theorem CX(H:FR c N U e h a w S β γ lam ω)(hd:∀t,o.dst=some t->t<N){B b off:Nat}(hlam:lam B=some b)(hrun:(execOp a.eval o).run P w= .ok (.value (.pointer (some ⟨b,off,none⟩))) w):
  After P c N (UG U gid) (.ok (e.upd o.dst { ent:=⟨.loc B off,none⟩ }) h) o a w:=
 After.val hrun (ML ⟨S,β,γ,lam,ω,H.set hd (by simp only[fU];grind) (fun _ _ h=>by cases h) (fun _ h=>by cases h)⟩)
theorem tW(hT:TOK P cx.T)(H:FR c N U e h a w S β γ lam ω)(hd:∀t,o.dst=some t->t<N){t f:Nat}{x:Operand}(ho:o.op= .fieldAddr t x f)(hx:∀t,x= .tmp t->t<1000)(hr:bv cx e gid o h≠.fail):
  After P c N (UG U gid) (bv cx e gid o h) o a w:=by
 unfold bv fE at hr |-;rw[ho]at hr |-;cases x<;>simp only at hr |- <;> (try exact absurd rfl hr);rename_i p;have hp:=H.slots p (hx p rfl);unfold iG at hr |-;cases hv:(e.get p).v with
 | loc B off=>
  rw[hv]at hr hp;simp only at hr |-;simp only[fU]at hp;obtain⟨b,hlam,hpv⟩:=hp;cases ht:cx.T t with
  |none=>rw[ht]at hr;exact absurd rfl hr
  | some ti=>
   rw[ht]at hr;simp only at hr |-;cases hf:ti.offs[f]? with
   |none=>rw[hf]at hr;exact absurd rfl hr
   | some q=>
    obtain⟨o',ft,nm⟩:=q;rw[hf]at hr;simp only at hr |-;cases hft:cx.T ft with
    |none=>rw[hft]at hr;exact absurd rfl hr
    | some fi=>
     rw[hft]at hr;simp only at hr |-;cases hz:decide (fi.size=0)with
     |true=>rw[hz]at hr;exact absurd rfl hr
     | false=>
      simp only[Nh];have hfa:aB cx.T t (.hp 0 off) f=some (.hp 0 (off+o')):=by
       unfold aB;rw[ht];simp only;rw[hf];simp only;rw[hft];simp only;rw[M9 (by simpa using hz)]
      obtain⟨v,h1,h2⟩:=m6 (P:=P) (w:=w) (S:=S) (β:=[(b,1)]) hT hfa (vx:=.pointer (some ⟨b,off,none⟩)) (by simp[VR]);simp only[VR]at h2;obtain⟨b',hb',_,rfl⟩:=h2;simp only[ND,M4]at hb';subst hb';refine CX H hd hlam ?_;have he:a.eval (.tmp p)= .pointer (some ⟨b,off,none⟩):=hpv
      grind [execOp,Sem.run_bind,Result.andThen_ok,Sem.run_pure]
 |val av=>
  rw[hv]at hr hp;simp only at hr |-;refine ef H hd (m:=Instr.fieldAt t (a.eval (.tmp p)) f) (by simp[execOp,ho]) (fun r hr'=>m6 hT hr' hp) hr
theorem tX(hT:TOK P cx.T)(H:FR c N U e h a w S β γ lam ω)(hd:∀t,o.dst=some t->t<N){t:Nat}{x i:Operand}(ho:o.op= .indexAddr t x i)(hx:∀t,x= .tmp t->t<1000)(hi:∀t,i= .tmp t->t<1000)(hr:bv cx e gid o h≠.fail):
  After P c N (UG U gid) (bv cx e gid o h) o a w:=by
 unfold bv fE at hr |-;rw[ho]at hr |-;cases x<;>simp only at hr |- <;> (try exact absurd rfl hr)
 rotate_left
 ·rename_i g;exact ef H hd (m:=Instr.indexAt t (a.eval (.global g)) (a.eval i)) (by simp[execOp,ho]) (fun r hr'=>kp hT hr' (aU H (.global g) (fun t h=>by cases h)) (aU H i hi)) hr
 rename_i p;have hp:=H.slots p (hx p rfl);unfold dT at hr |-;cases hv:(e.get p).v with
 | loc B off=>
  rw[hv]at hr hp;simp only at hr |-;simp only[fU]at hp;obtain⟨b,hlam,hpv⟩:=hp;cases ht:cx.T t with
  |none=>rw[ht]at hr;exact absurd rfl hr
  | some ti=>
   rw[ht]at hr;cases hci:qg i with
   |none=>rw[hci]at hr;exact absurd rfl hr
   |some n=>
   rw[hci]at hr;simp only at hr |-;obtain⟨ik,rfl⟩:∃ik,i= .const (.int ik n):=by
    unfold qg at hci
    grind
   cases hk:ti.kind<;>rw[hk]at hr<;>simp only at hr |- <;> (try exact absurd rfl hr);rename_i m el;cases hel:cx.T el with
   |none=>rw[hel]at hr;exact absurd rfl hr
   | some ei=>
    rw[hel]at hr;simp only at hr |-;cases hc:decide (0<=n/\n<m)with
    |false=>rw[hc]at hr;exact absurd rfl hr
    | true=>
     simp only[M6];have hia:aL cx.T t (.hp 0 off) (.int ik n)=some (.hp 0 (off+n.toNat*ei.size)):=by
      unfold aL;rw[ht];simp only;rw[hk];simp only;rw[hel];simp only;rw[Nn (by simpa using hc)]
     obtain⟨v,h1,h2⟩:=kp (P:=P) (w:=w) (S:=S) (β:=[(b,1)]) hT hia (vx:=.pointer (some ⟨b,off,none⟩)) (vi:=.int ik n) (by simp[VR]) (by simp[VR]);simp only[VR]at h2;obtain⟨b',hb',_,rfl⟩:=h2;simp only[ND,M4]at hb';subst hb';refine CX H hd hlam ?_;have he:a.eval (.tmp p)= .pointer (some ⟨b,off,none⟩):=hpv;have hei:a.eval (.const (.int ik n))= .int ik n:=rfl
     grind [execOp,Sem.run_bind,Result.andThen_ok,Sem.run_pure]
 |val av=>
  rw[hv]at hr hp;simp only at hr |-;refine ef H hd (m:=Instr.indexAt t (a.eval (.tmp p)) (a.eval i)) (by simp[execOp,ho]) (fun r hr'=>kp hT hr' hp (aU H i hi)) hr
theorem wy(H:FR c N U e h a w S β γ lam ω)(hd:∀t,o.dst=some t->t<N){x:Operand}(ho:o.op= .nilCheck x)(hx:∀t,x= .tmp t->t<1000)(hr:bv cx e gid o h≠.fail):
  After P c N (UG U gid) (bv cx e gid o h) o a w:=by
 unfold bv fE at hr |-;rw[ho]at hr |-;cases x<;>simp only at hr |- <;> (try exact absurd rfl hr);rename_i p;have hp:=H.slots p (hx p rfl);cases hv:(e.get p).v with
 |loc B off=>
  have hp2:=hp;rw[hv]at hr hp;simp only at hr |-;simp only[fU]at hp;obtain⟨b,hlam,hpv⟩:=hp;have he:a.eval (.tmp p)= .pointer (some ⟨b,off,none⟩):=hpv;exact yR H hd (hx p rfl) (by simp[execOp,ho,he,hpv])
 | val av=>
  rw[hv]at hr hp;simp only at hr |-;have he:a.eval (.tmp p)=a.tmps.getD p undef:=rfl;cases hn:iF av with
  |none=>rw[hn]at hr;exact absurd rfl hr
  | some r=>
   have hrun:(execOp a.eval o).run P w= .ok (.value (a.tmps.getD p undef)) w/\r=av:=by
    simp only[fU]at hp;unfold iF at hn;split at hn<;>simp only[M4,reduceCtorEq]at hn<;>subst hn<;>simp only[VR]at hp
    ·obtain⟨b,off,vs,hpv,_⟩:=hp;exact⟨by simp[execOp,ho,he,hpv],rfl⟩
    ·obtain⟨b,hb,hpv⟩:=hp;exact⟨by simp[execOp,ho,he,hpv],rfl⟩
    ·obtain⟨y,hpv,_⟩:=hp;exact⟨by simp[execOp,ho,he,hpv],rfl⟩
    ·obtain⟨y,z,hpv,_⟩:=hp;exact⟨by simp[execOp,ho,he,hpv],rfl⟩
   obtain⟨hrun,rfl⟩:=hrun;exact After.val hrun (ML ⟨S,β,γ,lam,ω,H.setV hd hp⟩)
end
section
variable {P:Program} {cx:Cx} {c:Entry} {N:Nat} {U:Nat->Prop} {e:Env} {h:Hp} {a:Act} {w:World} {S:ay} {β:List bI} {γ:Nat->Value} {lam:Nat->Option Nat} {ω:Nat->Owner} {o:Oper} {gid:Nat}
theorem FR.out'(H:FR c N U e h a w S β γ lam ω){S':ay}{β':List bI}{w':World}{h':Hp}(L:Left (ci β h) S β w S' β' w' h'):Out c h' w' S' β':=by
 obtain⟨ω',F,_⟩:=H.left L;exact F.out
theorem iR(hC:db P cx.own cx.call)(H:FR c N U e h a w S β γ lam ω)(hd:∀t,o.dst=some t->t<N)(hU:∀g,gid<=g->g<gid+1000->¬U g){f:FuncId}{args:List AV}{vs:List Value}(hargs:aV S β args vs)(hrun:(P.funcs[f]?).any (fun fn=>fn.body.isSome&&!(fn.name== "runtime.NumGoroutine"))=true->(execOp a.eval o).run P w= .ok (.enter f vs.toArray) w){sh:AV->Upd}(hsh:(∀v,sh v= .ofV v)\/∃sz,cx.own f=some sz/\∀v,sh v= .own v gid (some sz))(hr:(ap (cx.call f args) fun v=>am (e.upd o.dst (sh v))) h≠.fail):After P c N (UG U gid) ((ap (cx.call f args) fun v=>am (e.upd o.dst (sh v))) h) o a w:=by
 have hne:cx.call f args h≠.fail:=by
  intro hf;unfold ap at hr;rw[hf]at hr;exact hr rfl
 obtain⟨hcalls,hfn⟩:=hC f args h S β w vs hne H.gok H.wf H.heapX hargs;have hrun:=hrun hfn;intro next Q hn hp
 unfold Oper.wp;rw[hrun];simp only[Oper.upon];refine hcalls.mono fun en w' hpost=>?_;unfold ap at hn hp;cases hres:cx.call f args h with
 |fail=>grind
 |pan pv h'=>
  rw[hres]at hpost hp;obtain⟨S',β',v,rfl,hv,hleft⟩:=hpost;exact hp pv h' v w' rfl ⟨S',β',H.out' hleft,hv⟩
 | ok rv h'=>
  rw[hres]at hpost hn;obtain⟨S',β',v,rfl,hv,hleft,hown⟩:=hpost;obtain⟨ω',F,hno⟩:=H.left hleft;refine hn (e.upd o.dst (sh rv)) h' _ _ rfl ?_ (put_defers a o.dst v);rcases hsh with hsh|⟨sz,hof,hsh⟩
  ·rw[hsh];exact ML ⟨_,_,_,_,_,F.setV hd hv⟩
  ·rw[hsh];obtain⟨ad,len,cap,rfl,h1,h2,h3⟩:=hown sz hof;obtain⟨ω2,F2⟩:=F.own (z:=some sz) hd hv hU (by
    rcases h3 with h3|⟨b,off,x,rfl,g1,g2,g3,g4,g5⟩
    ·grind
    ·exact .inr ⟨len,cap,sz,b,off,x,rfl,h1,rfl,g1,g2,hno b g3 g4,NK H.size g3,g5⟩)
   exact⟨_,_,_,_,ω2,F2⟩
section
omit [Dr]
theorem kh{f:FuncId}{args:Array Value}(hf:(P.funcs[f]?).any (fun fn=>fn.body.isSome&&!(fn.name== "runtime.NumGoroutine"))=true):(callFunc f args).run P w= .ok (.enter f args) w:=by
 cases hfn:P.funcs[f]? with
 |none=>grind
 |some fn=>
  rw[hfn]at hf;simp only[Option.any_some,M5,NR]at hf;obtain⟨h1,h2⟩:=hf;have h3:fn.body.isNone=false:=by cases hb:fn.body<;>simp_all
  simp only[callFunc,Sem.run_bind,run_program,Result.andThen_ok,hfn,h2,M3,Na,h3,Sem.run_pure]
theorem sT{z:Option Nat}{g sz:Nat}{v:Value}(hf:oG S w ω g z v)(hz:uF z (some sz)=true):nP w sz v/\(z=none\/z=some sz):=by
 have hz':z=none\/z=some sz:=by
  unfold uF at hz;cases z with
  |none=>exact .inl rfl
  |some n=>simp_all
 refine⟨?_,hz'⟩;obtain⟨ad,len,cap,h1,h2,h3,h4⟩:=hf;refine⟨ad,len,cap,h1,h2,h3,h4.imp id ?_⟩
 grind
theorem Bj{T:TT}{t:Nat}{as:List AV}{y r:AV}(h:fB T t (.sl as) y=some r):∃ti e ei bs,T t=some ti/\ti.kind= .slice e/\T e=some ei/\iv y=some bs/\dS ei.size as=true/\dS ei.size bs=true/\
  (as.length+bs.length)*ei.bytes<=140737488355328/\0<ei.bytes/\r= .sl (as++bs)/\dv T t=some ei.size/\lz y ei.size=true:=by
 unfold fB at h;cases ht:T t with
 |none=>grind
 | some ti=>
  rw[ht]at h;simp only at h;split at h
  ·rename_i e hk;cases he:T e with
   |none=>grind
   | some ei=>
    rw[he]at h;simp only at h;cases hb:iv y with
    |none=>grind
    | some bs=>
     rw[hb]at h;simp only at h;cases hc:(dS ei.size as&&dS ei.size bs&&decide ((as.length+bs.length)*ei.bytes<=140737488355328)&&decide (0<ei.bytes)&&lz y ei.size)with
     |false=>grind
     |true=>
      rw[hc]at h;simp only[M6,M4]at h;simp only[M5,M8]at hc;obtain⟨⟨⟨⟨h1,h2⟩,h3⟩,h4⟩,h5⟩:=hc;exact⟨ti,e,ei,bs,rfl,hk,he,rfl,h1,h2,h3,h4,h.symm,by simp[dv,ht,hk,he],h5⟩
  ·simp at h
theorem DG{T:TT}{t:Nat}{x y r:AV}(h:fB T t x y=some r):∃as,x= .sl as:=by
 unfold fB at h
 grind
theorem tA{y:AV}{n:Nat}(h:lz y n=true):∀s,y= .str s->n=1:=by
 rintro s rfl;exact Nat.eq_of_beq_eq_true h
theorem cD{t u:TypeId}{x y:Operand}{cc:Call}(ho:o.op= .call cc)(hb:cc.callee= .builtin .append)(ht:cc.argTypes.toList=[t,u])(hx:cc.args.toList=[x,y]){v:Value}{w':World}(hrun:(Builtin.append_ #[t,u] o.type #[a.eval x,a.eval y]).run P w= .ok v w'):(execOp a.eval o).run P w= .ok (.value v) w':=by
 have h1:cc.argTypes= #[t,u]:=by apply Array.ext';simpa using ht
 have h2:cc.args= #[x,y]:=by apply Array.ext';simpa using hx
 simp_all[execOp,resolve,invoke,builtin]
theorem oT{ag:Bool}{sz:Nat}(hs:ag=true\/sz=1):∀(n:Nat)(cs:List AV)(vs:List Value),aV S β cs vs->n*sz<=cs.length->(cs.take (n*sz)).all bh=true->dJ S β (kj ag sz n cs) (vs.take (n*sz)) sz
 |0,cs,vs,_,_,_=>by rw[Nat.zero_mul,NM];exact .nil sz
 | n + 1,cs,vs,hv,hl,hok=>by
  have hm:(n+1)*sz=sz+n*sz:=by rw[Ov,Nat.one_mul,Nat.add_comm]
  have hle:sz<=cs.length:=by omega
  have hvl:=hv.length
  have h1:dJ S β [bif ag then .agg (cs.take sz)else aa cs 0] (vs.take sz) sz:=by
   have hcl:(vs.take sz).length=sz:=by simp;omega
   have hone:∀(c:AV)(x:Value)(j:Nat),j<sz->cs[j]? = some c->vs[j]? = some x->x.cells= #[x]/\x.oneCell'=true:=fun c x j hj hc hx=>by
    obtain⟨y,hy,hr⟩:=hv.get hc;rw[hx]at hy;cases hy;refine gL (Nl.1 hok c (Oy (i:=j) ?_)) hr
    grind
   have hex:∀(j:Nat)(x:Value),j<sz->vs[j]? = some x->∃c,cs[j]? = some c:=fun j x hj hx=>⟨_,Ns (by omega)⟩;refine⟨by rw[hcl];simp,fun i e he=>?_,fun x hx=>?_⟩
   ·cases i with
    |succ i=>simp at he
    | zero=>
     simp only[ND,M4]at he;subst he;cases ag with
     |true=>
      refine⟨.agg (vs.take sz).toArray,by simp only[M6,VR];exact⟨_,rfl,hv.take sz⟩,by simp[Value.cells];omega,fun j x hx=>?_⟩;simpa [Value.cells]using hx
     | false=>
      rcases hs with hs|hs
      ·cases hs
      ·subst hs;have hc0:cs[0]? = some (aa cs 0):=by
        unfold aa;rw[Ns (by omega),Ot,Ns (by omega)];rfl
       obtain⟨y,hy,hr⟩:=hv.get hc0
       grind
   ·grind [List.getElem?_of_mem]
  have h2:=oT hs n (cs.drop sz) (vs.drop sz) (hv.drop sz) (by simp;omega) (by
   grind)
  have:=h1.append h2
  rw[hm,List.take_add];exact this
end
def sb(P:Program)(S:ay)(β:List bI)(w:World)(v:Value)(Y:AV):Prop:=
 ∀(sz:Nat)(bs:List AV),iv Y=some bs->dS sz bs=true->(∀s,Y= .str s->sz=1)->(Builtin.lenOf v).run P w= .ok bs.length w/\∃cs:List Value,dJ S β bs cs sz/\
  ∀w':World,(∀a:Addr,w'.cell? a=w.cell? a)->(Builtin.firstCells sz bs.length v).run P w'= .ok cs.toArray w'
omit [Dr]in
theorem j9{Y:AV}{v:Value}(hw:Wf S w)(hv:VR S β Y v):sb P S β w v Y:=fun sz bs he hok hs=>by
 obtain⟨h1,cs,h2,h3⟩:=src_ok (P:=P) hw he hv hok hs;exact⟨h1,cs,h2,fun w' hw'=>h3 w' fun b o x hx=>by rw[hw'];exact hw b o x hx⟩
omit [Dr]in
theorem p9(ag:Bool)(sz:Nat):∀(n:Nat)(cs:List AV),(kj ag sz n cs).length=n
 |0,_=>rfl
 |n+1,cs=>by simp[kj,p9 ag sz n]
theorem mI(H:FR c N U e h a w S β γ lam ω){Y:AV}{v:Value}{es:List AV}(hv:VR S β Y v)(hsrc:oD h Y=some es):sb P S β w v (.sl es):=fun sz' bs he hok _=>by
 simp only[iv,M4]at he;subst he;unfold oD at hsrc;split at hsrc
 ·cases hsrc;obtain⟨q,cap,rfl,_⟩:=hv.hs_some;exact⟨rfl,[],.nil sz',fun w' _=>run_firstCells_some w' sz' 0 q 0 cap [] (by simp) fun j x hx=>by simp at hx⟩
 ·rename_i l off len sz ag _;cases hcs:h[l]? with
  |none=>grind
  | some cs=>
   rw[hcs]at hsrc;simp only at hsrc;cases hb:((ag||Nat.beq sz 1)&&decide (off+len*sz<=cs.length)&&((cs.drop off).take (len*sz)).all bh)with
   |false=>grind
   | true =>
    rw[hb]at hsrc;simp only[M6,M4]at hsrc;subst hsrc;simp only[M5,M8,NU]at hb;obtain⟨⟨h1,h2⟩,h3⟩:=hb;have hag:ag=true\/sz=1:=h1.imp id Nat.eq_of_beq_eq_true;rw[p9];rcases NO len with rfl|h0
    ·grind
    ·obtain⟨⟨b',nb⟩,cap,hβ,hb0,rfl,hlc,hcn⟩:=hv.hs_pos h0;have hne:cs≠[]\/sz=0:=by
      rcases NO sz with hz|hz
      ·exact .inr hz
      ·refine .inl ?_;rintro rfl
       have:=OS h0 hz
       grind
     -- the size of an element is that of the slice
     have hsz:sz'=sz:=by
      have hall:=Nl.1 hok (bif ag then .agg ((cs.drop off).take sz)else aa (cs.drop off) 0) (by
       cases len with
       |zero=>omega
       |succ n=>simp[kj])
      simp only[cM,M5,NW]at hall;have hsa:=hall.1;have hle:sz<=(cs.drop off).length:=by
       have:1*sz<=len*sz:=NA _ h0;simp;omega
      cases ag with
      |true=>
       simp_all[dA]
      | false=>
       rcases hag with hag|hag
       ·cases hag
       ·subst hag;simp only[Nh]at hsa;have hc0:(cs.drop off)[0]? = some (aa (cs.drop off) 0):=by
         unfold aa;rw[Ns (by omega),Ot,Ns (by omega)];rfl
        have hoc:=Nl.1 h3 (aa (cs.drop off) 0) (Oy (i:=0) (by grind));generalize aa (cs.drop off) 0=q at hsa hoc;cases q<;>simp[bh,dA]at hsa hoc<;>omega
     subst hsz;rcases hne with hne|hz
     ·obtain⟨z,j1,j2,j3,j4,j5⟩:=H.heap.cells hcs hne hβ hb0;rw[hβ]at j1;cases j1;have hzl:cs.length<=z.size:=by have:=j4.length;simp at this;omega
      have j6:aV S β (cs.drop off) ((z.toList.take cs.length).drop off):=j4.drop off;have hF:=oT hag len (cs.drop off) _ j6 (by simp;omega) h3;refine⟨rfl,_,hF,fun w' hw'=>?_⟩;refine run_firstCells_some w' sz' len ⟨b',off,none⟩ len cap _ (by simp;omega) fun j q hq=>?_;rw[addr_add,hw',j2.cell]
      grind
     ·subst hz;rcases hag with rfl|hag
      ·have hall:∀n cs,dJ S β (kj true 0 n cs) [] 0:=by
        intro n
        induction n with
        |zero=>intro cs;exact .nil 0
        | succ n ih=>
         intro cs;have:dJ S β [AV.agg (cs.take 0)] [] 0:=⟨by simp,fun i e he=>by
          cases i with
          |zero=>
           simp only[ND,M4]at he;subst he;exact⟨.agg #[],by simp only[VR,NM];exact⟨[],rfl,by simp[aV]⟩,rfl,fun j x hx=>by simp[Value.cells]at hx⟩
          |succ i=>simp at he,fun x hx=>by simp at hx⟩
         exact this.append (ih _)
       exact⟨rfl,[],hall _ _,fun w' _=>run_firstCells_some w' 0 len _ len cap [] (by simp) fun j x hx=>by simp at hx⟩
      ·omega
 ·cases hsrc;exact j9 (P:=P) H.wf hv sz' [] rfl hok (fun s h=>by cases h)
 ·cases hsrc;exact j9 (P:=P) H.wf hv sz' [] rfl hok (fun s h=>by cases h)
 ·cases hsrc;exact j9 (P:=P) H.wf hv sz' _ rfl hok (fun s h=>by cases h)
 ·cases hsrc
theorem sq(hT:TOK P cx.T)(H:FR c N U e h a w S β γ lam ω)(hd:∀t,o.dst=some t->t<N)(hU:∀g,gid<=g->g<gid+1000->¬U g){t u:TypeId}{x y:Operand}{cc:Call}(ho:o.op= .call cc)(hb:cc.callee= .builtin .append)(hts:cc.argTypes.toList=[t,u])(hxs:cc.args.toList=[x,y])(hu:iq cx.T u=true){as:List AV}{vx:Value}{g0:Option Nat}{r Y:AV}(hav:a.eval x=vx)(hx:VR S β (.sl as) vx)(hfree:(g0=none/\vx= .slice none 0 0)\/∃g z,g0=some g/\oG S w ω g z vx/\uF z (dv cx.T t)=true)(happ:fB cx.T t (.sl as) Y=some r)(hsrc:sb P S β w (a.eval y) Y):
  After P c N (UG U gid) (.ok (e.upd o.dst { Upd.own r gid (dv cx.T t)with drop:=g0 }) h) o a w:=by
 obtain⟨ti,el,ei,bs,ht,hk,hei,hels,hoa,hob,hby,hb0,rfl,hes,hstr⟩:=Bj happ;rw[hes]at hfree |-;have hroom:nP w ei.size vx:=by
  rcases hfree with⟨_,rfl⟩|⟨g,z,_,hf,hz⟩
  ·exact⟨none,0,0,rfl,M7 _,fun _=>rfl,.inl rfl⟩
  ·exact (sT hf hz).1
 obtain⟨hlen,cs,hflat,hfirst⟩:=hsrc ei.size bs hels hob (tA hstr);obtain⟨v,w',hrun,hA⟩:=xg (ty:=o.type) hT H.wf ht hk hei hu hx hlen hflat hfirst hoa hby hb0 hroom;have hfr2:∃z,((g0=none/\vx= .slice none 0 0)\/∃g,g0=some g/\oG S w ω g z vx)/\(z=none\/z=some ei.size):=by
  rcases hfree with h1|⟨g,z,h1,hf,hz⟩
  ·simp_all
  ·exact⟨z,.inr ⟨g,h1,hf⟩,(sT hf hz).2⟩
 obtain⟨z,hf2,hz2⟩:=hfr2;obtain⟨S',ω',F⟩:=H.app hd hU hx hoa hf2 hz2 hA;exact After.val (cD ho hb hts hxs (by grind)) ⟨_,_,_,_,_,F⟩
end
section
variable {P:Program} {cx:Cx} {c:Entry} {N:Nat} {U:Nat->Prop} {e:Env} {h:Hp} {a:Act} {w:World} {S:ay} {β:List bI} {γ:Nat->Value} {lam:Nat->Option Nat} {ω:Nat->Owner} {o:Oper} {gid:Nat}
omit [Dr]in
theorem qu{sz:Nat}{x:Array Value}:(es:List AV)->(off:Nat)->(∀(i:Nat)(e:AV),es[i]? = some e->∃v,VR S β e v/\v.cells.size=sz/\∀(j:Nat)(y:Value),v.cells[j]? = some y->x[off+i*sz+j]? = some y)->
  dS sz es=true->(es.flatMap af).length=es.length*sz/\aV S β (es.flatMap af) ((x.toList.drop off).take (es.length*sz))
 |[],off,_,_=>by simp[aV]
 | e:: es,off,hh,hok=>by
  simp only[dS,N0,M5]at hok;obtain⟨v,v1,v2,v3⟩:=hh 0 e (by simp);obtain⟨k1,k2,k3⟩:=lR hok.1 v1;obtain⟨h1,h2⟩:=qu es (off+sz) (fun i e' he=>by
   obtain⟨u,u1,u2,u3⟩:=hh (i+1) e' (by simpa using he);exact⟨u,u1,u2,fun j y hy=>by
    have:=u3 j y hy
    rwa [show off+(i+1)*sz+j=off+sz+i*sz+j by grind]at this⟩) hok.2
  have hacl:(af e).length=sz:=by rw[<- k2.length];simpa using k1
  refine⟨by grind,?_⟩;have hfirst:(x.toList.drop off).take sz=v.cells.toList:=by
   apply OP;intro j;rw[Oa];split
   ·grind
   ·grind
  have hsplit:(x.toList.drop off).take ((e:: es).length*sz)=v.cells.toList++(x.toList.drop (off+sz)).take (es.length*sz):=by
   rw[<- hfirst,Nr,Ov,Nat.one_mul,Nat.add_comm (es.length*sz) sz,List.take_add,List.drop_drop]
  rw[hsplit,Ol];exact k2.append h2
inductive AppRaw (w:World) (el sz n0 n:Nat) (olds news:List Value) (vx:Value):Value->World->Prop where
 |same (h:n=0):AppRaw w el sz n0 n olds news vx vx w
 | place (b off cap:Nat) (x:Array Value) (hv:vx= .slice (some ⟨b,off,none⟩) n0 cap) (hr:Row w b x) (hlt:n0+n<=cap) (hc:off+cap*sz<=x.size) (hn:n≠0):
   AppRaw w el sz n0 n olds news vx (.slice (some ⟨b,off,none⟩) (n0+n) cap)
    (w.setRow b (x.toList.take (off+n0*sz)++news++x.toList.drop (off+n0*sz+news.length)).toArray)
 | fresh (x:Array Value) (e cap:Nat) (hlt:n0+n<=cap) (hc:x.size=cap*sz) (hr:∀(i:Nat)(y:Value),(olds++news)[i]? = some y->x[i]? = some y) (hn:n≠0) (he:e=el):
   AppRaw w el sz n0 n olds news vx (.slice (some ⟨w.heap.size,0,none⟩) (n0+n) cap) (w.drew.alloc (.cells x e))
omit [Dr]in
theorem dq{T:TT}(hT:TOK P T){t u e ty:Nat}{ti ei:TI}{n0 n:Nat}{olds news:List Value}{vx vy:Value}(ht:T t=some ti)(hk:ti.kind= .slice e)(hei:T e=some ei)(hu:iq T u=true)(hvx:∃a cap,vx= .slice a n0 cap)(hlen:(Builtin.lenOf vy).run P w= .ok n w)(hfirst:∀w':World,(∀a:Addr,w'.cell? a=w.cell? a)->(Builtin.firstCells ei.size n vy).run P w'= .ok news.toArray w')(hold:∀w':World,(∀a:Addr,w'.cell? a=w.cell? a)->(Builtin.firstCells ei.size n0 vx).run P w'= .ok olds.toArray w')(hol:olds.length=n0*ei.size)(hnl:news.length=n*ei.size)(hone:∀x∈news,x.oneCell'=true)(hby:(n0+n)*ei.bytes<=140737488355328)(hb0:0<ei.bytes)(hroom:nP w ei.size vx):
  ∃v w',(Builtin.append_ #[t,u] ty #[vx,vy]).run P w= .ok v w'/\AppRaw w e ei.size n0 n olds news vx v w':=by
 obtain⟨_,d,_,_,hd,_,_,_,_,hkd,_⟩:=(hT.get ht).ex;have hd':d= .slice e:=by cases d<;>simp_all[kindOf]
 subst hd';obtain⟨ii,_,zz,hii,_,hzz,hzs,hsz,hbb,_⟩:=(hT.get hei).ex;have hz:∃du,P.underlying u=some du/\((∃e',du= .slice e')\/du= .string):=by
  unfold iq at hu;split at hu
  ·rename_i tu htu;obtain⟨_,du,_,_,hdu,_,_,_,_,hku,_⟩:=(hT.get htu).ex;refine⟨du,hdu,?_⟩;split at hu
   ·rename_i e' hk';exact .inl ⟨e',by cases du<;>simp_all[kindOf]⟩
   ·exact .inr (by cases du<;>simp_all[kindOf])
   ·simp at hu
  ·simp at hu
 obtain⟨du,hdu,hduk⟩:=hz;obtain⟨a,len,cap,rfl,hlc,hnone,hspare⟩:=hroom;obtain⟨a',cap',he⟩:=hvx;simp only[Value.slice.injEq]at he;obtain⟨rfl,rfl,rfl⟩:=he;by_cases hfit:len+n<=cap
 ·by_cases hn0:n=0
  ·subst hn0;refine⟨.slice a len cap,w,?_,.same rfl⟩;have hns:news=[]:=NN (by simpa using hnl);subst hns;have hf:(Builtin.firstCells ei.size 0 vy).run P w= .ok #[] w:=by simpa using hfirst w (fun _=>rfl)
   rcases hduk with⟨e',rfl⟩|rfl<;>cases a <;>
    simp[Builtin.append_,run_underlying hd,run_underlying hdu,sizeOf,typeInfo,hii,hsz,hlen,hlc,hf,storeCells]
  ·rcases hspare with hsp|⟨b,off,x,rfl,⟨ce,hrow⟩,hcap⟩
   ·omega
   ·refine⟨_,_,?_,.place b off cap x rfl ⟨ce,hrow⟩ hfit hcap hn0⟩;have hf:=hfirst w (fun _=>rfl);have hle:(len+n)*ei.size<=cap*ei.size:=NA _ hfit;rw[Ov]at hle;have hst:=run_storeCells_at P b (off+len*ei.size) ce news 0 x w hrow (by omega) hone;simp only[O0]at hst;rcases hduk with⟨e',rfl⟩|rfl <;>
     simp[Builtin.append_,run_underlying hd,run_underlying hdu,sizeOf,typeInfo,hii,hsz,hlen,hfit,hf,addr_add,hst]
 ·have hne:n≠0:=by rintro rfl;omega
  have hgt:cap<len+n:=by omega
  have h63:¬(9223372036854775807<((len:Int)+(n:Int))):=by
   have:=NK (PF (len+n) hb0) hby
   omega
  have hfit48:=growslice_fits hgt hby;have h48:¬(281474976710656<Builtin.nextslicecap (len+n) cap*ei.bytes):=by omega
  have hb0':ei.bytes≠0:=by omega
  have hof:=hold w.drew (fun a=>World.cell?_drew ..);have hf:=hfirst w.drew (fun a=>World.cell?_drew ..);have hcapn:len+n<=grownCap w (len+n) cap e:=Nat.le_add_right _ _;have hzcs:(Builtin.zeroCells zz.cells (grownCap w (len+n) cap e-(len+n))).size=(grownCap w (len+n) cap e-(len+n))*ei.size:=by
   rw[size_zeroCells,hzs,hsz]
  refine⟨_,_,?_,.fresh ((olds++news).toArray++Builtin.zeroCells zz.cells (grownCap w (len+n) cap e-(len+n))) e (grownCap w (len+n) cap e) hcapn ?_ ?_ hne rfl⟩
  ·rcases hduk with⟨e',rfl⟩|rfl <;>
    (simp[Builtin.append_,run_underlying hd,run_underlying hdu,sizeOf,typeInfo,zeroValue,hii,hsz,hzz,hlen,hfit,hbb,h48,hb0',Question.forced,hf,hof,newRow,grownCap]
     grind)
  ·rw[Array.size_append,hzcs];simp only[OJ,Np,hol,hnl];rw[<- Ov,<- Ov]
   grind
  grind
end
section
variable {P:Program} {cx:Cx} {c:Entry} {N:Nat} {U:Nat->Prop} {e:Env} {h:Hp} {a:Act} {w:World} {S:ay} {β:List bI} {γ:Nat->Value} {lam:Nat->Option Nat} {ω:Nat->Owner} {o:Oper} {gid:Nat}
omit [Dr]in
theorem kF{es:List AV}{cs:List Value}{sz:Nat}(hf:dJ S β es cs sz)(hok:dS sz es=true):(es.flatMap af).length=es.length*sz/\aV S β (es.flatMap af) cs:=by
 obtain⟨h1,h2,_⟩:=hf;obtain⟨g1,g2⟩:=qu (x:=cs.toArray) es 0 (fun i e he=>by
  obtain⟨v,v1,v2,v3⟩:=h2 i e he;exact⟨v,v1,v2,fun j y hy=>by grind⟩) hok
 grind
theorem zW(hT:TOK P cx.T)(H:FR c N U e h a w S β γ lam ω)(hd:∀t,o.dst=some t->t<N){t n:Nat}{ps:Array (Nat×Operand)}(ho:o.op= .buildSlice t n ps)(ht:∀p∈ps.toList,∀t,p.2= .tmp t->t<1000)(hr:aJ e o.dst (.dyn (tN cx.T t n (ps.toList.map fun p=>(p.1,opnd e p.2))) .ofV) h≠.fail):
  After P c N (UG U gid) (aJ e o.dst (.dyn (tN cx.T t n (ps.toList.map fun p=>(p.1,opnd e p.2))) .ofV) h) o a w:=absurd rfl hr
theorem Cs(hT:TOK P cx.T)(H:FR c N U e h a w S β γ lam ω)(hd:∀t,o.dst=some t->t<N){t:Nat}{l k:Operand}(ho:o.op= .makeSlice t l k)(hl:∀t,l= .tmp t->t<1000)(hk:∀t,k= .tmp t->t<1000)(hr:aJ e o.dst (.dyn (zh cx.T t (opnd e l) (opnd e k)) .ofV) h≠.fail):
  After P c N (UG U gid) (aJ e o.dst (.dyn (zh cx.T t (opnd e l) (opnd e k)) .ofV) h) o a w:=absurd rfl hr
theorem uV(hT:TOK P cx.T)(H:FR c N U e h a w S β γ lam ω)(hd:∀t,o.dst=some t->t<N){t u:TypeId}{x y:Operand}{cc:Call}(ho:o.op= .call cc)(hb:cc.callee= .builtin .append)(hts:cc.argTypes.toList=[t,u])(hxs:cc.args.toList=[x,y])(hx:∀t,x= .tmp t->t<1000)(hu:iq cx.T u=true){Y:AV}(hsrc:sb P S β w (a.eval y) Y)(hr:aJ e o.dst (.dyn (appH cx.T t (fK e x) (opnd e x) Y) .ofV) h≠.fail):After P c N (UG U gid) (aJ e o.dst (.dyn (appH cx.T t (fK e x) (opnd e x) Y) .ofV) h) o a w:=by
 have hvx:=aU H x hx;simp only[aJ,ap,am]at hr |-;have hz:fK e x=true->opnd e x= .sl []->∃a0,a.eval x= .slice a0 0 0:=by
  intro hz hX;unfold fK at hz;split at hz
  ·rename_i s;have hs1:=hx s rfl;have hs2:=H.slots s hs1;split at hz
   ·rename_i g hg;split at hz
    ·rename_i hal;obtain⟨a0,len,cap,e1,e2,e3,e4⟩:=H.free g none hal;have e5:=H.grps s g none hs1 hg hal;have e6:a.eval (.tmp s)=γ g:=e5
     grind [VR]
    ·cases hz
   ·cases hz
  ·cases hz
 generalize fK e x=zz at hr hz |-;generalize hX:opnd e x=X at hr hvx hz |-;unfold appH at hr |-;cases ht:cx.T t with
 |none=>grind
 | some ti =>
  rw[ht]at hr;simp only at hr |-;cases hk:ti.kind<;>rw[hk]at hr<;>simp only at hr |- <;> (try exact absurd rfl hr);rename_i el;cases hei:cx.T el with
  |none=>grind
  | some ei =>
   rw[hei]at hr;simp only at hr |-;cases hels:iv Y with
   |none=>grind
   | some bs =>
    rw[hels]at hr;simp only at hr |-;cases hc:(dS ei.size bs&&decide (0<ei.bytes)&&decide (0<ei.size)&&lz Y ei.size)with
    |false=>grind
    | true =>
     rw[hc]at hr;simp only[M6]at hr |-;simp only[M5,M8]at hc;obtain⟨⟨⟨h1,h2⟩,h3⟩,h4⟩:=hc;obtain⟨hlen,news,hflat,hfirst'⟩:=hsrc ei.size bs hels h1 (tA h4);obtain⟨hfl,hfv⟩:=kF hflat h1;have hna:ei.agg=false->ei.size=1:=by
      intro hag;obtain⟨ii,_,zz,_,_,_,hzs,hsz,_,_,_,_,_,_,_,hnn⟩:=(hT.get hei).ex;have hz1:zz.cells.size=1:=by cases zz<;>first|rfl|grind
      omega
     by_cases hXe:X= .he
     ·subst hXe;simp only at hr |-;have hvr:=hvx;simp only[VR]at hvx;obtain⟨a0,hvx⟩:=hvx;cases hbe:bs.isEmpty with
      | true=>
       have hbs:bs=[]:=by simpa using hbe
       subst hbs;simp only[M6];obtain⟨v,w',hrun,hA⟩:=dq (ty:=o.type) hT ht hk hei hu (n0:=0) (olds:=[]) ⟨a0,0,hvx⟩ hlen hfirst' (fun w' _=>by rw[hvx];cases a0 with|none=>simp[Builtin.firstCells]|some q=>simp_all[run_firstCells_some]) (by simp) hflat.1 hflat.2.2 (by simp) h2
        (by rw[hvx];exact⟨a0,0,0,rfl,M7 _,fun _=>rfl,.inl rfl⟩)
       cases hA with
       |same _=>
        exact After.val (cD ho hb hts hxs hrun) (ML ⟨S,β,γ,lam,ω,H.setV hd hvr⟩)
       |place _ _ _ _ _ _ _ _ hn=>grind
       |fresh _ _ _ _ _ _ hn=>grind
      | false=>
       rw[hbe]at hr;simp only[Nh]at hr |-;cases hby:decide (bs.length*ei.bytes<=140737488355328)with
       |false=>grind
       | true=>
        simp only[M6];have hne:bs.length≠0:=by
         intro h0
         have:=NN h0
         subst this;simp at hbe
        obtain⟨v,w',hrun,hA⟩:=dq (ty:=o.type) hT ht hk hei hu (n0:=0) (olds:=[]) ⟨a0,0,hvx⟩ hlen hfirst' (fun w' _=>by rw[hvx];cases a0 with|none=>simp[Builtin.firstCells]|some q=>grind [run_firstCells_some]) (by simp) hflat.1 hflat.2.2 (by simpa using hby) h2
         (by rw[hvx];exact⟨a0,0,0,rfl,M7 _,fun _=>rfl,.inl rfl⟩)
        cases hA with
        |same h0=>grind
        |place b off cap z hv _ hlt _ _=>grind
        | fresh z te cap hlt hzc hzr hn=>
         obtain⟨ω',F,hnew,hext⟩:=(H.drew).newH z te (cs:=bs.flatMap af) (by
          refine .of_get ?_ fun i q v hq hv=>?_
          ·simp_all
          ·obtain⟨v',h1',h2'⟩:=hfv.get hq
           grind) (fun t ht=>absurd ht (jW h1 t))
         have hnew':(β++[(w.drew.heap.size,z.size)])[h.length]? = some (w.heap.size,z.size):=hnew;refine After.val (cD ho hb hts hxs hrun) (ML ⟨_,_,γ,lam,ω',F.setV hd ?_⟩);simp only[VR];have hz0:z.size≠0:=by
          have:0<cap*ei.size:=OS (by omega) h3;omega
         grind
     by_cases hXs:X= .sl []/\zz=true
     ·obtain⟨rfl,hzz⟩:=hXs;subst hzz;simp only[M6]at hr |-;obtain⟨a0,hvx0⟩:=hz rfl rfl;have hvr:=hvx
      replace hvx:=hvx0
      cases hbe:bs.isEmpty with
      | true=>
       have hbs:bs=[]:=by simpa using hbe
       subst hbs;simp only[M6];obtain⟨v,w',hrun,hA⟩:=dq (ty:=o.type) hT ht hk hei hu (n0:=0) (olds:=[]) ⟨a0,0,hvx⟩ hlen hfirst' (fun w' _=>by rw[hvx];cases a0 with|none=>simp[Builtin.firstCells]|some q=>simp_all[run_firstCells_some]) (by simp) hflat.1 hflat.2.2 (by simp) h2
        (by rw[hvx];exact⟨a0,0,0,rfl,M7 _,fun _=>rfl,.inl rfl⟩)
       cases hA with
       |same _=>
        exact After.val (cD ho hb hts hxs hrun) (ML ⟨S,β,γ,lam,ω,H.setV hd hvr⟩)
       |place _ _ _ _ _ _ _ _ hn=>grind
       |fresh _ _ _ _ _ _ hn=>grind
      | false=>
       rw[hbe]at hr;simp only[Nh]at hr |-;cases hby:decide (bs.length*ei.bytes<=140737488355328)with
       |false=>grind
       | true=>
        simp only[M6];have hne:bs.length≠0:=by
         intro h0
         have:=NN h0
         subst this;simp at hbe
        obtain⟨v,w',hrun,hA⟩:=dq (ty:=o.type) hT ht hk hei hu (n0:=0) (olds:=[]) ⟨a0,0,hvx⟩ hlen hfirst' (fun w' _=>by rw[hvx];cases a0 with|none=>simp[Builtin.firstCells]|some q=>grind [run_firstCells_some]) (by simp) hflat.1 hflat.2.2 (by simpa using hby) h2
         (by rw[hvx];exact⟨a0,0,0,rfl,M7 _,fun _=>rfl,.inl rfl⟩)
        cases hA with
        |same h0=>grind
        |place b off cap z hv _ hlt _ _=>grind
        | fresh z te cap hlt hzc hzr hn=>
         obtain⟨ω',F,hnew,hext⟩:=(H.drew).newH z te (cs:=bs.flatMap af) (by
          refine .of_get ?_ fun i q v hq hv=>?_
          ·simp_all
          ·obtain⟨v',h1',h2'⟩:=hfv.get hq
           grind) (fun t ht=>absurd ht (jW h1 t))
         have hnew':(β++[(w.drew.heap.size,z.size)])[h.length]? = some (w.heap.size,z.size):=hnew;refine After.val (cD ho hb hts hxs hrun) (ML ⟨_,_,γ,lam,ω',F.setV hd ?_⟩);simp only[VR];have hz0:z.size≠0:=by
          have:0<cap*ei.size:=OS (by omega) h3;omega
         grind
     by_cases hXn:X= .hn
     ·subst hXn;simp only at hr |-;simp only[VR]at hvx;cases hbe:bs.isEmpty with
      | true=>
       have hbs:bs=[]:=by simpa using hbe
       subst hbs;simp only[M6];obtain⟨v,w',hrun,hA⟩:=dq (ty:=o.type) hT ht hk hei hu (n0:=0) (olds:=[]) ⟨none,0,hvx⟩ hlen hfirst' (fun w' _=>by rw[hvx];simp[Builtin.firstCells]) (by simp) hflat.1 hflat.2.2 (by simp) h2
        (by rw[hvx];exact⟨none,0,0,rfl,M7 _,fun _=>rfl,.inl rfl⟩)
       cases hA with
       |same _=>
        exact After.val (cD ho hb hts hxs hrun) (ML ⟨S,β,γ,lam,ω,H.setV hd (by simp only[VR];exact hvx)⟩)
       |place _ _ _ _ _ _ _ _ hn=>grind
       |fresh _ _ _ _ _ _ hn=>grind
      | false=>
       rw[hbe]at hr;simp only[Nh]at hr |-;cases hby:decide (bs.length*ei.bytes<=140737488355328)with
       |false=>grind
       | true=>
        simp only[M6];have hne:bs.length≠0:=by
         intro h0
         have:=NN h0
         subst this;simp at hbe
        obtain⟨v,w',hrun,hA⟩:=dq (ty:=o.type) hT ht hk hei hu (n0:=0) (olds:=[]) ⟨none,0,hvx⟩ hlen hfirst' (fun w' _=>by rw[hvx];simp[Builtin.firstCells]) (by simp) hflat.1 hflat.2.2 (by simpa using hby) h2
         (by rw[hvx];exact⟨none,0,0,rfl,M7 _,fun _=>rfl,.inl rfl⟩)
        cases hA with
        |same h0=>grind
        |place b off cap z hv _ _ _ _=>grind
        | fresh z te cap hlt hzc hzr hn=>
         obtain⟨ω',F,hnew,hext⟩:=(H.drew).newH z te (cs:=bs.flatMap af) (by
          refine .of_get ?_ fun i q v hq hv=>?_
          ·simp_all
          ·obtain⟨v',h1',h2'⟩:=hfv.get hq
           grind) (fun t ht=>absurd ht (jW h1 t))
         have hnew':(β++[(w.drew.heap.size,z.size)])[h.length]? = some (w.heap.size,z.size):=hnew;refine After.val (cD ho hb hts hxs hrun) (ML ⟨_,_,γ,lam,ω',F.setV hd ?_⟩);simp only[VR];have hz0:z.size≠0:=by
          have:0<cap*ei.size:=OS (by omega) h3;omega
         grind
     ·-- a row of the heap
      cases X with
      | hs l off len sz ag=>
       cases off with
       |succ k=>grind
       | zero =>
        simp only at hr |-;cases hcs:h[l]? with
        |none=>grind
        | some cs=>
         rw[hcs]at hr;simp only at hr |-;cases hc2:(sz== ei.size&&ag== ei.agg&&cs.all bh&&decide (len*sz<=cs.length)&&decide (0<cs.length)&&decide ((len+bs.length)*ei.bytes<=140737488355328))with
         |false=>grind
         | true=>
          simp only[M6];simp only[M5,M8,NW]at hc2;obtain⟨⟨⟨⟨⟨rfl,rfl⟩,k3⟩,k4⟩,k5⟩,k6⟩:=hc2;have hvx0:=hvx;have hne:cs≠[]:=by
           rintro rfl;simp at k5
          have hl:l<h.length:=by
           rcases NE l h.length with h'|h'
           ·exact h'
           ·grind
          simp only[VR]at hvx;rcases hvx with⟨⟨b,nb⟩,cap,hβ,hb0,hvx,hlc,hcn⟩|⟨h00,q,hvx⟩
          ·obtain⟨z,j1,j2,j3,j4,j5⟩:=H.heap.cells hcs hne hβ hb0;rw[hβ]at j1;simp only[M4,N9,Pw]at j1;subst j1;have hzs:cs.length<=z.size:=by have:=j4.length;simp at this;omega
           have hol:(z.toList.take (len*ei.size)).length=len*ei.size:=by simp;omega
           have j6:aV S β (cs.take (len*ei.size)) (z.toList.take (len*ei.size)):=by
            have:=j4.take (len*ei.size)
            rw[Oz,Pf k4]at this;exact this
           have hcl:(cs.take (len*ei.size)).length=len*ei.size:=by simp;omega
           have hold:∀w':World,(∀a:Addr,w'.cell? a=w.cell? a)->(Builtin.firstCells ei.size len (a.eval x)).run P w'= .ok (z.toList.take (len*ei.size)).toArray w':=fun w' hw'=>by
            rw[hvx];refine run_firstCells_some w' ei.size len ⟨b,0,none⟩ len cap _ hol fun j q hq=>?_;rw[addr_add,NB,hw',j2.cell]
            grind
           have hroom:nP w ei.size (a.eval x):=⟨_,len,cap,hvx,hlc,(fun h=>by cases h),.inr ⟨b,0,z,rfl,j2,hcn⟩⟩;obtain⟨v,w',hrun,hA⟩:=dq (ty:=o.type) hT ht hk hei hu (n0:=len) (olds:=z.toList.take (len*ei.size)) ⟨_,cap,hvx⟩ hlen hfirst' hold hol hflat.1 hflat.2.2 k6 h2 hroom;have hexec:=cD ho hb hts hxs hrun;cases hA with
           |same h0=>
            have hbs:bs=[]:=NN h0;subst hbs;simp only[List.isEmpty_nil,M6];exact After.val hexec (ML ⟨S,β,γ,lam,ω,H.setV hd hvx0⟩)
           | place b2 off2 cap2 z2 hv2 hr2 hlt2 hc2' hn2=>
            have hbe:bs.isEmpty=false:=by cases bs<;>simp_all
            rw[hbe];simp only[Nh];rw[hvx]at hv2;simp only[Value.slice.injEq,M4,Addr.mk.injEq]at hv2;obtain⟨⟨rfl,rfl,_⟩,_,rfl⟩:=hv2;cases j2.inj hr2;have hnl:=hflat.1;have hle:(len+bs.length)*ei.size<=cap*ei.size:=NA _ hlt2;rw[Ov]at hle;have hysz:(z.toList.take (0+len*ei.size)++news++z.toList.drop (0+len*ei.size+news.length)).toArray.size=z.size:=by simp;omega
            have hyv:aV S β (cs.take (len*ei.size)++bs.flatMap af) ((z.toList.take (0+len*ei.size)++news++z.toList.drop (0+len*ei.size+news.length)).toArray.toList.take (cs.take (len*ei.size)++bs.flatMap af).length):=by
             have hl1:(z.toList.take (0+len*ei.size)++news).length=(cs.take (len*ei.size)++bs.flatMap af).length:=by
              rw[Np,Np,NB,hol,hcl,hfl,hnl]
             show aV S β _ (List.take _ (z.toList.take (0+len*ei.size)++news++z.toList.drop (0+len*ei.size+news.length)));rw[List.take_left' hl1,NB];exact j6.append hfv
            have hne2:cs.take (len*ei.size)++bs.flatMap af≠[]:=by
             intro h0;have h1':=(List.append_eq_nil_iff.1 h0).2;rw[h1']at hfl;have:0<bs.length*ei.size:=OS (Nat.pos_of_ne_zero fun h=>by grind) h3;rw[Nu]at hfl;omega
            have hnb:∀t,¬cT t (cs.take (len*ei.size)++bs.flatMap af):=fun t ht=>by
             rcases ht.append with ht|ht
             all_goals grind [jV,jW]
            have F1:=H.turnH hcs hne ⟨_,hβ⟩ j2 hysz hyv (fun t ht=>absurd ht (hnb t));have hcs1:(h.set l (cs.take (len*ei.size)++bs.flatMap af))[l]? = some (cs.take (len*ei.size)++bs.flatMap af):=by simp[hl]
            obtain⟨ω',F2,hnew,hext⟩:=F1.moveH hcs1 hne2 ⟨_,hβ⟩ j2.setRow hyv (fun t ht=>ht);have hset:(h.set l (cs.take (len*ei.size)++bs.flatMap af)).set l []=h.set l []:=by simp
            rw[hset]at F2;rw[OH]at hnew;refine After.val hexec (ML ⟨_,_,γ,lam,ω',F2.setV hd ?_⟩);simp only[VR]
            grind
           | fresh z2 te cap2 hlt2 hzc hzr hn2=>
            have hbe:bs.isEmpty=false:=by cases bs<;>simp_all
            rw[hbe];simp only[Nh];have F1:=(H.drew).killH l;obtain⟨ω',F2,hnew,hext⟩:=F1.newH z2 te (cs:=cs.take (len*ei.size)++bs.flatMap af) (by
             refine .of_get ?_ fun i q v hq hv=>?_
             ·have:(len+bs.length)*ei.size<=cap2*ei.size:=NA _ hlt2
              grind
             ·obtain⟨v',h1',h2'⟩:=(j6.append hfv).get hq
              grind) (fun t ht=>absurd ht (fun ht=>by
             rcases ht.append with ht|ht
             all_goals grind [jV,jW]))
            rw[OH]at hnew;have hnew':(β++[(w.drew.heap.size,z2.size)])[h.length]? = some (w.heap.size,z2.size):=hnew;refine After.val hexec (ML ⟨_,_,γ,lam,ω',F2.setV hd ?_⟩);simp only[VR];have hz0:z2.size≠0:=by
             have:0<cap2*ei.size:=OS (by omega) h3;omega
            grind
          ·subst h00;obtain⟨v,w',hrun,hA⟩:=dq (ty:=o.type) hT ht hk hei hu (n0:=0) (olds:=[]) ⟨some q,0,hvx⟩ hlen hfirst' (fun w' _=>by simp_all[run_firstCells_some]) (by simp) hflat.1 hflat.2.2 k6 h2
            (by rw[hvx];exact⟨some q,0,0,rfl,M7 _,fun _=>rfl,.inl rfl⟩)
           have hexec:=cD ho hb hts hxs hrun;cases hA with
           |same h0=>
            have hbs:bs=[]:=NN h0;subst hbs;simp only[List.isEmpty_nil,M6];exact After.val hexec (ML ⟨S,β,γ,lam,ω,H.setV hd hvx0⟩)
           |place b off cap z hv _ hlt _ hn=>
            grind
           | fresh z2 te cap2 hlt2 hzc hzr hn2=>
            have hbe:bs.isEmpty=false:=by cases bs<;>simp_all
            rw[hbe];simp only[Nh,Nat.zero_mul,NM,NF];have F1:=(H.drew).killH l;obtain⟨ω',F2,hnew,hext⟩:=F1.newH z2 te (cs:=bs.flatMap af) (by
             refine .of_get ?_ fun i q v hq hv=>?_
             ·simp_all
             ·obtain⟨v',h1',h2'⟩:=hfv.get hq
              grind) (fun t ht=>absurd ht (jW h1 t))
            rw[OH]at hnew;have hnew':(β++[(w.drew.heap.size,z2.size)])[h.length]? = some (w.heap.size,z2.size):=hnew;refine After.val hexec (ML ⟨_,_,γ,lam,ω',F2.setV hd ?_⟩);simp only[VR];have hz0:z2.size≠0:=by
             have:0<cap2*ei.size:=OS (by omega) h3;omega
            grind
      |sl es=>
       grind
      |_=>grind
end
section
variable {P:Program} {cx:Cx} {c:Entry} {N:Nat} {U:Nat->Prop} {e:Env} {h:Hp} {a:Act} {w:World} {S:ay} {β:List bI} {γ:Nat->Value} {lam:Nat->Option Nat} {ω:Nat->Owner} {o:Oper} {gid:Nat}
section
omit [Dr]
theorem vg{el:Nat}:∀ {bs cs:List AV},pZ el bs=some cs->∃ns:List Int,bs=ns.map (.int .u8)/\cs=ns.map (.byt el)
 |[],cs,h=>by simp only[pZ,M4]at h;simp_all
 | x:: r,cs,h=>by
  unfold pZ at h;split at h
  ·grind
  ·rename_i n r' heq;obtain⟨rfl,rfl⟩:=List.cons.inj heq;cases hr:pZ el r with
   |none=>grind
   |some cs'=>
    rw[hr]at h;simp only[OB,M4]at h;subst h;obtain⟨ns,h1,h2⟩:=vg hr;exact⟨n:: ns,by rw[h1];rfl,by rw[h2];rfl⟩
  ·cases h
theorem vl{el t:Nat}{ns:List Int}(h:cT t (ns.map (.byt el))):t=el:=by
 obtain⟨x,h1,h2⟩:=h;obtain⟨n,_,rfl⟩:=Ou.1 h1;simpa [nL]using h2.symm
theorem Au{el t:Nat}{cs:List AV}(h:cs.all (o9 el)=true)(ht:cT t cs):t=el:=by
 obtain⟨x,h1,h2⟩:=ht
 have:=Nl.1 h x h1
 cases x<;>simp[o9]at this;simp[nL]at h2;omega
theorem Ce{el:Nat}{cs:List AV}(h:cs.all (o9 el)=true)(hn:0<cs.length):cT el cs:=by
 cases cs with
 |nil=>simp at hn
 |cons x cs=>
  have:=Nl.1 h x (by simp)
  cases x<;>simp[o9]at this;subst this;exact⟨_,List.mem_cons_self,rfl⟩
theorem DL(ns:List Int):dS 1 (ns.map (.int .u8))=true:=by
 unfold dS;rw[Nl];intro x hx;obtain⟨n,_,rfl⟩:=Ou.1 hx;rfl
theorem sD:∀(ns:List Int),(ns.map (AV.int .u8)).flatMap af=ns.map (.int .u8)
 |[]=>rfl
 |n:: ns=>by simp only[NL,Ol,sD ns];rfl
theorem yO{el:Nat}:∀ {ns:List Int} {vs:List Value},aV S β (ns.map (.int .u8)) vs->aV S β (ns.map (.byt el)) vs
 |[],vs,h=>by grind
 |n:: ns,vs,h=>by
  simp only[NL,aV,VR]at h|-;obtain⟨y,ys,rfl,hy,h⟩:=h;exact⟨y,ys,rfl,hy,yO h⟩
end
theorem DI(hT:TOK P cx.T)(H:FR c N U e h a w S β γ lam ω)(hd:∀t,o.dst=some t->t<N){t u:TypeId}{x y:Operand}{cc:Call}(ho:o.op= .call cc)(hb:cc.callee= .builtin .append)(hts:cc.argTypes.toList=[t,u])(hxs:cc.args.toList=[x,y])(hx:∀t,x= .tmp t->t<1000)(hy:∀t,y= .tmp t->t<1000)(hu:iq cx.T u=true)(hr:aJ e o.dst (.dyn (pT cx.T t (opnd e x) (opnd e y)) .ofV) h≠.fail):After P c N (UG U gid) (aJ e o.dst (.dyn (pT cx.T t (opnd e x) (opnd e y)) .ofV) h) o a w:=by
 have hvx:=aU H x hx;have hvy:=aU H y hy;simp only[aJ,ap,am]at hr |-;generalize hX:opnd e x=X at hr hvx |-;unfold pT at hr |-;cases ht:cx.T t with
 |none=>grind
 | some ti =>
  rw[ht]at hr;simp only at hr |-;cases hk:ti.kind<;>rw[hk]at hr<;>simp only at hr |- <;> (try exact absurd rfl hr);rename_i el;cases hei:cx.T el with
  |none=>grind
  | some ei =>
   rw[hei]at hr;simp only at hr |-;cases hc:(Nat.beq ei.size 1&&Nat.beq ei.bytes 1&&!ei.agg)with
   |false=>grind
   | true =>
    rw[hc]at hr;simp only[M6]at hr |-;simp only[M5,NR]at hc;obtain⟨⟨h1,h2⟩,hag⟩:=hc;have h1:=Nat.eq_of_beq_eq_true h1;have h2:=Nat.eq_of_beq_eq_true h2;cases hels:iv (opnd e y)with
    |none=>grind
    | some bs =>
     rw[hels]at hr;simp only at hr |-;cases hbm:pZ el bs with
     |none=>grind
     | some cs'=>
      rw[hbm]at hr;simp only at hr |-;obtain⟨ns,rfl,rfl⟩:=vg hbm;have hok:dS ei.size (ns.map (AV.int .u8))=true:=by rw[h1];exact DL ns
      obtain⟨hlen,news,hflat,hfirst⟩:=src_ok (P:=P) H.wf hels hvy hok (fun _ _=>h1);obtain⟨hfl,hfv⟩:=kF hflat hok;rw[sD]at hfl hfv;have hfb:aV S β (ns.map (.byt el)) news:=yO hfv;have hnl:news.length=ns.length:=by have:=hfb.length;simpa using this
      have hfirst':∀w':World,(∀a:Addr,w'.cell? a=w.cell? a)->(Builtin.firstCells ei.size (ns.map (AV.int .u8)).length (a.eval y)).run P w'= .ok news.toArray w':=fun w' hw'=>
       hfirst w' (fun b o x hx=>by rw[hw'];exact H.wf b o x hx)
      have hb0:0<ei.bytes:=by omega
      by_cases hXn:X= .hn
      ·subst hXn;simp only at hr |-;simp only[VR]at hvx;cases hbe:(ns.map (AV.int .u8)).isEmpty with
       | true=>
        have hbs:ns=[]:=by simpa using hbe
        subst hbs;simp only[M6];obtain⟨v,w',hrun,hA⟩:=dq (ty:=o.type) hT ht hk hei hu (n0:=0) (olds:=[]) ⟨none,0,hvx⟩ hlen hfirst' (fun w' _=>by rw[hvx];simp[Builtin.firstCells]) (by simp) hflat.1 hflat.2.2 (by simp) hb0
         (by rw[hvx];exact⟨none,0,0,rfl,M7 _,fun _=>rfl,.inl rfl⟩)
        cases hA with
        |same _=>exact After.val (cD ho hb hts hxs hrun) (ML ⟨S,β,γ,lam,ω,H.setV hd (by simp only[VR];exact hvx)⟩)
        |place _ _ _ _ _ _ _ _ hn=>grind
        |fresh _ _ _ _ _ _ hn=>grind
       | false=>
        rw[hbe]at hr;simp only[Nh]at hr |-;cases hby:decide ((ns.map (AV.int .u8)).length<=140737488355328)with
        |false=>grind
        | true=>
         simp only[M6];have hne:(ns.map (AV.int .u8)).length≠0:=by
          intro h0;rw[NN h0]at hbe;cases hbe
         obtain⟨v,w',hrun,hA⟩:=dq (ty:=o.type) hT ht hk hei hu (n0:=0) (olds:=[]) ⟨none,0,hvx⟩ hlen hfirst' (fun w' _=>by rw[hvx];simp[Builtin.firstCells]) (by simp) hflat.1 hflat.2.2 (by grind) hb0
          (by rw[hvx];exact⟨none,0,0,rfl,M7 _,fun _=>rfl,.inl rfl⟩)
         cases hA with
         |same h0=>grind
         |place b off cap z hv _ _ _ _=>grind
         | fresh z te cap hlt hzc hzr hn hte=>
          subst hte;rw[h1,Px]at hzc;obtain⟨ω',F,hnew,hext⟩:=(H.drew).newH z te (cs:=ns.map (.byt te)) (by
           refine .of_get ?_ fun i q v hq hv=>?_
           ·grind
           ·obtain⟨v',h1',h2'⟩:=hfb.get hq
            grind) (fun t ht=>vl ht)
          have hnew':(β++[(w.drew.heap.size,z.size)])[h.length]? = some (w.heap.size,z.size):=hnew;refine After.val (cD ho hb hts hxs hrun) (ML ⟨_,_,γ,lam,ω',F.setV hd ?_⟩)
          grind [VR]
      ·-- a row of the heap
       cases X with
       | hs l off len sz ag=>
        cases off with
        |succ k=>grind
        | zero =>
         by_cases hsa:sz=1/\ag=false
         case neg=>
          grind
         obtain⟨rfl,rfl⟩:=hsa;simp only at hr |-;cases hcs:h[l]? with
         |none=>grind
         | some cs=>
          rw[hcs]at hr;simp only at hr |-;cases hc2:(cs.all (o9 el)&&decide (len<=cs.length)&&decide (0<len)&&decide (len+(ns.map (AV.int .u8)).length<=140737488355328))with
          |false=>grind
          | true=>
           simp only[M6];simp only[M5,M8]at hc2;obtain⟨⟨⟨k3,k4⟩,k5⟩,k6⟩:=hc2;have hvx0:=hvx;have hne:cs≠[]:=by
            rintro rfl;simp at k4;omega
           have hl:l<h.length:=by
            rcases NE l h.length with h'|h'
            ·exact h'
            ·grind
           simp only[VR]at hvx;rcases hvx with⟨⟨b,nb⟩,cap,hβ,hb0',hvx,hlc,hcn⟩|⟨h00,q,hvx⟩
           ·obtain⟨z,j1,j2,j3,j4,j5⟩:=H.heap.cells hcs hne hβ hb0';rw[hβ]at j1;simp only[M4,N9,Pw]at j1;subst j1;have hzs:cs.length<=z.size:=by have:=j4.length;simp at this;omega
            have hol:(z.toList.take len).length=len:=by simp;omega
            have j6:aV S β (cs.take len) (z.toList.take len):=by
             have:=j4.take len
             rw[Oz,Pf k4]at this;exact this
            have hcl:(cs.take len).length=len:=by simp;omega
            have hold:∀w':World,(∀a:Addr,w'.cell? a=w.cell? a)->(Builtin.firstCells ei.size len (a.eval x)).run P w'= .ok (z.toList.take len).toArray w':=fun w' hw'=>by
             rw[hvx,h1];refine run_firstCells_some w' 1 len ⟨b,0,none⟩ len cap _ (by grind) fun j q hq=>?_;rw[addr_add,NB,hw',j2.cell]
             grind
            have hroom:nP w ei.size (a.eval x):=⟨_,len,cap,hvx,hlc,(fun h=>by cases h),.inr ⟨b,0,z,rfl,j2,by grind⟩⟩;obtain⟨v,w',hrun,hA⟩:=dq (ty:=o.type) hT ht hk hei hu (n0:=len) (olds:=z.toList.take len) ⟨_,cap,hvx⟩ hlen hfirst' hold (by grind) hflat.1 hflat.2.2 (by grind) hb0 hroom;have hexec:=cD ho hb hts hxs hrun;have hnb:∀t,cT t (cs.take len++ns.map (.byt el))->t=el:=fun t ht=>by
             rcases ht.append with ht|ht
             ·exact Au k3 (ht.mono fun a=>Pu)
             ·exact vl ht
            cases hA with
            |same h0=>
             have hbs:ns=[]:=by simpa using h0
             subst hbs;exact After.val hexec (ML ⟨S,β,γ,lam,ω,H.setV hd hvx0⟩)
            | place b2 off2 cap2 z2 hv2 hr2 hlt2 hc2' hn2=>
             have hbe:(ns.map (AV.int .u8)).isEmpty=false:=by cases ns<;>simp_all
             rw[hbe];simp only[Nh];rw[hvx]at hv2;simp only[Value.slice.injEq,M4,Addr.mk.injEq]at hv2;obtain⟨⟨rfl,rfl,_⟩,_,rfl⟩:=hv2;cases j2.inj hr2;rw[h1,Px]at hexec;rw[Px]at hcn;have hlt3:len+ns.length<=cap:=by simpa using hlt2
             have hysz:(z.toList.take (0+len)++news++z.toList.drop (0+len+news.length)).toArray.size=z.size:=by simp;omega
             have hyv:aV S β (cs.take len++ns.map (.byt el)) ((z.toList.take (0+len)++news++z.toList.drop (0+len+news.length)).toArray.toList.take (cs.take len++ns.map (AV.byt el)).length):=by
              have hl1:(z.toList.take (0+len)++news).length=(cs.take len++ns.map (AV.byt el)).length:=by
               rw[Np,Np,NB,hol,hcl,hnl,N7]
              show aV S β _ (List.take _ (z.toList.take (0+len)++news++z.toList.drop (0+len+news.length)));rw[List.take_left' hl1,NB];exact j6.append hfb
             have hne2:cs.take len++ns.map (AV.byt el)≠[]:=by
              intro h0
              have:=Nq List.length h0
              rw[Np,hcl]at this;simp at this;omega
             have F1:=H.turnH hcs hne ⟨_,hβ⟩ j2 hysz hyv (fun t ht=>by grind [Ce]);have hcs1:(h.set l (cs.take len++ns.map (.byt el)))[l]? = some (cs.take len++ns.map (.byt el)):=by simp[hl]
             obtain⟨ω',F2,hnew,hext⟩:=F1.moveH hcs1 hne2 ⟨_,hβ⟩ j2.setRow hyv (fun t ht=>ht);have hset:(h.set l (cs.take len++ns.map (.byt el))).set l []=h.set l []:=by simp
             rw[hset]at F2;rw[OH]at hnew;refine After.val hexec (ML ⟨_,_,γ,lam,ω',F2.setV hd ?_⟩);simp only[VR]
             grind
            | fresh z2 te cap2 hlt2 hzc hzr hn2 hte=>
             subst hte;have hbe:(ns.map (AV.int .u8)).isEmpty=false:=by cases ns<;>simp_all
             rw[hbe];simp only[Nh];rw[h1,Px]at hzc;have F1:=(H.drew).killH l;obtain⟨ω',F2,hnew,hext⟩:=F1.newH z2 te (cs:=cs.take len++ns.map (.byt te)) (by
              refine .of_get ?_ fun i q v hq hv=>?_
              ·grind
              ·obtain⟨v',h1',h2'⟩:=(j6.append hfb).get hq
               grind) (fun t ht=>hnb t ht)
             rw[OH]at hnew;have hnew':(β++[(w.drew.heap.size,z2.size)])[h.length]? = some (w.heap.size,z2.size):=hnew;refine After.val hexec (ML ⟨_,_,γ,lam,ω',F2.setV hd ?_⟩);simp only[VR]
             grind
           ·omega
       |hn=>grind
       |_=>grind
end
section
variable {P:Program} {cx:Cx} {c:Entry} {N:Nat} {U:Nat->Prop} {e:Env} {h:Hp} {a:Act} {w:World} {S:ay} {β:List bI} {γ:Nat->Value} {lam:Nat->Option Nat} {ω:Nat->Owner} {o:Oper} {gid:Nat}
omit [Dr]in
theorem qG{x:Operand}(h:be x=true):x= .const (.slice none 0 0):=by
 grind [be]
theorem B7{m:M AV}(hd:∀t,o.dst=some t->t<N)(hl:aJ e o.dst (.dyn m .ofV) h≠.fail->After P c N (UG U gid) (aJ e o.dst (.dyn m .ofV) h) o a w)(hr:aJ e o.dst (.dyn (ap m yX) .ofV) h≠.fail):After P c N (UG U gid) (aJ e o.dst (.dyn (ap m yX) .ofV) h) o a w:=by
 intro next Q hn hp
 simp only[aJ,ap,yX,am]at hr hn hp hl;cases hm:m h with
 |fail=>grind
 |pan pv h1=>
  rw[hm]at hp hl;exact hl (by simp) next Q (fun e' h' a' w' h1=>by cases h1) hp
 |ok v h1=>
  rw[hm]at hn hl;refine hl (by simp) next Q (fun e' h' a' w' k1 k2 k3=>?_) (fun pv h' v w' k1=>by cases k1)
  cases k1;exact hn _ _ a' w' rfl (qx (gid:=gid) hd (Shape.ofV ..) k2) k3
theorem Ai{m:M AV}(hd:∀t,o.dst=some t->t<N)(hl:aJ e o.dst (.dyn m .ofV) h≠.fail->After P c N (UG U gid) (aJ e o.dst (.dyn m .ofV) h) o a w)(hr:aJ e o.dst (.dyn (ap m nd) .ofV) h≠.fail):After P c N (UG U gid) (aJ e o.dst (.dyn (ap m nd) .ofV) h) o a w:=by
 intro next Q hn hp
 simp only[aJ,ap,am]at hr hn hp hl;cases hm:m h with
 |fail=>grind
 |pan pv h1=>
  rw[hm]at hp hl;exact hl (by simp) next Q (fun e' h' a' w' h1=>by cases h1) hp
 |ok v h1=>
  rw[hm]at hn hl;simp only at hn;obtain⟨r,h2,hz⟩:=B5 v h1;rw[hz]at hn;refine hl (by simp) next Q (fun e' h' a' w' k1 k2 k3=>?_) (fun pv h' v w' k1=>by cases k1)
  cases k1;exact hn _ _ a' w' rfl (oZ (gid:=gid) (u:=.ofV v) hd (Shape.ofV ..) hz k2) k3
omit [Dr]in
theorem qX{x:Operand}(h:VR S β (opnd e x) (a.eval x)):VR S β (qW e x) (a.eval x):=by
 unfold qW;cases hn:be x with
 |false=>exact h
 |true=>
  grind [be,Act.eval,VR]
omit [Dr]in
theorem LO{f g:Operand->AV}{v:Operand->Value}{l:List Operand}(_:aV S β (l.map f) (l.map v))(h:∀x∈l,VR S β (g x) (v x)):aV S β (l.map g) (l.map v):=by
 induction l with
 |nil=>simp[aV]
 |cons x l ih=>
  rename_i hh;simp only[NL,aV]at hh |-
  grind
theorem DN(hT:TOK P cx.T)(hC:db P cx.own cx.call)(H:FR c N U e h a w S β γ lam ω)(hd:∀t,o.dst=some t->t<N)(hU:∀g,gid<=g->g<gid+1000->¬U g){cc:Call}(ho:o.op= .call cc)(ht:∀x∈o.op.operands.toList,∀t,x= .tmp t->t<1000)(hr:aJ e o.dst (fR cx e gid o cc) h≠.fail):After P c N (UG U gid) (aJ e o.dst (fR cx e gid o cc) h) o a w:=by
 have hargs:∀x∈cc.args.toList,∀t,x= .tmp t->t<1000:=fun x hx t hxt=>ht x (by rw[ho];simp[Op.operands,Call.operands];exact .inr (by simpa using hx)) t hxt;have hvs:=nC H cc.args.toList hargs;have hmap:cc.args.map a.eval=(cc.args.toList.map a.eval).toArray:=by apply Array.ext';simp
 unfold fR at hr |-;cases hcal:cc.callee with
 |invoke r m=>rw[hcal]at hr;exact absurd rfl hr
 | value f=>
  rw[hcal]at hr;have hfv:∀t,f= .tmp t->t<1000:=fun t hft=>ht f (by rw[ho];simp[Op.operands,Call.operands,hcal]) t hft;have hclos:∀(hr:aJ e o.dst (.dyn (dO cx.call (opnd e f) (cc.args.toList.map (opnd e))) .ofV) h≠.fail),After P c N (UG U gid) (aJ e o.dst (.dyn (dO cx.call (opnd e f) (cc.args.toList.map (opnd e))) .ofV) h) o a w:=by
   intro hr;have hf:=aU H f hfv;simp only[aJ]at hr |-;generalize hq:opnd e f=q at hr hf |-;unfold dO at hr |-;split at hr
   ·rename_i g fi cap;simp only[VR]at hf;obtain⟨xs,ys,hav,hx,hy⟩:=hf;refine iR hC H hd hU ((hx.append hvs).append hy) (fun hfn=>?_) (.inl fun v=>rfl) hr;have hargs':(xs++cc.args.toList.map a.eval++ys).toArray=xs.toArray++cc.args.map a.eval++ys.toArray:=by rw[hmap];simp
    simp only[execOp,ho,resolve,hcal,hav,Deferred.ofValue,Sem.run_bind,Sem.run_pure,Result.andThen_ok,invoke];rw[hargs'];exact kh (w:=w) hfn
   ·exact absurd rfl hr
  cases f with
  | func f=>
   simp only at hr |-;have hrunc:∀hfn,(execOp a.eval o).run P w= .ok (.enter f (cc.args.toList.map a.eval).toArray) w:=fun hfn=>by
    simp only[execOp,ho,resolve,hcal,Act.eval,Deferred.ofValue,Sem.run_bind,Sem.run_pure,Result.andThen_ok,invoke];rw[hmap];simpa using kh (w:=w) (args:=(cc.args.toList.map a.eval).toArray) hfn
   cases hfz:bC cx.ann.fz o.dst with
   | true=>
    rw[hfz]at hr;simp only[M6]at hr |-;cases hq:!(cx.iso f)&&(cx.own f).isNone with
    |false=>rw[hq]at hr;exact absurd rfl hr
    | true=>
     rw[hq]at hr;simp only[M6]at hr |-;cases hhl:bC cx.ann.hl o.dst with
     |true=>
      rw[hhl]at hr;exact Ai (m:=cx.call f (cc.args.toList.map (opnd e))) hd (fun hr=>iR hC H hd hU hvs hrunc (.inl fun v=>rfl) hr) hr
     |false=>
      rw[hhl]at hr;exact B7 (m:=cx.call f (cc.args.toList.map (opnd e))) hd (fun hr=>iR hC H hd hU hvs hrunc (.inl fun v=>rfl) hr) hr
   |false=>
   rw[hfz]at hr;simp only[Nh]at hr |-;cases hcm:hJ cx.ann.cm o.dst with
   | some x=>
    obtain⟨m,r⟩:=x;rw[hcm]at hr;simp only at hr |-;cases hq:!(cx.iso f)&&(cx.own f).isNone with
    |false=>rw[hq]at hr;exact absurd rfl hr
    | true=>
     rw[hq]at hr;simp only[M6]at hr |-;have e1:aJ e o.dst (.dyn (iy m r (cx.call f (cc.args.toList.map (opnd e)))) .ofV) h=aJ e o.dst (.dyn (cx.call f (cc.args.toList.map (opnd e))) .ofV) h:=by
      simp only[aJ,Av.ap,iy]at hr |-;cases hx:cx.call f (cc.args.toList.map (opnd e)) h with
      |fail=>rfl
      |pan v h1=>rfl
      |ok v h1=>
       rw[hx]at hr;simp only at hr |-;cases hk:mf m r h h1 with
       |false=>rw[hk]at hr;exact absurd rfl hr
       |true=>rfl
     rw[e1]at hr |-;exact iR hC H hd hU hvs hrunc (.inl fun v=>rfl) hr
   |none=>
   rw[hcm]at hr;simp only at hr |-;have hvt:aV S β (cc.args.toList.map (mh (bC cx.ann.hb o.dst) e)) (cc.args.toList.map a.eval):=by
    refine LO hvs fun x hx=>?_;unfold mh;cases bC cx.ann.hb o.dst with
    |false=>exact aU H x (hargs x hx)
    |true=>exact qX (aU H x (hargs x hx))
   refine iR hC H hd hU hvt (fun hfn=>?_) ?_ hr
   rotate_left
   ·cases hof:cx.own f with
    |none=>exact .inl fun v=>rfl
    |some sz=>exact .inr ⟨sz,rfl,fun v=>rfl⟩
   simp only[execOp,ho,resolve,hcal,Act.eval,Deferred.ofValue,Sem.run_bind,Sem.run_pure,Result.andThen_ok,invoke];rw[hmap];simpa using kh (w:=w) (args:=(cc.args.toList.map a.eval).toArray) hfn
  |tmp t=>exact hclos hr
  |const v=>exact hclos hr
  |global g=>exact hclos hr
 | builtin b=>
  rw[hcal]at hr;cases b<;>simp only at hr |- <;> (try exact absurd rfl hr)
  case append=>
   split at hr
   ·rename_i t u x y hts hxs;cases hu:iq cx.T u with
    |false=>rw[hu]at hr;exact absurd rfl hr
    | true =>
     rw[hu]at hr;simp only[Nv,Nh]at hr |-;have hx:∀t,x= .tmp t->t<1000:=hargs x (by rw[hxs];simp);have hy:∀t,y= .tmp t->t<1000:=hargs y (by rw[hxs];simp);cases hha:bC cx.ann.ha o.dst with
     | true=>
      rw[hha]at hr;simp only[M6]at hr |-;cases hhb:bC cx.ann.hb o.dst with
      |true=>
       rw[hhb]at hr;exact DI hT H hd ho hcal hts hxs hx hy hu hr
      | false=>
       rw[hhb]at hr;simp only[Nh]at hr |-;cases hhl:bC cx.ann.hl o.dst with
       | true=>
        rw[hhl]at hr;simp only[M6]at hr |-;have e1:∀e':Env,aJ e o.dst (.dyn (uU cx.T t (fK e x) (opnd e x) (opnd e y)) .ofV) h=match oD h (opnd e y)with
          |some es=>aJ e o.dst (.dyn (appH cx.T t (fK e x) (opnd e x) (.sl es)) .ofV) h
          |none=>.fail:=fun _=>by
         simp only[aJ,Av.ap,uU];cases oD h (opnd e y)<;>rfl
        rw[e1 e]at hr |-;cases hsa:oD h (opnd e y)with
        |none=>rw[hsa]at hr;exact absurd rfl hr
        |some es=>
         rw[hsa]at hr;exact uV hT H hd ho hcal hts hxs hx hu (mI H (aU H y hy) hsa) hr
       |false=>
        rw[hhl]at hr;simp only[Nh]at hr |-;exact uV hT H hd ho hcal hts hxs hx hu (j9 H.wf (aU H y hy)) hr
     | false=>
      rw[hha]at hr;simp only[Nh]at hr |-;cases hnc:be x with
      | true=>
       rw[hnc]at hr;simp only[M6]at hr |-;have hxc:=qG hnc;subst hxc;have key:∀Y r,fB cx.T t (.sl []) Y=some r->sb P S β w (a.eval y) Y->After P c N (UG U gid) (.ok (e.upd o.dst (Upd.own r gid (dv cx.T t))) h) o a w:=fun Y r happ hsrc=>
        sq hT H hd hU ho hcal hts hxs hu (as:=[]) (g0:=none) rfl (by simp only[VR];exact⟨none,0,rfl,M7 _,fun _=>rfl,fun q hq=>by cases hq⟩) (.inl ⟨rfl,rfl⟩) happ hsrc
       cases hhl:bC cx.ann.hl o.dst with
       | true=>
        rw[hhl]at hr;simp only[M6,aJ,Av.ap,uW]at hr |-;cases hsa:oD h (opnd e y)with
        |none=>rw[hsa]at hr;exact absurd rfl hr
        |some es=>
         rw[hsa]at hr;simp only at hr |-;cases happ:fB cx.T t (.sl []) (.sl es)with
         |none=>rw[happ]at hr;exact absurd rfl hr
         |some r=>exact key _ r happ (mI H (aU H y hy) hsa)
       |false=>
        rw[hhl]at hr;simp only[Nh]at hr |-;cases happ:fB cx.T t (.sl []) (opnd e y)with
        |none=>rw[happ]at hr;exact absurd rfl hr
        |some r=>exact key _ r happ (j9 H.wf (aU H y hy))
      | false=>
       rw[hnc]at hr;simp only[Nh]at hr |-;cases x<;>simp only at hr |- <;> (try exact absurd rfl hr);rename_i s;cases hg:(e.get s).g with
       |none=>rw[hg]at hr;exact absurd rfl hr
       | some g=>
        rw[hg]at hr;simp only at hr |-;cases hal:aK e.al g with
        |none=>rw[hal]at hr;exact absurd rfl hr
        | some z=>
         rw[hal]at hr;simp only at hr |-;cases hz:uF z (dv cx.T t)with
         |false=>rw[hz]at hr;exact absurd rfl hr
         | true=>
          rw[hz]at hr;simp only[M6]at hr |-;have key:∀Y r,fB cx.T t (opnd e (.tmp s)) Y=some r->sb P S β w (a.eval y) Y->After P c N (UG U gid) (.ok (e.upd o.dst { Upd.own r gid (dv cx.T t)with drop:=some g }) h) o a w:=fun Y r happ hsrc=>by
           obtain⟨as,has⟩:=DG happ;have hvx:=aU H (.tmp s) hx;rw[has]at hvx happ;have hγ:=H.grps s g z (hx s rfl) hg hal;exact sq hT H hd hU ho hcal hts hxs hu (as:=as) (g0:=some g) rfl hvx (.inr ⟨g,z,rfl,by
            have:a.eval (.tmp s)=γ g:=hγ;rw[this];exact H.free g z hal,hz⟩) happ hsrc
          cases hhl:bC cx.ann.hl o.dst with
          | true=>
           rw[hhl]at hr;simp only[M6,aJ,Av.ap,uW]at hr |-;cases hsa:oD h (opnd e y)with
           |none=>rw[hsa]at hr;exact absurd rfl hr
           |some es=>
            rw[hsa]at hr;simp only at hr |-;cases happ:fB cx.T t (opnd e (.tmp s)) (.sl es)with
            |none=>rw[happ]at hr;exact absurd rfl hr
            |some r=>exact key _ r happ (mI H (aU H y hy) hsa)
          |false=>
           rw[hhl]at hr;simp only[Nh]at hr |-;cases happ:fB cx.T t (opnd e (.tmp s)) (opnd e y)with
           |none=>rw[happ]at hr;exact absurd rfl hr
           |some r=>exact key _ r happ (j9 H.wf (aU H y hy))
   ·exact absurd rfl hr
  case clear=>
   split at hr
   ·rename_i t ts x xs hts hxs;exact BD hT H hd ho hcal hts hxs (hargs x (by rw[hxs];simp)) hr
   ·exact absurd rfl hr
  case len=>
   split at hr
   ·rename_i t ts x xs hts hxs;refine ef H hd (m:=Builtin.len_ cc.argTypes o.type (cc.args.map a.eval)) ?_ (fun r hr'=>?_) hr
    ·simp only[execOp,ho,resolve,hcal,invoke,builtin,pure_bind]
    ·have h1:cc.argTypes=(t:: ts).toArray:=by apply Array.ext';simpa using hts
     have h2:cc.args.map a.eval=(a.eval x:: xs.map a.eval).toArray:=by rw[hmap,hxs];simp
     rw[h1,h2];exact GK hT ts (xs.map a.eval) hr' (aU H x (hargs x (by rw[hxs];simp)))
   ·exact absurd rfl hr
  case min=>
   refine ef H hd (m:=Builtin.min_ cc.argTypes o.type (cc.args.map a.eval)) ?_ (fun r hr'=>?_) hr
   ·simp only[execOp,ho,resolve,hcal,invoke,builtin,pure_bind]
   ·obtain⟨v,rest,he,hp⟩:=ui (P:=P) (w:=w) _ _ (M7 _) r _ hr' hvs;obtain⟨u,hu,hur⟩:=hp;exact⟨u,by rw[hmap];simp only[Builtin.min_];rw[he];simpa using hu,hur⟩
  case max=>
   refine ef H hd (m:=Builtin.max_ cc.argTypes o.type (cc.args.map a.eval)) ?_ (fun r hr'=>?_) hr
   ·simp only[execOp,ho,resolve,hcal,invoke,builtin,pure_bind]
   ·obtain⟨v,rest,he,hp⟩:=ui (P:=P) (w:=w) _ _ (M7 _) r _ hr' hvs;obtain⟨u,hu,hur⟩:=hp;exact⟨u,by rw[hmap];simp only[Builtin.max_];rw[he];simpa using hu,hur⟩
theorem J9(hT:TOK P cx.T)(H:FR c N U e h a w S β γ lam ω)(hd:∀t,o.dst=some t->t<N){one:Bool}{t p:Nat}(ho:o.op= .load t (.tmp p))(hx:p<1000)(hr:aJ e o.dst (GD one (d8 cx e o.dst t p)) h≠.fail):
  After P c N (UG U gid) (aJ e o.dst (GD one (d8 cx e o.dst t p)) h) o a w:=by
 have hsh:b9 (Shape e gid {} none) (d8 cx e o.dst t p):=mC o.dst t p {};have hl:=fun hr=>ub (gid:=gid) hT H hd ho hx hr;revert hr;generalize d8 cx e o.dst t p=A at hsh hl;intro hr;cases A with
 |bad=>exact absurd rfl hr
 | stat u=>
  intro next Q hn hp
  obtain⟨r,h2,hz,hk⟩:=o6 (c:=c) (U:=UG U gid) one h hd hsh;simp only[aJ,GD,ap,am]at hn;rw[hz]at hn;exact hl (by simp[aJ,am]) next Q (fun e' h' a' w' h1 h3 h4=>by
   cases h1;exact hn _ _ a' w' rfl (hk _ _ h3) h4) (fun pv h' v w' h1=>by cases h1)
 |thr v=>exact hl hr
 | dyn m sh=>
  intro next Q hn hp
  simp only[aJ,GD,ap,am]at hr hn hp hl;cases hm:m h with
  |fail=>rw[hm]at hr;exact absurd rfl hr
  |pan pv h1=>
   rw[hm]at hp hl;exact hl (by simp) next Q (fun e' h' a' w' h1=>by cases h1) hp
  |ok v h1=>
   obtain⟨r,h2,hz,hk⟩:=o6 (c:=c) (U:=UG U gid) one h1 hd (hsh v);rw[hm]at hn hl;simp only[hz]at hn;refine hl (by simp) next Q (fun e' h' a' w' k1 k2 k3=>?_) (fun pv h' v w' k1=>by cases k1)
   cases k1;exact hn _ _ a' w' rfl (hk _ _ k2) k3
theorem CI(hT:TOK P cx.T)(hC:db P cx.own cx.call)(H:FR c N U e h a w S β γ lam ω)(hd:∀t,o.dst=some t->t<N)(hU:∀g,gid<=g->g<gid+1000->¬U g)(ht:∀x∈o.op.operands.toList,∀t,x= .tmp t->t<1000)(hpN:∀p,Aw (cj cx.ann.kinds p .L)=true->p<N)(hr:bv cx e gid o h≠.fail):After P c N (UG U gid) (bv cx e gid o h) o a w:=by
 cases ho:o.op with
 |move x=>grind [zj,Op.operands]
 |assign x=>exact zj H hd hU (.inr ho) (fun t hx=>ht x (by rw[ho];simp[Op.operands]) t hx)
 |pick k x y=>
  have h1:=fun t hx=>ht k (by rw[ho];simp[Op.operands]) t hx;have h2:=fun t hx=>ht x (by rw[ho];simp[Op.operands]) t hx;have h3:=fun t hx=>ht y (by rw[ho];simp[Op.operands]) t hx;unfold bv fE at hr |-;rw[ho]at hr |-;simp only at hr |-;refine ef H hd (m:=do pure (if <- asBool (a.eval k)then a.eval x else a.eval y)) ?_ (fun r hr'=>EO hr' (aU H k h1) (aU H x h2) (aU H y h3)) hr
  grind [execOp,bind_assoc]
 |alloc t=>exact Bh hT H hd hU ho hr
 |box t x=>grind [Gi,Op.operands]
 |build t ps=>
  have hps:∀p∈ps.toList,∀t,p.2= .tmp t->t<1000:=fun p hp t hx=>ht p.2 (by grind [Op.operands]) t hx;unfold bv fE at hr |-;rw[ho]at hr |-;simp only at hr |-;exact ef H hd (m:=Instr.build t (ps.map fun p=>(p.1,a.eval p.2))) (by simp only[execOp,ho]) (fun r hr'=>Bt hT hr' (by simpa using oA H ps.toList hps)) hr
 | buildSlice t n ps=>
  have hps:∀p∈ps.toList,∀t,p.2= .tmp t->t<1000:=fun p hp t hx=>ht p.2 (by grind [Op.operands]) t hx;cases hha:bC cx.ann.ha o.dst with
  |false=>grind [rM]
  |true=>
   unfold bv fE at hr |-;rw[ho]at hr |-;simp only[hha,M6]at hr |-;exact zW hT H hd ho hps hr
 | load t x=>
  unfold bv fE at hr |-;rw[ho]at hr |-;cases x with
  | tmp p=>
   have hp:=ht (.tmp p) (by rw[ho];simp[Op.operands]) p rfl;simp only at hr |-;cases hlm:hJ cx.ann.lm o.dst with
   | some x=>
    obtain⟨m,r⟩:=x;rw[hlm]at hr;simp only at hr |-;cases hv:(e.get p).v with
    |loc B off=>rw[hv]at hr;exact absurd rfl hr
    | val av=>
     rw[hv]at hr;have e1:aJ e o.dst (.dyn (fu cx.T m r t av) .ofV) h=aJ e o.dst (d8 { cx with ann:={ cx.ann with hl:=o.dst.toList } } e o.dst t p) h:=by
      unfold d8;rw[hv];cases hd':o.dst with
      |none=>rw[hd']at hlm;simp[hJ]at hlm
      |some s=>
       rw[hd']at hr;have h1:bC [s] (some s)=true:=by simp[bC,cW]
       simp only[Option.toList,h1,M6,aJ,Av.ap,fu]at hr |-
       grind
     grind [ub]
   |none=>
   rw[hlm]at hr;simp only at hr |-;cases hnl:bC cx.ann.nl o.dst&&iZ (e.get p)with
   |true=>rw[hnl]at hr;exact absurd rfl hr
   |false=>
   rw[hnl]at hr;simp only[Nh]at hr |-;cases hz:bC cx.ann.fz o.dst with
   |false=>grind [ub]
   |true=>
    rw[hz]at hr;simp only[M6]at hr |-;exact J9 hT H hd ho hp hr
  |global g=>
   simp only at hr |-;exact ef H hd (m:=Instr.loadAt t (a.eval (.global g))) (by simp only[execOp,ho]) (fun r hr'=>ua hT H.wf hr' (aU H (.global g) (fun t hx=>by cases hx))) hr
  |_=>exact absurd rfl hr
 | store t x y=>
  by_cases hsep:∃p,x= .tmp p/\rn cx p=true
  ·obtain⟨p,rfl,hs⟩:=hsep;have hcx:bv { cx with ann:={ cx.ann with sl1:=[],sl0:=[],lw:=[] } } e gid o h=bv cx e gid o h:=by
    unfold bv fE at hr |-;rw[ho]at hr |-;simp only at hr |-;cases hd':o.dst with
    |some d=>rfl
    | none=>
     rw[hd']at hr;simp only[hs,M6]at hr |-;have h0:rn { cx with ann:={ cx.ann with sl1:=[],sl0:=[],lw:=[] } } p=false:=rfl;have h1:cW ([]:List Nat) p=false:=rfl;simp only[h0,h1,Nh,NG];unfold tm at hr |-;unfold fL;cases hv:(e.get p).v with
     |loc B off=>rw[hv]at hr;exact absurd rfl hr
     | val av=>
      rw[hv]at hr;simp only[aJ,Av.ap]at hr |-;cases av with
      |hp l off=>
       simp only[nE]at hr |-
       grind
      |_=>exact absurd rfl hr
   have:=wX (cx:={ cx with ann:={ cx.ann with sl1:=[],sl0:=[],lw:=[] } }) hT H (fun _ _=>trivial) hU ho (fun t hx=>ht (.tmp p) (by rw[ho];simp[Op.operands]) t hx) (fun t hx=>ht y (by rw[ho];simp[Op.operands]) t hx) (fun p _ hp=>hpN p hp) (fun _ _=>rfl) (by grind)
   grind
  exact wX hT H (fun _ _=>trivial) hU ho (fun t hx=>ht x (by rw[ho];simp[Op.operands]) t hx) (fun t hx=>ht y (by rw[ho];simp[Op.operands]) t hx) (fun p _ hp=>hpN p hp) (fun p hx=>by
   grind) hr
 |nilCheck x=>grind [wy,Op.operands]
 |binOp op t x y u=>
  have h1:=fun t hx=>ht x (by rw[ho];simp[Op.operands]) t hx;have h2:=fun t hx=>ht y (by rw[ho];simp[Op.operands]) t hx;unfold bv fE at hr |-;rw[ho]at hr |-;simp only at hr |-;cases hlit:qD cx.T op t x y with
  |true=>rw[hlit]at hr;exact absurd rfl hr
  |false=>
  rw[hlit]at hr;simp only[Nh]at hr |-;exact ef H hd (m:=do eqGuard op t x y (a.eval x) (a.eval y);Go.binOp op t (a.eval x) (a.eval y)) (by simp only[execOp,ho]) (fun r hr'=>Gh hT x y hlit hr' (qX (aU H x h1)) (qX (aU H y h2))) hr
 |unOp op t x=>
  have h1:=fun t hx=>ht x (by rw[ho];simp[Op.operands]) t hx;unfold bv fE at hr |-;rw[ho]at hr |-;simp only at hr |-;exact ef H hd (m:=Op.unary op (a.eval x)) (by simp only[execOp,ho]) (fun r hr'=>KO hr' (aU H x h1)) hr
 |convert s t x=>
  have h1:=fun t hx=>ht x (by rw[ho];simp[Op.operands]) t hx;unfold bv fE at hr |-;rw[ho]at hr |-;simp only at hr |-;exact ef H hd (m:=convert s t (a.eval x)) (by simp only[execOp,ho]) (fun r hr'=>D8 hT hr' (aU H x h1)) hr
 |makeInterface t x=>
  have h1:=fun t hx=>ht x (by rw[ho];simp[Op.operands]) t hx;unfold bv fE at hr |-;rw[ho]at hr |-;simp only at hr |-;exact ef H hd (m:=Instr.makeInterface t (a.eval x)) (by simp only[execOp,ho]) (fun r hr'=>yh hT hr' (aU H x h1)) hr
 |makeFunc f x y=>
  have h1:=nC H x.toList (fun z hz t hx=>ht z (by grind [Op.operands]) t hx);have h2:=nC H y.toList (fun z hz t hx=>ht z (by grind [Op.operands]) t hx);unfold bv fE at hr |-;rw[ho]at hr |-;simp only at hr |-;refine After.val (v:=.func f (x.map a.eval) (y.map a.eval)) (w':=w) (by simp[execOp,ho,Instr.makeFunc]) (ML ⟨S,β,γ,lam,ω,H.setV hd ?_⟩)
  grind [VR,Array]
 | makeSlice t x y=>
  have hx1:∀t,x= .tmp t->t<1000:=fun t hx=>ht x (by rw[ho];simp[Op.operands]) t hx;have hy1:∀t,y= .tmp t->t<1000:=fun t hx=>ht y (by rw[ho];simp[Op.operands]) t hx;cases hha:bC cx.ann.ha o.dst with
  |false=>grind [uf]
  |true=>
   unfold bv fE at hr |-;rw[ho]at hr |-;simp only[hha,M6]at hr |-;exact Cs hT H hd ho hx1 hy1 hr
 | slice t x lo hi mx=>
  cases hso:bC cx.ann.so o.dst with
  |true=>
   unfold bv fE at hr |-;rw[ho]at hr |-;simp only[hso,M6]at hr |-
   grind [Gt,Op.operands]
  |false=>
   grind [C2,Op.operands]
 |fieldAddr t x f=>grind [tW,Op.operands]
 |field t x f=>
  have h1:=fun t hx=>ht x (by rw[ho];simp[Op.operands]) t hx;unfold bv fE at hr |-;rw[ho]at hr |-;simp only at hr |-;exact ef H hd (m:=Instr.field t (a.eval x) f) (by simp only[execOp,ho]) (fun r hr'=>BU hT hr' (aU H x h1)) hr
 |indexAddr t x i=>grind [tX,Op.operands]
 |index t x i=>
  have h1:=fun t hx=>ht x (by rw[ho];simp[Op.operands]) t hx;have h2:=fun t hx=>ht i (by rw[ho];simp[Op.operands]) t hx;unfold bv fE at hr |-;rw[ho]at hr |-;simp only at hr |-;exact ef H hd (m:=Instr.index t (a.eval x) (a.eval i)) (by simp only[execOp,ho]) (fun r hr'=>vV hT hr' (aU H x h1) (aU H i h2)) hr
 |extract x i=>
  have h1:=fun t hx=>ht x (by rw[ho];simp[Op.operands]) t hx;unfold bv fE at hr |-;rw[ho]at hr |-;simp only at hr |-;exact ef H hd (m:=Instr.extract (a.eval x) i) (by simp only[execOp,ho]) (fun r hr'=>xJ hr' (aU H x h1)) hr
 |panic x=>
  have h1:=fun t hx=>ht x (by rw[ho];simp[Op.operands]) t hx;have hv:=aU H x h1;unfold bv fE at hr |-;rw[ho]at hr |-;simp only at hr |-;cases hq:opnd e x<;>rw[hq]at hr hv<;>(try exact absurd rfl hr);rename_i t v;intro next Q hn hp
  simp only[VR]at hv;obtain⟨y,hav,hy⟩:=hv;unfold Oper.wp;have hrun:(execOp a.eval o).run P w= .halt (.panic (.iface t y)) w:=by simp[execOp,ho,hav,Instr.panic]
  rw[hrun];exact hp (.iface t v) h (.iface t y) w rfl ⟨S,β,H.out,by simp only[VR];grind⟩
 |call cc=>
  unfold bv fE at hr |-
  grind [DN]
 | makeMap t r=>
  unfold bv fE at hr |-;rw[ho]at hr |-;simp only at hr |-;cases r with
  |some r=>exact absurd rfl hr
  |none=>
   simp only[Option.isSome_none,Nh];exact yg H hd ho hr
 |lookup t x i ok=>
  have h1:=fun t hx=>ht x (by rw[ho];simp[Op.operands]) t hx;have h2:=fun t hx=>ht i (by rw[ho];simp[Op.operands]) t hx;unfold bv fE at hr |-
  grind [AC]
 |range t x=>
  have h1:=fun t hx=>ht x (by rw[ho];simp[Op.operands]) t hx;unfold bv fE at hr |-
  grind [CL]
 |entry x=>
  have h1:=fun t hx=>ht x (by rw[ho];simp[Op.operands]) t hx;unfold bv fE at hr |-
  grind [BM]
 |mapUpdate t m k x=>
  have h1:=fun t hx=>ht m (by rw[ho];simp[Op.operands]) t hx;have h2:=fun t hx=>ht k (by rw[ho];simp[Op.operands]) t hx;have h3:=fun t hx=>ht x (by rw[ho];simp[Op.operands]) t hx;unfold bv fE at hr |-
  grind [CK]
 |insert t m k x=>
  have h1:=fun t hx=>ht m (by rw[ho];simp[Op.operands]) t hx;have h2:=fun t hx=>ht k (by rw[ho];simp[Op.operands]) t hx;have h3:=fun t hx=>ht x (by rw[ho];simp[Op.operands]) t hx;unfold bv fE at hr |-
  grind [CK]
 |_=>unfold bv fE at hr;rw[ho]at hr;exact absurd rfl hr
end
def dm:Act1->M Upd
 |.bad=>fA
 |.stat u=>am u
 |.dyn m sh=>ap m fun v=>am (sh v)
 |.thr v=>oE v
def kG(c:AV)(want:Bool)(m:M Upd):M Upd:=match c with
 |.bool b=>bif b== want then m else am (.ofV (.tup []))
 |.tup []=>am (.ofV (.tup []))
 |_=>fA
def eU(cx:Cx)(base:Nat)(ops:Array Oper)(i:Nat)(e:Env):M Upd:=match ops[i]? with
 |none=>fA
 | some o=>match o.guard with
  |none=>dm (fE cx e ((base+i)*1000) o)
  |some (j,want)=>match cK ops j with
   |none=>fA
   |some t=>bif fw cx o then kG (e.av t) want (dm (iu (fE cx e ((base+i)*1000) o)))else fA
def stepG(cx:Cx)(base:Nat)(ops:Array Oper)(i:Nat)(e:Env):M Env:=ap (eU cx base ops i e) fun u=>am (e.upd (cK ops i) u)
def aY(cx:Cx)(base:Nat)(ops:Array Oper):List Nat->Env->M Env
 |[],e=>am e
 |i:: is,e=>ap (stepG cx base ops i e) (aY cx base ops is)
section
omit [Dr]
theorem lV(e:Env)(d:Option Tmp)(A:Act1):aJ e d A=ap (dm A) fun u=>am (e.upd d u):=by
 cases A with
 |bad=>rfl
 |stat u=>rfl
 |dyn m sh=>grind [aJ,dm,bK,ai]
 |thr v=>rfl
theorem lG{p:Upd->Prop}{A:Act1}(h:b9 p A){x y:Hp}{u:Upd}(hr:dm A x= .ok u y):p u:=by
 cases A with
 |bad=>cases hr
 |stat v=>cases hr;exact h
 |dyn m sh=>
  simp only[dm,ap,am]at hr;cases hm:m x<;>rw[hm]at hr<;>simp at hr;rw[<- hr.1];exact h _
 |thr v=>cases hr
theorem oH(A:Act1)(x:Hp):dm (iu A) x=(match dm A x with|.ok u y=>.ok (gS u) y|.pan v y=>.pan v y|.fail=>.fail):=by
 cases A with
 |bad=>rfl
 |stat v=>rfl
 |dyn m sh=>
  simp only[dm,iu,ap,am];cases m x<;>rfl
 |thr v=>rfl
end
section
variable {P:Program} {cx:Cx} {c:Entry} {N:Nat} {e:Env} {h:Hp} {a:Act} {w:World} {ops:Array Oper} {base:Nat}
def UD(base:Nat)(D:List Nat):Nat->Prop:=fun g=>g<base*1000\/∃i∈D,(base+i)*1000<=g/\g<(base+i)*1000+1000
omit [Dr]in
theorem uP{D:List Nat}{i:Nat}(hi:i ∉ D):∀g,(base+i)*1000<=g->g<(base+i)*1000+1000->¬UD base D g:=by
 rintro g h1 h2 (h3|⟨j,hj,h4,h5⟩)
 all_goals grind
omit [Dr]in
theorem tJ{D:List Nat}{i:Nat}:∀g,UG (UD base D) ((base+i)*1000) g->UD base (i:: D) g:=by
 rintro g ((h1|⟨j,hj,h2⟩)|h1)
 ·exact .inl h1
 ·exact .inr ⟨j,by simp[hj],h2⟩
 ·exact .inr ⟨i,by simp,h1⟩
structure OpsOk (N:Nat) (cx:Cx) (ops:Array Oper):Prop where
 dst:∀(i:Nat)(o:Oper),ops[i]? = some o->∀t,o.dst=some t->t<N
 src:∀(i:Nat)(o:Oper),ops[i]? = some o->∀x∈o.op.operands.toList,∀t,x= .tmp t->t<1000
 kin:∀p,Aw (cj cx.ann.kinds p .L)=true->p<N
omit [Dr]in
theorem Al{x:Array Value}{t:Nat}{b:Bool}(h:x.getD t undef= .bool b):x[t]? = some (.bool b):=by
 rw[Oj]at h;cases hx:x[t]? with
 |none=>rw[hx]at h;cases h
 |some v=>grind
theorem A8{U:Nat->Prop}{gid:Nat}{f:Foot}{ss:Option Nat}{d:Option Tmp}{u:Upd}(hs:Shape e gid f ss u)(hw:f.wl=false)(hdr:f.dr=false)(hU:∀g z,aK e.al g=some z->g≠gid){a':Act}{w':World}{h':Hp}(H:eE c N U (e.upd d u) h' a' w'):eE c N U (e.upd d (gS u)) h' a' w':=by
 obtain⟨S,β,γ,lam,ω,F⟩:=H;have h1:=hs.ls hw;have h2:=hs.lb hw;have h3:=hs.unlb hw;have h4:=hs.nodr hdr;have hget:∀t,(e.upd d (gS u)).get t=if d=some t then⟨u.ent.v,none⟩else e.get t:=fun t=>by rw[bV];rfl
 have hget':∀t,(e.upd d u).get t=if d=some t then u.ent else e.get t:=fun t=>by rw[bV,h1];rfl
 refine⟨S,β,γ,lam,ω,F.weak (fun t=>.inl ?_) (fun t g hg=>?_) (fun g z hz=>?_) (fun B n hB=>?_)⟩
 ·grind
 ·grind
 ·have hz':aK e.al g=some z:=hz;show aK (u.add++eY e.al u.drop) g=some z;rw[h4];have hne:=hU g z hz';have:∀l:List (Nat×Option Nat),(∀x∈l,x.1=gid)->aK (l++eY e.al none) g=some z:=by
   intro l
   induction l with
   |nil=>intro _;exact hz'
   | cons x l ih=>
    intro hl;obtain⟨k,y⟩:=x;rw[NQ,cg,M9]
    ·grind
    ·have:=hl (k,y) (by simp)
     grind
  exact this u.add (hs.add hw)
 ·show aS (kT (dY e.lb u.unlb) u.lb) B=some n;rw[h2,h3];exact hB
theorem rr(hT:TOK P cx.T)(hC:db P cx.own cx.call)(hO:OpsOk N cx ops){D:List Nat}{i:Nat}(hi:i ∉ D)(H:eE c N (UD base D) e h a w)(hr:stepG cx base ops i e h≠.fail){K:Act->World->Prop}{Q:Exit->Act->World->Prop}(hn:∀e' h' a' w',stepG cx base ops i e h= .ok e' h'->eE c N (UD base (i:: D)) e' h' a' w'->a'.defers=a.defers->K a' w')(hp:∀pv h' v w',stepG cx base ops i e h= .pan pv h'->ml c pv h' v w'->Q (.panic [{ v,recovered:=false }]) a w'):wpOp P ops Q i K a w:=by
 obtain⟨S,β,γ,lam,ω,F⟩:=H;unfold stepG eU at hr hn hp;simp only[wpOp];cases ho:ops[i]? with
 |none=>rw[ho]at hr;exact absurd rfl hr
 | some o=>
  have hdst:cK ops i=o.dst:=by simp[cK,ho]
  rw[hdst,ho]at hr hn hp;simp only at hr hn hp |-;have hop:=fun(hr:bv cx e ((base+i)*1000) o h≠.fail)=>CI hT hC F (hO.dst i o ho) (uP hi) (hO.src i o ho) hO.kin hr;cases hg:o.guard with
  |none=>
   rw[hg]at hr hn hp;simp only at hr hn hp;rw[<- lV]at hr hn hp;have hw:Region.wanted o (yielded ops a.tmps)=true:=by unfold Region.wanted;rw[hg]
   rw[Nn hw];exact .inl (hop hr K Q (fun e' h' a' w' h1 h2 h3=>hn e' h' a' w' h1 (h2.wider tJ) h3) hp)
  | some g=>
   obtain⟨j,want⟩:=g;rw[hg]at hr hn hp;simp only at hr hn hp;have hwant:Region.wanted o (yielded ops a.tmps)=(yielded ops a.tmps j== some want):=by unfold Region.wanted;rw[hg]
   cases hdj:cK ops j with
   |none=>rw[hdj]at hr;exact absurd rfl hr
   | some t=>
    rw[hdj]at hr hn hp;simp only at hr hn hp;cases hpl:fw cx o with
    |false=>rw[hpl]at hr;exact absurd rfl hr
    |true=>
    rw[hpl]at hr hn hp;simp only[M6]at hr hn hp;have hdj':(ops[j]?).bind (·.dst)=some t:=hdj;have htN:t<N:=by
     cases hoj:ops[j]? with
     |none=>grind
     |some oj=>rw[hoj]at hdj';exact hO.dst j oj hoj t hdj'
    have hs:=F.slots t (by have:=F.tsz.2;omega);have hav:VR S β (e.av t) (a.tmps.getD t undef):=by
     simp only[Env.av,Ent.av];cases hv:(e.get t).v with
     |val av=>rw[hv]at hs;exact hs
     |loc B off=>simp[VR]
    have hskip:(∀e' h' a' w',(R.ok (e.upd o.dst (.ofV (.tup []))) h:R Env)= .ok e' h'->eE c N (UD base (i:: D)) e' h' a' w'->a'.defers=a.defers->K a' w')->K (a.put o.dst undef) w:=by
     intro hn;exact hn _ _ _ _ rfl ⟨S,β,γ,lam,ω,(F.setV (v:=undef) (hO.dst i o ho) (by simp only[VR];exact⟨[],rfl,by simp[aV]⟩)).wider (fun g hg=>tJ g (.inl hg))⟩ (put_defers a o.dst undef)
    cases hq:e.av t with
    | bool b=>
     rw[hq]at hr hn hp hav;simp only[VR]at hav;have hy:yielded ops a.tmps j=some b:=by
      unfold yielded;rw[hdj'];simp only[OV,Al hav]
     rw[hwant,hy];cases hbw:(b== want)with
     | true=>
      simp only[kG,hbw,M6]at hr hn hp;have:b=want:=by simpa using hbw
      subst this;rw[Nn (by simp)];simp only[fw,M5,NR]at hpl;simp only[ap,oH,am]at hr hn hp;have hact:dm (fE cx e ((base+i)*1000) o) h≠.fail:=by
       intro hf;rw[hf]at hr;exact hr rfl
      refine .inl (hop ?_ K Q (fun e' h' a' w' h1 h2 h3=>?_) (fun pv h' v w' h1 h2=>?_))
      ·unfold bv;rw[lV]
       grind [ap,am]
      ·unfold bv at h1;rw[lV]at h1;simp only[ap,am]at h1;cases hx:dm (fE cx e ((base+i)*1000) o) h with
       |fail=>grind
       |pan pv hh=>grind
       |ok u hh=>
        rw[hx]at h1 hn;simp only[R.ok.injEq]at h1;obtain⟨rfl,rfl⟩:=h1;have hsh:=lG (lS cx e ((base+i)*1000) o) hx;exact hn _ _ a' w' rfl ((A8 hsh hpl.1 hpl.2 (fun g z hz hgg=>uP hi g (by omega) (by omega) (F.used.2 g z hz)) h2).wider tJ) h3
      ·unfold bv at h1;rw[lV]at h1;simp only[ap,am]at h1
       grind
     |false=>
      simp only[kG,hbw,Nh,ai]at hn;have:(some b== some want)=false:=by simpa using hbw
      rw[M9 (by rw[this];simp)];exact hskip hn
    | tup vs=>
     rw[hq]at hr hn hp hav;cases vs with
     | nil=>
      simp only[kG,ai]at hn;simp only[VR,aV]at hav;obtain⟨vs,hav,rfl⟩:=hav;have hy:yielded ops a.tmps j=none:=by
       unfold yielded;rw[hdj'];simp only[OV];rw[Oj]at hav;cases hx:a.tmps[t]? with
       |none=>rfl
       |some v=>grind
      rw[hwant,hy,M9 (by simp)];exact hskip hn
     |cons v vs=>exact absurd rfl hr
    |_=>rw[hq]at hr;exact absurd rfl hr
def UR(base n:Nat):Nat->Prop:=fun g=>g<(base+n)*1000
omit [Dr]in
theorem E4{D:List Nat}{n:Nat}(h:∀i∈D,i<n):∀g,UD base D g->UR base n g:=by
 rintro g (h1|⟨i,hi,h2,h3⟩)
 ·exact Nat.lt_of_lt_of_le h1 (NA _ (by omega))
 ·have h4:(base+i)*1000+1000<=(base+n)*1000:=by
   have:=h i hi
   rw[show (base+i)*1000+1000=(base+i+1)*1000 by grind];exact NA _ (by omega)
  exact Nat.lt_of_lt_of_le h3 h4
theorem tv(hT:TOK P cx.T)(hC:db P cx.own cx.call)(hO:OpsOk N cx ops){Q:Exit->Act->World->Prop}:∀(l:List Nat)(D:List Nat)(e:Env)(h:Hp)(a:Act)(w:World),l.Nodup->(∀i∈l,i ∉ D)->
  eE c N (UD base D) e h a w->aY cx base ops l e h≠.fail->
  (∀e' h' a' w',aY cx base ops l e h= .ok e' h'->eE c N (UD base (l.reverse++D)) e' h' a' w'->a'.defers=a.defers->Q .normal a' w')->
  (∀pv h' v w' a',aY cx base ops l e h= .pan pv h'->ml c pv h' v w'->a'.defers=a.defers->Q (.panic [{ v,recovered:=false }]) a' w')->wpOps P ops Q l a w
 |[],D,e,h,a,w,_,_,H,_,hn,_=>by
  simp only[wpOps];exact hn e h a w rfl (by simpa using H) rfl
 | i:: l,D,e,h,a,w,hnd,hdis,H,hr,hn,hp=>by
  simp only[aY,ap]at hr hn hp;have hnd':=List.nodup_cons.1 hnd;rw[wpOps_cons];refine rr hT hC hO (hdis i (by simp)) H (fun hf=>by grind) (fun e' h' a' w' hst hs hdf=>?_) (fun pv h' v w' hst hps=>?_)
  ·rw[hst]at hr hn hp;simp only at hr hn hp;refine tv hT hC hO l (i:: D) e' h' a' w' hnd'.2 (fun j hj=>?_) hs hr (fun e2 h2 a2 w2 h1 h3 h4=>hn e2 h2 a2 w2 h1 (by simpa using h3) (h4.trans hdf)) (fun pv h2 v w2 a2 h1 h3 h4=>hp pv h2 v w2 a2 h1 h3 (h4.trans hdf))
   grind
  grind
end
def bj{α:Type}(m:M α):Prop:=∃o,m=bF o
def dL{α:Type}(m:M α):Prop:=∀h,m h= .fail\/∃v,m h= .ok v h
def ek{α:Type}(m:M α):Prop:=∀h v h',m h≠.pan v h'
section
omit [Dr]
theorem bj.read{α:Type}{m:M α}(h:bj m):dL m:=by
 obtain⟨o,rfl⟩:=h;intro h;cases o with
 |none=>exact .inl rfl
 |some v=>exact .inr ⟨v,rfl⟩
theorem dL.stay{α:Type}{m:M α}(g:dL m):ek m:=by
 intro h v h' hh;rcases g h with g|⟨x,g⟩<;>rw[g]at hh<;>cases hh
theorem bj.bnd{α β:Type}{m:M α}(h:bj m)(f:α->β):bj (ap m fun v=>am (f v)):=by
 obtain⟨o,rfl⟩:=h;cases o with
 |none=>exact⟨none,rfl⟩
 |some v=>exact⟨some (f v),rfl⟩
theorem dL.bnd{α β:Type}{m:M α}(g:dL m)(f:α->β):dL (ap m fun v=>am (f v)):=by
 intro h;simp only[Av.ap,am];rcases g h with g|⟨x,g⟩<;>rw[g]
 all_goals grind
theorem ek.bnd{α β:Type}{m:M α}(g:ek m)(f:α->β):ek (ap m fun v=>am (f v)):=by
 intro h v h' hh;simp only[Av.ap,am]at hh;cases hm:m h<;>rw[hm]at hh<;>simp at hh;exact g _ _ _ hm
theorem bj.lft{α:Type}(o:Option α):bj (bF o):=⟨o,rfl⟩
theorem bj.pure{α:Type}(a:α):bj (am a):=⟨some a,rfl⟩
theorem bj.fail{α:Type}:bj (fA:M α):=⟨none,rfl⟩
end
def kQ{α:Type}(m:M α):Prop:=∀h t v,m h= .ok v h->m (h++t)= .ok v (h++t)
def uO{α:Type}(m:M α):Prop:=∀h v h',m h= .ok v h'->∃t,h'=h++t
section
omit [Dr]
theorem bj.app{α:Type}{m:M α}(h:bj m):kQ m:=by
 obtain⟨o,rfl⟩:=h;intro h t v hh;cases o with
 |none=>cases hh
 |some x=>cases hh;rfl
theorem bj.nw{α:Type}{m:M α}(h:bj m):uO m:=by
 obtain⟨o,rfl⟩:=h;intro h v h' hh;cases o with
 |none=>cases hh
 |some x=>cases hh;simp_all
theorem kQ.bnd{α β:Type}{m:M α}(g:kQ m/\dL m)(f:α->β):kQ (ap m fun v=>am (f v))/\dL (ap m fun v=>am (f v)):=by
 refine⟨fun h t v hh=>?_,g.2.bnd f⟩;simp only[Av.ap,am]at hh |-;rcases g.2 h with k|⟨x,k⟩
 ·grind
 ·rw[k]at hh;cases hh;rw[g.1 h t x k]
theorem uO.bnd{α β:Type}{m:M α}(g:uO m)(f:α->β):uO (ap m fun v=>am (f v)):=by
 intro h v h' hh;simp only[Av.ap,am]at hh;cases hm:m h<;>rw[hm]at hh<;>simp at hh;obtain⟨t,ht⟩:=g _ _ _ hm
 grind
end
def bL(p:∀ {α:Type},M α->Prop):Act1->Prop
 |.dyn m _=>p m
 |.thr _=>False
 |_=>True
structure IsoPure (cx:Cx):Prop where
 iso:∀f args,cx.iso f=true->bj (cx.call f args)
 nw:∀f args,cx.nw f=true->uO (cx.call f args)
section
variable {cx:Cx} {e:Env} {gid:Nat} {o:Oper}
section
omit [Dr]
theorem bL.cond{p:∀ {α:Type},M α->Prop}{b:Bool}{x y:Act1}(h1:b=true->bL p x)(h2:b=false->bL p y):bL p (bif b then x else y):=by
 grind
theorem bL.lft(o:Option AV)(sh:AV->Upd):bL bj (.dyn (bF o) sh):=bj.lft o
theorem mA(T:TT)(t:TypeId)(x:AV):dL (eI T t x):=by
 have key:∀x,dL (fun h:Hp=>(match aX T t x with|some v=>R.ok v h|none=>.fail)):=by
  intro x h;cases hq:aX T t x with
  |none=>exact .inl rfl
  |some v=>grind
 cases x with
 |hp l off=>
  intro h;simp only[eI]
  grind
 |_=>exact key _
theorem pn(T:TT)(t:TypeId)(x y:AV):ek (da T t x y):=by
 intro h v h' hh;unfold da at hh
 grind
theorem vo(T:TT)(t:TypeId)(x:AV):ek (tO T t x):=fun h v h' hh=>by cases hh
theorem tf(cs:List AV):ek (newH cs):=by
 intro h v h' hh
 grind [newH]
theorem AG(t:Nat)(cs:List AV):ek (wx t cs):=by
 intro h v h' hh;unfold wx at hh
 grind
theorem uk:ek gW:=by
 intro h v h' hh;cases hh
theorem yd(T:TT)(t:TypeId)(x k:AV)(ok:Bool):dL (jU T t x k ok):=by
 intro h;unfold jU
 grind
theorem Ab{h s:Hp}{x:AV}{es:List AV}(hh:oP h x=some es):oP (h++s) x=some es:=by
 unfold oP at hh |-
 grind
theorem AB(T:TT)(t:TypeId)(x k:AV)(ok:Bool):kQ (jU T t x k ok):=by
 intro h s v hh;unfold jU at hh |-;cases hs:oP h x with
 |none=>grind
 |some es=>
  rw[hs]at hh;rw[Ab hs];simp only at hh |-;cases ha:ta T t es k ok with
  |none=>grind
  |some u=>grind
theorem wD(T:TT)(t:TypeId)(x:AV):ek (uq T t x):=fun h v h' hh=>by cases hh
theorem vw(x:AV):dL (qh x):=fun h=>.inl rfl
theorem xD(x:AV):kQ (qh x):=fun h s v hh=>by cases hh
theorem tq(T:TT)(t:TypeId)(x k y:AV):ek (rY T t x k y):=by
 intro h v h' hh;unfold rY at hh
 grind
theorem sk(T:TT)(t:TypeId)(z:Bool)(x y:AV):ek (appH T t z x y):=by
 intro h v h' hh;unfold appH at hh;have hc:∀ {b:Bool} {r s:R AV},(∀v h',r≠.pan v h')->(∀v h',s≠.pan v h')->(bif b then r else s)≠.pan v h':=by
  intro b r s h1 h2;cases b
  ·exact h2 _ _
  ·exact h1 _ _
 split at hh
 ·cases hh
 ·split at hh
  all_goals grind
theorem Ci(m r:Nat){x:M AV}(h:uO x):uO (iy m r x):=by
 intro hp v h' hh;unfold iy at hh;cases hx:x hp with
 |fail=>grind
 |pan v h1=>grind
 |ok v1 h1=>
  rw[hx]at hh;simp only at hh;cases hk:mf m r hp h1 with
  |false=>grind
  |true=>rw[hk]at hh;cases hh;exact h _ _ _ hx
theorem kq(T:TT)(m r:Nat)(t:TypeId)(x:AV):dL (fu T m r t x):=by
 intro h;unfold fu;split
 ·rename_i l off ti ht;cases hb:Nat.beq (off % m) r&&!ti.agg with
  |false=>exact .inl rfl
  |true=>exact mA T t (.hp l off) h
 grind
theorem oB(T:TT)(b:Bool)(t:TypeId)(x y:AV):ek (nE T b t x y):=by
 intro h v h' hh;unfold nE at hh;split at hh
 ·rename_i l off;cases hb:Nat.beq (l+1) h.length== b with
  |false=>grind
  |true=>rw[hb]at hh;exact pn _ _ _ _ h v h' hh
 ·cases hh
theorem xf(T:TT)(t:TypeId)(z:Bool)(x y:AV):ek (uU T t z x y):=by
 intro h v h' hh;unfold uU at hh;split at hh
 ·exact sk _ _ _ _ _ h v h' hh
 ·cases hh
theorem zP(T:TT)(t:TypeId)(x y:AV):ek (pT T t x y):=by
 intro h v h' hh;unfold pT at hh;have hc:∀ {b:Bool} {r s:R AV},(∀v h',r≠.pan v h')->(∀v h',s≠.pan v h')->(bif b then r else s)≠.pan v h':=by
  intro b r s h1 h2;cases b
  ·exact h2 _ _
  ·exact h1 _ _
 split at hh
 ·cases hh
 ·split at hh
  ·split at hh
   all_goals grind
  ·cases hh
theorem vf(T:TT)(t n:Nat)(ps:List (Nat×AV)):ek (tN T t n ps):=fun h v h' hh=>by cases hh
theorem yf(T:TT)(t:Nat)(x y:AV):ek (zh T t x y):=fun h v h' hh=>by cases hh
theorem td(told:Bool)(x:Operand):bL bj (jb told e gid x):=by
 unfold jb;split
 ·trivial
 ·exact bL.cond (fun _=>bL.cond (fun _=>trivial) (fun _=>trivial)) (fun _=>trivial)
theorem yb(d:Option Tmp)(t:TypeId)(p:Nat):bL dL (d8 cx e d t p)/\(bC cx.ann.hl d=false->bL bj (d8 cx e d t p)):=by
 unfold d8;split
 ·split
  ·exact⟨trivial,fun _=>trivial⟩
  ·constructor
   ·exact bL.cond (fun _=>bL.cond (fun _=>trivial) (fun _=>bL.cond (fun _=>trivial) (fun _=>trivial))) (fun _=>trivial)
   ·exact fun _=>bL.cond (fun _=>bL.cond (fun _=>trivial) (fun _=>bL.cond (fun _=>trivial) (fun _=>trivial))) (fun _=>trivial)
 ·cases hm:bC cx.ann.hl d with
  |true=>exact⟨mA _ _ _,fun h=>by cases h⟩
  |false=>exact⟨(bj.lft _).read,fun _=>bj.lft _⟩
theorem s9(T:TT)(t:TypeId)(x:AV):kQ (eI T t x):=by
 intro h s v hh;have hk:∀y,(match aX T t y with|some v=>R.ok v h|none=>.fail)=R.ok v h->(match aX T t y with|some v=>R.ok v (h++s)|none=>.fail)=R.ok v (h++s):=by
  intro y hy;cases hq:aX T t y with
  |none=>grind
  |some u=>grind
 unfold eI at hh |-;cases x with
 | hp l off=>
  simp only at hh |-;cases hT:T t with
  |none=>grind
  | some ti=>
   rw[hT]at hh;cases hl:h[l]? with
   |none=>grind
   |some cs=>
    grind
 |_=>exact hk _ hh
theorem wu(T:TT)(m r:Nat)(t:TypeId)(x:AV):kQ (fu T m r t x):=by
 intro h s v hh;unfold fu at hh |-;split at hh
 ·rename_i l off ti ht;cases hb:Nat.beq (off % m) r&&!ti.agg with
  |false=>grind
  |true=>
   rw[hb]at hh;simp only[M6]at hh |-;exact s9 T t (.hp l off) h s v hh
 ·cases hh
theorem Co(d:Option Tmp)(t:TypeId)(p:Nat):bL (fun m=>kQ m/\dL m) (d8 cx e d t p):=by
 unfold d8;split
 ·split
  ·trivial
  ·exact bL.cond (fun _=>bL.cond (fun _=>trivial) (fun _=>bL.cond (fun _=>trivial) (fun _=>trivial))) (fun _=>trivial)
 ·cases hm:bC cx.ann.hl d with
  |true=>exact⟨s9 _ _ _,mA _ _ _⟩
  |false=>exact⟨(bj.lft _).app,(bj.lft _).read⟩
theorem B6{one:Bool}{A:Act1}(h:bL ek A):bL ek (GD one A):=by
 have key:∀(v:AV)(x:Hp)(p:AV)(h':Hp),(bif one then nd v else yX v) x≠.pan p h':=by
  intro v x p h' hh;cases one with
  |false=>cases hh
  |true=>
   simp only[M6]at hh;unfold nd at hh;split at hh
   ·cases hh
   ·split at hh<;>cases hh
   ·cases hh
 cases A with
 |bad=>trivial
 |stat u=>exact fun x v h' hh=>key _ _ _ _ hh
 |dyn m sh=>
  intro x v h' hh;simp only[Av.ap]at hh;cases hm:m x with
  |ok y z=>rw[hm]at hh;exact key _ _ _ _ hh
  |pan y z=>exact h _ _ _ hm
  |fail=>rw[hm]at hh;cases hh
 |thr v=>exact h.elim
theorem xL(t p i:Nat):bL bj (iG cx e t p i):=by
 unfold iG;split
 ·split
  ·trivial
  ·split
   ·trivial
   ·split
    ·trivial
    ·exact bL.cond (fun _=>trivial) (fun _=>trivial)
 ·exact bj.lft _
theorem xS(t p:Nat)(i:Operand):bL bj (dT cx e t p i):=by
 unfold dT;split
 ·split
  ·split
   ·split
    ·trivial
    ·exact bL.cond (p:=bj) (fun _=>trivial) (fun _=>trivial)
   ·trivial
  ·trivial
 ·exact bj.lft _
theorem yD(t p:Nat)(y:Operand):bL ek (fL cx e gid t p y):=by
 have hl:∀o:Option AV,ek (Av.bF o):=fun o=>(bj.lft o).read.stay;unfold fL;split
 ·split
  ·trivial
  ·refine bL.cond (fun _=>bL.cond (fun _=>bL.cond (fun _=>hl _) (fun _=>trivial)) (fun _=>bL.cond (fun _=>hl _) (fun _=>bL.cond (fun _=>?_) (fun _=>trivial)))) (fun _=>trivial);split
   ·split
    ·exact hl _
    ·trivial
   ·exact bL.cond (fun _=>trivial) (fun _=>hl _)
 ·exact pn _ _ _ _
theorem yC(t p:Nat)(y:Operand)(hl:iZ (e.get p)=true):bL bj (fL cx e gid t p y):=by
 have hl':∀o:Option AV,bj (Av.bF o):=fun o=>bj.lft o;unfold fL;cases hv:(e.get p).v with
 |val a=>simp[iZ,hv]at hl
 | loc B off=>
  simp only;split
  ·trivial
  ·refine bL.cond (fun _=>bL.cond (fun _=>bL.cond (fun _=>hl' _) (fun _=>trivial)) (fun _=>bL.cond (fun _=>hl' _) (fun _=>bL.cond (fun _=>?_) (fun _=>trivial)))) (fun _=>trivial);split
   ·split
    ·exact hl' _
    ·trivial
   ·exact bL.cond (fun _=>trivial) (fun _=>hl' _)
theorem kV(s t:Nat):bL ek (eP cx e gid s t)/\(cj cx.ann.kinds s .L≠.H->cj cx.ann.kinds s .L≠.B->bL bj (eP cx e gid s t)):=by
 unfold eP;split
 ·exact⟨trivial,fun _ _=>trivial⟩
 ·cases hk:cj cx.ann.kinds s .L with
  |F=>exact⟨trivial,fun _ _=>trivial⟩
  |H=>exact⟨tf _,fun h=>absurd rfl h⟩
  |B=>exact⟨AG _ _,fun _ h=>absurd rfl h⟩
  |L=>exact⟨bL.cond (fun _=>trivial) (fun _=>trivial),fun _ _=>bL.cond (fun _=>trivial) (fun _=>trivial)⟩
  |S=>exact⟨bL.cond (fun _=>trivial) (fun _=>trivial),fun _ _=>bL.cond (fun _=>trivial) (fun _=>trivial)⟩
theorem sC(s t:Nat)(x:Operand):bL ek (ln cx e s t x)/\(cj cx.ann.kinds s .F≠.H->bL bj (ln cx e s t x)):=by
 have hl:∀o:Option AV,ek (Av.bF o):=fun o=>(bj.lft o).read.stay;unfold ln;cases hk:cj cx.ann.kinds s .F with
 |F=>exact⟨trivial,fun _=>trivial⟩
 |H=>exact⟨tf _,fun h=>absurd rfl h⟩
 |B=>exact⟨trivial,fun _=>trivial⟩
 |L=>
  simp only;split
  ·exact⟨trivial,fun _=>trivial⟩
  ·exact⟨bL.cond (fun _=>hl _) (fun _=>trivial),fun _=>bL.cond (fun _=>bj.lft _) (fun _=>trivial)⟩
 |S=>
  simp only;split
  ·exact⟨trivial,fun _=>trivial⟩
  ·exact⟨bL.cond (fun _=>hl _) (fun _=>trivial),fun _=>bL.cond (fun _=>bj.lft _) (fun _=>trivial)⟩
end
structure Class (f:Foot) (A:Act1):Prop where
 stay:f.piv=false->bL ek A
 read:f.wh=false->bL dL A
 pure:f.wh=false->f.rh=false->bL bj A
 app:f.wh=false->bL (fun m=>kQ m/\dL m) A
 nw:f.nw=true->bL uO A
section
omit [Dr]
theorem bL.imp{p q:∀ {α:Type},M α->Prop}(hpq:∀ {α:Type} (m:M α),p m->q m){A:Act1}(h:bL p A):bL q A:=by
 cases A<;>first|trivial|exact hpq _ h|exact h
theorem Class.of_pure{f:Foot}{A:Act1}(h:bL bj A):Class f A:=
 ⟨fun _=>h.imp fun _ g=>g.read.stay,fun _=>h.imp fun _ g=>g.read,fun _ _=>h,fun _=>h.imp fun _ g=>⟨g.app,g.read⟩,fun _=>h.imp fun _ g=>g.nw⟩
theorem kQ.nw{α:Type}{m:M α}(h:dL m):uO m:=fun x v h' hh=>by
 rcases h x with g|⟨u,g⟩
 all_goals simp_all
theorem Class.of_app{f:Foot}{A:Act1}(_hw:f.wh=false)(hr:f.rh=true)(h:bL (fun m=>kQ m/\dL m) A):Class f A:=
 ⟨fun _=>h.imp fun _ g=>g.2.stay,fun _=>h.imp fun _ g=>g.2,fun _ h=>by grind,fun _=>h,fun _=>h.imp fun _ g=>kQ.nw g.2⟩
theorem sn(T:TT)(t:TypeId)(x y:AV):dL (uW T t x y):=by
 intro h;unfold uW
 grind
theorem Db{h s:Hp}{y:AV}{es:List AV}(hh:oD h y=some es):oD (h++s) y=some es:=by
 unfold oD at hh |-
 grind
theorem uX(T:TT)(t:TypeId)(x y:AV):kQ (uW T t x y):=by
 intro h s v hh;unfold uW at hh |-;cases hs:oD h y with
 |none=>grind
 |some es=>
  rw[hs]at hh;rw[Db hs];simp only at hh |-;cases ha:fB T t x (.sl es)with
  |none=>grind
  |some u=>grind
theorem Class.of_stay{f:Foot}{A:Act1}(hw:f.wh=true)(hn:f.nw=false)(h:bL ek A):Class f A:=
 ⟨fun _=>h,fun h=>by grind,fun h=>by grind,fun h=>by grind,fun h=>by grind⟩
theorem Class.of_piv{f:Foot}{A:Act1}(hw:f.wh=true)(h:f.piv=true)(hn:f.nw=true->bL uO A):Class f A:=
 ⟨fun h'=>by grind,fun h=>by grind,fun h=>by grind,fun h=>by grind,hn⟩
theorem xt(hI:IsoPure cx){c:Call}(ho:o.op= .call c):Class (ar cx o) (fR cx e gid o c):=by
 unfold fR;cases hc:c.callee with
 |invoke r m=>exact .of_pure trivial
 | value x=>
  cases x with
  | func f=>
   simp only;cases hfz:bC cx.ann.fz o.dst with
   | true=>
    simp only[M6];cases hq:!(cx.iso f)&&(cx.own f).isNone with
    |false=>exact .of_pure trivial
    |true=>
     simp only[M5,NR]at hq;exact .of_piv (by simp_all[ar]) (by simp_all[ar]) fun hn=>by grind [ar]
   |false=>
   simp only[Nh];cases hcm:hJ cx.ann.cm o.dst with
   | some x=>
    obtain⟨m,r⟩:=x;simp only;cases hq:!(cx.iso f)&&(cx.own f).isNone with
    |false=>exact .of_pure trivial
    |true=>
     simp only[M5,NR]at hq;exact .of_piv (by simp_all[ar]) (by simp_all[ar]) fun hn=>Ci m r (hI.nw f _ (by simp_all[ar]))
   |none=>
   simp only;cases hi:cx.iso f with
   |true=>exact .of_pure (hI.iso f _ hi)
   |false=>exact .of_piv (by simp_all[ar]) (by simp_all[ar]) fun hn=>hI.nw f _ (by simp_all[ar])
  |_=>exact .of_piv (by unfold ar;grind) (by unfold ar;grind) fun hn=>by grind [ar]
 | builtin b=>
  cases b<;>simp only<;>(try exact .of_pure trivial)
  case clear=>
   have hw:(ar cx o).wh=true/\(ar cx o).nw=false:=by unfold ar;rw[ho];simp only[hc];exact⟨trivial,trivial⟩
   split
   ·exact .of_stay hw.1 hw.2 (vo _ _ _)
   ·exact .of_pure trivial
  case append=>
   split
   ·cases hu:iq cx.T _ with
    |false=>exact .of_pure trivial
    | true=>
     simp only[Nv,Nh];cases hha:bC cx.ann.ha o.dst with
     | true=>exact .of_stay (by simp_all[ar]) (by simp_all[ar]) (by
       cases bC cx.ann.hb o.dst with
       |true=>simp only[M6];exact zP _ _ _ _
       |false=>
        cases bC cx.ann.hl o.dst with
        |true=>exact xf _ _ _ _ _
        |false=>exact sk _ _ _ _ _)
     | false=>
      simp only[Nh];cases hhl:bC cx.ann.hl o.dst with
      | true=>
       refine .of_app (by simp_all[ar]) (by simp_all[ar]) ?_;simp only[M6];refine bL.cond (fun _=>⟨uX _ _ _ _,sn _ _ _ _⟩) (fun _=>?_);split
       ·split
        ·trivial
        ·split
         ·trivial
         ·exact bL.cond (fun _=>⟨uX _ _ _ _,sn _ _ _ _⟩) (fun _=>trivial)
       ·trivial
      | false=>
       refine .of_pure ?_;simp only[Nh];refine bL.cond (fun _=>bj.lft _) (fun _=>?_);split
       ·split
        ·trivial
        ·split
         ·trivial
         ·exact bL.cond (fun _=>bj.lft _) (fun _=>trivial)
       ·trivial
   ·exact .of_pure trivial
  case len=>
   split
   ·exact .of_pure (bj.lft _)
   ·exact .of_pure trivial
  case min=>exact .of_pure (bj.lft _)
  case max=>exact .of_pure (bj.lft _)
theorem fv(hI:IsoPure cx)(e:Env)(gid:Nat)(o:Oper):Class (ar cx o) (fE cx e gid o):=by
 unfold fE;cases ho:o.op<;>simp only<;>(try exact .of_pure (bj.lft _))<;>(try exact .of_pure trivial)
 case binOp=>exact .of_pure (bL.cond (fun _=>trivial) fun _=>bj.lft _)
 case buildSlice t n ps=>
  cases hha:bC cx.ann.ha o.dst with
  |true=>exact .of_stay (by simp_all[ar]) (by simp_all[ar]) (vf _ _ _ _)
  |false=>exact .of_pure (bj.lft _)
 case makeSlice t x y=>
  cases hha:bC cx.ann.ha o.dst with
  |true=>exact .of_stay (by simp_all[ar]) (by simp_all[ar]) (yf _ _ _ _)
  |false=>exact .of_pure (bj.lft _)
 case move x=>exact .of_pure (td _ x)
 case assign x=>exact .of_pure (td _ x)
 case box t x=>
  cases hd:o.dst with
  |none=>exact .of_pure trivial
  |some s=>
   cases hk:cj cx.ann.kinds s .F with
   |H=>exact .of_stay (by grind [ar]) (by grind [ar]) (sC s t x).1
   |_=>exact .of_pure ((sC s t x).2 (by rw[hk];simp))
 case alloc t=>
  cases hd:o.dst with
  |none=>exact .of_pure trivial
  |some s=>
   cases hk:cj cx.ann.kinds s .L with
   |H=>exact .of_stay (by grind [ar]) (by grind [ar]) (kV s t).1
   |B=>exact .of_stay (by grind [ar]) (by grind [ar]) (kV s t).1
   |_=>exact .of_pure ((kV s t).2 (by rw[hk];simp) (by rw[hk];simp))
 case load t x=>
  cases x with
  | tmp p=>
   have h:=yb (cx:=cx) (e:=e) o.dst t p;simp only;cases hlm:hJ cx.ann.lm o.dst with
   |some x=>
    obtain⟨m,r⟩:=x;simp only;refine .of_app (by unfold ar;grind) (by unfold ar;grind) ?_;split
    ·trivial
    ·exact⟨wu _ _ _ _ _,kq _ _ _ _ _⟩
   |none=>
   simp only;cases hnl:bC cx.ann.nl o.dst&&iZ (e.get p)with
   |true=>exact .of_pure trivial
   |false=>
   simp only[Nh];cases hz:bC cx.ann.fz o.dst with
   |true=>exact .of_stay (by grind [ar]) (by unfold ar;grind) (B6 (h.1.imp fun _ g=>g.stay))
   |false=>exact⟨fun _=>h.1.imp fun _ g=>g.stay,fun _=>h.1,fun _ hr=>h.2 (by grind [ar]),fun _=>Co o.dst t p,fun hn=>by grind [ar]⟩
  |global g=>exact .of_pure (bj.lft _)
  |_=>exact .of_pure trivial
 case store t x y=>
  cases x with
  | tmp p=>
   cases hd:o.dst with
   |some d=>exact .of_pure trivial
   | none=>
    simp only;cases hs:rn cx p with
    |true=>
     refine .of_stay (by simp_all[ar]) (by simp_all[ar]) ?_;simp only[M6];unfold tm;split
     ·trivial
     ·exact oB _ _ _ _ _
    |false=>
    simp only[Nh];cases hlw:cW cx.ann.lw p with
    |false=>exact .of_stay (by unfold ar;grind) (by simp_all[ar]) (by simp_all[yD])
    |true=>
     cases hlo:iZ (e.get p)with
     |false=>exact .of_pure trivial
     |true=>exact .of_pure (by simp_all[yC])
  |_=>exact .of_pure trivial
 case nilCheck x=>
  cases x with
  |tmp p=>
   simp only;split
   ·exact .of_pure trivial
   ·exact .of_pure (bj.lft _)
  |_=>exact .of_pure trivial
 case fieldAddr t x i=>cases x<;>first|exact .of_pure (xL _ _ _)|exact .of_pure trivial
 case indexAddr t x i=>cases x<;>first|exact .of_pure (xS _ _ _)|exact .of_pure (bj.lft _)|exact .of_pure trivial
 case slice t x lo hi mx=>
  refine .of_pure (bL.cond (fun _=>?_) fun _=>bj.lft _);unfold nB;split
  ·split
   ·trivial
   ·split
    ·exact bL.cond (fun _=>bj.lft _) fun _=>trivial
    ·trivial
  ·trivial
 case makeMap t r=>exact .of_stay (by unfold ar;rw[ho]) (by unfold ar;rw[ho]) (bL.cond (fun _=>trivial) fun _=>uk)
 case lookup t x i ok=>exact .of_app (by unfold ar;rw[ho]) (by unfold ar;rw[ho]) ⟨AB _ _ _ _ _,yd _ _ _ _ _⟩
 case mapUpdate t m k x=>exact .of_stay (by unfold ar;rw[ho]) (by unfold ar;rw[ho]) (by unfold lp;split;exact tq _ _ _ _ _;trivial)
 case insert t m k x=>exact .of_stay (by unfold ar;rw[ho]) (by unfold ar;rw[ho]) (by unfold lp;split;exact tq _ _ _ _ _;trivial)
 case range t x=>exact .of_stay (by unfold ar;rw[ho]) (by unfold ar;rw[ho]) (wD _ _ _)
 case entry x=>exact .of_app (by unfold ar;rw[ho]) (by unfold ar;rw[ho]) ⟨xD _,vw _⟩
 case panic x=>
  refine .of_piv ?_ ?_ ?_
  all_goals grind [ar]
 case call c=>exact xt hI ho
end
end
structure EqE (e e':Env):Prop where
 get:∀t,e'.get t=e.get t
 al:∀g,aK e'.al g=aK e.al g
 lb:∀B,aS e'.lb B=aS e.lb B
 lf:∀B,aM e'.sl B=aM e.sl B
section
omit [Dr]
theorem EqE.refl(e:Env):EqE e e:=⟨fun _=>rfl,fun _=>rfl,fun _=>rfl,fun _=>rfl⟩
theorem EqE.symm{e e':Env}(h:EqE e e'):EqE e' e:=⟨fun t=>(h.get t).symm,fun t=>(h.al t).symm,fun t=>(h.lb t).symm,fun t=>(h.lf t).symm⟩
theorem EqE.trans{a b c:Env}(h:EqE a b)(g:EqE b c):EqE a c:=
 ⟨fun t=>(g.get t).trans (h.get t),fun t=>(g.al t).trans (h.al t),fun t=>(g.lb t).trans (h.lb t),fun t=>(g.lf t).trans (h.lf t)⟩
end
def RE:R Env->R Env->Prop
 |.fail,_=>True
 |.ok e h,r=>∃e',r= .ok e' h/\EqE e e'
 |.pan v h,r=>r= .pan v h
section
omit [Dr]
theorem RE.refl(r:R Env):RE r r:=by
 cases r with
 |ok e h=>exact⟨e,rfl,.refl e⟩
 |pan v h=>exact rfl
 |fail=>trivial
theorem RE.trans{a b c:R Env}(h:RE a b)(g:RE b c):RE a c:=by
 cases a with
 |ok e x=>
  obtain⟨e',rfl,h⟩:=h;obtain⟨e2,rfl,g⟩:=g;exact⟨e2,rfl,h.trans g⟩
 |pan v x=>cases h;exact g
 |fail=>trivial
theorem jT(l r:List (Nat×Ent))(t:Nat):bM (l++r) t=if(∃x∈l,x.1=t)then bM l t else bM r t:=by
 induction l with
 |nil=>simp
 | cons x l ih=>
  obtain⟨k,y⟩:=x;rw[NQ,cn,cn];by_cases hk:k=t
  ·subst hk;simp
  ·rw[M9 hk,M9 hk,ih];have:(∃x∈(k,y):: l,x.1=t)↔(∃x∈l,x.1=t):=by
    simp only[NT,exists_eq_or_imp];constructor
    ·grind
    ·exact .inr
   simp only[this]
theorem eO{l:List (Nat×Ent)}(r:List (Nat×Ent)){t:Nat}(h:∀x∈l,x.1≠t):bM (l++r) t=bM r t:=by
 rw[jT,M9]
 grind
theorem eu(d:Option Tmp)(x:Ent)(r:List (Nat×Ent))(t:Nat):bM (nG d x r) t=if d=some t then x else bM r t:=by
 cases d with
 |none=>simp[nG]
 |some s=>grind [nG,cn]
theorem ju{l r s:List (Nat×Ent)}{t:Nat}(h:bM r t=bM s t):bM (l++r) t=bM (l++s) t:=by
 rw[jT,jT,h]
theorem fh(l r:List (Nat×Ent))(B:Nat):aM (l++r) B=(aM l B&&aM r B):=by
 unfold aM;grind
end
def lJ(x:Ent)(B:Nat):Bool:=match x.v with
 |.loc C _=>!(Nat.beq C B)
 |.val _=>true
section
omit [Dr]
theorem dR(d:Option Tmp)(x:Ent)(r:List (Nat×Ent))(B:Nat):aM (nG d x r) B=((d.isNone||lJ x B)&&aM r B):=by
 cases d with
 |none=>simp[nG]
 |some t=>rfl
theorem ku{l:List (Nat×Ent)}{B t C off:Nat}(h:aM l B=true)(ht:(bM l t).v= .loc C off):C≠B:=by
 induction l with
 |nil=>simp[bM,Ent.none]at ht
 |cons x l ih=>
  obtain⟨k,y⟩:=x;rw[cn]at ht;simp only[aM,N0,M5]at h
  grind [Nat.beq_refl,aM]
theorem fe(l r:List (Nat×Option Nat))(g:Nat):aK (l++r) g=(match aK l g with|some z=>some z|none=>aK r g):=by
 induction l with
 |nil=>rfl
 |cons x l ih=>
  grind [cg]
theorem oI{l:List (Nat×Option Nat)}{k g:Nat}(h:∀x∈l,x.1=k)(hg:g≠k):aK l g=none:=by
 induction l with
 |nil=>rfl
 | cons x l ih=>
  obtain⟨j,y⟩:=x;rw[cg,M9]
  ·grind
  ·have:=h (j,y) (by simp)
   grind
theorem np(r:List (Nat×Nat))(k B:Nat):aS (me r k) B=if k=B then none else aS r B:=by
 induction r with
 |nil=>simp[me,aS]
 | cons x r ih=>
  obtain⟨j,y⟩:=x;simp only[me];by_cases hj:j=k
  ·simp_all[dQ]
  ·have:Nat.beq j k=false:=by rw[Ow];intro hh;exact hj (Nat.eq_of_beq_eq_true hh)
   simp only[this,Nh,dQ,ih]
   grind
theorem EqE.upd{e e':Env}(h:EqE e e')(d:Option Tmp)(u:Upd):EqE (e.upd d u) (e'.upd d u):=by
 refine⟨fun t=>?_,fun g=>?_,fun B=>?_,fun B=>?_⟩
 ·show bM (nG d u.ent (u.ls++e'.sl)) t=bM (nG d u.ent (u.ls++e.sl)) t;rw[eu,eu,ju (h.get t)]
 ·show aK (u.add++eY e'.al u.drop) g=aK (u.add++eY e.al u.drop) g;have:aK (eY e'.al u.drop) g=aK (eY e.al u.drop) g:=by
   cases u.drop with
   |none=>exact h.al g
   |some k=>simp only[eY,kU,h.al g]
  rw[fe,fe,this]
 ·show aS (kT (dY e'.lb u.unlb) u.lb) B=aS (kT (dY e.lb u.unlb) u.lb) B;have:aS (dY e'.lb u.unlb) B=aS (dY e.lb u.unlb) B:=by
   cases u.unlb with
   |none=>exact h.lb B
   |some k=>simp only[dY,np,h.lb B]
  cases u.lb with
  |none=>exact this
  |some x=>
   grind [kT,dQ]
 ·show aM (nG d u.ent (u.ls++e'.sl)) B=aM (nG d u.ent (u.ls++e.sl)) B;rw[dR,dR,fh,fh,h.lf B]
end
section
variable {cx:Cx} {ops:Array Oper} {base:Nat}
def fq(ops:Array Oper)(o:Oper):List Nat:=match o.guard with
 |some (j,_)=>(match (ops[j]?).bind (·.dst)with|some t=>[t]|none=>[])
 |none=>[]
section
omit [Dr]
theorem gM{i:Nat}{o:Oper}(ho:ops[i]? = some o):dj ops i=fq ops o++fS o:=by
 grind [dj,fq]
theorem gy{e e':Env}{i:Nat}{o:Oper}(ho:ops[i]? = some o)(hg:∀t∈fq ops o,e'.get t=e.get t)(A:Agree cx o e e'){h:Hp}(hr:eU cx base ops i e h≠.fail):eU cx base ops i e' h=eU cx base ops i e h:=by
 unfold eU at hr |-;rw[ho]at hr;rw[ho];simp only at hr |-;have key:∀ {A':Act1->Act1} ,(∀h,dm (A' .bad) h= .fail)->dm (A' (fE cx e ((base+i)*1000) o)) h≠.fail->dm (A' (fE cx e' ((base+i)*1000) o)) h=dm (A' (fE cx e ((base+i)*1000) o)) h:=by
  intro A' h1 h2;rw[AJ A];intro hb;rw[hb]at h2;exact h2 (h1 h)
 cases hgd:o.guard with
 |none=>
  rw[hgd]at hr;exact key (A':=id) (fun _=>rfl) hr
 | some g=>
  obtain⟨j,want⟩:=g;rw[hgd]at hr;simp only at hr |-;cases hdj:cK ops j with
  |none=>rfl
  | some t=>
   rw[hdj]at hr;simp only at hr |-;cases hpl:fw cx o with
   |false=>rfl
   | true=>
    rw[hpl]at hr;simp only[M6]at hr |-;have ht:e'.get t=e.get t:=hg t (by unfold fq;rw[hgd];simp only;rw[show (ops[j]?).bind (·.dst)=some t from hdj];simp);have hav:e'.av t=e.av t:=by simp only[Env.av,ht]
    rw[hav];cases hq:e.av t with
    | bool b=>
     rw[hq]at hr;simp only[kG]at hr |-;cases hb:(b== want)with
     |false=>rfl
     |true=>
      rw[hb]at hr;exact key (A':=iu) (fun _=>rfl) hr
    |tup vs=>cases vs<;>rfl
    |_=>rfl
theorem EqE.agree{e e':Env}(h:EqE e e')(o:Oper):Agree cx o e e':=
 ⟨fun t _=>h.get t,fun _=>.inl ⟨fun t _=>h.get t,h.lb⟩,fun _=>h.al,fun _ s _ hl=>by rw[h.lf];exact hl⟩
theorem wV{e e':Env}(h:EqE e e')(i:Nat)(x:Hp):RE (stepG cx base ops i e x) (stepG cx base ops i e' x):=by
 unfold stepG;simp only[ap,am];cases hr:eU cx base ops i e x with
 |fail=>trivial
 | _=>
  have ho:∃o,ops[i]? = some o:=by
   cases ho:ops[i]? with
   |none=>unfold eU at hr;rw[ho]at hr;cases hr
   |some o=>grind
  obtain⟨o,ho⟩:=ho;rw[gy ho (fun t _=>h.get t) (h.agree o) (by rw[hr];simp),hr]
  first
   |exact⟨_,rfl,h.upd _ _⟩
   |exact rfl
theorem RE.bind{m m':M Env}{x x':Hp}(h:RE (m x) (m' x')){f f':Env->M Env}(hf:∀e e' x,EqE e e'->RE (f e x) (f' e' x)):RE (ap m f x) (ap m' f' x'):=by
 simp only[ap];revert h;generalize m x=r;generalize m' x'=r';intro h;cases r with
 |ok e x=>obtain⟨e',rfl,h⟩:=h;grind
 |pan v x=>cases h;exact rfl
 |fail=>trivial
theorem nD:∀(l:List Nat){e e':Env}(_:EqE e e')(x:Hp),RE (aY cx base ops l e x) (aY cx base ops l e' x)
 |[],e,e',h,x=>⟨e',rfl,h⟩
 |i:: l,e,e',h,x=>by
  exact RE.bind (wV h i x) fun e e' x h=>nD l h x
end
end
section
omit [Dr]
theorem ww{l:List Nat}{t:Nat}(h:t∈l):cW l t=true:=(gd l t).2 h
theorem nu{l:List Nat}{d:Option Nat}(h:bC l d=false):∀t∈l,d≠some t:=by
 grind [bC,ww]
theorem oz{a b:Option Nat}(h:clash a b=false):∀t,a=some t->b≠some t:=by
 intro t ha hb;rw[ha,hb]at h;simp[clash]at h
end
section
variable {cx:Cx} {ops:Array Oper} {base:Nat} {e:Env}
section
omit [Dr]
theorem uE{gid:Nat}{f:Foot}{ss:Option Nat}{u:Upd}(h:Shape e gid f ss u):Shape e gid f ss (gS u):=
 ⟨fun _=>rfl,fun _=>rfl,fun _=>rfl,fun _ x h=>by simp[gS]at h,fun _=>rfl,fun _=>rfl,fun hw C off hh=>h.loc hw C off hh,fun x h=>by simp[gS]at h⟩
theorem yE{p q:Upd->Prop}(hpq:∀u,p u->q (gS u)){A:Act1}(h:b9 p A):b9 q (iu A):=by
 cases A with
 |bad=>trivial
 |stat u=>exact hpq _ h
 |dyn m sh=>exact fun v=>hpq _ (h v)
 |thr v=>trivial
theorem Df{p:∀ {α:Type},M α->Prop}{A:Act1}(h:bL p A):bL p (iu A):=by
 cases A<;>exact h
theorem pP{i:Nat}{o:Oper}(ho:ops[i]? = some o){h h':Hp}{u:Upd}(hr:eU cx base ops i e h= .ok u h'):Shape e ((base+i)*1000) (ar cx o) (bZ o) u:=by
 unfold eU at hr;rw[ho]at hr;simp only at hr;cases hgd:o.guard with
 |none=>rw[hgd]at hr;exact lG (lS _ _ _ _) hr
 | some g=>
  obtain⟨j,want⟩:=g;rw[hgd]at hr;simp only at hr;cases hdj:cK ops j with
  |none=>rw[hdj]at hr;cases hr
  | some t=>
   rw[hdj]at hr;simp only at hr;cases hpl:fw cx o with
   |false=>rw[hpl]at hr;cases hr
   | true=>
    rw[hpl]at hr;simp only[M6]at hr;have h0:∀ {h h':Hp},(am (Upd.ofV (.tup [])):M Upd) h= .ok u h'->Shape e ((base+i)*1000) (ar cx o) (bZ o) u:=by
     intro h h' hh;cases hh;exact Shape.ofV ..
    generalize e.av t=q at hr;cases q with
    |bool b=>
     simp only[kG]at hr;cases hb:(b== want)with
     |false=>grind
     |true=>rw[hb]at hr;exact lG (yE (fun u=>uE) (lS _ _ _ _)) hr
    |tup vs=>
     cases vs with
     |nil=>exact h0 hr
     |cons v vs=>cases hr
    |_=>cases hr
theorem yJ{p:∀ {α:Type},M α->Prop}(h1:∀ {α:Type} (m:M α),bj m->p m)(h2:∀ {α β:Type} (m:M α) (f:α->β),p m->p (ap m fun v=>am (f v))){A:Act1}(h:bL p A):p (dm A):=by
 cases A with
 |bad=>exact h1 _ bj.fail
 |stat u=>exact h1 _ (bj.pure u)
 |dyn m sh=>exact h2 _ _ h
 |thr v=>exact h.elim
theorem ke{p:∀ {α:Type},M α->Prop}(h1:∀ {α:Type} (m:M α),bj m->p m)(h2:∀ {α β:Type} (m:M α) (f:α->β),p m->p (ap m fun v=>am (f v))){i:Nat}{o:Oper}(ho:ops[i]? = some o)(h:bL p (fE cx e ((base+i)*1000) o)):p (eU cx base ops i e):=by
 unfold eU;rw[ho];simp only;cases hgd:o.guard with
 |none=>exact yJ h1 h2 h
 | some g=>
  obtain⟨j,want⟩:=g;simp only;cases hdj:cK ops j with
  |none=>exact h1 _ bj.fail
  | some t=>
   simp only;cases hpl:fw cx o with
   |false=>exact h1 _ bj.fail
   | true=>
    simp only[M6];unfold kG;split
    ·rename_i b _;cases hb:(b== want)with
     |false=>exact h1 _ (bj.pure _)
     |true=>exact yJ h1 h2 (Df h)
    all_goals grind [bj.pure,bj.fail]
end
structure Small (ops:Array Oper):Prop where
 dst:∀(i:Nat)(o:Oper),ops[i]? = some o->∀t,o.dst=some t->t<1000
 src:∀(i:Nat)(o:Oper),ops[i]? = some o->∀t∈fS o,t<1000
section
omit [Dr]
theorem Small.reads(hS:Small ops){i:Nat}{o:Oper}(ho:ops[i]? = some o):∀t∈dj ops i,t<1000:=by
 intro t ht;rw[gM ho,N5]at ht;rcases ht with ht|ht
 ·unfold fq at ht;split at ht
  ·rename_i j _ _;cases hj:ops[j]? with
   |none=>grind
   |some oj=>
    rw[hj]at ht;simp only[OV]at ht;cases hd:oj.dst with
    |none=>grind
    |some s=>rw[hd]at ht;simp at ht;rw[ht];exact hS.dst j oj hj s hd
  ·simp at ht
 ·exact hS.src i o ho t ht
theorem lN{gid:Nat}{x:Foot}{ss:Option Nat}{u:Upd}{d:Option Tmp}(hsh:Shape e gid x ss u){t:Nat}(h1:d≠some t)(h2:ss≠some t)(h3:t<1000):(e.upd d u).get t=e.get t:=by
 rw[bV,M9 h1];refine eO _ fun y hy hyt=>?_;rcases hsh.keys y hy with h|h
 all_goals grind
theorem vO{gid:Nat}{x:Foot}{ss:Option Nat}{u:Upd}{d:Option Tmp}(hsh:Shape e gid x ss u)(hw:x.wl=false){t:Nat}(h1:d≠some t):(e.upd d u).get t=e.get t:=by
 rw[bV,M9 h1,hsh.ls hw];rfl
theorem sf{gid:Nat}{x:Foot}{ss:Option Nat}{u:Upd}{d:Option Tmp}{o:Oper}(hsh:Shape e gid x ss u)(hd:∀t,d=some t->t<1000)(hops:∀t∈fS o,d≠some t/\ss≠some t/\t<1000)(hloc:((ar cx o).rl||(ar cx o).wl)=true->x.wl=false)(hal:(ar cx o).dr=true->x.ad=false/\x.dr=false):Agree cx o e (e.upd d u):=by
 refine⟨fun t ht=>lN hsh (hops t ht).1 (hops t ht).2.1 (hops t ht).2.2,fun h=>.inl ⟨fun t ht=>vO hsh (hloc h) (fun hh=>Nat.not_lt.2 ht (hd t hh)),fun B=>?_⟩,fun h g=>?_,fun h s _ hl=>?_⟩
 ·show aS (kT (dY e.lb u.unlb) u.lb) B=aS e.lb B;rw[hsh.lb (hloc h),hsh.unlb (hloc h)];rfl
 ·show aK (u.add++eY e.al u.drop) g=aK e.al g;rw[hsh.noad (hal h).1,hsh.nodr (hal h).2];rfl
 ·have hw:=hloc (by rw[h];simp);show aM (nG d u.ent (u.ls++e.sl)) (aH s)=true;rw[hsh.ls hw,dR,NF,hl,Pp];have:lJ u.ent (aH s)=true:=by
   unfold lJ;split
   ·rename_i C off hv;obtain⟨t,off',ht⟩:=hsh.loc hw C off hv
    have:=ku hl ht
    rw[NR,Ow];simp_all
   ·rfl
  grind
theorem zL{gid:Nat}{x:Foot}{ss:Option Nat}{u:Upd}{d:Option Tmp}{o:Oper}(hsh:Shape e gid x ss u)(hd:∀t,d=some t->t<1000)(hops:∀t∈fS o,d≠some t/\ss≠some t/\t<1000)(hloc:((ar cx o).rl||(ar cx o).wl)=true->x.wl=false)(hal:(ar cx o).dr=true->x.ad=false/\x.dr=false):Agree cx o (e.upd d u) e:=by
 have A:=sf (cx:=cx) hsh hd hops hloc hal;refine⟨fun t ht=>(A.ops t ht).symm,fun h=>.inl ⟨fun t ht=>(vO hsh (hloc h) (fun hh=>Nat.not_lt.2 ht (hd t hh))).symm,fun B=>?_⟩,fun h g=>(A.al h g).symm,fun _ s _ hl=>?_⟩
 case refine_1=>
  show aS e.lb B=aS (kT (dY e.lb u.unlb) u.lb) B;rw[hsh.lb (hloc h),hsh.unlb (hloc h)];rfl
 have hl':aM (nG d u.ent (u.ls++e.sl)) (aH s)=true:=hl;simp_all[dR,fh]
theorem mF{B n gid:Nat}{cs:List AV}{offs:List Nat}:∀x∈iE B cs offs gid n,B<=x.1/\x.1<B+n:=by
 intro x hx;unfold iE at hx
 grind
theorem tj{s:Nat}{B k:Nat}(h:s=B+k)(hs:s<1000)(hB:1000<=B):False:=by omega
theorem uR{gid:Nat}{a b:Oper}{u:Upd}{t:TypeId}{p:Nat}{t':TypeId}{h h':Hp}(hsh:Shape e gid (ar cx b) (bZ b) u)(ha:a.op= .load t (.tmp p))(hb:b.op= .alloc t')(hd:∀s,b.dst=some s->s<1000)(hops:∀t∈fS a,b.dst≠some t/\bZ b≠some t/\t<1000)(hr:dm (fE cx e gid b) h= .ok u h'):Agree cx a e (e.upd b.dst u):=by
 refine⟨fun t ht=>lN hsh (hops t ht).1 (hops t ht).2.1 (hops t ht).2.2,fun _=>.inr ⟨t,p,ha,fun B off hB=>?_⟩,fun hdr=>?_,fun hw=>?_⟩
 ·unfold fE at hr;rw[hb]at hr;cases hdst:b.dst with
  |none=>rw[hdst]at hr;cases hr
  | some s=>
   rw[hdst]at hr;have hs:=hd s hdst;simp only at hr;have plain:u.ls=[]->u.lb=none->u.unlb=none->aS (e.upd (some s) u).lb B=aS e.lb B/\(1000<=B->B % 1000=0->∀k,k<1000->(e.upd (some s) u).get (B+k)=e.get (B+k)):=fun h1 h2 h3=>by
    refine⟨by show aS (kT (dY e.lb u.unlb) u.lb) B=_;rw[h2,h3];rfl,fun hB1 _ k _=>?_⟩;rw[bV,M9 (fun hh=>tj (Of hh) hs hB1),h1];rfl
   unfold eP at hr;cases hT:cx.T t' with
   |none=>rw[hT]at hr;cases hr
   | some ti=>
    rw[hT]at hr;simp only at hr;split at hr
    ·cases hr;exact plain rfl rfl rfl
    ·simp only[dm,ap,am]at hr;split at hr<;>cases hr;exact plain rfl rfl rfl
    ·simp only[dm,ap,am]at hr;split at hr<;>cases hr;exact plain rfl rfl rfl
    ·cases hc:(decide (ti.size<1000)&&aM e.sl (aH s)&&ge (cr true ti) (eR cx.ann.nils s) ti.size)with
     |false=>rw[hc]at hr;cases hr
     | true=>
      rw[hc]at hr;simp only[M5,M8]at hc;obtain⟨⟨hz,hf⟩,_⟩:=hc;cases hr;have hne:=ku hf hB;refine⟨?_,fun hB1 hB0 k hk=>?_⟩
      ·show aS ((aH s,ti.size):: e.lb) B=aS e.lb B;rw[dQ,M9 (fun hh=>hne hh.symm)]
      ·rw[bV,M9 (fun hh=>tj (Of hh) hs hB1)];refine eO _ fun y hy hyt=>?_
       have:=mF y hy
       grind [aH]
 all_goals grind [ar]
theorem rE{gi gj:Nat}{x y:Foot}{si sj:Option Nat}{u v:Upd}{d f:Option Tmp}(hu:Shape e gi x si u)(hv:Shape e gj y sj v)(hy:y.wl=false)(hf:∀t,f=some t->t<1000)(hdf:∀t,d=some t->f≠some t)(hsf:∀t,si=some t->f≠some t)(hg:gi≠gj)(h1:x.dr=true->y.dr=false/\y.ad=false)(h2:x.ad=true->y.dr=false)(h3:x.ad=true->y.ad=true->x.wl=false):EqE ((e.upd d u).upd f v) ((e.upd f v).upd d u):=by
 have e1:=hv.ls hy;have e2:=hv.lb hy;have e3:=hv.unlb hy;refine⟨fun t=>?_,fun g=>?_,fun B=>?_,fun B=>?_⟩
 ·rw[bV,bV,e1];show (if d=some t then u.ent else bM (u.ls++nG f v.ent (v.ls++e.sl)) t)=if f=some t then v.ent else bM (nG d u.ent (u.ls++e.sl)) t;rw[e1,eu,NF];by_cases hft:f=some t
  ·rw[Nn hft,M9 (fun h=>hdf t h hft),eO,eu,Nn hft];intro z hz hzt;rcases hu.keys z hz with h|h
   all_goals grind
  ·rw[M9 hft];split
   ·rfl
   ·exact ju (by rw[eu,M9 hft])
 ·show aK (u.add++eY (v.add++eY e.al v.drop) u.drop) g=aK (v.add++eY (u.add++eY e.al u.drop) v.drop) g;cases hxd:x.dr with
  |true=>
   obtain⟨h4,h5⟩:=h1 hxd;rw[hv.noad h5,hv.nodr h4];rfl
  | false=>
   rw[hu.nodr hxd];cases hxa:x.ad with
   |false=>rw[hu.noad hxa];rfl
   | true=>
    rw[hv.nodr (h2 hxa)];cases hya:y.ad with
    |false=>rw[hv.noad hya];rfl
    |true=>
     have k1:=hu.add (h3 hxa hya);have k2:=hv.add hy;show aK (u.add++(v.add++e.al)) g=aK (v.add++(u.add++e.al)) g;rw[fe,fe,fe,fe];by_cases hgi:g=gi
     ·rw[oI k2 (by omega)]
     ·rw[oI k1 hgi]
 ·show aS (kT (dY (kT (dY e.lb v.unlb) v.lb) u.unlb) u.lb) B=aS (kT (dY (kT (dY e.lb u.unlb) u.lb) v.unlb) v.lb) B;rw[e2,e3];rfl
 ·show aM (nG d u.ent (u.ls++nG f v.ent (v.ls++e.sl))) B=aM (nG f v.ent (v.ls++nG d u.ent (u.ls++e.sl))) B
  grind [dR,fh]
end
end
end Go.Av
