/- The abstract evaluator of the model and plain laws, part 3: its soundness holds for every program whose table of types is the evaluator's. No further condition. -/
import Derived.Test.YtmgjpakjlbofpaaGreatLb
import Derived.KernelRfl
import Derived.Below
import Derived.Lib.IndexMore
import Derived.Lib.Fields
import Derived.Shelf.SlSortCmp.WholeK
import Derived.Lib.Bytealg
import Derived.ChangeSame
import Derived.OpenShut
import Derived.IntWalk
import Derived.ChangeReads
import Derived.ReadAgain
import Derived.Deep.Slices
import Derived.WideShapes
import Derived.SizedLaws
set_option linter.defProp false
set_option linter.unusedSimpArgs false
set_option linter.unusedVariables false
namespace Go.Av
variable [Dr]
omit [Dr]in
theorem sO{l:List Nat}{t:Nat}(h:t∈l):dY l t=true:=(e8 l t).2 h
omit [Dr]in
theorem kN{l:List Nat}{d:Option Nat}(h:bG l d=false):∀t∈l,d≠some t:=by
 intro t ht hd;rw[hd]at h;simp only[bG]at h;rw[sO ht]at h;cases h
omit [Dr]in
theorem lF{a b:Option Nat}(h:clash a b=false):∀t,a=some t->b≠some t:=by
 intro t ha hb;rw[ha,hb]at h;simp[clash]at h
section
variable {cx:Cx} {ops:Array Oper} {base:Nat} {e:Env}
omit [Dr]in
theorem qX{gid:Nat}{f:Foot}{ss:Option Nat}{u:Upd}(h:Shape e gid f ss u):Shape e gid f ss (eP u):=
 ⟨fun _=>rfl,fun _=>rfl,fun _=>rfl,fun _ x h=>by simp[eP]at h,fun _=>rfl,fun _=>rfl,fun hw C off hh=>h.loc hw C off hh,fun x h=>by simp[eP]at h⟩
omit [Dr]in
theorem uS{p q:Upd->Prop}(hpq:∀u,p u->q (eP u)){A:Act1}(h:b8 p A):b8 q (fo A):=by
 cases A with
 |bad=>trivial
 |stat u=>exact hpq _ h
 |dyn m sh=>exact fun v=>hpq _ (h v)
 |thr v=>trivial
omit [Dr]in
theorem zQ{p:∀ {α:Type},M α->Prop}{A:Act1}(h:bu p A):bu p (fo A):=by
 cases A<;>exact h
omit [Dr]in
theorem m7{i:Nat}{o:Oper}(ho:ops[i]? = some o){h h':Hp}{u:Upd}(hr:dV cx base ops i e h= .ok u h'):Shape e ((base+i)*1000) (ap cx o) (bX o) u:=by
 unfold dV at hr;rw[ho]at hr;simp only at hr;cases hgd:o.guard with
 |none=>rw[hgd]at hr;exact jk (jq _ _ _ _) hr
 | some g=>
  obtain⟨j,want⟩:=g;rw[hgd]at hr;simp only at hr;cases hdj:cN ops j with
  |none=>rw[hdj]at hr;cases hr
  | some t=>
   rw[hdj]at hr;simp only at hr;cases hpl:dN cx o with
   |false=>rw[hpl]at hr;cases hr
   | true=>
    rw[hpl]at hr;simp only[Kh]at hr;have h0:∀ {h h':Hp},(M.pure (Upd.ofV (.tup [])):M Upd) h= .ok u h'->Shape e ((base+i)*1000) (ap cx o) (bX o) u:=by
     intro h h' hh;cases hh;exact Shape.ofV ..
    generalize e.av t=q at hr;cases q with
    |bool b=>
     simp only[iD]at hr;cases hb:(b== want)with
     |false=>rw[hb]at hr;exact h0 hr
     |true=>rw[hb]at hr;exact jk (uS (fun u=>qX) (jq _ _ _ _)) hr
    |tup vs=>
     cases vs with
     |nil=>exact h0 hr
     |cons v vs=>cases hr
    |_=>cases hr
omit [Dr]in
theorem vf{p:∀ {α:Type},M α->Prop}(h1:∀ {α:Type} (m:M α),a8 m->p m)(h2:∀ {α β:Type} (m:M α) (f:α->β),p m->p (ae m fun v=>M.pure (f v))){A:Act1}(h:bu p A):p (da A):=by
 cases A with
 |bad=>exact h1 _ a8.fail
 |stat u=>exact h1 _ (a8.pure u)
 |dyn m sh=>exact h2 _ _ h
 |thr v=>exact h.elim
omit [Dr]in
theorem ia{p:∀ {α:Type},M α->Prop}(h1:∀ {α:Type} (m:M α),a8 m->p m)(h2:∀ {α β:Type} (m:M α) (f:α->β),p m->p (ae m fun v=>M.pure (f v))){i:Nat}{o:Oper}(ho:ops[i]? = some o)(h:bu p (eu cx e ((base+i)*1000) o)):p (dV cx base ops i e):=by
 unfold dV;rw[ho];simp only;cases hgd:o.guard with
 |none=>exact vf h1 h2 h
 | some g=>
  obtain⟨j,want⟩:=g;simp only;cases hdj:cN ops j with
  |none=>exact h1 _ a8.fail
  | some t=>
   simp only;cases hpl:dN cx o with
   |false=>exact h1 _ a8.fail
   | true=>
    simp only[Kh];unfold iD;split
    ·rename_i b _;cases hb:(b== want)with
     |false=>exact h1 _ (a8.pure _)
     |true=>exact vf h1 h2 (zQ h)
    ·exact h1 _ (a8.pure _)
    ·exact h1 _ a8.fail
structure Small (ops:Array Oper):Prop where
 dst:∀(i:Nat)(o:Oper),ops[i]? = some o->∀t,o.dst=some t->t<1000
 src:∀(i:Nat)(o:Oper),ops[i]? = some o->∀t∈gF o,t<1000
omit [Dr]in
theorem Small.reads(hS:Small ops){i:Nat}{o:Oper}(ho:ops[i]? = some o):∀t∈cB ops i,t<1000:=by
 intro t ht;rw[eJ ho,KG]at ht;rcases ht with ht|ht
 ·unfold dK at ht;split at ht
  ·rename_i j _ _;cases hj:ops[j]? with
   |none=>rw[hj]at ht;simp at ht
   |some oj=>
    rw[hj]at ht;simp only[LJ]at ht;cases hd:oj.dst with
    |none=>rw[hd]at ht;simp at ht
    |some s=>rw[hd]at ht;simp at ht;rw[ht];exact hS.dst j oj hj s hd
  ·simp at ht
 ·exact hS.src i o ho t ht
omit [Dr]in
theorem lx{gid:Nat}{x:Foot}{ss:Option Nat}{u:Upd}{d:Option Tmp}(hsh:Shape e gid x ss u){t:Nat}(h1:d≠some t)(h2:ss≠some t)(h3:t<1000):(e.upd d u).get t=e.get t:=by
 rw[cb,if_neg h1];refine nT _ fun y hy hyt=>?_;rcases hsh.keys y hy with h|h
 ·omega
 ·exact h2 (by rw[h,hyt])
omit [Dr]in
theorem zb{gid:Nat}{x:Foot}{ss:Option Nat}{u:Upd}{d:Option Tmp}(hsh:Shape e gid x ss u)(hw:x.wl=false){t:Nat}(h1:d≠some t):(e.upd d u).get t=e.get t:=by
 rw[cb,if_neg h1,hsh.ls hw];rfl
omit [Dr]in
theorem o9{gid:Nat}{x:Foot}{ss:Option Nat}{u:Upd}{d:Option Tmp}{o:Oper}(hsh:Shape e gid x ss u)(hd:∀t,d=some t->t<1000)(hops:∀t∈gF o,d≠some t/\ss≠some t/\t<1000)(hloc:((ap cx o).rl||(ap cx o).wl)=true->x.wl=false)(hal:(ap cx o).dr=true->x.ad=false/\x.dr=false):Agree cx o e (e.upd d u):=by
 refine⟨fun t ht=>lx hsh (hops t ht).1 (hops t ht).2.1 (hops t ht).2.2,fun h=>⟨fun t ht=>zb hsh (hloc h) (fun hh=>Nat.not_lt.2 ht (hd t hh)),fun B=>?_⟩,fun h g=>?_,fun h s _ hl=>?_⟩
 ·show be (jP (df e.lb u.unlb) u.lb) B=be e.lb B;rw[hsh.lb (hloc h),hsh.unlb (hloc h)];rfl
 ·show aF (u.add++dy e.al u.drop) g=aF e.al g;rw[hsh.noad (hal h).1,hsh.nodr (hal h).2];rfl
 ·have hw:=hloc (by rw[h];simp);show aQ (oN d u.ent (u.ls++e.sl)) (ba s)=true;rw[hsh.ls hw,dH,KL,hl,Ml];have:kl u.ent (ba s)=true:=by
   unfold kl;split
   ·rename_i C off hv;obtain⟨t,off',ht⟩:=hsh.loc hw C off hv
    have:=kM hl ht
    rw[Le,Lt];intro hh;exact this (Ko hh)
   ·rfl
  rw[this,Bool.or_true]
omit [Dr]in
theorem wy{gid:Nat}{x:Foot}{ss:Option Nat}{u:Upd}{d:Option Tmp}{o:Oper}(hsh:Shape e gid x ss u)(hd:∀t,d=some t->t<1000)(hops:∀t∈gF o,d≠some t/\ss≠some t/\t<1000)(hloc:((ap cx o).rl||(ap cx o).wl)=true->x.wl=false)(hal:(ap cx o).dr=true->x.ad=false/\x.dr=false):Agree cx o (e.upd d u) e:=by
 have A:=o9 (cx:=cx) hsh hd hops hloc hal;refine⟨fun t ht=>(A.ops t ht).symm,fun h=>⟨fun t ht=>((A.loc h).1 t ht).symm,fun B=>((A.loc h).2 B).symm⟩,fun h g=>(A.al h g).symm,fun _ s _ hl=>?_⟩;have hl':aQ (oN d u.ent (u.ls++e.sl)) (ba s)=true:=hl;rw[dH,e7]at hl';simp only[Kj]at hl';exact hl'.2.2
omit [Dr]in
theorem tv{gi gj:Nat}{x y:Foot}{si sj:Option Nat}{u v:Upd}{d f:Option Tmp}(hu:Shape e gi x si u)(hv:Shape e gj y sj v)(hy:y.wl=false)(hf:∀t,f=some t->t<1000)(hdf:∀t,d=some t->f≠some t)(hsf:∀t,si=some t->f≠some t)(hg:gi≠gj)(h1:x.dr=true->y.dr=false/\y.ad=false)(h2:x.ad=true->y.dr=false)(h3:x.ad=true->y.ad=true->x.wl=false):EqE ((e.upd d u).upd f v) ((e.upd f v).upd d u):=by
 have e1:=hv.ls hy;have e2:=hv.lb hy;have e3:=hv.unlb hy;refine⟨fun t=>?_,fun g=>?_,fun B=>?_,fun B=>?_⟩
 ·rw[cb,cb,e1];show (if d=some t then u.ent else bC (u.ls++oN f v.ent (v.ls++e.sl)) t)=if f=some t then v.ent else bC (oN d u.ent (u.ls++e.sl)) t;rw[e1,gT,KL];by_cases hft:f=some t
  ·rw[Kn hft,if_neg (fun h=>hdf t h hft),nT,gT,Kn hft];intro z hz hzt;rcases hu.keys z hz with h|h
   ·exact Nat.not_lt.2 h (by rw[hzt];exact hf t hft)
   ·exact hsf z.1 h (by rw[hzt];exact hft)
  ·rw[if_neg hft];split
   ·rfl
   ·exact mj (by rw[gT,if_neg hft])
 ·show aF (u.add++dy (v.add++dy e.al v.drop) u.drop) g=aF (v.add++dy (u.add++dy e.al u.drop) v.drop) g;cases hxd:x.dr with
  |true=>
   obtain⟨h4,h5⟩:=h1 hxd;rw[hv.noad h5,hv.nodr h4];rfl
  | false=>
   rw[hu.nodr hxd];cases hxa:x.ad with
   |false=>rw[hu.noad hxa];rfl
   | true=>
    rw[hv.nodr (h2 hxa)];cases hya:y.ad with
    |false=>rw[hv.noad hya];rfl
    |true=>
     have k1:=hu.add (h3 hxa hya);have k2:=hv.add hy;show aF (u.add++(v.add++e.al)) g=aF (v.add++(u.add++e.al)) g;rw[dE,dE,dE,dE];by_cases hgi:g=gi
     ·rw[lV k2 (by omega)]
     ·rw[lV k1 hgi]
 ·show be (jP (df (jP (df e.lb v.unlb) v.lb) u.unlb) u.lb) B=be (jP (df (jP (df e.lb u.unlb) u.lb) v.unlb) v.lb) B;rw[e2,e3];rfl
 ·show aQ (oN d u.ent (u.ls++oN f v.ent (v.ls++e.sl))) B=aQ (oN f v.ent (v.ls++oN d u.ent (u.ls++e.sl))) B;simp only[dH,e7]
  ac_rfl
end
end Go.Av
namespace Go.Av
variable [Dr]
section
variable {cx:Cx} {ops:Array Oper} {base:Nat}
structure Ind (cx:Cx) (ops:Array Oper) (i j:Nat) (a b:Oper):Prop where
 ha:ops[i]? = some a
 hb:ops[j]? = some b
 piv:(ap cx a).piv=false
 l1:(ap cx a).wl=true->(ap cx b).rl=false/\(ap cx b).wl=false
 l2:(ap cx a).rl=true->(ap cx b).wl=false
 h1:(ap cx a).wh=true->(ap cx b).rh=false/\(ap cx b).wh=false
 h2:(ap cx a).rh=true->(ap cx b).wh=false\/(ap cx b).nw=true
 g1:(ap cx a).dr=true->(ap cx b).dr=false/\(ap cx b).ad=false
 g2:(ap cx a).ad=true->(ap cx b).dr=false
 g3:(ap cx a).ad=true->(ap cx b).ad=true->(ap cx a).wl=false/\(ap cx b).wl=false
 r1:∀t∈cB ops j,a.dst≠some t
 r2:∀t∈cB ops i,b.dst≠some t
 s1:∀t∈cB ops j,bX a≠some t
 s2:∀t∈cB ops i,bX b≠some t
 c1:∀t,bX a=some t->b.dst≠some t
 c2:∀t,a.dst=some t->bX b≠some t
 c3:∀t,a.dst=some t->b.dst≠some t
omit [Dr]in
theorem xf{i j:Nat}(h:kG cx ops i j=true):∃a b,Ind cx ops i j a b:=by
 unfold kG at h;split at h
 ·rename_i a b ha hb;refine⟨a,b,?_⟩;simp only[Kj,Le]at h;obtain⟨⟨⟨⟨⟨⟨⟨⟨⟨⟨⟨⟨⟨⟨k1,k2⟩,k3⟩,k4⟩,k5⟩,k6⟩,k7⟩,k8⟩,k9⟩,k10⟩,k11⟩,k12⟩,k13⟩,k14⟩,k15⟩:=h;refine⟨ha,hb,k1,fun q=>?_,fun q=>?_,fun q=>?_,fun q=>?_,fun q=>?_,fun q=>?_,fun q q'=>?_,kN k9,kN k10,kN k11,kN k12,lF k13,lF k14,lF k15⟩
  ·rw[q]at k2;simpa using k2
  ·rw[q]at k3;simpa using k3
  ·rw[q]at k4;simpa using k4
  ·rw[q]at k5;simp only[L8]at k5;cases hb:(ap cx b).wh<;>simp_all
  ·rw[q]at k6;simpa using k6
  ·rw[q]at k7;simpa using k7
  ·rw[q,q']at k8;simpa using k8
 ·cases h
omit [Dr]in
theorem swap(hI:IsoPure cx)(hS:Small ops){i j:Nat}(hij:kG cx ops i j=true)(hne:i≠j)(e:Env)(h:Hp):
  RE (ae (stepG cx base ops i e) (stepG cx base ops j) h) (ae (stepG cx base ops j e) (stepG cx base ops i) h):=by
 obtain⟨a,b,I⟩:=xf hij;have hda:cN ops i=a.dst:=by simp[cN,I.ha]
 have hdb:cN ops j=b.dst:=by simp[cN,I.hb]
 unfold stepG;rw[hda,hdb];simp only[ae,M.pure];cases hri:dV cx base ops i e h with
 |fail=>trivial
 |pan v h'=>exact absurd hri (ia (p:=@dw) (fun _ g=>g.read.stay) (fun _ f g=>g.bnd f) I.ha ((dL hI e _ a).stay I.piv) h v h')
 | ok u h1=>
  simp only;have shu:=m7 I.ha hri;have hra:=eJ (ops:=ops) I.ha;have hrb:=eJ (ops:=ops) I.hb;have hbo:∀t∈gF b,a.dst≠some t/\bX a≠some t/\t<1000:=fun t ht=>⟨I.r1 t (by rw[hrb];simp[ht]),I.s1 t (by rw[hrb];simp[ht]),hS.src j b I.hb t ht⟩;have hao:∀t∈gF a,b.dst≠some t/\bX b≠some t/\t<1000:=fun t ht=>⟨I.r2 t (by rw[hra];simp[ht]),I.s2 t (by rw[hra];simp[ht]),hS.src i a I.ha t ht⟩;have Abwd:Agree cx b (e.upd a.dst u) e:=wy shu (hS.dst i a I.ha) hbo (fun q=>by
   cases hw:(ap cx a).wl with
   |false=>rfl
   |true=>obtain⟨q1,q2⟩:=I.l1 hw;rw[q1,q2]at q;cases q) (fun q=>by
   constructor
   ·cases hw:(ap cx a).ad with
    |false=>rfl
    |true=>have:=I.g2 hw;rw[this]at q;cases q
   ·cases hw:(ap cx a).dr with
    |false=>rfl
    |true=>have:=(I.g1 hw).1;rw[this]at q;cases q)
  have hgb:∀t∈dK ops b,e.get t=(e.upd a.dst u).get t:=fun t ht=>by
   have htr:t∈cB ops j:=by rw[hrb];simp[ht]
   exact (lx shu (I.r1 t htr) (I.s1 t htr) (hS.reads I.hb t htr)).symm
  -- the second, after the first
  cases hrj:dV cx base ops j (e.upd a.dst u) h1 with
  |fail=>trivial
  | pan v h2=>
   have hj:=eF (base:=base) I.hb hgb Abwd (h:=h1) (by rw[hrj];simp);rw[hrj]at hj
   -- j leaves: so it may write, and i did not touch the heap
   have hwb:(ap cx b).wh=true:=by
    cases hw:(ap cx b).wh with
    |true=>rfl
    |false=>exact absurd hj ((ia (p:=@cW) (fun _ g=>g.read) (fun _ f g=>g.bnd f) I.hb ((dL hI e _ b).read hw)).stay _ _ _)
   have hwa:(ap cx a).wh=false:=by
    cases hw:(ap cx a).wh with
    |false=>rfl
    |true=>have:=(I.h1 hw).2;rw[this]at hwb;cases hwb
   have hh:h1=h:=by
    have hR:cW (dV cx base ops i e):=ia (p:=@cW) (fun _ g=>g.read) (fun _ f g=>g.bnd f) I.ha ((dL hI e _ a).read hwa);rcases hR h with hx|⟨u',hx⟩<;>rw[hri]at hx<;>cases hx;rfl
   subst hh;rw[hj];exact rfl
  | ok v h2=>
   have hj:=eF (base:=base) I.hb hgb Abwd (h:=h1) (by rw[hrj];simp);rw[hrj]at hj;have shv:=m7 I.hb hj;have Afwd:Agree cx a e (e.upd b.dst v):=o9 shv (hS.dst j b I.hb) hao (fun q=>by
    cases hw:(ap cx b).wl with
    |false=>rfl
    | true=>
     exfalso;cases hrl:(ap cx a).rl with
     |true=>have:=I.l2 hrl;rw[this]at hw;cases hw
     |false=>
      rw[hrl]at q;have hwl:(ap cx a).wl=true:=by simpa using q
      have:=(I.l1 hwl).2
      rw[this]at hw;cases hw) (fun q=>⟨(I.g1 q).2,(I.g1 q).1⟩)
   have hga:∀t∈dK ops a,(e.upd b.dst v).get t=e.get t:=fun t ht=>by
    have htr:t∈cB ops i:=by rw[hra];simp[ht]
    exact lx shv (I.r2 t htr) (I.s2 t htr) (hS.reads I.ha t htr)
   have hcomm:EqE ((e.upd a.dst u).upd b.dst v) ((e.upd b.dst v).upd a.dst u):=by
    have hgij:(base+i)*1000≠(base+j)*1000:=by omega
    cases hwb:(ap cx b).wl with
    |false=>
     exact tv shu shv hwb (hS.dst j b I.hb) I.c3 I.c1 hgij I.g1 I.g2 (fun q q'=>(I.g3 q q').1)
    | true=>
     have hwa:(ap cx a).wl=false:=by
      cases hw:(ap cx a).wl with
      |false=>rfl
      |true=>have:=(I.l1 hw).2;rw[this]at hwb;cases hwb
     refine (tv shv shu hwa (hS.dst i a I.ha) (fun t ht hh=>I.c3 t hh ht) (fun t ht hh=>I.c2 t hh ht) (Mz hgij) (fun q=>⟨?_,?_⟩) (fun q=>?_) (fun q q'=>?_)).symm
     ·cases hw:(ap cx a).dr with
      |false=>rfl
      |true=>have:=(I.g1 hw).1;rw[this]at q;cases q
     ·cases hw:(ap cx a).ad with
      |false=>rfl
      |true=>have:=I.g2 hw;rw[this]at q;cases q
     ·cases hw:(ap cx a).dr with
      |false=>rfl
      |true=>have:=(I.g1 hw).2;rw[this]at q;cases q
     ·have:=(I.g3 q' q).2;rw[this]at hwb;cases hwb
   cases hwa:(ap cx a).wh with
   | false=>
    have hR:cW (dV cx base ops i e):=ia (p:=@cW) (fun _ g=>g.read) (fun _ f g=>g.bnd f) I.ha ((dL hI e _ a).read hwa);have hh:h1=h:=by
     rcases hR h with hx|⟨u',hx⟩<;>rw[hri]at hx<;>cases hx;rfl
    subst hh;rw[hj];simp only;have hi2:dV cx base ops i e h2= .ok u h2:=by
     cases hra':(ap cx a).rh with
     |false=>
      obtain⟨q,hq⟩:a8 (dV cx base ops i e):=ia (p:=@a8) (fun _ g=>g) (fun _ f g=>g.bnd f) I.ha ((dL hI e _ a).pure hwa hra');rw[hq]at hri |-;cases q with
      |none=>cases hri
      |some u'=>cases hri;rfl
     | true=>
      rcases I.h2 hra' with hwb|hnw
      case inr=>
       have hNw:tG (dV cx base ops j e):=ia (p:=@tG) (fun _ g=>g.nw) (fun _ f g=>g.bnd f) I.hb ((dL hI e _ b).nw hnw);have hAp:jy (dV cx base ops i e)/\cW (dV cx base ops i e):=ia (p:=fun m=>jy m/\cW m) (fun _ g=>⟨g.app,g.read⟩) (fun _ f g=>jy.bnd g f) I.ha ((dL hI e _ a).app hwa);obtain⟨t,rfl⟩:=hNw _ _ _ hj;exact hAp.1 _ t _ hri
      have hRb:cW (dV cx base ops j e):=ia (p:=@cW) (fun _ g=>g.read) (fun _ f g=>g.bnd f) I.hb ((dL hI e _ b).read hwb);rcases hRb h1 with hx|⟨u',hx⟩<;>rw[hj]at hx<;>cases hx;exact hri
    rw[eF I.ha hga Afwd (by rw[hi2];simp),hi2];exact⟨_,rfl,hcomm⟩
   | true=>
    obtain⟨hrb',hwb⟩:=I.h1 hwa;obtain⟨q,hq⟩:a8 (dV cx base ops j e):=ia (p:=@a8) (fun _ g=>g) (fun _ f g=>g.bnd f) I.hb ((dL hI e _ b).pure hwb hrb');rw[hq]at hj |-;cases q with
    |none=>cases hj
    |some u'=>
     cases hj;simp only[ah];rw[eF I.ha hga Afwd (by rw[hri];simp),hri];exact⟨_,rfl,hcomm⟩
omit [Dr]in
theorem CN(hI:IsoPure cx)(hS:Small ops){i:Nat}(q:List Nat):∀(p:List Nat),(∀x∈p,kG cx ops x i=true/\x≠i)->∀(e:Env)(h:Hp),RE (aO cx base ops (p++i:: q) e h) (aO cx base ops (i:: (p++q)) e h)
 |[],_,e,h=>RE.refl _
 | x:: p,hp,e,h=>by
  have ih:=fun e h=>CN hI hS q p (fun y hy=>hp y (by simp[hy])) e h;have h1:RE (aO cx base ops (x:: (p++i:: q)) e h) (aO cx base ops (x:: i:: (p++q)) e h):=by
   simp only[aO,ae]at ih |-;cases stepG cx base ops x e h with
   |ok e' h'=>exact ih e' h'
   |pan v h'=>exact rfl
   |fail=>trivial
  refine h1.trans ?_;have e1:aO cx base ops (x:: i:: (p++q)) e=ae (ae (stepG cx base ops x e) (stepG cx base ops i)) (aO cx base ops (p++q)):=by rw[eV];rfl
  have e2:aO cx base ops (i:: x:: (p++q)) e=ae (ae (stepG cx base ops i e) (stepG cx base ops x)) (aO cx base ops (p++q)):=by rw[eV];rfl
  show RE (aO cx base ops (x:: i:: (p++q)) e h) (aO cx base ops (i:: x:: (p++q)) e h);rw[e1,e2];exact RE.bind (swap hI hS (hp x (by simp)).1 (hp x (by simp)).2 e h) fun e e' x h=>kT _ h x
end
end Go.Av
namespace Go.Av
variable [Dr]
omit [Dr]in
theorem zI{a b:Option (Nat×Bool)}(h:wk a b=true):a=b:=by
 unfold wk at h;split at h
 ·rfl
 ·simp only[Kj,Lj]at h;rw[Ko h.1,h.2]
 ·cases h
def fy(gs:List (Option (Nat×Bool)×List Nat)):List Nat:=gs.flatMap (·.2)
omit [Dr]in
theorem gC(ops:Array Oper):∀l:List Nat,fy (cO ops l)=l/\∀g∈cO ops l,∀i∈g.2,guardOf ops i=g.1
 |[]=>⟨rfl,by simp[cO]⟩
 | i :: is=>by
  obtain⟨h1,h2⟩:=gC ops is;simp only[cO];cases hg:cO ops is with
  |nil=>
   rw[hg]at h1;have:is=[]:=by simpa [fy]using h1.symm
   subst this;exact⟨rfl,by simp⟩
  | cons x r=>
   obtain⟨g,js⟩:=x;rw[hg]at h1 h2;simp only;cases hs:wk (guardOf ops i) g with
   | true=>
    refine⟨?_,fun y hy=>?_⟩
    ·simp only[Kh,fy,LC,KW]at h1 |-;rw[h1]
    ·simp only[Kh,KI]at hy;rcases hy with rfl|hy
     ·intro k hk;simp only[KI]at hk;rcases hk with rfl|hk
      ·exact zI hs
      ·exact h2 (g,js) (by simp) k hk
     ·exact h2 y (by simp[hy])
   | false=>
    refine⟨?_,fun y hy=>?_⟩
    ·simp only[Km,fy,LC,KW,KL]at h1 |-;rw[h1]
    ·simp only[Km,KI]at hy;rcases hy with rfl|rfl|hy
     ·intro k hk;simp only[Lh]at hk;subst hk;rfl
     ·exact h2 (g,js) (by simp)
     ·exact h2 y (by simp[hy])
omit [Dr]in
theorem rU{ρ:Type}(e:Env)(d:Option Tmp)(A:Act1)(k:Env->M ρ):ko e d A k=ae (da A) fun u=>k (e.upd d u):=by
 cases A with
 |bad=>rfl
 |stat u=>rfl
 |dyn m sh=>simp only[ko,da,eV,ay]
 |thr v=>rfl
omit [Dr]in
theorem wF{α β:Type}{m:M α}{f g:α->M β}{h:Hp}(hfg:∀u h',m h= .ok u h'->f u h'=g u h'):ae m f h=ae m g h:=by
 simp only[ae];cases hm:m h with
 |ok u h'=>exact hfg u h' hm
 |pan v h'=>rfl
 |fail=>rfl
section
variable {cx:Cx} {ops:Array Oper} {base:Nat}
omit [Dr]in
theorem wx{i:Nat}{o:Oper}(ho:ops[i]? = some o)(hg:guardOf ops i=none)(e:Env):dV cx base ops i e=da (eu cx e ((base+i)*1000) o):=by
 have:o.guard=none:=by simpa [guardOf,ho]using hg
 unfold dV;rw[ho];simp only;rw[this]
omit [Dr]in
theorem lh{i j t:Nat}{want:Bool}{o:Oper}(ho:ops[i]? = some o)(hg:guardOf ops i=some (j,want))(hj:cN ops j=some t)(hp:dN cx o=true)(e:Env):
  dV cx base ops i e=iD (e.av t) want (da (fo (eu cx e ((base+i)*1000) o))):=by
 have:o.guard=some (j,want):=by simpa [guardOf,ho]using hg
 unfold dV;rw[ho];simp only;rw[this];simp only;rw[hj];simp only;rw[hp];rfl
omit [Dr]in
theorem s7{ρ:Type}:∀(is:List Nat)(e:Env)(k:Env->M ρ)(_:∀i∈is,guardOf ops i=none),gu cx base ops false is e k=ae (aO cx base ops is e) k
 |[],e,k,_=>rfl
 | i:: is,e,k,hg=>by
  simp only[gu,aO];unfold stepG;cases ho:ops[i]? with
  |none=>unfold dV;rw[ho];rfl
  |some o=>
   simp only;rw[rU,wx ho (hg i (by simp)),eV,eV];have hd:cN ops i=o.dst:=by simp[cN,ho]
   rw[hd];congr 1;funext u;simp only[ay];exact s7 is _ k fun j hj=>hg j (by simp[hj])
structure Turned (ds:List Nat) (e e':Env):Prop where
 get:∀t,t ∉ ds->e'.get t=e.get t
 al:e'.al=e.al
 lb:e'.lb=e.lb
 lf:∀B,aQ e.sl B=true->aQ e'.sl B=true
 ng:∀t∈ds,(e'.get t).g=none
omit [Dr]in
theorem Turned.step{ds:List Nat}{e e':Env}(H:Turned ds e e'){u:Upd}{d:Option Nat}(hls:u.ls=[])(hadd:u.add=[])(hdrop:u.drop=none)(hlb:u.lb=none)(hunlb:u.unlb=none)(hg:u.ent.g=none)(hloc:∀C off,u.ent.v= .loc C off->∃t off',(e'.get t).v= .loc C off'):Turned (d.toList++ds) e (e'.upd d u):=by
 have hget:∀t,(e'.upd d u).get t=if d=some t then u.ent else e'.get t:=fun t=>by rw[cb,hls];rfl
 refine⟨fun t ht=>?_,?_,?_,fun B hB=>?_,fun t ht=>?_⟩
 ·simp only[KG,not_or,LY]at ht;rw[hget,if_neg ht.1];exact H.get t ht.2
 ·show u.add++dy e'.al u.drop=e.al;rw[hadd,hdrop];exact H.al
 ·show jP (df e'.lb u.unlb) u.lb=e.lb;rw[hlb,hunlb];exact H.lb
 ·have h1:=H.lf B hB;show aQ (oN d u.ent (u.ls++e'.sl)) B=true;rw[hls,dH,KL,h1,Ml];have:kl u.ent B=true:=by
   unfold kl;split
   ·rename_i C off hv;obtain⟨t,off',ht⟩:=hloc C off hv
    have:=kM h1 ht
    rw[Le,Lt];intro hh;exact this (Ko hh)
   ·rfl
  rw[this,Bool.or_true]
 ·rw[hget];split
  ·exact hg
  ·rename_i hd;simp only[KG,LY]at ht;rcases ht with ht|ht
   ·exact absurd ht hd
   ·exact H.ng t ht
omit [Dr]in
theorem Turned.refl(e:Env):Turned [] e e:=⟨fun _ _=>rfl,rfl,rfl,fun _ h=>h,fun t h=>by simp at h⟩
omit [Dr]in
theorem Turned.sub{ds ds':List Nat}{e e':Env}(H:Turned ds e e')(h:∀t,t∈ds↔t∈ds'):Turned ds' e e':=
 ⟨fun t ht=>H.get t fun hh=>ht ((h t).1 hh),H.al,H.lb,H.lf,fun t ht=>H.ng t ((h t).2 ht)⟩
structure GroupOk (cx:Cx) (ops:Array Oper) (j:Nat) (want:Bool) (t:Nat) (is:List Nat):Prop where
 hj:cN ops j=some t
 each:∀i∈is,∃o,ops[i]? = some o/\guardOf ops i=some (j,want)/\dN cx o=true
 nt:t ∉ ck ops is
omit [Dr]in
theorem gt(i:Nat)(is:List Nat):∀t,t∈ck ops (i:: is)↔cN ops i=some t\/t∈ck ops is:=by
 intro t;unfold ck;simp only[Md,KI,exists_eq_or_imp]
omit [Dr]in
theorem GroupOk.tail{j:Nat}{want:Bool}{t i:Nat}{is:List Nat}(G:GroupOk cx ops j want t (i:: is)):GroupOk cx ops j want t is:=
 ⟨G.hj,fun k hk=>G.each k (by simp[hk]),fun h=>G.nt ((gt i is t).2 (.inr h))⟩
omit [Dr]in
theorem GroupOk.ne{j:Nat}{want:Bool}{t i:Nat}{is:List Nat}(G:GroupOk cx ops j want t (i:: is)):cN ops i≠some t:=fun h=>G.nt ((gt i is t).2 (.inl h))
omit [Dr]in
theorem iC{A:Act1}{h h':Hp}{u:Upd}(hr:da (fo A) h= .ok u h'):∃u0,da A h= .ok u0 h'/\u=eP u0:=by
 rw[lU]at hr;cases hx:da A h<;>rw[hx]at hr<;>simp at hr;exact⟨_,by rw[hr.2],hr.1.symm⟩
omit [Dr]in
theorem pO{ρ:Type}{j:Nat}{want:Bool}{t:Nat}:∀(is:List Nat)(e:Env)(k:Env->M ρ)(h:Hp),GroupOk cx ops j want t is->e.av t= .bool want->gu cx base ops true is e k h=ae (aO cx base ops is e) k h
 |[],e,k,h,_,_=>rfl
 |i:: is,e,k,h,G,hc=>by
  obtain⟨o,ho,hg,hp⟩:=G.each i (by simp);have hd:cN ops i=o.dst:=by simp[cN,ho]
  simp only[gu,aO,ho,Kh];rw[rU];unfold stepG;rw[lh ho hg G.hj hp,hc,eV,eV];simp only[iD,Lb,Kh,ay,hd];refine wF fun u h' hu=>?_;obtain⟨u0,hu0,rfl⟩:=iC hu;refine pO is _ k h' G.tail ?_;have:(e.upd o.dst (eP u0)).get t=e.get t:=by rw[cb,if_neg (by rw[<- hd];exact G.ne)];rfl
  simp only[Env.av,this];exact hc
omit [Dr]in
theorem kX{j:Nat}{want:Bool}{t:Nat}:∀(is:List Nat)(e e':Env)(h h':Hp),GroupOk cx ops j want t is->e.av t= .bool want->aO cx base ops is e h= .ok e' h'->Turned (ck ops is) e e':=by
 have key:∀(is:List Nat)(e0 e e':Env)(ds:List Nat)(h h':Hp),GroupOk cx ops j want t is->e.av t= .bool want->Turned ds e0 e->aO cx base ops is e h= .ok e' h'->Turned (ck ops is++ds) e0 e':=by
  intro is
  induction is with
  |nil=>
   intro e0 e e' ds h h' _ _ H hr;cases hr;exact H
  | cons i is ih=>
   intro e0 e e' ds h h' G hc H hr;obtain⟨o,ho,hg,hp⟩:=G.each i (by simp);have hd:cN ops i=o.dst:=by simp[cN,ho]
   simp only[aO]at hr;unfold stepG at hr;rw[lh ho hg G.hj hp,hc,eV]at hr;simp only[iD,Lb,Kh,hd,ae]at hr;cases hx:da (fo (eu cx e ((base+i)*1000) o)) h with
   |fail=>rw[hx]at hr;cases hr
   |pan v hh=>rw[hx]at hr;cases hr
   | ok u hh=>
    rw[hx]at hr;simp only at hr;obtain⟨u0,hu0,rfl⟩:=iC hx;have hsh:=jk (jq cx e ((base+i)*1000) o) hu0;simp only[dN,Kj,Le]at hp;have H2:=H.step (u:=eP u0) (d:=o.dst) rfl rfl rfl rfl rfl rfl (hsh.loc hp.1);refine (ih e0 _ e' _ hh h' G.tail ?_ H2 hr).sub fun s=>?_
    ·have:(e.upd o.dst (eP u0)).get t=e.get t:=by rw[cb,if_neg (by rw[<- hd];exact G.ne)];rfl
     simp only[Env.av,this];exact hc
    ·simp only[KG,gt,LY,hd];constructor
     ·rintro (h|h|h)
      ·exact .inl (.inr h)
      ·exact .inl (.inl h)
      ·exact .inr h
     ·rintro ((h|h)|h)
      ·exact .inr (.inl h)
      ·exact .inl h
      ·exact .inr (.inr h)
 intro is e e' h h' G hc hr;exact (key is e e e' [] h h' G hc (.refl e) hr).sub (by simp)
def Off(c:AV)(want:Bool):Prop:=c= .tup []\/∃b,c= .bool b/\(b== want)=false
omit [Dr]in
theorem Off.look{c:AV}{want:Bool}(h:Off c want)(m:M Upd):iD c want m=M.pure (.ofV (.tup [])):=by
 rcases h with rfl|⟨b,rfl,hb⟩
 ·rfl
 ·simp only[iD,hb,Km]
omit [Dr]in
theorem Bn{j:Nat}{want:Bool}{t:Nat}:∀(is:List Nat)(e:Env)(h:Hp),GroupOk cx ops j want t is->Off (e.av t) want->∃e',aO cx base ops is e h= .ok e' h/\Turned (ck ops is) e e'/\∀s∈ck ops is,e'.get s=⟨.val (.tup []),none⟩:=by
 have key:∀(is:List Nat)(e0 e:Env)(ds:List Nat)(h:Hp),GroupOk cx ops j want t is->Off (e.av t) want->Turned ds e0 e->(∀s∈ds,e.get s=⟨.val (.tup []),none⟩)->
   ∃e',aO cx base ops is e h= .ok e' h/\Turned (ck ops is++ds) e0 e'/\∀s∈ck ops is++ds,e'.get s=⟨.val (.tup []),none⟩:=by
  intro is
  induction is with
  |nil=>exact fun e0 e ds h _ _ H hds=>⟨e,rfl,H,hds⟩
  | cons i is ih=>
   intro e0 e ds h G hc H hds;obtain⟨o,ho,hg,hp⟩:=G.each i (by simp);have hd:cN ops i=o.dst:=by simp[cN,ho]
   have hget:∀s,(e.upd o.dst (.ofV (.tup []))).get s=if o.dst=some s then⟨.val (.tup []),none⟩else e.get s:=fun s=>by rw[cb];rfl
   have H2:=H.step (u:=.ofV (.tup [])) (d:=o.dst) rfl rfl rfl rfl rfl rfl (fun C off hh=>by cases hh);have hav:(e.upd o.dst (.ofV (.tup []))).av t=e.av t:=by
    have:(e.upd o.dst (.ofV (.tup []))).get t=e.get t:=by rw[hget,if_neg (by rw[<- hd];exact G.ne)]
    simp only[Env.av,this]
   obtain⟨e',h1,h2,h3⟩:=ih e0 (e.upd o.dst (.ofV (.tup []))) (o.dst.toList++ds) h G.tail (by rw[hav];exact hc) H2 (fun s hs=>by
    rw[hget];split
    ·rfl
    ·rename_i hn;simp only[KG,LY]at hs;rcases hs with hs|hs
     ·exact absurd hs hn
     ·exact hds s hs)
   have hiff:∀s,s∈ck ops is++(o.dst.toList++ds)↔s∈ck ops (i:: is)++ds:=fun s=>by
    simp only[KG,gt,LY,hd];constructor
    ·rintro (h|h|h)
     ·exact .inl (.inr h)
     ·exact .inl (.inl h)
     ·exact .inr h
    ·rintro ((h|h)|h)
     ·exact .inr (.inl h)
     ·exact .inl h
     ·exact .inr (.inr h)
   refine⟨e',?_,h2.sub hiff,fun s hs=>h3 s ((hiff s).2 hs)⟩;simp only[aO];unfold stepG;rw[lh ho hg G.hj hp,hc.look,hd];exact h1
 intro is e h G hc;obtain⟨e',h1,h2,h3⟩:=key is e e [] h G hc (.refl e) (by simp);exact⟨e',h1,h2.sub (by simp),fun s hs=>h3 s (by simp[hs])⟩
end
end Go.Av
namespace Go.Av
variable [Dr]
section
variable {cx:Cx} {ops:Array Oper} {base:Nat}
structure Rel (ops:Array Oper) (L:List Nat) (e2 e:Env):Prop where
 get:∀t,e2.get t=e.get t\/(e2.get t=Ent.none/\t<1000/\∀i∈L,t ∉ cB ops i)
 al:∀g,aF e2.al g=aF e.al g
 lb:∀B,be e2.lb B=be e.lb B
 lf:∀B,aQ e2.sl B=true->aQ e.sl B=true
omit [Dr]in
theorem Rel.refl(ops:Array Oper)(L:List Nat)(e:Env):Rel ops L e e:=⟨fun _=>.inl rfl,fun _=>rfl,fun _=>rfl,fun _ h=>h⟩
omit [Dr]in
theorem Rel.sub{L L':List Nat}{e2 e:Env}(H:Rel ops L e2 e)(h:∀i∈L',i∈L):Rel ops L' e2 e:=
 ⟨fun t=>(H.get t).imp id fun⟨h1,h2,h3⟩=>⟨h1,h2,fun i hi=>h3 i (h i hi)⟩,H.al,H.lb,H.lf⟩
omit [Dr]in
theorem Rel.read{L:List Nat}{e2 e:Env}(H:Rel ops L e2 e){i t:Nat}(hi:i∈L)(ht:t∈cB ops i):e.get t=e2.get t:=by
 rcases H.get t with h|⟨_,_,h⟩
 ·exact h.symm
 ·exact absurd ht (h i hi)
omit [Dr]in
theorem Rel.agree{L:List Nat}{e2 e:Env}(H:Rel ops L e2 e){i:Nat}{o:Oper}(hi:i∈L)(ho:ops[i]? = some o):Agree cx o e2 e:=by
 refine⟨fun t ht=>H.read hi (by rw[eJ ho];simp[ht]),fun _=>⟨fun t ht=>?_,fun B=>(H.lb B).symm⟩,fun _ g=>(H.al g).symm,fun _ s _ hl=>H.lf _ hl⟩;rcases H.get t with h|⟨_,h,_⟩
 ·exact h.symm
 ·omega
omit [Dr]in
theorem Rel.upd{L:List Nat}{e2 e:Env}(H:Rel ops L e2 e)(d:Option Tmp)(u:Upd):Rel ops L (e2.upd d u) (e.upd d u):=by
 refine⟨fun t=>?_,fun g=>?_,fun B=>?_,fun B hB=>?_⟩
 ·rw[cb,cb];split
  ·exact .inl rfl
  ·rw[gS,gS];split
   ·exact .inl rfl
   ·exact H.get t
 ·show aF (u.add++dy e2.al u.drop) g=aF (u.add++dy e.al u.drop) g;have:aF (dy e2.al u.drop) g=aF (dy e.al u.drop) g:=by
   cases u.drop with
   |none=>exact H.al g
   |some k=>simp only[dy,iJ,H.al g]
  rw[dE,dE,this]
 ·show be (jP (df e2.lb u.unlb) u.lb) B=be (jP (df e.lb u.unlb) u.lb) B;have:be (df e2.lb u.unlb) B=be (df e.lb u.unlb) B:=by
   cases u.unlb with
   |none=>exact H.lb B
   |some k=>simp only[df,kL,H.lb B]
  cases u.lb with
  |none=>exact this
  |some x=>
   obtain⟨k,n⟩:=x;simp only[jP,db,this]
 ·have hB':aQ (oN d u.ent (u.ls++e2.sl)) B=true:=hB;show aQ (oN d u.ent (u.ls++e.sl)) B=true;rw[dH,e7]at hB' |-;simp only[Kj]at hB' |-;exact⟨hB'.1,hB'.2.1,H.lf B hB'.2.2⟩
omit [Dr]in
theorem Rel.run:∀(is:List Nat){L:List Nat}{e2 e:Env}(_:Rel ops L e2 e)(_:∀i∈is,i∈L)(h:Hp),aO cx base ops is e2 h≠.fail->
  (∃e2' e' h',aO cx base ops is e2 h= .ok e2' h'/\aO cx base ops is e h= .ok e' h'/\Rel ops L e2' e')\/∃v h',aO cx base ops is e2 h= .pan v h'/\aO cx base ops is e h= .pan v h'
 |[],L,e2,e,H,_,h,_=>.inl ⟨e2,e,h,rfl,rfl,H⟩
 | i:: is,L,e2,e,H,hL,h,hr=>by
  simp only[aO]at hr |-;unfold stepG at hr |-;simp only[ae,M.pure]at hr |-;cases hx:dV cx base ops i e2 h with
  |fail=>rw[hx]at hr;exact absurd rfl hr
  | _ =>
   have ho:∃o,ops[i]? = some o:=by
    cases ho:ops[i]? with
    |none=>unfold dV at hx;rw[ho]at hx;cases hx
    |some o=>exact⟨o,rfl⟩
   obtain⟨o,ho⟩:=ho;have hi:=hL i (by simp);have hy:dV cx base ops i e h=dV cx base ops i e2 h:=eF ho (fun t ht=>H.read hi (by rw[eJ ho];simp[ht])) (H.agree hi ho) (by rw[hx];simp);rw[hy,hx]
   first
    | rw[hx]at hr
      exact Rel.run is (H.upd _ _) (fun k hk=>hL k (by simp[hk])) _ hr
    |exact .inr ⟨_,_,rfl,rfl⟩
omit [Dr]in
theorem nz(e:Env):∀(ds:List Nat)(t:Nat),(forget e ds).get t=if t∈ds then Ent.none else e.get t
 |[],t=>by simp[forget]
 | d:: ds,t=>by
  show bC ((d,Ent.none):: (forget e ds).sl) t=_;rw[bV];by_cases hd:d=t
  ·subst hd;simp
  ·rw[if_neg hd]
   have:=nz e ds t
   simp only[Env.get]at this;rw[this];have hd':¬t=d:=fun h=>hd h.symm;simp[hd',Env.get]
omit [Dr]in
theorem mf(e:Env):∀(ds:List Nat),(forget e ds).al=e.al/\(forget e ds).lb=e.lb/\∀B,aQ (forget e ds).sl B=aQ e.sl B
 |[]=>⟨rfl,rfl,fun _=>rfl⟩
 |_d:: ds=>mf e ds
omit [Dr]in
theorem mw(e:Env)(f:Nat->AV):∀(outs:List Nat)(pre:List AV)(t:Nat),(eA e (pre++outs.map f) pre.length outs).get t=if t∈outs then⟨.val (f t),none⟩else e.get t
 |[],pre,t=>by simp[eA]
 | d:: ds,pre,t=>by
  show bC ((d,⟨.val (nth (pre++(d:: ds).map f) pre.length),none⟩):: (eA e (pre++(d:: ds).map f) (pre.length+1) ds).sl) t=_;rw[bV];have hn:nth (pre++(d:: ds).map f) pre.length=f d:=by simp[nth]
  by_cases hd:d=t
  ·subst hd;rw[hn];simp
  ·rw[if_neg hd]
   have:=mw e f ds (pre++[f d]) t
   simp only[Ld,KH,K4,K5,L1]at this;simp only[Env.get,Lc]at this |-;rw[this];have hd':¬t=d:=fun h=>hd h.symm;simp[hd']
omit [Dr]in
theorem kV(e:Env)(vs:List AV):∀(outs:List Nat)(i:Nat),(eA e vs i outs).al=e.al/\(eA e vs i outs).lb=e.lb/\∀B,aQ (eA e vs i outs).sl B=aQ e.sl B
 |[],_i=>⟨rfl,rfl,fun _=>rfl⟩
 |_d:: ds,i=>kV e vs ds (i+1)
omit [Dr]in
theorem uX(gs:List (Option (Nat×Bool)×List Nat))(t:Nat):uW ops gs t=true↔∃i∈fy gs,t∈cB ops i:=by
 unfold uW fy;simp only[List.any_eq_true,MH,e8];constructor
 ·rintro⟨g,hg,i,hi,ht⟩;exact⟨i,⟨g,hg,hi⟩,ht⟩
 ·rintro⟨i,⟨g,hg,hi⟩,ht⟩;exact⟨g,hg,i,hi,ht⟩
omit [Dr]in
theorem Rel.close{is:List Nat}{gs:List (Option (Nat×Bool)×List Nat)}{e2 e e':Env}(H:Rel ops (is++fy gs) e2 e)(hS:Small ops)(T:Turned (ck ops is) e e'){vs:List AV}{f:Nat->AV}(hvs:vs=(cG ops is gs).map f)(hf:∀t∈cG ops is gs,e'.get t=⟨.val (f t),none⟩\/(f t= .any/\t<1000/\∀i∈fy gs,t ∉ cB ops i)):Rel ops (fy gs) (eA (forget e2 (ck ops is)) vs 0 (cG ops is gs)) e':=by
 have hr:=kV (forget e2 (ck ops is)) vs (cG ops is gs) 0;have hr2:=mf e2 (ck ops is);refine⟨fun t=>?_,fun g=>?_,fun B=>?_,fun B hB=>?_⟩
 ·have hg:=mw (forget e2 (ck ops is)) f (cG ops is gs) [] t;simp only[KL,K5]at hg;rw[hvs,hg];split
  ·rename_i ht;rcases hf t ht with h|⟨h1,h2,h3⟩
   ·exact .inl h.symm
   ·exact .inr ⟨by rw[h1];rfl,h2,h3⟩
  ·rename_i ht;rw[nz];split
   ·rename_i hd;refine .inr ⟨rfl,?_,fun i hi hti=>ht ?_⟩
    ·unfold ck at hd;simp only[Md]at hd;obtain⟨i,hi,hd⟩:=hd;unfold cN at hd;cases hoi:ops[i]? with
     |none=>rw[hoi]at hd;simp at hd
     |some o=>rw[hoi]at hd;exact hS.dst i o hoi t hd
    ·unfold cG;rw[MQ];exact⟨hd,(uX gs t).2 ⟨i,hi,hti⟩⟩
   ·rename_i hd;rw[T.get t hd];rcases H.get t with h|⟨h1,h2,h3⟩
    ·exact .inl h
    ·exact .inr ⟨h1,h2,fun i hi=>h3 i (by simp[hi])⟩
 ·rw[hr.1,hr2.1,T.al];exact H.al g
 ·rw[hr.2.1,hr2.2.1,T.lb];exact H.lb B
 ·rw[hr.2.2,hr2.2.2]at hB;exact T.lf B (H.lf B hB)
omit [Dr]in
theorem ou(l m:List Nat):∀e:Env,aO cx base ops (l++m) e=ae (aO cx base ops l e) (aO cx base ops m):=by
 induction l with
 |nil=>intro e;rfl
 |cons i l ih=>
  intro e;show ae (stepG cx base ops i e) (aO cx base ops (l++m))=ae (ae (stepG cx base ops i e) (aO cx base ops l)) (aO cx base ops m);rw[eV];congr 1;funext e';exact ih e'
omit [Dr]in
theorem AZ{x:Ent}(h1:jV x=true)(h2:x.g=none):x=⟨.val x.av,none⟩:=by
 obtain⟨v,g⟩:=x;cases v with
 |val a=>simp only at h2;subst h2;rfl
 |loc B off=>cases h1
omit [Dr]in
theorem gQ{ρ:Type}(hS:Small ops):∀(gs:List (Option (Nat×Bool)×List Nat))(e2 e:Env)(k:Env->M ρ)(h:Hp),(∀g∈gs,∀i∈g.2,guardOf ops i=g.1)->Rel ops (fy gs) e2 e->dh cx base ops gs e2 k h≠.fail->
  (∃e2' e' h',dh cx base ops gs e2 k h=k e2' h'/\aO cx base ops (fy gs) e h= .ok e' h'/\Rel ops [] e2' e')\/∃v h',dh cx base ops gs e2 k h= .pan v h'/\aO cx base ops (fy gs) e h= .pan v h'
 |[],e2,e,k,h,_,H,_=>.inl ⟨e2,e,h,rfl,rfl,H⟩
 | (none,is):: gs,e2,e,k,h,hg,H,hr=>by
  have hg0:∀i∈is,guardOf ops i=none:=hg (none,is) (by simp);have hfl:fy ((none,is):: gs)=is++fy gs:=rfl;rw[hfl]at H |-;rw[ou];simp only[dh]at hr |-;rw[s7 is e2 _ hg0]at hr |-;simp only[ae]at hr |-;have hr2:aO cx base ops is e2 h≠.fail:=fun hf=>by rw[hf]at hr;exact hr rfl
  rcases H.run (base:=base) (cx:=cx) is (fun i hi=>by simp[hi]) h hr2 with⟨e2',e',h',h1,h2,H'⟩|⟨v,h',h1,h2⟩
  ·rw[h1]at hr |-;rw[h2];exact gQ hS gs e2' e' k h' (fun g hgg=>hg g (by simp[hgg])) (H'.sub fun i hi=>by simp[hi]) hr
  ·rw[h1,h2];exact .inr ⟨v,h',rfl,rfl⟩
 | (some (j,want),is):: gs,e2,e,k,h,hg,H,hr=>by
  have hg0:∀i∈is,guardOf ops i=some (j,want):=hg (some (j,want),is) (by simp);have hfl:fy ((some (j,want),is):: gs)=is++fy gs:=rfl;rw[hfl]at H |-;rw[ou];simp only[dh]at hr |-;cases hdj:cN ops j with
  |none=>rw[hdj]at hr;exact absurd rfl hr
  | some t=>
   rw[hdj]at hr;simp only at hr |-;revert hr;cases hc:((is.all fun i=>match ops[i]? with|some o=>dN cx o&&o.dst.isSome|none=>false)&&!(dY (ck ops is) t))with
   |false=>intro hr;exact absurd rfl hr
   | true=>
    intro hr;simp only[Kh]at hr |-;simp only[Kj,Le,KA]at hc;have G:GroupOk cx ops j want t is:=by
     refine⟨hdj,fun i hi=>?_,fun ht=>?_⟩
     ·have:=hc.1 i hi
      cases hoi:ops[i]? with
      |none=>rw[hoi]at this;cases this
      |some o=>
       rw[hoi]at this;simp only[Kj]at this;exact⟨o,rfl,hg0 i hi,this.1⟩
     ·rw[(e8 _ _).2 ht]at hc;exact Bool.noConfusion hc.2
    have htr:∀i∈is,t∈cB ops i:=fun i hi=>by
     obtain⟨o,ho,hgi,_⟩:=G.each i hi;rw[eJ ho];have:o.guard=some (j,want):=by simpa [guardOf,ho]using hgi
     have:t∈dK ops o:=by
      unfold dK;rw[this];simp only;rw[show (ops[j]?).bind (·.dst)=some t from hdj];simp
     simp[this]
    -- the guard says yes
    cases is with
    | nil=>
     have hrn:∀e,aO cx base ops [] e=M.pure e:=fun _=>rfl;rw[hrn,ay];have ho:cG ops [] gs=[]:=rfl;have hd:ck ops []=[]:=rfl;rw[ho,hd]at hr |-;have hpure:∀ {q:AV} {m:M (List AV)},m h= .ok [] h->aC q want ([]:List Nat).length m h≠.fail->aC q want ([]:List Nat).length m h= .ok [] h:=by
      intro q m hm hne;cases q with
      |bool b=>
       simp only[aC];cases b== want with
       |true=>exact hm
       |false=>rfl
      |tup vs=>
       cases vs with
       |nil=>rfl
       |cons v vs=>exact absurd rfl hne
      |_=>exact absurd rfl hne
     simp only[ae]at hr |-;have hp:=hpure (q:=e2.av t) (m:=gu cx base ops true [] e2 fun e'=>bif ([]:List Nat).all (fun t=>jV (e'.get t))then M.pure (([]:List Nat).map e'.av)else M.fail) rfl (fun hf=>by rw[hf]at hr;exact hr rfl);rw[hp]at hr |-;exact gQ hS gs e2 e k h (fun g hgg=>hg g (by simp[hgg])) (H.sub fun i hi=>by simp[hi]) hr
    |cons i0 is0=>
    have hav:e.av t=e2.av t:=by
     have:=H.read (i:=i0) (by simp) (htr i0 (by simp))
     simp only[Env.av,this]
    generalize hiseq:i0:: is0=is at *;have hoff:Off (e2.av t) want->(aC (e2.av t) want (cG ops is gs).length (gu cx base ops true is e2 fun e'=>bif (cG ops is gs).all (fun t=>jV (e'.get t))then M.pure ((cG ops is gs).map e'.av)else M.fail))=M.pure (List.replicate (cG ops is gs).length (.tup [])):=by
     rintro (hq|⟨b,hq,hb⟩)
     ·rw[hq];rfl
     ·rw[hq];simp only[aC,hb,Km]
    have hcase:Off (e2.av t) want\/e2.av t= .bool want:=by
     cases hq:e2.av t with
     |bool b=>
      cases hb:(b== want)with
      |true=>right;simp at hb;rw[hb]
      |false=>exact .inl (.inr ⟨b,rfl,hb⟩)
     |tup vs=>
      cases vs with
      |nil=>exact .inl (.inl rfl)
      |cons v vs=>rw[hq]at hr;exact absurd rfl hr
     |_=>rw[hq]at hr;exact absurd rfl hr
    rcases hcase with ho|hy
    ·rw[hoff ho,ay]at hr |-;obtain⟨e',h1,T,h2⟩:=Bn (base:=base) is e h G (by rw[hav];exact ho);simp only[ae];rw[h1];refine gQ hS gs _ e' k h (fun g hgg=>hg g (by simp[hgg])) (H.close hS T (f:=fun _=>.tup []) ?_ fun s hs=>.inl ?_) hr
     ·exact (List.map_const' ..).symm
     ·refine h2 s ?_;unfold cG at hs;exact (MQ.1 hs).1
    ·rw[hy]at hr |-;simp only[aC,Lb,Kh,ae]at hr |-;rw[pO is e2 _ h G hy]at hr |-;simp only[ae]at hr |-;have hr2:aO cx base ops is e2 h≠.fail:=fun hf=>by rw[hf]at hr;exact hr rfl
     rcases H.run (base:=base) (cx:=cx) is (fun i hi=>by simp[hi]) h hr2 with⟨e2',e',h',h1,h2,H'⟩|⟨v,h',h1,h2⟩
     ·rw[h1]at hr |-;rw[h2];simp only at hr |-;have T2:=kX is e2 e2' h h' G hy h1;have T:=kX is e e' h h' G (by rw[hav];exact hy) h2;cases hv:(cG ops is gs).all (fun t=>jV (e2'.get t))with
      |false=>rw[hv]at hr;exact absurd rfl hr
      |true=>
       rw[hv]at hr;simp only[Kh,M.pure]at hr |-;refine gQ hS gs _ e' k h' (fun g hgg=>hg g (by simp[hgg])) (H.close hS T (f:=e2'.av) rfl fun s hs=>?_) hr;have hsd:s∈ck ops is:=by unfold cG at hs;exact (MQ.1 hs).1
       have hval:=AZ (KA.1 hv s hs) (T2.ng s hsd);rcases H'.get s with h3|⟨h3,h4,h5⟩
       ·left;rw[<- h3];exact hval
       ·right;exact⟨by simp only[Env.av,h3];rfl,h4,fun i hi=>h5 i (by simp[hi])⟩
     ·rw[h1,h2];exact .inr ⟨v,h',rfl,rfl⟩
end
end Go.Av
namespace Go.Av
variable [Dr]
omit [Dr]in
theorem il(acc:List Nat):∀(es:List Edge)(x:Nat),(gD acc es).testBit x=true↔∃e∈es,Region.binds .any e=true/\(e.on=x\/(acc.getD e.on 0).testBit x=true)
 |[],x=>by simp[gD]
 | e :: es,x=>by
  simp only[gD];cases hb:Region.binds .any e with
  | false=>
   simp only[Km,il acc es x,KI];constructor
   ·rintro⟨e',he,h⟩;exact⟨e',.inr he,h⟩
   ·rintro⟨e',rfl|he,h⟩
    ·rw[hb]at h;exact absurd h.1 (by simp)
    ·exact⟨e',he,h⟩
  | true=>
   simp only[Kh,Nat.testBit_or,Lp,il acc es x,KI,Nat.testBit_two_pow,KQ];constructor
   ·rintro ((⟨e',he,h⟩|h)|h)
    ·exact⟨e',.inr he,h⟩
    ·exact⟨e,.inl rfl,hb,.inl h⟩
    ·exact⟨e,.inl rfl,hb,.inr h⟩
   ·rintro⟨e',rfl|he,h1,h2⟩
    ·rcases h2 with h2|h2
     ·exact .inl (.inr h2)
     ·exact .inr h2
    ·exact .inl (.inl ⟨e',he,h1,h2⟩)
omit [Dr]in
theorem pf:∀(os:List Oper)(acc:List Nat),∃r:List Nat,tJ os acc=acc++r/\r.length=os.length/\∀(k:Nat)(o:Oper),os[k]? = some o->r[k]? = some (gD (acc++r.take k) o.after.toList)
 |[],acc=>⟨[],by simp[tJ],rfl,by simp⟩
 | o:: os,acc=>by
  obtain⟨r,h1,h2,h3⟩:=pf os (acc++[gD acc o.after.toList]);refine⟨gD acc o.after.toList:: r,by simp[tJ,h1],by simp[h2],fun k o' ho=>?_⟩;cases k with
  |zero=>simp at ho;subst ho;simp
  |succ k=>
   simp only[KS,List.take_succ_cons]at ho |-;rw[h3 k o' ho];simp
section
variable {ops:Array Oper}
def iM(ops:Array Oper):List Nat:=tJ ops.toList []
omit [Dr]in
theorem yt{j:Nat}{o:Oper}(ho:ops[j]? = some o):(iM ops).length=ops.size/\(iM ops).getD j 0=gD ((iM ops).take j) o.after.toList:=by
 obtain⟨r,h1,h2,h3⟩:=pf ops.toList [];have h4:iM ops=r:=by unfold iM;rw[h1];simp
 rw[h4];refine⟨by simp[h2],?_⟩
 have:=h3 j o (by simpa using ho)
 rw[KO,this];simp
omit [Dr]in
theorem wE{listed:Nat->Prop}(hcl:∀(j:Nat)(o:Oper),ops[j]? = some o->listed j->∀e∈o.after.toList,Region.binds .any e=true->listed e.on):
  ∀(j:Nat)(o:Oper),ops[j]? = some o->(∀e∈o.after.toList,Region.binds .any e=true->listed e.on)->∀x,((iM ops).getD j 0).testBit x=true->listed x:=by
 intro j
 induction j using Nat.strongRecOn with
 | _ j ih=>
  intro o ho hl x hx;obtain⟨hlen,hget⟩:=yt ho;rw[hget,il]at hx;obtain⟨e,he,hb,hx|hx⟩:=hx
  ·rw[<- hx];exact hl e he hb
  ·by_cases hj:e.on<j
   ·have hjs:j<ops.size:=(KT.1 ho).1;have hos:ops[e.on]? = some ops[e.on]:=Lm (by omega);have h1:((iM ops).take j).getD e.on 0=(iM ops).getD e.on 0:=by
     rw[KO,KO,KC,Kn hj]
    rw[h1]at hx;exact ih e.on hj _ hos (hcl e.on _ hos (hl e he hb)) x hx
   ·rw[KO,KC,if_neg hj]at hx;simp at hx
def xQ(cx:Cx)(ops:Array Oper)(i j:Nat):Prop:=((iM ops).getD i 0).testBit j=false/\(((iM ops).getD j 0).testBit i=true\/kG cx ops i j=true)
omit [Dr]in
theorem mn{cx:Cx}:∀ {l:List Nat},iv cx ops (iM ops) l=true->l.Pairwise (xQ cx ops)/\∀i∈l,((iM ops).getD i 0).testBit i=false
 |[],_=>⟨.nil,by simp⟩
 |i:: l,h=>by
  simp only[iv,Kj,Le,KA,Lp]at h;obtain⟨⟨h1,h2⟩,h3⟩:=h;obtain⟨h4,h5⟩:=mn h3;refine⟨.cons (fun j hj=>h2 j hj) h4,fun k hk=>?_⟩;simp only[KI]at hk;rcases hk with rfl|hk
  ·exact h1
  ·exact h5 k hk
omit [Dr]in
theorem iQ:∀ {l:List Nat},distinct l=true->l.Nodup
 |[],_=>.nil
 |i:: l,h=>by
  simp only[distinct,Kj,Le]at h;refine MP.2 ⟨fun hi=>?_,iQ h.2⟩;rw[(e8 _ _).2 hi]at h;exact Bool.noConfusion h.1
variable {P:Program} {cx:Cx} {c:Entry} {N base:Nat}
theorem rQ(hT:TOK P cx.T)(hC:ci P cx.own cx.call)(hI:IsoPure cx)(hO:OpsOk N cx ops)(hS:Small ops)(hbit:∀i x,((iM ops).getD i 0).testBit x=true->x<ops.size)(hself:∀i,i<ops.size->((iM ops).getD i 0).testBit i=false){Q:Exit->Act->World->Prop}:∀(n:Nat)(rest:List Nat)(listed:Array Bool)(D:List Nat)(e:Env)(h:Hp)(a:Act)(w:World),rest.length=n->listed.size=ops.size->rest.Nodup->
  (∀i,i∈rest↔i<ops.size/\listed.getD i true=false)->(∀i∈rest,i ∉ D)->(∀i∈D,i<ops.size)->
  (∀(j:Nat)(o:Oper),ops[j]? = some o->listed.getD j false=true->∀e∈o.after.toList,Region.binds .any e=true->listed.getD e.on false=true)->rest.Pairwise (xQ cx ops)->
  dU c N (UD base D) e h a w->aO cx base ops rest e h≠.fail->
  (∀e0 e' h' a' w',aO cx base ops rest e h= .ok e0 h'->EqE e0 e'->dU c N (UR base ops.size) e' h' a' w'->a'.defers=a.defers->Q .normal a' w')->
  (∀pv h' v w' a',aO cx base ops rest e h= .pan pv h'->jM c pv h' v w'->a'.defers=a.defers->Q (.panic [{ v,recovered:=false }]) a' w')->wpAny P .any ops Q n listed a w
 |0,rest,listed,D,e,h,a,w,hlen,hsz,hnd,hmem,hdis,hD,hcl,hpw,H,hr,hn,hp=>by
  have:rest=[]:=Kq hlen;subst this;refine⟨?_,hn e e h a w rfl (.refl e) (H.wider (BR hD)) rfl⟩;refine List.eq_nil_iff_forall_not_mem.2 fun i hi=>?_;obtain⟨h0,o,ho,_⟩:=mem_ready.1 hi
  have:=(hmem i).2 ⟨(KT.1 ho).1,h0⟩
  simp at this
 | n + 1,rest,listed,D,e,h,a,w,hlen,hsz,hnd,hmem,hdis,hD,hcl,hpw,H,hr,hn,hp=>by
  have hgd:∀i,i<ops.size->listed.getD i true=listed.getD i false:=fun i hi=>by
   rw[KJ,KJ,Lm (by omega)];rfl
  refine⟨fun hemp=>?_,fun i hi=>?_⟩
  ·exfalso;cases rest with
   |nil=>simp at hlen
   | cons r0 tl=>
    have hr0:=(hmem r0).1 (by simp);have hor:ops[r0]? = some ops[r0]:=Lm hr0.1;have:r0∈Region.ready .any ops listed:=by
     refine mem_ready.2 ⟨hr0.2,_,hor,fun ed hed hb=>?_⟩;have hbt:((iM ops).getD r0 0).testBit ed.on=true:=by
      rw[(yt hor).2,il];exact⟨ed,by simpa using hed,hb,.inl rfl⟩
     have hlt:=hbit r0 ed.on hbt;cases hl:listed.getD ed.on false with
     |true=>rfl
     | false=>
      have hin:=(hmem ed.on).2 ⟨hlt,by rw[hgd _ hlt];exact hl⟩;simp only[KI]at hin;rcases hin with hin|hin
      ·rw[hin]at hbt;rw[hself r0 hr0.1]at hbt;cases hbt
      ·have:=(List.pairwise_cons.1 hpw).1 ed.on hin
       rw[this.1]at hbt;cases hbt
    rw[hemp]at this;simp at this
  ·obtain⟨h0,o,ho,hall⟩:=mem_ready.1 hi;have hlt:i<ops.size:=(KT.1 ho).1;have hin:=(hmem i).2 ⟨hlt,h0⟩;obtain⟨p,q,rfl⟩:=List.append_of_mem hin;have hnd':=hnd;rw[List.nodup_append]at hnd';have hni:i ∉ p++q:=by
    intro hm;rw[KG]at hm;rcases hm with hm|hm
    ·exact hnd'.2.2 i hm i (by simp) rfl
    ·exact (MP.1 hnd'.2.1).1 hm
   have hclo:=wE (ops:=ops) (listed:=fun j=>listed.getD j false=true) (fun j o ho hj ed hed hb=>hcl j o ho hj ed hed hb) i o ho (fun ed hed hb=>hall ed (by simpa using hed) hb);have hfront:∀x∈p,kG cx ops x i=true/\x≠i:=by
    intro x hx;have hpr:=(List.pairwise_append.1 hpw).2.2 x hx i (by simp);refine⟨?_,fun hxi=>hni (by rw[<- hxi];simp[hx])⟩;rcases hpr.2 with h1|h1
    ·have hxl:=hclo x h1;have hxr:=(hmem x).1 (by simp[hx]);rw[hgd x hxr.1]at hxr;rw[hxr.2]at hxl;cases hxl
    ·exact h1
   have hRE:=CN (base:=base) hI hS q p hfront e h;have hr':aO cx base ops (i:: (p++q)) e h≠.fail:=by
    intro hf;rw[hf]at hRE;cases hx:aO cx base ops (p++i:: q) e h with
    |fail=>exact hr hx
    |ok e0 h0=>rw[hx]at hRE;obtain⟨_,h1,_⟩:=hRE;cases h1
    |pan v h0=>rw[hx]at hRE;cases hRE
   simp only[aO,ae]at hr';have hstep:∀ {r:R Env},aO cx base ops (i:: (p++q)) e h=r->aO cx base ops (i:: (p++q)) e h=r:=fun h=>h;simp only[aO,ae]at hRE;refine oE hT hC hO (hdis i hin) H (fun hf=>by rw[hf]at hr';exact hr' rfl) (fun e1 h1 a1 w1 hst hs hdf=>?_) (fun pv h1 v w1 hst hps=>?_)
   ·rw [hst]at hr' hRE;simp only at hr' hRE;refine rQ hT hC hI hO hS hbit hself n (p++q) (listed.setIfInBounds i true) (i:: D) e1 h1 a1 w1 ?_ (by simp[hsz]) ?_ (fun k=>?_) (fun k hk=>?_) (fun k hk=>?_) (fun k o' ho' hk ed hed hb=>?_) ?_ hs hr' (fun e0 e' h' a' w' hok heq hsat hdf'=>?_) (fun pv h' v w' a' hok hps hdf'=>?_)
    ·simp only[KH,K4]at hlen |-;omega
    ·exact hnd.sublist (List.Sublist.append (List.Sublist.refl p) (List.sublist_cons_self i q))
    ·have hset:k≠i->(listed.setIfInBounds i true).getD k true=listed.getD k true:=fun hk=>by
      rw[KJ,KJ,LS (Mz hk)]
     constructor
     ·intro hk;have hki:k≠i:=fun h=>hni (h▸hk);rw[hset hki];exact (hmem k).1 (by
       simp only[KG,KI]at hk |-;rcases hk with hk|hk
       ·exact .inl hk
       ·exact .inr (.inr hk))
     ·rintro⟨h1,h2⟩;have hki:k≠i:=by
       rintro rfl;rw[KJ,Array.getElem?_setIfInBounds_self]at h2;rw[Kn (by omega)]at h2;simp at h2
      rw[hset hki]at h2
      have:=(hmem k).2 ⟨h1,h2⟩
      simp only[KG,KI]at this |-;rcases this with h|h|h
      ·exact .inl h
      ·exact absurd h hki
      ·exact .inr h
    ·simp only[KI,not_or];refine⟨fun hki=>hni (hki▸hk),hdis k ?_⟩;simp only[KG,KI]at hk |-;rcases hk with hk|hk
     ·exact .inl hk
     ·exact .inr (.inr hk)
    ·simp only[KI]at hk;rcases hk with rfl|hk
     ·exact hlt
     ·exact hD k hk
    ·have hmono:∀x,listed.getD x false=true->(listed.setIfInBounds i true).getD x false=true:=fun x hx=>getD_set_true hx;by_cases hki:k=i
     ·subst hki;rw[ho]at ho';cases ho';exact hmono _ (hall ed (by simpa using hed) hb)
     ·refine hmono _ (hcl k o' ho' ?_ ed hed hb);rw[KJ,LS (Mz hki),<- KJ]at hk;exact hk
    ·exact hpw.sublist (List.Sublist.append (List.Sublist.refl p) (List.sublist_cons_self i q))
    ·rw[hok]at hRE;cases hx:aO cx base ops (p++i:: q) e h with
     |fail=>exact absurd hx hr
     |ok ex hx'=>
      rw[hx]at hRE;obtain⟨e0',h2,h3⟩:=hRE;cases h2;exact hn ex e' _ a' w' hx (h3.trans heq) hsat (hdf'.trans hdf)
     |pan v h0=>rw[hx]at hRE;cases hRE
    ·rw[hok]at hRE;cases hx:aO cx base ops (p++i:: q) e h with
     |fail=>exact absurd hx hr
     |ok ex hx'=>rw[hx]at hRE;obtain⟨_,h1,_⟩:=hRE;cases h1
     |pan v0 h0=>
      rw[hx]at hRE;cases hRE;exact hp _ _ v w' a' hx hps (hdf'.trans hdf)
   ·rw[hst]at hRE;cases hx:aO cx base ops (p++i:: q) e h with
    |fail=>exact absurd hx hr
    |ok ex hx'=>rw[hx]at hRE;obtain⟨_,h1,_⟩:=hRE;cases h1
    |pan v0 h0=>
     rw[hx]at hRE;cases hRE;exact hp _ _ v w1 a hx hps rfl
end
end Go.Av
namespace Go.Av
variable [Dr]
structure IsoCall (cx:Cx):Prop where
 iso:∀f args,cx.iso f=true->∃x:Option (Bool×AV),∀h,cx.call f args h=(match x with|none=>.fail|some (true,v)=>.ok v h|some (false,v)=>.pan v h)
 nw:∀f args,cx.nw f=true->tG (cx.call f args)
omit [Dr]in
theorem IsoCall.draw{cx:Cx}(h:IsoCall cx):IsoPure (dS cx):=by
 refine⟨?_,fun f args hf=>?_⟩
 case refine_2=>
  have hn:=h.nw f args hf;show tG (bif cx.iso f then cX (cx.call f args)else cx.call f args);cases cx.iso f with
  |false=>exact hn
  |true=>
   intro hp v h' hh;simp only[Kh,cX]at hh;cases hq:cx.call f args hp with
   |ok a b=>rw[hq]at hh;cases hh;exact hn _ _ _ hq
   |pan a b=>rw[hq]at hh;cases hh
   |fail=>rw[hq]at hh;cases hh
 intro f args hf;have hf':cx.iso f=true:=hf;obtain⟨x,hx⟩:=h.iso f args hf';refine⟨match x with|some (true,v)=>some v|_=>none,?_⟩;show (bif cx.iso f then cX (cx.call f args)else cx.call f args)=_;rw[hf'];funext hp;simp only[Kh,cX,hx];rcases x with _|⟨b,v⟩
 ·rfl
 ·cases b<;>rfl
theorem ci.draw{P:Program}{cx:Cx}(h:ci P cx.own cx.call):ci P (dS cx).own (dS cx).call:=by
 intro f args hp S β w vs hr hg hw hh hv;have hcall:(dS cx).call f args hp=(bif cx.iso f then cX (cx.call f args) hp else cx.call f args hp):=by
  show (bif cx.iso f then cX (cx.call f args)else cx.call f args) hp=_;cases cx.iso f<;>rfl
 rw[hcall]at hr |-
 have key:∀r,r=cx.call f args hp->r≠.fail->Calls P f vs.toArray w (d7 ((dS cx).own f) S β hp w r)/\(P.funcs[f]?).any (fun fn=>fn.body.isSome&&!(fn.name== "runtime.NumGoroutine"))=true:=by
  intro r hr1 hr2;subst hr1;exact h f args hp S β w vs hr2 hg hw hh hv
 cases hi:cx.iso f with
 |false=>rw[hi]at hr;exact key _ rfl hr
 |true=>
  rw[hi]at hr;simp only[Kh,cX]at hr |-;cases hx:cx.call f args hp with
  |ok v hq=>rw[hx]at hr;exact key _ hx.symm (by simp)
  |pan v hq=>rw[hx]at hr;exact absurd rfl hr
  |fail=>rw[hx]at hr;exact absurd rfl hr
def iF(c:Entry)(N:Nat)(e:Env)(h:Hp)(a:Act)(w:World):Prop:=dU c N (fun g=>g<e.nx*1000) e h a w
theorem dU.rel{c:Entry}{N:Nat}{U:Nat->Prop}{e2 e:Env}{h:Hp}{a:Act}{w:World}{ops:Array Oper}(H:dU c N U e h a w)(R:Rel ops [] e2 e):dU c N U e2 h a w:=by
 obtain⟨S,β,γ,lam,ω,F⟩:=H;refine⟨S,β,γ,lam,ω,F.weak (fun t=>?_) (fun t g hg=>?_) (fun g z hz=>by rw[R.al]at hz;exact hz) (fun B n hB=>by rw[R.lb]at hB;exact hB)⟩
 ·rcases R.get t with h|⟨h1,h2,_⟩
  ·exact .inl (by rw[h])
  ·exact .inr ⟨by rw[h1];rfl,h2⟩
 ·rcases R.get t with h|⟨h1,_⟩
  ·rw[h]at hg;exact hg
  ·rw[h1]at hg;cases hg
theorem dU.eqE{c:Entry}{N:Nat}{U:Nat->Prop}{e2 e:Env}{h:Hp}{a:Act}{w:World}(H:dU c N U e h a w)(R:EqE e e2):dU c N U e2 h a w:=by
 obtain⟨S,β,γ,lam,ω,F⟩:=H;exact⟨S,β,γ,lam,ω,F.weak (fun t=>.inl (by rw[R.get])) (fun t g hg=>by rw[R.get]at hg;exact hg) (fun g z hz=>by rw[R.al]at hz;exact hz) (fun B n hB=>by rw[R.lb]at hB;exact hB)⟩
theorem dU.nx{c:Entry}{N:Nat}{U:Nat->Prop}{e:Env}{h:Hp}{a:Act}{w:World}(n:Nat)(H:dU c N U e h a w):dU c N U { e with nx:=n } h a w:=by
 obtain⟨S,β,γ,lam,ω,F⟩:=H;exact⟨S,β,γ,lam,ω,F.weak (fun t=>.inl rfl) (fun t g hg=>hg) (fun g z hz=>hz) (fun B n hB=>hB)⟩
section
variable {P:Program} {cx:Cx} {c:Entry} {e:Env} {h:Hp} {a:Act} {w:World} {ops:Array Oper} {id:Nat}
omit [Dr]in
theorem oS{n:Nat}(hn:n<=1000)(hd:gL n ops=true)(hk:∀p,xg (bW cx.ann.kinds p .L)=true->p<n):OpsOk n cx ops/\Small ops:=by
 unfold gL at hd;rw[Array.all_eq_true_iff_forall_mem]at hd;have h1:∀(i:Nat)(o:Oper),ops[i]? = some o->(∀t,o.dst=some t->t<n)/\∀t∈gF o,t<1000:=by
  intro i o ho
  have:=hd o (Array.mem_of_getElem? ho)
  simp only[Kj,KA,KQ]at this;refine⟨fun t ht=>?_,this.2⟩;have h2:=this.1;rw[ht]at h2;simpa using h2
 refine⟨⟨fun i o ho=>(h1 i o ho).1,fun i o ho x hx t hxt=>(h1 i o ho).2 t ?_,hk⟩,⟨fun i o ho t ht=>KR ((h1 i o ho).1 t ht) hn,fun i o ho=>(h1 i o ho).2⟩⟩;subst hxt;exact Md.2 ⟨_,hx,rfl⟩
theorem xB{ρ:Type}(hT:TOK P cx.T)(hC:ci P cx.own cx.call)(hI:IsoCall cx)(hk:∀p,xg (bW cx.ann.kinds p .L)=true->p<cx.nt){draw:Bool}{k:Env->M ρ}(H:iF c cx.nt e h a w)(hr:l7 cx id ops draw e k h≠.fail){Q:Exit->Act->World->Prop}(hn:∀e' h' a' w',l7 cx id ops draw e k h=k e' h'->iF c cx.nt e' h' a' w'->a'.defers=a.defers->Q .normal a' w')(hp:∀pv h' v w' a',l7 cx id ops draw e k h= .pan pv h'->jM c pv h' v w'->a'.defers=a.defers->Q (.panic [{ v,recovered:=false }]) a' w'):
  (Code.region id ops draw).wp P Q a w:=by
 have hN:cx.nt<=1000:=by obtain⟨S,β,γ,lam,ω,F⟩:=H;exact F.tsz.2
 have H0:dU c cx.nt (UD e.nx []) e h a w:=H.wider fun g hg=>.inl hg;unfold l7 at hr hn hp;cases hds:gL cx.nt ops with
 |false=>rw[hds]at hr;exact absurd rfl hr
 | true=>
  obtain⟨hO,hS⟩:=oS (cx:=cx) hN hds hk;rw[hds]at hr hn hp;simp only[Kh]at hr hn hp;cases draw with
  | false=>
   simp only[Km]at hr hn hp;obtain⟨hfl,hgs⟩:=gC ops (List.range ops.size);refine wp_region (pQ hT hC hO (List.range ops.size) [] e h a w List.nodup_range (by simp) H0 ?_ ?_ ?_)
   all_goals
    have hseq:=gQ (cx:=cx) (base:=e.nx) hS (cO ops (List.range ops.size)) e e _ h hgs (.refl ops _ e) hr;rw[hfl]at hseq
   ·rcases hseq with⟨_,_,_,_,h2,_⟩|⟨_,_,_,h2⟩<;>rw[h2]<;>simp
   ·intro e' h' a' w' hok hsat hdf;rcases hseq with⟨e2',e'',h'',h1,h2,hR⟩|⟨_,_,_,h2⟩
    ·rw[h2]at hok;cases hok;refine hn _ _ a' w' h1 (dU.nx _ ((hsat.wider (BR ?_)).rel hR)) hdf;intro i hi;simpa using hi
    ·rw[h2]at hok;cases hok
   ·intro pv h' v w' a' hok hps hdf;rcases hseq with⟨e2',e'',h'',h1,h2,hR⟩|⟨_,_,h1,h2⟩
    ·rw[h2]at hok;cases hok
    ·rw[h2]at hok;cases hok;exact hp _ _ v w' a' h1 hps hdf
  | true=>
   simp only[Kh]at hr hn hp;generalize pM cx id ops.size=ord at hr hn hp;cases hdo:jT cx ops ord with
   |false=>rw[hdo]at hr;exact absurd rfl hr
   | true=>
    rw[hdo]at hr hn hp;simp only[Kh]at hr hn hp;simp only[jT,zv,Kj,KA,KQ]at hdo;obtain⟨⟨⟨⟨⟨hlen,hmem⟩,hdist⟩,hlt⟩,hbits⟩,hpairs⟩:=hdo;have hlen':ord.length=ops.size:=Ko hlen;obtain⟨hpw,hself⟩:=mn (cx:=cx) (ops:=ops) hpairs;have hpw':ord.Pairwise (xQ (dS cx) ops):=hpw;have hO':OpsOk cx.nt (dS cx) ops:=⟨hO.dst,hO.src,hO.kin⟩;obtain⟨hfl,hgs⟩:=gC ops ord;have hseq:=gQ (cx:=dS cx) (base:=e.nx) hS (cO ops ord) e e _ h hgs (.refl ops _ e) hr;rw[hfl]at hseq;refine wp_region_draw fun t=>?_;have hsch:Region.schedule (P.follows .mixedOrders) ops t=Region.linearise .any ops t:=by
     simp only[Region.schedule,hT.mix,Bool.true_or,Kt]
    rw[hsch];have hmem':∀i,i∈ord↔i<ops.size:=fun i=>⟨fun hi=>hlt i hi,fun hi=>(e8 _ _).1 (hmem i (by simpa using hi))⟩;refine wpAny_sound ops.size t _ a _ (rQ (cx:=dS cx) (c:=c) (N:=cx.nt) (base:=e.nx) hT hC.draw hI.draw hO' hS ?_ ?_ ops.size ord (Array.replicate ops.size false) [] e h a w.drew hlen' (by simp) (iQ hdist) ?_ (by simp) (by simp) ?_ hpw' ?_ ?_ ?_ ?_)
    ·intro i x hx;rcases KD x ops.size with h'|h'
     ·exact h'
     ·have hm:(iM ops).getD i 0<2 ^ ops.size:=by
       rw[KO];cases hi:(iM ops)[i]? with
       |none=>simp;exact Nat.pow_pos (by omega)
       |some m=>exact hbits m (K8 hi)
      rw[Nat.testBit_lt_two_pow (KR hm (Nat.pow_le_pow_right (by omega) h'))]at hx;cases hx
    ·exact fun i hi=>hself i ((hmem' i).2 hi)
    ·intro i;rw[hmem'];constructor
     ·intro hi;refine⟨hi,?_⟩;rw[KJ,ML,Kn hi];rfl
     ·exact fun hi=>hi.1
    ·intro j o ho hj;exfalso;rw[KJ,ML]at hj;split at hj<;>simp at hj
    ·obtain⟨S,β,γ,lam,ω,F⟩:=H0;exact⟨S,β,γ,lam,ω,F.drew⟩
    ·rcases hseq with⟨_,_,_,_,h2,_⟩|⟨_,_,_,h2⟩<;>rw[h2]<;>simp
    ·intro e0 e' h' a' w' hok heq hsat hdf;rcases hseq with⟨e2',e'',h'',h1,h2,hR⟩|⟨_,_,_,h2⟩
     ·rw[h2]at hok;cases hok;exact hn _ _ a' w' h1 (dU.nx _ ((hsat.eqE heq.symm).rel hR)) hdf
     ·rw[h2]at hok;cases hok
    ·intro pv h' v w' a' hok hps hdf;rcases hseq with⟨e2',e'',h'',h1,h2,hR⟩|⟨_,_,h1,h2⟩
     ·rw[h2]at hok;cases hok
     ·rw[h2]at hok;cases hok;exact hp _ _ v w' a' h1 hps hdf
end
end Go.Av
namespace Go.Av
variable [Dr]
omit [Dr]in
theorem iu{e:Env}:∀(l:List (Nat×Option Nat))(used:List Nat)(vs:List AV),fa e l used=some vs->vs.length=l.length/\
  (∀(i:Nat)(t:Nat)(z:Option Nat),l[i]? = some (t,z)->∃a,vs[i]? = some a/\(e.get t).v= .val a/\∀sz,z=some sz->∃g z0,(e.get t).g=some g/\aF e.al g=some z0/\(z0=none\/z0=some sz)/\g ∉ used)/\
  ∀(i j:Nat)(t t' sz sz':Nat),i<j->l[i]? = some (t,some sz)->l[j]? = some (t',some sz')->(e.get t).g≠(e.get t').g
 |[],used,vs,h=>by
  simp only[fa,Kg]at h;subst h;exact⟨rfl,by simp,by simp⟩
 | (t,none):: r,used,vs,h=>by
  simp only[fa]at h;split at h
  ·rename_i a ha;split at h
   ·rename_i vs' hvs;simp only[Kg]at h;subst h;obtain⟨h1,h2,h3⟩:=iu r used vs' hvs;refine⟨by simp[h1],fun i t' z hi=>?_,fun i j t1 t2 sz1 sz2 hij hi hj=>?_⟩
    ·cases i with
     |zero=>
      simp only[Ku,Kg,KZ]at hi;obtain⟨rfl,rfl⟩:=hi;exact⟨a,rfl,ha,fun sz hsz=>by cases hsz⟩
     |succ i=>simpa using h2 i t' z (by simpa using hi)
    ·cases i with
     |zero=>simp at hi
     |succ i=>
      cases j with
      |zero=>omega
      |succ j=>exact h3 i j t1 t2 sz1 sz2 (by omega) (by simpa using hi) (by simpa using hj)
   ·cases h
  ·cases h
 | (t, some sz):: r,used,vs,h=>by
  simp only[fa]at h;split at h
  ·rename_i a g ha hg;split at h
   ·cases h
   ·rename_i z0 hz0;have hcond:qY z0 (some sz)=true/\dY used g=false/\(match fa e r (g:: used)with|some vs=>some (a:: vs)|none=>none)=some vs:=by
     cases hm:dY used g with
     | true=>
      rw[hm]at h;cases z0 with
      |none=>cases h
      |some n=>
       simp only at h;cases hb:Nat.beq n sz<;>rw[hb]at h<;>cases h
     | false=>
      rw[hm]at h;cases z0 with
      |none=>exact⟨rfl,rfl,h⟩
      |some n=>
       simp only at h;cases hb:Nat.beq n sz with
       |true=>rw[hb]at h;exact⟨hb,rfl,h⟩
       |false=>rw[hb]at h;cases h
    obtain⟨hc1,hc2,h⟩:=hcond;have hc:=And.intro hc1 hc2
    ·split at h
     ·rename_i vs' hvs;simp only[Kg]at h;subst h;have hgu:g ∉ used:=fun hm=>by
       rw[(e8 _ _).2 hm]at hc;exact Bool.noConfusion hc.2
      have hz:z0=none\/z0=some sz:=by
       cases z0 with
       |none=>exact .inl rfl
       |some n=>exact .inr (by rw[Ko hc.1])
      obtain⟨h1,h2,h3⟩:=iu r (g:: used) vs' hvs;refine⟨by simp[h1],fun i t' z hi=>?_,fun i j t1 t2 sz1 sz2 hij hi hj=>?_⟩
      ·cases i with
       |zero=>
        simp only[Ku,Kg,KZ]at hi;obtain⟨rfl,rfl⟩:=hi;exact⟨a,rfl,ha,fun sz' hsz=>by cases hsz;exact⟨g,z0,hg,hz0,hz,hgu⟩⟩
       |succ i=>
        obtain⟨a',k1,k2,k3⟩:=h2 i t' z (by simpa using hi);refine⟨a',by simpa using k1,k2,fun sz' hsz=>?_⟩;obtain⟨g',z',m1,m2,m3,m4⟩:=k3 sz' hsz;exact⟨g',z',m1,m2,m3,fun hm=>m4 (by simp[hm])⟩
      ·cases i with
       | zero=>
        cases j with
        |zero=>omega
        |succ j=>
         simp only[Ku,Kg,KZ]at hi;obtain⟨rfl,_⟩:=hi;obtain⟨a',k1,k2,k3⟩:=h2 j t2 (some sz2) (by simpa using hj);obtain⟨g',z',m1,m2,m3,m4⟩:=k3 sz2 rfl;rw[hg,m1];intro hh;simp only[Kg]at hh;exact m4 (by simp[hh])
       |succ i=>
        cases j with
        |zero=>omega
        |succ j=>exact h3 i j t1 t2 sz1 sz2 (by omega) (by simpa using hi) (by simpa using hj)
     ·cases h
  ·cases h
omit [Dr]in
theorem iE(vs:List AV)(r:List (Nat×Ent))(t:Nat):∀(l:List (Nat×Option Nat))(k:Nat),
  (∃(i:Nat)(z:Option Nat),l[i]? = some (t,z)/\bC (cd vs k l++r) t=⟨.val (nth vs (k+i)),z.map fun _=>k+i⟩)\/
  ((∀(i:Nat)(z:Option Nat),l[i]? ≠some (t,z))/\bC (cd vs k l++r) t=bC r t)
 |[],k=>.inr ⟨by simp,rfl⟩
 | (s,z):: l,k=>by
  have hh:cd vs k ((s,z):: l)=(s,⟨.val (nth vs k),z.map fun _=>k⟩):: cd vs (k+1) l:=by cases z<;>rfl
  rw[hh,KW,bV];by_cases hs:s=t
  ·subst hs;rw[Kn rfl];exact .inl ⟨0,z,rfl,rfl⟩
  ·rw[if_neg hs];rcases iE vs r t l (k+1)with⟨i,z',h1,h2⟩|⟨h1,h2⟩
   ·refine .inl ⟨i+1,z',by simpa using h1,?_⟩;rw[h2,show k+1+i=k+(i+1) by omega]
   ·refine .inr ⟨fun i z' hi=>?_,h2⟩;cases i with
    |zero=>simp at hi;exact hs hi.1
    |succ i=>exact h1 i z' (by simpa using hi)
omit [Dr]in
theorem eX:∀(l:List (Nat×Option Nat))(k g:Nat)(y:Option Nat),aF (hJ k l) g=some y->∃(i t sz:Nat),l[i]? = some (t,some sz)/\g=k+i/\y=some sz
 |[],k,g,y,h=>by simp[hJ,aF]at h
 |(s,none):: l,k,g,y,h=>by
  obtain⟨i,t,sz,h1,h2,h3⟩:=eX l (k+1) g y h;exact⟨i+1,t,sz,by simpa using h1,by omega,h3⟩
 | (s,some n):: l,k,g,y,h=>by
  simp only[hJ,bF]at h;split at h
  ·rename_i hk;simp only[Kg]at h;exact⟨0,s,n,rfl,by omega,h.symm⟩
  ·obtain⟨i,t,sz,h1,h2,h3⟩:=eX l (k+1) g y h;exact⟨i+1,t,sz,by simpa using h1,by omega,h3⟩
omit [Dr]in
theorem lD(t:Nat):∀(l:List (Nat×Nat×Nat)),(∃B off,(t,B,off)∈l/\bC (l.map fun x=>(x.1,(⟨.loc x.2.1 x.2.2,none⟩:Ent))) t=⟨.loc B off,none⟩)\/bC (l.map fun x=>(x.1,(⟨.loc x.2.1 x.2.2,none⟩:Ent))) t=Ent.none
 |[]=>.inr rfl
 | (s,B,off):: l=>by
  rw[Lc,bV];by_cases hs:s=t
  ·subst hs;rw[Kn rfl];exact .inl ⟨B,off,by simp,rfl⟩
  ·rw[if_neg hs];rcases lD t l with⟨B',off',h1,h2⟩|h
   ·exact .inl ⟨B',off',by simp[h1],h2⟩
   ·exact .inr h
omit [Dr]in
theorem nR{e:Env}:∀ {l:List (Nat×Nat×Nat)},nQ e l=true->∀t B off,(t,B,off)∈l->(e.get t).v= .loc B off
 |[],_,t,B,off,h=>by simp at h
 | (s,B0,off0):: l,h,t,B,off,hm=>by
  simp only[nQ,Kj]at h;simp only[KI,KZ]at hm;rcases hm with⟨rfl,rfl,rfl⟩|hm
  ·have h1:=h.1;split at h1
   ·rename_i B' off' hv;simp only[Kj]at h1;rw[hv,Ko h1.1,Ko h1.2]
   ·cases h1
  ·exact nR h.2 t B off hm
omit [Dr]in
theorem pC{e:Env}:∀ {l:List (Nat×Nat)},sI e l=true->∀B n,be l B=some n->be e.lb B=some n
 |[],_,B,n,h=>by simp[be]at h
 | (B0,n0):: l,h,B,n,hm=>by
  simp only[sI,Kj]at h;rw[db]at hm;split at hm
  ·rename_i hB;subst hB;simp only[Kg]at hm;subst hm;have h1:=h.1;split at h1
   ·rename_i m hv;rw[hv,Ko h1]
   ·cases h1
  ·exact pC h.2 B n hm
section
variable {c:Entry} {N:Nat} {e:Env} {h:Hp} {a:Act} {w:World}
open Classical in
theorem q9{ja:JA}{vs:List AV}(H:iF c N e h a w)(hp:pack ja e=some vs):iF c N (unpack ja vs) h a w:=by
 obtain⟨S,β,γ,lam,ω,F⟩:=H;unfold pack at hp;cases hlo:(nQ e ja.locs&&sI e ja.lbs)with
 |false=>rw[hlo]at hp;cases hp
 | true=>
  rw[hlo]at hp;simp only[Kh]at hp;simp only[Kj]at hlo;obtain⟨hlen,hval,hdis⟩:=iu ja.vals [] vs hp
  -- the groups carried
  let gOf:Nat->Option Nat:=fun i=>match ja.vals[i]? with|some (t,some _)=>(e.get t).g|_=>none
  have hg1:∀i t sz,ja.vals[i]? = some (t,some sz)->∃g z0,gOf i=some g/\(e.get t).g=some g/\aF e.al g=some z0/\(z0=none\/z0=some sz):=by
   intro i t sz hi;obtain⟨a',_,_,h3⟩:=hval i t (some sz) hi;obtain⟨g,z0,k1,k2,k3,_⟩:=h3 sz rfl;refine⟨g,z0,?_,k1,k2,k3⟩;show (match ja.vals[i]? with|some (t,some _)=>(e.get t).g|_=>none)=some g;rw[hi];exact k1
  have hg2:∀i j g,gOf i=some g->gOf j=some g->i=j:=by
   have hex:∀i g,gOf i=some g->∃t sz,ja.vals[i]? = some (t,some sz)/\(e.get t).g=some g:=by
    intro i g hi;have hi':(match ja.vals[i]? with|some (t,some _)=>(e.get t).g|_=>none)=some g:=hi;split at hi'
    ·rename_i t sz ht;exact⟨t,sz,ht,hi'⟩
    ·cases hi'
   intro i j g hi hj;obtain⟨t,sz,k1,k2⟩:=hex i g hi;obtain⟨t',sz',m1,m2⟩:=hex j g hj;rcases Nat.lt_trichotomy i j with hlt|heq|hlt
   ·exact absurd (k2.trans m2.symm) (hdis i j t t' sz sz' hlt k1 m1)
   ·exact heq
   ·exact absurd (m2.trans k2.symm) (hdis j i t' t sz' sz hlt m1 k1)
  let γ':Nat->Value:=fun i=>match gOf i with|some g=>γ g|none=>undef
  let ω':Nat->Owner:=fun b=>match ω b with
   |.grp g=>if hx:∃i,gOf i=some g then .grp (Classical.choose hx)else .no
   |o=>o
  have hωg:∀b g i,ω b= .grp g->gOf i=some g->ω' b= .grp i:=by
   intro b g i hb hi;show (match ω b with|.grp g=>if hx:∃i,gOf i=some g then Owner.grp (Classical.choose hx)else .no|o=>o)= .grp i;rw[hb];simp only;have hx:∃i,gOf i=some g:=⟨i,hi⟩;rw[dif_pos hx,hg2 _ _ g (Mn hx) hi]
  have hωo:∀b,(∀g,ω b≠.grp g)->ω' b=ω b:=by
   intro b hb;show (match ω b with|.grp g=>if hx:∃i,gOf i=some g then Owner.grp (Classical.choose hx)else .no|o=>o)=ω b;cases ho:ω b with
   |grp g=>exact absurd ho (hb g)
   |_=>rfl
  have hωn:∀b,ω' b≠.no->ω b≠.no:=by
   intro b hb ho;refine hb ?_;rw[hωo b (fun g hg=>by rw[ho]at hg;cases hg),ho]
  have hωx:∀b g,ω' b= .grp g->∃g',ω b= .grp g':=by
   intro b g hg;cases ho:ω b with
   |grp g'=>exact⟨g',rfl⟩
   |_=>rw[hωo b (fun g' h'=>by rw[ho]at h';cases h'),ho]at hg;cases hg
  -- the slots
  have hget:∀t,(∃(i:Nat)(z:Option Nat)(a':AV),ja.vals[i]? = some (t,z)/\(e.get t).v= .val a'/\(unpack ja vs).get t=⟨.val a',z.map fun _=>i⟩)\/(∃B off,(e.get t).v= .loc B off/\(unpack ja vs).get t=⟨.loc B off,none⟩)\/(unpack ja vs).get t=Ent.none:=by
   intro t;have hu:(unpack ja vs).get t=bC (cd vs 0 ja.vals++ja.locs.map fun x=>(x.1,(⟨.loc x.2.1 x.2.2,none⟩:Ent))) t:=rfl;rcases iE vs (ja.locs.map fun x=>(x.1,(⟨.loc x.2.1 x.2.2,none⟩:Ent))) t ja.vals 0 with⟨i,z,h1,h2⟩|⟨h1,h2⟩
   ·obtain⟨a',k1,k2,_⟩:=hval i t z h1;refine .inl ⟨i,z,a',h1,k2,?_⟩;rw[hu,h2,KF];have:nth vs i=a':=by simp[nth,k1]
    rw[this]
   ·rcases lD t ja.locs with⟨B,off,k1,k2⟩|k
    ·exact .inr (.inl ⟨B,off,nR hlo.1 t B off k1,by rw[hu,h2,k2]⟩)
    ·exact .inr (.inr (by rw[hu,h2,k]))
  have hgg:∀t g,((unpack ja vs).get t).g=some g->∃sz,ja.vals[g]? = some (t,some sz):=by
   intro t g hg;rcases hget t with⟨i,z,a',h1,_,h3⟩|⟨_,_,_,h3⟩|h3
   ·rw[h3]at hg;cases z with
    |none=>simp at hg
    |some sz=>simp at hg;subst hg;exact⟨sz,h1⟩
   ·rw[h3]at hg;cases hg
   ·rw[h3]at hg;cases hg
  have hγ:∀t g,((unpack ja vs).get t).g=some g->∃g0 z0,(e.get t).g=some g0/\aF e.al g0=some z0/\γ' g=γ g0:=by
   intro t g hg;obtain⟨sz,h1⟩:=hgg t g hg;obtain⟨g0,z0,k1,k2,k3,_⟩:=hg1 g t sz h1;refine⟨g0,z0,k2,k3,?_⟩;show (match gOf g with|some g=>γ g|none=>undef)=γ g0;rw[k1]
  refine⟨S,β,γ',lam,ω',⟨F.wf,F.gro,F.keep,F.le,F.ext,F.hlen,fun l cs hl hcs=>?_,F.tsz,fun t ht=>?_,fun t g z ht hg hz=>?_,fun B n hB=>?_,fun g z hz=>?_,fun b hb=>⟨(F.mine b (hωn b hb)).1.imp (fun hE=>⟨hE.1,fun g hg=>by obtain⟨g',h'⟩:=hωx b g hg;exact hE.2 g' h'⟩) id,(F.mine b (hωn b hb)).2⟩,fun t g hg=>?_,fun g z hz=>?_⟩⟩
  ·rcases F.heap l cs hl hcs with⟨b,x,h1,h2,h3,h4⟩|⟨b,h1,h3,h4⟩
   ·exact .inl ⟨b,x,h1,h2,by rw[hωo b (fun g hg=>by rw[h3]at hg;cases hg)];exact h3,h4⟩
   ·exact .inr ⟨b,h1,by rw[hωo b (fun g hg=>by rw[h3]at hg;cases hg)];exact h3,h4⟩
  ·have hs:=F.slots t ht;rcases hget t with⟨i,z,a',_,h2,h3⟩|⟨B,off,h2,h3⟩|h3
   ·rw[h3];rw[h2]at hs;exact hs
   ·rw[h3];rw[h2]at hs;exact hs
   ·rw[h3];simp[Ent.none,d9,VR]
  ·obtain⟨g0,z0,k1,k2,k3⟩:=hγ t g hg;rw[k3];exact F.grps t g0 z0 ht k1 k2
  ·obtain⟨k1,k2,k3,b,x,k4,k5,k6,k7,k8⟩:=F.lblk B n (pC hlo.2 B n hB);refine⟨k1,k2,k3,b,x,k4,k5,by rw[hωo b (fun g hg=>by rw[k6]at hg;cases hg)];exact k6,k7,fun i hi=>?_⟩;obtain⟨v,a',m1,m2,m3,m4⟩:=k8 i hi;have hgr:∀g z,((unpack ja vs).get (B+i)).g=some g->aF (unpack ja vs).al g=some z->v=γ' g:=by
    intro g z hg _;obtain⟨g0,z0,p1,p2,p3⟩:=hγ _ g hg;rw[p3];exact m4 g0 z0 p1 p2
   rcases hget (B+i)with⟨j,z,a2,_,h2,h3⟩|⟨B',off,h2,h3⟩|h3
   ·refine⟨v,a2,m1,by rw[h3],?_,hgr⟩;rw[m2]at h2;cases h2;exact m3
   ·rw[m2]at h2;cases h2
   ·exact⟨v,.any,m1,by rw[h3];rfl,by simp[VR],hgr⟩
  ·obtain⟨i,t,sz,h1,h2,h3⟩:=eX ja.vals 0 g z hz;rw[KF]at h2;subst h2;obtain⟨g0,z0,k1,k2,k3,k4⟩:=hg1 g t sz h1;have hγ':γ' g=γ g0:=by
    show (match gOf g with|some g=>γ g|none=>undef)=γ g0;rw[k1]
   rw[hγ'];obtain⟨ad,len,cap,m1,m2,m3,m4⟩:=F.free g0 z0 k3;refine⟨ad,len,cap,m1,m2,m3,m4.imp id ?_⟩;rintro⟨sz',b,off,x,p1,p2,p3,p4,p5,p6⟩;have:sz'=sz:=by
    rcases k4 with k4|k4<;>rw[k4]at p1<;>cases p1;rfl
   subst this;exact⟨sz',b,off,x,h3,p2,p3,p4,hωg b g0 g p5 k1,p6⟩
  ·obtain⟨sz,h1⟩:=hgg t g hg;have:g<ja.vals.length:=by
    rcases KD g ja.vals.length with h|h
    ·exact h
    ·rw[Kr h]at h1;cases h1
   show g<ja.vals.length*1000;omega
  ·obtain⟨i,t,sz,h1,h2,h3⟩:=eX ja.vals 0 g z hz;have:i<ja.vals.length:=by
    rcases KD i ja.vals.length with h|h
    ·exact h
    ·rw[Kr h]at h1;cases h1
   show g<ja.vals.length*1000;omega
omit [Dr]in
theorem A2(d:Nat)(h:Hp):iU d h .any= .any:=by cases d<;>rfl
omit [Dr]in
theorem vZ(g:AV->AV)(hg:g .any= .any)(vs:List AV)(i:Nat):nth (vs.map g) i=g (nth vs i):=by
 unfold nth;rw[KO,KO,KX];cases vs[i]? with
 |none=>simp[hg]
 |some v=>rfl
structure Reval (g:AV->AV) (x y:Ent):Prop where
 gr:y.g=x.g
 v:(∃a,x.v= .val a/\y.v= .val (g a))\/(∃B off,x.v= .loc B off/\y.v= .loc B off)
omit [Dr]in
theorem eR(g:AV->AV)(hg:g .any= .any)(vs:List AV)(r:List (Nat×Ent))(hr:∀t,Reval g (bC r t) (bC r t))(t:Nat):∀(l:List (Nat×Option Nat))(k:Nat),
  Reval g (bC (cd vs k l++r) t) (bC (cd (vs.map g) k l++r) t)
 |[],k=>by simpa [cd]using hr t
 |(s,none):: l,k=>by
  simp only[cd,KW,bC];cases Nat.beq s t with
  |true=>exact⟨rfl,.inl ⟨_,rfl,by simp only[Kh];rw[vZ g hg]⟩⟩
  |false=>exact eR g hg vs r hr t l (k+1)
 |(s,some z):: l,k=>by
  simp only[cd,KW,bC];cases Nat.beq s t with
  |true=>exact⟨rfl,.inl ⟨_,rfl,by simp only[Kh];rw[vZ g hg]⟩⟩
  |false=>exact eR g hg vs r hr t l (k+1)
omit [Dr]in
theorem q8(g:AV->AV)(hg:g .any= .any)(ja:JA)(vs:List AV)(t:Nat):Reval g ((unpack ja vs).get t) ((unpack ja (vs.map g)).get t):=by
 refine eR g hg vs _ (fun t=>?_) t ja.vals 0;rcases lD t ja.locs with⟨B,off,_,k2⟩|k
 ·rw[k2];exact⟨rfl,.inr ⟨B,off,rfl,rfl⟩⟩
 ·rw[k];exact⟨rfl,.inl ⟨.any,rfl,by simp[Ent.none,hg]⟩⟩
theorem FR.reval{U:Nat->Prop}{S:aw}{β:List bw}{γ:Nat->Value}{lam:Nat->Option Nat}{ω:Nat->Owner}{e2:Env}{h2:Hp}{S2:aw}{ω2:Nat->Owner}{g:AV->AV}(F:FR c N U e h a w S β γ lam ω)(F2:FR c N U e h2 a w S2 β γ lam ω2)(hg:∀x v,VR S β x v->VR S2 β (g x) v)(hr:∀t,Reval g (e.get t) (e2.get t))(hal:e2.al=e.al)(hlb:e2.lb=e.lb):FR c N U e2 h2 a w S2 β γ lam ω2:=by
 refine⟨F2.wf,F2.gro,F2.keep,F2.le,F2.ext,F2.hlen,F2.heap,F2.tsz,fun t ht=>?_,fun t k z ht hk hz=>?_,fun B n hB=>?_,fun k z hz=>F2.free k z (by rw[<- hal];exact hz),F2.mine,fun t k hk=>?_,fun k z hz=>F2.used.2 k z (by rw[<- hal];exact hz)⟩
 ·have h1:=F.slots t ht;rcases (hr t).v with⟨x,q1,q2⟩|⟨B,off,q1,q2⟩
  ·rw[q1]at h1;rw[q2];exact hg _ _ h1
  ·rw[q1]at h1;rw[q2];exact h1
 ·rw[(hr t).gr]at hk;rw[hal]at hz;exact F2.grps t k z ht hk hz
 ·rw[hlb]at hB;obtain⟨k1,k2,k3,b,x,k4,k5,k6,k7,k8⟩:=F2.lblk B n hB;obtain⟨_,_,_,b',x',j4,j5,j6,j7,j8⟩:=F.lblk B n hB;rw[k4]at j4;cases j4;cases k5.inj j5;refine⟨k1,k2,k3,b,x,k4,k5,k6,k7,fun i hi=>?_⟩;obtain⟨v,a',m1,m2,m3,m4⟩:=k8 i hi;obtain⟨v',a'',n1,n2,n3,_⟩:=j8 i hi;rw[m1]at n1;cases n1;rcases (hr (B+i)).v with⟨y,q1,q2⟩|⟨B',off,q1,q2⟩
  ·rw[n2]at q1;cases q1;refine⟨v,g a'',m1,q2,hg _ _ n3,fun k z hk hz=>?_⟩;rw[(hr (B+i)).gr]at hk;rw[hal]at hz;exact m4 k z hk hz
  ·rw[n2]at q1;cases q1
 ·rw[(hr t).gr]at hk;exact F2.used.1 t k hk
theorem oU{ja:JA}{vs:List AV}(H:iF c N (unpack ja vs) h a w):iF c N (unpack ja (vs.map (iU 6 h))) (h.map fun _=>[]) a w:=by
 obtain⟨S,β,γ,lam,ω,F⟩:=H;obtain⟨S2,ω2,F2,hf⟩:=F.freeze;have F3:=F.reval F2 (g:=iU 6 h) (fun x v hx=>hf _ _ hx) (q8 _ (A2 6 h) ja vs) (e2:=unpack ja (vs.map (iU 6 h))) rfl rfl;exact⟨S2,β,γ,lam,ω2,F3⟩
end
end Go.Av
namespace Go.Av
variable [Dr]
section
variable {P:Program} {cx:Cx} {c:Entry} {e:Env} {h:Hp} {a:Act} {w:World} {ops:Array Oper} {id:Nat}
theorem uJ{ρ:Type}(hT:TOK P cx.T)(hC:ci P cx.own cx.call)(hI:IsoCall cx)(hk:∀p,xg (bW cx.ann.kinds p .L)=true->p<cx.nt){draw:Bool}{k:Env->M ρ}(H:iF c cx.nt e h a w)(hr:lq cx id ops draw e k h≠.fail){Q:Exit->Act->World->Prop}(hn:∀e' h' a' w',lq cx id ops draw e k h=k e' h'->iF c cx.nt e' h' a' w'->a'.defers=a.defers->Q .normal a' w')(hp:∀pv h' v w' a',lq cx id ops draw e k h= .pan pv h'->jM c pv h' v w'->a'.defers=a.defers->Q (.panic [{ v,recovered:=false }]) a' w'):
  (Code.region id ops draw).wp P Q a w:=xB hT hC hI hk H hr hn hp
end
end Go.Av
namespace Go.Av
variable [Dr]
section
variable {P:Program} {Q:Exit->Act->World->Prop} {b:Code}
def iH(P:Program)(c:Code)(Q:Exit->Act->World->Prop)(a:Act)(w:World):Prop:=
 ∀(b:Frame)(k:List Item)(cs:List Frame),∃e a' w',Q e a' w'/\Arrives P (lone (b.at a (.code c:: .inLoop c:: k)) cs w) b k cs e a' w'
omit [Dr]in
theorem iH.loop{a:Act}{w:World}(h:iH P b Q a w):(Code.loop b).wp P Q a w:=
 fun f k cs=>let ⟨e,a',w',q,r⟩:=h f k cs;⟨e,a',w',q,.of_steps (.one step_loop) r⟩
omit [Dr]in
theorem iH.round{a:Act}{w:World}(h:b.wp P (Exit.then (iH P b Q) Q) a w):iH P b Q a w:=by
 intro f k cs;obtain⟨e,a₁,w₁,hq,harr⟩:=h f (.inLoop b:: k) cs;cases e with
 |normal=>
  obtain⟨e₂,a₂,w₂,hq₂,harr₂⟩:=hq f k cs;exact⟨e₂,a₂,w₂,hq₂,.of_steps (Steps.trans harr (.one step_inLoop)) harr₂⟩
 |exit id=>exact⟨_,a₁,w₁,hq,.pass (x:=.inLoop b) rfl (fun _ _=>.inl (by simp)) harr⟩
 |goto l=>exact⟨_,a₁,w₁,hq,.pass (x:=.inLoop b) rfl (fun _ _=>.inl (by simp)) harr⟩
 |ret=>exact⟨_,a₁,w₁,hq,.pass (x:=.inLoop b) rfl (fun _ _=>.inl (by simp)) harr⟩
 |panic ch=>exact⟨_,a₁,w₁,hq,.pass (x:=.inLoop b) rfl (fun _ _=>.inl (by simp)) harr⟩
 |outgrown=>exact⟨_,a₁,w₁,hq,.pass (x:=.inLoop b) rfl (fun _ _=>.inl (by simp)) harr⟩
end
section
variable {P:Program} {cx:Cx} {c:Entry} {ρ:Type}
omit [Dr]in
theorem yN{fx:b7 ρ}{id:Nat}{code:Code}{e:Env}{kn kr:Env->M ρ}{kx:Nat->Env->M ρ}(hc:∀b,code≠.loop b):
  ev cx fx (.block id code) e kn kx kr=ev cx fx code e kn (fun i e'=>bif Nat.beq i id then kn e' else kx i e') kr:=by
 cases code<;>first|rfl|exact absurd rfl (hc _)
def uv(cx:Cx)(x:Code):Option JA:=match kj x with
 |some t=>ma cx.ann.joins t
 |none=>none
omit [Dr]in
theorem EA{fx:b7 ρ}{x y:Code}{e:Env}{kn kr:Env->M ρ}{kx:Nat->Env->M ρ}:ev cx fx (.seq x y) e kn kx kr=(match uv cx x with
  |some ja=>jn (fun vs=>ev cx fx y (unpack ja vs) kn kx kr) fun j=>ev cx fx x e (oH ja j) kx kr
  |none=>ev cx fx x e (fun e'=>ev cx fx y e' kn kx kr) kx kr):=by
 unfold uv;simp only[ev];cases kj x with
 |none=>rfl
 |some t=>
  simp only;cases ma cx.ann.joins t<;>rfl
structure Posts (c:Entry) (N:Nat) (r:R ρ) (a:Act) (kn:Env->M ρ) (kx:Nat->Env->M ρ) (kr:Env->M ρ) (Q:Exit->Act->World->Prop):Prop where
 nrm:∀e' h' a' w',r=kn e' h'->iF c N e' h' a' w'->a'.defers=a.defers->Q .normal a' w'
 ext:∀i e' h' a' w',r=kx i e' h'->iF c N e' h' a' w'->a'.defers=a.defers->Q (.exit i) a' w'
 ret:∀e' h' a' w',r=kr e' h'->iF c N e' h' a' w'->a'.defers=a.defers->Q .ret a' w'
 pan:∀pv h' v w' a',r= .pan pv h'->jM c pv h' v w'->a'.defers=a.defers->Q (.panic [{ v,recovered:=false }]) a' w'
theorem q6{ja:JA}{j:List AV->M ρ}{e:Env}{h:Hp}{N:Nat}{a:Act}{w:World}(H:iF c N e h a w)(hr:oH ja j e h≠.fail):∃vs h',oH ja j e h=j vs h'/\iF c N (unpack ja vs) h' a w:=by
 unfold oH at hr |-;cases hp:pack ja e with
 |none=>rw[hp]at hr;exact absurd rfl hr
 |some vs=>
  have hs:=q9 H hp;simp only;cases ja.fz with
  |false=>exact⟨vs,h,rfl,hs⟩
  |true=>exact⟨_,_,rfl,oU hs⟩
theorem yP(hT:TOK P cx.T)(hC:ci P cx.own cx.call)(hI:IsoCall cx)(hk:∀p,xg (bW cx.ann.kinds p .L)=true->p<cx.nt)(m:Nat):∀(n:Nat)(code:Code),SizeOf.sizeOf code<n->
  ∀(e:Env)(h:Hp)(a:Act)(w:World)(kn:Env->M ρ)(kx:Nat->Env->M ρ)(kr:Env->M ρ)(Q:Exit->Act->World->Prop),iF c cx.nt e h a w->ev cx (cm m) code e kn kx kr h≠.fail->
  Posts c cx.nt (ev cx (cm m) code e kn kx kr h) a kn kx kr Q->code.wp P Q a w:=by
 intro n
 induction n with
 |zero=>intro code hn;omega
 | succ n ih=>
  intro code hn e h a w kn kx kr Q H hr hp;cases code<;>(try exact absurd rfl hr)
  case skip=>exact wp_skip (hp.nrm e h a w rfl H rfl)
  case exit id=>exact wp_exit (hp.ext id e h a w rfl H rfl)
  case ret=>exact wp_ret (hp.ret e h a w rfl H rfl)
  case region id ops draw=>exact uJ hT hC hI hk H hr hp.nrm hp.pan
  case seq x y=>
   have hx:SizeOf.sizeOf x<n:=by simp at hn;omega
   have hy:SizeOf.sizeOf y<n:=by simp at hn;omega
   refine wp_seq ?_;rw[EA]at hr hp;generalize uv cx x=oj at hr hp;cases oj with
   |none=>
    simp only at hr hp;refine ih x hx e h a w _ kx kr _ H hr ⟨fun e' h' a' w' hok hs hd=>?_,fun i e' h' a' w' hok hs hd=>hp.ext i e' h' a' w' hok hs hd,fun e' h' a' w' hok hs hd=>hp.ret e' h' a' w' hok hs hd,fun pv h' v w' a' hok hs hd=>hp.pan pv h' v w' a' hok hs hd⟩;rw[hok]at hr hp;exact ih y hy e' h' a' w' kn kx kr Q hs hr ⟨fun e2 h2 a2 w2 k1 k2 k3=>hp.nrm e2 h2 a2 w2 k1 k2 (k3.trans hd),fun i e2 h2 a2 w2 k1 k2 k3=>hp.ext i e2 h2 a2 w2 k1 k2 (k3.trans hd),fun e2 h2 a2 w2 k1 k2 k3=>hp.ret e2 h2 a2 w2 k1 k2 (k3.trans hd),fun pv h2 v w2 a2 k1 k2 k3=>hp.pan pv h2 v w2 a2 k1 k2 (k3.trans hd)⟩
   |some ja=>
    simp only[jn]at hr hp;refine ih x hx e h a w _ kx kr _ H hr ⟨fun e' h' a' w' hok hs hd=>?_,fun i e' h' a' w' hok hs hd=>hp.ext i e' h' a' w' hok hs hd,fun e' h' a' w' hok hs hd=>hp.ret e' h' a' w' hok hs hd,fun pv h' v w' a' hok hs hd=>hp.pan pv h' v w' a' hok hs hd⟩;rw[hok]at hr hp;obtain⟨vs,h3,hj,hs3⟩:=q6 hs hr;rw[hj]at hr hp;exact ih y hy (unpack ja vs) h3 a' w' kn kx kr Q hs3 hr ⟨fun e2 h2 a2 w2 k1 k2 k3=>hp.nrm e2 h2 a2 w2 k1 k2 (k3.trans hd),fun i e2 h2 a2 w2 k1 k2 k3=>hp.ext i e2 h2 a2 w2 k1 k2 (k3.trans hd),fun e2 h2 a2 w2 k1 k2 k3=>hp.ret e2 h2 a2 w2 k1 k2 (k3.trans hd),fun pv h2 v w2 a2 k1 k2 k3=>hp.pan pv h2 v w2 a2 k1 k2 (k3.trans hd)⟩
  case cond o x y=>
   have hx:SizeOf.sizeOf x<n:=by simp at hn;omega
   have hy:SizeOf.sizeOf y<n:=by simp at hn;omega
   cases o<;>(try exact absurd rfl hr)
   case const v=>
    simp only[ev]at hr hp
    have hav:∀b,cA v= .bool b->a.eval (.const v)= .bool b:=by
     intro b hb;show v= .bool b;cases v with
     |bool c=>simp only[cA,vr,AV.bool.injEq]at hb;rw[hb]
     |tuple vs=>simp only[cA]at hb;cases hvs:vs.isEmpty<;>rw[hvs]at hb<;>cases hb
     |pointer p=>cases p<;>(simp only[cA,vr]at hb;cases hb)
     |map p=>cases p<;>(simp only[cA,vr]at hb;cases hb)
     | slice p n m=>
      have hs:vr (.slice p n m)= .sl []\/vr (.slice p n m)= .any:=by
       cases p with
       |some q=>exact .inr rfl
       | none=>cases n with
        |succ n=>exact .inr rfl
        |zero=>cases m with
         |succ m=>exact .inr rfl
         |zero=>exact .inl rfl
      simp only[cA]at hb;rcases hs with hs|hs<;>rw[hs]at hb<;>cases hb
     |_=>simp only[cA,vr]at hb;cases hb
    cases hq:cA v<;>rw[hq]at hr hp<;>(try exact absurd rfl hr);rename_i b;cases b with
    |true=>exact wp_cond (hav true hq) (ih x hx e h a w kn kx kr Q H hr hp)
    |false=>exact wp_cond (hav false hq) (ih y hy e h a w kn kx kr Q H hr hp)
   rename_i t;simp only[ev]at hr hp;cases ht:decide (t<1000)with
   |false=>rw[ht]at hr;exact absurd rfl hr
   | true=>
    rw[ht]at hr hp;simp only[Kh]at hr hp;have htl:t<1000:=by simpa using ht
    have hav:∀b,e.av t= .bool b->a.eval (.tmp t)= .bool b:=by
     intro b hb;obtain⟨S,β,γ,lam,ω,F⟩:=H;have hs:=F.slots t htl;simp only[Env.av,Ent.av]at hb;cases hv:(e.get t).v with
     |val av=>
      rw[hv]at hs hb;simp only at hb;subst hb;simp only[d9,VR]at hs;exact hs
     |loc B off=>rw[hv]at hb;cases hb
    cases hq:e.av t<;>rw[hq]at hr hp<;>(try exact absurd rfl hr);rename_i b;cases b with
    |true=>exact wp_cond (hav true hq) (ih x hx e h a w kn kx kr Q H hr hp)
    |false=>exact wp_cond (hav false hq) (ih y hy e h a w kn kx kr Q H hr hp)
  case block id code=>
   refine wp_block ?_;by_cases hc:∃b,code= .loop b
   ·obtain⟨b,rfl⟩:=hc;have hb:SizeOf.sizeOf b<n:=by simp at hn;omega
    simp only[ev]at hr hp;cases hja:ma cx.ann.loops id with
    |none=>rw[hja]at hr;exact absurd rfl hr
    | some ja=>
     rw[hja]at hr hp;simp only at hr hp;refine iH.loop ?_;obtain⟨vs,h3,hj,hs3⟩:=q6 H hr;rw[hj]at hr hp;have key:∀(k:Nat)(vs:List AV)(h:Hp)(a1:Act)(w:World),iF c cx.nt (unpack ja vs) h a1 w->a1.defers=a.defers->
       cm k (fun self vs=>ev cx (cm m) b (unpack ja vs) (oH ja self) (fun i e'=>bif Nat.beq i id then kn e' else kx i e') kr) vs h≠.fail->
       Posts c cx.nt (cm k (fun self vs=>ev cx (cm m) b (unpack ja vs) (oH ja self) (fun i e'=>bif Nat.beq i id then kn e' else kx i e') kr) vs h) a kn kx kr Q->iH P b (Exit.inBlock id Q) a1 w:=by
      intro k
      induction k with
      |zero=>intro vs h a1 w _ _ hr _;exact absurd rfl hr
      | succ k ihk=>
       intro vs h a1 w hs hd hr hp;simp only[cm]at hr hp;refine iH.round (ih b hb (unpack ja vs) h a1 w _ _ kr _ hs hr ⟨fun e' h' a' w' hok hs' hd'=>?_,fun i e' h' a' w' hok hs' hd'=>?_,fun e' h' a' w' hok hs' hd'=>hp.ret e' h' a' w' hok hs' (hd'.trans hd),fun pv h' v w' a' hok hs' hd'=>hp.pan pv h' v w' a' hok hs' (hd'.trans hd)⟩)
       ·rw[hok]at hr hp;obtain⟨vs',h4,hj',hs4⟩:=q6 hs' hr;rw[hj']at hr hp;exact ihk vs' h4 a' w' hs4 (hd'.trans hd) hr hp
       ·cases hi:Nat.beq i id with
        |true=>
         rw[hi]at hok
         have:=Ko hi
         subst this;show Exit.inBlock i Q (.exit i) a' w';simp only[Exit.inBlock,Kt];exact hp.nrm e' h' a' w' hok hs' (hd'.trans hd)
        |false=>
         rw[hi]at hok;have hne:i≠id:=fun hh=>by subst hh;simp at hi
         show Exit.inBlock id Q (.exit i) a' w';simp only[Exit.inBlock,if_neg hne];exact hp.ext i e' h' a' w' hok hs' (hd'.trans hd)
     exact key m vs h3 a w hs3 rfl hr hp
   ·have hc':∀b,code≠.loop b:=fun b hb=>hc ⟨b,hb⟩;rw[yN hc']at hr hp;have hs:SizeOf.sizeOf code<n:=by simp at hn;omega
    refine ih code hs e h a w kn _ kr _ H hr ⟨fun e' h' a' w' hok hs' hd'=>hp.nrm e' h' a' w' hok hs' hd',fun i e' h' a' w' hok hs' hd'=>?_,fun e' h' a' w' hok hs' hd'=>hp.ret e' h' a' w' hok hs' hd',fun pv h' v w' a' hok hs' hd'=>hp.pan pv h' v w' a' hok hs' hd'⟩;cases hi:Nat.beq i id with
    |true=>
     rw[hi]at hok
     have:=Ko hi
     subst this;show Exit.inBlock i Q (.exit i) a' w';simp only[Exit.inBlock,Kt];exact hp.nrm e' h' a' w' hok hs' hd'
    |false=>
     rw[hi]at hok;have hne:i≠id:=fun hh=>by subst hh;simp at hi
     show Exit.inBlock id Q (.exit i) a' w';simp only[Exit.inBlock,if_neg hne];exact hp.ext i e' h' a' w' hok hs' hd'
end
end Go.Av
namespace Go.Av
variable [Dr]
omit [Dr]in
theorem m9:∀(args:List AV)(i t:Nat),bC (ru i args) t=if i<=t/\t<i+args.length then⟨.val (nth args (t-i)),none⟩else Ent.none
 |[],i,t=>by
  simp only[ru,bC,K5,Lu];rw[if_neg (by omega)]
 | a:: as0,i,t=>by
  simp only[ru,bV,K4];by_cases h:i=t
  ·subst h;rw[Kn rfl,Kn (by omega)];simp[nth]
  ·rw[if_neg h,m9 as0 (i+1) t];by_cases h2:i+1<=t/\t<i+1+as0.length
   ·rw[Kn h2,Kn (by omega)];have:t-i=(t-(i+1))+1:=by omega
    simp[nth,this]
   ·rw[if_neg h2,if_neg (by omega)]
section
variable {P:Program} {cx:Cx}
open Classical in
theorem Fo{w:World}{S:aw}{β:List bw}{h:Hp}{args:List AV}{vs:List Value}{n:Nat}(hg:tA β h w)(hw:Wf S w)(hh:cD S β w h)(hv:bc S β args vs)(hn:args.length<=n)(hn2:n<=1000):
  ∃γ lam ω,FR { w,S,β,E:=bZ β h,gok:=hg } n (fun g=>g<(mE args).nx*1000) (mE args) h { tmps:=vs.toArray++Array.replicate (n-vs.toArray.size) undef,defers:=[] } w S β γ lam ω:=by
 obtain⟨hlen,ω0,hr⟩:=hh;have hvl:=hv.length;have hget:∀t,(mE args).get t=if t<args.length then⟨.val (nth args t),none⟩else Ent.none:=fun t=>by
  have:=m9 args 0 t
  simp only[LF,true_and,KF,Nat.sub_zero]at this;exact this
 let ω:Nat->Owner:=fun b=>if bZ β h b then ω0 b else .no;refine⟨fun _=>undef,fun _=>none,ω,⟨hw,Gro.refl _,fun b _ _=>⟨rfl,fun _=>rfl⟩,aw.le_refl S,eC.refl β,hlen,fun l cs hl hcs=>?_,⟨?_,hn2⟩,fun t ht=>?_,fun t g z ht hg=>?_,fun B m hB=>?_,fun g z hz=>?_,fun b hb=>?_,fun t g hg=>?_,fun g z hz=>?_⟩⟩
 ·have hown:∀b n,β[l]? = some (b,n)->ω0 b= .heap l->ω b= .heap l:=fun b n h1 h3=>by
   show (if bZ β h b then ω0 b else .no)=_;rw[Kn ⟨l,cs,_,hl,hcs,h1⟩];exact h3
  rcases hr l cs hl hcs with⟨b,x,h1,h2,h3,h4⟩|⟨b,h1,h3,h4⟩
  ·exact .inl ⟨b,x,h1,h2,hown b _ h1 h3,h4⟩
  ·exact .inr ⟨b,h1,hown b _ h1 h3,h4⟩
 ·simp;omega
 ·rw[hget];split
  ·rename_i hlt;have hx:args[t]? = some (nth args t):=by simp[nth,hlt]
   obtain⟨v,h1,h2⟩:=hv.get hx;have:(vs.toArray++Array.replicate (n-vs.toArray.size) undef).getD t undef=v:=by
    rw[KJ,Array.getElem?_append_left (by simp;omega)];simp[h1]
   rw[this];exact h2
  ·simp[Ent.none,d9,VR]
 ·rw[hget]at hg;split at hg<;>cases hg
 ·cases hB
 ·cases hz
 ·have hb':bZ β h b:=by
   by_cases ho:bZ β h b
   ·exact ho
   ·exact absurd (show ω b= .no from if_neg ho) hb
  obtain⟨l,cs,m,h1,h2,h3⟩:=hb';obtain⟨b',x,k1,k2,k3,_⟩:=hr.own h1 h2;rw[h3]at k1;cases k1;have hω:ω b= .heap l:=by
   show (if bZ β h b then ω0 b else .no)=_;rw[Kn ⟨l,cs,_,h1,h2,h3⟩];exact k3
  exact⟨.inl ⟨⟨l,cs,_,h1,h2,h3⟩,fun g=>by rw[hω];simp⟩,k2⟩
 ·rw[hget]at hg;split at hg<;>cases hg
 ·cases hz
theorem start{w:World}{S:aw}{β:List bw}{h:Hp}{args:List AV}{vs:List Value}{n:Nat}(hg:tA β h w)(hw:Wf S w)(hh:cD S β w h)(hv:bc S β args vs)(hn:args.length<=n)(hn2:n<=1000):
  iF { w,S,β,E:=bZ β h,gok:=hg } n (mE args) h { tmps:=vs.toArray++Array.replicate (n-vs.toArray.size) undef,defers:=[] } w:=⟨S,β,Fo hg hw hh hv hn hn2⟩
def fJ(tmps:Array Value):ResultVar->Sem Value
 |.tmp t=>pure (tmps.getD t undef)
 |.cell p t=>do loadVar t (<- asAddr (tmps.getD p undef))
omit [Dr]in
theorem oq(fn:Func)(tmps:Array Value):results fn tmps=(do let vs <- fn.results.mapM (fJ tmps);pure (if h:vs.size=1 then vs[0]else .tuple vs)):=by
 unfold results;congr 1
theorem Fh{c:Entry}{N:Nat}{U:Nat->Prop}{e:Env}{h:Hp}{a:Act}{w:World}{S:aw}{β:List bw}{γ:Nat->Value}{lam:Nat->Option Nat}{ω:Nat->Owner}(hT:TOK P cx.T)(F:FR c N U e h a w S β γ lam ω){r:ResultVar}{v:AV}(hr:sX cx.T e r=some v):∃u,(fJ a.tmps r).run P w= .ok u w/\VR S β v u:=by
 cases r with
 | tmp t=>
  simp only[sX]at hr;cases ht:decide (t<1000)with
  |false=>rw[ht]at hr;cases hr
  | true=>
   rw[ht]at hr;simp only[Kh]at hr;have hs:=F.slots t (by simpa using ht);cases hv:(e.get t).v with
   |loc B off=>rw[hv]at hr;cases hr
   |val av=>
    rw[hv]at hr hs;simp only[Kg]at hr;subst hr;exact⟨_,by simp only[fJ,Sem.run_pure],hs⟩
 | cell p t=>
  simp only[sX]at hr;cases hp:decide (p<1000)with
  |false=>rw[hp]at hr;cases hr
  | true=>
   rw[hp]at hr;simp only[Kh]at hr;have hs:=F.slots p (by simpa using hp);cases hv:(e.get p).v with
   | loc B off=>
    rw[hv]at hr hs;cases ht:cx.T t with
    |none=>rw[ht]at hr;cases hr
    | some ti=>
     rw[ht]at hr;simp only at hr;cases hin:jz e B off ti.size with
     |false=>rw[hin]at hr;cases hr
     | true=>
      rw[hin]at hr;simp only[Kh]at hr;simp only[d9]at hs;obtain⟨b,hlam,hpv⟩:=hs;obtain⟨b',x,m,hm,hle,hlam',hrow,hms,hcells⟩:=F.locals hin;rw[hlam]at hlam';cases hlam';let f:Nat->Value:=fun i=>(x[off+i]?).getD undef;have hf:∀i,i<ti.size->x[off+i]? = some (f i):=fun i hi=>by
       obtain⟨v,_,hv',_⟩:=hcells i hi;show _=some ((x[off+i]?).getD undef);rw[hv'];rfl
      have hload:=mi hT ht hrow f hf;have hexec:∀v,(loadVar t ⟨b,off,none⟩).run P w= .ok v w->(fJ a.tmps (.cell p t)).run P w= .ok v w:=fun v hv'=>by
       simp only[fJ];rw[hpv];simpa [asAddr]using hv'
      cases hag:ti.agg with
      |true=>
       rw[hag]at hr;simp only[Kh,Kg]at hr;subst hr;refine⟨_,hexec _ (hload.1 hag),?_⟩;simp only[VR];refine⟨_,rfl,nE ti.size fun i hi=>?_⟩;obtain⟨v,a',g1,g2,g3,_⟩:=hcells i hi;have:f i=v:=by show (x[off+i]?).getD undef=v;rw[g1];rfl
       rw[this];simp only[Env.av,Ent.av,g2];exact g3
      | false=>
       rw[hag]at hr;simp only[Km]at hr;cases hone:decide (ti.size=1)with
       |false=>rw[hone]at hr;cases hr
       |true=>
        rw[hone]at hr;simp only[Kh,Kg]at hr;subst hr;have hone':ti.size=1:=by simpa using hone
        obtain⟨v,a',g1,g2,g3,g4⟩:=hcells 0 (by omega);simp only[Lu]at g1 g2 g4;have hfv:f 0=v:=by show (x[off+0]?).getD undef=v;rw[Lu,g1];rfl
        refine⟨v,hexec _ (hfv▸hload.2 hag hone'),?_⟩;simp only[Env.av,Ent.av,g2];exact g3
   | val av=>
    rw[hv]at hr hs;cases ht:cx.T t with
    |none=>rw[ht]at hr;cases hr
    |some ti=>
     rw[ht]at hr;simp only at hr;obtain⟨v,h1,h2⟩:=vT hT F.wf hr hs;refine⟨v,?_,h2⟩;unfold af at hr;rw[ht]at hr;cases av<;>simp only[reduceCtorEq]at hr;simp only[d9,VR]at hs;obtain⟨b,off,vs,hpv,_,_⟩:=hs;simp only[fJ];rw[hpv]at h1 |-;simpa [Instr.loadAt,Instr.sureAddr,asAddr]using h1
theorem uK{c:Entry}{N:Nat}{U:Nat->Prop}{e:Env}{h:Hp}{a:Act}{w:World}{S:aw}{β:List bw}{γ:Nat->Value}{lam:Nat->Option Nat}{ω:Nat->Owner}(hT:TOK P cx.T)(F:FR c N U e h a w S β γ lam ω){fn:Func}{vs:List AV}(hr:eK cx.T e fn.results.toList=some vs):∃u,(results fn a.tmps).run P w= .ok u w/\VR S β (jK vs) u:=by
 have key:∀(l:List ResultVar)(vs:List AV),eK cx.T e l=some vs->∃us:List Value,(l.mapM (fJ a.tmps)).run P w= .ok us w/\bc S β vs us:=by
  intro l
  induction l with
  |nil=>intro vs h;simp only[eK,Kg]at h;subst h;exact⟨[],by simp,by simp[bc]⟩
  | cons r rs ih=>
   intro vs h;simp only[eK]at h;cases h1:sX cx.T e r with
   |none=>rw[h1]at h;cases h
   | some v=>
    cases h2:eK cx.T e rs with
    |none=>rw[h1,h2]at h;cases h
    |some vs'=>
     rw[h1,h2]at h;simp only[Kg]at h;subst h;obtain⟨u,k1,k2⟩:=Fh hT F h1;obtain⟨us,m1,m2⟩:=ih vs' h2;refine⟨u:: us,?_,by simp only[bc];exact⟨u,us,rfl,k2,m2⟩⟩;rw[List.mapM_cons,Sem.run_bind,k1,Result.andThen_ok,Sem.run_bind,m1,Result.andThen_ok,Sem.run_pure]
 obtain⟨us,k1,k2⟩:=key _ _ hr;have hlen:=k2.length;have hrun:(fn.results.mapM (fJ a.tmps)).run P w= .ok us.toArray w:=by
  rw[MG];rw[map_eq_pure_bind,Sem.run_bind,k1,Result.andThen_ok,Sem.run_pure]
 refine⟨if h:us.toArray.size=1 then us.toArray[0]else .tuple us.toArray,?_,?_⟩
 ·rw[oq,Sem.run_bind,hrun,Result.andThen_ok,Sem.run_pure]
 ·unfold jK;split
  ·rename_i v;cases us with
   |nil=>simp at hlen
   |cons u us=>
    cases us with
    |nil=>simp only[bc]at k2;obtain⟨x,xs,hx,hy,_⟩:=k2;simp at hx;simp[hx.1,hy]
    |cons u2 us=>simp at hlen
  ·rename_i hne;rw[dif_neg]
   ·simp only[VR];exact⟨us,rfl,k2⟩
   ·intro h1;have:vs.length=1:=by rw[<- hlen];simpa using h1
    match vs,this with
    |[v],_=>exact hne v rfl
end
end Go.Av
namespace Go.Av
variable [Dr]
omit [Dr]in
theorem sE{n:Nat}{ks:List (Nat×Kind)}(h:kJ n ks=true):∀p,xg (bW ks p .L)=true->p<n:=by
 intro p hp
 induction ks with
 |nil=>simp[bW,xg]at hp
 | cons x ks ih=>
  obtain⟨k,y⟩:=x;unfold kJ at h;simp only[Ln,Kj]at h;simp only[bW]at hp;cases hk:Nat.beq k p with
  |true=>
   rw[hk]at hp;simp only[Kh]at hp
   have:=h.1
   rw[hp]at this;have hk':=Ko hk;subst hk';simpa using this
  |false=>
   rw[hk]at hp;exact ih h.2 hp
section
variable {P:Program} {cx:Cx}
theorem Fb{c:Entry}{N:Nat}{U:Nat->Prop}{e:Env}{h:Hp}{a:Act}{w:World}{S:aw}{β:List bw}{γ:Nat->Value}{lam:Nat->Option Nat}{ω:Nat->Owner}(F:FR c N U e h a w S β γ lam ω){fn:Func}{sz:Nat}(ho:qK fn e sz=true){u:Value}(hu:(results fn a.tmps).run P w= .ok u w):p9 c.w.heap.size S β w h sz u:=by
 unfold qK at ho;split at ho
 ·rename_i t hres;cases ht:decide (t<1000)with
  |false=>rw[ht]at ho;cases ho
  | true=>
   rw[ht]at ho;simp only[L8]at ho;split at ho
   ·rename_i g hg;split at ho
    ·rename_i z hz;have hgr:=F.grps t g z (by simpa using ht) hg hz;obtain⟨ad,len,cap,h1,h2,h3,h4⟩:=F.free g z hz;have hue:u=a.tmps.getD t undef:=by
      have hr:fn.results= #[.tmp t]:=by apply LK;simpa using hres
      rw[oq,hr]at hu;simp[fJ]at hu;simpa using hu.symm
     rw[hue,hgr];refine⟨ad,len,cap,h1,h2,h3,h4.imp id ?_⟩;rintro⟨sz',b,off,x,k1,k2,k3,k4,k5,k6⟩;have hsz:sz'=sz:=by
      rw[k1]at ho;simp only[qY]at ho;exact Ko ho
     subst hsz;refine⟨b,off,x,k2,k3,k4,(F.mine b (by rw[k5];simp)).1.grp k5,fun hb=>?_,k6⟩;obtain⟨l,_,hl,_⟩:=F.hown hb;rw[k5]at hl;cases hl
    ·cases ho
   ·cases ho
 ·cases ho
omit [Dr]in
theorem zE{fn:Func}{own:Option Nat}{e:Env}{h:Hp}(hr:g9 cx fn own e h≠.fail):∃rs,eK cx.T e fn.results.toList=some rs/\(g9 cx fn own e h= .ok (jK rs) h\/(own=none/\g9 cx fn own e h= .ok (iU 6 h (jK rs)) (h.map fun _=>[])))/\∀sz,own=some sz->qK fn e sz=true:=by
 have key:∀b z:Bool,(bif b then ae (ah ((eK cx.T e fn.results.toList).map jK)) (bif z then(bif own.isSome then fun _=>M.fail else vO)else M.pure)else M.fail:M AV) h≠.fail->b=true/\∃rs,eK cx.T e fn.results.toList=some rs/\
   ((bif b then ae (ah ((eK cx.T e fn.results.toList).map jK)) (bif z then(bif own.isSome then fun _=>M.fail else vO)else M.pure)else M.fail:M AV) h= .ok (jK rs) h\/
    (own=none/\(bif b then ae (ah ((eK cx.T e fn.results.toList).map jK)) (bif z then(bif own.isSome then fun _=>M.fail else vO)else M.pure)else M.fail:M AV) h= .ok (iU 6 h (jK rs)) (h.map fun _=>[]))):=by
  intro b z hr;cases b with
  |false=>exact absurd rfl hr
  | true=>
   refine⟨rfl,?_⟩;cases hres:eK cx.T e fn.results.toList with
   |none=>rw[hres]at hr;exact absurd rfl hr
   | some rs=>
    rw[hres]at hr;cases z with
    |false=>exact⟨rs,rfl,.inl rfl⟩
    |true=>
     cases own with
     |none=>exact⟨rs,rfl,.inr ⟨rfl,rfl⟩⟩
     |some sz=>exact absurd rfl hr
 unfold g9 at hr |-;cases own with
 |none=>
  obtain⟨_,rs,h1,h2⟩:=key true _ hr;exact⟨rs,h1,h2,fun sz hsz=>by cases hsz⟩
 |some sz=>
  obtain⟨h0,rs,h1,h2⟩:=key _ _ hr;exact⟨rs,h1,h2,fun sz' hsz=>by cases hsz;exact h0⟩
theorem fR(hT:TOK P cx.T)(hC:ci P cx.own cx.call)(hI:IsoCall cx)(m:Nat){f:FuncId}{fn:Func}(hf:P.funcs[f]? = some fn)(hnt:cx.nt=fn.ntmps){own:Option Nat}{args:List AV}{h:Hp}{S:aw}{β:List bw}{w:World}{vs:List Value}(hr:b6 cx (cm m) fn own args h≠.fail)(hg:tA β h w)(hw:Wf S w)(hh:cD S β w h)(hv:bc S β args vs):Calls P f vs.toArray w (d7 own S β h w (b6 cx (cm m) fn own args h))/\fn.body.isSome=true:=by
 unfold b6 at hr |-;cases hb:fn.body with
 |none=>rw[hb]at hr;exact absurd rfl hr
 | some code=>
  rw[hb]at hr;simp only at hr |-;refine⟨?_,rfl⟩;cases hc:(decide (args.length<=fn.ntmps)&&decide (fn.ntmps<=1000)&&kJ cx.nt cx.ann.kinds)with
  |false=>rw[hc]at hr;exact absurd rfl hr
  | true=>
   rw[hc]at hr;simp only[Kh]at hr |-;simp only[Kj,KQ]at hc;obtain⟨⟨hc1,hc2⟩,hc3⟩:=hc;have H:iF { w,S,β,E:=bZ β h,gok:=hg } cx.nt (mE args) h { tmps:=vs.toArray++Array.replicate (fn.ntmps-vs.toArray.size) undef,defers:=[] } w:=by
    rw[hnt];exact start hg hw hh hv hc1 hc2
   have hret:∀(e':Env)(h':Hp)(a':Act)(w':World),ev cx (cm m) code (mE args) (g9 cx fn own) (fun _ _=>M.fail) (g9 cx fn own) h=g9 cx fn own e' h'->
     iF { w,S,β,E:=bZ β h,gok:=hg } cx.nt e' h' a' w'->∃v,(results fn a'.tmps).run P w'= .ok v w'/\d7 own S β h w (ev cx (cm m) code (mE args) (g9 cx fn own) (fun _ _=>M.fail) (g9 cx fn own) h) (.returned v) w':=by
    intro e' h' a' w' hok hs;rw[hok]at hr |-;obtain⟨rs,hres,hret,hown⟩:=zE hr;obtain⟨S',β',γ,lam,ω,F⟩:=hs;obtain⟨u,hu1,hu2⟩:=uK (P:=P) hT F hres;rcases hret with hret|⟨rfl,hret⟩
    ·rw[hret];exact⟨u,hu1,S',β',u,rfl,hu2,F.out,fun sz hsz=>Fb F (hown sz hsz) hu1⟩
    ·rw[hret];obtain⟨S2,ω2,F2,hf⟩:=F.freeze;exact⟨u,hu1,S2,β',u,rfl,hf _ _ hu2,F2.out,fun sz hsz=>by cases hsz⟩
   refine calls_of_wp hf hb (yP hT hC hI (sE hc3) m _ code (Mm _) (mE args) h _ w _ _ _ _ H hr ⟨fun e' h' a' w' hok hs hd=>?_,fun i e' h' a' w' hok hs hd=>?_,fun e' h' a' w' hok hs hd=>?_,fun pv h' v w' a' hok hs hd=>?_⟩)
   ·exact⟨hd,hret e' h' a' w' hok hs⟩
   ·rw[hok]at hr;exact absurd rfl hr
   ·exact⟨hd,hret e' h' a' w' hok hs⟩
   ·refine⟨hd,?_⟩;rw[hok];obtain⟨S',β',hout,hvr⟩:=hs;exact⟨S',β',v,rfl,hvr,hout⟩
end
open Classical in
theorem vQ{S:aw}{β:List bw}{w w':World}{h:Hp}(_hw:Wf S w)(hh:cD S β w h){β0:List bw}{h0:Hp}(hE:∀b,¬bZ β0 h0 b){S':aw}{β':List bw}{h':Hp}(L:Left (bZ β0 h0) S β0 w S' β' w' h'):∃S2,Left (bZ β h) S β w S2 β w' h/\(∀a v,VR S' β' a v->VR S2 β (iU 6 h' a) v)/\∀sz v,p9 w.heap.size S' β' w' h' sz v->p9 w.heap.size S2 β w' h sz v:=by
 obtain⟨hlen,ω,hH⟩:=L.heap;have hnew:∀b,bZ β' h' b->w.heap.size<=b:=fun b hb=>(L.owned b hb).resolve_left (hE b);let S2:aw:=fun b o=>if bZ β' h' b then w'.cell? ⟨b,o,none⟩else S' b o;have hS2n:∀b,¬bZ β' h' b->∀o,S2 b o=S' b o:=fun b hb o=>if_neg hb;have hS2y:∀b,bZ β' h' b->∀o,S2 b o=w'.cell? ⟨b,o,none⟩:=fun b hb o=>Kn hb;have hle:S'.le S2:=by
  intro b o v hv;by_cases hb:bZ β' h' b
  ·obtain⟨l,cs,n,h1,h2,h3⟩:=hb;obtain⟨b',x,k1,k2,k3,k5⟩:=hH.own h1 h2;rw[h3]at k1;cases k1;rw[k5]at hv;cases hv
  ·rw[hS2n b hb];exact hv
 have hrow:∀b,b<w.heap.size->w'.heap[b]? = w.heap[b]? /\∀o,S2 b o=S b o:=by
  intro b hb;have hk:=L.keep b hb (hE b);refine⟨hk.1,fun o=>?_⟩;rw[hS2n b (fun ho=>by have:=hnew b ho;omega)];exact hk.2 o
 have hwf:Wf S2 w':=by
  intro b o v hv;by_cases hb:bZ β' h' b
  ·rw[hS2y b hb]at hv;exact hv
  ·rw[hS2n b hb]at hv;exact L.wf b o v hv
 obtain⟨hlen0,ω0,hH0⟩:=hh;have hlt0:∀b,bZ β h b->b<w.heap.size:=by
  rintro b ⟨l,cs,n,h1,h2,h3⟩;obtain⟨b',x,k1,k2,_⟩:=hH0.own h1 h2;rw[h3]at k1;cases k1;exact k2
 have hle0:S.le S2:=aw.le_trans L.le hle;refine⟨S2,⟨hle0,eC.refl β,hwf,L.gro,fun b hb _=>hrow b hb,⟨hlen0,ω0,hH0.rows hle0 (eC.refl β) hlen0 fun l cs hl _=>.inl ⟨hl,fun b hb ho=>⟨ho,(hrow b hb).1,fun o h=>by rw[(hrow b hb).2];exact h⟩⟩⟩,fun b hb=>.inl hb⟩,fun a v hv=>qy hH hle (fun b o x hb hr=>?_) 6 a v hv,fun sz v=>?_⟩
 ·rw[hS2y b hb,hr.cell]
 ·rintro⟨ad,len,cap,k1,k2,k3,k4⟩;refine⟨ad,len,cap,k1,k2,k3,k4.imp id ?_⟩;rintro⟨b,off,x,p1,p2,p3,p4,p5,p6⟩;refine⟨b,off,x,p1,p2,p3,p4,fun hb=>?_,fun o ho=>by rw[hS2n b p5];exact p6 o ho⟩
  have:=hlt0 b hb
  omega
theorem zh{S:aw}{β:List bw}{w w':World}{h:Hp}{own:Option Nat}{m:List AV->M AV}{args:List AV}{en:Ending}(hw:Wf S w)(hh:cD S β w h)(hp:d7 own S [] [] w (m (de ar args) []) en w'):d7 own S β h w (nM m args h) en w':=by
 have key:=fun{S':aw} {β':List bw} {h':Hp} (L:Left (bZ [] []) S [] w S' β' w' h')=>vQ hw hh (by rintro b ⟨l,cs,n,h1,_⟩;simp at h1) L;unfold nM;cases hm:m (de ar args) []with
 |fail=>rw[hm]at hp;exact hp.elim
 |ok r h'=>
  rw[hm]at hp;obtain⟨S',β',v,h1,h2,h3,h4⟩:=hp;obtain⟨S2,k1,k2,k3⟩:=key h3;exact⟨S2,β,v,h1,k2 r v h2,k1,fun sz hsz=>k3 sz v (h4 sz hsz)⟩
 |pan r h'=>
  rw[hm]at hp;obtain⟨S',β',v,h1,h2,h3⟩:=hp;obtain⟨S2,k1,k2,k3⟩:=key h3;exact⟨S2,β,v,h1,k2 r v h2,k1⟩
structure GoodPg (P:Program) (p:Pg):Prop where
 tok:TOK P p.T
 funcs:∀f fn a,p.funcs f=some (fn,a)->P.funcs[f]? = some fn/\(fn.name== "runtime.NumGoroutine")=false
 other:∀f E,p.other f=some E->∀call,ci P p.own call->∀(args:List AV)(h:Hp)(S:aw)(β:List bw)(w:World)(vs:List Value),E call args h≠.fail->tA β h w->Wf S w->cD S β w h->bc S β args vs->
  Calls P f vs.toArray w (d7 (p.own f) S β h w (E call args h))/\(P.funcs[f]?).any (fun fn=>fn.body.isSome&&!(fn.name== "runtime.NumGoroutine"))=true
 nw:∀f,p.nw f=true->∃E,p.other f=some E/\∀call args,tG (E call args)
omit [Dr]in
theorem cD.nil{S:aw}{w:World}:cD S [] w []:=⟨rfl,fun _=>.no,fun l cs hl=>by simp at hl⟩
theorem rV{P:Program}{p:Pg}(G:GoodPg P p)(m:Nat){call:FuncId->List AV->M AV}(hC:ci P p.own call)(hI:∀n a,IsoCall (p.cx call n a)):ci P p.own (fw p call (cm m)):=by
 intro f args h S β w vs hr hg hw hh hv;unfold fw at hr |-;cases ho:p.other f with
 |some E=>rw[ho]at hr;exact G.other f E ho call hC args h S β w vs hr hg hw hh hv
 | none=>
  rw[ho]at hr;simp only at hr |-;cases hf:p.funcs f with
  |none=>rw[hf]at hr;exact absurd rfl hr
  | some x=>
   obtain⟨fn,a⟩:=x;rw[hf]at hr;simp only at hr |-;obtain⟨hf1,hf2⟩:=G.funcs f fn a hf
   have hany:fn.body.isSome=true->(P.funcs[f]?).any (fun fn=>fn.body.isSome&&!(fn.name== "runtime.NumGoroutine"))=true:=by
    intro hb;rw[hf1];simp only[Option.any_some,hb,hf2,Mg,Lz]
   cases hi:a.iso with
   |false=>
    rw[hi]at hr;simp only[Km]at hr |-;obtain⟨h1,h2⟩:=fR (cx:=p.cx call fn.ntmps a) G.tok hC (hI _ _) m hf1 rfl hr hg hw hh hv;exact⟨h1,hany h2⟩
   | true=>
    rw[hi]at hr;simp only[Kh]at hr |-;have hr':b6 (p.cx call fn.ntmps a) (cm m) fn (p.own f) (de ar args) []≠.fail:=by
     intro hf;unfold nM at hr;rw[hf]at hr;exact hr rfl
    obtain⟨h1,h2⟩:=fR (cx:=p.cx call fn.ntmps a) G.tok hC (hI _ _) m hf1 rfl hr' ⟨hg.1,fun b _ hb=>by obtain⟨l,_,_,h1,_⟩:=hb;simp at h1⟩ hw cD.nil (yF hv);exact⟨h1.mono fun en w' hp=>zh hw hh hp,hany h2⟩
omit [Dr]in
theorem uc(p:Pg)(hN:∀f,p.nw f=true->∃E,p.other f=some E/\∀call args,tG (E call args)):∀n k a,IsoCall (p.cx (b9 p n) k a)
 |0,k,a=>⟨fun f args _=>⟨none,fun _=>rfl⟩,fun f args _ h v h' hh=>by cases hh⟩
 | n+1,k,a=>by
  refine⟨?_,fun f args hf=>?_⟩
  case refine_2=>
   obtain⟨E,hE,hn⟩:=hN f hf;have:(p.cx (b9 p (n+1)) k a).call f args=E (b9 p n) args:=by
    show fw p (b9 p n) (cm n) f args=_;unfold fw;rw[hE]
   rw[this];exact hn _ _
  intro f args hi;have hi':p.iso f=true:=hi;unfold Pg.iso at hi';cases ho:p.other f with
  |some E=>rw[ho]at hi';cases hi'
  | none=>
   rw[ho]at hi';simp only at hi';cases hf:p.funcs f with
   |none=>rw[hf]at hi';cases hi'
   |some x=>
    obtain⟨fn,b⟩:=x;rw[hf]at hi';simp only at hi';refine⟨match b6 (p.cx (b9 p n) fn.ntmps b) (cm n) fn (p.own f) (de ar args) []with|.ok r h'=>some (true,iU 6 h' r)|.pan v h'=>some (false,iU 6 h' v)|.fail=>none,fun h=>?_⟩;show fw p (b9 p n) (cm n) f args h=_;unfold fw;rw[ho];simp only;rw[hf];simp only[hi',Kh,nM];cases b6 (p.cx (b9 p n) fn.ntmps b) (cm n) fn (p.own f) (de ar args) []<;>rfl
theorem kp{P:Program}{p:Pg}(G:GoodPg P p):∀n,ci P p.own (b9 p n)
 |0=>fun _f _args _h _S _β _w _vs hr=>absurd rfl hr
 |n+1=>rV G n (kp G n) fun k a=>uc p G.nw n k a
end Go.Av
namespace Go.Av
def zf{m:List AV->M AV}{ms:Nat->List AV->M AV}(h:bz m ms)(args:List AV):aL (nM m args) fun n=>nM (ms n) args:=by
 intro x;obtain⟨h1,h2⟩:=h (de ar args) []
 (try dsimp only at h1 h2)
 refine⟨fun hne=>?_,fun n hne=>?_⟩
 ·have hne':m (de ar args) []≠.fail:=fun hf=>hne (by simp only[nM,hf]);obtain⟨N,hN⟩:=h1 hne';refine⟨N,fun n hn=>?_⟩
  (try dsimp only)
  simp only[nM,hN n hn]
 ·(try dsimp only at hne |-)
  have hne':ms n (de ar args) []≠.fail:=fun hf=>hne (by simp only[nM,hf]);simp only[nM,h2 n hne']
def cL(p:Pg):Prop:=∀f E,p.other f=some E->∀(call:FuncId->List AV->M AV)(calls:Nat->FuncId->List AV->M AV),(∀f,bz (call f) fun n=>calls n f)->bz (E call) fun n=>E (calls n)
section
variable {cx:Cx} {call:FuncId->List AV->M AV} {calls:Nat->FuncId->List AV->M AV} {fx:b7 AV} {fxs:Nat->b7 AV}
theorem ub(hc:∀f,bz (call f) fun n=>calls n f)(hfx:lg fx fxs)(hfc:ri fx)(hfcs:∀n,ri (fxs n))(fn:Func)(own:Option Nat):
  bz (b6 (cx.wc call) fx fn own) fun n=>b6 (cx.wc (calls n)) (fxs n) fn own:=by
 intro args;unfold b6;cases fn.body with
 |none=>exact aL.const _
 | some c=>
  have key:∀b:Bool,aL (bif b then ev (cx.wc call) fx c (mE args) (g9 (cx.wc call) fn own) (fun _ _=>M.fail) (g9 (cx.wc call) fn own)else M.fail) fun n=>(bif b then ev (cx.wc (calls n)) (fxs n) c (mE args) (g9 (cx.wc (calls n)) fn own) (fun _ _=>M.fail) (g9 (cx.wc (calls n)) fn own)else M.fail):=by
   intro b;cases b with
   |false=>exact aL.const _
   |true=>
    have hr:bz (g9 (cx.wc call) fn own) fun n=>g9 (cx.wc (calls n)) fn own:=bz.const (g9 cx fn own);exact Ez _ c (Mm _) call calls fx fxs hc hfx hfc hfcs (mE args) _ (fun n=>g9 (cx.wc (calls n)) fn own) _ (fun _ _ _=>M.fail) _ (fun n=>g9 (cx.wc (calls n)) fn own) hr (fun i=>bz.const _) hr
  exact key (decide (args.length<=fn.ntmps)&&decide (fn.ntmps<=1000)&&kJ cx.nt cx.ann.kinds)
theorem jm{p:Pg}(hO:cL p)(hc:∀f,bz (call f) fun n=>calls n f)(hfx:lg fx fxs)(hfc:ri fx)(hfcs:∀n,ri (fxs n))(f:FuncId):bz (fw p call fx f) fun n=>fw p (calls n) (fxs n) f:=by
 intro args;unfold fw;cases ho:p.other f with
 |some E=>exact hO f E ho call calls hc args
 | none=>
  simp only;cases p.funcs f with
  |none=>exact aL.const _
  |some x=>
   obtain⟨fn,a⟩:=x;simp only;have hb:=ub (cx:=p.cx call fn.ntmps a) hc hfx hfc hfcs fn (p.own f);cases a.iso with
   |true=>exact zf hb args
   |false=>exact hb args
end
theorem l6{p:Pg}(hO:cL p):∀n f args,rf (b9 p n f args) (b9 p (n+1) f args)
 |0,f,args=>fun x hne=>absurd rfl hne
 | n+1,f,args=>by
  have hc:∀f,bz (b9 p (n+1) f) fun m=>(if m=0 then b9 p n else b9 p (n+1)) f:=by
   intro f args x;refine⟨fun _=>⟨1,fun m hm=>?_⟩,fun m hne=>?_⟩
   ·(try dsimp only)
    rw[if_neg (by omega)]
   ·(try dsimp only at hne |-)
    by_cases h0:m=0
    ·rw[Kn h0]at hne |-;exact l6 hO n f args x hne
    ·rw[if_neg h0]
  have h:=jm hO hc (r5 n) (iR (n+1)) (fun m=>by
   by_cases h0:m=0
   ·rw[Kn h0];exact iR n
   ·rw[if_neg h0];exact iR (n+1)) f args
  intro x hne
  have:=(h x).2 0
  (try dsimp only at this)
  rw[Kn rfl,Kn rfl]at this;exact this hne
def qv{p:Pg}(hO:cL p){n m:Nat}(h:n<=m)(f:FuncId)(args:List AV):rf (b9 p n f args) (b9 p m f args):=by
 induction m with
 | zero => have:n=0:=by omega
           subst this;exact .refl _
 |succ m ih=>
  by_cases hn:n=m+1
  ·subst hn;exact .refl _
  ·exact (ih (by omega)).trans (l6 hO m f args)
open Classical in
noncomputable def ai(p:Pg)(f:FuncId)(args:List AV):M AV:=fun h=>if hx:∃n,b9 p n f args h≠.fail then b9 p (Classical.choose hx) f args h else .fail
def gK{p:Pg}(hO:cL p)(f:FuncId):bz (ai p f) fun n=>b9 p n f:=by
 intro args h;refine pk (fun n m hnm hne=>qv hO hnm f args h hne) ?_;unfold ai;by_cases hx:∃n,b9 p n f args h≠.fail
 ·left;simp only[dif_pos hx];exact⟨_,Mn hx,rfl⟩
 ·right;simp only[dif_neg hx];exact⟨fun n=>ME fun h=>hx ⟨n,h⟩,trivial⟩
def mU.uniq{α:Type}{a a':R α}{b:Nat->R α}(h:mU a b)(g:mU a' fun n=>b (n+1)):a=a':=by
 by_cases ha:a= .fail
 ·by_cases ha':a'= .fail
  ·rw[ha,ha']
  ·obtain⟨N,hN⟩:=g.1 ha';have h1:=hN N (Kk _)
   (try dsimp only at h1)
   exact (h.2 (N+1) (by rw[h1];exact ha')).symm.trans h1
 ·obtain⟨N,hN⟩:=h.1 ha;have h1:=hN (N+1) (by omega);have h2:=g.2 N
  (try dsimp only at h2)
  exact h1.symm.trans (h2 (by rw[h1];exact ha))
def kg{p:Pg}(hO:cL p)(f:FuncId)(args:List AV):ai p f args=fw p (ai p) ak f args:=by
 funext h;have h1:=gK hO f args h;have h2:=jm hO (fun f=>gK hO f) mb uj (fun n=>iR n) f args h;exact h1.uniq h2
def rF[Dr]{P:Program}{p:Pg}(G:GoodPg P p)(hO:cL p):ci P p.own (ai p):=by
 intro f args h S β w vs hr hg hw hh hv;obtain⟨N,hN⟩:=(gK hO f args h).1 hr;have h1:=hN N (Kk _)
 (try dsimp only at h1)
 rw[<- h1]at hr |-;exact kp G N f args h S β w vs hr hg hw hh hv
def yy{p:Pg}(hO:cL p){n:Nat}{f:FuncId}{args:List AV}{h:Hp}{r:R AV}(hr:b9 p n f args h=r)(hne:r≠.fail):ai p f args h=r:=by
 have:=(gK hO f args h).2 n (by(try dsimp only);rw[hr];exact hne)
 (try dsimp only at this)
 rw[<- this,hr]
end Go.Av
namespace Go.Av
section
variable {ρ:Type}
theorem bq{F:(List AV->M ρ)->List AV->M ρ}(hF:jE F)(vs:List AV):ak F vs=F (ak F) vs:=by
 funext h;exact (eZ hF vs h).uniq (hF _ _ (eZ hF) vs h)
theorem aB{c:AV}{x y:M ρ}{xs ys:Nat->M ρ}(hx:aL x xs)(hy:aL y ys):aL (az c x y) fun n=>az c (xs n) (ys n):=by
 unfold az;cases c with
 |bool b=>cases b<;>first|exact hx|exact hy
 |_=>exact aL.const _
theorem wV{F:(List AV->M ρ)->List AV->M ρ}{Fs:Nat->(List AV->M ρ)->List AV->M ρ}(h1:cf F Fs)(h2:jE F)(h3:∀n,jE (Fs n)):bz (ak F) fun n=>ak (Fs n):=uj F Fs h1 h2 h3
end
end Go.Av
namespace Go.Av
def aH(m:M AV):M AV:=fun h=>match m []with
 |.ok r h'=>.ok (iU 6 h' r) h
 |.pan v h'=>.pan (iU 6 h' v) h
 |.fail=>.fail
def aA{p:Pg}(hO:cL p){f:FuncId}{fn:Func}{a:Ann}(h1:p.other f=none)(h2:p.funcs f=some (fn,a))(h3:a.iso=true)(args:List AV):
  ai p f args=aH (b6 (p.cx (ai p) fn.ntmps a) ak fn (p.own f) (de ar args)):=by
 rw[kg hO];unfold fw;rw[h1];simp only;rw[h2];simp only[h3,Kh];rfl
def cr{p:Pg}(hO:cL p){f:FuncId}{fn:Func}{a:Ann}(h1:p.other f=none)(h2:p.funcs f=some (fn,a))(h3:a.iso=false)(args:List AV):
  ai p f args=b6 (p.cx (ai p) fn.ntmps a) ak fn (p.own f) args:=by
 rw[kg hO];unfold fw;rw[h1];simp only;rw[h2];simp only[h3,Km]
def gn{p:Pg}(hO:cL p){f:FuncId}{E:(FuncId->List AV->M AV)->List AV->M AV}(h1:p.other f=some E)(args:List AV):ai p f args=E (ai p) args:=by
 rw[kg hO];unfold fw;rw[h1]
def dX(T:TT)(t:TypeId):(FuncId->List AV->M AV)->List AV->M AV:=fun _ args=>match args with
 |[.sl es]=>ah (cu T t (.sl []) (.sl es))
 |_=>M.fail
def dW(T:TT)(t:TypeId):(FuncId->List AV->M AV)->List AV->M AV:=fun _ args=>match args with
 |[.sl es]=>appH T t true (.sl []) (.sl es)
 |_=>M.fail
def q7(t:TypeId)(k:IntKind)(zero:AV):R AV->R AV
 |.ok v h'=>bif bv 4 v then .ok (.tup [.agg (aa v),.int k 0]) h' else .fail
 |.pan (.iface t' (.int k' n)) h'=>bif Nat.beq t' t&&decide (k'=k)then .ok (.tup [zero,.int k n]) h' else .fail
 |_=>.fail
def tp(t:TypeId)(k:IntKind)(zero:AV):(FuncId->List AV->M AV)->List AV->M AV:=fun call args=>match args with
 |[f]=>fun h=>q7 t k zero (bO call f [] h)
 |_=>M.fail
def zw{m:M AV}{ms:Nat->M AV}(p:R AV->R AV)(hp:p .fail= .fail)(h:aL m ms):aL (fun x=>p (m x)) fun n=>fun x=>p (ms n x):=by
 intro x;obtain⟨h1,h2⟩:=h x;constructor
 ·intro hne;obtain⟨N,hN⟩:=h1 (fun hh=>hne (by simp only[hh,hp]));exact⟨N,fun n hn=>Kv p (hN n hn)⟩
 ·intro n hne;exact Kv p (h2 n (fun hh=>hne (by have:=Kv p hh;simpa [hp]using this)))
def nc(T:TT)(t:TypeId)(call:FuncId->List AV->M AV)(calls:Nat->FuncId->List AV->M AV):bz (dX T t call) fun n=>dX T t (calls n):=bz.const _
def tS(T:TT)(t:TypeId)(call:FuncId->List AV->M AV)(calls:Nat->FuncId->List AV->M AV):bz (dW T t call) fun n=>dW T t (calls n):=bz.const _
def zU(t:TypeId)(k:IntKind)(zero:AV)(call:FuncId->List AV->M AV)(calls:Nat->FuncId->List AV->M AV)(hc:∀f,bz (call f) fun n=>calls n f):bz (tp t k zero call) fun n=>tp t k zero (calls n):=by
 have hv:∀f,aL (bO call f []) fun n=>bO (calls n) f []:=by
  intro f;unfold bO;split
  ·exact hc _ _
  ·exact aL.const _
 intro args;cases args with
 |nil=>exact aL.const _
 |cons f r=>
  cases r with
  |nil=>exact zw (q7 t k zero) rfl (hv f)
  |cons _ _=>exact aL.const _
def dp{α:Type}{b:Bool}{x:α}{o:Option α}{y:α}(h:(bif b then some x else o)=some y):x=y\/o=some y:=by
 cases b with
 |true=>exact .inl (by simpa using h)
 |false=>exact .inr h
def wO(T:TT)(t:TypeId)(call:FuncId->List AV->M AV)(args:List AV):tG (dW T t call args):=by
 unfold dW;split
 ·rename_i y;intro h v h' hh;unfold appH at hh;split at hh
  ·cases hh
  ·split at hh
   ·split at hh
    ·cases hh
    ·split at hh
     ·cases hh
     ·rename_i bs _;revert hh;generalize (_&&_:Bool)=b1;cases b1 with
      |false=>intro hh;cases hh
      | true=>
       simp only[Kh];cases bs.isEmpty with
       |true=>intro hh;cases hh;exact⟨[],by simp⟩
       |false=>
        simp only[Km];generalize decide (_<=140737488355328)=b2;cases b2 with
        |false=>intro hh;cases hh
        |true=>intro hh;cases hh;exact⟨_,rfl⟩
   ·cases hh
 ·intro h v h' hh;cases hh
end Go.Av
namespace Go.Av
variable [Dr]
open Go.RowKit
section
variable {S:aw} {β:List bw} {h:Hp} {w w':World}
omit [Dr]in
theorem cD.below(hh:cD S β w h){S':aw}(hb:∀b,b<w.heap.size->w'.heap[b]? = w.heap[b]? /\∀o,S' b o=S b o)(hle:S.le S'):cD S' β w' h:=by
 obtain⟨hlen,ω,hr⟩:=hh;exact⟨hlen,ω,hr.rows hle (eC.refl β) hlen fun l cs hl _=>.inl ⟨hl,fun b hlt ho=>⟨ho,(hb b hlt).1,fun o h=>by rw[(hb b hlt).2];exact h⟩⟩⟩
theorem nN(hw:Wf S w)(hh:cD S β w h)(hb:Below w.heap.size w w')(hd:Dr.on->w.drawn<=w'.drawn){S':aw}(hS:∀b,b<w.heap.size->∀o,S' b o=S b o)(hnew:∀b o v,w.heap.size<=b->S' b o=some v->w'.cell? ⟨b,o,none⟩=some v):
  Left (bZ β h) S β w S' β w' h:=by
 have hle:S.le S':=fun b o v hv=>by rw[hS b (hw.lt hv)];exact hv
 refine⟨hle,eC.refl β,fun b o v hv=>?_,⟨hb.size,hb.os,hb.output,hb.tape,hd⟩,fun b hlt _=>⟨hb.block b hlt,hS b hlt⟩,hh.below (fun b hlt=>⟨hb.block b hlt,hS b hlt⟩) hle,fun b hb=>.inl hb⟩;rcases KD b w.heap.size with hlt|hge
 ·rw[hS b hlt]at hv;rw[cell_of_heap (hb.block b hlt)];exact hw b o v hv
 ·exact hnew b o v hge hv
theorem lX(hw:Wf S w)(hh:cD S β w h)(hb:Below w.heap.size w w')(hd:Dr.on->w.drawn<=w'.drawn){r:AV}{v:Value}(hv:VR S β r v):d7 none S β h w (.ok r h) (.returned v) w':=
 ⟨S,β,v,rfl,hv,nN hw hh hb hd (fun _ _ _=>rfl) (fun b o v hge hv=>by have:=hw.lt hv;omega),fun sz hsz=>by cases hsz⟩
end
end Go.Av
namespace Go.Av
variable [Dr]
def jl:(FuncId->List AV->M AV)->List AV->M AV:=fun _ args=>match args with
 |[.str s,.str t]=>ah (bif decide (s.length<4294967281)then some (.bool (Lib.contains s t))else none)
 |_=>M.fail
def vK:AV->Option (List UInt8×Int×List AV)
 |.agg [.str n,.int .i64 k,.sl fs]=>some (n,k,fs)
 |_=>none
def fX:List AV->Option (List (List UInt8×Int×List AV))
 |[]=>some []
 |x:: r=>match vK x,fX r with
  |some z,some l=>some (z:: l)
  |_,_=>none
def iY{α:Type}(p:α->Bool):List α->Option α
 |[]=>none
 |z:: r=>match iY p r with
  |some y=>some y
  |none=>bif p z then some z else none
def zm(l:List (List UInt8×Int×List AV))(name:List UInt8):AV:=match iY (fun z=>z.1== name) l with
 |some z=>.tup [.agg [.int .i64 z.2.1,.sl z.2.2],.bool true]
 |none=>.tup [.agg [.int .i64 0,.sl []],.bool false]
def mN:(FuncId->List AV->M AV)->List AV->M AV:=fun _ args=>match args with
 |[.sl es,.str name]=>(match fX es with
  |some l=>ah (bif decide (l.length<=1000000000)then some (zm l name)else none)
  |none=>M.fail)
 |_=>M.fail
omit [Dr]in
theorem oW{α:Type}(p:α->Bool)(l:List α):iY p l=l.reverse.find? p:=by
 induction l with
 |nil=>rfl
 |cons z r ih=>
  simp only[iY,ih,List.reverse_cons,List.find?_append];cases r.reverse.find? p with
  |some y=>rfl
  |none=>cases h:p z<;>simp[h]
end Go.Av
namespace Go.Av.Ap
abbrev bA:=List UInt8
inductive Val where
 |mk (kind n:Int) (names:List bA) (values:List Val)
instance:Inhabited Val:=⟨.mk 0 0 [] []⟩
inductive Exp where
 |mk (op n:Int) (s m:bA) (names:List bA) (args:List Exp)
instance:Inhabited Exp:=⟨.mk 0 0 [] [] [] []⟩
inductive Ty where
 |mk (kind:Int) (fields:List (bA×Ty))
instance:Inhabited Ty:=⟨.mk 0 []⟩
abbrev hP:=bA×Ty
structure Fun where
 name:bA
 pub:Bool
 params:List hP
 result:Ty
 effects:Int
 body:Exp
 deriving Inhabited
structure Mod where
 name:bA
 uses:List bA
 vars:List hP
 init:List Exp
 funcs:List Fun
 moves:Bool
 old:List hP
 forward:List Exp
 back:List Exp
 deriving Inhabited
def Val.kind:Val->Int|.mk k _ _ _=>k
def Val.n:Val->Int|.mk _ n _ _=>n
def Val.names:Val->List bA|.mk _ _ ns _=>ns
def Val.values:Val->List Val|.mk _ _ _ vs=>vs
def Exp.op:Exp->Int|.mk o _ _ _ _ _=>o
def Exp.n:Exp->Int|.mk _ n _ _ _ _=>n
def Exp.s:Exp->bA|.mk _ _ s _ _ _=>s
def Exp.m:Exp->bA|.mk _ _ _ m _ _=>m
def Exp.names:Exp->List bA|.mk _ _ _ _ ns _=>ns
def Exp.args:Exp->List Exp|.mk _ _ _ _ _ es=>es
def Ty.kind:Ty->Int|.mk k _=>k
def Ty.fields:Ty->List hP|.mk _ fs=>fs
@[simp] theorem Kb(a b c d):(Val.mk a b c d).kind=a:=rfl
@[simp] theorem Ke(a b c d):(Val.mk a b c d).n=b:=rfl
@[simp] theorem J4(a b c d):(Val.mk a b c d).names=c:=rfl
@[simp] theorem J2(a b c d):(Val.mk a b c d).values=d:=rfl
def strs(l:List bA):AV:=.sl (l.map .str)
mutual
def Val.av:Val->AV
 |.mk k n ns vs=>.agg [.int .i64 k,.int .i64 n,strs ns,.sl (dn vs)]
def dn:List Val->List AV
 |[]=>[]
 |v:: vs=>v.av:: dn vs
end
mutual
def Exp.cells:Exp->List AV
 |.mk o n s m ns es=>[.int .i64 o,.int .i64 n,.str s,.str m,strs ns,.sl (fj es)]
def fj:List Exp->List AV
 |[]=>[]
 |e:: es=>.agg e.cells:: fj es
end
def Exp.av(e:Exp):AV:=.agg e.cells
mutual
def Ty.cells:Ty->List AV
 |.mk k fs=>[.int .i64 k,.sl (fk fs)]
def fk:List (bA×Ty)->List AV
 |[]=>[]
 |f:: fs=>dz f:: fk fs
def dz:bA×Ty->AV
 |(n,t)=>.agg (.str n:: t.cells)
end
def Ty.av(t:Ty):AV:=.agg t.cells
def Fun.av(f:Fun):AV:=.agg ([.str f.name,.bool f.pub,.sl (fk f.params)]++f.result.cells++[.int .i64 f.effects]++f.body.cells)
def kD(l:List Fun):AV:=.sl (l.map Fun.av)
def Mod.av(m:Mod):AV:=.agg [.str m.name,strs m.uses,.sl (fk m.vars),.sl (fj m.init),kD m.funcs,.bool m.moves,.sl (fk m.old),.sl (fj m.forward),.sl (fj m.back)]
def vals(l:List Val):AV:=.sl (dn l)
def dj(l:List Exp):AV:=.sl (fj l)
def cF(l:List hP):AV:=.sl (fk l)
def mods(l:List Mod):AV:=.sl (l.map Mod.av)
def ints(l:List Int):AV:=.sl (l.map (.int .i64))
structure Vars where
 module:bA
 values:List Val
 deriving Inhabited
structure Deed where
 effect:Int
 arg:Int
 answer:Int
 deriving DecidableEq,Inhabited
structure Call where
 module:bA
 func:bA
 args:List Val
 deriving Inhabited
def Vars.av(v:Vars):AV:=.agg [.str v.module,vals v.values]
def Deed.av(d:Deed):AV:=.agg [.int .i64 d.effect,.int .i64 d.arg,.int .i64 d.answer]
def Call.av(c:Call):AV:=.agg [.str c.module,.str c.func,vals c.args]
def bJ(l:List Vars):AV:=.sl (l.map Vars.av)
def deeds(l:List Deed):AV:=.sl (l.map Deed.av)
def calls(l:List Call):AV:=.sl (l.map Call.av)
structure Out where
 err:Int
 value:Val
 deeds:List Deed
 calls:List Call
 state:List Vars
def Out.av(o:Out):AV:=.agg [.int .i64 o.err,.int .i64 o.value.kind,.int .i64 o.value.n,strs o.value.names,vals o.value.values,Ap.deeds o.deeds,Ap.calls o.calls,bJ o.state]
theorem cU:(l:List Val)->dn l=l.map Val.av
 |[]=>rfl
 |v:: l=>by simp[dn,cU l]
theorem fU:(l:List Exp)->fj l=l.map Exp.av
 |[]=>rfl
 |v:: l=>by simp[fj,fU l,Exp.av]
theorem fW:(l:List hP)->fk l=l.map dz
 |[]=>rfl
 |v:: l=>by simp[fk,fW l]
def Val.av_eq(v:Val):v.av= .agg [.int .i64 v.kind,.int .i64 v.n,strs v.names,vals v.values]:=by cases v;rfl
def Exp.cells_eq(e:Exp):e.cells=[.int .i64 e.op,.int .i64 e.n,.str e.s,.str e.m,strs e.names,dj e.args]:=by cases e;rfl
def Ty.cells_eq(t:Ty):t.cells=[.int .i64 t.kind,cF t.fields]:=by cases t;simp[Ty.cells,cF,Ty.kind,Ty.fields]
def ky(f:hP):dz f= .agg [.str f.1,.int .i64 f.2.kind,cF f.2.fields]:=by obtain⟨n,t⟩:=f;simp[dz,Ty.cells_eq]
@[simp] theorem cR(v:Val):aa v.av=[.int .i64 v.kind,.int .i64 v.n,strs v.names,vals v.values]:=by rw[v.av_eq];rfl
@[simp] theorem bE(e:Exp):aa e.av=[.int .i64 e.op,.int .i64 e.n,.str e.s,.str e.m,strs e.names,dj e.args]:=by rw[Exp.av,e.cells_eq];rfl
@[simp] theorem jN(f:hP):aa (dz f)=[.str f.1,.int .i64 f.2.kind,cF f.2.fields]:=by rw[ky];rfl
@[simp] theorem o7(t:Ty):aa t.av=[.int .i64 t.kind,cF t.fields]:=by rw[Ty.av,t.cells_eq];rfl
@[simp] theorem fQ(f:Fun):aa f.av=[.str f.name,.bool f.pub,cF f.params,.int .i64 f.result.kind,cF f.result.fields,.int .i64 f.effects,.int .i64 f.body.op,.int .i64 f.body.n,.str f.body.s,.str f.body.m,strs f.body.names,dj f.body.args]:=by
 simp[Fun.av,aa,Ty.cells_eq,Exp.cells_eq,cF]
@[simp] theorem eE(m:Mod):aa m.av=[.str m.name,strs m.uses,cF m.vars,dj m.init,kD m.funcs,.bool m.moves,cF m.old,dj m.forward,dj m.back]:=rfl
@[simp] theorem se(v:Val):AV.agg [.int .i64 v.kind,.int .i64 v.n,strs v.names,vals v.values]=v.av:=(v.av_eq).symm
@[simp] theorem r6(e:Exp):AV.agg [.int .i64 e.op,.int .i64 e.n,.str e.s,.str e.m,strs e.names,dj e.args]=e.av:=by rw[Exp.av,e.cells_eq]
@[simp] theorem vL(t:Ty):AV.agg [.int .i64 t.kind,cF t.fields]=t.av:=by rw[Ty.av,t.cells_eq]
@[simp] theorem r7(f:hP):AV.agg [.str f.1,.int .i64 f.2.kind,cF f.2.fields]=dz f:=(ky f).symm
@[simp] theorem r8(f:Fun):AV.agg [.str f.name,.bool f.pub,cF f.params,.int .i64 f.result.kind,cF f.result.fields,.int .i64 f.effects,.int .i64 f.body.op,.int .i64 f.body.n,.str f.body.s,.str f.body.m,strs f.body.names,dj f.body.args]=f.av:=by
 simp[Fun.av,Ty.cells_eq,Exp.cells_eq,cF]
@[simp] theorem r9(m:Mod):AV.agg [.str m.name,strs m.uses,cF m.vars,dj m.init,kD m.funcs,.bool m.moves,cF m.old,dj m.forward,dj m.back]=m.av:=rfl
theorem cZ{α:Type}(g:Nat->Nat->Nat->Nat->Bool->AV)(f:α->AV)(h:∀x,cl g (f x)=f x):(l:List α)->de g (l.map f)=l.map f
 |[]=>rfl
 |x:: l=>by simp[de,h x,cZ g f h l]
@[simp] theorem ki(g:Nat->Nat->Nat->Nat->Bool->AV)(l:List bA):cl g (strs l)=strs l:=by
 simp[strs,cl,cZ g AV.str (fun _=>rfl) l]
@[simp] theorem qk(g:Nat->Nat->Nat->Nat->Bool->AV)(l:List Int):cl g (ints l)=ints l:=by
 simp[ints,cl,cZ g (AV.int .i64) (fun _=>rfl) l]
mutual
theorem Val.cl_av(g:Nat->Nat->Nat->Nat->Bool->AV):(v:Val)->cl g v.av=v.av
 |.mk k n ns vs=>by simp[Val.av,cl,de,rb g vs]
theorem rb(g:Nat->Nat->Nat->Nat->Bool->AV):(l:List Val)->de g (dn l)=dn l
 |[]=>rfl
 |v:: l=>by simp[dn,de,Val.cl_av g v,rb g l]
end
mutual
theorem Exp.cl_cells(g:Nat->Nat->Nat->Nat->Bool->AV):(e:Exp)->de g e.cells=e.cells
 |.mk o n s m ns es=>by simp[Exp.cells,cl,de,mK g es]
theorem mK(g:Nat->Nat->Nat->Nat->Bool->AV):(l:List Exp)->de g (fj l)=fj l
 |[]=>rfl
 |e:: l=>by simp[fj,de,cl,Exp.cl_cells g e,mK g l]
end
mutual
theorem Ty.cl_cells(g:Nat->Nat->Nat->Nat->Bool->AV):(t:Ty)->de g t.cells=t.cells
 |.mk k fs=>by simp[Ty.cells,cl,de,kz g fs]
theorem kz(g:Nat->Nat->Nat->Nat->Bool->AV):(l:List (bA×Ty))->de g (fk l)=fk l
 |[]=>rfl
 |f:: l=>by simp[fk,de,yV g f,kz g l]
theorem yV(g:Nat->Nat->Nat->Nat->Bool->AV):(f:bA×Ty)->cl g (dz f)=dz f
 |(n,t)=>by simp[dz,cl,de,Ty.cl_cells g t]
end
@[simp] theorem ln(g:Nat->Nat->Nat->Nat->Bool->AV)(v:Val):cl g v.av=v.av:=v.cl_av g
@[simp] theorem ie(g:Nat->Nat->Nat->Nat->Bool->AV)(l:List Val):cl g (vals l)=vals l:=by simp[vals,cl,rb]
@[simp] theorem yA(g:Nat->Nat->Nat->Nat->Bool->AV)(e:Exp):cl g e.av=e.av:=by simp[Exp.av,cl,Exp.cl_cells]
@[simp] theorem AO(g:Nat->Nat->Nat->Nat->Bool->AV)(l:List Exp):cl g (dj l)=dj l:=by simp[dj,cl,mK]
@[simp] theorem CM(g:Nat->Nat->Nat->Nat->Bool->AV)(t:Ty):cl g t.av=t.av:=by simp[Ty.av,cl,Ty.cl_cells]
@[simp] theorem Jm(g:Nat->Nat->Nat->Nat->Bool->AV)(f:hP):cl g (dz f)=dz f:=yV g f
@[simp] theorem AP(g:Nat->Nat->Nat->Nat->Bool->AV)(l:List hP):cl g (cF l)=cF l:=by simp[cF,cl,kz]
theorem nd(g:Nat->Nat->Nat->Nat->Bool->AV):(a b:List AV)->de g (a++b)=de g a++de g b
 |[],b=>rfl
 |x:: a,b=>by simp[de,nd g a b]
@[simp] theorem yB(g:Nat->Nat->Nat->Nat->Bool->AV)(f:Fun):cl g f.av=f.av:=by
 simp[Fun.av,cl,de,nd,kz,Ty.cl_cells,Exp.cl_cells]
@[simp] theorem AQ(g:Nat->Nat->Nat->Nat->Bool->AV)(l:List Fun):cl g (kD l)=kD l:=by simp[kD,cl,cZ g Fun.av (yB g)]
@[simp] theorem En(g:Nat->Nat->Nat->Nat->Bool->AV)(m:Mod):cl g m.av=m.av:=by
 simp[Mod.av,cl,de,kz,mK,AQ]
@[simp] theorem ic(g:Nat->Nat->Nat->Nat->Bool->AV)(l:List Mod):cl g (mods l)=mods l:=by simp[mods,cl,cZ g Mod.av (En g)]
@[simp] theorem Jn(g:Nat->Nat->Nat->Nat->Bool->AV)(k:IntKind)(n:Int):cl g (.int k n)= .int k n:=rfl
@[simp] theorem It(g:Nat->Nat->Nat->Nat->Bool->AV)(b:Bool):cl g (.bool b)= .bool b:=rfl
@[simp] theorem Jo(g:Nat->Nat->Nat->Nat->Bool->AV)(s:bA):cl g (.str s)= .str s:=rfl
@[simp] theorem AW(g:Nat->Nat->Nat->Nat->Bool->AV)(v:Vars):cl g v.av=v.av:=by simp[Vars.av,cl,de]
@[simp] theorem AM(g:Nat->Nat->Nat->Nat->Bool->AV)(v:Deed):cl g v.av=v.av:=by simp[Deed.av,cl,de]
@[simp] theorem AL(g:Nat->Nat->Nat->Nat->Bool->AV)(v:Call):cl g v.av=v.av:=by simp[Call.av,cl,de]
@[simp] theorem rK(g:Nat->Nat->Nat->Nat->Bool->AV)(l:List Vars):cl g (bJ l)=bJ l:=by simp[bJ,cl,cZ g Vars.av (AW g)]
@[simp] theorem Hb(g:Nat->Nat->Nat->Nat->Bool->AV)(l:List Deed):cl g (deeds l)=deeds l:=by simp[deeds,cl,cZ g Deed.av (AM g)]
@[simp] theorem rH(g:Nat->Nat->Nat->Nat->Bool->AV)(l:List Call):cl g (calls l)=calls l:=by simp[calls,cl,cZ g Call.av (AL g)]
@[simp] theorem ll(g:Nat->Nat->Nat->Nat->Bool->AV)(o:Out):cl g o.av=o.av:=by simp[Out.av,cl,de]
@[simp] theorem lT(v:Vars):aa v.av=[.str v.module,vals v.values]:=rfl
@[simp] theorem lR(v:Deed):aa v.av=[.int .i64 v.effect,.int .i64 v.arg,.int .i64 v.answer]:=rfl
@[simp] theorem gm(v:Call):aa v.av=[.str v.module,.str v.func,vals v.args]:=rfl
@[simp] theorem jO(o:Out):aa o.av=[.int .i64 o.err,.int .i64 o.value.kind,.int .i64 o.value.n,strs o.value.names,vals o.value.values,deeds o.deeds,calls o.calls,bJ o.state]:=rfl
@[simp] theorem pw(v:Vars):AV.agg [.str v.module,vals v.values]=v.av:=rfl
@[simp] theorem pt(v:Deed):AV.agg [.int .i64 v.effect,.int .i64 v.arg,.int .i64 v.answer]=v.av:=rfl
@[simp] theorem pr(v:Call):AV.agg [.str v.module,.str v.func,vals v.args]=v.av:=rfl
@[simp] theorem ny(o:Out):AV.agg [.int .i64 o.err,.int .i64 o.value.kind,.int .i64 o.value.n,strs o.value.names,vals o.value.values,deeds o.deeds,calls o.calls,bJ o.state]=o.av:=rfl
@[simp] theorem FV(v:Vars):bT v.av=some 2:=rfl
@[simp] theorem FS(v:Deed):bT v.av=some 3:=rfl
@[simp] theorem FQ(v:Call):bT v.av=some 3:=rfl
@[simp] theorem HS(v:Out):bT v.av=some 8:=rfl
@[simp] theorem jp(v:Vars):bv 2 v.av=true:=by simp[bv,aI,vals]
@[simp] theorem lG(v:Deed):bv 3 v.av=true:=by simp[bv,aI]
@[simp] theorem pL(v:Call):bv 3 v.av=true:=by simp[bv,aI,vals]
@[simp] theorem gZ(v:Out):bv 8 v.av=true:=by simp[bv,aI,vals,strs,deeds,calls,bJ]
def Clean(a:AV):Prop:=∀g,cl g a=a
def Clean.frz{a:AV}(h:Clean a)(d:Nat)(hp:Hp):iU d hp a=a:=by
 cases d with
 |zero=>exact h _
 |succ d=>exact h _
def bm{a:AV}(h:Clean a):aH (M.pure a)=M.pure a:=by
 funext hp;simp only[aH,M.pure,h.frz]
@[simp] theorem FA(b:Bool):aH (M.pure (.bool b))=M.pure (.bool b):=bm fun _=>rfl
@[simp] theorem kI(k:IntKind)(n:Int):aH (M.pure (.int k n))=M.pure (.int k n):=bm fun _=>rfl
@[simp] theorem HA(s:bA):aH (M.pure (.str s))=M.pure (.str s):=bm fun _=>rfl
@[simp] theorem HB(v:Val):aH (M.pure v.av)=M.pure v.av:=bm fun g=>ln g v
@[simp] theorem FD(v:List Val):aH (M.pure (vals v))=M.pure (vals v):=bm fun g=>ie g v
@[simp] theorem Hv(v:Exp):aH (M.pure v.av)=M.pure v.av:=bm fun g=>yA g v
@[simp] theorem Hw(v:Fun):aH (M.pure v.av)=M.pure v.av:=bm fun g=>yB g v
@[simp] theorem HV(v:Val):bT v.av=some 4:=by rw[v.av_eq];rfl
@[simp] theorem HO(e:Exp):bT e.av=some 6:=by rw[Exp.av,e.cells_eq];rfl
@[simp] theorem HP(f:hP):bT (dz f)=some 3:=by rw[ky];rfl
@[simp] theorem Iv(t:Ty):bT t.av=some 2:=by rw[Ty.av,t.cells_eq];rfl
@[simp] theorem HQ(f:Fun):bT f.av=some 12:=by simp[Fun.av,bT,Ty.cells_eq,Exp.cells_eq]
@[simp] theorem HR(m:Mod):bT m.av=some 9:=rfl
@[simp] theorem c9(v:Val):bv 4 v.av=true:=by simp[bv,aI,strs,vals]
@[simp] theorem gX(e:Exp):bv 6 e.av=true:=by simp[bv,aI,strs,dj]
@[simp] theorem kO(f:hP):bv 3 (dz f)=true:=by simp[bv,aI,cF]
@[simp] theorem i5(f:Fun):bv 12 f.av=true:=by simp[bv,aI,cF,strs,dj]
@[simp] theorem gY(m:Mod):bv 9 m.av=true:=by simp[bv,aI,cF,strs,dj,kD]
@[simp] theorem zr(s:bA):bv 1 (.str s)=true:=rfl
@[simp] theorem zp(k:IntKind)(n:Int):bv 1 (.int k n)=true:=rfl
def cy{α:Type}{sz:Nat}{f:α->AV}(h:∀x,bv sz (f x)=true)(l:List α):cn sz (l.map f)=true:=by simp[cn,h]
@[simp] theorem FO(l:List bA):cn 1 (l.map AV.str)=true:=cy zr l
@[simp] theorem xv(l:List Int):cn 1 (l.map (AV.int .i64))=true:=cy (zp .i64) l
@[simp] theorem xw(l:List Val):cn 4 (dn l)=true:=by rw[cU];exact cy c9 l
@[simp] theorem FH(l:List Exp):cn 6 (fj l)=true:=by rw[fU];exact cy gX l
@[simp] theorem FI(l:List hP):cn 3 (fk l)=true:=by rw[fW];exact cy kO l
@[simp] theorem FJ(l:List Fun):cn 12 (l.map Fun.av)=true:=cy i5 l
@[simp] theorem FK(l:List Mod):cn 9 (l.map Mod.av)=true:=cy gY l
def nJ{T:TT}{t e:Nat}{ti ei:TI}(ht:T t=some ti)(hk:ti.kind= .slice e)(he:T e=some ei){α:Type}{f:α->AV}(hs:∀x,bT (f x)=some ei.size){l:List α}{i:Nat}{x:α}(h:l[i]? = some x):
  aj T t (.sl (l.map f)) (.int .i64 (i:Int))=some (.ip (aa (f x))):=by
 unfold aj;rw[ht];simp only[hk,he];rw[if_neg (by omega)];have:(l.map f)[(i:Int).toNat]? = some (f x):=by rw[LP,KX,h];rfl
 rw[this];simp only;rw[Kn (hs x)]
def bU{T:TT}{t e:Nat}{ti ei:TI}(ht:T t=some ti)(hk:ti.kind= .slice e)(he:T e=some ei){α:Type}[Inhabited α]{f:α->AV}(hs:∀x,bT (f x)=some ei.size){l:List α}{n:Int}(h0:0<=n)(h:n<(l.length:Int)):
  aj T t (.sl (l.map f)) (.int .i64 n)=some (.ip (aa (f l[n.toNat]!))):=by
 have hlt:n.toNat<l.length:=by omega
 have:=nJ ht hk he hs (l:=l) (i:=n.toNat) (x:=l[n.toNat]!) (by rw[List.getElem!_eq_getElem?_getD,Kl hlt];rfl)
 rw[show ((n.toNat:Nat):Int)=n by omega]at this;exact this
def iL{T:TT}{t e:Nat}{ti ei:TI}(ht:T t=some ti)(hk:ti.kind= .slice e)(he:T e=some ei){α:Type}{f:α->AV}(hs:∀x,bv ei.size (f x)=true){a b:List α}(h:(a.length+b.length)*ei.bytes<=140737488355328)(h0:0<ei.bytes):
  cu T t (.sl (a.map f)) (.sl (b.map f))=some (.sl ((a++b).map f)):=by
 unfold cu;rw[ht];simp only[hk,he,fq];rw[cy hs,cy hs];simp[h,h0,hG]
end Go.Av.Ap
namespace Go.Av
open Go.RowKit Go.Sort Go.Proofs
section
variable [Dr]
end
section
variable {α:Type} [Inhabited α]
end
section
variable [Dr] {S:aw} {β:List bw} {h:Hp} {w w':World}
end
theorem Kf{S:aw}{β:List bw}:{ps qs:List AV} ->{vs:List Value} ->bc S β (ps++qs) vs->∃u v,vs=u++v/\bc S β ps u/\bc S β qs v
 |[],_,vs,h=>⟨[],vs,rfl,by simp[bc],h⟩
 |_:: ps,qs,vs,h=>by
  simp only[KW,bc]at h;obtain⟨x,xs,rfl,h1,h2⟩:=h;obtain⟨u,v,rfl,h3,h4⟩:=Kf h2;exact⟨x:: u,v,rfl,by simp only[bc];exact⟨x,u,rfl,h1,h3⟩,h4⟩
section
variable [Dr] {α:Type} [Inhabited α] {P:Program}
end
end Go.Av
namespace Go.Av.Ap
open Go Go.Av
abbrev Ac:=bA×bA
def sV(r:Ac):AV:=.agg [.str r.1,.str r.2]
def sW(l:List Ac):AV:=.sl (l.map sV)
def uI(l:List (List Ac)):AV:=.sl (l.map sW)
@[simp] theorem Dc(r:Ac):aa (sV r)=[.str r.1,.str r.2]:=rfl
@[simp] theorem Ho(r:Ac):AV.agg [.str r.1,.str r.2]=sV r:=rfl
@[simp] theorem zq(r:Ac):bv 2 (sV r)=true:=rfl
@[simp] theorem FL(l:List Ac):cn 2 (l.map sV)=true:=cy zq l
@[simp] theorem Eo(g:Nat->Nat->Nat->Nat->Bool->AV)(r:Ac):cl g (sV r)=sV r:=rfl
@[simp] theorem AR(g:Nat->Nat->Nat->Nat->Bool->AV)(l:List Ac):cl g (sW l)=sW l:=by simp[sW,cl,cZ g sV (Eo g)]
@[simp] theorem Hd(g:Nat->Nat->Nat->Nat->Bool->AV)(l:List (List Ac)):cl g (uI l)=uI l:=by simp[uI,cl,cZ g sW (AR g)]
section
variable {V:Type}
end
end Go.Av.Ap
namespace Go.Av
open Go.RowKit Go.Sort Go.Proofs
section
variable [Dr] {P:Program}
end
end Go.Av
namespace Go.Av.Ap
def CU(l:List Ty):AV:=.sl (l.map Ty.av)
structure Sig where
 name:bA
 params:List Ty
 result:Ty
 effects:Int
 deriving Inhabited
structure Face where
 module:bA
 funcs:List Sig
 deriving Inhabited
structure Vsn where
 major:Int
 minor:Int
 patch:Int
 deriving Inhabited,DecidableEq
def Sig.cells(s:Sig):List AV:=[.str s.name,CU s.params,.int .i64 s.result.kind,cF s.result.fields,.int .i64 s.effects]
def Sig.av(s:Sig):AV:=.agg s.cells
def sigs(l:List Sig):AV:=.sl (l.map Sig.av)
def Face.cells(f:Face):List AV:=[.str f.module,sigs f.funcs]
def Face.av(f:Face):AV:=.agg f.cells
def vE(l:List Face):AV:=.sl (l.map Face.av)
def Vsn.av(v:Vsn):AV:=.agg [.int .i64 v.major,.int .i64 v.minor,.int .i64 v.patch]
@[simp] theorem m0(s:Sig):aa s.av=[.str s.name,CU s.params,.int .i64 s.result.kind,cF s.result.fields,.int .i64 s.effects]:=rfl
@[simp] theorem BS(f:Face):aa f.av=[.str f.module,sigs f.funcs]:=rfl
@[simp] theorem Dd(v:Vsn):aa v.av=[.int .i64 v.major,.int .i64 v.minor,.int .i64 v.patch]:=rfl
@[simp] theorem sb(s:Sig):AV.agg [.str s.name,CU s.params,.int .i64 s.result.kind,cF s.result.fields,.int .i64 s.effects]=s.av:=rfl
@[simp] theorem Fw(f:Face):AV.agg [.str f.module,sigs f.funcs]=f.av:=rfl
@[simp] theorem Hq(v:Vsn):AV.agg [.int .i64 v.major,.int .i64 v.minor,.int .i64 v.patch]=v.av:=rfl
@[simp] theorem mO(t:Ty):bv 2 t.av=true:=by simp[bv,aI,cF]
@[simp] theorem HK(l:List Ty):cn 2 (l.map Ty.av)=true:=cy mO l
@[simp] theorem HU(s:Sig):bT s.av=some 5:=rfl
@[simp] theorem FT(s:Face):bT s.av=some 2:=rfl
@[simp] theorem HX(s:Vsn):bT s.av=some 3:=rfl
@[simp] theorem nY(s:Sig):bv 5 s.av=true:=by simp[bv,aI,cF,CU]
@[simp] theorem xu(s:Face):bv 2 s.av=true:=by simp[bv,aI,sigs]
@[simp] theorem HJ(s:Vsn):bv 3 s.av=true:=rfl
@[simp] theorem FN(l:List Sig):cn 5 (l.map Sig.av)=true:=cy nY l
@[simp] theorem E1(l:List Face):cn 2 (l.map Face.av)=true:=cy xu l
@[simp] theorem Ep(g:Nat->Nat->Nat->Nat->Bool->AV)(l:List Ty):cl g (CU l)=CU l:=by simp[CU,cl,cZ g Ty.av (CM g)]
@[simp] theorem yD(g:Nat->Nat->Nat->Nat->Bool->AV)(s:Sig):cl g s.av=s.av:=by unfold Sig.av Sig.cells;simp only[cl,de,Ep,AP]
@[simp] theorem AU(g:Nat->Nat->Nat->Nat->Bool->AV)(l:List Sig):cl g (sigs l)=sigs l:=by simp[sigs,cl,cZ g Sig.av (yD g)]
@[simp] theorem vt(g:Nat->Nat->Nat->Nat->Bool->AV)(s:Face):cl g s.av=s.av:=by unfold Face.av Face.cells;simp only[cl,de,AU]
@[simp] theorem Hc(g:Nat->Nat->Nat->Nat->Bool->AV)(l:List Face):cl g (vE l)=vE l:=by simp[vE,cl,cZ g Face.av (vt g)]
@[simp] theorem Jp(g:Nat->Nat->Nat->Nat->Bool->AV)(s:Vsn):cl g s.av=s.av:=by unfold Vsn.av;simp only[cl,de]
@[simp] theorem Iu(v:Ty):aH (M.pure v.av)=M.pure v.av:=bm fun g=>CM g v
@[simp] theorem Hz(v:Sig):aH (M.pure v.av)=M.pure v.av:=bm fun g=>yD g v
@[simp] theorem FB(v:Face):aH (M.pure v.av)=M.pure v.av:=bm fun g=>vt g v
end Go.Av.Ap
namespace Go.Av
open Go.Av.Ap
def nG:(FuncId->List AV->M AV)->List AV->M AV:=fun _ args=>match args with
 |[.hn,.int .i64 n]=>ah (bif decide (0<=n)&&decide (n<=1000000)then some (.sl [])else none)
 |_=>M.fail
end Go.Av
namespace Go.Av
variable [Dr]
theorem iP{P:Program}{cx:Cx}{own:Option Nat}(hT:TOK P cx.T)(hC:ci P cx.own cx.call)(hI:IsoCall cx){f:FuncId}{fn:Func}(hf:P.funcs[f]? = some fn)(hnt:cx.nt=fn.ntmps){E:List AV->Hp->R AV}(h0:∀h,E [] h= .ok (.sl []) h)(h1:∀e es h,b6 cx (cm 0) fn own [.sl (e:: es)] h=E (e:: es) h)(h2:∀h,b6 cx (cm 0) fn own [.hn] h= .ok (.sl []) h)(h3:∀l off h,b6 cx (cm 0) fn own [.hs l off 0 1 false] h= .ok (.sl []) h){es:List AV}{h:Hp}{S:aw}{β:List bw}{w:World}{vs:List Value}(hr:E es h≠.fail)(hg:tA β h w)(hw:Wf S w)(hh:cD S β w h)(hv:bc S β [.sl es] vs):Calls P f vs.toArray w (d7 own S β h w (E es h))/\fn.body.isSome=true:=by
 cases es with
 |cons e es=>
  rw[<- h1]at hr |-;exact fR hT hC hI 0 hf hnt hr hg hw hh hv
 | nil=>
  rw[h0];simp only[bc]at hv;obtain⟨v,_,rfl,hv,rfl⟩:=hv;have hv0:=hv;simp only[VR]at hv;obtain⟨a,cap,rfl,hc,hn,hq⟩:=hv;cases a with
  |none=>
   have hcap:=hn rfl;subst hcap;have hv2:bc S β [.hn] [.slice none ([]:List AV).length 0]:=by simp[bc,VR]
   have:=fR (own:=own) hT hC hI 0 hf hnt (args:=[.hn]) (h:=h) (by rw[h2];simp) hg hw hh hv2
   rw[h2]at this;exact this
  | some q=>
   obtain⟨hs,_⟩:=hq q rfl;have hX:cD S [(q.block,q.off+cap)] w [[]]:=⟨rfl,fun _=>.no,fun l cs hl hne=>by
    cases l with
    |zero=>simp at hl;exact absurd hl hne
    |succ l=>simp at hl⟩
   have hE:∀b,¬bZ [(q.block,q.off+cap)] [[]] b:=by
    rintro b ⟨l,cs,n,k1,k2,_⟩;cases l with
    |zero=>simp at k1;exact k2 k1
    |succ l=>simp at k1
   have hv2:bc S [(q.block,q.off+cap)] [.hs 0 q.off 0 1 false] [.slice (some q) ([]:List AV).length cap]:=by
    simp only[bc,VR];rcases KY cap with h0|h0
    ·subst h0;exact⟨_,_,rfl,.inr ⟨trivial,q,rfl⟩,rfl⟩
    ·have hq':q=⟨q.block,q.off,none⟩:=by
      have:=hs h0
      cases q;simp_all
     exact⟨_,_,rfl,.inl ⟨(q.block,q.off+cap),cap,rfl,(by show q.off+cap≠0;omega),by rw[<- hq'];rfl,LF _,by simp⟩,rfl⟩
   have:=fR (own:=own) hT hC hI 0 hf hnt (args:=[.hs 0 q.off 0 1 false]) (h:=[[]]) (by rw[h3];simp) ⟨hg.1,fun b _=>hE b⟩ hw hX hv2
   rw[h3]at this;refine⟨this.1.mono fun en w' hp=>?_,this.2⟩;obtain⟨S',β',v,k1,k2,k3,k4⟩:=hp;obtain⟨S2,j1,j2,j3⟩:=vQ hw hh hE k3;exact⟨S2,β,v,k1,j2 (.sl []) v k2,j1,fun sz hsz=>j3 sz v (k4 sz hsz)⟩
end Go.Av
namespace Go.Av
variable [Dr]
omit [Dr]in
theorem cD.grow{S:aw}{β:List bw}{w w':World}{h:Hp}(hh:cD S β w h)(hb:∀b,b<w.heap.size->w'.heap[b]? = w.heap[b]?):cD S β w' h:=by
 obtain⟨hlen,ω,hr⟩:=hh;exact⟨hlen,ω,hr.rows (aw.le_refl S) (eC.refl β) hlen fun l cs hl _=>.inl ⟨hl,fun b hb' ho=>⟨ho,hb b hb',fun o h=>h⟩⟩⟩
omit [Dr]in
theorem cD.low{S:aw}{β:List bw}{w:World}{h:Hp}(hh:cD S β w h){b:Nat}(hb:bZ β h b):b<w.heap.size:=by
 obtain⟨_,ω,hr⟩:=hh;obtain⟨l,cs,n,h1,h2,h3⟩:=hb;obtain⟨b',x,k1,k2,_⟩:=hr.own h1 h2;rw[h3]at k1;cases k1;exact k2
omit [Dr]in
theorem Wf.grow{S:aw}{w w':World}(hw:Wf S w)(hb:∀b,b<w.heap.size->w'.heap[b]? = w.heap[b]?):Wf S w':=
 fun b o v hv=>by rw[cell_of_heap (hb b (hw.lt hv))];exact hw b o v hv
theorem pD{S S':aw}{β β':List bw}{w w2 w' w'':World}{h h':Hp}(hg:Gro w w2)(hold:∀b,b<w.heap.size->w2.heap[b]? = w.heap[b]?)(L:Left (bZ β h) S β w2 S' β' w' h')(hg':Gro w' w'')(hsame:∀b,¬(w.heap.size<=b/\b<w2.heap.size)->w''.heap[b]? = w'.heap[b]?)(hw:Wf S w)(hh:cD S β w h):Left (bZ β h) S β w S' β' w'' h':=by
 have hs:=hg.size;refine⟨L.le,L.ext,fun b o v hv=>?_,(hg.trans L.gro).trans hg',fun b hb hE=>?_,?_,fun b hb=>?_⟩
 ·by_cases hb:w.heap.size<=b/\b<w2.heap.size
  ·have hE:¬bZ β h b:=fun ho=>by have:=hh.low ho;omega
   have:=(L.keep b hb.2 hE).2 o
   rw[this,hw.none hb.1]at hv;cases hv
  ·rw[cell_of_heap (hsame b hb)];exact L.wf b o v hv
 ·have h1:=L.keep b (by omega) hE;exact⟨by rw[hsame b (by omega),h1.1,hold b hb],h1.2⟩
 ·obtain⟨hlen,ω,hr⟩:=L.heap;refine⟨hlen,ω,hr.rowsA (aw.le_refl S') (eC.refl β') hlen fun l cs hl hne=>.inl ⟨hl,fun b _ ⟨n,h1⟩ h3=>⟨h3,hsame b fun hb=>?_,fun o h=>h⟩⟩⟩;rcases L.owned b ⟨l,cs,_,hl,hne,h1⟩with ho|ho
  ·have:=hh.low ho;omega
  ·omega
 ·rcases L.owned b hb with ho|ho
  ·exact .inl ho
  ·exact .inr (by omega)
theorem Gro.setCell(w:World)(a:Addr)(v:Value):Gro w (w.setCell a v):=⟨by simp,rfl,rfl,rfl,fun _=>Kk _⟩
omit [Dr]in
theorem ez{w:World}{a:Addr}{v:Value}{b:Nat}(h:b≠a.block):(w.setCell a v).heap[b]? = w.heap[b]?:=by
 simp only[World.setCell,Array.getElem?_modify];rw[if_neg (fun e=>h e.symm)]
end Go.Av
namespace Go.Av
variable [Dr]
open Go.RowKit Go.WideShapes Go.ChangeShapes
theorem Left.below{S S':aw}{β β':List bw}{w w':World}{h':Hp}(L:Left (bZ [] []) S β w S' β' w' h'):Below w.heap.size w w':=
 ⟨L.gro.os,L.gro.tape,L.gro.out,L.gro.size,fun k hk=>(L.keep k hk (by rintro⟨l,_,_,h1,_⟩;simp at h1)).1⟩
def jQ(W:World):aw:=fun b o=>W.cell? ⟨b,o,none⟩
omit [Dr]in
theorem Ao(W:World):Wf (jQ W) W:=fun _ _ _ h=>h
omit [Dr]in
theorem xc{W:World}(h:GOKw W):tA [] [] W:=⟨h,fun b _ ho=>by obtain⟨l,_,_,h1,_⟩:=ho;simp at h1⟩
theorem xi{P:Program}{p:Pg}(G:GoodPg P p)(hO:cL p){f:FuncId}{args:List AV}{vs:List Value}{W:World}(hg:GOKw W)(hv:bc (jQ W) [] args vs)(ht:ai p f args []= .ok (.bool true) []):Calls P f vs.toArray W fun e W'=>e= .returned (.bool true)/\Below W.heap.size W W':=by
 have h:=(rF G hO f args [] (jQ W) [] W vs (by rw[ht];simp) (xc hg) (Ao W) ⟨rfl,fun _=>.no,fun l cs hl=>by simp at hl⟩ hv).1;rw[ht]at h;refine h.mono fun e W' hp=>?_;obtain⟨S',β',v,rfl,hv,L,_⟩:=hp;simp only[VR]at hv;subst hv;exact⟨rfl,L.below⟩
section
variable {H:Type} {enc:TypeId×Value->H} {P:Program}
omit [Dr]in
theorem oZ{f:Func}{s:ChangeSpec}{apart fresh handsOn again:Bool}{W W':World}{args:Array Value}{v:Value}{ds gs:List (DataW H)}{before pa pv:List MemPlace}(hW:DataW.Whole enc P f.params.toList s.vars apart W args.toList ds gs before)(hres:∀(b:Nat)(sp:Nat->Bool)(hd:Bool),DataW.TrodAll enc P W' b sp hd f.resultTypes.toList (v.resultList f.resultTypes.size) (s.fn H (ds++gs)).results [])(hargs:∀sp:Nat->Bool,(∀p∈before,sp p.block=true)->DataW.TrodAll enc P W' 0 sp true f.params.toList args.toList (s.fn H (ds++gs)).args pa)(hvars:∀sp:Nat->Bool,(∀p∈before,sp p.block=true)->DataW.TrodVars enc P W' sp s.vars (s.fn H (ds++gs)).vars pv)(hps:before=pa++pv)(hb:Below W.heap.size W W')(hok:∀(j:Nat)(t:TypeId)(r:Value),f.resultTypes[j]? = some t->(v.resultList f.resultTypes.size)[j]? = some r->Value.okWide P W' .any 0 t r):
  s.post enc P f apart fresh handsOn again W args v W':=by
 have hlt:∀p∈before,p.block<W.heap.size:=fun p hp=>hW.lt p hp;have hold:∀p∈before,(fun b=>decide (b<W.heap.size)) p.block=true:=fun p hp=>by simpa using hlt p hp
 refine⟨ds,gs,before,[],pa,pv,hW,hres _ _ _,hargs _ hold,hvars _ hold,World.keptBut_mono (fun p hp=>⟨hp,?_⟩) (hb.frame (· ∈before)),fun _=>?_⟩
 ·rw[hps,KG]at hp;exact Or.inr hp
 ·obtain⟨_,_,_,_,_,hz,hn⟩:=hW;refine⟨hok,_,_,([]++pa)++pv,⟨[]++pa,pv,trodAll_append (hargs _ (fun _ _=>rfl)) (hres _ _ _),hvars _ (fun _ _=>rfl),rfl,?_,?_⟩,?_⟩
  ·intro b off hp;have hin:MemPlace.cell b off∈before:=by rw[hps];simpa using hp
   rw[hb.frozen (hlt _ hin)];exact hz b off hin
  ·intro ha
   have:=hn ha
   rw[hps]at this;simpa using this
  ·intro p hp _;rw[hps];simpa using hp
end
end Go.Av
namespace Go.Av
attribute [simp] ay am yv wG
@[simp] theorem ax{α:Type}(b:Bool)(x y:M α):az (.bool b) x y=if b=true then x else y:=by cases b<;>rfl
def gv(b w:Bool)(y:AV):AV:=bif b== w then y else .tup []
@[simp] theorem Ht(y:AV):gv false false y=y:=rfl
@[simp] theorem JR(y:AV):gv true true y=y:=rfl
@[simp] theorem JP(y:AV):gv false true y= .tup []:=rfl
@[simp] theorem JQ(y:AV):gv true false y= .tup []:=rfl
@[simp high] theorem cj(b w:Bool)(y:AV):aC (.bool b) w 1 (M.pure [y])=M.pure [gv b w y]:=by cases b<;>cases w<;>rfl
@[simp high] theorem Fy(b w c w2:Bool)(y:AV):aC (gv b w (.bool c)) w2 1 (M.pure [y])=M.pure [gv b w (gv c w2 y)]:=by cases b<;>cases w<;>cases c<;>cases w2<;>rfl
@[simp high] theorem Fz(b w c e:Bool):aC (.bool b) w 1 (ae (ah (aU (gv b w (.bool c)) (.bool true) (gv b w (gv c false (.bool e))))) fun v=>M.pure [v])=M.pure [gv b w (.bool (c||e))]:=by
 cases b<;>cases w<;>cases c<;>rfl
@[simp high] theorem EC(b w c e:Bool):aC (.bool b) w 1 (ae (ah (aU (gv b w (.bool c)) (gv b w (gv c true (.bool e))) (.bool false))) fun v=>M.pure [v])=M.pure [gv b w (.bool (c&&e))]:=by
 cases b<;>cases w<;>cases c<;>rfl
@[simp high] theorem lJ(b c:Bool):aU (.bool b) (gv b true (.bool c)) (.bool false)=some (.bool (b&&c)):=by cases b<;>rfl
@[simp high] theorem g7(b c:Bool):aU (.bool b) (.bool true) (gv b false (.bool c))=some (.bool (b||c)):=by cases b<;>rfl
@[simp] theorem A8(w:Bool)(n:Nat)(m:M (List AV)):aC (.bool !w) w n m=M.pure (List.replicate n (.tup [])):=by cases w<;>rfl
@[simp] theorem kF(w:Bool)(n:Nat)(m:M (List AV)):aC (.bool w) w n m=m:=by cases w<;>rfl
@[simp] theorem xd(n:Nat)(m:M (List AV)):aC (.bool false) true n m=M.pure (List.replicate n (.tup [])):=rfl
@[simp] theorem xe(n:Nat)(m:M (List AV)):aC (.bool true) false n m=M.pure (List.replicate n (.tup [])):=rfl
@[simp] theorem uq(w:Bool)(n:Nat)(m:M (List AV)):aC (.tup []) w n m=M.pure (List.replicate n (.tup [])):=rfl
@[simp] theorem og(x y:AV):aU (.bool true) x y=some x:=rfl
@[simp] theorem je(x y:AV):aU (.bool false) x y=some y:=rfl
@[simp] theorem aJ(x:AV)(l:List AV):nth (x:: l) 0=x:=rfl
@[simp] theorem bj(x:AV)(l:List AV)(n:Nat):nth (x:: l) (n+1)=nth l n:=rfl
@[simp] theorem lz{α:Type}(k:List AV->M α)(m:(List AV->M α)->M α):jn k m=m k:=rfl
@[simp] theorem dk{α:Type}(a:α):cX (M.pure a)=M.pure a:=rfl
@[simp] theorem dC(b:Bool):ka .not (.bool b)=some (.bool !b):=rfl
@[simp] theorem ca(l:List AV)(i:Nat):bP (.tup l) i=l[i]?:=rfl
@[simp] theorem CP:True:=trivial
@[simp] theorem cS(l k:Nat):br (.hp l k)=some (.hp l k):=rfl
@[simp] theorem EY(cs:List AV):br (.ip cs)=some (.ip cs):=rfl
@[simp] theorem m5(s:List UInt8):aa (.str s)=[.str s]:=rfl
@[simp] theorem Db(k:IntKind)(n:Int):aa (.int k n)=[.int k n]:=rfl
@[simp] theorem bQ(cs:List AV):aa (.agg cs)=cs:=rfl
@[simp] theorem dx(T:TT)(t:Nat)(a b:Int):ao T .add t (.int .i64 a) (.int .i64 b)=some (.int .i64 (IntKind.i64.wrap (a+b))):=rfl
@[simp] theorem vp(T:TT)(t:Nat)(a b:Int):ao T .sub t (.int .i64 a) (.int .i64 b)=some (.int .i64 (IntKind.i64.wrap (a-b))):=rfl
@[simp] theorem Ay(T:TT)(t:Nat)(a b:Int):ao T .mul t (.int .i64 a) (.int .i64 b)=some (.int .i64 (IntKind.i64.wrap (a*b))):=rfl
@[simp] theorem bY(T:TT)(t:Nat)(a b:Int):ao T .lss t (.int .i64 a) (.int .i64 b)=some (.bool (decide (a<b))):=rfl
@[simp] theorem vo(T:TT)(t:Nat)(a b:Int):ao T .leq t (.int .i64 a) (.int .i64 b)=some (.bool (decide (a<=b))):=rfl
@[simp] theorem mI(T:TT)(t:Nat)(a b:Int):ao T .gtr t (.int .i64 a) (.int .i64 b)=some (.bool (decide (b<a))):=rfl
@[simp] theorem ke(T:TT)(t:Nat)(a b:Int):ao T .geq t (.int .i64 a) (.int .i64 b)=some (.bool (decide (b<=a))):=rfl
@[simp] theorem ej(T:TT)(t:Nat)(a b:Int):ao T .eql t (.int .i64 a) (.int .i64 b)=some (.bool (a== b)):=rfl
@[simp] theorem kf(T:TT)(t:Nat)(a b:Int):ao T .neq t (.int .i64 a) (.int .i64 b)=some (.bool (a != b)):=rfl
@[simp] theorem BJ(T:TT)(t:Nat)(a b:List UInt8):ao T .eql t (.str a) (.str b)=some (.bool (a== b)):=rfl
@[simp] theorem BK(T:TT)(t:Nat)(a b:List UInt8):ao T .neq t (.str a) (.str b)=some (.bool !(a== b)):=rfl
@[simp] theorem Ix(T:TT)(t:Nat)(a b:List UInt8):ao T .lss t (.str a) (.str b)=some (.bool (dP a b)):=rfl
@[simp] theorem Iw(T:TT)(t:Nat)(a b:List UInt8):ao T .geq t (.str a) (.str b)=some (.bool !(dP a b)):=rfl
@[simp] theorem aS{n:Nat}{x:AV}(h:bv n x=true):aR n x=M.pure (.agg (aa x)):=by
 unfold aR ib;rw[h];rfl
@[simp] theorem bd{n:Nat}{x:AV}(h:bv n x=true):au n [] x=M.pure (.agg (aa x)):=by
 unfold au ib;rw[h];rfl
@[simp] theorem FF(b:Bool)(x:AV):gU b [x]=some x:=by simp[gU]
@[simp] theorem FG(b:Bool)(a c:Int):gU b [.int .i64 a,.int .i64 c]=some (.int .i64 (if b=true then max a c else min a c)):=by
 cases b
 ·simp only[gU,zo,Km];congr 2;simp only[Int.min_def];split<;>split<;>simp_all<;>omega
 ·simp only[gU,zo,Kh];congr 2;simp only[Int.max_def];split<;>split<;>simp_all<;>omega
def bo{x:Int}(h1:-9223372036854775808<=x)(h2:x<=9223372036854775807):IntKind.i64.wrap x=x:=IntWalk.i64_in _ ⟨h1,h2⟩
def dQ{n:Nat}(h:n<=4611686018427387904):IntKind.i64.wrap ((n:Int)+1)=((n+1:Nat):Int):=by
 rw[IntWalk.i64_in _ (by omega)];omega
namespace Ap
mutual
def Val.sz:Val->Nat
 |.mk _ _ ns vs=>1+ns.length+aY vs
def aY:List Val->Nat
 |[]=>0
 |v:: vs=>v.sz+aY vs
end
theorem eS:{l:List Val} ->{v:Val} ->v∈l->v.sz<=aY l
 |w:: l,v,h=>by
  simp only[aY];rcases KI.1 h with rfl|h
  ·omega
  ·have:=eS h;omega
def Val.sz_pos(v:Val):1<=v.sz:=by cases v;simp[Val.sz];omega
theorem gh:(l:List Val)->l.length<=aY l
 |[]=>by simp
 |v:: l=>by have:=gh l;have:=v.sz_pos;simp only[aY,K4];omega
def Val.sz_names(v:Val):v.names.length<=v.sz:=by cases v;simp[Val.sz,Val.names];omega
def Val.sz_values(v:Val):aY v.values<v.sz:=by cases v;simp[Val.sz,Val.values];omega
def Val.sz_len(v:Val):v.values.length<v.sz:=Nat.lt_of_le_of_lt (gh _) v.sz_values
def J3{v x:Val}(h:x∈v.values):x.sz<v.sz:=Nat.lt_of_le_of_lt (eS h) v.sz_values
end Ap
end Go.Av
namespace Go.Av
def bI{α:Type}(F:α->Bool):List α->Int->Int
 |[],_=>-1
 |x:: l,i=>if F x=true then i else bI F l (i+1)
theorem sx{α:Type}(F:α->Bool):(l:List α)->(i:Int)->0<=i->(0<=bI F l i↔l.any F=true)
 |[],i,_=>by simp[bI]
 |x:: l,i,h=>by
  simp only[bI];split
  ·rename_i hx;simp[hx,h]
  ·rename_i hx;rw[sx F l (i+1) (by omega)];simp[hx]
def py{α:Type}(F:α->Bool)(l:List α):decide (0<=bI F l 0)=l.any F:=by
 have:=sx F l 0 (by omega)
 cases h:l.any F with
 |true=>simp[this.2 h]
 |false=>simp only[decide_eq_false_iff_not];intro hh;rw[this.1 hh]at h;cases h
@[simp] theorem CR(a b:Nat):((a:Int)== (b:Int))=(a== b):=by rw[LV];simp;omega
@[simp] theorem Bi(a:Nat):((a:Int)== 0)=(a== 0):=by rw[LV];simp
@[simp] theorem CS(a b:Nat):((a:Int) != (b:Int))=(a != b):=by rw[LV];simp;omega
def c8{α β:Type}(F:α->β->Bool):List α->List β->Bool
 |x:: l,y:: r=>F x y&&c8 F l r
 |[],[]=>true
 |_,_=>false
def gH{α β:Type}(F:α->β->Bool)(a:List α)(b:List β)(i:Nat)(h1:i<a.length)(h2:i<b.length):c8 F (a.drop i) (b.drop i)=(F a[i] b[i]&&c8 F (a.drop (i+1)) (b.drop (i+1))):=by
 rw[KE h1,KE h2];rfl
theorem dF{α β:Type}(F:α->β->Bool):(a:List α)->(b:List β)->a.length≠b.length->c8 F a b=false
 |[],[],h=>absurd rfl h
 |[],_:: _,_=>rfl
 |_:: _,[],_=>rfl
 |x:: a,y:: b,h=>by
  have:=dF F a b (by simpa using h)
  simp[c8,this]
end Go.Av
namespace Go.Av
open Ap
@[simp high] theorem Ej(x:Val):aR 4 (Val.av x)=M.pure (Val.av x):=by rw[aS (c9 x),cR,se]
@[simp high] theorem AJ(x:Val):au 4 [] (Val.av x)=M.pure (Val.av x):=by rw[bd (c9 x),cR,se]
@[simp high] theorem Ed(x:Exp):aR 6 (Exp.av x)=M.pure (Exp.av x):=by rw[aS (gX x),bE,r6]
@[simp high] theorem AB(x:Exp):au 6 [] (Exp.av x)=M.pure (Exp.av x):=by rw[bd (gX x),bE,r6]
@[simp high] theorem Ee(x:hP):aR 3 (dz x)=M.pure (dz x):=by rw[aS (kO x),jN,r7]
@[simp high] theorem AC(x:hP):au 3 [] (dz x)=M.pure (dz x):=by rw[bd (kO x),jN,r7]
@[simp high] theorem fS(x:Fun):aR 12 (Fun.av x)=M.pure (Fun.av x):=by rw[aS (i5 x),fQ,r8]
@[simp high] theorem AD(x:Fun):au 12 [] (Fun.av x)=M.pure (Fun.av x):=by rw[bd (i5 x),fQ,r8]
@[simp high] theorem Ef(x:Mod):aR 9 (Mod.av x)=M.pure (Mod.av x):=by rw[aS (gY x),eE,r9]
@[simp high] theorem AE(x:Mod):au 9 [] (Mod.av x)=M.pure (Mod.av x):=by rw[bd (gY x),eE,r9]
@[simp high] theorem CK(x:Vars):aR 2 (Vars.av x)=M.pure (Vars.av x):=by rw[aS (jp x),lT,pw]
@[simp high] theorem Ag(x:Vars):au 2 [] (Vars.av x)=M.pure (Vars.av x):=by rw[bd (jp x),lT,pw]
@[simp high] theorem CI(x:Deed):aR 3 (Deed.av x)=M.pure (Deed.av x):=by rw[aS (lG x),lR,pt]
@[simp high] theorem Ae(x:Deed):au 3 [] (Deed.av x)=M.pure (Deed.av x):=by rw[bd (lG x),lR,pt]
@[simp high] theorem rG(x:Ap.Call):aR 3 (Ap.Call.av x)=M.pure (Ap.Call.av x):=by rw[aS (pL x),gm,pr]
@[simp high] theorem Ad(x:Ap.Call):au 3 [] (Ap.Call.av x)=M.pure (Ap.Call.av x):=by rw[bd (pL x),gm,pr]
@[simp high] theorem Eg(x:Ap.Out):aR 8 (Ap.Out.av x)=M.pure (Ap.Out.av x):=by rw[aS (gZ x),jO,ny]
@[simp high] theorem AF(x:Ap.Out):au 8 [] (Ap.Out.av x)=M.pure (Ap.Out.av x):=by rw[bd (gZ x),jO,ny]
@[simp] theorem mO(t:Ty):bv 2 t.av=true:=by simp[bv,aI,cF]
@[simp high] theorem Fu(x:Ty):aR 2 (Ty.av x)=M.pure (Ty.av x):=by rw[aS (mO x),o7,vL]
@[simp high] theorem CL(x:Ty):au 2 [] (Ty.av x)=M.pure (Ty.av x):=by rw[bd (mO x),o7,vL]
end Go.Av
namespace Go.Av
@[simp] theorem Ah(c:Prop)[Decidable c](a b:Bool):(if c then(M.pure (.bool a):M AV)else M.pure (.bool b))=M.pure (.bool (if c then a else b)):=by split<;>rfl
@[simp] theorem Bd(c:Prop)[Decidable c](a b:Int):(if c then(M.pure (.int .i64 a):M AV)else M.pure (.int .i64 b))=M.pure (.int .i64 (if c then a else b)):=by split<;>rfl
def xG{T:TT}{t e:Nat}{ti ei:TI}(ht:T t=some ti)(hk:ti.kind= .slice e)(he:T e=some ei)(es:List AV){n:Int}(h0:0<=n)(h1:n<=es.length):cC T t (.sl es) none (some (.int .i64 n)) none=some (.sl (es.take n.toNat)):=by
 unfold cC;rw[ht];simp[hk,he,cq,h0,h1]
def my{T:TT}{t e:Nat}{ti ei:TI}(ht:T t=some ti)(hk:ti.kind= .slice e)(he:T e=some ei)(es:List AV):cC T t (.sl es) none (some (.int .i64 es.length)) (some (.int .i64 es.length))=some (.sl es):=by
 unfold cC;rw[ht];simp[hk,he,cq]
def xH{T:TT}{t e:Nat}{ti ei:TI}(ht:T t=some ti)(hk:ti.kind= .slice e)(he:T e=some ei)(es:List AV)(hok:cn ei.size es=true){n:Int}(h0:0<=n)(h1:n<=es.length):cC T t (.sl es) (some (.int .i64 n)) none none=some (.sl (es.drop n.toNat)):=by
 unfold cC;rw[ht];simp[hk,he,cq,h0,h1,hok]
end Go.Av
namespace Go.Av.Ap
open Go Go.Av
def Val.limN:Nat->Val->Prop
 |0,_=>True
 |n+1,v=>v.names.length<=140737488355328/\v.values.length<=140737488355328/\∀x∈v.values,x.limN n
def Val.Lim(v:Val):Prop:=∀n,v.limN n
def Exp.limN:Nat->Exp->Prop
 |0,_=>True
 |n+1,v=>v.names.length<=8796093022208/\v.args.length<=140737488355328/\∀x∈v.args,x.limN n
def Exp.Lim(v:Exp):Prop:=∀n,v.limN n
def Ty.limN:Nat->Ty->Prop
 |0,_=>True
 |n+1,v=>v.fields.length<=140737488355328/\∀x∈v.fields,x.2.limN n
def Ty.Lim(v:Ty):Prop:=∀n,v.limN n
def Val.Lim.names{v:Val}(h:v.Lim):v.names.length<=140737488355328:=(h 1).1
def Val.Lim.len{v:Val}(h:v.Lim):v.values.length<=140737488355328:=(h 1).2.1
def Val.Lim.kid{v:Val}(h:v.Lim){x:Val}(hx:x∈v.values):x.Lim:=fun n=>(h (n+1)).2.2 x hx
def Exp.Lim.names{v:Exp}(h:v.Lim):v.names.length<=8796093022208:=(h 1).1
def Exp.Lim.len{v:Exp}(h:v.Lim):v.args.length<=140737488355328:=(h 1).2.1
def Exp.Lim.kid{v:Exp}(h:v.Lim){x:Exp}(hx:x∈v.args):x.Lim:=fun n=>(h (n+1)).2.2 x hx
def Ty.Lim.len{v:Ty}(h:v.Lim):v.fields.length<=140737488355328:=(h 1).1
def Ty.Lim.kid{v:Ty}(h:v.Lim){x:hP}(hx:x∈v.fields):x.2.Lim:=fun n=>(h (n+1)).2 x hx
structure Fun.Lim (f:Fun):Prop where
 params:f.params.length<=140737488355328
 pty:∀x∈f.params,x.2.Lim
 result:f.result.Lim
 body:f.body.Lim
structure Mod.Lim (m:Mod):Prop where
 uses:m.uses.length<=140737488355328
 vars:m.vars.length<=140737488355328
 vty:∀x∈m.vars,x.2.Lim
 init:m.init.length<=140737488355328
 ies:∀e∈m.init,e.Lim
 funcs:m.funcs.length<=140737488355328
 fns:∀f∈m.funcs,f.Lim
 old:m.old.length<=140737488355328
 oty:∀x∈m.old,x.2.Lim
 forward:m.forward.length<=140737488355328
 fes:∀e∈m.forward,e.Lim
 back:m.back.length<=140737488355328
 bes:∀e∈m.back,e.Lim
end Go.Av.Ap
namespace Go.Av.Ap
structure Ver where
 a:Int
 b:Int
 c:Int
 deriving DecidableEq,Inhabited
structure Rng where
 lo:Ver
 hi:Ver
 deriving DecidableEq,Inhabited
def Ver.av(v:Ver):AV:=.agg [.int .i64 v.a,.int .i64 v.b,.int .i64 v.c]
def Rng.av(r:Rng):AV:=.agg [.int .i64 r.lo.a,.int .i64 r.lo.b,.int .i64 r.lo.c,.int .i64 r.hi.a,.int .i64 r.hi.b,.int .i64 r.hi.c]
def tw(l:List Ver):AV:=.sl (l.map Ver.av)
def sZ(l:List Rng):AV:=.sl (l.map Rng.av)
@[simp] theorem m6(v:Ver):aa v.av=[.int .i64 v.a,.int .i64 v.b,.int .i64 v.c]:=rfl
@[simp] theorem mZ(r:Rng):aa r.av=[.int .i64 r.lo.a,.int .i64 r.lo.b,.int .i64 r.lo.c,.int .i64 r.hi.a,.int .i64 r.hi.b,.int .i64 r.hi.c]:=rfl
@[simp] theorem sf(v:Ver):AV.agg [.int .i64 v.a,.int .i64 v.b,.int .i64 v.c]=v.av:=rfl
@[simp] theorem sa(r:Rng):AV.agg [.int .i64 r.lo.a,.int .i64 r.lo.b,.int .i64 r.lo.c,.int .i64 r.hi.a,.int .i64 r.hi.b,.int .i64 r.hi.c]=r.av:=rfl
@[simp] theorem yE(g:Nat->Nat->Nat->Nat->Bool->AV)(v:Ver):cl g v.av=v.av:=rfl
@[simp] theorem yC(g:Nat->Nat->Nat->Nat->Bool->AV)(v:Rng):cl g v.av=v.av:=rfl
@[simp] theorem vw(g:Nat->Nat->Nat->Nat->Bool->AV)(l:List Ver):cl g (tw l)=tw l:=by simp[tw,cl,cZ g Ver.av (yE g)]
@[simp] theorem vu(g:Nat->Nat->Nat->Nat->Bool->AV)(l:List Rng):cl g (sZ l)=sZ l:=by simp[sZ,cl,cZ g Rng.av (yC g)]
@[simp] theorem HW(v:Ver):bT v.av=some 3:=rfl
@[simp] theorem HT(v:Rng):bT v.av=some 6:=rfl
@[simp] theorem nZ(v:Ver):bv 3 v.av=true:=rfl
@[simp] theorem nX(v:Rng):bv 6 v.av=true:=rfl
@[simp] theorem FP(l:List Ver):cn 3 (l.map Ver.av)=true:=cy nZ l
@[simp] theorem FM(l:List Rng):cn 6 (l.map Rng.av)=true:=cy nX l
@[simp] theorem HC(v:Ver):aH (M.pure v.av)=M.pure v.av:=bm fun g=>yE g v
@[simp] theorem Hx(v:Rng):aH (M.pure v.av)=M.pure v.av:=bm fun g=>yC g v
@[simp] theorem FE(v:List Ver):aH (M.pure (tw v))=M.pure (tw v):=bm fun g=>vw g v
@[simp] theorem FC(v:List Rng):aH (M.pure (sZ v))=M.pure (sZ v):=bm fun g=>vu g v
@[simp high] theorem Ek(x:Ver):aR 3 x.av=M.pure x.av:=by rw[aS (nZ x),m6,sf]
@[simp high] theorem AK(x:Ver):au 3 [] x.av=M.pure x.av:=by rw[bd (nZ x),m6,sf]
@[simp high] theorem Eh(x:Rng):aR 6 x.av=M.pure x.av:=by rw[aS (nX x),mZ,sa]
@[simp high] theorem AG(x:Rng):au 6 [] x.av=M.pure x.av:=by rw[bd (nX x),mZ,sa]
structure Seen where
 prog:List Mod
 vsns:List Ver
 calls:List Call
 whole:Bool
 deriving Inhabited
structure Adv where
 id:Int
 name:bA
 ranges:List Rng
 func:bA
 cond:Exp
 deriving Inhabited
def Seen.av(s:Seen):AV:=.agg [mods s.prog,tw s.vsns,Ap.calls s.calls,.bool s.whole]
def Adv.av(a:Adv):AV:=.agg ([.int .i64 a.id,.str a.name,sZ a.ranges,.str a.func]++a.cond.cells)
structure CallLim (c:Call):Prop where
 len:c.args.length<=140737488355328
 args:∀v∈c.args,v.Lim
structure Seen.Lim (s:Seen):Prop where
 len:s.prog.length<=140737488355328
 mods:∀m∈s.prog,m.Lim
 vsns:s.vsns.length<=140737488355328
 lenc:s.calls.length<=140737488355328
 calls:∀c∈s.calls,CallLim c
structure Adv.Lim (a:Adv):Prop where
 ranges:a.ranges.length<=140737488355328
 cond:a.cond.Lim
def zJ(l:List Seen):AV:=.sl (l.map Seen.av)
@[simp] theorem lS(s:Seen):aa s.av=[mods s.prog,tw s.vsns,Ap.calls s.calls,.bool s.whole]:=rfl
@[simp] theorem pu(s:Seen):AV.agg [mods s.prog,tw s.vsns,Ap.calls s.calls,.bool s.whole]=s.av:=rfl
@[simp] theorem mY(a:Adv):aa a.av=[.int .i64 a.id,.str a.name,sZ a.ranges,.str a.func,.int .i64 a.cond.op,.int .i64 a.cond.n,.str a.cond.s,.str a.cond.m,strs a.cond.names,dj a.cond.args]:=by
 obtain⟨i,n,r,f,c⟩:=a;cases c;rfl
@[simp] theorem kA(a:Adv):AV.agg [.int .i64 a.id,.str a.name,sZ a.ranges,.str a.func,.int .i64 a.cond.op,.int .i64 a.cond.n,.str a.cond.s,.str a.cond.m,strs a.cond.names,dj a.cond.args]=a.av:=by
 obtain⟨i,n,r,f,c⟩:=a;cases c;rfl
@[simp] theorem AS(g:Nat->Nat->Nat->Nat->Bool->AV)(s:Seen):cl g s.av=s.av:=by
 unfold Seen.av;simp only[cl,de,ic,vw,rH]
@[simp] theorem Jl(g:Nat->Nat->Nat->Nat->Bool->AV)(a:Adv):cl g a.av=a.av:=by
 rw[<- kA];simp only[cl,de,vu,ki,AO]
@[simp] theorem He(g:Nat->Nat->Nat->Nat->Bool->AV)(l:List Seen):cl g (zJ l)=zJ l:=by simp[zJ,cl,cZ g Seen.av (AS g)]
@[simp] theorem FU(v:Seen):bT v.av=some 4:=rfl
@[simp] theorem lH(v:Seen):bv 4 v.av=true:=rfl
@[simp] theorem E2(l:List Seen):cn 4 (l.map Seen.av)=true:=cy lH l
@[simp high] theorem CJ(x:Seen):aR 4 x.av=M.pure x.av:=by rw[aS (lH x),lS,pu]
@[simp high] theorem Af(x:Seen):au 4 [] x.av=M.pure x.av:=by rw[bd (lH x),lS,pu]
@[simp] theorem sR(v:Adv):bv 10 v.av=true:=by
 rw[<- kA];rfl
@[simp high] theorem Ec(x:Adv):aR 10 x.av=M.pure x.av:=by rw[aS (sR x),mY,kA]
@[simp high] theorem AA(x:Adv):au 10 [] x.av=M.pure x.av:=by rw[bd (sR x),mY,kA]
end Go.Av.Ap
namespace Go.Av.Ap
open Go Go.Av
section
variable {α:Type} {f:α->AV} {sz:Nat}
def rowOf(f:α->AV)(l:List α):List AV:=(l.map f).flatMap aa
theorem d6(x:α)(l:List α):rowOf f (x:: l)=aa (f x)++rowOf f l:=by simp[rowOf]
theorem ju(hs:∀x,(aa (f x)).length=sz):(l:List α)->(rowOf f l).length=l.length*sz
 |[]=>by simp[rowOf]
 |x:: l=>by rw[d6,KH,hs,ju hs l,K4,Mq];omega
theorem jg(hs:∀x,(aa (f x)).length=sz):(l:List α)->(i:Nat)->(h:i<l.length)->((rowOf f l).drop (i*sz)).take sz=aa (f l[i])
 |x:: l,0,_=>by
  rw[d6,LH,KV,List.take_left' (hs x)];rfl
 |x:: l,i+1,h=>by
  rw[d6,show (i+1)*sz=(aa (f x)).length+i*sz by rw[hs,Mq];omega,MM,Kx (by omega),Mh,KL];simpa using jg hs l i (by simpa using h)
end
def xk{T:TT}{t:Nat}{ti:TI}{q off:Nat}{cs:List AV}{h:Hp}(ht:T t=some ti)(hag:ti.agg=true)(hq:h[q]? = some cs)(hle:off+ti.size<=cs.length):a7 T t (.hp q off) h= .ok (.agg ((cs.drop off).take ti.size)) h:=by
 simp only[a7,ht,hq,hag,Kh];rw[Kn hle]
end Go.Av.Ap
namespace Go.Av.Ap
open Go Go.Av
mutual
def D7:Ty->Ty->Bool
 |.mk k fs,a=>a.kind== k&&vl fs a.fields
def vl:List (bA×Ty)->List hP->Bool
 |[],_=>true
 |f:: fs,l=>D8 f l&&vl fs l
def D8:bA×Ty->List hP->Bool
 |(n,t),l=>match iY (fun z=>z.1== n) l with
  |some z=>D7 t z.2
  |none=>false
end
structure Sig.Lim (s:Sig):Prop where
 plen:s.params.length<=140737488355328
 ptys:∀t∈s.params,t.Lim
 result:s.result.Lim
structure Face.Lim (f:Face):Prop where
 len:f.funcs.length<=140737488355328
 sigs:∀s∈f.funcs,s.Lim
@[simp] theorem Ei(x:Sig):aR 5 x.av=M.pure x.av:=by rw[aS (nY x),m0,sb]
@[simp] theorem AH(x:Sig):au 5 [] x.av=M.pure x.av:=by rw[bd (nY x),m0,sb]
end Go.Av.Ap
namespace Go.Av
open Go.RowKit
section
variable {H:Type} {enc:TypeId×Value->H} {P:Program} {w w':World}
theorem jJ{base:Nat}{spare:Nat->Bool}{held:Bool}:∀ {ts:List TypeId} {vs:List Value} {ds:List (DataW H)} {ps:List MemPlace},DataW.TrodAll enc P w base spare held ts vs ds ps->(∀p∈ps,w.sameAt w' p)->DataW.TrodAll enc P w' base spare held ts vs ds ps
 |[],[],[],_,h,_=>h
 |_:: _,_:: _,_:: _,_,⟨p,q,⟨n,h1⟩,h2,e⟩,hs=>⟨p,q,⟨n,DataW.trod_carry n _ _ _ h1 (fun x hx=>hs x (by rw[e];exact List.mem_append_left _ hx))⟩,jJ h2 (fun x hx=>hs x (by rw[e];exact List.mem_append_right _ hx)),e⟩
theorem qT(hb:Below w.heap.size w w'){p:MemPlace}(hp:p.block<w.heap.size):w.sameAt w' p:=by
 cases p with
 |cell b off=>
  have:=hb.block b hp
  show w'.cell? ⟨b,off,none⟩=w.cell? ⟨b,off,none⟩;simp only[World.cell?,this]
 |map b=>exact hb.block b hp
theorem tI{T:TypeId->Prop}(K:Kids P T)(hz:∀t e,T t->P.underlying t=some (.slice e)->0<P.cellsOf e){ts:List TypeId}{vs:List Value}{ds:List (DataW H)}{ps:List MemPlace}(hT:∀t∈ts,T t)(h:DataW.TrodAll enc P w 0 (fun _=>true) true ts vs ds ps)(hlt:∀p∈ps,p.block<w.heap.size)(hb:Below w.heap.size w w')(sp:Nat->Bool)(hsp:∀p∈ps,sp p.block=true):DataW.TrodAll enc P w' 0 sp true ts vs ds ps:=
 (jJ h fun p hp=>qT hb (hlt p hp)).respare K hz hT hsp
end
theorem vS{α:Type}(Q:Nat->α->Prop):∀n,(∀i,i<n->∃x,Q i x)->∃l:List α,l.length=n/\∀i x,l[i]? = some x->Q i x
 |0,_=>⟨[],rfl,fun i x h=>by simp at h⟩
 | n+1,h=>by
  obtain⟨l,h1,h2⟩:=vS Q n fun i hi=>h i (by omega);obtain⟨y,hy⟩:=h n (by omega);refine⟨l++[y],by simp[h1],fun i x hx=>?_⟩;by_cases hi:i<n
  ·rw[Ky (by omega)]at hx;exact h2 i x hx
  ·rw[KN (by omega)]at hx;have hin:i-l.length=0:=by
    rcases KY (i-l.length)with h|h
    ·exact h
    ·rw[Kr (by simp;omega)]at hx;cases hx
   rw[hin]at hx;simp only[Ku,Kg]at hx;subst hx;obtain rfl:i=n:=by omega
   exact hy
end Go.Av
namespace Go.Av
open Go.RowKit Go.WideShapes Go.ChangeShapes
section
variable {H:Type} (enc:TypeId×Value->H) (P:Program) (W:World)
def Rd{α:Type}(N:Nat)(t:TypeId)(cells:α->List AV)(Ok:α->Prop):Prop:=∀(base:Nat)(held:Bool)(n:Nat),n<N->∀(cs:List Value)(x:DataW H×List MemPlace),DataW.trod enc P W base (fun _=>true) held n t cs=some x->(∀k∈x.1.weights P t,k<=reachBytes)->∃a:α,bc (jQ W) [] (cells a) cs/\Ok a
def An{α:Type}(N:Nat)(tot:Nat)(o:Nat)(fs:List Field)(cells:α->List AV)(Ok:α->Prop):Prop:=∀(base:Nat)(held:Bool)(n:Nat),n<N->∀(cs:List Value)(xs:List (DataW H×List MemPlace)),cs.length=tot->
 xs.length=fs.length->(∀(i:Nat)(f:Field),fs[i]? = some f->DataW.trod enc P W base (fun _=>true) held n f.type ((cs.drop f.offset).take (P.cellsOf f.type))=xs[i]?)->(∀k∈DataW.weightsEach P (fs.map (·.type)) (xs.map (·.1)),k<=reachBytes)->∃a:α,bc (jQ W) [] (cells a) (cs.drop o)/\Ok a
variable {enc P W} {α β:Type} {N:Nat} {t:TypeId}
theorem Rd.zero{cells:α->List AV}{Ok:α->Prop}:Rd enc P W 0 t cells Ok:=fun _ _ n hn=>absurd hn (by omega)
theorem Rd.le{cells:α->List AV}{Ok:α->Prop}(h:Rd enc P W N t cells Ok){M:Nat}(hm:M<=N):Rd enc P W M t cells Ok:=fun b hd n hn=>h b hd n (by omega)
theorem Rd.map{cells:α->List AV}{Ok:α->Prop}(h:Rd enc P W N t cells Ok)(g:α->β){cells':β->List AV}{Ok':β->Prop}(hc:∀a,cells' (g a)=cells a)(ho:∀a,Ok a->Ok' (g a)):Rd enc P W N t cells' Ok':=by
 intro b hd n hn cs x hx hw;obtain⟨a,h1,h2⟩:=h b hd n hn cs x hx hw;exact⟨g a,by rw[hc];exact h1,ho a h2⟩
theorem we(ht:P.underlying t=some .bool):Rd enc P W N t (fun b:Bool=>[.bool b]) (fun _=>True):=by
 intro b hd n hn cs x hx hw;obtain⟨b,rfl,_⟩:=DataW.trod_bool ht hx;exact⟨b,by simp[bc,VR],trivial⟩
theorem iw{k:IntKind}(ht:P.underlying t=some (.int k)):Rd enc P W N t (fun n:Int=>[.int k n]) (fun n=>(Lit.int k n).wf=true):=by
 intro b hd n hn cs x hx hw;obtain⟨b,rfl,_,hwf⟩:=DataW.trod_int ht hx;exact⟨b,by simp[bc,VR],hwf⟩
theorem jf(ht:P.underlying t=some .string):Rd enc P W N t (fun s:List UInt8=>[.str s]) (fun s=>s.length<=reachBytes):=by
 intro b hd n hn cs x hx hw;obtain⟨s,rfl,rfl,_⟩:=DataW.trod_string ht hx;exact⟨s.data.toList,by simp[bc,VR],hw _ (by simp[DataW.weights])⟩
def CZ(cells:α->List AV)(ev:α->AV)(sz:Nat):Prop:=∀(a:α)(S:aw)(β:List bw)(vs:List Value),bc S β (cells a) vs->vs.length=sz->∃v,VR S β (ev a) v/\v.cells.toList=vs
theorem fN{cells:α->List AV}{ev:α->AV}{sz:Nat}(he:∀a,ev a= .agg (cells a)):CZ cells ev sz:=fun a S β vs h hl=>⟨.agg vs.toArray,by rw[he];simp only[VR];exact⟨vs,rfl,h⟩,by simp[Value.cells]⟩
theorem rS{ev:α->AV}(ho:∀a,aI (ev a)=true):CZ (fun a=>[ev a]) ev 1:=fun a S β vs h hl=>by
 simp only[bc]at h;obtain⟨v,_,rfl,h,rfl⟩:=h;exact⟨v,h,by rw[(gW (ho a) h).1]⟩
theorem ji{e:TypeId}:∀ {l:List (DataW H)} {d:DataW H},d∈l->∀k∈d.weights P e,k∈DataW.weightsAll P e l
 |x:: l,d,hd,k,hk=>by
  simp only[DataW.weightsAll,KG];rcases KI.1 hd with rfl|hd
  ·exact .inl hk
  ·exact .inr (ji hd k hk)
theorem fc{e:TypeId}{cells:α->List AV}{Ok:α->Prop}(h:Rd enc P W N e cells Ok)(ht:P.underlying t=some (.slice e)){sz by_:Nat}(hsz:P.cellsOf e=sz)(h0:0<sz)(hby:P.bytesOf e=by_){ev:α->AV}(hev:CZ cells ev sz):
  Rd enc P W N t (fun l:List α=>[.sl (l.map ev)]) (fun l=>l.length*by_<=reachBytes/\∀a∈l,Ok a):=by
 intro base hd n hn cs x hx hw;rcases DataW.trod_slice ht hx with⟨rfl,rfl⟩|⟨a,len,cap,elems,rest,m,rfl,rfl,rfl,hb,hle,hm,hlen,hel,hsp,_⟩
 ·exact⟨[],by simp only[bc,MJ,VR];exact⟨_,_,rfl,⟨none,0,rfl,Kk _,fun _=>rfl,fun q hq=>by cases hq⟩,rfl⟩,by simp,fun a ha=>by cases ha⟩
 obtain⟨hrl,hre⟩:=hsp rfl;rw[hsz]at hel hre;simp only[DataW.weights,ht,KI,KG,hby]at hw;have hspot:0<cap->a.spot=none:=by
  intro hc;have:∃y,(W.cells? base (a.add 0) sz).bind (DataW.trod enc P W base (fun _=>true) hd m e)=some y:=by
   by_cases h1:0<len
   ·have:=hel 0 h1
    rw[Kl (by omega)]at this;exact⟨_,by simpa using this⟩
   ·have:=hre 0 (by omega)
    rw[Kl (by omega)]at this;obtain rfl:len=0:=by omega
    exact⟨_,by simpa using this⟩
  obtain⟨y,hy⟩:=this;obtain⟨cs,hcs,_⟩:=MO.1 hy;obtain⟨_,hl,hc⟩:=World.cells?_some hcs;have h2:=hc 0 h0;rw[Kl (by omega)]at h2;have h3:=World.cell?_spot h2;have e:(a.add 0).add 0=a:=by unfold Addr.add;simp
  rwa [e]at h3
 have hx:∀i,i<len->∃y:α,(∃v,VR (jQ W) [] (ev y) v/\v.cells.size=sz/\ek (jQ W) a.block (a.off+i*sz) v.cells.toList)/\Ok y:=by
  intro i hi;have h1:=hel i hi;rw[Kl (by omega)]at h1;obtain⟨cs,hcs,htr⟩:=MO.1 h1;obtain⟨y,hy,hok⟩:=h base hd m (by omega) cs _ htr (fun k hk=>hw k (.inr (.inl (ji (Ly.2 ⟨_,KB _,rfl⟩) k hk))));obtain⟨_,hl,hc⟩:=World.cells?_some hcs;obtain⟨v,hv,hvc⟩:=hev y _ _ cs hy hl;refine⟨y,⟨v,hv,by rw[<- Lo,hvc,hl],fun j u hj=>?_⟩,hok⟩;rw[hvc]at hj;have hjl:j<sz:=by
   rcases KD j cs.length with h|h
   ·omega
   ·rw[Kr h]at hj;cases hj
  have h2:=hc j hjl;rw[hj]at h2;unfold jQ;have hs:=hspot (by omega);have e:(a.add (i*sz)).add j=⟨a.block,a.off+i*sz+j,none⟩:=by
   obtain⟨b,o,s⟩:=a;simp only at hs;subst hs;rw[add_plain,add_plain]
  rw[<- e];exact h2
 obtain⟨l,hl1,hl2⟩:=vS (fun i y=>(∃v,VR (jQ W) [] (ev y) v/\v.cells.size=sz/\ek (jQ W) a.block (a.off+i*sz) v.cells.toList)/\Ok y) len hx;refine⟨l,?_,?_,fun y hy=>?_⟩
 ·simp only[bc,VR,Mw];refine⟨_,_,rfl,⟨some a,cap,by rw[hl1],by omega,(fun e=>by cases e),fun q hq=>?_⟩,rfl⟩;cases hq;refine⟨hspot,sz,.of_get fun i e he=>?_⟩;rw[KX,Lr]at he;obtain⟨y,hy,rfl⟩:=he;exact (hl2 i y hy).1
 ·have:=hw _ (.inl rfl)
  simp only[Mw]at this;have h3:=Kw by_ (show l.length<=elems.length+rest.length by omega);omega
 ·obtain⟨i,hi,e⟩:=List.getElem_of_mem hy;exact (hl2 i y (by rw[Kl hi,e])).2
theorem fb{tot:Nat}:An enc P W N tot tot [] (fun _:Unit=>[]) (fun _=>True):=fun base hd n hn cs xs hl _ _ _=>⟨(),by simp[bc,<- hl],trivial⟩
theorem aK{tot o k:Nat}{f:Field}{fs:List Field}{c1:α->List AV}{Ok1:α->Prop}{c2:β->List AV}{Ok2:β->Prop}(h1:Rd enc P W N f.type c1 Ok1)(ho:f.offset=o)(hk:P.cellsOf f.type=k)(h2:An enc P W N tot (o+k) fs c2 Ok2):
  An enc P W N tot o (f:: fs) (fun x:α×β=>c1 x.1++c2 x.2) (fun x=>Ok1 x.1/\Ok2 x.2):=by
 intro base hd n hn cs xs hl hx hf hw
 match xs,hx with
 |x:: xs,hx=>
  have hf0:=hf 0 f rfl;rw[ho,hk]at hf0;simp only[Lc,DataW.weightsEach,KG]at hw;obtain⟨a,ha,oa⟩:=h1 base hd n hn _ x hf0 fun k hk=>hw k (.inl hk);obtain⟨b,hb,ob⟩:=h2 base hd n hn cs xs hl (by simpa using hx) (fun i g hg=>by simpa using hf (i+1) g (by simpa using hg)) fun k hk=>hw k (.inr hk);refine⟨(a,b),?_,oa,ob⟩
  have:=ha.append hb
  rwa [<- List.drop_drop,List.take_append_drop]at this
theorem ee{fs:Array Field}{tot:Nat}{cells:α->List AV}{Ok:α->Prop}(ht:P.underlying t=some (.struct fs))(hc:P.cellsOf t=tot)(h:An enc P W N tot 0 fs.toList cells Ok):Rd enc P W (N+1) t cells Ok:=by
 intro base hd n hn cs x hx hw;obtain⟨xs,m,rfl,rfl,hl,hxs,hf⟩:=DataW.trod_struct ht hx;simp only[DataW.weights,ht]at hw;obtain⟨a,h1,h2⟩:=h base hd m (by omega) cs xs (by rw[hl,hc]) (by simpa using hxs) (fun i f hi=>hf i f (by simpa using hi)) hw;exact⟨a,by simpa using h1,h2⟩
theorem Fe{cells:α->List AV}{Ok:α->Prop}(h:∀N,Rd enc P W N t cells Ok){base:Nat}{held:Bool}{v:Value}{d:DataW H}{p:List MemPlace}(hd:DataW.Trod enc P W base (fun _=>true) held t v d p)(hw:∀k∈d.weights P t,k<=reachBytes):
  ∃a:α,bc (jQ W) [] (cells a) v.cells.toList/\Ok a:=by
 obtain⟨n,hn⟩:=hd;exact h (n+1) base held n (by omega) _ _ hn hw
theorem wd{f:α->AV}{Ok:α->Prop}(h:∀N,Rd enc P W N t (fun a=>[f a]) Ok){base:Nat}{held:Bool}{v:Value}{d:DataW H}{p:List MemPlace}(hv:v.cells.toList=[v])(hd:DataW.Trod enc P W base (fun _=>true) held t v d p)(hw:∀k∈d.weights P t,k<=reachBytes):
  ∃a:α,VR (jQ W) [] (f a) v/\Ok a:=by
 obtain⟨a,h1,h2⟩:=Fe h hd hw;rw[hv]at h1;simp only[bc]at h1;obtain⟨y,ys,e,h1,rfl⟩:=h1;cases e;exact⟨a,h1,h2⟩
theorem li{e:TypeId}{r:Reach}{b0:Nat}{f:α->AV}{Ok:α->Prop}(h:∀N,Rd enc P W N t (fun a=>[f a]) Ok)(ht:P.underlying t=some (.slice e)){base:Nat}{held:Bool}{v:Value}{d:DataW H}{p:List MemPlace}(hok:Value.okWide P W r b0 t v)(hd:DataW.Trod enc P W base (fun _=>true) held t v d p)(hw:∀k∈d.weights P t,k<=reachBytes):∃a:α,VR (jQ W) [] (f a) v/\Ok a:=by
 obtain⟨a,len,cap,rfl⟩:=okWide_slice ht hok;exact wd h rfl hd hw
theorem vj{k:IntKind}{r:Reach}{b0:Nat}{f:α->AV}{Ok:α->Prop}(h:∀N,Rd enc P W N t (fun a=>[f a]) Ok)(ht:P.underlying t=some (.int k)){base:Nat}{held:Bool}{v:Value}{d:DataW H}{p:List MemPlace}(hok:Value.okWide P W r b0 t v)(hd:DataW.Trod enc P W base (fun _=>true) held t v d p)(hw:∀k∈d.weights P t,k<=reachBytes):∃a:α,VR (jQ W) [] (f a) v/\Ok a:=by
 obtain⟨a,rfl⟩:=okWide_int ht hok;exact wd h rfl hd hw
theorem fT{ts:List TypeId}{ds:List (DataW H)}(h:(DataW.weightsEach P ts ds).all (· <=reachBytes)=true){j:Nat}{u:TypeId}{d:DataW H}(ht:ts[j]? = some u)(hd:ds[j]? = some d):∀k∈d.weights P u,k<=reachBytes:=fun k hk=>by
 have:=KA.1 h _ (DataW.weights_mem_each ht hd k hk)
 simpa using this
end
end Go.Av
namespace Go.Av.Ap
def wD:List bA->Bool
 |[]=>true
 |[_]=>true
 |x:: y:: l=>dP x y&&wD (y:: l)
def bn:Nat->Val->Bool
 |0,_=>false
 |d+1,v=>if(v.kind== 0||v.kind== 1)=true then v.names.length== 0&&v.values.length== 0&&(v.kind== 0||v.n== 0||v.n== 1)
  else v.kind== 2&&v.n== 0&&v.names.length== v.values.length&&decide (v.names.length<=8)&&wD v.names&&v.values.all (bn d)
def eQ(b:Bool):Val:=.mk 1 (if b then 1 else 0) [] []
def jY(n:Int):Val:=.mk 0 n [] []
def fA(p:List Mod)(s:bA):Int:=bI (fun m=>m.name== s) p 0
def jG(l:List Fun)(s:bA):Int:=bI (fun f=>f.name== s) l 0
def gO(l:List hP)(s:bA):Int:=bI (fun f=>f.1== s) l 0
structure Ms where
 fuel:Int
 frames:Int
 world:List Int
 deeds:List Deed
 calls:List Call
 state:List (List Val)
inductive Rs (α:Type) where
 |ok (a:α) (m:Ms)
 |er (e:Int) (m:Ms)
def X(α:Type):=Ms->Rs α
def X.ok{α:Type}(a:α):X α:=fun m=>.ok a m
def X.er{α:Type}(e:Int):X α:=fun m=>.er e m
def X.bind{α β:Type}(x:X α)(f:α->X β):X β:=fun m=>match x m with
 |.ok a m'=>f a m'
 |.er e m'=>.er e m'
def X.upd{α:Type}(f:Ms->Ms)(x:X α):X α:=fun m=>x (f m)
def X.get{α:Type}(f:Ms->X α):X α:=fun m=>f m m
def bg(op:Int):Int:=
 if op=0\/op=1\/op=2\/op=17 then 0
 else if op=10\/op=14\/op=16\/op=18 then 1
 else if op=3\/op=4\/op=5\/op=6\/op=7\/op=8\/op=9\/op=12 then 2
 else if op=11 then 3
 else if op=13\/op=15 then -1
 else -2
def gw:List bA->List Val->bA->Option Val
 |n:: ns,v:: vs,s=>match gw ns vs s with
  |some x=>some x
  |none=>if n=s then some v else none
 |_,_,_=>none
def gB:List bA->List Val->bA->Option Val
 |n:: ns,v:: vs,s=>if n=s then some v else gB ns vs s
 |_,_,_=>none
def wr(n:Int):Int:=IntKind.i64.wrap n
def iN(op:Int)(a b:Val):X Val:=
 if op=7 then(if a.kind=b.kind/\a.kind≠2 then .ok (eQ (a.n== b.n))else .er 13)
 else if a.kind=0/\b.kind=0 then
  (if op=3 then .ok (jY (wr (a.n+b.n)))else if op=4 then .ok (jY (wr (a.n-b.n)))else if op=5 then .ok (jY (wr (a.n*b.n)))else .ok (eQ (decide (a.n<b.n))))
 else .er 13
mutual
def dT:Val->Nat
 |.mk _ _ _ vs=>dA vs+1
def dA:List Val->Nat
 |[]=>0
 |v:: vs=>max (dT v) (dA vs)
end
abbrev Ev:=Int->List bA->List Val->Exp->X Val
def boolX(r:X Val):X Bool:=r.bind fun v=>if v.kind=1 then .ok (v.n== 1)else .er 13
def listX(r:Exp->X Val):List Exp->X (List Val)
 |[]=>.ok []
 |e:: es=>(r e).bind fun v=>(listX r es).bind fun vs=>.ok (v:: vs)
def fK(r:Exp->X Val)(e:Exp):X Val:=
 if e.names.length=e.args.length/\wD e.names=true then
  (if e.names.length<=8 then(listX r e.args).bind fun vs=>if dT (.mk 2 0 e.names vs)<=4 then .ok (.mk 2 0 e.names vs)else .er 6 else .er 6)
 else .er 13
def jH(p:List Mod)(at_:Int)(s:bA):Option Fun:=
 if at_<0 then none else(let l:=(p[at_.toNat]?.getD default).funcs;let i:=jG l s;if i<0 then none else l[i.toNat]?)
def ct(p:List Mod)(r:Ev)(at_:Int)(f:Fun)(l:List Val):X Val:=
 .get fun m=>if m.frames<60 then
  .upd (fun m=>{ m with calls:=if f.pub=true then m.calls++[⟨(p[at_.toNat]?.getD default).name,f.name,l⟩]else m.calls,frames:=m.frames+1 })
   ((r at_ (f.params.map (·.1)) l f.body).bind fun v=>.upd (fun m=>{ m with frames:=m.frames-1 }) (.ok v))
 else .er 6
def kh(p:List Mod)(r:Ev)(own:Int)(ns:List bA)(vs:List Val)(e:Exp):X Val:=
 let at_:=if e.m=[]then own else fA p e.m
 match jH p at_ e.s with
 |none=>.er 12
 | some f=>if e.m=[]\/f.pub=true then
   (if e.args.length=f.params.length then(listX (r own ns vs) e.args).bind fun l=>ct p r at_ f l else .er 13)
  else .er 12
def qf(r:X Val)(e:Exp):X Val:=
 r.bind fun v=>if v.kind=0 then
  (if e.n=1\/e.n=2\/e.n=4\/e.n=8 then
   .get fun m=>.upd (fun m=>{ m with world:=m.world.tail,deeds:=m.deeds++[⟨e.n,v.n,m.world.headD 0⟩] }) (.ok (jY (m.world.headD 0)))
  else .er 14)
 else .er 13
def setSt(st:List (List Val))(i k:Nat)(v:Val):List (List Val):=st.modify i fun l=>l.set k v
def nF(st:List (List Val))(i k:Nat):Val:=(st.getD i []).getD k default
def rc(p:List Mod)(r:Exp->X Val)(own:Int)(e:Exp):X Val:=
 if own<0 then .er 12 else
 let i:=gO (p[own.toNat]?.getD default).vars e.s
 if i<0 then .er 12 else
 if e.op=18 then(r e.args[0]!).bind fun v=>.upd (fun m=>{ m with state:=setSt m.state own.toNat i.toNat v }) (.ok v)
 else .get fun m=>.ok (nF m.state own.toNat i.toNat)
def jh(p:List Mod)(r:Ev):Ev:=fun own ns vs e=>.get fun m=>
 if m.fuel<=0 then .er 16 else .upd (fun m=>{ m with fuel:=m.fuel-1 }) <|
 let n:=bg e.op
 if n= -2\/(n≠-1/\n≠e.args.length)then .er 13
 else if e.op=0 then .ok (jY e.n)
 else if e.op=1 then(if e.n=0\/e.n=1 then .ok (eQ (e.n== 1))else .er 13)
 else if e.op=2 then(match gw ns vs e.s with|some v=>.ok v|none=>.er 12)
 else if e.op=3\/e.op=4\/e.op=5\/e.op=6\/e.op=7 then(r own ns vs e.args[0]!).bind fun a=>(r own ns vs e.args[1]!).bind fun b=>iN e.op a b
 else if e.op=8\/e.op=9 then(boolX (r own ns vs e.args[0]!)).bind fun x=>if x=(e.op== 9)then .ok (eQ (e.op== 9))else(boolX (r own ns vs e.args[1]!)).bind fun y=>.ok (eQ y)
 else if e.op=10 then(boolX (r own ns vs e.args[0]!)).bind fun x=>.ok (eQ !x)
 else if e.op=11 then(boolX (r own ns vs e.args[0]!)).bind fun x=>if x=true then r own ns vs e.args[1]! else r own ns vs e.args[2]!
 else if e.op=12 then(r own ns vs e.args[0]!).bind fun v=>r own (ns++[e.s]) (vs++[v]) e.args[1]!
 else if e.op=13 then fK (r own ns vs) e
 else if e.op=14 then(r own ns vs e.args[0]!).bind fun v=>(match gB v.names v.values e.s with|some x=>if v.kind=2 then .ok x else .er 13|none=>.er 13)
 else if e.op=15 then kh p r own ns vs e
 else if e.op=16 then qf (r own ns vs e.args[0]!) e
 else rc p (r own ns vs) own e
def bh(p:List Mod):Nat->Ev
 |0=>fun _ _ _ _=>.er 16
 |n+1=>jh p (bh p n)
end Go.Av.Ap
namespace Go.Av.Ap
def Rs.st{α:Type}:Rs α->Ms
 |.ok _ m=>m
 |.er _ m=>m
def Rs.on{α:Type}(f:Ms->Ms):Rs α->Rs α
 |.ok a m=>.ok a (f m)
 |.er e m=>.er e (f m)
def jI{α:Type}(y:X α):X α:=.get fun m=>if m.fuel<=0 then .er 16 else .upd (fun m=>{ m with fuel:=m.fuel-1 }) y
def Ji(n a:Int):X Val:=.get fun m=>.upd (fun m=>{ m with world:=m.world.tail,deeds:=m.deeds++[⟨n,a,m.world.headD 0⟩] }) (.ok (jY (m.world.headD 0)))
structure Closed (p:List Mod) (Q:Int->(α:Type)->X α->Prop):Prop where
 ok:∀(o:Int)(α:Type)(a:α),Q o α (.ok a)
 er:∀(o:Int)(α:Type)(e:Int),e≠0->Q o α (.er e)
 bind:∀(o:Int)(α β:Type)(x:X α)(f:α->X β),Q o α x->(∀a,Q o β (f a))->Q o β (x.bind f)
 tick:∀(o:Int)(α:Type)(y:X α),Q o α y->Q o α (jI y)
 act:∀(o n a:Int),Q o Val (Ji n a)
 set:∀(o:Int)(k:Nat)(v:Val),¬o<0->Q o Val (.upd (fun m=>{ m with state:=setSt m.state o.toNat k v }) (.ok v))
 get:∀(o:Int)(k:Nat),Q o Val (.get fun m=>.ok (nF m.state o.toNat k))
 enter:∀(o a:Int)(r:Ev)(f:Fun)(l:List Val),¬a<0->a.toNat<p.length->f∈(p[a.toNat]?.getD default).funcs->(∀o ns vs e,Q o Val (r o ns vs e))->Q o Val (ct p r a f l)
def ga{p:List Mod}{a:Int}{s:bA}{f:Fun}(h:jH p a s=some f):¬a<0/\a.toNat<p.length/\f∈(p[a.toNat]?.getD default).funcs:=by
 unfold jH at h;by_cases h1:a<0
 ·simp[h1]at h
 ·rw[if_neg h1]at h;simp only at h;split at h
  ·cases h
  ·have hm:=K8 h;refine⟨h1,?_,hm⟩;rcases KD a.toNat p.length with k|k
   ·exact k
   ·rw[Kr k]at hm;cases hm
def HD{Q:Int->(α:Type)->X α->Prop}{o:Int}{α:Type}{c:Prop}[Decidable c](x y:X α)(h1:Q o α x)(h2:Q o α y):Q o α (if c then x else y):=by
 split
 ·exact h1
 ·exact h2
section
variable {p:List Mod} {Q:Int->(α:Type)->X α->Prop} (C:Closed p Q)
include C
theorem Closed.boolX{o:Int}{r:X Val}(h:Q o Val r):Q o Bool (boolX r):=by
 refine C.bind _ _ _ _ _ h fun v=>?_;split
 ·exact C.ok _ _ _
 ·exact C.er _ _ _ (by decide)
theorem Closed.listX{o:Int}{r:Exp->X Val}(h:∀e,Q o Val (r e)):∀l,Q o (List Val) (listX r l)
 |[]=>C.ok _ _ _
 |e:: l=>C.bind _ _ _ _ _ (h e) fun _=>C.bind _ _ _ _ _ (Closed.listX h l) fun _=>C.ok _ _ _
theorem Closed.step{r:Ev}(h:∀o ns vs e,Q o Val (r o ns vs e))(o:Int)(ns:List bA)(vs:List Val)(e:Exp):Q o Val (jh p r o ns vs e):=by
 unfold jh;refine C.tick _ _ _ ?_;have B:=fun{α β:Type} {x:X α} {f:α->X β}=>C.bind o α β x f;have I:=@HD Q o;have er:=fun(α:Type) n (h:n≠0)=>C.er o α n h;have ok:=fun(α:Type) (a:α)=>C.ok o α a;refine I _ _ (er _ _ (by decide)) (I _ _ (ok _ _) (I _ _ (I _ _ (ok _ _) (er _ _ (by decide))) (I _ _ ?_ (I _ _ ?_ (I _ _ ?_ (I _ _ ?_ (I _ _ ?_ (I _ _ ?_ (I _ _ ?_ (I _ _ ?_ (I _ _ ?_ (I _ _ ?_ ?_))))))))))))
 ·split
  ·exact ok _ _
  ·exact er _ _ (by decide)
 ·refine B (h _ _ _ _) fun a=>B (h _ _ _ _) fun b=>?_;unfold iN;exact I _ _ (I _ _ (ok _ _) (er _ _ (by decide))) (I _ _ (I _ _ (ok _ _) (I _ _ (ok _ _) (I _ _ (ok _ _) (ok _ _)))) (er _ _ (by decide)))
 ·exact B (C.boolX (h _ _ _ _)) fun a=>I _ _ (ok _ _) (B (C.boolX (h _ _ _ _)) fun b=>ok _ _)
 ·exact B (C.boolX (h _ _ _ _)) fun a=>ok _ _
 ·exact B (C.boolX (h _ _ _ _)) fun a=>I _ _ (h _ _ _ _) (h _ _ _ _)
 ·exact B (h _ _ _ _) fun v=>h _ _ _ _
 ·unfold fK;exact I _ _ (I _ _ (B (C.listX (fun e=>h _ _ _ e) _) fun vs=>I _ _ (ok _ _) (er _ _ (by decide))) (er _ _ (by decide))) (er _ _ (by decide))
 ·refine B (h _ _ _ _) fun v=>?_;split
  ·exact I _ _ (ok _ _) (er _ _ (by decide))
  ·exact er _ _ (by decide)
 ·unfold kh;simp only;split
  ·exact er _ _ (by decide)
  ·rename_i f hf;obtain⟨h1,h2,h3⟩:=ga hf;exact I _ _ (I _ _ (B (C.listX (fun e=>h _ _ _ e) _) fun l=>C.enter _ _ _ _ _ h1 h2 h3 h) (er _ _ (by decide))) (er _ _ (by decide))
 ·unfold qf;exact B (h _ _ _ _) fun v=>I _ _ (I _ _ (C.act _ _ _) (er _ _ (by decide))) (er _ _ (by decide))
 ·unfold rc;split
  ·exact er _ _ (by decide)
  ·rename_i ho;exact I _ _ (er _ _ (by decide)) (I _ _ (B (h _ _ _ _) fun v=>C.set _ _ _ ho) (C.get _ _))
theorem Closed.eval:∀(n:Nat)(o:Int)(ns:List bA)(vs:List Val)(e:Exp),Q o Val (bh p n o ns vs e)
 |0,_,_,_,_=>C.er _ _ _ (by decide)
 |n+1,o,ns,vs,e=>C.step (fun o ns vs e=>Closed.eval n o ns vs e) o ns vs e
end
def Iy(α:Type)(x:X α):Prop:=∀m e s,x m= .er e s->e≠0
def gk(p:List Mod)(a:Int)(f:Fun)(l:List Val)(m:Ms):Ms:={ m with calls:=if f.pub=true then m.calls++[⟨(p[a.toNat]?.getD default).name,f.name,l⟩]else m.calls,frames:=m.frames+1 }
def tZ(p:List Mod):Closed p fun _=>Iy where
 ok:=fun _ _ a m e s h=>by cases h
 er:=fun _ _ a h m e s h2=>by cases h2;exact h
 bind:=fun _ _ _ x f hx hf m e s h=>by
  unfold X.bind at h;cases hr:x m with
  |er c t=>rw[hr]at h;cases h;exact hx m _ _ hr
  |ok a t=>rw[hr]at h;exact hf a t e s h
 tick:=fun _ _ y hy m e s h=>by
  unfold jI X.get at h;by_cases hf:m.fuel<=0
  ·simp only[hf,Kt]at h;cases h;decide
  ·simp only[hf,Ks]at h;exact hy _ e s h
 act:=fun _ n a m e s h=>by cases h
 set:=fun _ k v _ m e s h=>by cases h
 get:=fun _ k m e s h=>by cases h
 enter:=fun _ a r f l _ _ _ hr m e s h=>by
  unfold ct X.get at h;by_cases hf:m.frames<60
  ·simp only[hf,Kt,X.upd,X.bind]at h;cases hq:r a (f.params.map (·.1)) l f.body { m with calls:=if f.pub=true then m.calls++[⟨(p[a.toNat]?.getD default).name,f.name,l⟩]else m.calls,frames:=m.frames+1 }with
   |ok b t=>rw[hq]at h;cases h
   |er c t=>rw[hq]at h;cases h;exact hr _ _ _ _ _ _ _ hq
  ·simp only[hf,Ks]at h;cases h;decide
def rW{p:List Mod}{n:Nat}{o:Int}{ns:List bA}{vs:List Val}{e:Exp}{m s:Ms}{c:Int}(h:bh p n o ns vs e m= .er c s):c≠0:=(tZ p).eval n o ns vs e m c s h
end Go.Av.Ap
namespace Go.Av.Ap
def qa(m:Ms):Prop:=(∀l∈m.state,∀v∈l,bn 4 v=true)/\(∀c∈m.calls,∀v∈c.args,bn 4 v=true)
def gg(m:Ms):List Nat:=m.state.map List.length
def RQ{α:Type}(x:X α)(Q:α->Prop):Prop:=∀m,qa m->qa (x m).st/\gg (x m).st=gg m/\∀a s,x m= .ok a s->Q a
def fC{α:Type}{a:α}{Q:α->Prop}(h:Q a):RQ (.ok a) Q:=fun m hm=>⟨hm,rfl,fun b s e=>by cases e;exact h⟩
def ey{α:Type}{e:Int}{Q:α->Prop}:RQ (.er e) Q:=fun m hm=>⟨hm,rfl,fun b s e=>by cases e⟩
def c6{α β:Type}{x:X α}{f:α->X β}{Q:α->Prop}{R:β->Prop}(hx:RQ x Q)(hf:∀a,Q a->RQ (f a) R):RQ (x.bind f) R:=by
 intro m hm;obtain⟨h1,h2,h3⟩:=hx m hm;cases hr:x m with
 |er e s=>
  rw[hr]at h1 h2;simp only[X.bind,hr];exact⟨h1,h2,fun b s e=>by cases e⟩
 |ok a s=>
  rw[hr]at h1 h2;obtain⟨g1,g2,g3⟩:=hf a (h3 a s hr) s h1;simp only[X.bind,hr];exact⟨g1,g2.trans h2,g3⟩
def bL{α:Type}{c:Prop}[Decidable c]{x y:X α}{Q:α->Prop}(h1:c->RQ x Q)(h2:¬c->RQ y Q):RQ (if c then x else y) Q:=by
 split
 ·exact h1 ‹_›
 ·exact h2 ‹_›
abbrev Rv(v:Val):Prop:=bn 4 v=true
def ef(n:Int):Rv (jY n):=by simp[Rv,jY,bn,Val.names,Val.values,Val.kind]
def eg(b:Bool):Rv (eQ b):=by cases b<;>rfl
theorem gd:(l:List Val)->(d:Nat)->(dA l<=d↔∀v∈l,dT v<=d)
 |[],d=>by simp[dA]
 |v:: l,d=>by
  simp only[dA,KI,forall_eq_or_imp];rw[<- gd l d];omega
def gR(v:Val):dT v=dA v.values+1:=by cases v;rfl
theorem pq:∀(d:Nat)(v:Val),bn (d+1) v=true->dT v<=d->bn d v=true
 |0,v,_,hl=>by rw[gR]at hl;omega
 | d+1,v,h,hl=>by
  rw[gR]at hl;unfold bn at h|-;split at h
  ·rename_i hk;rw[Kn hk];exact h
  ·rename_i hk;rw[if_neg hk];simp only[Kj,KA]at h|-;exact⟨h.1,fun x hx=>pq d x (h.2 x hx) ((gd v.values d).1 (by omega) x hx)⟩
theorem xC{ns:List bA}{vs:List Val}(hl:ns.length=vs.length)(ha:wD ns=true)(h8:ns.length<=8)(hv:∀v∈vs,Rv v)(h4:dT (.mk 2 0 ns vs)<=4):Rv (.mk 2 0 ns vs):=by
 have h3:dA vs<=3:=by
  rw[gR]at h4;have:(Val.mk 2 0 ns vs).values=vs:=rfl;rw[this]at h4;omega
 have h5:=(gd vs 3).1 h3;unfold Rv bn;rw[if_neg (show ¬(((Val.mk 2 0 ns vs).kind== 0||(Val.mk 2 0 ns vs).kind== 1)=true) by simp[Val.kind])];simp only[Kb,Ke,J4,J2,Kj,KA,Lj];exact⟨⟨⟨⟨⟨trivial,trivial⟩,hl⟩,MA h8⟩,ha⟩,fun x hx=>pq 3 x (hv x hx) (h5 x hx)⟩
theorem vJ:∀(d:Nat)(v:Val),bn d v=true->bn (d+1) v=true
 |0,v,h=>by simp[bn]at h
 | d+1,v,h=>by
  unfold bn at h|-;split at h
  ·rename_i hk;rw[Kn hk];exact h
  ·rename_i hk;rw[if_neg hk];simp only[Kj,KA]at h|-;exact⟨h.1,fun x hx=>vJ d x (h.2 x hx)⟩
def sY{v x:Val}(h:Rv v)(hx:x∈v.values):Rv x:=by
 unfold Rv bn at h;split at h
 ·simp only[Kj,Lj]at h;have:v.values=[]:=Kq h.1.2;rw[this]at hx;cases hx
 ·simp only[Kj,KA]at h;exact vJ 3 x (h.2 x hx)
def uM{v:Val}(h:Rv v):v.names.length=v.values.length:=by
 unfold Rv bn at h;split at h
 ·simp only[Kj,Lj]at h;rw[h.1.1,h.1.2]
 ·simp only[Kj,Lj]at h;exact h.1.1.1.2
theorem sL:∀(ns:List bA)(vs:List Val)(s:bA)(v:Val),gw ns vs s=some v->v∈vs
 | n:: ns,w:: vs,s,v,h=>by
  unfold gw at h;split at h
  ·rename_i x hx;cases h;exact Lq _ (sL ns vs s v hx)
  ·split at h
   ·cases h;exact Lv
   ·cases h
 |[],_,_,_,h=>by simp[gw]at h
 |_:: _,[],_,_,h=>by simp[gw]at h
theorem nq:∀(ns:List bA)(vs:List Val)(s:bA)(v:Val),gB ns vs s=some v->v∈vs
 |n:: ns,w:: vs,s,v,h=>by
  unfold gB at h;split at h
  ·cases h;exact Lv
  ·exact Lq _ (nq ns vs s v h)
 |[],_,_,_,h=>by simp[gB]at h
 |_:: _,[],_,_,h=>by simp[gB]at h
def iI(ns:List bA)(vs:List Val):Prop:=ns.length=vs.length/\∀v∈vs,Rv v
def mQ{r:X Val}(h:RQ r Rv):RQ (boolX r) fun _=>True:=c6 h fun _ _=>bL (fun _=>fC trivial) (fun _=>ey)
theorem qQ{r:Exp->X Val}(h:∀e,RQ (r e) Rv):∀l,RQ (listX r l) fun vs=>vs.length=l.length/\∀v∈vs,Rv v
 |[]=>fC ⟨rfl,fun v hv=>by cases hv⟩
 |e:: l=>c6 (h e) fun v hv=>c6 (qQ h l) fun vs hvs=>fC ⟨by simp[hvs.1],fun w hw=>by
  rcases KI.1 hw with rfl|hw
  ·exact hv
  ·exact hvs.2 w hw⟩
def sr{st:List (List Val)}(h:∀l∈st,∀v∈l,Rv v)(i k:Nat)(hd:Rv default):Rv (nF st i k):=by
 unfold nF;rw[KO,KO];cases h1:st[i]? with
 |none=>simpa using hd
 |some l=>
  simp only[MK];cases h2:l[k]? with
  |none=>simpa using hd
  |some v=>exact h l (K8 h1) v (K8 h2)
def s6{p:List Mod}{r:Ev}{a:Int}{f:Fun}{l:List Val}(hr:∀o ns vs e,iI ns vs->RQ (r o ns vs e) Rv)(hl:l.length=f.params.length)(hv:∀v∈l,Rv v):RQ (ct p r a f l) Rv:=by
 have e0:∀m,ct p r a f l m=if m.frames<60 then((r a (f.params.map (·.1)) l f.body).bind fun v=>.upd (fun m=>{ m with frames:=m.frames-1 }) (.ok v)) (gk p a f l m)else .er 6 m:=fun m=>by
  unfold ct X.get;by_cases h:m.frames<60
  ·simp only[h,Kt];rfl
  ·simp only[h,Ks];rfl
 intro m hm;rw[e0];split
 ·have hb:RQ ((r a (f.params.map (·.1)) l f.body).bind fun v=>.upd (fun m=>{ m with frames:=m.frames-1 }) (.ok v)) Rv:=
   c6 (hr _ _ _ _ ⟨by simp[hl],hv⟩) fun _ hv m hm=>⟨hm,rfl,fun a s e=>by cases e;exact hv⟩
  have hm':qa (gk p a f l m):=by
   refine⟨hm.1,fun c hc=>?_⟩;simp only[gk]at hc;split at hc
   ·rcases KG.1 hc with h|h
    ·exact hm.2 c h
    ·simp only[Lh]at h;subst h;exact hv
   ·exact hm.2 c hc
  exact hb _ hm'
 ·exact⟨hm,rfl,fun _ _ e=>by cases e⟩
def right_step{p:List Mod}{r:Ev}(hr:∀o ns vs e,iI ns vs->RQ (r o ns vs e) Rv)(o:Int)(ns:List bA)(vs:List Val)(e:Exp)(hs:iI ns vs):RQ (jh p r o ns vs e) Rv:=by
 have tick:∀y:X Val,RQ y Rv->RQ (jI y) Rv:=fun y hy m hm=>by
  unfold jI X.get;by_cases h:m.fuel<=0
  ·simp only[h,Kt];exact⟨hm,rfl,fun _ _ e=>by cases e⟩
  ·simp only[h,Ks];exact hy { m with fuel:=m.fuel-1 } hm
 have H:=fun e=>hr o ns vs e hs;refine tick _ ?_;refine bL (fun _=>ey) fun _=>bL (fun _=>fC (ef _)) fun _=>bL (fun _=>bL (fun _=>fC (eg _)) fun _=>ey) fun _=>bL (fun _=>?_) fun _=>
  bL (fun _=>?_) fun _=>bL (fun _=>?_) fun _=>bL (fun _=>?_) fun _=>bL (fun _=>?_) fun _=>bL (fun _=>?_) fun _=>bL (fun _=>?_) fun _=>bL (fun _=>?_) fun _=>
  bL (fun _=>?_) fun _=>bL (fun _=>?_) fun _=>?_
 ·split
  ·rename_i v hv;exact fC (hs.2 v (sL _ _ _ _ hv))
  ·exact ey
 ·refine c6 (H _) fun a ha=>c6 (H _) fun b hb=>?_;unfold iN;exact bL (fun _=>bL (fun _=>fC (eg _)) fun _=>ey) fun _=>bL (fun _=>bL (fun _=>fC (ef _)) fun _=>bL (fun _=>fC (ef _)) fun _=>bL (fun _=>fC (ef _)) fun _=>fC (eg _)) fun _=>ey
 ·exact c6 (mQ (H _)) fun a _=>bL (fun _=>fC (eg _)) fun _=>c6 (mQ (H _)) fun b _=>fC (eg _)
 ·exact c6 (mQ (H _)) fun a _=>fC (eg _)
 ·exact c6 (mQ (H _)) fun a _=>bL (fun _=>H _) fun _=>H _
 ·exact c6 (H _) fun v hv=>hr _ _ _ _ ⟨by simp[hs.1],fun w hw=>by
   rcases KG.1 hw with h|h
   ·exact hs.2 w h
   ·simp only[Lh]at h;subst h;exact hv⟩
 ·unfold fK;exact bL (fun h1=>bL (fun h2=>c6 (qQ H _) fun vs hvs=>bL (fun h3=>fC (xC (by rw[hvs.1];exact h1.1) h1.2 h2 hvs.2 h3)) fun _=>ey) fun _=>ey) fun _=>ey
 ·refine c6 (H _) fun v hv=>?_;split
  ·rename_i x hx;exact bL (fun _=>fC (sY hv (nq _ _ _ _ hx))) fun _=>ey
  ·exact ey
 ·unfold kh;simp only;split
  ·exact ey
  ·rename_i f hf;exact bL (fun _=>bL (fun h2=>c6 (qQ H _) fun l hl=>s6 hr (by rw[hl.1,h2]) hl.2) fun _=>ey) fun _=>ey
 ·unfold qf;exact c6 (H _) fun v hv=>bL (fun _=>bL (fun _ m hm=>⟨hm,rfl,fun a s e=>by cases e;exact ef _⟩) fun _=>ey) fun _=>ey
 ·unfold rc;refine bL (fun _=>ey) fun ho=>?_;simp only;refine bL (fun _=>ey) fun hi=>bL (fun _=>c6 (H _) fun v hv m hm=>⟨⟨?_,hm.2⟩,?_,fun a s e=>by cases e;exact hv⟩) fun _ m hm=>⟨hm,rfl,fun a s e=>by cases e;exact sr hm.1 _ _ (ef 0)⟩
  ·intro l hl w hw;simp only[X.upd,X.ok,Rs.st,setSt]at hl;obtain⟨j,hj⟩:=Mo.1 hl;rw[List.getElem?_modify]at hj;cases h1:m.state[j]? with
   |none=>simp[h1]at hj
   | some l0=>
    rw[h1]at hj;simp only[Option.map_eq_map,K3,Kg]at hj;have hold:=hm.1 l0 (K8 h1);split at hj
    ·subst hj;rcases List.mem_or_eq_of_mem_set hw with h|h
     ·exact hold w h
     ·subst h;exact hv
    ·subst hj;exact hold w hw
  ·simp only[X.upd,X.ok,Rs.st,gg,setSt];apply LO;intro j;rw[KX,KX,List.getElem?_modify];cases m.state[j]? with
   |none=>rfl
   |some l0=>
    simp only[K3];split<;>simp
theorem iy{p:List Mod}:∀(n:Nat)(o:Int)(ns:List bA)(vs:List Val)(e:Exp),iI ns vs->RQ (bh p n o ns vs e) Rv
 |0,_,_,_,_,_=>ey
 |n+1,o,ns,vs,e,hs=>right_step (fun o ns vs e h=>iy n o ns vs e h) o ns vs e hs
end Go.Av.Ap
