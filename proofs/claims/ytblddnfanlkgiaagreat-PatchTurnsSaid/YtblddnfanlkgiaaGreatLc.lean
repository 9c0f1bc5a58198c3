/- The abstract evaluator of the model and plain laws, part 3: its soundness holds for every program whose table of types is the evaluator's. No further condition. -/
import Derived.Test.YtblddnfanlkgiaaGreatLb
import Derived.KernelRfl
import Derived.Below
import Derived.Lib.IndexMore
import Derived.Lib.Fields
import Derived.ChangeSame
import Derived.OpenShut
import Derived.IntWalk
import Derived.ChangeReads
import Derived.ReadAgain
import Derived.Deep.Slices
import Derived.WideShapes
import Derived.SizedLaws
import Derived.Shelf.SlSortCmp.WholeK
import Derived.Lib.Bytealg
import Derived.Sort.AssemblyPlain
import Derived.Sort.MapsRangeIn
import Derived.Maps.OwnIn
import Derived.RangeFuncSeq
set_option linter.defProp false
set_option linter.unusedSimpArgs false
set_option linter.unusedVariables false
namespace Go.Av
variable [Dr]
omit [Dr]in
theorem tI{l:List Nat}{t:Nat}(h:t∈l):eL l t=true:=(ge l t).2 h
omit [Dr]in
theorem lP{l:List Nat}{d:Option Nat}(h:bW l d=false):∀t∈l,d≠some t:=by
 intro t ht hd;rw[hd]at h;simp only[bW]at h;rw[tI ht]at h;cases h
omit [Dr]in
theorem mI{a b:Option Nat}(h:clash a b=false):∀t,a=some t->b≠some t:=by
 intro t ha hb;rw[ha,hb]at h;simp[clash]at h
section
variable {cx:Cx} {ops:Array Oper} {base:Nat} {e:Env}
omit [Dr]in
theorem sA{gid:Nat}{f:Foot}{ss:Option Nat}{u:Upd}(h:Shape e gid f ss u):Shape e gid f ss (fQ u):=
 ⟨fun _=>rfl,fun _=>rfl,fun _=>rfl,fun _ x h=>by simp[fQ]at h,fun _=>rfl,fun _=>rfl,fun hw C off hh=>h.loc hw C off hh,fun x h=>by simp[fQ]at h⟩
omit [Dr]in
theorem wb{p q:Upd->Prop}(hpq:∀u,p u->q (fQ u)){A:Act1}(h:cv p A):cv q (gu A):=by
 cases A with
 |bad=>trivial
 |stat u=>exact hpq _ h
 |dyn m sh=>exact fun v=>hpq _ (h v)
 |thr v=>trivial
omit [Dr]in
theorem AF{p:∀ {α:Type},M α->Prop}{A:Act1}(h:bM p A):bM p (gu A):=by
 cases A<;>exact h
omit [Dr]in
theorem oq{i:Nat}{o:Oper}(ho:ops[i]? = some o){h h':Hp}{u:Upd}(hr:ez cx base ops i e h= .ok u h'):Shape e ((base+i)*1000) (aE cx o) (ct o) u:=by
 unfold ez at hr;rw[ho]at hr;simp only at hr;cases hgd:o.guard with
 |none=>rw[hgd]at hr;exact ke (ko _ _ _ _) hr
 | some g=>
  obtain⟨j,want⟩:=g;rw[hgd]at hr;simp only at hr;cases hdj:dm ops j with
  |none=>rw[hdj]at hr;cases hr
  | some t=>
   rw[hdj]at hr;simp only at hr;cases hpl:eg cx o with
   |false=>rw[hpl]at hr;cases hr
   | true=>
    rw[hpl]at hr;simp only[JM]at hr;have h0:∀ {h h':Hp},(M.pure (Upd.ofV (.tup [])):M Upd) h= .ok u h'->Shape e ((base+i)*1000) (aE cx o) (ct o) u:=by
     intro h h' hh;cases hh;exact Shape.ofV ..
    generalize e.av t=q at hr;cases q with
    |bool b=>
     simp only[jq]at hr;cases hb:(b== want)with
     |false=>rw[hb]at hr;exact h0 hr
     |true=>rw[hb]at hr;exact ke (wb (fun u=>sA) (ko _ _ _ _)) hr
    |tup vs=>
     cases vs with
     |nil=>exact h0 hr
     |cons v vs=>cases hr
    |_=>cases hr
omit [Dr]in
theorem wu{p:∀ {α:Type},M α->Prop}(h1:∀ {α:Type} (m:M α),bq m->p m)(h2:∀ {α β:Type} (m:M α) (f:α->β),p m->p (ae m fun v=>M.pure (f v))){A:Act1}(h:bM p A):p (dB A):=by
 cases A with
 |bad=>exact h1 _ bq.fail
 |stat u=>exact h1 _ (bq.pure u)
 |dyn m sh=>exact h2 _ _ h
 |thr v=>exact h.elim
omit [Dr]in
theorem iQ{p:∀ {α:Type},M α->Prop}(h1:∀ {α:Type} (m:M α),bq m->p m)(h2:∀ {α β:Type} (m:M α) (f:α->β),p m->p (ae m fun v=>M.pure (f v))){i:Nat}{o:Oper}(ho:ops[i]? = some o)(h:bM p (fp cx e ((base+i)*1000) o)):p (ez cx base ops i e):=by
 unfold ez;rw[ho];simp only;cases hgd:o.guard with
 |none=>exact wu h1 h2 h
 | some g=>
  obtain⟨j,want⟩:=g;simp only;cases hdj:dm ops j with
  |none=>exact h1 _ bq.fail
  | some t=>
   simp only;cases hpl:eg cx o with
   |false=>exact h1 _ bq.fail
   | true=>
    simp only[JM];unfold jq;split
    ·rename_i b _;cases hb:(b== want)with
     |false=>exact h1 _ (bq.pure _)
     |true=>exact wu h1 h2 (AF h)
    ·exact h1 _ (bq.pure _)
    ·exact h1 _ bq.fail
structure Small (ops:Array Oper):Prop where
 dst:∀(i:Nat)(o:Oper),ops[i]? = some o->∀t,o.dst=some t->t<1000
 src:∀(i:Nat)(o:Oper),ops[i]? = some o->∀t∈io o,t<1000
omit [Dr]in
theorem Small.reads(hS:Small ops){i:Nat}{o:Oper}(ho:ops[i]? = some o):∀t∈cY ops i,t<1000:=by
 intro t ht;rw[fK ho,J3]at ht;rcases ht with ht|ht
 ·unfold d8 at ht;split at ht
  ·rename_i j _ _;cases hj:ops[j]? with
   |none=>rw[hj]at ht;simp at ht
   |some oj=>
    rw[hj]at ht;simp only[Ls]at ht;cases hd:oj.dst with
    |none=>rw[hd]at ht;simp at ht
    |some s=>rw[hd]at ht;simp at ht;rw[ht];exact hS.dst j oj hj s hd
  ·simp at ht
 ·exact hS.src i o ho t ht
omit [Dr]in
theorem mz{gid:Nat}{x:Foot}{ss:Option Nat}{u:Upd}{d:Option Tmp}(hsh:Shape e gid x ss u){t:Nat}(h1:d≠some t)(h2:ss≠some t)(h3:t<1000):(e.upd d u).get t=e.get t:=by
 rw[cE,if_neg h1];refine pc _ fun y hy hyt=>?_;rcases hsh.keys y hy with h|h
 ·omega
 ·exact h2 (by rw[h,hyt])
omit [Dr]in
theorem zR{gid:Nat}{x:Foot}{ss:Option Nat}{u:Upd}{d:Option Tmp}(hsh:Shape e gid x ss u)(hw:x.wl=false){t:Nat}(h1:d≠some t):(e.upd d u).get t=e.get t:=by
 rw[cE,if_neg h1,hsh.ls hw];rfl
omit [Dr]in
theorem qq{gid:Nat}{x:Foot}{ss:Option Nat}{u:Upd}{d:Option Tmp}{o:Oper}(hsh:Shape e gid x ss u)(hd:∀t,d=some t->t<1000)(hops:∀t∈io o,d≠some t/\ss≠some t/\t<1000)(hloc:((aE cx o).rl||(aE cx o).wl)=true->x.wl=false)(hal:(aE cx o).dr=true->x.ad=false/\x.dr=false):Agree cx o e (e.upd d u):=by
 refine⟨fun t ht=>mz hsh (hops t ht).1 (hops t ht).2.1 (hops t ht).2.2,fun h=>⟨fun t ht=>zR hsh (hloc h) (fun hh=>Nat.not_lt.2 ht (hd t hh)),fun B=>?_⟩,fun h g=>?_,fun h s _ hl=>?_⟩
 ·show bv (kG (dF e.lb u.unlb) u.lb) B=bv e.lb B;rw[hsh.lb (hloc h),hsh.unlb (hloc h)];rfl
 ·show aV (u.add++dQ e.al u.drop) g=aV e.al g;rw[hsh.noad (hal h).1,hsh.nodr (hal h).2];rfl
 ·have hw:=hloc (by rw[h];simp);show bd (pZ d u.ent (u.ls++e.sl)) (bu s)=true;rw[hsh.ls hw,d5,Kt,hl,L0];have:lq u.ent (bu s)=true:=by
   unfold lq;split
   ·rename_i C off hv;obtain⟨t,off',ht⟩:=hsh.loc hw C off hv
    have:=lM hl ht
    rw[KF,K5];intro hh;exact this (J2 hh)
   ·rfl
  rw[this,Bool.or_true]
omit [Dr]in
theorem xp{gid:Nat}{x:Foot}{ss:Option Nat}{u:Upd}{d:Option Tmp}{o:Oper}(hsh:Shape e gid x ss u)(hd:∀t,d=some t->t<1000)(hops:∀t∈io o,d≠some t/\ss≠some t/\t<1000)(hloc:((aE cx o).rl||(aE cx o).wl)=true->x.wl=false)(hal:(aE cx o).dr=true->x.ad=false/\x.dr=false):Agree cx o (e.upd d u) e:=by
 have A:=qq (cx:=cx) hsh hd hops hloc hal;refine⟨fun t ht=>(A.ops t ht).symm,fun h=>⟨fun t ht=>((A.loc h).1 t ht).symm,fun B=>((A.loc h).2 B).symm⟩,fun h g=>(A.al h g).symm,fun _ s _ hl=>?_⟩;have hl':bd (pZ d u.ent (u.ls++e.sl)) (bu s)=true:=hl;rw[d5,gd]at hl';simp only[JN]at hl';exact hl'.2.2
omit [Dr]in
theorem uo{gi gj:Nat}{x y:Foot}{si sj:Option Nat}{u v:Upd}{d f:Option Tmp}(hu:Shape e gi x si u)(hv:Shape e gj y sj v)(hy:y.wl=false)(hf:∀t,f=some t->t<1000)(hdf:∀t,d=some t->f≠some t)(hsf:∀t,si=some t->f≠some t)(hg:gi≠gj)(h1:x.dr=true->y.dr=false/\y.ad=false)(h2:x.ad=true->y.dr=false)(h3:x.ad=true->y.ad=true->x.wl=false):EqE ((e.upd d u).upd f v) ((e.upd f v).upd d u):=by
 have e1:=hv.ls hy;have e2:=hv.lb hy;have e3:=hv.unlb hy;refine⟨fun t=>?_,fun g=>?_,fun B=>?_,fun B=>?_⟩
 ·rw[cE,cE,e1];show (if d=some t then u.ent else bQ (u.ls++pZ f v.ent (v.ls++e.sl)) t)=if f=some t then v.ent else bQ (pZ d u.ent (u.ls++e.sl)) t;rw[e1,iB,Kt];by_cases hft:f=some t
  ·rw[JV hft,if_neg (fun h=>hdf t h hft),pc,iB,JV hft];intro z hz hzt;rcases hu.keys z hz with h|h
   ·exact Nat.not_lt.2 h (by rw[hzt];exact hf t hft)
   ·exact hsf z.1 h (by rw[hzt];exact hft)
  ·rw[if_neg hft];split
   ·rfl
   ·exact nv (by rw[iB,if_neg hft])
 ·show aV (u.add++dQ (v.add++dQ e.al v.drop) u.drop) g=aV (v.add++dQ (u.add++dQ e.al u.drop) v.drop) g;cases hxd:x.dr with
  |true=>
   obtain⟨h4,h5⟩:=h1 hxd;rw[hv.noad h5,hv.nodr h4];rfl
  | false=>
   rw[hu.nodr hxd];cases hxa:x.ad with
   |false=>rw[hu.noad hxa];rfl
   | true=>
    rw[hv.nodr (h2 hxa)];cases hya:y.ad with
    |false=>rw[hv.noad hya];rfl
    |true=>
     have k1:=hu.add (h3 hxa hya);have k2:=hv.add hy;show aV (u.add++(v.add++e.al)) g=aV (v.add++(u.add++e.al)) g;rw[dW,dW,dW,dW];by_cases hgi:g=gi
     ·rw[m5 k2 (by omega)]
     ·rw[m5 k1 hgi]
 ·show bv (kG (dF (kG (dF e.lb v.unlb) v.lb) u.unlb) u.lb) B=bv (kG (dF (kG (dF e.lb u.unlb) u.lb) v.unlb) v.lb) B;rw[e2,e3];rfl
 ·show bd (pZ d u.ent (u.ls++pZ f v.ent (v.ls++e.sl))) B=bd (pZ f v.ent (v.ls++pZ d u.ent (u.ls++e.sl))) B;simp only[d5,gd]
  ac_rfl
end
end Go.Av
namespace Go.Av
variable [Dr]
section
variable {cx:Cx} {ops:Array Oper} {base:Nat}
structure Ind (cx:Cx) (ops:Array Oper) (i j:Nat) (a b:Oper):Prop where
 ha:ops[i]? = some a
 hb:ops[j]? = some b
 piv:(aE cx a).piv=false
 l1:(aE cx a).wl=true->(aE cx b).rl=false/\(aE cx b).wl=false
 l2:(aE cx a).rl=true->(aE cx b).wl=false
 h1:(aE cx a).wh=true->(aE cx b).rh=false/\(aE cx b).wh=false
 h2:(aE cx a).rh=true->(aE cx b).wh=false\/(aE cx b).nw=true
 g1:(aE cx a).dr=true->(aE cx b).dr=false/\(aE cx b).ad=false
 g2:(aE cx a).ad=true->(aE cx b).dr=false
 g3:(aE cx a).ad=true->(aE cx b).ad=true->(aE cx a).wl=false/\(aE cx b).wl=false
 r1:∀t∈cY ops j,a.dst≠some t
 r2:∀t∈cY ops i,b.dst≠some t
 s1:∀t∈cY ops j,ct a≠some t
 s2:∀t∈cY ops i,ct b≠some t
 c1:∀t,ct a=some t->b.dst≠some t
 c2:∀t,a.dst=some t->ct b≠some t
 c3:∀t,a.dst=some t->b.dst≠some t
omit [Dr]in
theorem xX{i j:Nat}(h:lF cx ops i j=true):∃a b,Ind cx ops i j a b:=by
 unfold lF at h;split at h
 ·rename_i a b ha hb;refine⟨a,b,?_⟩;simp only[JN,KF]at h;obtain⟨⟨⟨⟨⟨⟨⟨⟨⟨⟨⟨⟨⟨⟨k1,k2⟩,k3⟩,k4⟩,k5⟩,k6⟩,k7⟩,k8⟩,k9⟩,k10⟩,k11⟩,k12⟩,k13⟩,k14⟩,k15⟩:=h;refine⟨ha,hb,k1,fun q=>?_,fun q=>?_,fun q=>?_,fun q=>?_,fun q=>?_,fun q=>?_,fun q q'=>?_,lP k9,lP k10,lP k11,lP k12,mI k13,mI k14,mI k15⟩
  ·rw[q]at k2;simpa using k2
  ·rw[q]at k3;simpa using k3
  ·rw[q]at k4;simpa using k4
  ·rw[q]at k5;simp only[Lg]at k5;cases hb:(aE cx b).wh<;>simp_all
  ·rw[q]at k6;simpa using k6
  ·rw[q]at k7;simpa using k7
  ·rw[q,q']at k8;simpa using k8
 ·cases h
omit [Dr]in
theorem swap(hI:IsoPure cx)(hS:Small ops){i j:Nat}(hij:lF cx ops i j=true)(hne:i≠j)(e:Env)(h:Hp):
  RE (ae (stepG cx base ops i e) (stepG cx base ops j) h) (ae (stepG cx base ops j e) (stepG cx base ops i) h):=by
 obtain⟨a,b,I⟩:=xX hij;have hda:dm ops i=a.dst:=by simp[dm,I.ha]
 have hdb:dm ops j=b.dst:=by simp[dm,I.hb]
 unfold stepG;rw[hda,hdb];simp only[ae,M.pure];cases hri:ez cx base ops i e h with
 |fail=>trivial
 |pan v h'=>exact absurd hri (iQ (p:=@dP) (fun _ g=>g.read.stay) (fun _ f g=>g.bnd f) I.ha ((d9 hI e _ a).stay I.piv) h v h')
 | ok u h1=>
  simp only;have shu:=oq I.ha hri;have hra:=fK (ops:=ops) I.ha;have hrb:=fK (ops:=ops) I.hb;have hbo:∀t∈io b,a.dst≠some t/\ct a≠some t/\t<1000:=fun t ht=>⟨I.r1 t (by rw[hrb];simp[ht]),I.s1 t (by rw[hrb];simp[ht]),hS.src j b I.hb t ht⟩;have hao:∀t∈io a,b.dst≠some t/\ct b≠some t/\t<1000:=fun t ht=>⟨I.r2 t (by rw[hra];simp[ht]),I.s2 t (by rw[hra];simp[ht]),hS.src i a I.ha t ht⟩;have Abwd:Agree cx b (e.upd a.dst u) e:=xp shu (hS.dst i a I.ha) hbo (fun q=>by
   cases hw:(aE cx a).wl with
   |false=>rfl
   |true=>obtain⟨q1,q2⟩:=I.l1 hw;rw[q1,q2]at q;cases q) (fun q=>by
   constructor
   ·cases hw:(aE cx a).ad with
    |false=>rfl
    |true=>have:=I.g2 hw;rw[this]at q;cases q
   ·cases hw:(aE cx a).dr with
    |false=>rfl
    |true=>have:=(I.g1 hw).1;rw[this]at q;cases q)
  have hgb:∀t∈d8 ops b,e.get t=(e.upd a.dst u).get t:=fun t ht=>by
   have htr:t∈cY ops j:=by rw[hrb];simp[ht]
   exact (mz shu (I.r1 t htr) (I.s1 t htr) (hS.reads I.hb t htr)).symm
  -- the second, after the first
  cases hrj:ez cx base ops j (e.upd a.dst u) h1 with
  |fail=>trivial
  | pan v h2=>
   have hj:=fA (base:=base) I.hb hgb Abwd (h:=h1) (by rw[hrj];simp);rw[hrj]at hj
   -- j leaves: so it may write, and i did not touch the heap
   have hwb:(aE cx b).wh=true:=by
    cases hw:(aE cx b).wh with
    |true=>rfl
    |false=>exact absurd hj ((iQ (p:=@dx) (fun _ g=>g.read) (fun _ f g=>g.bnd f) I.hb ((d9 hI e _ b).read hw)).stay _ _ _)
   have hwa:(aE cx a).wh=false:=by
    cases hw:(aE cx a).wh with
    |false=>rfl
    |true=>have:=(I.h1 hw).2;rw[this]at hwb;cases hwb
   have hh:h1=h:=by
    have hR:dx (ez cx base ops i e):=iQ (p:=@dx) (fun _ g=>g.read) (fun _ f g=>g.bnd f) I.ha ((d9 hI e _ a).read hwa);rcases hR h with hx|⟨u',hx⟩<;>rw[hri]at hx<;>cases hx;rfl
   subst hh;rw[hj];exact rfl
  | ok v h2=>
   have hj:=fA (base:=base) I.hb hgb Abwd (h:=h1) (by rw[hrj];simp);rw[hrj]at hj;have shv:=oq I.hb hj;have Afwd:Agree cx a e (e.upd b.dst v):=qq shv (hS.dst j b I.hb) hao (fun q=>by
    cases hw:(aE cx b).wl with
    |false=>rfl
    | true=>
     exfalso;cases hrl:(aE cx a).rl with
     |true=>have:=I.l2 hrl;rw[this]at hw;cases hw
     |false=>
      rw[hrl]at q;have hwl:(aE cx a).wl=true:=by simpa using q
      have:=(I.l1 hwl).2
      rw[this]at hw;cases hw) (fun q=>⟨(I.g1 q).2,(I.g1 q).1⟩)
   have hga:∀t∈d8 ops a,(e.upd b.dst v).get t=e.get t:=fun t ht=>by
    have htr:t∈cY ops i:=by rw[hra];simp[ht]
    exact mz shv (I.r2 t htr) (I.s2 t htr) (hS.reads I.ha t htr)
   have hcomm:EqE ((e.upd a.dst u).upd b.dst v) ((e.upd b.dst v).upd a.dst u):=by
    have hgij:(base+i)*1000≠(base+j)*1000:=by omega
    cases hwb:(aE cx b).wl with
    |false=>
     exact uo shu shv hwb (hS.dst j b I.hb) I.c3 I.c1 hgij I.g1 I.g2 (fun q q'=>(I.g3 q q').1)
    | true=>
     have hwa:(aE cx a).wl=false:=by
      cases hw:(aE cx a).wl with
      |false=>rfl
      |true=>have:=(I.l1 hw).2;rw[this]at hwb;cases hwb
     refine (uo shv shu hwa (hS.dst i a I.ha) (fun t ht hh=>I.c3 t hh ht) (fun t ht hh=>I.c2 t hh ht) (Ne.symm hgij) (fun q=>⟨?_,?_⟩) (fun q=>?_) (fun q q'=>?_)).symm
     ·cases hw:(aE cx a).dr with
      |false=>rfl
      |true=>have:=(I.g1 hw).1;rw[this]at q;cases q
     ·cases hw:(aE cx a).ad with
      |false=>rfl
      |true=>have:=I.g2 hw;rw[this]at q;cases q
     ·cases hw:(aE cx a).dr with
      |false=>rfl
      |true=>have:=(I.g1 hw).2;rw[this]at q;cases q
     ·have:=(I.g3 q' q).2;rw[this]at hwb;cases hwb
   cases hwa:(aE cx a).wh with
   | false=>
    have hR:dx (ez cx base ops i e):=iQ (p:=@dx) (fun _ g=>g.read) (fun _ f g=>g.bnd f) I.ha ((d9 hI e _ a).read hwa);have hh:h1=h:=by
     rcases hR h with hx|⟨u',hx⟩<;>rw[hri]at hx<;>cases hx;rfl
    subst hh;rw[hj];simp only;have hi2:ez cx base ops i e h2= .ok u h2:=by
     cases hra':(aE cx a).rh with
     |false=>
      obtain⟨q,hq⟩:bq (ez cx base ops i e):=iQ (p:=@bq) (fun _ g=>g) (fun _ f g=>g.bnd f) I.ha ((d9 hI e _ a).pure hwa hra');rw[hq]at hri |-;cases q with
      |none=>cases hri
      |some u'=>cases hri;rfl
     | true=>
      rcases I.h2 hra' with hwb|hnw
      case inr=>
       have hNw:wq (ez cx base ops j e):=iQ (p:=@wq) (fun _ g=>g.nw) (fun _ f g=>g.bnd f) I.hb ((d9 hI e _ b).nw hnw);have hAp:kv (ez cx base ops i e)/\dx (ez cx base ops i e):=iQ (p:=fun m=>kv m/\dx m) (fun _ g=>⟨g.app,g.read⟩) (fun _ f g=>kv.bnd g f) I.ha ((d9 hI e _ a).app hwa);obtain⟨t,rfl⟩:=hNw _ _ _ hj;exact hAp.1 _ t _ hri
      have hRb:dx (ez cx base ops j e):=iQ (p:=@dx) (fun _ g=>g.read) (fun _ f g=>g.bnd f) I.hb ((d9 hI e _ b).read hwb);rcases hRb h1 with hx|⟨u',hx⟩<;>rw[hj]at hx<;>cases hx;exact hri
    rw[fA I.ha hga Afwd (by rw[hi2];simp),hi2];exact⟨_,rfl,hcomm⟩
   | true=>
    obtain⟨hrb',hwb⟩:=I.h1 hwa;obtain⟨q,hq⟩:bq (ez cx base ops j e):=iQ (p:=@bq) (fun _ g=>g) (fun _ f g=>g.bnd f) I.hb ((d9 hI e _ b).pure hwb hrb');rw[hq]at hj |-;cases q with
    |none=>cases hj
    |some u'=>
     cases hj;simp only[ai];rw[fA I.ha hga Afwd (by rw[hri];simp),hri];exact⟨_,rfl,hcomm⟩
omit [Dr]in
theorem Ei(hI:IsoPure cx)(hS:Small ops){i:Nat}(q:List Nat):∀(p:List Nat),(∀x∈p,lF cx ops x i=true/\x≠i)->∀(e:Env)(h:Hp),RE (a8 cx base ops (p++i:: q) e h) (a8 cx base ops (i:: (p++q)) e h)
 |[],_,e,h=>RE.refl _
 | x:: p,hp,e,h=>by
  have ih:=fun e h=>Ei hI hS q p (fun y hy=>hp y (by simp[hy])) e h;have h1:RE (a8 cx base ops (x:: (p++i:: q)) e h) (a8 cx base ops (x:: i:: (p++q)) e h):=by
   simp only[a8,ae]at ih |-;cases stepG cx base ops x e h with
   |ok e' h'=>exact ih e' h'
   |pan v h'=>exact rfl
   |fail=>trivial
  refine h1.trans ?_;have e1:a8 cx base ops (x:: i:: (p++q)) e=ae (ae (stepG cx base ops x e) (stepG cx base ops i)) (a8 cx base ops (p++q)):=by rw[fU];rfl
  have e2:a8 cx base ops (i:: x:: (p++q)) e=ae (ae (stepG cx base ops i e) (stepG cx base ops x)) (a8 cx base ops (p++q)):=by rw[fU];rfl
  show RE (a8 cx base ops (x:: i:: (p++q)) e h) (a8 cx base ops (i:: x:: (p++q)) e h);rw[e1,e2];exact RE.bind (swap hI hS (hp x (by simp)).1 (hp x (by simp)).2 e h) fun e e' x h=>l7 _ h x
end
end Go.Av
namespace Go.Av
variable [Dr]
omit [Dr]in
theorem Aw{a b:Option (Nat×Bool)}(h:xc a b=true):a=b:=by
 unfold xc at h;split at h
 ·rfl
 ·simp only[JN,Kw]at h;rw[J2 h.1,h.2]
 ·cases h
def gx(gs:List (Option (Nat×Bool)×List Nat)):List Nat:=gs.flatMap (·.2)
omit [Dr]in
theorem ie(ops:Array Oper):∀l:List Nat,gx (dp ops l)=l/\∀g∈dp ops l,∀i∈g.2,guardOf ops i=g.1
 |[]=>⟨rfl,by simp[dp]⟩
 | i :: is=>by
  obtain⟨h1,h2⟩:=ie ops is;simp only[dp];cases hg:dp ops is with
  |nil=>
   rw[hg]at h1;have:is=[]:=by simpa [gx]using h1.symm
   subst this;exact⟨rfl,by simp⟩
  | cons x r=>
   obtain⟨g,js⟩:=x;rw[hg]at h1 h2;simp only;cases hs:xc (guardOf ops i) g with
   | true=>
    refine⟨?_,fun y hy=>?_⟩
    ·simp only[JM,gx,LY,Kr]at h1 |-;rw[h1]
    ·simp only[JM,Kc]at hy;rcases hy with rfl|hy
     ·intro k hk;simp only[Kc]at hk;rcases hk with rfl|hk
      ·exact Aw hs
      ·exact h2 (g,js) (by simp) k hk
     ·exact h2 y (by simp[hy])
   | false=>
    refine⟨?_,fun y hy=>?_⟩
    ·simp only[JX,gx,LY,Kr,Kt]at h1 |-;rw[h1]
    ·simp only[JX,Kc]at hy;rcases hy with rfl|rfl|hy
     ·intro k hk;simp only[Le]at hk;subst hk;rfl
     ·exact h2 (g,js) (by simp)
     ·exact h2 y (by simp[hy])
omit [Dr]in
theorem s8{ρ:Type}(e:Env)(d:Option Tmp)(A:Act1)(k:Env->M ρ):lr e d A k=ae (dB A) fun u=>k (e.upd d u):=by
 cases A with
 |bad=>rfl
 |stat u=>rfl
 |dyn m sh=>simp only[lr,dB,fU,aG]
 |thr v=>rfl
omit [Dr]in
theorem xy{α β:Type}{m:M α}{f g:α->M β}{h:Hp}(hfg:∀u h',m h= .ok u h'->f u h'=g u h'):ae m f h=ae m g h:=by
 simp only[ae];cases hm:m h with
 |ok u h'=>exact hfg u h' hm
 |pan v h'=>rfl
 |fail=>rfl
section
variable {cx:Cx} {ops:Array Oper} {base:Nat}
omit [Dr]in
theorem xo{i:Nat}{o:Oper}(ho:ops[i]? = some o)(hg:guardOf ops i=none)(e:Env):ez cx base ops i e=dB (fp cx e ((base+i)*1000) o):=by
 have:o.guard=none:=by simpa [guardOf,ho]using hg
 unfold ez;rw[ho];simp only;rw[this]
omit [Dr]in
theorem mi{i j t:Nat}{want:Bool}{o:Oper}(ho:ops[i]? = some o)(hg:guardOf ops i=some (j,want))(hj:dm ops j=some t)(hp:eg cx o=true)(e:Env):
  ez cx base ops i e=jq (e.av t) want (dB (gu (fp cx e ((base+i)*1000) o))):=by
 have:o.guard=some (j,want):=by simpa [guardOf,ho]using hg
 unfold ez;rw[ho];simp only;rw[this];simp only;rw[hj];simp only;rw[hp];rfl
omit [Dr]in
theorem tX{ρ:Type}:∀(is:List Nat)(e:Env)(k:Env->M ρ)(_:∀i∈is,guardOf ops i=none),g9 cx base ops false is e k=ae (a8 cx base ops is e) k
 |[],e,k,_=>rfl
 | i:: is,e,k,hg=>by
  simp only[g9,a8];unfold stepG;cases ho:ops[i]? with
  |none=>unfold ez;rw[ho];rfl
  |some o=>
   simp only;rw[s8,xo ho (hg i (by simp)),fU,fU];have hd:dm ops i=o.dst:=by simp[dm,ho]
   rw[hd];congr 1;funext u;simp only[aG];exact tX is _ k fun j hj=>hg j (by simp[hj])
structure Turned (ds:List Nat) (e e':Env):Prop where
 get:∀t,t ∉ ds->e'.get t=e.get t
 al:e'.al=e.al
 lb:e'.lb=e.lb
 lf:∀B,bd e.sl B=true->bd e'.sl B=true
 ng:∀t∈ds,(e'.get t).g=none
omit [Dr]in
theorem Turned.step{ds:List Nat}{e e':Env}(H:Turned ds e e'){u:Upd}{d:Option Nat}(hls:u.ls=[])(hadd:u.add=[])(hdrop:u.drop=none)(hlb:u.lb=none)(hunlb:u.unlb=none)(hg:u.ent.g=none)(hloc:∀C off,u.ent.v= .loc C off->∃t off',(e'.get t).v= .loc C off'):Turned (d.toList++ds) e (e'.upd d u):=by
 have hget:∀t,(e'.upd d u).get t=if d=some t then u.ent else e'.get t:=fun t=>by rw[cE,hls];rfl
 refine⟨fun t ht=>?_,?_,?_,fun B hB=>?_,fun t ht=>?_⟩
 ·simp only[J3,Mx,Lx]at ht;rw[hget,if_neg ht.1];exact H.get t ht.2
 ·show u.add++dQ e'.al u.drop=e.al;rw[hadd,hdrop];exact H.al
 ·show kG (dF e'.lb u.unlb) u.lb=e.lb;rw[hlb,hunlb];exact H.lb
 ·have h1:=H.lf B hB;show bd (pZ d u.ent (u.ls++e'.sl)) B=true;rw[hls,d5,Kt,h1,L0];have:lq u.ent B=true:=by
   unfold lq;split
   ·rename_i C off hv;obtain⟨t,off',ht⟩:=hloc C off hv
    have:=lM h1 ht
    rw[KF,K5];intro hh;exact this (J2 hh)
   ·rfl
  rw[this,Bool.or_true]
 ·rw[hget];split
  ·exact hg
  ·rename_i hd;simp only[J3,Lx]at ht;rcases ht with ht|ht
   ·exact absurd ht hd
   ·exact H.ng t ht
omit [Dr]in
theorem Turned.refl(e:Env):Turned [] e e:=⟨fun _ _=>rfl,rfl,rfl,fun _ h=>h,fun t h=>by simp at h⟩
omit [Dr]in
theorem Turned.sub{ds ds':List Nat}{e e':Env}(H:Turned ds e e')(h:∀t,t∈ds↔t∈ds'):Turned ds' e e':=
 ⟨fun t ht=>H.get t fun hh=>ht ((h t).1 hh),H.al,H.lb,H.lf,fun t ht=>H.ng t ((h t).2 ht)⟩
structure GroupOk (cx:Cx) (ops:Array Oper) (j:Nat) (want:Bool) (t:Nat) (is:List Nat):Prop where
 hj:dm ops j=some t
 each:∀i∈is,∃o,ops[i]? = some o/\guardOf ops i=some (j,want)/\eg cx o=true
 nt:t ∉ cL ops is
omit [Dr]in
theorem g8(i:Nat)(is:List Nat):∀t,t∈cL ops (i:: is)↔dm ops i=some t\/t∈cL ops is:=by
 intro t;unfold cL;simp only[LS,Kc,exists_eq_or_imp]
omit [Dr]in
theorem GroupOk.tail{j:Nat}{want:Bool}{t i:Nat}{is:List Nat}(G:GroupOk cx ops j want t (i:: is)):GroupOk cx ops j want t is:=
 ⟨G.hj,fun k hk=>G.each k (by simp[hk]),fun h=>G.nt ((g8 i is t).2 (.inr h))⟩
omit [Dr]in
theorem GroupOk.ne{j:Nat}{want:Bool}{t i:Nat}{is:List Nat}(G:GroupOk cx ops j want t (i:: is)):dm ops i≠some t:=fun h=>G.nt ((g8 i is t).2 (.inl h))
omit [Dr]in
theorem jo{A:Act1}{h h':Hp}{u:Upd}(hr:dB (gu A) h= .ok u h'):∃u0,dB A h= .ok u0 h'/\u=fQ u0:=by
 rw[m0]at hr;cases hx:dB A h<;>rw[hx]at hr<;>simp at hr;exact⟨_,by rw[hr.2],hr.1.symm⟩
omit [Dr]in
theorem qY{ρ:Type}{j:Nat}{want:Bool}{t:Nat}:∀(is:List Nat)(e:Env)(k:Env->M ρ)(h:Hp),GroupOk cx ops j want t is->e.av t= .bool want->g9 cx base ops true is e k h=ae (a8 cx base ops is e) k h
 |[],e,k,h,_,_=>rfl
 |i:: is,e,k,h,G,hc=>by
  obtain⟨o,ho,hg,hp⟩:=G.each i (by simp);have hd:dm ops i=o.dst:=by simp[dm,ho]
  simp only[g9,a8,ho,JM];rw[s8];unfold stepG;rw[mi ho hg G.hj hp,hc,fU,fU];simp only[jq,Lr,JM,aG,hd];refine xy fun u h' hu=>?_;obtain⟨u0,hu0,rfl⟩:=jo hu;refine qY is _ k h' G.tail ?_;have:(e.upd o.dst (fQ u0)).get t=e.get t:=by rw[cE,if_neg (by rw[<- hd];exact G.ne)];rfl
  simp only[Env.av,this];exact hc
omit [Dr]in
theorem md{j:Nat}{want:Bool}{t:Nat}:∀(is:List Nat)(e e':Env)(h h':Hp),GroupOk cx ops j want t is->e.av t= .bool want->a8 cx base ops is e h= .ok e' h'->Turned (cL ops is) e e':=by
 have key:∀(is:List Nat)(e0 e e':Env)(ds:List Nat)(h h':Hp),GroupOk cx ops j want t is->e.av t= .bool want->Turned ds e0 e->a8 cx base ops is e h= .ok e' h'->Turned (cL ops is++ds) e0 e':=by
  intro is
  induction is with
  |nil=>
   intro e0 e e' ds h h' _ _ H hr;cases hr;exact H
  | cons i is ih=>
   intro e0 e e' ds h h' G hc H hr;obtain⟨o,ho,hg,hp⟩:=G.each i (by simp);have hd:dm ops i=o.dst:=by simp[dm,ho]
   simp only[a8]at hr;unfold stepG at hr;rw[mi ho hg G.hj hp,hc,fU]at hr;simp only[jq,Lr,JM,hd,ae]at hr;cases hx:dB (gu (fp cx e ((base+i)*1000) o)) h with
   |fail=>rw[hx]at hr;cases hr
   |pan v hh=>rw[hx]at hr;cases hr
   | ok u hh=>
    rw[hx]at hr;simp only at hr;obtain⟨u0,hu0,rfl⟩:=jo hx;have hsh:=ke (ko cx e ((base+i)*1000) o) hu0;simp only[eg,JN,KF]at hp;have H2:=H.step (u:=fQ u0) (d:=o.dst) rfl rfl rfl rfl rfl rfl (hsh.loc hp.1);refine (ih e0 _ e' _ hh h' G.tail ?_ H2 hr).sub fun s=>?_
    ·have:(e.upd o.dst (fQ u0)).get t=e.get t:=by rw[cE,if_neg (by rw[<- hd];exact G.ne)];rfl
     simp only[Env.av,this];exact hc
    ·simp only[J3,g8,Lx,hd];constructor
     ·rintro (h|h|h)
      ·exact .inl (.inr h)
      ·exact .inl (.inl h)
      ·exact .inr h
     ·rintro ((h|h)|h)
      ·exact .inr (.inl h)
      ·exact .inl h
      ·exact .inr (.inr h)
 intro is e e' h h' G hc hr;exact (key is e e e' [] h h' G hc (.refl e) hr).sub (by simp)
def Off(c:AV)(want:Bool):Prop:=c= .tup []\/∃b,c= .bool b/\(b== want)=false
omit [Dr]in
theorem Off.look{c:AV}{want:Bool}(h:Off c want)(m:M Upd):jq c want m=M.pure (.ofV (.tup [])):=by
 rcases h with rfl|⟨b,rfl,hb⟩
 ·rfl
 ·simp only[jq,hb,JX]
omit [Dr]in
theorem Cb{j:Nat}{want:Bool}{t:Nat}:∀(is:List Nat)(e:Env)(h:Hp),GroupOk cx ops j want t is->Off (e.av t) want->∃e',a8 cx base ops is e h= .ok e' h/\Turned (cL ops is) e e'/\∀s∈cL ops is,e'.get s=⟨.val (.tup []),none⟩:=by
 have key:∀(is:List Nat)(e0 e:Env)(ds:List Nat)(h:Hp),GroupOk cx ops j want t is->Off (e.av t) want->Turned ds e0 e->(∀s∈ds,e.get s=⟨.val (.tup []),none⟩)->
   ∃e',a8 cx base ops is e h= .ok e' h/\Turned (cL ops is++ds) e0 e'/\∀s∈cL ops is++ds,e'.get s=⟨.val (.tup []),none⟩:=by
  intro is
  induction is with
  |nil=>exact fun e0 e ds h _ _ H hds=>⟨e,rfl,H,hds⟩
  | cons i is ih=>
   intro e0 e ds h G hc H hds;obtain⟨o,ho,hg,hp⟩:=G.each i (by simp);have hd:dm ops i=o.dst:=by simp[dm,ho]
   have hget:∀s,(e.upd o.dst (.ofV (.tup []))).get s=if o.dst=some s then⟨.val (.tup []),none⟩else e.get s:=fun s=>by rw[cE];rfl
   have H2:=H.step (u:=.ofV (.tup [])) (d:=o.dst) rfl rfl rfl rfl rfl rfl (fun C off hh=>by cases hh);have hav:(e.upd o.dst (.ofV (.tup []))).av t=e.av t:=by
    have:(e.upd o.dst (.ofV (.tup []))).get t=e.get t:=by rw[hget,if_neg (by rw[<- hd];exact G.ne)]
    simp only[Env.av,this]
   obtain⟨e',h1,h2,h3⟩:=ih e0 (e.upd o.dst (.ofV (.tup []))) (o.dst.toList++ds) h G.tail (by rw[hav];exact hc) H2 (fun s hs=>by
    rw[hget];split
    ·rfl
    ·rename_i hn;simp only[J3,Lx]at hs;rcases hs with hs|hs
     ·exact absurd hs hn
     ·exact hds s hs)
   have hiff:∀s,s∈cL ops is++(o.dst.toList++ds)↔s∈cL ops (i:: is)++ds:=fun s=>by
    simp only[J3,g8,Lx,hd];constructor
    ·rintro (h|h|h)
     ·exact .inl (.inr h)
     ·exact .inl (.inl h)
     ·exact .inr h
    ·rintro ((h|h)|h)
     ·exact .inr (.inl h)
     ·exact .inl h
     ·exact .inr (.inr h)
   refine⟨e',?_,h2.sub hiff,fun s hs=>h3 s ((hiff s).2 hs)⟩;simp only[a8];unfold stepG;rw[mi ho hg G.hj hp,hc.look,hd];exact h1
 intro is e h G hc;obtain⟨e',h1,h2,h3⟩:=key is e e [] h G hc (.refl e) (by simp);exact⟨e',h1,h2.sub (by simp),fun s hs=>h3 s (by simp[hs])⟩
end
end Go.Av
namespace Go.Av
variable [Dr]
section
variable {cx:Cx} {ops:Array Oper} {base:Nat}
structure Rel (ops:Array Oper) (L:List Nat) (e2 e:Env):Prop where
 get:∀t,e2.get t=e.get t\/(e2.get t=Ent.none/\t<1000/\∀i∈L,t ∉ cY ops i)
 al:∀g,aV e2.al g=aV e.al g
 lb:∀B,bv e2.lb B=bv e.lb B
 lf:∀B,bd e2.sl B=true->bd e.sl B=true
omit [Dr]in
theorem Rel.refl(ops:Array Oper)(L:List Nat)(e:Env):Rel ops L e e:=⟨fun _=>.inl rfl,fun _=>rfl,fun _=>rfl,fun _ h=>h⟩
omit [Dr]in
theorem Rel.sub{L L':List Nat}{e2 e:Env}(H:Rel ops L e2 e)(h:∀i∈L',i∈L):Rel ops L' e2 e:=
 ⟨fun t=>(H.get t).imp id fun⟨h1,h2,h3⟩=>⟨h1,h2,fun i hi=>h3 i (h i hi)⟩,H.al,H.lb,H.lf⟩
omit [Dr]in
theorem Rel.read{L:List Nat}{e2 e:Env}(H:Rel ops L e2 e){i t:Nat}(hi:i∈L)(ht:t∈cY ops i):e.get t=e2.get t:=by
 rcases H.get t with h|⟨_,_,h⟩
 ·exact h.symm
 ·exact absurd ht (h i hi)
omit [Dr]in
theorem Rel.agree{L:List Nat}{e2 e:Env}(H:Rel ops L e2 e){i:Nat}{o:Oper}(hi:i∈L)(ho:ops[i]? = some o):Agree cx o e2 e:=by
 refine⟨fun t ht=>H.read hi (by rw[fK ho];simp[ht]),fun _=>⟨fun t ht=>?_,fun B=>(H.lb B).symm⟩,fun _ g=>(H.al g).symm,fun _ s _ hl=>H.lf _ hl⟩;rcases H.get t with h|⟨_,h,_⟩
 ·exact h.symm
 ·omega
omit [Dr]in
theorem Rel.upd{L:List Nat}{e2 e:Env}(H:Rel ops L e2 e)(d:Option Tmp)(u:Upd):Rel ops L (e2.upd d u) (e.upd d u):=by
 refine⟨fun t=>?_,fun g=>?_,fun B=>?_,fun B hB=>?_⟩
 ·rw[cE,cE];split
  ·exact .inl rfl
  ·rw[iA,iA];split
   ·exact .inl rfl
   ·exact H.get t
 ·show aV (u.add++dQ e2.al u.drop) g=aV (u.add++dQ e.al u.drop) g;have:aV (dQ e2.al u.drop) g=aV (dQ e.al u.drop) g:=by
   cases u.drop with
   |none=>exact H.al g
   |some k=>simp only[dQ,jF,H.al g]
  rw[dW,dW,this]
 ·show bv (kG (dF e2.lb u.unlb) u.lb) B=bv (kG (dF e.lb u.unlb) u.lb) B;have:bv (dF e2.lb u.unlb) B=bv (dF e.lb u.unlb) B:=by
   cases u.unlb with
   |none=>exact H.lb B
   |some k=>simp only[dF,lK,H.lb B]
  cases u.lb with
  |none=>exact this
  |some x=>
   obtain⟨k,n⟩:=x;simp only[kG,dC,this]
 ·have hB':bd (pZ d u.ent (u.ls++e2.sl)) B=true:=hB;show bd (pZ d u.ent (u.ls++e.sl)) B=true;rw[d5,gd]at hB' |-;simp only[JN]at hB' |-;exact⟨hB'.1,hB'.2.1,H.lf B hB'.2.2⟩
omit [Dr]in
theorem Rel.run:∀(is:List Nat){L:List Nat}{e2 e:Env}(_:Rel ops L e2 e)(_:∀i∈is,i∈L)(h:Hp),a8 cx base ops is e2 h≠.fail->
  (∃e2' e' h',a8 cx base ops is e2 h= .ok e2' h'/\a8 cx base ops is e h= .ok e' h'/\Rel ops L e2' e')\/∃v h',a8 cx base ops is e2 h= .pan v h'/\a8 cx base ops is e h= .pan v h'
 |[],L,e2,e,H,_,h,_=>.inl ⟨e2,e,h,rfl,rfl,H⟩
 | i:: is,L,e2,e,H,hL,h,hr=>by
  simp only[a8]at hr |-;unfold stepG at hr |-;simp only[ae,M.pure]at hr |-;cases hx:ez cx base ops i e2 h with
  |fail=>rw[hx]at hr;exact absurd rfl hr
  | _ =>
   have ho:∃o,ops[i]? = some o:=by
    cases ho:ops[i]? with
    |none=>unfold ez at hx;rw[ho]at hx;cases hx
    |some o=>exact⟨o,rfl⟩
   obtain⟨o,ho⟩:=ho;have hi:=hL i (by simp);have hy:ez cx base ops i e h=ez cx base ops i e2 h:=fA ho (fun t ht=>H.read hi (by rw[fK ho];simp[ht])) (H.agree hi ho) (by rw[hx];simp);rw[hy,hx]
   first
    | rw[hx]at hr
      exact Rel.run is (H.upd _ _) (fun k hk=>hL k (by simp[hk])) _ hr
    |exact .inr ⟨_,_,rfl,rfl⟩
omit [Dr]in
theorem oP(e:Env):∀(ds:List Nat)(t:Nat),(forget e ds).get t=if t∈ds then Ent.none else e.get t
 |[],t=>by simp[forget]
 | d:: ds,t=>by
  show bQ ((d,Ent.none):: (forget e ds).sl) t=_;rw[cp];by_cases hd:d=t
  ·subst hd;simp
  ·rw[if_neg hd]
   have:=oP e ds t
   simp only[Env.get]at this;rw[this];have hd':¬t=d:=fun h=>hd h.symm;simp[hd',Env.get]
omit [Dr]in
theorem nn(e:Env):∀(ds:List Nat),(forget e ds).al=e.al/\(forget e ds).lb=e.lb/\∀B,bd (forget e ds).sl B=bd e.sl B
 |[]=>⟨rfl,rfl,fun _=>rfl⟩
 |_d:: ds=>nn e ds
omit [Dr]in
theorem nI(e:Env)(f:Nat->AV):∀(outs:List Nat)(pre:List AV)(t:Nat),(fu e (pre++outs.map f) pre.length outs).get t=if t∈outs then⟨.val (f t),none⟩else e.get t
 |[],pre,t=>by simp[fu]
 | d:: ds,pre,t=>by
  show bQ ((d,⟨.val (nth (pre++(d:: ds).map f) pre.length),none⟩):: (fu e (pre++(d:: ds).map f) (pre.length+1) ds).sl) t=_;rw[cp];have hn:nth (pre++(d:: ds).map f) pre.length=f d:=by simp[nth]
  by_cases hd:d=t
  ·subst hd;rw[hn];simp
  ·rw[if_neg hd]
   have:=nI e f ds (pre++[f d]) t
   simp only[KL,JY,Ke,J8,List.singleton_append]at this;simp only[Env.get,Ks]at this |-;rw[this];have hd':¬t=d:=fun h=>hd h.symm;simp[hd']
omit [Dr]in
theorem l8(e:Env)(vs:List AV):∀(outs:List Nat)(i:Nat),(fu e vs i outs).al=e.al/\(fu e vs i outs).lb=e.lb/\∀B,bd (fu e vs i outs).sl B=bd e.sl B
 |[],_i=>⟨rfl,rfl,fun _=>rfl⟩
 |_d:: ds,i=>l8 e vs ds (i+1)
omit [Dr]in
theorem wm(gs:List (Option (Nat×Bool)×List Nat))(t:Nat):wk ops gs t=true↔∃i∈gx gs,t∈cY ops i:=by
 unfold wk gx;simp only[List.any_eq_true,List.mem_flatMap,ge];constructor
 ·rintro⟨g,hg,i,hi,ht⟩;exact⟨i,⟨g,hg,hi⟩,ht⟩
 ·rintro⟨i,⟨g,hg,hi⟩,ht⟩;exact⟨g,hg,i,hi,ht⟩
omit [Dr]in
theorem Rel.close{is:List Nat}{gs:List (Option (Nat×Bool)×List Nat)}{e2 e e':Env}(H:Rel ops (is++gx gs) e2 e)(hS:Small ops)(T:Turned (cL ops is) e e'){vs:List AV}{f:Nat->AV}(hvs:vs=(da ops is gs).map f)(hf:∀t∈da ops is gs,e'.get t=⟨.val (f t),none⟩\/(f t= .any/\t<1000/\∀i∈gx gs,t ∉ cY ops i)):Rel ops (gx gs) (fu (forget e2 (cL ops is)) vs 0 (da ops is gs)) e':=by
 have hr:=l8 (forget e2 (cL ops is)) vs (da ops is gs) 0;have hr2:=nn e2 (cL ops is);refine⟨fun t=>?_,fun g=>?_,fun B=>?_,fun B hB=>?_⟩
 ·have hg:=nI (forget e2 (cL ops is)) f (da ops is gs) [] t;simp only[Kt,J8]at hg;rw[hvs,hg];split
  ·rename_i ht;rcases hf t ht with h|⟨h1,h2,h3⟩
   ·exact .inl h.symm
   ·exact .inr ⟨by rw[h1];rfl,h2,h3⟩
  ·rename_i ht;rw[oP];split
   ·rename_i hd;refine .inr ⟨rfl,?_,fun i hi hti=>ht ?_⟩
    ·unfold cL at hd;simp only[LS]at hd;obtain⟨i,hi,hd⟩:=hd;unfold dm at hd;cases hoi:ops[i]? with
     |none=>rw[hoi]at hd;simp at hd
     |some o=>rw[hoi]at hd;exact hS.dst i o hoi t hd
    ·unfold da;rw[MI];exact⟨hd,(wm gs t).2 ⟨i,hi,hti⟩⟩
   ·rename_i hd;rw[T.get t hd];rcases H.get t with h|⟨h1,h2,h3⟩
    ·exact .inl h
    ·exact .inr ⟨h1,h2,fun i hi=>h3 i (by simp[hi])⟩
 ·rw[hr.1,hr2.1,T.al];exact H.al g
 ·rw[hr.2.1,hr2.2.1,T.lb];exact H.lb B
 ·rw[hr.2.2,hr2.2.2]at hB;exact T.lf B (H.lf B hB)
omit [Dr]in
theorem pG(l m:List Nat):∀e:Env,a8 cx base ops (l++m) e=ae (a8 cx base ops l e) (a8 cx base ops m):=by
 induction l with
 |nil=>intro e;rfl
 |cons i l ih=>
  intro e;show ae (stepG cx base ops i e) (a8 cx base ops (l++m))=ae (ae (stepG cx base ops i e) (a8 cx base ops l)) (a8 cx base ops m);rw[fU];congr 1;funext e';exact ih e'
omit [Dr]in
theorem Bu{x:Ent}(h1:kO x=true)(h2:x.g=none):x=⟨.val x.av,none⟩:=by
 obtain⟨v,g⟩:=x;cases v with
 |val a=>simp only at h2;subst h2;rfl
 |loc B off=>cases h1
omit [Dr]in
theorem iy{ρ:Type}(hS:Small ops):∀(gs:List (Option (Nat×Bool)×List Nat))(e2 e:Env)(k:Env->M ρ)(h:Hp),(∀g∈gs,∀i∈g.2,guardOf ops i=g.1)->Rel ops (gx gs) e2 e->dG cx base ops gs e2 k h≠.fail->
  (∃e2' e' h',dG cx base ops gs e2 k h=k e2' h'/\a8 cx base ops (gx gs) e h= .ok e' h'/\Rel ops [] e2' e')\/∃v h',dG cx base ops gs e2 k h= .pan v h'/\a8 cx base ops (gx gs) e h= .pan v h'
 |[],e2,e,k,h,_,H,_=>.inl ⟨e2,e,h,rfl,rfl,H⟩
 | (none,is):: gs,e2,e,k,h,hg,H,hr=>by
  have hg0:∀i∈is,guardOf ops i=none:=hg (none,is) (by simp);have hfl:gx ((none,is):: gs)=is++gx gs:=rfl;rw[hfl]at H |-;rw[pG];simp only[dG]at hr |-;rw[tX is e2 _ hg0]at hr |-;simp only[ae]at hr |-;have hr2:a8 cx base ops is e2 h≠.fail:=fun hf=>by rw[hf]at hr;exact hr rfl
  rcases H.run (base:=base) (cx:=cx) is (fun i hi=>by simp[hi]) h hr2 with⟨e2',e',h',h1,h2,H'⟩|⟨v,h',h1,h2⟩
  ·rw[h1]at hr |-;rw[h2];exact iy hS gs e2' e' k h' (fun g hgg=>hg g (by simp[hgg])) (H'.sub fun i hi=>by simp[hi]) hr
  ·rw[h1,h2];exact .inr ⟨v,h',rfl,rfl⟩
 | (some (j,want),is):: gs,e2,e,k,h,hg,H,hr=>by
  have hg0:∀i∈is,guardOf ops i=some (j,want):=hg (some (j,want),is) (by simp);have hfl:gx ((some (j,want),is):: gs)=is++gx gs:=rfl;rw[hfl]at H |-;rw[pG];simp only[dG]at hr |-;cases hdj:dm ops j with
  |none=>rw[hdj]at hr;exact absurd rfl hr
  | some t=>
   rw[hdj]at hr;simp only at hr |-;revert hr;cases hc:((is.all fun i=>match ops[i]? with|some o=>eg cx o&&o.dst.isSome|none=>false)&&!(eL (cL ops is) t))with
   |false=>intro hr;exact absurd rfl hr
   | true=>
    intro hr;simp only[JM]at hr |-;simp only[JN,KF,J6]at hc;have G:GroupOk cx ops j want t is:=by
     refine⟨hdj,fun i hi=>?_,fun ht=>?_⟩
     ·have:=hc.1 i hi
      cases hoi:ops[i]? with
      |none=>rw[hoi]at this;cases this
      |some o=>
       rw[hoi]at this;simp only[JN]at this;exact⟨o,rfl,hg0 i hi,this.1⟩
     ·rw[(ge _ _).2 ht]at hc;exact Bool.noConfusion hc.2
    have htr:∀i∈is,t∈cY ops i:=fun i hi=>by
     obtain⟨o,ho,hgi,_⟩:=G.each i hi;rw[fK ho];have:o.guard=some (j,want):=by simpa [guardOf,ho]using hgi
     have:t∈d8 ops o:=by
      unfold d8;rw[this];simp only;rw[show (ops[j]?).bind (·.dst)=some t from hdj];simp
     simp[this]
    -- the guard says yes
    cases is with
    | nil=>
     have hrn:∀e,a8 cx base ops [] e=M.pure e:=fun _=>rfl;rw[hrn,aG];have ho:da ops [] gs=[]:=rfl;have hd:cL ops []=[]:=rfl;rw[ho,hd]at hr |-;have hpure:∀ {q:AV} {m:M (List AV)},m h= .ok [] h->aA q want ([]:List Nat).length m h≠.fail->aA q want ([]:List Nat).length m h= .ok [] h:=by
      intro q m hm hne;cases q with
      |bool b=>
       simp only[aA];cases b== want with
       |true=>exact hm
       |false=>rfl
      |tup vs=>
       cases vs with
       |nil=>rfl
       |cons v vs=>exact absurd rfl hne
      |_=>exact absurd rfl hne
     simp only[ae]at hr |-;have hp:=hpure (q:=e2.av t) (m:=g9 cx base ops true [] e2 fun e'=>bif ([]:List Nat).all (fun t=>kO (e'.get t))then M.pure (([]:List Nat).map e'.av)else M.fail) rfl (fun hf=>by rw[hf]at hr;exact hr rfl);rw[hp]at hr |-;exact iy hS gs e2 e k h (fun g hgg=>hg g (by simp[hgg])) (H.sub fun i hi=>by simp[hi]) hr
    |cons i0 is0=>
    have hav:e.av t=e2.av t:=by
     have:=H.read (i:=i0) (by simp) (htr i0 (by simp))
     simp only[Env.av,this]
    generalize hiseq:i0:: is0=is at *;have hoff:Off (e2.av t) want->(aA (e2.av t) want (da ops is gs).length (g9 cx base ops true is e2 fun e'=>bif (da ops is gs).all (fun t=>kO (e'.get t))then M.pure ((da ops is gs).map e'.av)else M.fail))=M.pure (List.replicate (da ops is gs).length (.tup [])):=by
     rintro (hq|⟨b,hq,hb⟩)
     ·rw[hq];rfl
     ·rw[hq];simp only[aA,hb,JX]
    have hcase:Off (e2.av t) want\/e2.av t= .bool want:=by
     cases hq:e2.av t with
     |bool b=>
      cases hb:(b== want)with
      |true=>right;simp at hb;rw[hb]
      |false=>exact .inl (.inr ⟨b,rfl,hb⟩)
     |tup vs=>
      cases vs with
      |nil=>exact .inl (.inl rfl)
      |cons v vs=>rw[hq]at hr;exact absurd rfl hr
     |_=>rw[hq]at hr;exact absurd rfl hr
    rcases hcase with ho|hy
    ·rw[hoff ho,aG]at hr |-;obtain⟨e',h1,T,h2⟩:=Cb (base:=base) is e h G (by rw[hav];exact ho);simp only[ae];rw[h1];refine iy hS gs _ e' k h (fun g hgg=>hg g (by simp[hgg])) (H.close hS T (f:=fun _=>.tup []) ?_ fun s hs=>.inl ?_) hr
     ·exact (List.map_const' ..).symm
     ·refine h2 s ?_;unfold da at hs;exact (MI.1 hs).1
    ·rw[hy]at hr |-;simp only[aA,Lr,JM,ae]at hr |-;rw[qY is e2 _ h G hy]at hr |-;simp only[ae]at hr |-;have hr2:a8 cx base ops is e2 h≠.fail:=fun hf=>by rw[hf]at hr;exact hr rfl
     rcases H.run (base:=base) (cx:=cx) is (fun i hi=>by simp[hi]) h hr2 with⟨e2',e',h',h1,h2,H'⟩|⟨v,h',h1,h2⟩
     ·rw[h1]at hr |-;rw[h2];simp only at hr |-;have T2:=md is e2 e2' h h' G hy h1;have T:=md is e e' h h' G (by rw[hav];exact hy) h2;cases hv:(da ops is gs).all (fun t=>kO (e2'.get t))with
      |false=>rw[hv]at hr;exact absurd rfl hr
      |true=>
       rw[hv]at hr;simp only[JM,M.pure]at hr |-;refine iy hS gs _ e' k h' (fun g hgg=>hg g (by simp[hgg])) (H.close hS T (f:=e2'.av) rfl fun s hs=>?_) hr;have hsd:s∈cL ops is:=by unfold da at hs;exact (MI.1 hs).1
       have hval:=Bu (J6.1 hv s hs) (T2.ng s hsd);rcases H'.get s with h3|⟨h3,h4,h5⟩
       ·left;rw[<- h3];exact hval
       ·right;exact⟨by simp only[Env.av,h3];rfl,h4,fun i hi=>h5 i (by simp[hi])⟩
     ·rw[h1,h2];exact .inr ⟨v,h',rfl,rfl⟩
end
end Go.Av
namespace Go.Av
variable [Dr]
omit [Dr]in
theorem i5(acc:List Nat):∀(es:List Edge)(x:Nat),(ig acc es).testBit x=true↔∃e∈es,Region.binds .any e=true/\(e.on=x\/(acc.getD e.on 0).testBit x=true)
 |[],x=>by simp[ig]
 | e :: es,x=>by
  simp only[ig];cases hb:Region.binds .any e with
  | false=>
   simp only[JX,i5 acc es x,Kc];constructor
   ·rintro⟨e',he,h⟩;exact⟨e',.inr he,h⟩
   ·rintro⟨e',rfl|he,h⟩
    ·rw[hb]at h;exact absurd h.1 (by simp)
    ·exact⟨e',he,h⟩
  | true=>
   simp only[JM,Nat.testBit_or,Li,i5 acc es x,Kc,Nat.testBit_two_pow,Kj];constructor
   ·rintro ((⟨e',he,h⟩|h)|h)
    ·exact⟨e',.inr he,h⟩
    ·exact⟨e,.inl rfl,hb,.inl h⟩
    ·exact⟨e,.inl rfl,hb,.inr h⟩
   ·rintro⟨e',rfl|he,h1,h2⟩
    ·rcases h2 with h2|h2
     ·exact .inl (.inr h2)
     ·exact .inr h2
    ·exact .inl (.inl ⟨e',he,h1,h2⟩)
omit [Dr]in
theorem qw:∀(os:List Oper)(acc:List Nat),∃r:List Nat,uE os acc=acc++r/\r.length=os.length/\∀(k:Nat)(o:Oper),os[k]? = some o->r[k]? = some (ig (acc++r.take k) o.after.toList)
 |[],acc=>⟨[],by simp[uE],rfl,by simp⟩
 | o:: os,acc=>by
  obtain⟨r,h1,h2,h3⟩:=qw os (acc++[ig acc o.after.toList]);refine⟨ig acc o.after.toList:: r,by simp[uE,h1],by simp[h2],fun k o' ho=>?_⟩;cases k with
  |zero=>simp at ho;subst ho;simp
  |succ k=>
   simp only[KO,KE]at ho |-;rw[h3 k o' ho];simp
section
variable {ops:Array Oper}
def jH(ops:Array Oper):List Nat:=uE ops.toList []
omit [Dr]in
theorem zi{j:Nat}{o:Oper}(ho:ops[j]? = some o):(jH ops).length=ops.size/\(jH ops).getD j 0=ig ((jH ops).take j) o.after.toList:=by
 obtain⟨r,h1,h2,h3⟩:=qw ops.toList [];have h4:jH ops=r:=by unfold jH;rw[h1];simp
 rw[h4];refine⟨by simp[h2],?_⟩
 have:=h3 j o (by simpa using ho)
 rw[KD,this];simp
omit [Dr]in
theorem xx{listed:Nat->Prop}(hcl:∀(j:Nat)(o:Oper),ops[j]? = some o->listed j->∀e∈o.after.toList,Region.binds .any e=true->listed e.on):
  ∀(j:Nat)(o:Oper),ops[j]? = some o->(∀e∈o.after.toList,Region.binds .any e=true->listed e.on)->∀x,((jH ops).getD j 0).testBit x=true->listed x:=by
 intro j
 induction j using Nat.strongRecOn with
 | _ j ih=>
  intro o ho hl x hx;obtain⟨hlen,hget⟩:=zi ho;rw[hget,i5]at hx;obtain⟨e,he,hb,hx|hx⟩:=hx
  ·rw[<- hx];exact hl e he hb
  ·by_cases hj:e.on<j
   ·have hjs:j<ops.size:=(KA.1 ho).1;have hos:ops[e.on]? = some ops[e.on]:=KV (by omega);have h1:((jH ops).take j).getD e.on 0=(jH ops).getD e.on 0:=by
     rw[KD,KD,Kg,JV hj]
    rw[h1]at hx;exact ih e.on hj _ hos (hcl e.on _ hos (hl e he hb)) x hx
   ·rw[KD,Kg,if_neg hj]at hx;simp at hx
def yH(cx:Cx)(ops:Array Oper)(i j:Nat):Prop:=((jH ops).getD i 0).testBit j=false/\(((jH ops).getD j 0).testBit i=true\/lF cx ops i j=true)
omit [Dr]in
theorem nA{cx:Cx}:∀ {l:List Nat},jg cx ops (jH ops) l=true->l.Pairwise (yH cx ops)/\∀i∈l,((jH ops).getD i 0).testBit i=false
 |[],_=>⟨.nil,by simp⟩
 |i:: l,h=>by
  simp only[jg,JN,KF,J6,Li]at h;obtain⟨⟨h1,h2⟩,h3⟩:=h;obtain⟨h4,h5⟩:=nA h3;refine⟨.cons (fun j hj=>h2 j hj) h4,fun k hk=>?_⟩;simp only[Kc]at hk;rcases hk with rfl|hk
  ·exact h1
  ·exact h5 k hk
omit [Dr]in
theorem jJ:∀ {l:List Nat},distinct l=true->l.Nodup
 |[],_=>.nil
 |i:: l,h=>by
  simp only[distinct,JN,KF]at h;refine K7.2 ⟨fun hi=>?_,jJ h.2⟩;rw[(ge _ _).2 hi]at h;exact Bool.noConfusion h.1
variable {P:Program} {cx:Cx} {c:Entry} {N base:Nat}
theorem s5(hT:TOK P cx.T)(hC:cQ P cx.own cx.call)(hI:IsoPure cx)(hO:OpsOk N cx ops)(hS:Small ops)(hbit:∀i x,((jH ops).getD i 0).testBit x=true->x<ops.size)(hself:∀i,i<ops.size->((jH ops).getD i 0).testBit i=false){Q:Exit->Act->World->Prop}:∀(n:Nat)(rest:List Nat)(listed:Array Bool)(D:List Nat)(e:Env)(h:Hp)(a:Act)(w:World),rest.length=n->listed.size=ops.size->rest.Nodup->
  (∀i,i∈rest↔i<ops.size/\listed.getD i true=false)->(∀i∈rest,i ∉ D)->(∀i∈D,i<ops.size)->
  (∀(j:Nat)(o:Oper),ops[j]? = some o->listed.getD j false=true->∀e∈o.after.toList,Region.binds .any e=true->listed.getD e.on false=true)->rest.Pairwise (yH cx ops)->
  ew c N (UD base D) e h a w->a8 cx base ops rest e h≠.fail->
  (∀e0 e' h' a' w',a8 cx base ops rest e h= .ok e0 h'->EqE e0 e'->ew c N (UR base ops.size) e' h' a' w'->a'.defers=a.defers->Q .normal a' w')->
  (∀pv h' v w' a',a8 cx base ops rest e h= .pan pv h'->kF c pv h' v w'->a'.defers=a.defers->Q (.panic [{ v,recovered:=false }]) a' w')->wpAny P .any ops Q n listed a w
 |0,rest,listed,D,e,h,a,w,hlen,hsz,hnd,hmem,hdis,hD,hcl,hpw,H,hr,hn,hp=>by
  have:rest=[]:=Kz hlen;subst this;refine⟨?_,hn e e h a w rfl (.refl e) (H.wider (Cw hD)) rfl⟩;refine List.eq_nil_iff_forall_not_mem.2 fun i hi=>?_;obtain⟨h0,o,ho,_⟩:=mem_ready.1 hi
  have:=(hmem i).2 ⟨(KA.1 ho).1,h0⟩
  simp at this
 | n + 1,rest,listed,D,e,h,a,w,hlen,hsz,hnd,hmem,hdis,hD,hcl,hpw,H,hr,hn,hp=>by
  have hgd:∀i,i<ops.size->listed.getD i true=listed.getD i false:=fun i hi=>by
   rw[Kp,Kp,KV (by omega)];rfl
  refine⟨fun hemp=>?_,fun i hi=>?_⟩
  ·exfalso;cases rest with
   |nil=>simp at hlen
   | cons r0 tl=>
    have hr0:=(hmem r0).1 (by simp);have hor:ops[r0]? = some ops[r0]:=KV hr0.1;have:r0∈Region.ready .any ops listed:=by
     refine mem_ready.2 ⟨hr0.2,_,hor,fun ed hed hb=>?_⟩;have hbt:((jH ops).getD r0 0).testBit ed.on=true:=by
      rw[(zi hor).2,i5];exact⟨ed,by simpa using hed,hb,.inl rfl⟩
     have hlt:=hbit r0 ed.on hbt;cases hl:listed.getD ed.on false with
     |true=>rfl
     | false=>
      have hin:=(hmem ed.on).2 ⟨hlt,by rw[hgd _ hlt];exact hl⟩;simp only[Kc]at hin;rcases hin with hin|hin
      ·rw[hin]at hbt;rw[hself r0 hr0.1]at hbt;cases hbt
      ·have:=(List.pairwise_cons.1 hpw).1 ed.on hin
       rw[this.1]at hbt;cases hbt
    rw[hemp]at this;simp at this
  ·obtain⟨h0,o,ho,hall⟩:=mem_ready.1 hi;have hlt:i<ops.size:=(KA.1 ho).1;have hin:=(hmem i).2 ⟨hlt,h0⟩;obtain⟨p,q,rfl⟩:=List.append_of_mem hin;have hnd':=hnd;rw[List.nodup_append]at hnd';have hni:i ∉ p++q:=by
    intro hm;rw[J3]at hm;rcases hm with hm|hm
    ·exact hnd'.2.2 i hm i (by simp) rfl
    ·exact (K7.1 hnd'.2.1).1 hm
   have hclo:=xx (ops:=ops) (listed:=fun j=>listed.getD j false=true) (fun j o ho hj ed hed hb=>hcl j o ho hj ed hed hb) i o ho (fun ed hed hb=>hall ed (by simpa using hed) hb);have hfront:∀x∈p,lF cx ops x i=true/\x≠i:=by
    intro x hx;have hpr:=(List.pairwise_append.1 hpw).2.2 x hx i (by simp);refine⟨?_,fun hxi=>hni (by rw[<- hxi];simp[hx])⟩;rcases hpr.2 with h1|h1
    ·have hxl:=hclo x h1;have hxr:=(hmem x).1 (by simp[hx]);rw[hgd x hxr.1]at hxr;rw[hxr.2]at hxl;cases hxl
    ·exact h1
   have hRE:=Ei (base:=base) hI hS q p hfront e h;have hr':a8 cx base ops (i:: (p++q)) e h≠.fail:=by
    intro hf;rw[hf]at hRE;cases hx:a8 cx base ops (p++i:: q) e h with
    |fail=>exact hr hx
    |ok e0 h0=>rw[hx]at hRE;obtain⟨_,h1,_⟩:=hRE;cases h1
    |pan v h0=>rw[hx]at hRE;cases hRE
   simp only[a8,ae]at hr';have hstep:∀ {r:R Env},a8 cx base ops (i:: (p++q)) e h=r->a8 cx base ops (i:: (p++q)) e h=r:=fun h=>h;simp only[a8,ae]at hRE;refine pQ hT hC hO (hdis i hin) H (fun hf=>by rw[hf]at hr';exact hr' rfl) (fun e1 h1 a1 w1 hst hs hdf=>?_) (fun pv h1 v w1 hst hps=>?_)
   ·rw [hst]at hr' hRE;simp only at hr' hRE;refine s5 hT hC hI hO hS hbit hself n (p++q) (listed.setIfInBounds i true) (i:: D) e1 h1 a1 w1 ?_ (by simp[hsz]) ?_ (fun k=>?_) (fun k hk=>?_) (fun k hk=>?_) (fun k o' ho' hk ed hed hb=>?_) ?_ hs hr' (fun e0 e' h' a' w' hok heq hsat hdf'=>?_) (fun pv h' v w' a' hok hps hdf'=>?_)
    ·simp only[JY,Ke]at hlen |-;omega
    ·exact hnd.sublist (List.Sublist.append (List.Sublist.refl p) (List.sublist_cons_self i q))
    ·have hset:k≠i->(listed.setIfInBounds i true).getD k true=listed.getD k true:=fun hk=>by
      rw[Kp,Kp,LC (Ne.symm hk)]
     constructor
     ·intro hk;have hki:k≠i:=fun h=>hni (h▸hk);rw[hset hki];exact (hmem k).1 (by
       simp only[J3,Kc]at hk |-;rcases hk with hk|hk
       ·exact .inl hk
       ·exact .inr (.inr hk))
     ·rintro⟨h1,h2⟩;have hki:k≠i:=by
       rintro rfl;rw[Kp,Array.getElem?_setIfInBounds_self]at h2;rw[JV (by omega)]at h2;simp at h2
      rw[hset hki]at h2
      have:=(hmem k).2 ⟨h1,h2⟩
      simp only[J3,Kc]at this |-;rcases this with h|h|h
      ·exact .inl h
      ·exact absurd h hki
      ·exact .inr h
    ·simp only[Kc,Mx];refine⟨fun hki=>hni (hki▸hk),hdis k ?_⟩;simp only[J3,Kc]at hk |-;rcases hk with hk|hk
     ·exact .inl hk
     ·exact .inr (.inr hk)
    ·simp only[Kc]at hk;rcases hk with rfl|hk
     ·exact hlt
     ·exact hD k hk
    ·have hmono:∀x,listed.getD x false=true->(listed.setIfInBounds i true).getD x false=true:=fun x hx=>getD_set_true hx;by_cases hki:k=i
     ·subst hki;rw[ho]at ho';cases ho';exact hmono _ (hall ed (by simpa using hed) hb)
     ·refine hmono _ (hcl k o' ho' ?_ ed hed hb);rw[Kp,LC (Ne.symm hki),<- Kp]at hk;exact hk
    ·exact hpw.sublist (List.Sublist.append (List.Sublist.refl p) (List.sublist_cons_self i q))
    ·rw[hok]at hRE;cases hx:a8 cx base ops (p++i:: q) e h with
     |fail=>exact absurd hx hr
     |ok ex hx'=>
      rw[hx]at hRE;obtain⟨e0',h2,h3⟩:=hRE;cases h2;exact hn ex e' _ a' w' hx (h3.trans heq) hsat (hdf'.trans hdf)
     |pan v h0=>rw[hx]at hRE;cases hRE
    ·rw[hok]at hRE;cases hx:a8 cx base ops (p++i:: q) e h with
     |fail=>exact absurd hx hr
     |ok ex hx'=>rw[hx]at hRE;obtain⟨_,h1,_⟩:=hRE;cases h1
     |pan v0 h0=>
      rw[hx]at hRE;cases hRE;exact hp _ _ v w' a' hx hps (hdf'.trans hdf)
   ·rw[hst]at hRE;cases hx:a8 cx base ops (p++i:: q) e h with
    |fail=>exact absurd hx hr
    |ok ex hx'=>rw[hx]at hRE;obtain⟨_,h1,_⟩:=hRE;cases h1
    |pan v0 h0=>
     rw[hx]at hRE;cases hRE;exact hp _ _ v w1 a hx hps rfl
end
end Go.Av
namespace Go.Av
variable [Dr]
structure IsoCall (cx:Cx):Prop where
 iso:∀f args,cx.iso f=true->∃x:Option (Bool×AV),∀h,cx.call f args h=(match x with|none=>.fail|some (true,v)=>.ok v h|some (false,v)=>.pan v h)
 nw:∀f args,cx.nw f=true->wq (cx.call f args)
omit [Dr]in
theorem IsoCall.draw{cx:Cx}(h:IsoCall cx):IsoPure (eu cx):=by
 refine⟨?_,fun f args hf=>?_⟩
 case refine_2=>
  have hn:=h.nw f args hf;show wq (bif cx.iso f then bz (cx.call f args)else cx.call f args);cases cx.iso f with
  |false=>exact hn
  |true=>
   intro hp v h' hh;simp only[JM,bz]at hh;cases hq:cx.call f args hp with
   |ok a b=>rw[hq]at hh;cases hh;exact hn _ _ _ hq
   |pan a b=>rw[hq]at hh;cases hh
   |fail=>rw[hq]at hh;cases hh
 intro f args hf;have hf':cx.iso f=true:=hf;obtain⟨x,hx⟩:=h.iso f args hf';refine⟨match x with|some (true,v)=>some v|_=>none,?_⟩;show (bif cx.iso f then bz (cx.call f args)else cx.call f args)=_;rw[hf'];funext hp;simp only[JM,bz,hx];rcases x with _|⟨b,v⟩
 ·rfl
 ·cases b<;>rfl
theorem cQ.draw{P:Program}{cx:Cx}(h:cQ P cx.own cx.call):cQ P (eu cx).own (eu cx).call:=by
 intro f args hp S β w vs hr hg hw hh hv;have hcall:(eu cx).call f args hp=(bif cx.iso f then bz (cx.call f args) hp else cx.call f args hp):=by
  show (bif cx.iso f then bz (cx.call f args)else cx.call f args) hp=_;cases cx.iso f<;>rfl
 rw[hcall]at hr |-
 have key:∀r,r=cx.call f args hp->r≠.fail->Calls P f vs.toArray w (gX ((eu cx).own f) S β hp w r)/\(P.funcs[f]?).any (fun fn=>fn.body.isSome&&!(fn.name== "runtime.NumGoroutine"))=true:=by
  intro r hr1 hr2;subst hr1;exact h f args hp S β w vs hr2 hg hw hh hv
 cases hi:cx.iso f with
 |false=>rw[hi]at hr;exact key _ rfl hr
 |true=>
  rw[hi]at hr;simp only[JM,bz]at hr |-;cases hx:cx.call f args hp with
  |ok v hq=>rw[hx]at hr;exact key _ hx.symm (by simp)
  |pan v hq=>rw[hx]at hr;exact absurd rfl hr
  |fail=>rw[hx]at hr;exact absurd rfl hr
def ju(c:Entry)(N:Nat)(e:Env)(h:Hp)(a:Act)(w:World):Prop:=ew c N (fun g=>g<e.nx*1000) e h a w
theorem ew.rel{c:Entry}{N:Nat}{U:Nat->Prop}{e2 e:Env}{h:Hp}{a:Act}{w:World}{ops:Array Oper}(H:ew c N U e h a w)(R:Rel ops [] e2 e):ew c N U e2 h a w:=by
 obtain⟨S,β,γ,lam,ω,F⟩:=H;refine⟨S,β,γ,lam,ω,F.weak (fun t=>?_) (fun t g hg=>?_) (fun g z hz=>by rw[R.al]at hz;exact hz) (fun B n hB=>by rw[R.lb]at hB;exact hB)⟩
 ·rcases R.get t with h|⟨h1,h2,_⟩
  ·exact .inl (by rw[h])
  ·exact .inr ⟨by rw[h1];rfl,h2⟩
 ·rcases R.get t with h|⟨h1,_⟩
  ·rw[h]at hg;exact hg
  ·rw[h1]at hg;cases hg
theorem ew.eqE{c:Entry}{N:Nat}{U:Nat->Prop}{e2 e:Env}{h:Hp}{a:Act}{w:World}(H:ew c N U e h a w)(R:EqE e e2):ew c N U e2 h a w:=by
 obtain⟨S,β,γ,lam,ω,F⟩:=H;exact⟨S,β,γ,lam,ω,F.weak (fun t=>.inl (by rw[R.get])) (fun t g hg=>by rw[R.get]at hg;exact hg) (fun g z hz=>by rw[R.al]at hz;exact hz) (fun B n hB=>by rw[R.lb]at hB;exact hB)⟩
theorem ew.nx{c:Entry}{N:Nat}{U:Nat->Prop}{e:Env}{h:Hp}{a:Act}{w:World}(n:Nat)(H:ew c N U e h a w):ew c N U { e with nx:=n } h a w:=by
 obtain⟨S,β,γ,lam,ω,F⟩:=H;exact⟨S,β,γ,lam,ω,F.weak (fun t=>.inl rfl) (fun t g hg=>hg) (fun g z hz=>hz) (fun B n hB=>hB)⟩
section
variable {P:Program} {cx:Cx} {c:Entry} {e:Env} {h:Hp} {a:Act} {w:World} {ops:Array Oper} {id:Nat}
omit [Dr]in
theorem qd{n:Nat}(hn:n<=1000)(hd:iw n ops=true)(hk:∀p,xY (cr cx.ann.kinds p .L)=true->p<n):OpsOk n cx ops/\Small ops:=by
 unfold iw at hd;rw[Array.all_eq_true_iff_forall_mem]at hd;have h1:∀(i:Nat)(o:Oper),ops[i]? = some o->(∀t,o.dst=some t->t<n)/\∀t∈io o,t<1000:=by
  intro i o ho
  have:=hd o (Array.mem_of_getElem? ho)
  simp only[JN,J6,Kj]at this;refine⟨fun t ht=>?_,this.2⟩;have h2:=this.1;rw[ht]at h2;simpa using h2
 refine⟨⟨fun i o ho=>(h1 i o ho).1,fun i o ho x hx t hxt=>(h1 i o ho).2 t ?_,hk⟩,⟨fun i o ho t ht=>KB ((h1 i o ho).1 t ht) hn,fun i o ho=>(h1 i o ho).2⟩⟩;subst hxt;exact LS.2 ⟨_,hx,rfl⟩
theorem ym{ρ:Type}(hT:TOK P cx.T)(hC:cQ P cx.own cx.call)(hI:IsoCall cx)(hk:∀p,xY (cr cx.ann.kinds p .L)=true->p<cx.nt){draw:Bool}{k:Env->M ρ}(H:ju c cx.nt e h a w)(hr:na cx id ops draw e k h≠.fail){Q:Exit->Act->World->Prop}(hn:∀e' h' a' w',na cx id ops draw e k h=k e' h'->ju c cx.nt e' h' a' w'->a'.defers=a.defers->Q .normal a' w')(hp:∀pv h' v w' a',na cx id ops draw e k h= .pan pv h'->kF c pv h' v w'->a'.defers=a.defers->Q (.panic [{ v,recovered:=false }]) a' w'):
  (Code.region id ops draw).wp P Q a w:=by
 have hN:cx.nt<=1000:=by obtain⟨S,β,γ,lam,ω,F⟩:=H;exact F.tsz.2
 have H0:ew c cx.nt (UD e.nx []) e h a w:=H.wider fun g hg=>.inl hg;unfold na at hr hn hp;cases hds:iw cx.nt ops with
 |false=>rw[hds]at hr;exact absurd rfl hr
 | true=>
  obtain⟨hO,hS⟩:=qd (cx:=cx) hN hds hk;rw[hds]at hr hn hp;simp only[JM]at hr hn hp;cases draw with
  | false=>
   simp only[JX]at hr hn hp;obtain⟨hfl,hgs⟩:=ie ops (List.range ops.size);refine wp_region (q5 hT hC hO (List.range ops.size) [] e h a w List.nodup_range (by simp) H0 ?_ ?_ ?_)
   all_goals
    have hseq:=iy (cx:=cx) (base:=e.nx) hS (dp ops (List.range ops.size)) e e _ h hgs (.refl ops _ e) hr;rw[hfl]at hseq
   ·rcases hseq with⟨_,_,_,_,h2,_⟩|⟨_,_,_,h2⟩<;>rw[h2]<;>simp
   ·intro e' h' a' w' hok hsat hdf;rcases hseq with⟨e2',e'',h'',h1,h2,hR⟩|⟨_,_,_,h2⟩
    ·rw[h2]at hok;cases hok;refine hn _ _ a' w' h1 (ew.nx _ ((hsat.wider (Cw ?_)).rel hR)) hdf;intro i hi;simpa using hi
    ·rw[h2]at hok;cases hok
   ·intro pv h' v w' a' hok hps hdf;rcases hseq with⟨e2',e'',h'',h1,h2,hR⟩|⟨_,_,h1,h2⟩
    ·rw[h2]at hok;cases hok
    ·rw[h2]at hok;cases hok;exact hp _ _ v w' a' h1 hps hdf
  | true=>
   simp only[JM]at hr hn hp;generalize qU cx id ops.size=ord at hr hn hp;cases hdo:kL cx ops ord with
   |false=>rw[hdo]at hr;exact absurd rfl hr
   | true=>
    rw[hdo]at hr hn hp;simp only[JM]at hr hn hp;simp only[kL,Ag,JN,J6,Kj]at hdo;obtain⟨⟨⟨⟨⟨hlen,hmem⟩,hdist⟩,hlt⟩,hbits⟩,hpairs⟩:=hdo;have hlen':ord.length=ops.size:=J2 hlen;obtain⟨hpw,hself⟩:=nA (cx:=cx) (ops:=ops) hpairs;have hpw':ord.Pairwise (yH (eu cx) ops):=hpw;have hO':OpsOk cx.nt (eu cx) ops:=⟨hO.dst,hO.src,hO.kin⟩;obtain⟨hfl,hgs⟩:=ie ops ord;have hseq:=iy (cx:=eu cx) (base:=e.nx) hS (dp ops ord) e e _ h hgs (.refl ops _ e) hr;rw[hfl]at hseq;refine wp_region_draw fun t=>?_;have hsch:Region.schedule (P.follows .mixedOrders) ops t=Region.linearise .any ops t:=by
     simp only[Region.schedule,hT.mix,Bool.true_or,J0]
    rw[hsch];have hmem':∀i,i∈ord↔i<ops.size:=fun i=>⟨fun hi=>hlt i hi,fun hi=>(ge _ _).1 (hmem i (by simpa using hi))⟩;refine wpAny_sound ops.size t _ a _ (s5 (cx:=eu cx) (c:=c) (N:=cx.nt) (base:=e.nx) hT hC.draw hI.draw hO' hS ?_ ?_ ops.size ord (Array.replicate ops.size false) [] e h a w.drew hlen' (by simp) (jJ hdist) ?_ (by simp) (by simp) ?_ hpw' ?_ ?_ ?_ ?_)
    ·intro i x hx;rcases Kh x ops.size with h'|h'
     ·exact h'
     ·have hm:(jH ops).getD i 0<2 ^ ops.size:=by
       rw[KD];cases hi:(jH ops)[i]? with
       |none=>simp;exact Nat.pow_pos (by omega)
       |some m=>exact hbits m (Lh hi)
      rw[Nat.testBit_lt_two_pow (KB hm (Nat.pow_le_pow_right (by omega) h'))]at hx;cases hx
    ·exact fun i hi=>hself i ((hmem' i).2 hi)
    ·intro i;rw[hmem'];constructor
     ·intro hi;refine⟨hi,?_⟩;rw[Kp,My,JV hi];rfl
     ·exact fun hi=>hi.1
    ·intro j o ho hj;exfalso;rw[Kp,My]at hj;split at hj<;>simp at hj
    ·obtain⟨S,β,γ,lam,ω,F⟩:=H0;exact⟨S,β,γ,lam,ω,F.drew⟩
    ·rcases hseq with⟨_,_,_,_,h2,_⟩|⟨_,_,_,h2⟩<;>rw[h2]<;>simp
    ·intro e0 e' h' a' w' hok heq hsat hdf;rcases hseq with⟨e2',e'',h'',h1,h2,hR⟩|⟨_,_,_,h2⟩
     ·rw[h2]at hok;cases hok;exact hn _ _ a' w' h1 (ew.nx _ ((hsat.eqE heq.symm).rel hR)) hdf
     ·rw[h2]at hok;cases hok
    ·intro pv h' v w' a' hok hps hdf;rcases hseq with⟨e2',e'',h'',h1,h2,hR⟩|⟨_,_,h1,h2⟩
     ·rw[h2]at hok;cases hok
     ·rw[h2]at hok;cases hok;exact hp _ _ v w' a' h1 hps hdf
end
end Go.Av
namespace Go.Av
variable [Dr]
omit [Dr]in
theorem jf{e:Env}:∀(l:List (Nat×Option Nat))(used:List Nat)(vs:List AV),gg e l used=some vs->vs.length=l.length/\
  (∀(i:Nat)(t:Nat)(z:Option Nat),l[i]? = some (t,z)->∃a,vs[i]? = some a/\(e.get t).v= .val a/\∀sz,z=some sz->∃g z0,(e.get t).g=some g/\aV e.al g=some z0/\(z0=none\/z0=some sz)/\g ∉ used)/\
  ∀(i j:Nat)(t t' sz sz':Nat),i<j->l[i]? = some (t,some sz)->l[j]? = some (t',some sz')->(e.get t).g≠(e.get t').g
 |[],used,vs,h=>by
  simp only[gg,JK]at h;subst h;exact⟨rfl,by simp,by simp⟩
 | (t,none):: r,used,vs,h=>by
  simp only[gg]at h;split at h
  ·rename_i a ha;split at h
   ·rename_i vs' hvs;simp only[JK]at h;subst h;obtain⟨h1,h2,h3⟩:=jf r used vs' hvs;refine⟨by simp[h1],fun i t' z hi=>?_,fun i j t1 t2 sz1 sz2 hij hi hj=>?_⟩
    ·cases i with
     |zero=>
      simp only[Kd,JK,Ku]at hi;obtain⟨rfl,rfl⟩:=hi;exact⟨a,rfl,ha,fun sz hsz=>by cases hsz⟩
     |succ i=>simpa using h2 i t' z (by simpa using hi)
    ·cases i with
     |zero=>simp at hi
     |succ i=>
      cases j with
      |zero=>omega
      |succ j=>exact h3 i j t1 t2 sz1 sz2 (by omega) (by simpa using hi) (by simpa using hj)
   ·cases h
  ·cases h
 | (t, some sz):: r,used,vs,h=>by
  simp only[gg]at h;split at h
  ·rename_i a g ha hg;split at h
   ·cases h
   ·rename_i z0 hz0;have hcond:sB z0 (some sz)=true/\eL used g=false/\(match gg e r (g:: used)with|some vs=>some (a:: vs)|none=>none)=some vs:=by
     cases hm:eL used g with
     | true=>
      rw[hm]at h;cases z0 with
      |none=>cases h
      |some n=>
       simp only at h;cases hb:Nat.beq n sz<;>rw[hb]at h<;>cases h
     | false=>
      rw[hm]at h;cases z0 with
      |none=>exact⟨rfl,rfl,h⟩
      |some n=>
       simp only at h;cases hb:Nat.beq n sz with
       |true=>rw[hb]at h;exact⟨hb,rfl,h⟩
       |false=>rw[hb]at h;cases h
    obtain⟨hc1,hc2,h⟩:=hcond;have hc:=And.intro hc1 hc2
    ·split at h
     ·rename_i vs' hvs;simp only[JK]at h;subst h;have hgu:g ∉ used:=fun hm=>by
       rw[(ge _ _).2 hm]at hc;exact Bool.noConfusion hc.2
      have hz:z0=none\/z0=some sz:=by
       cases z0 with
       |none=>exact .inl rfl
       |some n=>exact .inr (by rw[J2 hc.1])
      obtain⟨h1,h2,h3⟩:=jf r (g:: used) vs' hvs;refine⟨by simp[h1],fun i t' z hi=>?_,fun i j t1 t2 sz1 sz2 hij hi hj=>?_⟩
      ·cases i with
       |zero=>
        simp only[Kd,JK,Ku]at hi;obtain⟨rfl,rfl⟩:=hi;exact⟨a,rfl,ha,fun sz' hsz=>by cases hsz;exact⟨g,z0,hg,hz0,hz,hgu⟩⟩
       |succ i=>
        obtain⟨a',k1,k2,k3⟩:=h2 i t' z (by simpa using hi);refine⟨a',by simpa using k1,k2,fun sz' hsz=>?_⟩;obtain⟨g',z',m1,m2,m3,m4⟩:=k3 sz' hsz;exact⟨g',z',m1,m2,m3,fun hm=>m4 (by simp[hm])⟩
      ·cases i with
       | zero=>
        cases j with
        |zero=>omega
        |succ j=>
         simp only[Kd,JK,Ku]at hi;obtain⟨rfl,_⟩:=hi;obtain⟨a',k1,k2,k3⟩:=h2 j t2 (some sz2) (by simpa using hj);obtain⟨g',z',m1,m2,m3,m4⟩:=k3 sz2 rfl;rw[hg,m1];intro hh;simp only[JK]at hh;exact m4 (by simp[hh])
       |succ i=>
        cases j with
        |zero=>omega
        |succ j=>exact h3 i j t1 t2 sz1 sz2 (by omega) (by simpa using hi) (by simpa using hj)
     ·cases h
  ·cases h
omit [Dr]in
theorem jt(vs:List AV)(r:List (Nat×Ent))(t:Nat):∀(l:List (Nat×Option Nat))(k:Nat),
  (∃(i:Nat)(z:Option Nat),l[i]? = some (t,z)/\bQ (cH vs k l++r) t=⟨.val (nth vs (k+i)),z.map fun _=>k+i⟩)\/
  ((∀(i:Nat)(z:Option Nat),l[i]? ≠some (t,z))/\bQ (cH vs k l++r) t=bQ r t)
 |[],k=>.inr ⟨by simp,rfl⟩
 | (s,z):: l,k=>by
  have hh:cH vs k ((s,z):: l)=(s,⟨.val (nth vs k),z.map fun _=>k⟩):: cH vs (k+1) l:=by cases z<;>rfl
  rw[hh,Kr,cp];by_cases hs:s=t
  ·subst hs;rw[JV rfl];exact .inl ⟨0,z,rfl,rfl⟩
  ·rw[if_neg hs];rcases jt vs r t l (k+1)with⟨i,z',h1,h2⟩|⟨h1,h2⟩
   ·refine .inl ⟨i+1,z',by simpa using h1,?_⟩;rw[h2,show k+1+i=k+(i+1) by omega]
   ·refine .inr ⟨fun i z' hi=>?_,h2⟩;cases i with
    |zero=>simp at hi;exact hs hi.1
    |succ i=>exact h1 i z' (by simpa using hi)
omit [Dr]in
theorem fX:∀(l:List (Nat×Option Nat))(k g:Nat)(y:Option Nat),aV (iJ k l) g=some y->∃(i t sz:Nat),l[i]? = some (t,some sz)/\g=k+i/\y=some sz
 |[],k,g,y,h=>by simp[iJ,aV]at h
 |(s,none):: l,k,g,y,h=>by
  obtain⟨i,t,sz,h1,h2,h3⟩:=fX l (k+1) g y h;exact⟨i+1,t,sz,by simpa using h1,by omega,h3⟩
 | (s,some n):: l,k,g,y,h=>by
  simp only[iJ,bT]at h;split at h
  ·rename_i hk;simp only[JK]at h;exact⟨0,s,n,rfl,by omega,h.symm⟩
  ·obtain⟨i,t,sz,h1,h2,h3⟩:=fX l (k+1) g y h;exact⟨i+1,t,sz,by simpa using h1,by omega,h3⟩
omit [Dr]in
theorem mE(t:Nat):∀(l:List (Nat×Nat×Nat)),(∃B off,(t,B,off)∈l/\bQ (l.map fun x=>(x.1,(⟨.loc x.2.1 x.2.2,none⟩:Ent))) t=⟨.loc B off,none⟩)\/bQ (l.map fun x=>(x.1,(⟨.loc x.2.1 x.2.2,none⟩:Ent))) t=Ent.none
 |[]=>.inr rfl
 | (s,B,off):: l=>by
  rw[Ks,cp];by_cases hs:s=t
  ·subst hs;rw[JV rfl];exact .inl ⟨B,off,by simp,rfl⟩
  ·rw[if_neg hs];rcases mE t l with⟨B',off',h1,h2⟩|h
   ·exact .inl ⟨B',off',by simp[h1],h2⟩
   ·exact .inr h
omit [Dr]in
theorem o9{e:Env}:∀ {l:List (Nat×Nat×Nat)},o7 e l=true->∀t B off,(t,B,off)∈l->(e.get t).v= .loc B off
 |[],_,t,B,off,h=>by simp at h
 | (s,B0,off0):: l,h,t,B,off,hm=>by
  simp only[o7,JN]at h;simp only[Kc,Ku]at hm;rcases hm with⟨rfl,rfl,rfl⟩|hm
  ·have h1:=h.1;split at h1
   ·rename_i B' off' hv;simp only[JN]at h1;rw[hv,J2 h1.1,J2 h1.2]
   ·cases h1
  ·exact o9 h.2 t B off hm
omit [Dr]in
theorem qN{e:Env}:∀ {l:List (Nat×Nat)},tG e l=true->∀B n,bv l B=some n->bv e.lb B=some n
 |[],_,B,n,h=>by simp[bv]at h
 | (B0,n0):: l,h,B,n,hm=>by
  simp only[tG,JN]at h;rw[dC]at hm;split at hm
  ·rename_i hB;subst hB;simp only[JK]at hm;subst hm;have h1:=h.1;split at h1
   ·rename_i m hv;rw[hv,J2 h1]
   ·cases h1
  ·exact qN h.2 B n hm
section
variable {c:Entry} {N:Nat} {e:Env} {h:Hp} {a:Act} {w:World}
open Classical in
theorem sE{ja:JA}{vs:List AV}(H:ju c N e h a w)(hp:pack ja e=some vs):ju c N (unpack ja vs) h a w:=by
 obtain⟨S,β,γ,lam,ω,F⟩:=H;unfold pack at hp;cases hlo:(o7 e ja.locs&&tG e ja.lbs)with
 |false=>rw[hlo]at hp;cases hp
 | true=>
  rw[hlo]at hp;simp only[JM]at hp;simp only[JN]at hlo;obtain⟨hlen,hval,hdis⟩:=jf ja.vals [] vs hp
  -- the groups carried
  let gOf:Nat->Option Nat:=fun i=>match ja.vals[i]? with|some (t,some _)=>(e.get t).g|_=>none
  have hg1:∀i t sz,ja.vals[i]? = some (t,some sz)->∃g z0,gOf i=some g/\(e.get t).g=some g/\aV e.al g=some z0/\(z0=none\/z0=some sz):=by
   intro i t sz hi;obtain⟨a',_,_,h3⟩:=hval i t (some sz) hi;obtain⟨g,z0,k1,k2,k3,_⟩:=h3 sz rfl;refine⟨g,z0,?_,k1,k2,k3⟩;show (match ja.vals[i]? with|some (t,some _)=>(e.get t).g|_=>none)=some g;rw[hi];exact k1
  have hg2:∀i j g,gOf i=some g->gOf j=some g->i=j:=by
   have hex:∀i g,gOf i=some g->∃t sz,ja.vals[i]? = some (t,some sz)/\(e.get t).g=some g:=by
    intro i g hi;have hi':(match ja.vals[i]? with|some (t,some _)=>(e.get t).g|_=>none)=some g:=hi;split at hi'
    ·rename_i t sz ht;exact⟨t,sz,ht,hi'⟩
    ·cases hi'
   intro i j g hi hj;obtain⟨t,sz,k1,k2⟩:=hex i g hi;obtain⟨t',sz',m1,m2⟩:=hex j g hj;rcases Nat.lt_trichotomy i j with hlt|heq|hlt
   ·exact absurd (k2.trans m2.symm) (hdis i j t t' sz sz' hlt k1 m1)
   ·exact heq
   ·exact absurd (m2.trans k2.symm) (hdis j i t' t sz' sz hlt m1 k1)
  let γ':Nat->Value:=fun i=>match gOf i with|some g=>γ g|none=>undef
  let ω':Nat->Owner:=fun b=>match ω b with
   |.grp g=>if hx:∃i,gOf i=some g then .grp (Classical.choose hx)else .no
   |o=>o
  have hωg:∀b g i,ω b= .grp g->gOf i=some g->ω' b= .grp i:=by
   intro b g i hb hi;show (match ω b with|.grp g=>if hx:∃i,gOf i=some g then Owner.grp (Classical.choose hx)else .no|o=>o)= .grp i;rw[hb];simp only;have hx:∃i,gOf i=some g:=⟨i,hi⟩;rw[dif_pos hx,hg2 _ _ g (L2 hx) hi]
  have hωo:∀b,(∀g,ω b≠.grp g)->ω' b=ω b:=by
   intro b hb;show (match ω b with|.grp g=>if hx:∃i,gOf i=some g then Owner.grp (Classical.choose hx)else .no|o=>o)=ω b;cases ho:ω b with
   |grp g=>exact absurd ho (hb g)
   |_=>rfl
  have hωn:∀b,ω' b≠.no->ω b≠.no:=by
   intro b hb ho;refine hb ?_;rw[hωo b (fun g hg=>by rw[ho]at hg;cases hg),ho]
  have hωx:∀b g,ω' b= .grp g->∃g',ω b= .grp g':=by
   intro b g hg;cases ho:ω b with
   |grp g'=>exact⟨g',rfl⟩
   |_=>rw[hωo b (fun g' h'=>by rw[ho]at h';cases h'),ho]at hg;cases hg
  -- the slots
  have hget:∀t,(∃(i:Nat)(z:Option Nat)(a':AV),ja.vals[i]? = some (t,z)/\(e.get t).v= .val a'/\(unpack ja vs).get t=⟨.val a',z.map fun _=>i⟩)\/(∃B off,(e.get t).v= .loc B off/\(unpack ja vs).get t=⟨.loc B off,none⟩)\/(unpack ja vs).get t=Ent.none:=by
   intro t;have hu:(unpack ja vs).get t=bQ (cH vs 0 ja.vals++ja.locs.map fun x=>(x.1,(⟨.loc x.2.1 x.2.2,none⟩:Ent))) t:=rfl;rcases jt vs (ja.locs.map fun x=>(x.1,(⟨.loc x.2.1 x.2.2,none⟩:Ent))) t ja.vals 0 with⟨i,z,h1,h2⟩|⟨h1,h2⟩
   ·obtain⟨a',k1,k2,_⟩:=hval i t z h1;refine .inl ⟨i,z,a',h1,k2,?_⟩;rw[hu,h2,Ko];have:nth vs i=a':=by simp[nth,k1]
    rw[this]
   ·rcases mE t ja.locs with⟨B,off,k1,k2⟩|k
    ·exact .inr (.inl ⟨B,off,o9 hlo.1 t B off k1,by rw[hu,h2,k2]⟩)
    ·exact .inr (.inr (by rw[hu,h2,k]))
  have hgg:∀t g,((unpack ja vs).get t).g=some g->∃sz,ja.vals[g]? = some (t,some sz):=by
   intro t g hg;rcases hget t with⟨i,z,a',h1,_,h3⟩|⟨_,_,_,h3⟩|h3
   ·rw[h3]at hg;cases z with
    |none=>simp at hg
    |some sz=>simp at hg;subst hg;exact⟨sz,h1⟩
   ·rw[h3]at hg;cases hg
   ·rw[h3]at hg;cases hg
  have hγ:∀t g,((unpack ja vs).get t).g=some g->∃g0 z0,(e.get t).g=some g0/\aV e.al g0=some z0/\γ' g=γ g0:=by
   intro t g hg;obtain⟨sz,h1⟩:=hgg t g hg;obtain⟨g0,z0,k1,k2,k3,_⟩:=hg1 g t sz h1;refine⟨g0,z0,k2,k3,?_⟩;show (match gOf g with|some g=>γ g|none=>undef)=γ g0;rw[k1]
  refine⟨S,β,γ',lam,ω',⟨F.wf,F.gro,F.keep,F.le,F.ext,F.hlen,fun l cs hl hcs=>?_,F.tsz,fun t ht=>?_,fun t g z ht hg hz=>?_,fun B n hB=>?_,fun g z hz=>?_,fun b hb=>⟨(F.mine b (hωn b hb)).1.imp (fun hE=>⟨hE.1,fun g hg=>by obtain⟨g',h'⟩:=hωx b g hg;exact hE.2 g' h'⟩) id,(F.mine b (hωn b hb)).2⟩,fun t g hg=>?_,fun g z hz=>?_⟩⟩
  ·rcases F.heap l cs hl hcs with⟨b,x,h1,h2,h3,h4⟩|⟨b,h1,h3,h4⟩
   ·exact .inl ⟨b,x,h1,h2,by rw[hωo b (fun g hg=>by rw[h3]at hg;cases hg)];exact h3,h4⟩
   ·exact .inr ⟨b,h1,by rw[hωo b (fun g hg=>by rw[h3]at hg;cases hg)];exact h3,h4⟩
  ·have hs:=F.slots t ht;rcases hget t with⟨i,z,a',_,h2,h3⟩|⟨B,off,h2,h3⟩|h3
   ·rw[h3];rw[h2]at hs;exact hs
   ·rw[h3];rw[h2]at hs;exact hs
   ·rw[h3];simp[Ent.none,eP,VR]
  ·obtain⟨g0,z0,k1,k2,k3⟩:=hγ t g hg;rw[k3];exact F.grps t g0 z0 ht k1 k2
  ·obtain⟨k1,k2,k3,b,x,k4,k5,k6,k7,k8⟩:=F.lblk B n (qN hlo.2 B n hB);refine⟨k1,k2,k3,b,x,k4,k5,by rw[hωo b (fun g hg=>by rw[k6]at hg;cases hg)];exact k6,k7,fun i hi=>?_⟩;obtain⟨v,a',m1,m2,m3,m4⟩:=k8 i hi;have hgr:∀g z,((unpack ja vs).get (B+i)).g=some g->aV (unpack ja vs).al g=some z->v=γ' g:=by
    intro g z hg _;obtain⟨g0,z0,p1,p2,p3⟩:=hγ _ g hg;rw[p3];exact m4 g0 z0 p1 p2
   rcases hget (B+i)with⟨j,z,a2,_,h2,h3⟩|⟨B',off,h2,h3⟩|h3
   ·refine⟨v,a2,m1,by rw[h3],?_,hgr⟩;rw[m2]at h2;cases h2;exact m3
   ·rw[m2]at h2;cases h2
   ·exact⟨v,.any,m1,by rw[h3];rfl,by simp[VR],hgr⟩
  ·obtain⟨i,t,sz,h1,h2,h3⟩:=fX ja.vals 0 g z hz;rw[Ko]at h2;subst h2;obtain⟨g0,z0,k1,k2,k3,k4⟩:=hg1 g t sz h1;have hγ':γ' g=γ g0:=by
    show (match gOf g with|some g=>γ g|none=>undef)=γ g0;rw[k1]
   rw[hγ'];obtain⟨ad,len,cap,m1,m2,m3,m4⟩:=F.free g0 z0 k3;refine⟨ad,len,cap,m1,m2,m3,m4.imp id ?_⟩;rintro⟨sz',b,off,x,p1,p2,p3,p4,p5,p6⟩;have:sz'=sz:=by
    rcases k4 with k4|k4<;>rw[k4]at p1<;>cases p1;rfl
   subst this;exact⟨sz',b,off,x,h3,p2,p3,p4,hωg b g0 g p5 k1,p6⟩
  ·obtain⟨sz,h1⟩:=hgg t g hg;have:g<ja.vals.length:=by
    rcases Kh g ja.vals.length with h|h
    ·exact h
    ·rw[J5 h]at h1;cases h1
   show g<ja.vals.length*1000;omega
  ·obtain⟨i,t,sz,h1,h2,h3⟩:=fX ja.vals 0 g z hz;have:i<ja.vals.length:=by
    rcases Kh i ja.vals.length with h|h
    ·exact h
    ·rw[J5 h]at h1;cases h1
   show g<ja.vals.length*1000;omega
omit [Dr]in
theorem Bv(d:Nat)(h:Hp):i4 d h .any= .any:=by cases d<;>rfl
omit [Dr]in
theorem wV(g:AV->AV)(hg:g .any= .any)(vs:List AV)(i:Nat):nth (vs.map g) i=g (nth vs i):=by
 unfold nth;rw[KD,KD,KZ];cases vs[i]? with
 |none=>simp[hg]
 |some v=>rfl
structure Reval (g:AV->AV) (x y:Ent):Prop where
 gr:y.g=x.g
 v:(∃a,x.v= .val a/\y.v= .val (g a))\/(∃B off,x.v= .loc B off/\y.v= .loc B off)
omit [Dr]in
theorem fR(g:AV->AV)(hg:g .any= .any)(vs:List AV)(r:List (Nat×Ent))(hr:∀t,Reval g (bQ r t) (bQ r t))(t:Nat):∀(l:List (Nat×Option Nat))(k:Nat),
  Reval g (bQ (cH vs k l++r) t) (bQ (cH (vs.map g) k l++r) t)
 |[],k=>by simpa [cH]using hr t
 |(s,none):: l,k=>by
  simp only[cH,Kr,bQ];cases Nat.beq s t with
  |true=>exact⟨rfl,.inl ⟨_,rfl,by simp only[JM];rw[wV g hg]⟩⟩
  |false=>exact fR g hg vs r hr t l (k+1)
 |(s,some z):: l,k=>by
  simp only[cH,Kr,bQ];cases Nat.beq s t with
  |true=>exact⟨rfl,.inl ⟨_,rfl,by simp only[JM];rw[wV g hg]⟩⟩
  |false=>exact fR g hg vs r hr t l (k+1)
omit [Dr]in
theorem sD(g:AV->AV)(hg:g .any= .any)(ja:JA)(vs:List AV)(t:Nat):Reval g ((unpack ja vs).get t) ((unpack ja (vs.map g)).get t):=by
 refine fR g hg vs _ (fun t=>?_) t ja.vals 0;rcases mE t ja.locs with⟨B,off,_,k2⟩|k
 ·rw[k2];exact⟨rfl,.inr ⟨B,off,rfl,rfl⟩⟩
 ·rw[k];exact⟨rfl,.inl ⟨.any,rfl,by simp[Ent.none,hg]⟩⟩
theorem FR.reval{U:Nat->Prop}{S:aL}{β:List bS}{γ:Nat->Value}{lam:Nat->Option Nat}{ω:Nat->Owner}{e2:Env}{h2:Hp}{S2:aL}{ω2:Nat->Owner}{g:AV->AV}(F:FR c N U e h a w S β γ lam ω)(F2:FR c N U e h2 a w S2 β γ lam ω2)(hg:∀x v,VR S β x v->VR S2 β (g x) v)(hr:∀t,Reval g (e.get t) (e2.get t))(hal:e2.al=e.al)(hlb:e2.lb=e.lb):FR c N U e2 h2 a w S2 β γ lam ω2:=by
 refine⟨F2.wf,F2.gro,F2.keep,F2.le,F2.ext,F2.hlen,F2.heap,F2.tsz,fun t ht=>?_,fun t k z ht hk hz=>?_,fun B n hB=>?_,fun k z hz=>F2.free k z (by rw[<- hal];exact hz),F2.mine,fun t k hk=>?_,fun k z hz=>F2.used.2 k z (by rw[<- hal];exact hz)⟩
 ·have h1:=F.slots t ht;rcases (hr t).v with⟨x,q1,q2⟩|⟨B,off,q1,q2⟩
  ·rw[q1]at h1;rw[q2];exact hg _ _ h1
  ·rw[q1]at h1;rw[q2];exact h1
 ·rw[(hr t).gr]at hk;rw[hal]at hz;exact F2.grps t k z ht hk hz
 ·rw[hlb]at hB;obtain⟨k1,k2,k3,b,x,k4,k5,k6,k7,k8⟩:=F2.lblk B n hB;obtain⟨_,_,_,b',x',j4,j5,j6,j7,j8⟩:=F.lblk B n hB;rw[k4]at j4;cases j4;cases k5.inj j5;refine⟨k1,k2,k3,b,x,k4,k5,k6,k7,fun i hi=>?_⟩;obtain⟨v,a',m1,m2,m3,m4⟩:=k8 i hi;obtain⟨v',a'',n1,n2,n3,_⟩:=j8 i hi;rw[m1]at n1;cases n1;rcases (hr (B+i)).v with⟨y,q1,q2⟩|⟨B',off,q1,q2⟩
  ·rw[n2]at q1;cases q1;refine⟨v,g a'',m1,q2,hg _ _ n3,fun k z hk hz=>?_⟩;rw[(hr (B+i)).gr]at hk;rw[hal]at hz;exact m4 k z hk hz
  ·rw[n2]at q1;cases q1
 ·rw[(hr t).gr]at hk;exact F2.used.1 t k hk
theorem qf{ja:JA}{vs:List AV}(H:ju c N (unpack ja vs) h a w):ju c N (unpack ja (vs.map (i4 6 h))) (h.map fun _=>[]) a w:=by
 obtain⟨S,β,γ,lam,ω,F⟩:=H;obtain⟨S2,ω2,F2,hf⟩:=F.freeze;have F3:=F.reval F2 (g:=i4 6 h) (fun x v hx=>hf _ _ hx) (sD _ (Bv 6 h) ja vs) (e2:=unpack ja (vs.map (i4 6 h))) rfl rfl;exact⟨S2,β,γ,lam,ω2,F3⟩
end
end Go.Av
namespace Go.Av
variable [Dr]
section
variable {P:Program} {cx:Cx} {c:Entry} {e:Env} {h:Hp} {a:Act} {w:World} {ops:Array Oper} {id:Nat}
theorem vO{ρ:Type}(hT:TOK P cx.T)(hC:cQ P cx.own cx.call)(hI:IsoCall cx)(hk:∀p,xY (cr cx.ann.kinds p .L)=true->p<cx.nt){draw:Bool}{k:Env->M ρ}(H:ju c cx.nt e h a w)(hr:mq cx id ops draw e k h≠.fail){Q:Exit->Act->World->Prop}(hn:∀e' h' a' w',mq cx id ops draw e k h=k e' h'->ju c cx.nt e' h' a' w'->a'.defers=a.defers->Q .normal a' w')(hp:∀pv h' v w' a',mq cx id ops draw e k h= .pan pv h'->kF c pv h' v w'->a'.defers=a.defers->Q (.panic [{ v,recovered:=false }]) a' w'):
  (Code.region id ops draw).wp P Q a w:=ym hT hC hI hk H hr hn hp
end
end Go.Av
namespace Go.Av
variable [Dr]
section
variable {P:Program} {Q:Exit->Act->World->Prop} {b:Code}
def jz(P:Program)(c:Code)(Q:Exit->Act->World->Prop)(a:Act)(w:World):Prop:=
 ∀(b:Frame)(k:List Item)(cs:List Frame),∃e a' w',Q e a' w'/\Arrives P (lone (b.at a (.code c:: .inLoop c:: k)) cs w) b k cs e a' w'
omit [Dr]in
theorem jz.loop{a:Act}{w:World}(h:jz P b Q a w):(Code.loop b).wp P Q a w:=
 fun f k cs=>let ⟨e,a',w',q,r⟩:=h f k cs;⟨e,a',w',q,.of_steps (.one step_loop) r⟩
omit [Dr]in
theorem jz.round{a:Act}{w:World}(h:b.wp P (Exit.then (jz P b Q) Q) a w):jz P b Q a w:=by
 intro f k cs;obtain⟨e,a₁,w₁,hq,harr⟩:=h f (.inLoop b:: k) cs;cases e with
 |normal=>
  obtain⟨e₂,a₂,w₂,hq₂,harr₂⟩:=hq f k cs;exact⟨e₂,a₂,w₂,hq₂,.of_steps (Steps.trans harr (.one step_inLoop)) harr₂⟩
 |exit id=>exact⟨_,a₁,w₁,hq,.pass (x:=.inLoop b) rfl (fun _ _=>.inl (by simp)) harr⟩
 |goto l=>exact⟨_,a₁,w₁,hq,.pass (x:=.inLoop b) rfl (fun _ _=>.inl (by simp)) harr⟩
 |ret=>exact⟨_,a₁,w₁,hq,.pass (x:=.inLoop b) rfl (fun _ _=>.inl (by simp)) harr⟩
 |panic ch=>exact⟨_,a₁,w₁,hq,.pass (x:=.inLoop b) rfl (fun _ _=>.inl (by simp)) harr⟩
 |outgrown=>exact⟨_,a₁,w₁,hq,.pass (x:=.inLoop b) rfl (fun _ _=>.inl (by simp)) harr⟩
end
section
variable {P:Program} {cx:Cx} {c:Entry} {ρ:Type}
omit [Dr]in
theorem zF{fx:bm ρ}{id:Nat}{code:Code}{e:Env}{kn kr:Env->M ρ}{kx:Nat->Env->M ρ}(hc:∀b,code≠.loop b):
  ev cx fx (.block id code) e kn kx kr=ev cx fx code e kn (fun i e'=>bif Nat.beq i id then kn e' else kx i e') kr:=by
 cases code<;>first|rfl|exact absurd rfl (hc _)
def vq(cx:Cx)(x:Code):Option JA:=match lp x with
 |some t=>nd cx.ann.joins t
 |none=>none
omit [Dr]in
theorem EN{fx:bm ρ}{x y:Code}{e:Env}{kn kr:Env->M ρ}{kx:Nat->Env->M ρ}:ev cx fx (.seq x y) e kn kx kr=(match vq cx x with
  |some ja=>jn (fun vs=>ev cx fx y (unpack ja vs) kn kx kr) fun j=>ev cx fx x e (pS ja j) kx kr
  |none=>ev cx fx x e (fun e'=>ev cx fx y e' kn kx kr) kx kr):=by
 unfold vq;simp only[ev];cases lp x with
 |none=>rfl
 |some t=>
  simp only;cases nd cx.ann.joins t<;>rfl
structure Posts (c:Entry) (N:Nat) (r:R ρ) (a:Act) (kn:Env->M ρ) (kx:Nat->Env->M ρ) (kr:Env->M ρ) (Q:Exit->Act->World->Prop):Prop where
 nrm:∀e' h' a' w',r=kn e' h'->ju c N e' h' a' w'->a'.defers=a.defers->Q .normal a' w'
 ext:∀i e' h' a' w',r=kx i e' h'->ju c N e' h' a' w'->a'.defers=a.defers->Q (.exit i) a' w'
 ret:∀e' h' a' w',r=kr e' h'->ju c N e' h' a' w'->a'.defers=a.defers->Q .ret a' w'
 pan:∀pv h' v w' a',r= .pan pv h'->kF c pv h' v w'->a'.defers=a.defers->Q (.panic [{ v,recovered:=false }]) a' w'
theorem sC{ja:JA}{j:List AV->M ρ}{e:Env}{h:Hp}{N:Nat}{a:Act}{w:World}(H:ju c N e h a w)(hr:pS ja j e h≠.fail):∃vs h',pS ja j e h=j vs h'/\ju c N (unpack ja vs) h' a w:=by
 unfold pS at hr |-;cases hp:pack ja e with
 |none=>rw[hp]at hr;exact absurd rfl hr
 |some vs=>
  have hs:=sE H hp;simp only;cases ja.fz with
  |false=>exact⟨vs,h,rfl,hs⟩
  |true=>exact⟨_,_,rfl,qf hs⟩
theorem zG(hT:TOK P cx.T)(hC:cQ P cx.own cx.call)(hI:IsoCall cx)(hk:∀p,xY (cr cx.ann.kinds p .L)=true->p<cx.nt)(m:Nat):∀(n:Nat)(code:Code),SizeOf.sizeOf code<n->
  ∀(e:Env)(h:Hp)(a:Act)(w:World)(kn:Env->M ρ)(kx:Nat->Env->M ρ)(kr:Env->M ρ)(Q:Exit->Act->World->Prop),ju c cx.nt e h a w->ev cx (c9 m) code e kn kx kr h≠.fail->
  Posts c cx.nt (ev cx (c9 m) code e kn kx kr h) a kn kx kr Q->code.wp P Q a w:=by
 intro n
 induction n with
 |zero=>intro code hn;omega
 | succ n ih=>
  intro code hn e h a w kn kx kr Q H hr hp;cases code<;>(try exact absurd rfl hr)
  case skip=>exact wp_skip (hp.nrm e h a w rfl H rfl)
  case exit id=>exact wp_exit (hp.ext id e h a w rfl H rfl)
  case ret=>exact wp_ret (hp.ret e h a w rfl H rfl)
  case region id ops draw=>exact vO hT hC hI hk H hr hp.nrm hp.pan
  case seq x y=>
   have hx:SizeOf.sizeOf x<n:=by simp at hn;omega
   have hy:SizeOf.sizeOf y<n:=by simp at hn;omega
   refine wp_seq ?_;rw[EN]at hr hp;generalize vq cx x=oj at hr hp;cases oj with
   |none=>
    simp only at hr hp;refine ih x hx e h a w _ kx kr _ H hr ⟨fun e' h' a' w' hok hs hd=>?_,fun i e' h' a' w' hok hs hd=>hp.ext i e' h' a' w' hok hs hd,fun e' h' a' w' hok hs hd=>hp.ret e' h' a' w' hok hs hd,fun pv h' v w' a' hok hs hd=>hp.pan pv h' v w' a' hok hs hd⟩;rw[hok]at hr hp;exact ih y hy e' h' a' w' kn kx kr Q hs hr ⟨fun e2 h2 a2 w2 k1 k2 k3=>hp.nrm e2 h2 a2 w2 k1 k2 (k3.trans hd),fun i e2 h2 a2 w2 k1 k2 k3=>hp.ext i e2 h2 a2 w2 k1 k2 (k3.trans hd),fun e2 h2 a2 w2 k1 k2 k3=>hp.ret e2 h2 a2 w2 k1 k2 (k3.trans hd),fun pv h2 v w2 a2 k1 k2 k3=>hp.pan pv h2 v w2 a2 k1 k2 (k3.trans hd)⟩
   |some ja=>
    simp only[jn]at hr hp;refine ih x hx e h a w _ kx kr _ H hr ⟨fun e' h' a' w' hok hs hd=>?_,fun i e' h' a' w' hok hs hd=>hp.ext i e' h' a' w' hok hs hd,fun e' h' a' w' hok hs hd=>hp.ret e' h' a' w' hok hs hd,fun pv h' v w' a' hok hs hd=>hp.pan pv h' v w' a' hok hs hd⟩;rw[hok]at hr hp;obtain⟨vs,h3,hj,hs3⟩:=sC hs hr;rw[hj]at hr hp;exact ih y hy (unpack ja vs) h3 a' w' kn kx kr Q hs3 hr ⟨fun e2 h2 a2 w2 k1 k2 k3=>hp.nrm e2 h2 a2 w2 k1 k2 (k3.trans hd),fun i e2 h2 a2 w2 k1 k2 k3=>hp.ext i e2 h2 a2 w2 k1 k2 (k3.trans hd),fun e2 h2 a2 w2 k1 k2 k3=>hp.ret e2 h2 a2 w2 k1 k2 (k3.trans hd),fun pv h2 v w2 a2 k1 k2 k3=>hp.pan pv h2 v w2 a2 k1 k2 (k3.trans hd)⟩
  case cond o x y=>
   have hx:SizeOf.sizeOf x<n:=by simp at hn;omega
   have hy:SizeOf.sizeOf y<n:=by simp at hn;omega
   cases o<;>(try exact absurd rfl hr)
   case const v=>
    simp only[ev]at hr hp
    have hav:∀b,cA v= .bool b->a.eval (.const v)= .bool b:=by
     intro b hb;show v= .bool b;cases v with
     |bool c=>simp only[cA,wy,AV.bool.injEq]at hb;rw[hb]
     |tuple vs=>simp only[cA]at hb;cases hvs:vs.isEmpty<;>rw[hvs]at hb<;>cases hb
     |pointer p=>cases p<;>(simp only[cA,wy]at hb;cases hb)
     |map p=>cases p<;>(simp only[cA,wy]at hb;cases hb)
     | slice p n m=>
      have hs:wy (.slice p n m)= .sl []\/wy (.slice p n m)= .any:=by
       cases p with
       |some q=>exact .inr rfl
       | none=>cases n with
        |succ n=>exact .inr rfl
        |zero=>cases m with
         |succ m=>exact .inr rfl
         |zero=>exact .inl rfl
      simp only[cA]at hb;rcases hs with hs|hs<;>rw[hs]at hb<;>cases hb
     |_=>simp only[cA,wy]at hb;cases hb
    cases hq:cA v<;>rw[hq]at hr hp<;>(try exact absurd rfl hr);rename_i b;cases b with
    |true=>exact wp_cond (hav true hq) (ih x hx e h a w kn kx kr Q H hr hp)
    |false=>exact wp_cond (hav false hq) (ih y hy e h a w kn kx kr Q H hr hp)
   rename_i t;simp only[ev]at hr hp;cases ht:decide (t<1000)with
   |false=>rw[ht]at hr;exact absurd rfl hr
   | true=>
    rw[ht]at hr hp;simp only[JM]at hr hp;have htl:t<1000:=by simpa using ht
    have hav:∀b,e.av t= .bool b->a.eval (.tmp t)= .bool b:=by
     intro b hb;obtain⟨S,β,γ,lam,ω,F⟩:=H;have hs:=F.slots t htl;simp only[Env.av,Ent.av]at hb;cases hv:(e.get t).v with
     |val av=>
      rw[hv]at hs hb;simp only at hb;subst hb;simp only[eP,VR]at hs;exact hs
     |loc B off=>rw[hv]at hb;cases hb
    cases hq:e.av t<;>rw[hq]at hr hp<;>(try exact absurd rfl hr);rename_i b;cases b with
    |true=>exact wp_cond (hav true hq) (ih x hx e h a w kn kx kr Q H hr hp)
    |false=>exact wp_cond (hav false hq) (ih y hy e h a w kn kx kr Q H hr hp)
  case block id code=>
   refine wp_block ?_;by_cases hc:∃b,code= .loop b
   ·obtain⟨b,rfl⟩:=hc;have hb:SizeOf.sizeOf b<n:=by simp at hn;omega
    simp only[ev]at hr hp;cases hja:nd cx.ann.loops id with
    |none=>rw[hja]at hr;exact absurd rfl hr
    | some ja=>
     rw[hja]at hr hp;simp only at hr hp;refine jz.loop ?_;obtain⟨vs,h3,hj,hs3⟩:=sC H hr;rw[hj]at hr hp;have key:∀(k:Nat)(vs:List AV)(h:Hp)(a1:Act)(w:World),ju c cx.nt (unpack ja vs) h a1 w->a1.defers=a.defers->
       c9 k (fun self vs=>ev cx (c9 m) b (unpack ja vs) (pS ja self) (fun i e'=>bif Nat.beq i id then kn e' else kx i e') kr) vs h≠.fail->
       Posts c cx.nt (c9 k (fun self vs=>ev cx (c9 m) b (unpack ja vs) (pS ja self) (fun i e'=>bif Nat.beq i id then kn e' else kx i e') kr) vs h) a kn kx kr Q->jz P b (Exit.inBlock id Q) a1 w:=by
      intro k
      induction k with
      |zero=>intro vs h a1 w _ _ hr _;exact absurd rfl hr
      | succ k ihk=>
       intro vs h a1 w hs hd hr hp;simp only[c9]at hr hp;refine jz.round (ih b hb (unpack ja vs) h a1 w _ _ kr _ hs hr ⟨fun e' h' a' w' hok hs' hd'=>?_,fun i e' h' a' w' hok hs' hd'=>?_,fun e' h' a' w' hok hs' hd'=>hp.ret e' h' a' w' hok hs' (hd'.trans hd),fun pv h' v w' a' hok hs' hd'=>hp.pan pv h' v w' a' hok hs' (hd'.trans hd)⟩)
       ·rw[hok]at hr hp;obtain⟨vs',h4,hj',hs4⟩:=sC hs' hr;rw[hj']at hr hp;exact ihk vs' h4 a' w' hs4 (hd'.trans hd) hr hp
       ·cases hi:Nat.beq i id with
        |true=>
         rw[hi]at hok
         have:=J2 hi
         subst this;show Exit.inBlock i Q (.exit i) a' w';simp only[Exit.inBlock,J0];exact hp.nrm e' h' a' w' hok hs' (hd'.trans hd)
        |false=>
         rw[hi]at hok;have hne:i≠id:=fun hh=>by subst hh;simp at hi
         show Exit.inBlock id Q (.exit i) a' w';simp only[Exit.inBlock,if_neg hne];exact hp.ext i e' h' a' w' hok hs' (hd'.trans hd)
     exact key m vs h3 a w hs3 rfl hr hp
   ·have hc':∀b,code≠.loop b:=fun b hb=>hc ⟨b,hb⟩;rw[zF hc']at hr hp;have hs:SizeOf.sizeOf code<n:=by simp at hn;omega
    refine ih code hs e h a w kn _ kr _ H hr ⟨fun e' h' a' w' hok hs' hd'=>hp.nrm e' h' a' w' hok hs' hd',fun i e' h' a' w' hok hs' hd'=>?_,fun e' h' a' w' hok hs' hd'=>hp.ret e' h' a' w' hok hs' hd',fun pv h' v w' a' hok hs' hd'=>hp.pan pv h' v w' a' hok hs' hd'⟩;cases hi:Nat.beq i id with
    |true=>
     rw[hi]at hok
     have:=J2 hi
     subst this;show Exit.inBlock i Q (.exit i) a' w';simp only[Exit.inBlock,J0];exact hp.nrm e' h' a' w' hok hs' hd'
    |false=>
     rw[hi]at hok;have hne:i≠id:=fun hh=>by subst hh;simp at hi
     show Exit.inBlock id Q (.exit i) a' w';simp only[Exit.inBlock,if_neg hne];exact hp.ext i e' h' a' w' hok hs' hd'
end
end Go.Av
namespace Go.Av
variable [Dr]
omit [Dr]in
theorem ou:∀(args:List AV)(i t:Nat),bQ (sQ i args) t=if i<=t/\t<i+args.length then⟨.val (nth args (t-i)),none⟩else Ent.none
 |[],i,t=>by
  simp only[sQ,bQ,J8,K9];rw[if_neg (by omega)]
 | a:: as0,i,t=>by
  simp only[sQ,cp,Ke];by_cases h:i=t
  ·subst h;rw[JV rfl,JV (by omega)];simp[nth]
  ·rw[if_neg h,ou as0 (i+1) t];by_cases h2:i+1<=t/\t<i+1+as0.length
   ·rw[JV h2,JV (by omega)];have:t-i=(t-(i+1))+1:=by omega
    simp[nth,this]
   ·rw[if_neg h2,if_neg (by omega)]
section
variable {P:Program} {cx:Cx}
open Classical in
theorem FP{w:World}{S:aL}{β:List bS}{h:Hp}{args:List AV}{vs:List Value}{n:Nat}(hg:yA β h w)(hw:Wf S w)(hh:dV S β w h)(hv:bw S β args vs)(hn:args.length<=n)(hn2:n<=1000):
  ∃γ lam ω,FR { w,S,β,E:=cF β h,gok:=hg } n (fun g=>g<(nP args).nx*1000) (nP args) h { tmps:=vs.toArray++Array.replicate (n-vs.toArray.size) undef,defers:=[] } w S β γ lam ω:=by
 obtain⟨hlen,ω0,hr⟩:=hh;have hvl:=hv.length;have hget:∀t,(nP args).get t=if t<args.length then⟨.val (nth args t),none⟩else Ent.none:=fun t=>by
  have:=ou args 0 t
  simp only[Ki,MM,Ko,Mv]at this;exact this
 let ω:Nat->Owner:=fun b=>if cF β h b then ω0 b else .no;refine⟨fun _=>undef,fun _=>none,ω,⟨hw,Gro.refl _,fun b _ _=>⟨rfl,fun _=>rfl⟩,aL.le_refl S,fS.refl β,hlen,fun l cs hl hcs=>?_,⟨?_,hn2⟩,fun t ht=>?_,fun t g z ht hg=>?_,fun B m hB=>?_,fun g z hz=>?_,fun b hb=>?_,fun t g hg=>?_,fun g z hz=>?_⟩⟩
 ·have hown:∀b n,β[l]? = some (b,n)->ω0 b= .heap l->ω b= .heap l:=fun b n h1 h3=>by
   show (if cF β h b then ω0 b else .no)=_;rw[JV ⟨l,cs,_,hl,hcs,h1⟩];exact h3
  rcases hr l cs hl hcs with⟨b,x,h1,h2,h3,h4⟩|⟨b,h1,h3,h4⟩
  ·exact .inl ⟨b,x,h1,h2,hown b _ h1 h3,h4⟩
  ·exact .inr ⟨b,h1,hown b _ h1 h3,h4⟩
 ·simp;omega
 ·rw[hget];split
  ·rename_i hlt;have hx:args[t]? = some (nth args t):=by simp[nth,hlt]
   obtain⟨v,h1,h2⟩:=hv.get hx;have:(vs.toArray++Array.replicate (n-vs.toArray.size) undef).getD t undef=v:=by
    rw[Kp,Array.getElem?_append_left (by simp;omega)];simp[h1]
   rw[this];exact h2
  ·simp[Ent.none,eP,VR]
 ·rw[hget]at hg;split at hg<;>cases hg
 ·cases hB
 ·cases hz
 ·have hb':cF β h b:=by
   by_cases ho:cF β h b
   ·exact ho
   ·exact absurd (show ω b= .no from if_neg ho) hb
  obtain⟨l,cs,m,h1,h2,h3⟩:=hb';obtain⟨b',x,k1,k2,k3,_⟩:=hr.own h1 h2;rw[h3]at k1;cases k1;have hω:ω b= .heap l:=by
   show (if cF β h b then ω0 b else .no)=_;rw[JV ⟨l,cs,_,h1,h2,h3⟩];exact k3
  exact⟨.inl ⟨⟨l,cs,_,h1,h2,h3⟩,fun g=>by rw[hω];simp⟩,k2⟩
 ·rw[hget]at hg;split at hg<;>cases hg
 ·cases hz
theorem start{w:World}{S:aL}{β:List bS}{h:Hp}{args:List AV}{vs:List Value}{n:Nat}(hg:yA β h w)(hw:Wf S w)(hh:dV S β w h)(hv:bw S β args vs)(hn:args.length<=n)(hn2:n<=1000):
  ju { w,S,β,E:=cF β h,gok:=hg } n (nP args) h { tmps:=vs.toArray++Array.replicate (n-vs.toArray.size) undef,defers:=[] } w:=⟨S,β,FP hg hw hh hv hn hn2⟩
def gC(tmps:Array Value):ResultVar->Sem Value
 |.tmp t=>pure (tmps.getD t undef)
 |.cell p t=>do loadVar t (<- asAddr (tmps.getD p undef))
omit [Dr]in
theorem pF(fn:Func)(tmps:Array Value):results fn tmps=(do let vs <- fn.results.mapM (gC tmps);pure (if h:vs.size=1 then vs[0]else .tuple vs)):=by
 unfold results;congr 1
theorem FL{c:Entry}{N:Nat}{U:Nat->Prop}{e:Env}{h:Hp}{a:Act}{w:World}{S:aL}{β:List bS}{γ:Nat->Value}{lam:Nat->Option Nat}{ω:Nat->Owner}(hT:TOK P cx.T)(F:FR c N U e h a w S β γ lam ω){r:ResultVar}{v:AV}(hr:tV cx.T e r=some v):∃u,(gC a.tmps r).run P w= .ok u w/\VR S β v u:=by
 cases r with
 | tmp t=>
  simp only[tV]at hr;cases ht:decide (t<1000)with
  |false=>rw[ht]at hr;cases hr
  | true=>
   rw[ht]at hr;simp only[JM]at hr;have hs:=F.slots t (by simpa using ht);cases hv:(e.get t).v with
   |loc B off=>rw[hv]at hr;cases hr
   |val av=>
    rw[hv]at hr hs;simp only[JK]at hr;subst hr;exact⟨_,by simp only[gC,Sem.run_pure],hs⟩
 | cell p t=>
  simp only[tV]at hr;cases hp:decide (p<1000)with
  |false=>rw[hp]at hr;cases hr
  | true=>
   rw[hp]at hr;simp only[JM]at hr;have hs:=F.slots p (by simpa using hp);cases hv:(e.get p).v with
   | loc B off=>
    rw[hv]at hr hs;cases ht:cx.T t with
    |none=>rw[ht]at hr;cases hr
    | some ti=>
     rw[ht]at hr;simp only at hr;cases hin:kw e B off ti.size with
     |false=>rw[hin]at hr;cases hr
     | true=>
      rw[hin]at hr;simp only[JM]at hr;simp only[eP]at hs;obtain⟨b,hlam,hpv⟩:=hs;obtain⟨b',x,m,hm,hle,hlam',hrow,hms,hcells⟩:=F.locals hin;rw[hlam]at hlam';cases hlam';let f:Nat->Value:=fun i=>(x[off+i]?).getD undef;have hf:∀i,i<ti.size->x[off+i]? = some (f i):=fun i hi=>by
       obtain⟨v,_,hv',_⟩:=hcells i hi;show _=some ((x[off+i]?).getD undef);rw[hv'];rfl
      have hload:=nr hT ht hrow f hf;have hexec:∀v,(loadVar t ⟨b,off,none⟩).run P w= .ok v w->(gC a.tmps (.cell p t)).run P w= .ok v w:=fun v hv'=>by
       simp only[gC];rw[hpv];simpa [asAddr]using hv'
      cases hag:ti.agg with
      |true=>
       rw[hag]at hr;simp only[JM,JK]at hr;subst hr;refine⟨_,hexec _ (hload.1 hag),?_⟩;simp only[VR];refine⟨_,rfl,oQ ti.size fun i hi=>?_⟩;obtain⟨v,a',g1,g2,g3,_⟩:=hcells i hi;have:f i=v:=by show (x[off+i]?).getD undef=v;rw[g1];rfl
       rw[this];simp only[Env.av,Ent.av,g2];exact g3
      | false=>
       rw[hag]at hr;simp only[JX]at hr;cases hone:decide (ti.size=1)with
       |false=>rw[hone]at hr;cases hr
       |true=>
        rw[hone]at hr;simp only[JM,JK]at hr;subst hr;have hone':ti.size=1:=by simpa using hone
        obtain⟨v,a',g1,g2,g3,g4⟩:=hcells 0 (by omega);simp only[K9]at g1 g2 g4;have hfv:f 0=v:=by show (x[off+0]?).getD undef=v;rw[K9,g1];rfl
        refine⟨v,hexec _ (hfv▸hload.2 hag hone'),?_⟩;simp only[Env.av,Ent.av,g2];exact g3
   | val av=>
    rw[hv]at hr hs;cases ht:cx.T t with
    |none=>rw[ht]at hr;cases hr
    |some ti=>
     rw[ht]at hr;simp only at hr;obtain⟨v,h1,h2⟩:=wP hT F.wf hr hs;refine⟨v,?_,h2⟩;unfold ah at hr;rw[ht]at hr;cases av<;>simp only[reduceCtorEq]at hr;simp only[eP,VR]at hs;obtain⟨b,off,vs,hpv,_,_⟩:=hs;simp only[gC];rw[hpv]at h1 |-;simpa [Instr.loadAt,Instr.sureAddr,asAddr]using h1
theorem vP{c:Entry}{N:Nat}{U:Nat->Prop}{e:Env}{h:Hp}{a:Act}{w:World}{S:aL}{β:List bS}{γ:Nat->Value}{lam:Nat->Option Nat}{ω:Nat->Owner}(hT:TOK P cx.T)(F:FR c N U e h a w S β γ lam ω){fn:Func}{vs:List AV}(hr:fL cx.T e fn.results.toList=some vs):∃u,(results fn a.tmps).run P w= .ok u w/\VR S β (kD vs) u:=by
 have key:∀(l:List ResultVar)(vs:List AV),fL cx.T e l=some vs->∃us:List Value,(l.mapM (gC a.tmps)).run P w= .ok us w/\bw S β vs us:=by
  intro l
  induction l with
  |nil=>intro vs h;simp only[fL,JK]at h;subst h;exact⟨[],by simp,by simp[bw]⟩
  | cons r rs ih=>
   intro vs h;simp only[fL]at h;cases h1:tV cx.T e r with
   |none=>rw[h1]at h;cases h
   | some v=>
    cases h2:fL cx.T e rs with
    |none=>rw[h1,h2]at h;cases h
    |some vs'=>
     rw[h1,h2]at h;simp only[JK]at h;subst h;obtain⟨u,k1,k2⟩:=FL hT F h1;obtain⟨us,m1,m2⟩:=ih vs' h2;refine⟨u:: us,?_,by simp only[bw];exact⟨u,us,rfl,k2,m2⟩⟩;rw[List.mapM_cons,Sem.run_bind,k1,Result.andThen_ok,Sem.run_bind,m1,Result.andThen_ok,Sem.run_pure]
 obtain⟨us,k1,k2⟩:=key _ _ hr;have hlen:=k2.length;have hrun:(fn.results.mapM (gC a.tmps)).run P w= .ok us.toArray w:=by
  rw[Mo];rw[map_eq_pure_bind,Sem.run_bind,k1,Result.andThen_ok,Sem.run_pure]
 refine⟨if h:us.toArray.size=1 then us.toArray[0]else .tuple us.toArray,?_,?_⟩
 ·rw[pF,Sem.run_bind,hrun,Result.andThen_ok,Sem.run_pure]
 ·unfold kD;split
  ·rename_i v;cases us with
   |nil=>simp at hlen
   |cons u us=>
    cases us with
    |nil=>simp only[bw]at k2;obtain⟨x,xs,hx,hy,_⟩:=k2;simp at hx;simp[hx.1,hy]
    |cons u2 us=>simp at hlen
  ·rename_i hne;rw[dif_neg]
   ·simp only[VR];exact⟨us,rfl,k2⟩
   ·intro h1;have:vs.length=1:=by rw[<- hlen];simpa using h1
    match vs,this with
    |[v],_=>exact hne v rfl
end
end Go.Av
namespace Go.Av
variable [Dr]
omit [Dr]in
theorem tB{n:Nat}{ks:List (Nat×Kind)}(h:lI n ks=true):∀p,xY (cr ks p .L)=true->p<n:=by
 intro p hp
 induction ks with
 |nil=>simp[cr,xY]at hp
 | cons x ks ih=>
  obtain⟨k,y⟩:=x;unfold lI at h;simp only[La,JN]at h;simp only[cr]at hp;cases hk:Nat.beq k p with
  |true=>
   rw[hk]at hp;simp only[JM]at hp
   have:=h.1
   rw[hp]at this;have hk':=J2 hk;subst hk';simpa using this
  |false=>
   rw[hk]at hp;exact ih h.2 hp
section
variable {P:Program} {cx:Cx}
theorem FG{c:Entry}{N:Nat}{U:Nat->Prop}{e:Env}{h:Hp}{a:Act}{w:World}{S:aL}{β:List bS}{γ:Nat->Value}{lam:Nat->Option Nat}{ω:Nat->Owner}(F:FR c N U e h a w S β γ lam ω){fn:Func}{sz:Nat}(ho:r6 fn e sz=true){u:Value}(hu:(results fn a.tmps).run P w= .ok u w):rq c.w.heap.size S β w h sz u:=by
 unfold r6 at ho;split at ho
 ·rename_i t hres;cases ht:decide (t<1000)with
  |false=>rw[ht]at ho;cases ho
  | true=>
   rw[ht]at ho;simp only[Lg]at ho;split at ho
   ·rename_i g hg;split at ho
    ·rename_i z hz;have hgr:=F.grps t g z (by simpa using ht) hg hz;obtain⟨ad,len,cap,h1,h2,h3,h4⟩:=F.free g z hz;have hue:u=a.tmps.getD t undef:=by
      have hr:fn.results= #[.tmp t]:=by apply Lt;simpa using hres
      rw[pF,hr]at hu;simp[gC]at hu;simpa using hu.symm
     rw[hue,hgr];refine⟨ad,len,cap,h1,h2,h3,h4.imp id ?_⟩;rintro⟨sz',b,off,x,k1,k2,k3,k4,k5,k6⟩;have hsz:sz'=sz:=by
      rw[k1]at ho;simp only[sB]at ho;exact J2 ho
     subst hsz;refine⟨b,off,x,k2,k3,k4,(F.mine b (by rw[k5];simp)).1.grp k5,fun hb=>?_,k6⟩;obtain⟨l,_,hl,_⟩:=F.hown hb;rw[k5]at hl;cases hl
    ·cases ho
   ·cases ho
 ·cases ho
omit [Dr]in
theorem Aq{fn:Func}{own:Option Nat}{e:Env}{h:Hp}(hr:iH cx fn own e h≠.fail):∃rs,fL cx.T e fn.results.toList=some rs/\(iH cx fn own e h= .ok (kD rs) h\/(own=none/\iH cx fn own e h= .ok (i4 6 h (kD rs)) (h.map fun _=>[])))/\∀sz,own=some sz->r6 fn e sz=true:=by
 have key:∀b z:Bool,(bif b then ae (ai ((fL cx.T e fn.results.toList).map kD)) (bif z then(bif own.isSome then fun _=>M.fail else wJ)else M.pure)else M.fail:M AV) h≠.fail->b=true/\∃rs,fL cx.T e fn.results.toList=some rs/\
   ((bif b then ae (ai ((fL cx.T e fn.results.toList).map kD)) (bif z then(bif own.isSome then fun _=>M.fail else wJ)else M.pure)else M.fail:M AV) h= .ok (kD rs) h\/
    (own=none/\(bif b then ae (ai ((fL cx.T e fn.results.toList).map kD)) (bif z then(bif own.isSome then fun _=>M.fail else wJ)else M.pure)else M.fail:M AV) h= .ok (i4 6 h (kD rs)) (h.map fun _=>[]))):=by
  intro b z hr;cases b with
  |false=>exact absurd rfl hr
  | true=>
   refine⟨rfl,?_⟩;cases hres:fL cx.T e fn.results.toList with
   |none=>rw[hres]at hr;exact absurd rfl hr
   | some rs=>
    rw[hres]at hr;cases z with
    |false=>exact⟨rs,rfl,.inl rfl⟩
    |true=>
     cases own with
     |none=>exact⟨rs,rfl,.inr ⟨rfl,rfl⟩⟩
     |some sz=>exact absurd rfl hr
 unfold iH at hr |-;cases own with
 |none=>
  obtain⟨_,rs,h1,h2⟩:=key true _ hr;exact⟨rs,h1,h2,fun sz hsz=>by cases hsz⟩
 |some sz=>
  obtain⟨h0,rs,h1,h2⟩:=key _ _ hr;exact⟨rs,h1,h2,fun sz' hsz=>by cases hsz;exact h0⟩
theorem gK(hT:TOK P cx.T)(hC:cQ P cx.own cx.call)(hI:IsoCall cx)(m:Nat){f:FuncId}{fn:Func}(hf:P.funcs[f]? = some fn)(hnt:cx.nt=fn.ntmps){own:Option Nat}{args:List AV}{h:Hp}{S:aL}{β:List bS}{w:World}{vs:List Value}(hr:cX cx (c9 m) fn own args h≠.fail)(hg:yA β h w)(hw:Wf S w)(hh:dV S β w h)(hv:bw S β args vs):Calls P f vs.toArray w (gX own S β h w (cX cx (c9 m) fn own args h))/\fn.body.isSome=true:=by
 unfold cX at hr |-;cases hb:fn.body with
 |none=>rw[hb]at hr;exact absurd rfl hr
 | some code=>
  rw[hb]at hr;simp only at hr |-;refine⟨?_,rfl⟩;cases hc:(decide (args.length<=fn.ntmps)&&decide (fn.ntmps<=1000)&&lI cx.nt cx.ann.kinds)with
  |false=>rw[hc]at hr;exact absurd rfl hr
  | true=>
   rw[hc]at hr;simp only[JM]at hr |-;simp only[JN,Kj]at hc;obtain⟨⟨hc1,hc2⟩,hc3⟩:=hc;have H:ju { w,S,β,E:=cF β h,gok:=hg } cx.nt (nP args) h { tmps:=vs.toArray++Array.replicate (fn.ntmps-vs.toArray.size) undef,defers:=[] } w:=by
    rw[hnt];exact start hg hw hh hv hc1 hc2
   have hret:∀(e':Env)(h':Hp)(a':Act)(w':World),ev cx (c9 m) code (nP args) (iH cx fn own) (fun _ _=>M.fail) (iH cx fn own) h=iH cx fn own e' h'->
     ju { w,S,β,E:=cF β h,gok:=hg } cx.nt e' h' a' w'->∃v,(results fn a'.tmps).run P w'= .ok v w'/\gX own S β h w (ev cx (c9 m) code (nP args) (iH cx fn own) (fun _ _=>M.fail) (iH cx fn own) h) (.returned v) w':=by
    intro e' h' a' w' hok hs;rw[hok]at hr |-;obtain⟨rs,hres,hret,hown⟩:=Aq hr;obtain⟨S',β',γ,lam,ω,F⟩:=hs;obtain⟨u,hu1,hu2⟩:=vP (P:=P) hT F hres;rcases hret with hret|⟨rfl,hret⟩
    ·rw[hret];exact⟨u,hu1,S',β',u,rfl,hu2,F.out,fun sz hsz=>FG F (hown sz hsz) hu1⟩
    ·rw[hret];obtain⟨S2,ω2,F2,hf⟩:=F.freeze;exact⟨u,hu1,S2,β',u,rfl,hf _ _ hu2,F2.out,fun sz hsz=>by cases hsz⟩
   refine calls_of_wp hf hb (zG hT hC hI (tB hc3) m _ code (Mu _) (nP args) h _ w _ _ _ _ H hr ⟨fun e' h' a' w' hok hs hd=>?_,fun i e' h' a' w' hok hs hd=>?_,fun e' h' a' w' hok hs hd=>?_,fun pv h' v w' a' hok hs hd=>?_⟩)
   ·exact⟨hd,hret e' h' a' w' hok hs⟩
   ·rw[hok]at hr;exact absurd rfl hr
   ·exact⟨hd,hret e' h' a' w' hok hs⟩
   ·refine⟨hd,?_⟩;rw[hok];obtain⟨S',β',hout,hvr⟩:=hs;exact⟨S',β',v,rfl,hvr,hout⟩
end
open Classical in
theorem wL{S:aL}{β:List bS}{w w':World}{h:Hp}(_hw:Wf S w)(hh:dV S β w h){β0:List bS}{h0:Hp}(hE:∀b,¬cF β0 h0 b){S':aL}{β':List bS}{h':Hp}(L:Left (cF β0 h0) S β0 w S' β' w' h'):∃S2,Left (cF β h) S β w S2 β w' h/\(∀a v,VR S' β' a v->VR S2 β (i4 6 h' a) v)/\∀sz v,rq w.heap.size S' β' w' h' sz v->rq w.heap.size S2 β w' h sz v:=by
 obtain⟨hlen,ω,hH⟩:=L.heap;have hnew:∀b,cF β' h' b->w.heap.size<=b:=fun b hb=>(L.owned b hb).resolve_left (hE b);let S2:aL:=fun b o=>if cF β' h' b then w'.cell? ⟨b,o,none⟩else S' b o;have hS2n:∀b,¬cF β' h' b->∀o,S2 b o=S' b o:=fun b hb o=>if_neg hb;have hS2y:∀b,cF β' h' b->∀o,S2 b o=w'.cell? ⟨b,o,none⟩:=fun b hb o=>JV hb;have hle:S'.le S2:=by
  intro b o v hv;by_cases hb:cF β' h' b
  ·obtain⟨l,cs,n,h1,h2,h3⟩:=hb;obtain⟨b',x,k1,k2,k3,k5⟩:=hH.own h1 h2;rw[h3]at k1;cases k1;rw[k5]at hv;cases hv
  ·rw[hS2n b hb];exact hv
 have hrow:∀b,b<w.heap.size->w'.heap[b]? = w.heap[b]? /\∀o,S2 b o=S b o:=by
  intro b hb;have hk:=L.keep b hb (hE b);refine⟨hk.1,fun o=>?_⟩;rw[hS2n b (fun ho=>by have:=hnew b ho;omega)];exact hk.2 o
 have hwf:Wf S2 w':=by
  intro b o v hv;by_cases hb:cF β' h' b
  ·rw[hS2y b hb]at hv;exact hv
  ·rw[hS2n b hb]at hv;exact L.wf b o v hv
 obtain⟨hlen0,ω0,hH0⟩:=hh;have hlt0:∀b,cF β h b->b<w.heap.size:=by
  rintro b ⟨l,cs,n,h1,h2,h3⟩;obtain⟨b',x,k1,k2,_⟩:=hH0.own h1 h2;rw[h3]at k1;cases k1;exact k2
 have hle0:S.le S2:=aL.le_trans L.le hle;refine⟨S2,⟨hle0,fS.refl β,hwf,L.gro,fun b hb _=>hrow b hb,⟨hlen0,ω0,hH0.rows hle0 (fS.refl β) hlen0 fun l cs hl _=>.inl ⟨hl,fun b hb ho=>⟨ho,(hrow b hb).1,fun o h=>by rw[(hrow b hb).2];exact h⟩⟩⟩,fun b hb=>.inl hb⟩,fun a v hv=>rM hH hle (fun b o x hb hr=>?_) 6 a v hv,fun sz v=>?_⟩
 ·rw[hS2y b hb,hr.cell]
 ·rintro⟨ad,len,cap,k1,k2,k3,k4⟩;refine⟨ad,len,cap,k1,k2,k3,k4.imp id ?_⟩;rintro⟨b,off,x,p1,p2,p3,p4,p5,p6⟩;refine⟨b,off,x,p1,p2,p3,p4,fun hb=>?_,fun o ho=>by rw[hS2n b p5];exact p6 o ho⟩
  have:=hlt0 b hb
  omega
theorem zU{S:aL}{β:List bS}{w w':World}{h:Hp}{own:Option Nat}{m:List AV->M AV}{args:List AV}{en:Ending}(hw:Wf S w)(hh:dV S β w h)(hp:gX own S [] [] w (m (df ar args) []) en w'):gX own S β h w (oW m args h) en w':=by
 have key:=fun{S':aL} {β':List bS} {h':Hp} (L:Left (cF [] []) S [] w S' β' w' h')=>wL hw hh (by rintro b ⟨l,cs,n,h1,_⟩;simp at h1) L;unfold oW;cases hm:m (df ar args) []with
 |fail=>rw[hm]at hp;exact hp.elim
 |ok r h'=>
  rw[hm]at hp;obtain⟨S',β',v,h1,h2,h3,h4⟩:=hp;obtain⟨S2,k1,k2,k3⟩:=key h3;exact⟨S2,β,v,h1,k2 r v h2,k1,fun sz hsz=>k3 sz v (h4 sz hsz)⟩
 |pan r h'=>
  rw[hm]at hp;obtain⟨S',β',v,h1,h2,h3⟩:=hp;obtain⟨S2,k1,k2,k3⟩:=key h3;exact⟨S2,β,v,h1,k2 r v h2,k1⟩
structure GoodPg (P:Program) (p:Pg):Prop where
 tok:TOK P p.T
 funcs:∀f fn a,p.funcs f=some (fn,a)->P.funcs[f]? = some fn/\(fn.name== "runtime.NumGoroutine")=false
 other:∀f E,p.other f=some E->∀call,cQ P p.own call->∀(args:List AV)(h:Hp)(S:aL)(β:List bS)(w:World)(vs:List Value),E call args h≠.fail->yA β h w->Wf S w->dV S β w h->bw S β args vs->
  Calls P f vs.toArray w (gX (p.own f) S β h w (E call args h))/\(P.funcs[f]?).any (fun fn=>fn.body.isSome&&!(fn.name== "runtime.NumGoroutine"))=true
 nw:∀f,p.nw f=true->∃E,p.other f=some E/\∀call args,wq (E call args)
omit [Dr]in
theorem dV.nil{S:aL}{w:World}:dV S [] w []:=⟨rfl,fun _=>.no,fun l cs hl=>by simp at hl⟩
theorem s9{P:Program}{p:Pg}(G:GoodPg P p)(m:Nat){call:FuncId->List AV->M AV}(hC:cQ P p.own call)(hI:∀n a,IsoCall (p.cx call n a)):cQ P p.own (gw p call (c9 m)):=by
 intro f args h S β w vs hr hg hw hh hv;unfold gw at hr |-;cases ho:p.other f with
 |some E=>rw[ho]at hr;exact G.other f E ho call hC args h S β w vs hr hg hw hh hv
 | none=>
  rw[ho]at hr;simp only at hr |-;cases hf:p.funcs f with
  |none=>rw[hf]at hr;exact absurd rfl hr
  | some x=>
   obtain⟨fn,a⟩:=x;rw[hf]at hr;simp only at hr |-;obtain⟨hf1,hf2⟩:=G.funcs f fn a hf
   have hany:fn.body.isSome=true->(P.funcs[f]?).any (fun fn=>fn.body.isSome&&!(fn.name== "runtime.NumGoroutine"))=true:=by
    intro hb;rw[hf1];simp only[Option.any_some,hb,hf2,K6,MN]
   cases hi:a.iso with
   |false=>
    rw[hi]at hr;simp only[JX]at hr |-;obtain⟨h1,h2⟩:=gK (cx:=p.cx call fn.ntmps a) G.tok hC (hI _ _) m hf1 rfl hr hg hw hh hv;exact⟨h1,hany h2⟩
   | true=>
    rw[hi]at hr;simp only[JM]at hr |-;have hr':cX (p.cx call fn.ntmps a) (c9 m) fn (p.own f) (df ar args) []≠.fail:=by
     intro hf;unfold oW at hr;rw[hf]at hr;exact hr rfl
    obtain⟨h1,h2⟩:=gK (cx:=p.cx call fn.ntmps a) G.tok hC (hI _ _) m hf1 rfl hr' ⟨hg.1,fun b _ hb=>by obtain⟨l,_,_,h1,_⟩:=hb;simp at h1⟩ hw dV.nil (zv hv);exact⟨h1.mono fun en w' hp=>zU hw hh hp,hany h2⟩
omit [Dr]in
theorem uT(p:Pg)(hN:∀f,p.nw f=true->∃E,p.other f=some E/\∀call args,wq (E call args)):∀n k a,IsoCall (p.cx (cw p n) k a)
 |0,k,a=>⟨fun f args _=>⟨none,fun _=>rfl⟩,fun f args _ h v h' hh=>by cases hh⟩
 | n+1,k,a=>by
  refine⟨?_,fun f args hf=>?_⟩
  case refine_2=>
   obtain⟨E,hE,hn⟩:=hN f hf;have:(p.cx (cw p (n+1)) k a).call f args=E (cw p n) args:=by
    show gw p (cw p n) (c9 n) f args=_;unfold gw;rw[hE]
   rw[this];exact hn _ _
  intro f args hi;have hi':p.iso f=true:=hi;unfold Pg.iso at hi';cases ho:p.other f with
  |some E=>rw[ho]at hi';cases hi'
  | none=>
   rw[ho]at hi';simp only at hi';cases hf:p.funcs f with
   |none=>rw[hf]at hi';cases hi'
   |some x=>
    obtain⟨fn,b⟩:=x;rw[hf]at hi';simp only at hi';refine⟨match cX (p.cx (cw p n) fn.ntmps b) (c9 n) fn (p.own f) (df ar args) []with|.ok r h'=>some (true,i4 6 h' r)|.pan v h'=>some (false,i4 6 h' v)|.fail=>none,fun h=>?_⟩;show gw p (cw p n) (c9 n) f args h=_;unfold gw;rw[ho];simp only;rw[hf];simp only[hi',JM,oW];cases cX (p.cx (cw p n) fn.ntmps b) (c9 n) fn (p.own f) (df ar args) []<;>rfl
theorem lv{P:Program}{p:Pg}(G:GoodPg P p):∀n,cQ P p.own (cw p n)
 |0=>fun _f _args _h _S _β _w _vs hr=>absurd rfl hr
 |n+1=>s9 G n (lv G n) fun k a=>uT p G.nw n k a
end Go.Av
namespace Go.Av
def zT{m:List AV->M AV}{ms:Nat->List AV->M AV}(h:bA m ms)(args:List AV):aQ (oW m args) fun n=>oW (ms n) args:=by
 intro x;obtain⟨h1,h2⟩:=h (df ar args) []
 (try dsimp only at h1 h2)
 refine⟨fun hne=>?_,fun n hne=>?_⟩
 ·have hne':m (df ar args) []≠.fail:=fun hf=>hne (by simp only[oW,hf]);obtain⟨N,hN⟩:=h1 hne';refine⟨N,fun n hn=>?_⟩
  (try dsimp only)
  simp only[oW,hN n hn]
 ·(try dsimp only at hne |-)
  have hne':ms n (df ar args) []≠.fail:=fun hf=>hne (by simp only[oW,hf]);simp only[oW,h2 n hne']
def dk(p:Pg):Prop:=∀f E,p.other f=some E->∀(call:FuncId->List AV->M AV)(calls:Nat->FuncId->List AV->M AV),(∀f,bA (call f) fun n=>calls n f)->bA (E call) fun n=>E (calls n)
section
variable {cx:Cx} {call:FuncId->List AV->M AV} {calls:Nat->FuncId->List AV->M AV} {fx:bm AV} {fxs:Nat->bm AV}
theorem uS(hc:∀f,bA (call f) fun n=>calls n f)(hfx:mg fx fxs)(hfc:sI fx)(hfcs:∀n,sI (fxs n))(fn:Func)(own:Option Nat):
  bA (cX (cx.wc call) fx fn own) fun n=>cX (cx.wc (calls n)) (fxs n) fn own:=by
 intro args;unfold cX;cases fn.body with
 |none=>exact aQ.const _
 | some c=>
  have key:∀b:Bool,aQ (bif b then ev (cx.wc call) fx c (nP args) (iH (cx.wc call) fn own) (fun _ _=>M.fail) (iH (cx.wc call) fn own)else M.fail) fun n=>(bif b then ev (cx.wc (calls n)) (fxs n) c (nP args) (iH (cx.wc (calls n)) fn own) (fun _ _=>M.fail) (iH (cx.wc (calls n)) fn own)else M.fail):=by
   intro b;cases b with
   |false=>exact aQ.const _
   |true=>
    have hr:bA (iH (cx.wc call) fn own) fun n=>iH (cx.wc (calls n)) fn own:=bA.const (iH cx fn own);exact EM _ c (Mu _) call calls fx fxs hc hfx hfc hfcs (nP args) _ (fun n=>iH (cx.wc (calls n)) fn own) _ (fun _ _ _=>M.fail) _ (fun n=>iH (cx.wc (calls n)) fn own) hr (fun i=>bA.const _) hr
  exact key (decide (args.length<=fn.ntmps)&&decide (fn.ntmps<=1000)&&lI cx.nt cx.ann.kinds)
theorem kh{p:Pg}(hO:dk p)(hc:∀f,bA (call f) fun n=>calls n f)(hfx:mg fx fxs)(hfc:sI fx)(hfcs:∀n,sI (fxs n))(f:FuncId):bA (gw p call fx f) fun n=>gw p (calls n) (fxs n) f:=by
 intro args;unfold gw;cases ho:p.other f with
 |some E=>exact hO f E ho call calls hc args
 | none=>
  simp only;cases p.funcs f with
  |none=>exact aQ.const _
  |some x=>
   obtain⟨fn,a⟩:=x;simp only;have hb:=uS (cx:=p.cx call fn.ntmps a) hc hfx hfc hfcs fn (p.own f);cases a.iso with
   |true=>exact zT hb args
   |false=>exact hb args
end
theorem m9{p:Pg}(hO:dk p):∀n f args,sH (cw p n f args) (cw p (n+1) f args)
 |0,f,args=>fun x hne=>absurd rfl hne
 | n+1,f,args=>by
  have hc:∀f,bA (cw p (n+1) f) fun m=>(if m=0 then cw p n else cw p (n+1)) f:=by
   intro f args x;refine⟨fun _=>⟨1,fun m hm=>?_⟩,fun m hne=>?_⟩
   ·(try dsimp only)
    rw[if_neg (by omega)]
   ·(try dsimp only at hne |-)
    by_cases h0:m=0
    ·rw[JV h0]at hne |-;exact m9 hO n f args x hne
    ·rw[if_neg h0]
  have h:=kh hO hc (td n) (jL (n+1)) (fun m=>by
   by_cases h0:m=0
   ·rw[JV h0];exact jL n
   ·rw[if_neg h0];exact jL (n+1)) f args
  intro x hne
  have:=(h x).2 0
  (try dsimp only at this)
  rw[JV rfl,JV rfl]at this;exact this hne
def rI{p:Pg}(hO:dk p){n m:Nat}(h:n<=m)(f:FuncId)(args:List AV):sH (cw p n f args) (cw p m f args):=by
 induction m with
 | zero => have:n=0:=by omega
           subst this;exact .refl _
 |succ m ih=>
  by_cases hn:n=m+1
  ·subst hn;exact .refl _
  ·exact (ih (by omega)).trans (m9 hO m f args)
open Classical in
noncomputable def af(p:Pg)(f:FuncId)(args:List AV):M AV:=fun h=>if hx:∃n,cw p n f args h≠.fail then cw p (Classical.choose hx) f args h else .fail
def ir{p:Pg}(hO:dk p)(f:FuncId):bA (af p f) fun n=>cw p n f:=by
 intro args h;refine qy (fun n m hnm hne=>rI hO hnm f args h hne) ?_;unfold af;by_cases hx:∃n,cw p n f args h≠.fail
 ·left;simp only[dif_pos hx];exact⟨_,L2 hx,rfl⟩
 ·right;simp only[dif_neg hx];exact⟨fun n=>Mm fun h=>hx ⟨n,h⟩,trivial⟩
def oe.uniq{α:Type}{a a':R α}{b:Nat->R α}(h:oe a b)(g:oe a' fun n=>b (n+1)):a=a':=by
 by_cases ha:a= .fail
 ·by_cases ha':a'= .fail
  ·rw[ha,ha']
  ·obtain⟨N,hN⟩:=g.1 ha';have h1:=hN N (JO _)
   (try dsimp only at h1)
   exact (h.2 (N+1) (by rw[h1];exact ha')).symm.trans h1
 ·obtain⟨N,hN⟩:=h.1 ha;have h1:=hN (N+1) (by omega);have h2:=g.2 N
  (try dsimp only at h2)
  exact h1.symm.trans (h2 (by rw[h1];exact ha))
def lk{p:Pg}(hO:dk p)(f:FuncId)(args:List AV):af p f args=gw p (af p) aj f args:=by
 funext h;have h1:=ir hO f args h;have h2:=kh hO (fun f=>ir hO f) nh vf (fun n=>jL n) f args h;exact h1.uniq h2
def sV[Dr]{P:Program}{p:Pg}(G:GoodPg P p)(hO:dk p):cQ P p.own (af p):=by
 intro f args h S β w vs hr hg hw hh hv;obtain⟨N,hN⟩:=(ir hO f args h).1 hr;have h1:=hN N (JO _)
 (try dsimp only at h1)
 rw[<- h1]at hr |-;exact lv G N f args h S β w vs hr hg hw hh hv
def zo{p:Pg}(hO:dk p){n:Nat}{f:FuncId}{args:List AV}{h:Hp}{r:R AV}(hr:cw p n f args h=r)(hne:r≠.fail):af p f args h=r:=by
 have:=(ir hO f args h).2 n (by(try dsimp only);rw[hr];exact hne)
 (try dsimp only at this)
 rw[<- this,hr]
end Go.Av
namespace Go.Av
section
variable {ρ:Type}
theorem aR{F:(List AV->M ρ)->List AV->M ρ}(hF:ky F)(vs:List AV):aj F vs=F (aj F) vs:=by
 funext h;exact (gb hF vs h).uniq (hF _ _ (gb hF) vs h)
theorem au{c:AV}{x y:M ρ}{xs ys:Nat->M ρ}(hx:aQ x xs)(hy:aQ y ys):aQ (ax c x y) fun n=>ax c (xs n) (ys n):=by
 unfold ax;cases c with
 |bool b=>cases b<;>first|exact hx|exact hy
 |_=>exact aQ.const _
theorem oY{k:List AV->M ρ}{ks:Nat->List AV->M ρ}{m:(List AV->M ρ)->M ρ}{ms:Nat->(List AV->M ρ)->M ρ}(hk:bA k ks)(hm:∀j js,bA j js->aQ (m j) fun n=>ms n (js n)):aQ (jn k m) fun n=>jn (ks n) (ms n):=
 hm k ks hk
theorem qF{F:(List AV->M ρ)->List AV->M ρ}{Fs:Nat->(List AV->M ρ)->List AV->M ρ}(h1:bc F Fs)(h2:ky F)(h3:∀n,ky (Fs n)):bA (aj F) fun n=>aj (Fs n):=vf F Fs h1 h2 h3
end
end Go.Av
namespace Go.Av
def aJ(m:M AV):M AV:=fun h=>match m []with
 |.ok r h'=>.ok (i4 6 h' r) h
 |.pan v h'=>.pan (i4 6 h' v) h
 |.fail=>.fail
def ay{p:Pg}(hO:dk p){f:FuncId}{fn:Func}{a:Ann}(h1:p.other f=none)(h2:p.funcs f=some (fn,a))(h3:a.iso=true)(args:List AV):
  af p f args=aJ (cX (p.cx (af p) fn.ntmps a) aj fn (p.own f) (df ar args)):=by
 rw[lk hO];unfold gw;rw[h1];simp only;rw[h2];simp only[h3,JM];rfl
def fD{p:Pg}(hO:dk p){f:FuncId}{fn:Func}{a:Ann}(h1:p.other f=none)(h2:p.funcs f=some (fn,a))(h3:a.iso=false)(args:List AV):
  af p f args=cX (p.cx (af p) fn.ntmps a) aj fn (p.own f) args:=by
 rw[lk hO];unfold gw;rw[h1];simp only;rw[h2];simp only[h3,JX]
def dZ{p:Pg}(hO:dk p){f:FuncId}{E:(FuncId->List AV->M AV)->List AV->M AV}(h1:p.other f=some E)(args:List AV):af p f args=E (af p) args:=by
 rw[lk hO];unfold gw;rw[h1]
def iW(T:TT)(t:TypeId):(FuncId->List AV->M AV)->List AV->M AV:=fun _ args=>match args with
 |[.sl es]=>ai (ca T t (.sl []) (.sl es))
 |_=>M.fail
def uM(T:TT)(t:TypeId)(call:FuncId->List AV->M AV)(calls:Nat->FuncId->List AV->M AV):bA (iW T t call) fun n=>iW T t (calls n):=bA.const _
def fI{α:Type}{b:Bool}{x:α}{o:Option α}{y:α}(h:(bif b then some x else o)=some y):x=y\/o=some y:=by
 cases b with
 |true=>exact .inl (by simpa using h)
 |false=>exact .inr h
end Go.Av
namespace Go.Av
variable [Dr]
open Go.RowKit
section
variable {S:aL} {β:List bS} {h:Hp} {w w':World}
omit [Dr]in
theorem dV.below(hh:dV S β w h){S':aL}(hb:∀b,b<w.heap.size->w'.heap[b]? = w.heap[b]? /\∀o,S' b o=S b o)(hle:S.le S'):dV S' β w' h:=by
 obtain⟨hlen,ω,hr⟩:=hh;exact⟨hlen,ω,hr.rows hle (fS.refl β) hlen fun l cs hl _=>.inl ⟨hl,fun b hlt ho=>⟨ho,(hb b hlt).1,fun o h=>by rw[(hb b hlt).2];exact h⟩⟩⟩
theorem o4(hw:Wf S w)(hh:dV S β w h)(hb:Below w.heap.size w w')(hd:Dr.on->w.drawn<=w'.drawn){S':aL}(hS:∀b,b<w.heap.size->∀o,S' b o=S b o)(hnew:∀b o v,w.heap.size<=b->S' b o=some v->w'.cell? ⟨b,o,none⟩=some v):
  Left (cF β h) S β w S' β w' h:=by
 have hle:S.le S':=fun b o v hv=>by rw[hS b (hw.lt hv)];exact hv
 refine⟨hle,fS.refl β,fun b o v hv=>?_,⟨hb.size,hb.os,hb.output,hb.tape,hd⟩,fun b hlt _=>⟨hb.block b hlt,hS b hlt⟩,hh.below (fun b hlt=>⟨hb.block b hlt,hS b hlt⟩) hle,fun b hb=>.inl hb⟩;rcases Kh b w.heap.size with hlt|hge
 ·rw[hS b hlt]at hv;rw[cell_of_heap (hb.block b hlt)];exact hw b o v hv
 ·exact hnew b o v hge hv
theorem m8(hw:Wf S w)(hh:dV S β w h)(hb:Below w.heap.size w w')(hd:Dr.on->w.drawn<=w'.drawn){r:AV}{v:Value}(hv:VR S β r v):gX none S β h w (.ok r h) (.returned v) w':=
 ⟨S,β,v,rfl,hv,o4 hw hh hb hd (fun _ _ _=>rfl) (fun b o v hge hv=>by have:=hw.lt hv;omega),fun sz hsz=>by cases hsz⟩
end
end Go.Av
namespace Go.Av
variable [Dr]
def iv:(FuncId->List AV->M AV)->List AV->M AV:=fun _ args=>match args with
 |[.str s,.str t]=>ai (bif decide (s.length<4294967281)then some (.bool (Lib.contains s t))else none)
 |_=>M.fail
def tf:AV->Option (List UInt8×Int×List AV)
 |.agg [.str n,.int .i64 k,.sl fs]=>some (n,k,fs)
 |_=>none
def fF:List AV->Option (List (List UInt8×Int×List AV))
 |[]=>some []
 |x:: r=>match tf x,fF r with
  |some z,some l=>some (z:: l)
  |_,_=>none
def bN{α:Type}(p:α->Bool):List α->Option α
 |[]=>none
 |z:: r=>match bN p r with
  |some y=>some y
  |none=>bif p z then some z else none
def vA(l:List (List UInt8×Int×List AV))(name:List UInt8):AV:=match bN (fun z=>z.1== name) l with
 |some z=>.tup [.agg [.int .i64 z.2.1,.sl z.2.2],.bool true]
 |none=>.tup [.agg [.int .i64 0,.sl []],.bool false]
def kj:(FuncId->List AV->M AV)->List AV->M AV:=fun _ args=>match args with
 |[.sl es,.str name]=>(match fF es with
  |some l=>ai (bif decide (l.length<=1000000000)then some (vA l name)else none)
  |none=>M.fail)
 |_=>M.fail
omit [Dr]in
theorem qh{α:Type}(p:α->Bool)(l:List α):bN p l=l.reverse.find? p:=by
 induction l with
 |nil=>rfl
 |cons z r ih=>
  simp only[bN,ih,List.reverse_cons,Mj];cases r.reverse.find? p with
  |some y=>rfl
  |none=>cases h:p z<;>simp[h]
end Go.Av
namespace Go.Av.Ap
abbrev aT:=List UInt8
inductive Val where
 |mk (kind n:Int) (names:List aT) (values:List Val)
instance:Inhabited Val:=⟨.mk 0 0 [] []⟩
inductive Exp where
 |mk (op n:Int) (s m:aT) (names:List aT) (args:List Exp)
instance:Inhabited Exp:=⟨.mk 0 0 [] [] [] []⟩
inductive Ty where
 |mk (kind:Int) (fields:List (aT×Ty))
instance:Inhabited Ty:=⟨.mk 0 []⟩
abbrev bI:=aT×Ty
structure Fun where
 name:aT
 pub:Bool
 params:List bI
 result:Ty
 effects:Int
 body:Exp
 deriving Inhabited
structure Mod where
 name:aT
 uses:List aT
 vars:List bI
 init:List Exp
 funcs:List Fun
 moves:Bool
 old:List bI
 forward:List Exp
 back:List Exp
 deriving Inhabited
def Val.kind:Val->Int|.mk k _ _ _=>k
def Val.n:Val->Int|.mk _ n _ _=>n
def Val.names:Val->List aT|.mk _ _ ns _=>ns
def Val.values:Val->List Val|.mk _ _ _ vs=>vs
def Exp.op:Exp->Int|.mk o _ _ _ _ _=>o
def Exp.n:Exp->Int|.mk _ n _ _ _ _=>n
def Exp.s:Exp->aT|.mk _ _ s _ _ _=>s
def Exp.m:Exp->aT|.mk _ _ _ m _ _=>m
def Exp.names:Exp->List aT|.mk _ _ _ _ ns _=>ns
def Exp.args:Exp->List Exp|.mk _ _ _ _ _ es=>es
def Ty.kind:Ty->Int|.mk k _=>k
def Ty.fields:Ty->List bI|.mk _ fs=>fs
@[simp] theorem JJ(a b c d):(Val.mk a b c d).kind=a:=rfl
@[simp] theorem Val.n_mk(a b c d):(Val.mk a b c d).n=b:=rfl
@[simp] theorem JI(a b c d):(Val.mk a b c d).names=c:=rfl
@[simp] theorem JH(a b c d):(Val.mk a b c d).values=d:=rfl
def Val.eta(v:Val):Val.mk v.kind v.n v.names v.values=v:=by cases v;rfl
def Exp.eta(e:Exp):Exp.mk e.op e.n e.s e.m e.names e.args=e:=by cases e;rfl
def Ty.eta(t:Ty):Ty.mk t.kind t.fields=t:=by cases t;rfl
def strs(l:List aT):AV:=.sl (l.map .str)
mutual
def Val.av:Val->AV
 |.mk k n ns vs=>.agg [.int .i64 k,.int .i64 n,strs ns,.sl (jm vs)]
def jm:List Val->List AV
 |[]=>[]
 |v:: vs=>v.av:: jm vs
end
mutual
def Exp.cells:Exp->List AV
 |.mk o n s m ns es=>[.int .i64 o,.int .i64 n,.str s,.str m,strs ns,.sl (gn es)]
def gn:List Exp->List AV
 |[]=>[]
 |e:: es=>.agg e.cells:: gn es
end
def Exp.av(e:Exp):AV:=.agg e.cells
mutual
def Ty.cells:Ty->List AV
 |.mk k fs=>[.int .i64 k,.sl (eJ fs)]
def eJ:List (aT×Ty)->List AV
 |[]=>[]
 |f:: fs=>bi f:: eJ fs
def bi:aT×Ty->AV
 |(n,t)=>.agg (.str n:: t.cells)
end
def Ty.av(t:Ty):AV:=.agg t.cells
def Fun.av(f:Fun):AV:=.agg ([.str f.name,.bool f.pub,.sl (eJ f.params)]++f.result.cells++[.int .i64 f.effects]++f.body.cells)
def dK(l:List Fun):AV:=.sl (l.map Fun.av)
def Mod.av(m:Mod):AV:=.agg [.str m.name,strs m.uses,.sl (eJ m.vars),.sl (gn m.init),dK m.funcs,.bool m.moves,.sl (eJ m.old),.sl (gn m.forward),.sl (gn m.back)]
def vals(l:List Val):AV:=.sl (jm l)
def bp(l:List Exp):AV:=.sl (gn l)
def aN(l:List bI):AV:=.sl (eJ l)
def Fz(l:List Mod):AV:=.sl (l.map Mod.av)
def ints(l:List Int):AV:=.sl (l.map (.int .i64))
structure Vars where
 module:aT
 values:List Val
 deriving Inhabited
structure Deed where
 effect:Int
 arg:Int
 answer:Int
 deriving DecidableEq,Inhabited
structure Call where
 module:aT
 func:aT
 args:List Val
 deriving Inhabited
def Vars.av(v:Vars):AV:=.agg [.str v.module,vals v.values]
def Deed.av(d:Deed):AV:=.agg [.int .i64 d.effect,.int .i64 d.arg,.int .i64 d.answer]
def Call.av(c:Call):AV:=.agg [.str c.module,.str c.func,vals c.args]
def pU(l:List Vars):AV:=.sl (l.map Vars.av)
def deeds(l:List Deed):AV:=.sl (l.map Deed.av)
def calls(l:List Call):AV:=.sl (l.map Call.av)
structure Out where
 err:Int
 value:Val
 deeds:List Deed
 calls:List Call
 state:List Vars
def Out.av(o:Out):AV:=.agg [.int .i64 o.err,.int .i64 o.value.kind,.int .i64 o.value.n,strs o.value.names,vals o.value.values,Ap.deeds o.deeds,Ap.calls o.calls,pU o.state]
theorem pT:(l:List Val)->jm l=l.map Val.av
 |[]=>rfl
 |v:: l=>by simp[jm,pT l]
theorem fE:(l:List Exp)->gn l=l.map Exp.av
 |[]=>rfl
 |v:: l=>by simp[gn,fE l,Exp.av]
theorem eK:(l:List bI)->eJ l=l.map bi
 |[]=>rfl
 |v:: l=>by simp[eJ,eK l]
def Val.av_eq(v:Val):v.av= .agg [.int .i64 v.kind,.int .i64 v.n,strs v.names,vals v.values]:=by cases v;rfl
def Exp.cells_eq(e:Exp):e.cells=[.int .i64 e.op,.int .i64 e.n,.str e.s,.str e.m,strs e.names,bp e.args]:=by cases e;rfl
def Ty.cells_eq(t:Ty):t.cells=[.int .i64 t.kind,aN t.fields]:=by cases t;simp[Ty.cells,aN,Ty.kind,Ty.fields]
def eB(f:bI):bi f= .agg [.str f.1,.int .i64 f.2.kind,aN f.2.fields]:=by obtain⟨n,t⟩:=f;simp[bi,Ty.cells_eq]
@[simp] theorem oo(v:Val):ab v.av=[.int .i64 v.kind,.int .i64 v.n,strs v.names,vals v.values]:=by rw[v.av_eq];rfl
@[simp] theorem cn(e:Exp):ab e.av=[.int .i64 e.op,.int .i64 e.n,.str e.s,.str e.m,strs e.names,bp e.args]:=by rw[Exp.av,e.cells_eq];rfl
@[simp] theorem eG(f:bI):ab (bi f)=[.str f.1,.int .i64 f.2.kind,aN f.2.fields]:=by rw[eB];rfl
@[simp] theorem eQ(t:Ty):ab t.av=[.int .i64 t.kind,aN t.fields]:=by rw[Ty.av,t.cells_eq];rfl
@[simp] theorem iP(f:Fun):ab f.av=[.str f.name,.bool f.pub,aN f.params,.int .i64 f.result.kind,aN f.result.fields,.int .i64 f.effects,.int .i64 f.body.op,.int .i64 f.body.n,.str f.body.s,.str f.body.m,strs f.body.names,bp f.body.args]:=by
 simp[Fun.av,ab,Ty.cells_eq,Exp.cells_eq,aN]
@[simp] theorem bo(m:Mod):ab m.av=[.str m.name,strs m.uses,aN m.vars,bp m.init,dK m.funcs,.bool m.moves,aN m.old,bp m.forward,bp m.back]:=rfl
@[simp] theorem tn(v:Val):AV.agg [.int .i64 v.kind,.int .i64 v.n,strs v.names,vals v.values]=v.av:=(v.av_eq).symm
@[simp] theorem eC(e:Exp):AV.agg [.int .i64 e.op,.int .i64 e.n,.str e.s,.str e.m,strs e.names,bp e.args]=e.av:=by rw[Exp.av,e.cells_eq]
@[simp] theorem ff(t:Ty):AV.agg [.int .i64 t.kind,aN t.fields]=t.av:=by rw[Ty.av,t.cells_eq]
@[simp] theorem jN(f:bI):AV.agg [.str f.1,.int .i64 f.2.kind,aN f.2.fields]=bi f:=(eB f).symm
@[simp] theorem lD(f:Fun):AV.agg [.str f.name,.bool f.pub,aN f.params,.int .i64 f.result.kind,aN f.result.fields,.int .i64 f.effects,.int .i64 f.body.op,.int .i64 f.body.n,.str f.body.s,.str f.body.m,strs f.body.names,bp f.body.args]=f.av:=by
 simp[Fun.av,Ty.cells_eq,Exp.cells_eq,aN]
@[simp] theorem tj(m:Mod):AV.agg [.str m.name,strs m.uses,aN m.vars,bp m.init,dK m.funcs,.bool m.moves,aN m.old,bp m.forward,bp m.back]=m.av:=rfl
theorem dl{α:Type}(g:Nat->Nat->Nat->Nat->Bool->AV)(f:α->AV)(h:∀x,cl g (f x)=f x):(l:List α)->df g (l.map f)=l.map f
 |[]=>rfl
 |x:: l=>by simp[df,h x,dl g f h l]
@[simp] theorem kf(g:Nat->Nat->Nat->Nat->Bool->AV)(l:List aT):cl g (strs l)=strs l:=by
 simp[strs,cl,dl g AV.str (fun _=>rfl) l]
@[simp] theorem HQ(g:Nat->Nat->Nat->Nat->Bool->AV)(l:List Int):cl g (ints l)=ints l:=by
 simp[ints,cl,dl g (AV.int .i64) (fun _=>rfl) l]
mutual
theorem Val.cl_av(g:Nat->Nat->Nat->Nat->Bool->AV):(v:Val)->cl g v.av=v.av
 |.mk k n ns vs=>by simp[Val.av,cl,df,sF g vs]
theorem sF(g:Nat->Nat->Nat->Nat->Bool->AV):(l:List Val)->df g (jm l)=jm l
 |[]=>rfl
 |v:: l=>by simp[jm,df,Val.cl_av g v,sF g l]
end
mutual
theorem Exp.cl_cells(g:Nat->Nat->Nat->Nat->Bool->AV):(e:Exp)->df g e.cells=e.cells
 |.mk o n s m ns es=>by simp[Exp.cells,cl,df,nV g es]
theorem nV(g:Nat->Nat->Nat->Nat->Bool->AV):(l:List Exp)->df g (gn l)=gn l
 |[]=>rfl
 |e:: l=>by simp[gn,df,cl,Exp.cl_cells g e,nV g l]
end
mutual
theorem Ty.cl_cells(g:Nat->Nat->Nat->Nat->Bool->AV):(t:Ty)->df g t.cells=t.cells
 |.mk k fs=>by simp[Ty.cells,cl,df,lC g fs]
theorem lC(g:Nat->Nat->Nat->Nat->Bool->AV):(l:List (aT×Ty))->df g (eJ l)=eJ l
 |[]=>rfl
 |f:: l=>by simp[eJ,df,zM g f,lC g l]
theorem zM(g:Nat->Nat->Nat->Nat->Bool->AV):(f:aT×Ty)->cl g (bi f)=bi f
 |(n,t)=>by simp[bi,cl,df,Ty.cl_cells g t]
end
@[simp] theorem EH(g:Nat->Nat->Nat->Nat->Bool->AV)(v:Val):cl g v.av=v.av:=v.cl_av g
@[simp] theorem Bn(g:Nat->Nat->Nat->Nat->Bool->AV)(l:List Val):cl g (vals l)=vals l:=by simp[vals,cl,sF]
@[simp] theorem zr(g:Nat->Nat->Nat->Nat->Bool->AV)(e:Exp):cl g e.av=e.av:=by simp[Exp.av,cl,Exp.cl_cells]
@[simp] theorem Bj(g:Nat->Nat->Nat->Nat->Bool->AV)(l:List Exp):cl g (bp l)=bp l:=by simp[bp,cl,nV]
@[simp] theorem Eg(g:Nat->Nat->Nat->Nat->Bool->AV)(t:Ty):cl g t.av=t.av:=by simp[Ty.av,cl,Ty.cl_cells]
@[simp] theorem ED(g:Nat->Nat->Nat->Nat->Bool->AV)(f:bI):cl g (bi f)=bi f:=zM g f
@[simp] theorem nU(g:Nat->Nat->Nat->Nat->Bool->AV)(l:List bI):cl g (aN l)=aN l:=by simp[aN,cl,lC]
theorem oD(g:Nat->Nat->Nat->Nat->Bool->AV):(a b:List AV)->df g (a++b)=df g a++df g b
 |[],b=>rfl
 |x:: a,b=>by simp[df,oD g a b]
@[simp] theorem zt(g:Nat->Nat->Nat->Nat->Bool->AV)(f:Fun):cl g f.av=f.av:=by
 simp[Fun.av,cl,df,oD,lC,Ty.cl_cells,Exp.cl_cells]
@[simp] theorem wz(g:Nat->Nat->Nat->Nat->Bool->AV)(l:List Fun):cl g (dK l)=dK l:=by simp[dK,cl,dl g Fun.av (zt g)]
@[simp] theorem de(g:Nat->Nat->Nat->Nat->Bool->AV)(m:Mod):cl g m.av=m.av:=by
 simp[Mod.av,cl,df,lC,nV,wz]
@[simp] theorem HR(g:Nat->Nat->Nat->Nat->Bool->AV)(l:List Mod):cl g (Fz l)=Fz l:=by simp[Fz,cl,dl g Mod.av (de g)]
@[simp] theorem EF(g:Nat->Nat->Nat->Nat->Bool->AV)(k:IntKind)(n:Int):cl g (.int k n)= .int k n:=rfl
@[simp] theorem HP(g:Nat->Nat->Nat->Nat->Bool->AV)(b:Bool):cl g (.bool b)= .bool b:=rfl
@[simp] theorem uL(g:Nat->Nat->Nat->Nat->Bool->AV)(s:aT):cl g (.str s)= .str s:=rfl
@[simp] theorem Bo(g:Nat->Nat->Nat->Nat->Bool->AV)(v:Vars):cl g v.av=v.av:=by simp[Vars.av,cl,df]
@[simp] theorem Bi(g:Nat->Nat->Nat->Nat->Bool->AV)(v:Deed):cl g v.av=v.av:=by simp[Deed.av,cl,df]
@[simp] theorem Bh(g:Nat->Nat->Nat->Nat->Bool->AV)(v:Call):cl g v.av=v.av:=by simp[Call.av,cl,df]
@[simp] theorem GT(g:Nat->Nat->Nat->Nat->Bool->AV)(l:List Vars):cl g (pU l)=pU l:=by simp[pU,cl,dl g Vars.av (Bo g)]
@[simp] theorem GQ(g:Nat->Nat->Nat->Nat->Bool->AV)(l:List Deed):cl g (deeds l)=deeds l:=by simp[deeds,cl,dl g Deed.av (Bi g)]
@[simp] theorem GP(g:Nat->Nat->Nat->Nat->Bool->AV)(l:List Call):cl g (calls l)=calls l:=by simp[calls,cl,dl g Call.av (Bh g)]
@[simp] theorem Iv(g:Nat->Nat->Nat->Nat->Bool->AV)(o:Out):cl g o.av=o.av:=by simp[Out.av,cl,df]
@[simp] theorem mZ(v:Vars):ab v.av=[.str v.module,vals v.values]:=rfl
@[simp] theorem mY(v:Deed):ab v.av=[.int .i64 v.effect,.int .i64 v.arg,.int .i64 v.answer]:=rfl
@[simp] theorem mX(v:Call):ab v.av=[.str v.module,.str v.func,vals v.args]:=rfl
@[simp] theorem om(o:Out):ab o.av=[.int .i64 o.err,.int .i64 o.value.kind,.int .i64 o.value.n,strs o.value.names,vals o.value.values,deeds o.deeds,calls o.calls,pU o.state]:=rfl
@[simp] theorem qJ(v:Vars):AV.agg [.str v.module,vals v.values]=v.av:=rfl
@[simp] theorem qH(v:Deed):AV.agg [.int .i64 v.effect,.int .i64 v.arg,.int .i64 v.answer]=v.av:=rfl
@[simp] theorem qG(v:Call):AV.agg [.str v.module,.str v.func,vals v.args]=v.av:=rfl
@[simp] theorem tk(o:Out):AV.agg [.int .i64 o.err,.int .i64 o.value.kind,.int .i64 o.value.n,strs o.value.names,vals o.value.values,deeds o.deeds,calls o.calls,pU o.state]=o.av:=rfl
@[simp] theorem Gf(v:Vars):cT v.av=some 2:=rfl
@[simp] theorem Gd(v:Deed):cT v.av=some 3:=rfl
@[simp] theorem Gc(v:Call):cT v.av=some 3:=rfl
@[simp] theorem Hm(v:Out):cT v.av=some 8:=rfl
@[simp] theorem qS(v:Vars):cz 2 v.av=true:=by simp[cz,bH,vals]
@[simp] theorem qR(v:Deed):cz 3 v.av=true:=by simp[cz,bH]
@[simp] theorem qQ(v:Call):cz 3 v.av=true:=by simp[cz,bH,vals]
@[simp] theorem tP(v:Out):cz 8 v.av=true:=by simp[cz,bH,vals,strs,deeds,calls,pU]
def Clean(a:AV):Prop:=∀g,cl g a=a
def Clean.frz{a:AV}(h:Clean a)(d:Nat)(hp:Hp):i4 d hp a=a:=by
 cases d with
 |zero=>exact h _
 |succ d=>exact h _
def ba{a:AV}(h:Clean a):aJ (M.pure a)=M.pure a:=by
 funext hp;simp only[aJ,M.pure,h.frz]
@[simp] theorem fH(b:Bool):aJ (M.pure (.bool b))=M.pure (.bool b):=ba fun _=>rfl
@[simp] theorem lH(k:IntKind)(n:Int):aJ (M.pure (.int k n))=M.pure (.int k n):=ba fun _=>rfl
@[simp] theorem G3(s:aT):aJ (M.pure (.str s))=M.pure (.str s):=ba fun _=>rfl
@[simp] theorem G4(v:Val):aJ (M.pure v.av)=M.pure v.av:=ba fun g=>EH g v
@[simp] theorem FV(v:List Val):aJ (M.pure (vals v))=M.pure (vals v):=ba fun g=>Bn g v
@[simp] theorem G0(v:Exp):aJ (M.pure v.av)=M.pure v.av:=ba fun g=>zr g v
@[simp] theorem G1(v:Fun):aJ (M.pure v.av)=M.pure v.av:=ba fun g=>zt g v
@[simp] theorem Ho(v:Val):cT v.av=some 4:=by rw[v.av_eq];rfl
@[simp] theorem Hi(e:Exp):cT e.av=some 6:=by rw[Exp.av,e.cells_eq];rfl
@[simp] theorem Hj(f:bI):cT (bi f)=some 3:=by rw[eB];rfl
@[simp] theorem HV(t:Ty):cT t.av=some 2:=by rw[Ty.av,t.cells_eq];rfl
@[simp] theorem Hk(f:Fun):cT f.av=some 12:=by simp[Fun.av,cT,Ty.cells_eq,Exp.cells_eq]
@[simp] theorem Hl(m:Mod):cT m.av=some 9:=rfl
@[simp] theorem pt(v:Val):cz 4 v.av=true:=by simp[cz,bH,strs,vals]
@[simp] theorem jX(e:Exp):cz 6 e.av=true:=by simp[cz,bH,strs,bp]
@[simp] theorem iF(f:bI):cz 3 (bi f)=true:=by simp[cz,bH,aN]
@[simp] theorem lQ(f:Fun):cz 12 f.av=true:=by simp[cz,bH,aN,strs,bp]
@[simp] theorem pq(m:Mod):cz 9 m.av=true:=by simp[cz,bH,aN,strs,bp,dK]
@[simp] theorem Ad(s:aT):cz 1 (.str s)=true:=rfl
@[simp] theorem Ab(k:IntKind)(n:Int):cz 1 (.int k n)=true:=rfl
def dz{α:Type}{sz:Nat}{f:α->AV}(h:∀x,cz sz (f x)=true)(l:List α):cO sz (l.map f)=true:=by simp[cO,h]
@[simp] theorem Ga(l:List aT):cO 1 (l.map AV.str)=true:=dz Ad l
@[simp] theorem F6(l:List Int):cO 1 (l.map (AV.int .i64))=true:=dz (Ab .i64) l
@[simp] theorem Gb(l:List Val):cO 4 (jm l)=true:=by rw[pT];exact dz pt l
@[simp] theorem FY(l:List Exp):cO 6 (gn l)=true:=by rw[fE];exact dz jX l
@[simp] theorem FZ(l:List bI):cO 3 (eJ l)=true:=by rw[eK];exact dz iF l
@[simp] theorem F5(l:List Fun):cO 12 (l.map Fun.av)=true:=dz lQ l
@[simp] theorem F7(l:List Mod):cO 9 (l.map Mod.av)=true:=dz pq l
def oT{T:TT}{t e:Nat}{ti ei:TI}(ht:T t=some ti)(hk:ti.kind= .slice e)(he:T e=some ei){α:Type}{f:α->AV}(hs:∀x,cT (f x)=some ei.size){l:List α}{i:Nat}{x:α}(h:l[i]? = some x):
  ak T t (.sl (l.map f)) (.int .i64 (i:Int))=some (.ip (ab (f x))):=by
 unfold ak;rw[ht];simp only[hk,he];rw[if_neg (by omega)];have:(l.map f)[(i:Int).toNat]? = some (f x):=by rw[JW,KZ,h];rfl
 rw[this];simp only;rw[JV (hs x)]
def bU{T:TT}{t e:Nat}{ti ei:TI}(ht:T t=some ti)(hk:ti.kind= .slice e)(he:T e=some ei){α:Type}[Inhabited α]{f:α->AV}(hs:∀x,cT (f x)=some ei.size){l:List α}{n:Int}(h0:0<=n)(h:n<(l.length:Int)):
  ak T t (.sl (l.map f)) (.int .i64 n)=some (.ip (ab (f l[n.toNat]!))):=by
 have hlt:n.toNat<l.length:=by omega
 have:=oT ht hk he hs (l:=l) (i:=n.toNat) (x:=l[n.toNat]!) (by rw[LG,Ka hlt];rfl)
 rw[show ((n.toNat:Nat):Int)=n by omega]at this;exact this
def fZ{T:TT}{t e:Nat}{ti ei:TI}(ht:T t=some ti)(hk:ti.kind= .slice e)(he:T e=some ei){α:Type}{f:α->AV}(hs:∀x,cz ei.size (f x)=true){a b:List α}(h:(a.length+b.length)*ei.bytes<=140737488355328)(h0:0<ei.bytes):
  ca T t (.sl (a.map f)) (.sl (b.map f))=some (.sl ((a++b).map f)):=by
 unfold ca;rw[ht];simp only[hk,he,jp];rw[dz hs,dz hs];simp[h,h0,mc]
def gy(l:List Ty):AV:=.sl (l.map Ty.av)
structure Sig where
 name:aT
 params:List Ty
 result:Ty
 effects:Int
 deriving Inhabited
structure Face where
 module:aT
 funcs:List Sig
 deriving Inhabited
structure Vsn where
 major:Int
 minor:Int
 patch:Int
 deriving Inhabited,DecidableEq
def Sig.cells(s:Sig):List AV:=[.str s.name,gy s.params,.int .i64 s.result.kind,aN s.result.fields,.int .i64 s.effects]
def Sig.av(s:Sig):AV:=.agg s.cells
def sigs(l:List Sig):AV:=.sl (l.map Sig.av)
def Face.cells(f:Face):List AV:=[.str f.module,sigs f.funcs]
def Face.av(f:Face):AV:=.agg f.cells
def faces(l:List Face):AV:=.sl (l.map Face.av)
def Vsn.av(v:Vsn):AV:=.agg [.int .i64 v.major,.int .i64 v.minor,.int .i64 v.patch]
@[simp] theorem gJ(s:Sig):ab s.av=[.str s.name,gy s.params,.int .i64 s.result.kind,aN s.result.fields,.int .i64 s.effects]:=rfl
@[simp] theorem jE(f:Face):ab f.av=[.str f.module,sigs f.funcs]:=rfl
@[simp] theorem Eu(v:Vsn):ab v.av=[.int .i64 v.major,.int .i64 v.minor,.int .i64 v.patch]:=rfl
@[simp] theorem tm(s:Sig):AV.agg [.str s.name,gy s.params,.int .i64 s.result.kind,aN s.result.fields,.int .i64 s.effects]=s.av:=rfl
@[simp] theorem qI(f:Face):AV.agg [.str f.module,sigs f.funcs]=f.av:=rfl
@[simp] theorem GX(v:Vsn):AV.agg [.int .i64 v.major,.int .i64 v.minor,.int .i64 v.patch]=v.av:=rfl
@[simp] theorem nY(t:Ty):cz 2 t.av=true:=by simp[cz,bH,aN]
@[simp] theorem Ha(l:List Ty):cO 2 (l.map Ty.av)=true:=dz nY l
@[simp] theorem Hn(s:Sig):cT s.av=some 5:=rfl
@[simp] theorem Ge(s:Face):cT s.av=some 2:=rfl
@[simp] theorem Hq(s:Vsn):cT s.av=some 3:=rfl
@[simp] theorem pr(s:Sig):cz 5 s.av=true:=by simp[cz,bH,aN,gy]
@[simp] theorem mJ(s:Face):cz 2 s.av=true:=by simp[cz,bH,sigs]
@[simp] theorem G9(s:Vsn):cz 3 s.av=true:=rfl
@[simp] theorem F9(l:List Sig):cO 5 (l.map Sig.av)=true:=dz pr l
@[simp] theorem FF(l:List Face):cO 2 (l.map Face.av)=true:=dz mJ l
@[simp] theorem zu(g:Nat->Nat->Nat->Nat->Bool->AV)(l:List Ty):cl g (gy l)=gy l:=by simp[gy,cl,dl g Ty.av (Eg g)]
@[simp] theorem uK(g:Nat->Nat->Nat->Nat->Bool->AV)(s:Sig):cl g s.av=s.av:=by unfold Sig.av Sig.cells;simp only[cl,df,zu,nU]
@[simp] theorem Bm(g:Nat->Nat->Nat->Nat->Bool->AV)(l:List Sig):cl g (sigs l)=sigs l:=by simp[sigs,cl,dl g Sig.av (uK g)]
@[simp] theorem rD(g:Nat->Nat->Nat->Nat->Bool->AV)(s:Face):cl g s.av=s.av:=by unfold Face.av Face.cells;simp only[cl,df,Bm]
@[simp] theorem ll(g:Nat->Nat->Nat->Nat->Bool->AV)(l:List Face):cl g (faces l)=faces l:=by simp[faces,cl,dl g Face.av (rD g)]
@[simp] theorem Iw(g:Nat->Nat->Nat->Nat->Bool->AV)(s:Vsn):cl g s.av=s.av:=by unfold Vsn.av;simp only[cl,df]
@[simp] theorem HS(v:Ty):aJ (M.pure v.av)=M.pure v.av:=ba fun g=>Eg g v
@[simp] theorem G2(v:Sig):aJ (M.pure v.av)=M.pure v.av:=ba fun g=>uK g v
@[simp] theorem FU(v:Face):aJ (M.pure v.av)=M.pure v.av:=ba fun g=>rD g v
end Go.Av.Ap
namespace Go.Av
open Go.Av.Ap
def gM:(FuncId->List AV->M AV)->List AV->M AV:=fun _ args=>match args with
 |[.hn,.int .i64 n]=>ai (bif decide (0<=n)&&decide (n<=1000000)then some (.sl [])else none)
 |_=>M.fail
end Go.Av
namespace Go.Av
variable [Dr]
open Go.RowKit Go.WideShapes Go.ChangeShapes
theorem Left.below{S S':aL}{β β':List bS}{w w':World}{h':Hp}(L:Left (cF [] []) S β w S' β' w' h'):Below w.heap.size w w':=
 ⟨L.gro.os,L.gro.tape,L.gro.out,L.gro.size,fun k hk=>(L.keep k hk (by rintro⟨l,_,_,h1,_⟩;simp at h1)).1⟩
def kH(W:World):aL:=fun b o=>W.cell? ⟨b,o,none⟩
omit [Dr]in
theorem A0(W:World):Wf (kH W) W:=fun _ _ _ h=>h
omit [Dr]in
theorem xT{W:World}(h:GOKw W):yA [] [] W:=⟨h,fun b _ ho=>by obtain⟨l,_,_,h1,_⟩:=ho;simp at h1⟩
theorem xZ{P:Program}{p:Pg}(G:GoodPg P p)(hO:dk p){f:FuncId}{args:List AV}{vs:List Value}{W:World}(hg:GOKw W)(hv:bw (kH W) [] args vs)(ht:af p f args []= .ok (.bool true) []):Calls P f vs.toArray W fun e W'=>e= .returned (.bool true)/\Below W.heap.size W W':=by
 have h:=(sV G hO f args [] (kH W) [] W vs (by rw[ht];simp) (xT hg) (A0 W) ⟨rfl,fun _=>.no,fun l cs hl=>by simp at hl⟩ hv).1;rw[ht]at h;refine h.mono fun e W' hp=>?_;obtain⟨S',β',v,rfl,hv,L,_⟩:=hp;simp only[VR]at hv;subst hv;exact⟨rfl,L.below⟩
section
variable {H:Type} {enc:TypeId×Value->H} {P:Program}
omit [Dr]in
theorem qk{f:Func}{s:ChangeSpec}{apart fresh handsOn again:Bool}{W W':World}{args:Array Value}{v:Value}{ds gs:List (DataW H)}{before pa pv:List MemPlace}(hW:DataW.Whole enc P f.params.toList s.vars apart W args.toList ds gs before)(hres:∀(b:Nat)(sp:Nat->Bool)(hd:Bool),DataW.TrodAll enc P W' b sp hd f.resultTypes.toList (v.resultList f.resultTypes.size) (s.fn H (ds++gs)).results [])(hargs:∀sp:Nat->Bool,(∀p∈before,sp p.block=true)->DataW.TrodAll enc P W' 0 sp true f.params.toList args.toList (s.fn H (ds++gs)).args pa)(hvars:∀sp:Nat->Bool,(∀p∈before,sp p.block=true)->DataW.TrodVars enc P W' sp s.vars (s.fn H (ds++gs)).vars pv)(hps:before=pa++pv)(hb:Below W.heap.size W W')(hok:∀(j:Nat)(t:TypeId)(r:Value),f.resultTypes[j]? = some t->(v.resultList f.resultTypes.size)[j]? = some r->Value.okWide P W' .any 0 t r):
  s.post enc P f apart fresh handsOn again W args v W':=by
 have hlt:∀p∈before,p.block<W.heap.size:=fun p hp=>hW.lt p hp;have hold:∀p∈before,(fun b=>decide (b<W.heap.size)) p.block=true:=fun p hp=>by simpa using hlt p hp
 refine⟨ds,gs,before,[],pa,pv,hW,hres _ _ _,hargs _ hold,hvars _ hold,World.keptBut_mono (fun p hp=>⟨hp,?_⟩) (hb.frame (· ∈before)),fun _=>?_⟩
 ·rw[hps,J3]at hp;exact Or.inr hp
 ·obtain⟨_,_,_,_,_,hz,hn⟩:=hW;refine⟨hok,_,_,([]++pa)++pv,⟨[]++pa,pv,trodAll_append (hargs _ (fun _ _=>rfl)) (hres _ _ _),hvars _ (fun _ _=>rfl),rfl,?_,?_⟩,?_⟩
  ·intro b off hp;have hin:MemPlace.cell b off∈before:=by rw[hps];simpa using hp
   rw[hb.frozen (hlt _ hin)];exact hz b off hin
  ·intro ha
   have:=hn ha
   rw[hps]at this;simpa using this
  ·intro p hp _;rw[hps];simpa using hp
end
end Go.Av
namespace Go.Av
variable [Dr]
theorem sZ{P:Program}{cx:Cx}{own:Option Nat}(hT:TOK P cx.T)(hC:cQ P cx.own cx.call)(hI:IsoCall cx){f:FuncId}{fn:Func}(hf:P.funcs[f]? = some fn)(hnt:cx.nt=fn.ntmps){E:List AV->Hp->R AV}(h0:∀h,E [] h= .ok (.sl []) h)(h1:∀e es h,cX cx (c9 0) fn own [.sl (e:: es)] h=E (e:: es) h)(h2:∀h,cX cx (c9 0) fn own [.hn] h= .ok (.sl []) h)(h3:∀l off h,cX cx (c9 0) fn own [.hs l off 0 1 false] h= .ok (.sl []) h){es:List AV}{h:Hp}{S:aL}{β:List bS}{w:World}{vs:List Value}(hr:E es h≠.fail)(hg:yA β h w)(hw:Wf S w)(hh:dV S β w h)(hv:bw S β [.sl es] vs):Calls P f vs.toArray w (gX own S β h w (E es h))/\fn.body.isSome=true:=by
 cases es with
 |cons e es=>
  rw[<- h1]at hr |-;exact gK hT hC hI 0 hf hnt hr hg hw hh hv
 | nil=>
  rw[h0];simp only[bw]at hv;obtain⟨v,_,rfl,hv,rfl⟩:=hv;have hv0:=hv;simp only[VR]at hv;obtain⟨a,cap,rfl,hc,hn,hq⟩:=hv;cases a with
  |none=>
   have hcap:=hn rfl;subst hcap;have hv2:bw S β [.hn] [.slice none ([]:List AV).length 0]:=by simp[bw,VR]
   have:=gK (own:=own) hT hC hI 0 hf hnt (args:=[.hn]) (h:=h) (by rw[h2];simp) hg hw hh hv2
   rw[h2]at this;exact this
  | some q=>
   obtain⟨hs,_⟩:=hq q rfl;have hX:dV S [(q.block,q.off+cap)] w [[]]:=⟨rfl,fun _=>.no,fun l cs hl hne=>by
    cases l with
    |zero=>simp at hl;exact absurd hl hne
    |succ l=>simp at hl⟩
   have hE:∀b,¬cF [(q.block,q.off+cap)] [[]] b:=by
    rintro b ⟨l,cs,n,k1,k2,_⟩;cases l with
    |zero=>simp at k1;exact k2 k1
    |succ l=>simp at k1
   have hv2:bw S [(q.block,q.off+cap)] [.hs 0 q.off 0 1 false] [.slice (some q) ([]:List AV).length cap]:=by
    simp only[bw,VR];rcases Ky cap with h0|h0
    ·subst h0;exact⟨_,_,rfl,.inr ⟨trivial,q,rfl⟩,rfl⟩
    ·have hq':q=⟨q.block,q.off,none⟩:=by
      have:=hs h0
      cases q;simp_all
     exact⟨_,_,rfl,.inl ⟨(q.block,q.off+cap),cap,rfl,(by show q.off+cap≠0;omega),by rw[<- hq'];rfl,Ki _,by simp⟩,rfl⟩
   have:=gK (own:=own) hT hC hI 0 hf hnt (args:=[.hs 0 q.off 0 1 false]) (h:=[[]]) (by rw[h3];simp) ⟨hg.1,fun b _=>hE b⟩ hw hX hv2
   rw[h3]at this;refine⟨this.1.mono fun en w' hp=>?_,this.2⟩;obtain⟨S',β',v,k1,k2,k3,k4⟩:=hp;obtain⟨S2,j1,j2,j3⟩:=wL hw hh hE k3;exact⟨S2,β,v,k1,j2 (.sl []) v k2,j1,fun sz hsz=>j3 sz v (k4 sz hsz)⟩
end Go.Av
namespace Go.Av
attribute [simp] aG am zk xz
@[simp] theorem ao{α:Type}(b:Bool)(x y:M α):ax (.bool b) x y=if b=true then x else y:=by cases b<;>rfl
def gv(b w:Bool)(y:AV):AV:=bif b== w then y else .tup []
@[simp] theorem I6(y:AV):gv false false y=y:=rfl
@[simp] theorem I9(y:AV):gv true true y=y:=rfl
@[simp] theorem I7(y:AV):gv false true y= .tup []:=rfl
@[simp] theorem I8(y:AV):gv true false y= .tup []:=rfl
@[simp high] theorem ci(b w:Bool)(y:AV):aA (.bool b) w 1 (M.pure [y])=M.pure [gv b w y]:=by cases b<;>cases w<;>rfl
@[simp high] theorem xU(b w c w2:Bool)(y:AV):aA (gv b w (.bool c)) w2 1 (M.pure [y])=M.pure [gv b w (gv c w2 y)]:=by cases b<;>cases w<;>cases c<;>cases w2<;>rfl
@[simp high] theorem xV(b w c e:Bool):aA (.bool b) w 1 (ae (ai (aM (gv b w (.bool c)) (.bool true) (gv b w (gv c false (.bool e))))) fun v=>M.pure [v])=M.pure [gv b w (.bool (c||e))]:=by
 cases b<;>cases w<;>cases c<;>rfl
@[simp high] theorem ER(b w c e:Bool):aA (.bool b) w 1 (ae (ai (aM (gv b w (.bool c)) (gv b w (gv c true (.bool e))) (.bool false))) fun v=>M.pure [v])=M.pure [gv b w (.bool (c&&e))]:=by
 cases b<;>cases w<;>cases c<;>rfl
@[simp high] theorem fJ(b c:Bool):aM (.bool b) (gv b true (.bool c)) (.bool false)=some (.bool (b&&c)):=by cases b<;>rfl
@[simp high] theorem py(b c:Bool):aM (.bool b) (.bool true) (gv b false (.bool c))=some (.bool (b||c)):=by cases b<;>rfl
@[simp] theorem BD(w:Bool)(n:Nat)(m:M (List AV)):aA (.bool !w) w n m=M.pure (List.replicate n (.tup [])):=by cases w<;>rfl
@[simp] theorem cy(w:Bool)(n:Nat)(m:M (List AV)):aA (.bool w) w n m=m:=by cases w<;>rfl
@[simp] theorem iz(n:Nat)(m:M (List AV)):aA (.bool false) true n m=M.pure (List.replicate n (.tup [])):=rfl
@[simp] theorem xW(n:Nat)(m:M (List AV)):aA (.bool true) false n m=M.pure (List.replicate n (.tup [])):=rfl
@[simp] theorem vo(w:Bool)(n:Nat)(m:M (List AV)):aA (.tup []) w n m=M.pure (List.replicate n (.tup [])):=rfl
@[simp] theorem dI(x y:AV):aM (.bool true) x y=some x:=rfl
@[simp] theorem cN(x y:AV):aM (.bool false) x y=some y:=rfl
@[simp] theorem az(x:AV)(l:List AV):nth (x:: l) 0=x:=rfl
@[simp] theorem aB(x:AV)(l:List AV)(n:Nat):nth (x:: l) (n+1)=nth l n:=rfl
@[simp] theorem oX{α:Type}(k:List AV->M α)(m:(List AV->M α)->M α):jn k m=m k:=rfl
@[simp] theorem cd{α:Type}(a:α):bz (M.pure a)=M.pure a:=rfl
@[simp] theorem cj(b:Bool):dO .not (.bool b)=some (.bool !b):=rfl
@[simp] theorem dn(l:List AV)(i:Nat):aD (.tup l) i=l[i]?:=rfl
@[simp] theorem Ek:True:=trivial
@[simp] theorem FA(l k:Nat):cK (.hp l k)=some (.hp l k):=rfl
@[simp] theorem FB(cs:List AV):cK (.ip cs)=some (.ip cs):=rfl
@[simp] theorem dD(s:List UInt8):ab (.str s)=[.str s]:=rfl
@[simp] theorem Es(k:IntKind)(n:Int):ab (.int k n)=[.int k n]:=rfl
@[simp] theorem ol(cs:List AV):ab (.agg cs)=cs:=rfl
@[simp] theorem aU(T:TT)(t:Nat)(a b:Int):aw T .add t (.int .i64 a) (.int .i64 b)=some (.int .i64 (IntKind.i64.wrap (a+b))):=rfl
@[simp] theorem A7(T:TT)(t:Nat)(a b:Int):aw T .sub t (.int .i64 a) (.int .i64 b)=some (.int .i64 (IntKind.i64.wrap (a-b))):=rfl
@[simp] theorem HN(T:TT)(t:Nat)(a b:Int):aw T .mul t (.int .i64 a) (.int .i64 b)=some (.int .i64 (IntKind.i64.wrap (a*b))):=rfl
@[simp] theorem aF(T:TT)(t:Nat)(a b:Int):aw T .lss t (.int .i64 a) (.int .i64 b)=some (.bool (decide (a<b))):=rfl
@[simp] theorem iS(T:TT)(t:Nat)(a b:Int):aw T .leq t (.int .i64 a) (.int .i64 b)=some (.bool (decide (a<=b))):=rfl
@[simp] theorem HM(T:TT)(t:Nat)(a b:Int):aw T .gtr t (.int .i64 a) (.int .i64 b)=some (.bool (decide (b<a))):=rfl
@[simp] theorem rA(T:TT)(t:Nat)(a b:Int):aw T .geq t (.int .i64 a) (.int .i64 b)=some (.bool (decide (b<=a))):=rfl
@[simp] theorem gz(T:TT)(t:Nat)(a b:Int):aw T .eql t (.int .i64 a) (.int .i64 b)=some (.bool (a== b)):=rfl
@[simp] theorem iT(T:TT)(t:Nat)(a b:Int):aw T .neq t (.int .i64 a) (.int .i64 b)=some (.bool (a != b)):=rfl
@[simp] theorem xg(T:TT)(t:Nat)(a b:List UInt8):aw T .eql t (.str a) (.str b)=some (.bool (a== b)):=rfl
@[simp] theorem sy(T:TT)(t:Nat)(a b:List UInt8):aw T .neq t (.str a) (.str b)=some (.bool !(a== b)):=rfl
@[simp] theorem HZ(T:TT)(t:Nat)(a b:List UInt8):aw T .lss t (.str a) (.str b)=some (.bool (dT a b)):=rfl
@[simp] theorem HY(T:TT)(t:Nat)(a b:List UInt8):aw T .geq t (.str a) (.str b)=some (.bool !(dT a b)):=rfl
@[simp] theorem cf{n:Nat}{x:AV}(h:cz n x=true):aO n x=M.pure (.agg (ab x)):=by
 unfold aO iV;rw[h];rfl
@[simp] theorem bB{n:Nat}{x:AV}(h:cz n x=true):aH n [] x=M.pure (.agg (ab x)):=by
 unfold aH iV;rw[h];rfl
@[simp] theorem FW(b:Bool)(x:AV):jr b [x]=some x:=by simp[jr]
@[simp] theorem FX(b:Bool)(a c:Int):jr b [.int .i64 a,.int .i64 c]=some (.int .i64 (if b=true then max a c else min a c)):=by
 cases b
 ·simp only[jr,zZ,JX];congr 2;simp only[Int.min_def];split<;>split<;>simp_all<;>omega
 ·simp only[jr,zZ,JM];congr 2;simp only[Int.max_def];split<;>split<;>simp_all<;>omega
def bE{x:Int}(h1:-9223372036854775808<=x)(h2:x<=9223372036854775807):IntKind.i64.wrap x=x:=IntWalk.i64_in _ ⟨h1,h2⟩
def AM{n:Nat}(h:n<=4611686018427387904):IntKind.i64.wrap (n:Int)=(n:Int):=IntWalk.i64_in _ (by omega)
def aS{n:Nat}(h:n<=4611686018427387904):IntKind.i64.wrap ((n:Int)+1)=((n+1:Nat):Int):=by
 rw[IntWalk.i64_in _ (by omega)];omega
def rk{n:Nat}(h:n<=4611686018427387904):IntKind.i64.wrap (((n+1:Nat):Int)-1)=(n:Int):=by
 rw[IntWalk.i64_in _ (by omega)];omega
namespace Ap
mutual
def Val.sz:Val->Nat
 |.mk _ _ ns vs=>1+ns.length+AL vs
def AL:List Val->Nat
 |[]=>0
 |v:: vs=>v.sz+AL vs
end
end Ap
end Go.Av
namespace Go.Av
def be{α:Type}(F:α->Bool):List α->Int->Int
 |[],_=>-1
 |x:: l,i=>if F x=true then i else be F l (i+1)
theorem tt{α:Type}(F:α->Bool):(l:List α)->(i:Int)->0<=i->(0<=be F l i↔l.any F=true)
 |[],i,_=>by simp[be]
 |x:: l,i,h=>by
  simp only[be];split
  ·rename_i hx;simp[hx,h]
  ·rename_i hx;rw[tt F l (i+1) (by omega)];simp[hx]
def mA{α:Type}(F:α->Bool)(l:List α):decide (0<=be F l 0)=l.any F:=by
 have:=tt F l 0 (by omega)
 cases h:l.any F with
 |true=>simp[this.2 h]
 |false=>simp only[LD];intro hh;rw[this.1 hh]at h;cases h
@[simp] theorem El(a b:Nat):((a:Int)== (b:Int))=(a== b):=by rw[KU];simp;omega
@[simp] theorem B5(a:Nat):((a:Int)== 0)=(a== 0):=by rw[KU];simp
@[simp] theorem Em(a b:Nat):((a:Int) != (b:Int))=(a != b):=by rw[KU];simp;omega
def bF{α β:Type}(F:α->β->Bool):List α->List β->Bool
 |x:: l,y:: r=>F x y&&bF F l r
 |[],[]=>true
 |_,_=>false
def gD{α β:Type}(F:α->β->Bool)(a:List α)(b:List β)(i:Nat)(h1:i<a.length)(h2:i<b.length):bF F (a.drop i) (b.drop i)=(F a[i] b[i]&&bF F (a.drop (i+1)) (b.drop (i+1))):=by
 rw[JS h1,JS h2];rfl
theorem dX{α β:Type}(F:α->β->Bool):(a:List α)->(b:List β)->a.length≠b.length->bF F a b=false
 |[],[],h=>absurd rfl h
 |[],_:: _,_=>rfl
 |_:: _,[],_=>rfl
 |x:: a,y:: b,h=>by
  have:=dX F a b (by simpa using h)
  simp[bF,this]
end Go.Av
namespace Go.Av
open Ap
@[simp high] theorem EC(x:Val):aO 4 (Val.av x)=M.pure (Val.av x):=by rw[cf (pt x),oo,tn]
@[simp high] theorem Be(x:Val):aH 4 [] (Val.av x)=M.pure (Val.av x):=by rw[bB (pt x),oo,tn]
@[simp high] theorem Ez(x:Exp):aO 6 (Exp.av x)=M.pure (Exp.av x):=by rw[cf (jX x),cn,eC]
@[simp high] theorem Ba(x:Exp):aH 6 [] (Exp.av x)=M.pure (Exp.av x):=by rw[bB (jX x),cn,eC]
@[simp high] theorem ow(x:bI):aO 3 (bi x)=M.pure (bi x):=by rw[cf (iF x),eG,jN]
@[simp high] theorem Bb(x:bI):aH 3 [] (bi x)=M.pure (bi x):=by rw[bB (iF x),eG,jN]
@[simp high] theorem EA(x:Fun):aO 12 (Fun.av x)=M.pure (Fun.av x):=by rw[cf (lQ x),iP,lD]
@[simp high] theorem Bc(x:Fun):aH 12 [] (Fun.av x)=M.pure (Fun.av x):=by rw[bB (lQ x),iP,lD]
@[simp high] theorem oz(x:Mod):aO 9 (Mod.av x)=M.pure (Mod.av x):=by rw[cf (pq x),bo,tj]
@[simp high] theorem d7(x:Mod):aH 9 [] (Mod.av x)=M.pure (Mod.av x):=by rw[bB (pq x),bo,tj]
@[simp high] theorem Ef(x:Vars):aO 2 (Vars.av x)=M.pure (Vars.av x):=by rw[cf (qS x),mZ,qJ]
@[simp high] theorem AS(x:Vars):aH 2 [] (Vars.av x)=M.pure (Vars.av x):=by rw[bB (qS x),mZ,qJ]
@[simp high] theorem Ee(x:Deed):aO 3 (Deed.av x)=M.pure (Deed.av x):=by rw[cf (qR x),mY,qH]
@[simp high] theorem AR(x:Deed):aH 3 [] (Deed.av x)=M.pure (Deed.av x):=by rw[bB (qR x),mY,qH]
@[simp high] theorem Ed(x:Ap.Call):aO 3 (Ap.Call.av x)=M.pure (Ap.Call.av x):=by rw[cf (qQ x),mX,qG]
@[simp high] theorem AQ(x:Ap.Call):aH 3 [] (Ap.Call.av x)=M.pure (Ap.Call.av x):=by rw[bB (qQ x),mX,qG]
@[simp high] theorem EB(x:Ap.Out):aO 8 (Ap.Out.av x)=M.pure (Ap.Out.av x):=by rw[cf (tP x),om,tk]
@[simp high] theorem Bd(x:Ap.Out):aH 8 [] (Ap.Out.av x)=M.pure (Ap.Out.av x):=by rw[bB (tP x),om,tk]
@[simp] theorem nY(t:Ty):cz 2 t.av=true:=by simp[cz,bH,aN]
@[simp high] theorem iu(x:Ty):aO 2 (Ty.av x)=M.pure (Ty.av x):=by rw[cf (nY x),eQ,ff]
@[simp high] theorem sW(x:Ty):aH 2 [] (Ty.av x)=M.pure (Ty.av x):=by rw[bB (nY x),eQ,ff]
end Go.Av
namespace Go.Av
@[simp] theorem AU(c:Prop)[Decidable c](a b:Bool):(if c then(M.pure (.bool a):M AV)else M.pure (.bool b))=M.pure (.bool (if c then a else b)):=by split<;>rfl
@[simp] theorem BJ(c:Prop)[Decidable c](a b:Int):(if c then(M.pure (.int .i64 a):M AV)else M.pure (.int .i64 b))=M.pure (.int .i64 (if c then a else b)):=by split<;>rfl
def wG{F:(List AV->M AV)->List AV->M AV}(hF:∀vs,aj F vs=F (aj F) vs)(st:Nat->List AV)(n:Nat)(G:Nat->Bool)(hend:F (aj F) (st n)=M.pure (.bool true))(hstep:∀k,k<n->F (aj F) (st k)=if G k=true then aj F (st (k+1))else M.pure (.bool false)):
  ∀k,k<=n->aj F (st k)=M.pure (.bool ((List.range' k (n-k)).all G)):=by
 have key:∀r k,n-k=r->k<=n->aj F (st k)=M.pure (.bool ((List.range' k r).all G)):=by
  intro r
  induction r with
  |zero=>
   intro k hr hk;obtain rfl:k=n:=by omega
   rw[hF,hend];rfl
  |succ r ih=>
   intro k hr hk;rw[hF,hstep k (by omega),ih (k+1) (by omega) (by omega)];simp only[Mr,La];cases G k<;>rfl
 exact fun k hk=>key (n-k) k rfl hk
def uA{α:Type}[Inhabited α](P:α->Bool)(l:List α):(List.range' 0 l.length).all (fun k=>P l[k]!)=l.all P:=by
 rw[KU];simp only[J6,List.mem_range'_1];constructor
 ·intro h x hx;obtain⟨i,hi,rfl⟩:=List.getElem_of_mem hx
  have:=h i ⟨Ki _,by omega⟩
  rwa [J1 l i hi]at this
 ·intro h k hk;have hk':k<l.length:=by omega
  rw[J1 l k hk'];exact h _ (JP hk')
end Go.Av
namespace Go.Av.Ap
open Go Go.Av
def Val.limN:Nat->Val->Prop
 |0,_=>True
 |n+1,v=>v.names.length<=140737488355328/\v.values.length<=140737488355328/\∀x∈v.values,x.limN n
def Val.Lim(v:Val):Prop:=∀n,v.limN n
def Exp.limN:Nat->Exp->Prop
 |0,_=>True
 |n+1,v=>v.names.length<=8796093022208/\v.args.length<=140737488355328/\∀x∈v.args,x.limN n
def Exp.Lim(v:Exp):Prop:=∀n,v.limN n
def Ty.limN:Nat->Ty->Prop
 |0,_=>True
 |n+1,v=>v.fields.length<=140737488355328/\∀x∈v.fields,x.2.limN n
def Ty.Lim(v:Ty):Prop:=∀n,v.limN n
def Val.Lim.names{v:Val}(h:v.Lim):v.names.length<=140737488355328:=(h 1).1
def Val.Lim.len{v:Val}(h:v.Lim):v.values.length<=140737488355328:=(h 1).2.1
def Val.Lim.kid{v:Val}(h:v.Lim){x:Val}(hx:x∈v.values):x.Lim:=fun n=>(h (n+1)).2.2 x hx
def Exp.Lim.names{v:Exp}(h:v.Lim):v.names.length<=8796093022208:=(h 1).1
def Exp.Lim.len{v:Exp}(h:v.Lim):v.args.length<=140737488355328:=(h 1).2.1
def Exp.Lim.kid{v:Exp}(h:v.Lim){x:Exp}(hx:x∈v.args):x.Lim:=fun n=>(h (n+1)).2.2 x hx
def Ty.Lim.len{v:Ty}(h:v.Lim):v.fields.length<=140737488355328:=(h 1).1
def Ty.Lim.kid{v:Ty}(h:v.Lim){x:bI}(hx:x∈v.fields):x.2.Lim:=fun n=>(h (n+1)).2 x hx
structure Fun.Lim (f:Fun):Prop where
 params:f.params.length<=140737488355328
 pty:∀x∈f.params,x.2.Lim
 result:f.result.Lim
 body:f.body.Lim
structure Mod.Lim (m:Mod):Prop where
 uses:m.uses.length<=140737488355328
 vars:m.vars.length<=140737488355328
 vty:∀x∈m.vars,x.2.Lim
 init:m.init.length<=140737488355328
 ies:∀e∈m.init,e.Lim
 funcs:m.funcs.length<=140737488355328
 fns:∀f∈m.funcs,f.Lim
 old:m.old.length<=140737488355328
 oty:∀x∈m.old,x.2.Lim
 forward:m.forward.length<=140737488355328
 fes:∀e∈m.forward,e.Lim
 back:m.back.length<=140737488355328
 bes:∀e∈m.back,e.Lim
end Go.Av.Ap
namespace Go.Av.Ap
open Go Go.Av
section
variable {α:Type} {f:α->AV} {sz:Nat}
def rowOf(f:α->AV)(l:List α):List AV:=(l.map f).flatMap ab
theorem jh(x:α)(l:List α):rowOf f (x:: l)=ab (f x)++rowOf f l:=by simp[rowOf]
theorem mP(hs:∀x,(ab (f x)).length=sz):(l:List α)->(rowOf f l).length=l.length*sz
 |[]=>by simp[rowOf]
 |x:: l=>by rw[jh,JY,hs,mP hs l,Ke,Mp];omega
theorem nF(hs:∀x,(ab (f x)).length=sz):(l:List α)->(i:Nat)->(h:i<l.length)->((rowOf f l).drop (i*sz)).take sz=ab (f l[i])
 |x:: l,0,_=>by
  rw[jh,LJ,KG,List.take_left' (hs x)];rfl
 |x:: l,i+1,h=>by
  rw[jh,show (i+1)*sz=(ab (f x)).length+i*sz by rw[hs,Mp];omega,List.drop_append,JQ (by omega),ME,Kt];simpa using nF hs l i (by simpa using h)
theorem xQ(hs:∀x,(ab (f x)).length=sz)(hag:∀x,f x= .agg (ab (f x)))(hcl:∀x g,cl g (f x)=f x)(hz:0<sz){h:Hp}{q:Nat}{l:List α}(hq:h[q]? = some (rowOf f l))(d:Nat):
  i4 (d+1) h (.hs q 0 l.length sz true)= .sl (l.map f):=by
 have hlen:=mP (f:=f) hs l;simp only[i4,cl,hq];have h1:(decide (0+l.length*sz<=(rowOf f l).length)&&decide (0<sz)&&(true||(Nat.beq sz 1&&(rowOf f l).all bH)))=true:=by
  simp[hlen,hz]
 rw[h1,JM];congr 1;apply List.ext_getElem
 ·simp
 ·intro i h2 h3;have hi:i<l.length:=by simpa using h2
  simp only[List.getElem_map,List.getElem_range,Ko,JM];rw[nF hs l i hi,<- hag];cases d with
  |zero=>exact hcl _ _
  |succ d=>exact hcl _ _
end
end Go.Av.Ap
namespace Go.Av.Ap
open Go Go.Av
def nX(b:UInt8):Bool:=decide (97<=b.toNat)&&decide (b.toNat<=122)
def uO(b:UInt8):Bool:=decide (48<=b.toNat)&&decide (b.toNat<=57)
def ot(b:UInt8):Bool:=nX b||uO b
def nM(s:aT):Bool:=!(s== [])&&nX (s.headD 0)&&decide (s.length<=20)&&((s.takeWhile ot).length== s.length)
def kp:aT:=[32,97,110,100,32,98,97,99,107,32,98,111,111,108,32,99,108,111,99,107,32,101,108,115,101,32,102,97,108,115,101,32,102,105,108,101,115,32,102,110,32,102,111,114,119,97,114,100,32,103,101,116,32,105,102,32,105,110,32,105,110,116,32,108,101,116,32,109,111,100,117,108,101,32,109,111,118,101,32,110,101,116,32,110,111,116,32,111,114,32,112,117,98,32,115,101,99,114,101,116,115,32,115,101,116,32,116,104,101,110,32,116,114,117,101,32,117,115,101,32,118,97,114,32]
def cJ(s:aT):Bool:=nM s&&!(Lib.contains kp ([32]++s++[32]))
def yz{s:aT}(h:nM s=true):s.length<=20:=by
 unfold nM at h;simp only[JN,Kj]at h;exact h.1.2
def eH(p f:aT):Bool:=!(dT f p||f== p)
def mj{α:Type}(Q:α->α->Bool):List α->Bool
 |x:: y:: r=>Q x y&&mj Q (y:: r)
 |_=>true
theorem sR{α:Type}[Inhabited α](Q:α->α->Bool):(l:List α)->(mj Q l=true↔∀k,k+1<l.length->Q l[k]! l[k+1]! = true)
 |[]=>by simp[mj]
 |[x]=>by simp[mj]
 | x:: y:: r=>by
  simp only[mj,JN,sR Q (y:: r)];constructor
  ·rintro⟨h1,h2⟩ k hk;cases k with
   |zero=>simpa using h1
   |succ k=>simpa using h2 k (by simpa using hk)
  ·intro h;refine⟨by simpa using h 0 (by simp),fun k hk=>?_⟩;simpa using h (k+1) (by simpa using hk)
def wv{α:Type}[Inhabited α](P:α->Bool)(Q:α->α->Bool)(l:List α):(List.range' 0 l.length).all (fun k=>P l[k]! && (decide (k=0)||Q l[k-1]! l[k]!))=(l.all P&&mj Q l):=by
 rw[KU,JN,<- uA P l,sR];simp only[J6,List.mem_range'_1,JN,Li,Kj];constructor
 ·intro h;refine⟨fun k hk=>(h k hk).1,fun k hk=>?_⟩
  have:=(h (k+1) ⟨Ki _,by omega⟩).2
  rcases this with h0|h1
  ·omega
  ·simpa using h1
 ·rintro⟨h1,h2⟩ k hk;refine⟨h1 k hk,?_⟩;cases k with
  |zero=>exact .inl rfl
  |succ k=>exact .inr (by simpa using h2 k (by omega))
def dA:Nat->Ty->Bool
 |0,_=>false
 |d+1,t=>decide (0<=t.kind)&&decide (t.kind<3)&&decide (t.fields.length<=8)&&(t.kind== 2||t.fields.length== 0)&&(t.fields.all (fun f=>cJ f.1&&dA d f.2)&&mj (fun a b=>eH a.1 b.1) t.fields)
theorem j9(d:Nat)(t:Ty):dA (d+1) t=(decide (0<=t.kind)&&decide (t.kind<3)&&decide (t.fields.length<=8)&&(t.kind== 2||t.fields.length== 0)&&(t.fields.all (fun f=>cJ f.1&&dA d f.2)&&mj (fun a b=>eH a.1 b.1) t.fields)):=rfl
abbrev bX(t:Ty):Bool:=dA 4 t
mutual
def ry:Ty->Ty->Bool
 |.mk k fs,a=>a.kind== k&&nT fs a.fields
def nT:List (aT×Ty)->List bI->Bool
 |[],_=>true
 |f:: fs,l=>uF f l&&nT fs l
def uF:aT×Ty->List bI->Bool
 |(n,t),l=>match bN (fun z=>z.1== n) l with
  |some z=>ry t z.2
  |none=>false
end
def cu(a b:Ty):Bool:=ry b a
theorem m6:(fs:List bI)->(l:List bI)->nT fs l=fs.all fun f=>uF f l
 |[],_=>rfl
 |f:: fs,l=>by simp[nT,m6 fs l]
def xw(a b:Ty):cu a b=(a.kind== b.kind&&b.fields.all fun f=>match bN (fun z=>z.1== f.1) a.fields with|some z=>cu z.2 f.2|none=>false):=by
 cases b with
 |mk k fs=>
  show ry (.mk k fs) a=_;simp only[ry,m6,Ty.kind,Ty.fields];congr 2;funext f;obtain⟨n,t⟩:=f;simp only[uF,cu]
def fV(a b:Int):Int:=IntKind.i64.wrap (BitVec.ofInt 64 a &&& ~~~ BitVec.ofInt 64 b).toNat
structure Sig.Lim (s:Sig):Prop where
 plen:s.params.length<=140737488355328
 ptys:∀t∈s.params,t.Lim
 result:s.result.Lim
structure Face.Lim (f:Face):Prop where
 len:f.funcs.length<=140737488355328
 sigs:∀s∈f.funcs,s.Lim
@[simp] theorem oA(x:Sig):aO 5 x.av=M.pure x.av:=by rw[cf (pr x),gJ,tm]
@[simp] theorem rC(x:Sig):aH 5 [] x.av=M.pure x.av:=by rw[bB (pr x),gJ,tm]
end Go.Av.Ap
namespace Go.Av
open Go.RowKit
section
variable {H:Type} {enc:TypeId×Value->H} {P:Program} {w w':World}
theorem kC{base:Nat}{spare:Nat->Bool}{held:Bool}:∀ {ts:List TypeId} {vs:List Value} {ds:List (DataW H)} {ps:List MemPlace},DataW.TrodAll enc P w base spare held ts vs ds ps->(∀p∈ps,w.sameAt w' p)->DataW.TrodAll enc P w' base spare held ts vs ds ps
 |[],[],[],_,h,_=>h
 |_:: _,_:: _,_:: _,_,⟨p,q,⟨n,h1⟩,h2,e⟩,hs=>⟨p,q,⟨n,DataW.trod_carry n _ _ _ h1 (fun x hx=>hs x (by rw[e];exact Kl _ hx))⟩,kC h2 (fun x hx=>hs x (by rw[e];exact J7 _ hx)),e⟩
theorem sg(hb:Below w.heap.size w w'){p:MemPlace}(hp:p.block<w.heap.size):w.sameAt w' p:=by
 cases p with
 |cell b off=>
  have:=hb.block b hp
  show w'.cell? ⟨b,off,none⟩=w.cell? ⟨b,off,none⟩;simp only[World.cell?,this]
 |map b=>exact hb.block b hp
theorem uC{T:TypeId->Prop}(K:Kids P T)(hz:∀t e,T t->P.underlying t=some (.slice e)->0<P.cellsOf e){ts:List TypeId}{vs:List Value}{ds:List (DataW H)}{ps:List MemPlace}(hT:∀t∈ts,T t)(h:DataW.TrodAll enc P w 0 (fun _=>true) true ts vs ds ps)(hlt:∀p∈ps,p.block<w.heap.size)(hb:Below w.heap.size w w')(sp:Nat->Bool)(hsp:∀p∈ps,sp p.block=true):DataW.TrodAll enc P w' 0 sp true ts vs ds ps:=
 (kC h fun p hp=>sg hb (hlt p hp)).respare K hz hT hsp
end
theorem wO{α:Type}(Q:Nat->α->Prop):∀n,(∀i,i<n->∃x,Q i x)->∃l:List α,l.length=n/\∀i x,l[i]? = some x->Q i x
 |0,_=>⟨[],rfl,fun i x h=>by simp at h⟩
 | n+1,h=>by
  obtain⟨l,h1,h2⟩:=wO Q n fun i hi=>h i (by omega);obtain⟨y,hy⟩:=h n (by omega);refine⟨l++[y],by simp[h1],fun i x hx=>?_⟩;by_cases hi:i<n
  ·rw[Kb (by omega)]at hx;exact h2 i x hx
  ·rw[Km (by omega)]at hx;have hin:i-l.length=0:=by
    rcases Ky (i-l.length)with h|h
    ·exact h
    ·rw[J5 (by simp;omega)]at hx;cases hx
   rw[hin]at hx;simp only[Kd,JK]at hx;subst hx;obtain rfl:i=n:=by omega
   exact hy
end Go.Av
namespace Go.Av
open Go.RowKit Go.WideShapes Go.ChangeShapes
section
variable {H:Type} (enc:TypeId×Value->H) (P:Program) (W:World)
def Rd{α:Type}(N:Nat)(t:TypeId)(cells:α->List AV)(Ok:α->Prop):Prop:=∀(base:Nat)(held:Bool)(n:Nat),n<N->∀(cs:List Value)(x:DataW H×List MemPlace),DataW.trod enc P W base (fun _=>true) held n t cs=some x->(∀k∈x.1.weights P t,k<=reachBytes)->∃a:α,bw (kH W) [] (cells a) cs/\Ok a
def AZ{α:Type}(N:Nat)(tot:Nat)(o:Nat)(fs:List Field)(cells:α->List AV)(Ok:α->Prop):Prop:=∀(base:Nat)(held:Bool)(n:Nat),n<N->∀(cs:List Value)(xs:List (DataW H×List MemPlace)),cs.length=tot->
 xs.length=fs.length->(∀(i:Nat)(f:Field),fs[i]? = some f->DataW.trod enc P W base (fun _=>true) held n f.type ((cs.drop f.offset).take (P.cellsOf f.type))=xs[i]?)->(∀k∈DataW.weightsEach P (fs.map (·.type)) (xs.map (·.1)),k<=reachBytes)->∃a:α,bw (kH W) [] (cells a) (cs.drop o)/\Ok a
variable {enc P W} {α β:Type} {N:Nat} {t:TypeId}
theorem Rd.zero{cells:α->List AV}{Ok:α->Prop}:Rd enc P W 0 t cells Ok:=fun _ _ n hn=>absurd hn (by omega)
theorem Rd.le{cells:α->List AV}{Ok:α->Prop}(h:Rd enc P W N t cells Ok){M:Nat}(hm:M<=N):Rd enc P W M t cells Ok:=fun b hd n hn=>h b hd n (by omega)
theorem Rd.map{cells:α->List AV}{Ok:α->Prop}(h:Rd enc P W N t cells Ok)(g:α->β){cells':β->List AV}{Ok':β->Prop}(hc:∀a,cells' (g a)=cells a)(ho:∀a,Ok a->Ok' (g a)):Rd enc P W N t cells' Ok':=by
 intro b hd n hn cs x hx hw;obtain⟨a,h1,h2⟩:=h b hd n hn cs x hx hw;exact⟨g a,by rw[hc];exact h1,ho a h2⟩
theorem wX(ht:P.underlying t=some .bool):Rd enc P W N t (fun b:Bool=>[.bool b]) (fun _=>True):=by
 intro b hd n hn cs x hx hw;obtain⟨b,rfl,_⟩:=DataW.trod_bool ht hx;exact⟨b,by simp[bw,VR],trivial⟩
theorem pC{k:IntKind}(ht:P.underlying t=some (.int k)):Rd enc P W N t (fun n:Int=>[.int k n]) (fun n=>(Lit.int k n).wf=true):=by
 intro b hd n hn cs x hx hw;obtain⟨b,rfl,_,hwf⟩:=DataW.trod_int ht hx;exact⟨b,by simp[bw,VR],hwf⟩
theorem j0(ht:P.underlying t=some .string):Rd enc P W N t (fun s:List UInt8=>[.str s]) (fun s=>s.length<=reachBytes):=by
 intro b hd n hn cs x hx hw;obtain⟨s,rfl,rfl,_⟩:=DataW.trod_string ht hx;exact⟨s.data.toList,by simp[bw,VR],hw _ (by simp[DataW.weights])⟩
def Eo(cells:α->List AV)(ev:α->AV)(sz:Nat):Prop:=∀(a:α)(S:aL)(β:List bS)(vs:List Value),bw S β (cells a) vs->vs.length=sz->∃v,VR S β (ev a) v/\v.cells.toList=vs
theorem gE{cells:α->List AV}{ev:α->AV}{sz:Nat}(he:∀a,ev a= .agg (cells a)):Eo cells ev sz:=fun a S β vs h hl=>⟨.agg vs.toArray,by rw[he];simp only[VR];exact⟨vs,rfl,h⟩,by simp[Value.cells]⟩
theorem zB{ev:α->AV}(ho:∀a,bH (ev a)=true):Eo (fun a=>[ev a]) ev 1:=fun a S β vs h hl=>by
 simp only[bw]at h;obtain⟨v,_,rfl,h,rfl⟩:=h;exact⟨v,h,by rw[(iE (ho a) h).1]⟩
theorem kc{e:TypeId}:∀ {l:List (DataW H)} {d:DataW H},d∈l->∀k∈d.weights P e,k∈DataW.weightsAll P e l
 |x:: l,d,hd,k,hk=>by
  simp only[DataW.weightsAll,J3];rcases Kc.1 hd with rfl|hd
  ·exact .inl hk
  ·exact .inr (kc hd k hk)
theorem gS{e:TypeId}{cells:α->List AV}{Ok:α->Prop}(h:Rd enc P W N e cells Ok)(ht:P.underlying t=some (.slice e)){sz by_:Nat}(hsz:P.cellsOf e=sz)(h0:0<sz)(hby:P.bytesOf e=by_){ev:α->AV}(hev:Eo cells ev sz):
  Rd enc P W N t (fun l:List α=>[.sl (l.map ev)]) (fun l=>l.length*by_<=reachBytes/\∀a∈l,Ok a):=by
 intro base hd n hn cs x hx hw;rcases DataW.trod_slice ht hx with⟨rfl,rfl⟩|⟨a,len,cap,elems,rest,m,rfl,rfl,rfl,hb,hle,hm,hlen,hel,hsp,_⟩
 ·exact⟨[],by simp only[bw,Mt,VR];exact⟨_,_,rfl,⟨none,0,rfl,JO _,fun _=>rfl,fun q hq=>by cases hq⟩,rfl⟩,by simp,fun a ha=>by cases ha⟩
 obtain⟨hrl,hre⟩:=hsp rfl;rw[hsz]at hel hre;simp only[DataW.weights,ht,Kc,J3,hby]at hw;have hspot:0<cap->a.spot=none:=by
  intro hc;have:∃y,(W.cells? base (a.add 0) sz).bind (DataW.trod enc P W base (fun _=>true) hd m e)=some y:=by
   by_cases h1:0<len
   ·have:=hel 0 h1
    rw[Ka (by omega)]at this;exact⟨_,by simpa using this⟩
   ·have:=hre 0 (by omega)
    rw[Ka (by omega)]at this;obtain rfl:len=0:=by omega
    exact⟨_,by simpa using this⟩
  obtain⟨y,hy⟩:=this;obtain⟨cs,hcs,_⟩:=MG.1 hy;obtain⟨_,hl,hc⟩:=World.cells?_some hcs;have h2:=hc 0 h0;rw[Ka (by omega)]at h2;have h3:=World.cell?_spot h2;have e:(a.add 0).add 0=a:=by unfold Addr.add;simp
  rwa [e]at h3
 have hx:∀i,i<len->∃y:α,(∃v,VR (kH W) [] (ev y) v/\v.cells.size=sz/\e9 (kH W) a.block (a.off+i*sz) v.cells.toList)/\Ok y:=by
  intro i hi;have h1:=hel i hi;rw[Ka (by omega)]at h1;obtain⟨cs,hcs,htr⟩:=MG.1 h1;obtain⟨y,hy,hok⟩:=h base hd m (by omega) cs _ htr (fun k hk=>hw k (.inr (.inl (kc (Kq.2 ⟨_,JP _,rfl⟩) k hk))));obtain⟨_,hl,hc⟩:=World.cells?_some hcs;obtain⟨v,hv,hvc⟩:=hev y _ _ cs hy hl;refine⟨y,⟨v,hv,by rw[<- KY,hvc,hl],fun j u hj=>?_⟩,hok⟩;rw[hvc]at hj;have hjl:j<sz:=by
   rcases Kh j cs.length with h|h
   ·omega
   ·rw[J5 h]at hj;cases hj
  have h2:=hc j hjl;rw[hj]at h2;unfold kH;have hs:=hspot (by omega);have e:(a.add (i*sz)).add j=⟨a.block,a.off+i*sz+j,none⟩:=by
   obtain⟨b,o,s⟩:=a;simp only at hs;subst hs;rw[add_plain,add_plain]
  rw[<- e];exact h2
 obtain⟨l,hl1,hl2⟩:=wO (fun i y=>(∃v,VR (kH W) [] (ev y) v/\v.cells.size=sz/\e9 (kH W) a.block (a.off+i*sz) v.cells.toList)/\Ok y) len hx;refine⟨l,?_,?_,fun y hy=>?_⟩
 ·simp only[bw,VR,KI];refine⟨_,_,rfl,⟨some a,cap,by rw[hl1],by omega,(fun e=>by cases e),fun q hq=>?_⟩,rfl⟩;cases hq;refine⟨hspot,sz,.of_get fun i e he=>?_⟩;rw[KZ,K0]at he;obtain⟨y,hy,rfl⟩:=he;exact (hl2 i y hy).1
 ·have:=hw _ (.inl rfl)
  simp only[KI]at this;have h3:=J9 by_ (show l.length<=elems.length+rest.length by omega);omega
 ·obtain⟨i,hi,e⟩:=List.getElem_of_mem hy;exact (hl2 i y (by rw[Ka hi,e])).2
theorem gh{tot:Nat}:AZ enc P W N tot tot [] (fun _:Unit=>[]) (fun _=>True):=fun base hd n hn cs xs hl _ _ _=>⟨(),by simp[bw,<- hl],trivial⟩
theorem bb{tot o k:Nat}{f:Field}{fs:List Field}{c1:α->List AV}{Ok1:α->Prop}{c2:β->List AV}{Ok2:β->Prop}(h1:Rd enc P W N f.type c1 Ok1)(ho:f.offset=o)(hk:P.cellsOf f.type=k)(h2:AZ enc P W N tot (o+k) fs c2 Ok2):
  AZ enc P W N tot o (f:: fs) (fun x:α×β=>c1 x.1++c2 x.2) (fun x=>Ok1 x.1/\Ok2 x.2):=by
 intro base hd n hn cs xs hl hx hf hw
 match xs,hx with
 |x:: xs,hx=>
  have hf0:=hf 0 f rfl;rw[ho,hk]at hf0;simp only[Ks,DataW.weightsEach,J3]at hw;obtain⟨a,ha,oa⟩:=h1 base hd n hn _ x hf0 fun k hk=>hw k (.inl hk);obtain⟨b,hb,ob⟩:=h2 base hd n hn cs xs hl (by simpa using hx) (fun i g hg=>by simpa using hf (i+1) g (by simpa using hg)) fun k hk=>hw k (.inr hk);refine⟨(a,b),?_,oa,ob⟩
  have:=ha.append hb
  rwa [<- List.drop_drop,List.take_append_drop]at this
theorem eW{fs:Array Field}{tot:Nat}{cells:α->List AV}{Ok:α->Prop}(ht:P.underlying t=some (.struct fs))(hc:P.cellsOf t=tot)(h:AZ enc P W N tot 0 fs.toList cells Ok):Rd enc P W (N+1) t cells Ok:=by
 intro base hd n hn cs x hx hw;obtain⟨xs,m,rfl,rfl,hl,hxs,hf⟩:=DataW.trod_struct ht hx;simp only[DataW.weights,ht]at hw;obtain⟨a,h1,h2⟩:=h base hd m (by omega) cs xs (by rw[hl,hc]) (by simpa using hxs) (fun i f hi=>hf i f (by simpa using hi)) hw;exact⟨a,by simpa using h1,h2⟩
theorem An{cells:α->List AV}{Ok:α->Prop}(h:∀N,Rd enc P W N t cells Ok){base:Nat}{held:Bool}{v:Value}{d:DataW H}{p:List MemPlace}(hd:DataW.Trod enc P W base (fun _=>true) held t v d p)(hw:∀k∈d.weights P t,k<=reachBytes):
  ∃a:α,bw (kH W) [] (cells a) v.cells.toList/\Ok a:=by
 obtain⟨n,hn⟩:=hd;exact h (n+1) base held n (by omega) _ _ hn hw
theorem Ch{f:α->AV}{Ok:α->Prop}(h:∀N,Rd enc P W N t (fun a=>[f a]) Ok){base:Nat}{held:Bool}{v:Value}{d:DataW H}{p:List MemPlace}(hv:v.cells.toList=[v])(hd:DataW.Trod enc P W base (fun _=>true) held t v d p)(hw:∀k∈d.weights P t,k<=reachBytes):
  ∃a:α,VR (kH W) [] (f a) v/\Ok a:=by
 obtain⟨a,h1,h2⟩:=An h hd hw;rw[hv]at h1;simp only[bw]at h1;obtain⟨y,ys,e,h1,rfl⟩:=h1;cases e;exact⟨a,h1,h2⟩
theorem xv{e:TypeId}{r:Reach}{b0:Nat}{f:α->AV}{Ok:α->Prop}(h:∀N,Rd enc P W N t (fun a=>[f a]) Ok)(ht:P.underlying t=some (.slice e)){base:Nat}{held:Bool}{v:Value}{d:DataW H}{p:List MemPlace}(hok:Value.okWide P W r b0 t v)(hd:DataW.Trod enc P W base (fun _=>true) held t v d p)(hw:∀k∈d.weights P t,k<=reachBytes):∃a:α,VR (kH W) [] (f a) v/\Ok a:=by
 obtain⟨a,len,cap,rfl⟩:=okWide_slice ht hok;exact Ch h rfl hd hw
theorem kI{fs:Array Field}{r:Reach}{b0:Nat}{f:α->AV}{Ok:α->Prop}{cells:α->List AV}(h:∀N,Rd enc P W N t cells Ok)(hf:∀a,f a= .agg (cells a))(ht:P.underlying t=some (.struct fs)){base:Nat}{held:Bool}{v:Value}{d:DataW H}{p:List MemPlace}(hok:Value.okWide P W r b0 t v)(hd:DataW.Trod enc P W base (fun _=>true) held t v d p)(hw:∀k∈d.weights P t,k<=reachBytes):∃a:α,VR (kH W) [] (f a) v/\Ok a:=by
 obtain⟨cs,rfl,_⟩:=okWide_struct ht hok;obtain⟨a,h1,h2⟩:=An h hd hw;refine⟨a,?_,h2⟩;rw[hf];simp only[VR];exact⟨cs.toList,by simp,h1⟩
theorem iZ{ts:List TypeId}{ds:List (DataW H)}(h:(DataW.weightsEach P ts ds).all (· <=reachBytes)=true){j:Nat}{u:TypeId}{d:DataW H}(ht:ts[j]? = some u)(hd:ds[j]? = some d):∀k∈d.weights P u,k<=reachBytes:=fun k hk=>by
 have:=J6.1 h _ (DataW.weights_mem_each ht hd k hk)
 simpa using this
end
end Go.Av
namespace Go.Av.Ap
structure Ms where
 fuel:Int
 frames:Int
 world:List Int
 deeds:List Deed
 calls:List Call
 state:List (List Val)
inductive Rs (α:Type) where
 |ok (a:α) (m:Ms)
 |er (e:Int) (m:Ms)
def X(α:Type):=Ms->Rs α
def X.ok{α:Type}(a:α):X α:=fun m=>.ok a m
def X.er{α:Type}(e:Int):X α:=fun m=>.er e m
def X.bind{α β:Type}(x:X α)(f:α->X β):X β:=fun m=>match x m with
 |.ok a m'=>f a m'
 |.er e m'=>.er e m'
def X.upd{α:Type}(f:Ms->Ms)(x:X α):X α:=fun m=>x (f m)
def X.get{α:Type}(f:Ms->X α):X α:=fun m=>f m m
def wr(n:Int):Int:=IntKind.i64.wrap n
mutual
def EV:Val->Nat
 |.mk _ _ _ vs=>wN vs+1
def wN:List Val->Nat
 |[]=>0
 |v:: vs=>max (EV v) (wN vs)
end
end Go.Av.Ap
namespace Go.Av.Ap
open Go Go.Av
def fe(e:Exp):Exp×Int:=
 if e.op=0\/e.op=1 then(.mk e.op e.n [] [] [] e.args,0)
 else if e.op=2\/e.op=17 then(.mk e.op 0 e.s [] [] e.args,0)
 else if e.op=18\/e.op=14 then(.mk e.op 0 e.s [] [] e.args,1)
 else if e.op=16 then(.mk e.op e.n [] [] [] e.args,1)
 else if e.op=10 then(.mk e.op 0 [] [] [] e.args,1)
 else if e.op=12 then(.mk e.op 0 e.s [] [] e.args,2)
 else if e.op=11 then(.mk e.op 0 [] [] [] e.args,3)
 else if e.op=13 then(.mk e.op 0 [] [] e.names e.args,e.names.length)
 else if e.op=15 then(.mk e.op 0 e.s e.m [] e.args,-1)
 else(.mk e.op 0 [] [] [] e.args,2)
def vG(l:List aT):Bool:=(l.all cJ&&mj eH l)&&decide (l.length<=8)
def fg(e:Exp):Bool:=
 if e.op=0 then decide (0<=e.n)&&decide (e.n<=1099511627776)
 else if e.op=1 then e.n== 0||e.n== 1
 else if e.op=16 then((e.n== 1||e.n== 2)||e.n== 4)||e.n== 8
 else if e.op=2\/e.op=17\/e.op=18\/e.op=14\/e.op=12 then cJ e.s
 else if e.op=15 then cJ e.s&&(e.m== []||cJ e.m)&&decide (e.args.length<=6)
 else if e.op=13 then vG e.names
 else true
def pN(e:Exp):Bool:=
 decide (0<=e.op)&&decide (e.op<19)&&(decide ((fe e).2<0)||((fe e).2== (e.args.length:Int)))&&((fe e).1.n== e.n)&&((fe e).1.s== e.s)&&((fe e).1.m== e.m)&&(((fe e).1.names.length:Int)== (e.names.length:Int))&&fg e
def cU:Nat->Exp->Bool
 |0,_=>false
 |d+1,e=>pN e&&e.args.all (cU d)
theorem nE(d:Nat)(e:Exp):cU (d+1) e=(pN e&&e.args.all (cU d)):=rfl
def pY(a b:Int):Int:=IntKind.i64.wrap (BitVec.ofInt 64 a ||| BitVec.ofInt 64 b).toNat
mutual
def uz:Ty->Ty->Option Ty
 |.mk k fs,b=>if k=b.kind then some (.mk k (kZ fs b.fields))else none
def kZ:List (aT×Ty)->List bI->List bI
 |[],_=>[]
 |f:: fs,l=>(match Hz f l with|some x=>[x]|none=>[])++kZ fs l
def Hz:aT×Ty->List bI->Option bI
 |(n,t),l=>match bN (fun z=>z.1== n) l with
  |some z=>(match uz t z.2 with|some u=>some (n,u)|none=>none)
  |none=>none
end
def jv(k:Int)(l:List Ty):Bool:=l.all fun t=>t.kind== k
def cG(e:Exp)(l:List Ty):Option Ty:=
 if e.op=3\/e.op=4\/e.op=5\/e.op=16 then(if jv 0 l=true then some (.mk 0 [])else none)
 else if e.op=1 then some (.mk 1 [])
 else if e.op=6 then(if jv 0 l=true then some (.mk 1 [])else none)
 else if e.op=7 then(if(jv 0 l||jv 1 l)=true then some (.mk 1 [])else none)
 else if e.op=8\/e.op=9\/e.op=10 then(if jv 1 l=true then some (.mk 1 [])else none)
 else if e.op=11 then(match uz l[1]! l[2]! with|some t=>if l[0]!.kind=1 then some t else none|none=>none)
 else if e.op=13 then some (.mk 2 (e.names.zip l))
 else if e.op=14 then(match bN (fun z=>z.1== e.s) l[0]!.fields with|some z=>some z.2|none=>none)
 else some (.mk 0 [])
inductive Tr (α:Type) where
 |ok (a:α) (n:Int)
 |er (e n:Int)
abbrev dU(α:Type):=Int->Tr α
def dU.ok{α:Type}(a:α):dU α:=fun n=>.ok a n
def dU.er{α:Type}(e:Int):dU α:=fun n=>.er e n
def dU.bind{α β:Type}(x:dU α)(f:α->dU β):dU β:=fun n=>match x n with
 |.ok a n'=>f a n'
 |.er e n'=>.er e n'
structure Tcx where
 vars:List bI
 funcs:List Fun
 uses:List aT
 faces:aT->Option Face
def db(c:Tcx)(e:Exp):Option (List Ty×Ty×Int):=
 if e.m=[]then(match c.funcs.find? fun f=>f.name== e.s with
  |some f=>some (f.params.map (·.2),f.result,f.effects)
  |none=>none)
 else match c.faces e.m with
  |none=>none
  |some f=>match f.funcs.find? (fun s=>s.name== e.s)with
   |none=>none
   |some s=>if e.m∈c.uses then some (s.params,s.result,s.effects)else none
def dR(r:Exp->dU Ty):List Exp->dU (List Ty)
 |[]=>.ok []
 |e:: es=>.bind (r e) fun t=>.bind (dR r es) fun ts=>.ok (t:: ts)
def cB(c:Tcx)(r:List bI->Exp->dU Ty)(ls:List bI)(e:Exp):dU Ty:=
 if e.op=2 then(match bN (fun z=>z.1== e.s) ls with|some z=>.ok z.2|none=>.er 12)
 else if e.op=12 then .bind (r ls e.args[0]!) fun t=>r (ls++[(e.s,t)]) e.args[1]!
 else if e.op=17\/e.op=18 then(match bN (fun z=>z.1== e.s) c.vars with
  |none=>.er 12
  |some z=>if e.op=18 then .bind (r ls e.args[0]!) fun u=>if cu u z.2=true then .ok z.2 else .er 13 else .ok z.2)
 else if e.op=15 then(match db c e with
  |none=>.er 12
  |some s=>if s.1.length=e.args.length then .bind (dR (r ls) e.args) fun l=>if bF cu l s.1=true then fun n=>.ok s.2.1 (pY n s.2.2)else .er 13 else .er 13)
 else .bind (dR (r ls) e.args) fun l n=>match cG e l with
  |some t=>.ok t (if e.op=16 then pY n e.n else n)
  |none=>.er 13 (if e.op=16 then pY n e.n else n)
def bL(c:Tcx):Nat->List bI->Exp->dU Ty
 |0=>fun _ _=>.er 16
 |d+1=>cB c (bL c d)
def Cu:Tcx:=⟨[],[],[],fun _=>none⟩
def ib(ls:List bI)(e:Exp)(want:Ty):Int:=match bL Cu 12 ls e 0 with
 |.er b _=>b
 |.ok t n=>if n≠0 then 14 else if cu t want=true then 0 else 13
def bC:List (aT×Int)->aT×Int
 |[]=>([],0)
 |x:: l=>if x.2=0 then bC l else x
def ek(ls:List bI)(vs:List bI)(es:List Exp):List (aT×Int):=(vs.zip es).map fun x=>(x.1.1,ib ls x.2 x.1.2)
def gQ(m:Mod):aT×Int:=bC (ek [] m.vars m.init++if m.moves=true then ek m.old m.vars m.forward++ek m.vars m.old m.back else[])
def uy(c:Tcx)(f:Fun):Int:=match bL c 12 f.params f.body 0 with
 |.er b _=>b
 |.ok t n=>if cu t f.result=true then(if fV n f.effects=0 then 0 else 14)else 13
def gp(f:Face):Bool:=f.funcs.all fun s=>bX s.result&&s.params.all bX
def yC{α:Type}(x:dU α):Prop:=∀n b n',x n= .er b n'->b≠0
def tL{α:Type}(a:α):yC (.ok a):=fun n b n' h=>by cases h
def pp{α:Type}{e:Int}(h:e≠0):yC (α:=α) (.er e):=fun n b n' h'=>by cases h';exact h
def kl{α β:Type}{x:dU α}{f:α->dU β}(hx:yC x)(hf:∀a,yC (f a)):yC (.bind x f):=fun n b n' h=>by
 unfold dU.bind at h;split at h
 ·exact hf _ _ _ _ h
 ·rename_i e' m hm;cases h;exact hx _ _ _ hm
def jU{α:Type}{c:Prop}[Decidable c]{x y:dU α}(h1:yC x)(h2:yC y):yC (if c then x else y):=by
 split
 ·exact h1
 ·exact h2
theorem lO{r:Exp->dU Ty}(h:∀e,yC (r e)):∀l,yC (dR r l)
 |[]=>tL _
 |e:: l=>kl (h e) fun _=>kl (lO h l) fun _=>tL _
theorem ia(c:Tcx):∀(d:Nat)(ls:List bI)(e:Exp),yC (bL c d ls e)
 |0,_,_=>pp (by decide)
 | d+1,ls,e=>by
  have H:=ia c d;show yC (cB c (bL c d) ls e);unfold cB;refine jU ?_ (jU ?_ (jU ?_ (jU ?_ ?_)))
  ·split
   ·exact tL _
   ·exact pp (by decide)
  ·exact kl (H _ _) fun _=>H _ _
  ·split
   ·exact pp (by decide)
   ·exact jU (kl (H _ _) fun _=>jU (tL _) (pp (by decide))) (tL _)
  ·split
   ·exact pp (by decide)
   ·exact jU (kl (lO (H _) _) fun _=>jU (fun n b n' h=>by cases h) (pp (by decide))) (pp (by decide))
  ·refine kl (lO (H _) _) fun l n b n' h=>?_;split at h
   ·cases h
   ·cases h;decide
def vX{c:Tcx}{r:List bI->Exp->dU Ty}{ls:List bI}{e:Exp}(h:e.op=12):cB c r ls e= .bind (r ls e.args[0]!) fun t=>r (ls++[(e.s,t)]) e.args[1]!:=by
 unfold cB;rw[if_neg (by omega),JV h]
def vY{c:Tcx}{r:List bI->Exp->dU Ty}{ls:List bI}{e:Exp}(h:e.op=2):cB c r ls e=(match bN (fun z=>z.1== e.s) ls with|some z=>.ok z.2|none=>.er 12):=by
 unfold cB;rw[JV h]
theorem vW{c:Tcx}{r:List bI->Exp->dU Ty}{ls:List bI}{e:Exp}(h:e.op=17\/e.op=18):cB c r ls e=(match bN (fun z=>z.1== e.s) c.vars with
  |none=>.er 12
  |some z=>if e.op=18 then .bind (r ls e.args[0]!) fun u=>if cu u z.2=true then .ok z.2 else .er 13 else .ok z.2):=by
 unfold cB;rw[if_neg (by omega),if_neg (by omega),JV h]
theorem uf{c:Tcx}{r:List bI->Exp->dU Ty}{ls:List bI}{e:Exp}(h:e.op=15):cB c r ls e=(match db c e with
  |none=>.er 12
  |some s=>if s.1.length=e.args.length then .bind (dR (r ls) e.args) fun l=>if bF cu l s.1=true then fun n=>.ok s.2.1 (pY n s.2.2)else .er 13 else .er 13):=by
 unfold cB;rw[if_neg (by omega),if_neg (by omega),if_neg (by omega),JV h]
def nD(e:Exp)(l:List Ty):dU Ty:=fun n=>match cG e l with
 |some t=>.ok t (if e.op=16 then pY n e.n else n)
 |none=>.er 13 (if e.op=16 then pY n e.n else n)
def pE{e:Exp}{l:List Ty}{t:Ty}(h:cG e l=some t)(n:Int):nD e l n= .ok t (if e.op=16 then pY n e.n else n):=by
 unfold nD;rw[h]
def pD{e:Exp}{l:List Ty}(h:cG e l=none)(n:Int):nD e l n= .er 13 (if e.op=16 then pY n e.n else n):=by
 unfold nD;rw[h]
def ug{c:Tcx}{r:List bI->Exp->dU Ty}{ls:List bI}{e:Exp}(h1:¬e.op=2)(h2:¬e.op=12)(h3:¬(e.op=17\/e.op=18))(h4:¬e.op=15):cB c r ls e= .bind (dR (r ls) e.args) (nD e):=by
 unfold cB;rw[if_neg h1,if_neg h2,if_neg h3,if_neg h4];rfl
abbrev wZ(e:Exp):Bool:=cU 12 e
def mL:List aT->List bI->Bool
 |_,[]=>true
 |seen,f:: l=>!(seen.contains f.1)&&cJ f.1&&bX f.2&&mL (seen++[f.1]) l
def eE(l:List bI)(most:Int):Bool:=mL [] l&&decide ((l.length:Int)<=most)
def vg(f:Fun):Bool:=cJ f.name&&eE f.params 6&&bX f.result&&wZ f.body&&(fV f.effects 15== 0)
def iG:List aT->List Fun->Bool
 |_,[]=>true
 |seen,f:: l=>!(seen.contains f.name)&&vg f&&iG (seen++[f.name]) l
def qj:List aT->List aT->Bool
 |_,[]=>true
 |seen,s:: l=>!(seen.contains s)&&cJ s&&qj (seen++[s]) l
def nC(m:Mod):Bool:=cJ m.name&&decide (m.uses.length<=12)&&decide (m.funcs.length<=30)&&eE m.vars 8&&(m.init.all wZ&&((m.init.length:Int)== m.vars.length))&&(m.moves||decide (m.old.length=0)) &&
 (eE m.old 8&&(m.forward.all wZ&&((m.forward.length:Int)== (if m.moves=true then(m.vars.length:Int)else 0)))&&(m.back.all wZ&&((m.back.length:Int)== m.old.length)))
def aZ(m:Mod):Bool:=qj [] m.uses&&(iG [] m.funcs&&nC m)
theorem lR:(l:List bI)->(seen:List aT)->mL seen l=true->(∀f∈l,cJ f.1=true/\bX f.2=true/\f.1 ∉ seen)/\(l.map (·.1)).Nodup
 |[],seen,_=>⟨fun f h=>(by cases h),ML⟩
 | f:: l,seen,h=>by
  simp only[mL,JN,KF]at h;obtain⟨⟨⟨h1,h2⟩,h3⟩,h4⟩:=h;obtain⟨i1,i2⟩:=lR l _ h4;have h1':f.1 ∉ seen:=fun hm=>by rw[KN.2 hm]at h1;cases h1
  refine⟨fun g hg=>?_,?_⟩
  ·rcases Kc.1 hg with rfl|hg
   ·exact⟨h2,h3,h1'⟩
   ·obtain⟨j1,j2,j3⟩:=i1 g hg;exact⟨j1,j2,fun hm=>j3 (Kl _ hm)⟩
  ·rw[Ks,K7];refine⟨fun hm=>?_,i2⟩;obtain⟨g,hg,e⟩:=Kq.1 hm;exact (i1 g hg).2.2 (J7 _ (by rw[e];simp))
theorem qT:(l:List Fun)->(seen:List aT)->iG seen l=true->(∀f∈l,vg f=true/\f.name ∉ seen)/\(l.map (·.name)).Nodup
 |[],seen,_=>⟨fun f h=>(by cases h),ML⟩
 | f:: l,seen,h=>by
  simp only[iG,JN,KF]at h;obtain⟨⟨h1,h2⟩,h4⟩:=h;obtain⟨i1,i2⟩:=qT l _ h4;have h1':f.name ∉ seen:=fun hm=>by rw[KN.2 hm]at h1;cases h1
  refine⟨fun g hg=>?_,?_⟩
  ·rcases Kc.1 hg with rfl|hg
   ·exact⟨h2,h1'⟩
   ·obtain⟨j1,j3⟩:=i1 g hg;exact⟨j1,fun hm=>j3 (Kl _ hm)⟩
  ·rw[Ks,K7];refine⟨fun hm=>?_,i2⟩;obtain⟨g,hg,e⟩:=Kq.1 hm;exact (i1 g hg).2 (J7 _ (by rw[e];simp))
structure FunOk (f:Fun):Prop where
 name:cJ f.name=true
 plen:f.params.length<=6
 pars:∀z∈f.params,bX z.2=true
 pnames:(f.params.map (·.1)).Nodup
 res:bX f.result=true
 body:cU 12 f.body=true
 eff:fV f.effects 15=0
def EP{f:Fun}(h:vg f=true):FunOk f:=by
 unfold vg eE at h;simp only[JN,Kj,Kw]at h;obtain⟨⟨⟨⟨h1,h2,h3⟩,h4⟩,h5⟩,h6⟩:=h;obtain⟨i1,i2⟩:=lR _ _ h2;exact⟨h1,by omega,fun z hz=>(i1 z hz).2.1,i2,h4,h5,h6⟩
structure ModOk (m:Mod):Prop where
 name:cJ m.name=true
 ulen:m.uses.length<=12
 flen:m.funcs.length<=30
 fns:∀f∈m.funcs,FunOk f
 fnames:(m.funcs.map (·.name)).Nodup
 vlen:m.vars.length<=8
 vars:∀z∈m.vars,bX z.2=true
 vnames:(m.vars.map (·.1)).Nodup
 ilen:m.init.length=m.vars.length
 init:∀e∈m.init,cU 12 e=true
 olen:m.old.length<=8
 old:∀z∈m.old,bX z.2=true
 wlen:m.moves=true->m.forward.length=m.vars.length
 forw:∀e∈m.forward,cU 12 e=true
 blen:m.back.length=m.old.length
 back:∀e∈m.back,cU 12 e=true
def kT{m:Mod}(h:aZ m=true):ModOk m:=by
 unfold aZ nC eE at h;simp only[JN,Kj,Kw,J6,Li]at h;obtain⟨h1,h2,⟨⟨⟨⟨⟨h3,h4⟩,h5⟩,h6,h7⟩,h8,h9⟩,h10⟩,⟨⟨h11,h12⟩,h13,h14⟩,h15,h16⟩:=h;obtain⟨f1,f2⟩:=qT _ _ h2;obtain⟨v1,v2⟩:=lR _ _ h6;obtain⟨o1,_⟩:=lR _ _ h11;exact⟨h3,h4,h5,fun f hf=>EP (f1 f hf).1,f2,by omega,fun z hz=>(v1 z hz).2.1,v2,by omega,h8,by omega,fun z hz=>(o1 z hz).2.1,fun hm=>by rw[JV hm]at h14;omega,h13,by omega,h15⟩
end Go.Av.Ap
namespace Go.Av
open Go.RowKit Go.Sort Go.Proofs
section
variable [Dr]
end
section
variable {α:Type} [Inhabited α]
end
section
variable [Dr] {S:aL} {β:List bS} {h:Hp} {w w':World}
end
theorem JG{S:aL}{β:List bS}:{ps qs:List AV} ->{vs:List Value} ->bw S β (ps++qs) vs->∃u v,vs=u++v/\bw S β ps u/\bw S β qs v
 |[],_,vs,h=>⟨[],vs,rfl,by simp[bw],h⟩
 |_:: ps,qs,vs,h=>by
  simp only[Kr,bw]at h;obtain⟨x,xs,rfl,h1,h2⟩:=h;obtain⟨u,v,rfl,h3,h4⟩:=JG h2;exact⟨x:: u,v,rfl,by simp only[bw];exact⟨x,u,rfl,h1,h3⟩,h4⟩
section
variable [Dr] {α:Type} [Inhabited α] {P:Program}
end
end Go.Av
namespace Go.Av
open Go.RowKit Go.Sort Go.Proofs
section
variable [Dr] {P:Program}
end
end Go.Av
namespace Go.Av.Ap
open Go Go.Av
def lx:Face:=⟨[],[]⟩
def dL(m:Mod)(fs:List Face):Tcx:=⟨m.vars,m.funcs,m.uses,fun s=>fs.find? fun f=>f.module== s⟩
def cW:List Face->List Face->List Face
 |acc,[]=>acc
 |acc,f:: fs=>cW (if(acc.find? fun g=>g.module== f.module).isSome=true then acc else acc++[f]) fs
def wI(m:Mod)(fs:List Face):List (aT×Int):=m.funcs.map fun f=>(f.name,uy (dL m fs) f)
def ka(m:Mod)(fs:List Face):List (aT×Int):=m.uses.map fun u=>(u,if(fs.find? fun f=>f.module== u).isNone||u== m.name then 12 else 0)
def dE(m:Mod)(fs:List Face):aT×Int:=if(fs.all gp&&aZ m)=true then bC (ka m (cW [] fs)++gQ m:: wI m (cW [] fs))else([],1)
theorem wC:{l:List (aT×Int)} ->(bC l).2=0->∀x∈l,x.2=0
 |[],_,x,hx=>by cases hx
 | y:: l,h,x,hx=>by
  unfold bC at h;split at h
  ·rename_i hy;rcases Kc.1 hx with rfl|hx
   ·exact hy
   ·exact wC h x hx
  ·rename_i hy;exact absurd h hy
end Go.Av.Ap
namespace Go.Av.Ap
open Go Go.Av
abbrev AP:=aT×aT
def tT(r:AP):AV:=.agg [.str r.1,.str r.2]
def tU(l:List AP):AV:=.sl (l.map tT)
def vM(l:List (List AP)):AV:=.sl (l.map tU)
@[simp] theorem Et(r:AP):ab (tT r)=[.str r.1,.str r.2]:=rfl
@[simp] theorem GW(r:AP):AV.agg [.str r.1,.str r.2]=tT r:=rfl
@[simp] theorem Ac(r:AP):cz 2 (tT r)=true:=rfl
@[simp] theorem F8(l:List AP):cO 2 (l.map tT)=true:=dz Ac l
@[simp] theorem EG(g:Nat->Nat->Nat->Nat->Bool->AV)(r:AP):cl g (tT r)=tT r:=rfl
@[simp] theorem Bl(g:Nat->Nat->Nat->Nat->Bool->AV)(l:List AP):cl g (tU l)=tU l:=by simp[tU,cl,dl g tT (EG g)]
@[simp] theorem GR(g:Nat->Nat->Nat->Nat->Bool->AV)(l:List (List AP)):cl g (vM l)=vM l:=by simp[vM,cl,dl g tU (Bl g)]
section
variable {V:Type}
end
end Go.Av.Ap
namespace Go.Av.Ap
open Go Go.Av
mutual
def FD:Exp->List Exp
 |.mk o n s m ns es=>.mk o n s m ns es:: wU es
def wU:List Exp->List Exp
 |[]=>[]
 |e:: es=>FD e++wU es
end
end Go.Av.Ap
namespace Go.Av
open Go
section
variable {F:Fence} {n:Nat} {P:Program} {w w':World} {ops:Array Oper} {rest:List Oper} {o:Oper} {a:Act} {Q:Exit->Act->World->Prop} {v:Value}
end
end Go.Av
namespace Go.Av.Ap
open Go Go.Av
def kP{T:TT}{t:Nat}{ti:TI}(ht:T t=some ti)(ha:ti.agg=false){h:Hp}{l k:Nat}{cs:List AV}{v:AV}(h0:h[l]? = some cs)(h1:cs[k]? = some v):bY T t (.hp l k) h= .ok v h:=by
 simp[bY,ht,h0,ha,h1]
def zX{T:TT}{t:Nat}{ti:TI}(ht:T t=some ti)(ha:ti.agg=true){h:Hp}{l k:Nat}{cs:List AV}(h0:h[l]? = some cs)(hle:k+ti.size<=cs.length):bY T t (.hp l k) h= .ok (.agg ((cs.drop k).take ti.size)) h:=by
 simp[bY,ht,h0,ha,hle]
def sx{T:TT}{t:Nat}{ti:TI}(ht:T t=some ti){h:Hp}{l k:Nat}{cs:List AV}{v:AV}(h0:h[l]? = some cs)(hv:cz ti.size v=true)(hle:k+ti.size<=cs.length)(hp:0<ti.size):
  cC T t (.hp l k) v h= .ok (.tup []) (h.set l (setCells cs k (ab v))):=by
 simp[cC,ht,h0,hv,hle,hp]
def GF{T:TT}{t e:Nat}{ti ei:TI}(ht:T t=some ti)(hk:ti.kind= .slice e)(he:T e=some ei){x:AV}(hx:cz ei.size x=true)(hb:0<ei.bytes)(hs:0<ei.size)(hc:ei.bytes<=140737488355328)(h:Hp):
  appH T t false .hn (.sl [x]) h= .ok (.hs h.length 0 1 ei.size ei.agg) (h++[ab x]):=by
 have:cO ei.size [x]=true:=by simp[cO,hx]
 simp[appH,ht,hk,he,jp,this,hb,hs,mc,hc]
def GG{T:TT}{t e:Nat}{ti ei:TI}(ht:T t=some ti)(hk:ti.kind= .slice e)(he:T e=some ei){x:AV}(hx:cz ei.size x=true)(hb:0<ei.bytes)(hs:0<ei.size){h:Hp}{q n:Nat}{cs:List AV}(h0:h[q]? = some cs)(hok:cs.all bH=true)(hl:cs.length=n*ei.size)(hn:0<n)(hc:(n+1)*ei.bytes<=140737488355328):appH T t false (.hs q 0 n ei.size ei.agg) (.sl [x]) h= .ok (.hs h.length 0 (n+1) ei.size ei.agg) ((h.set q [])++[cs++ab x]):=by
 have h1:cO ei.size [x]=true:=by simp[cO,hx]
 have h2:List.all cs bH=true:=hok;have h3:0<n*ei.size:=LN hn hs;have h4:cs.take (n*ei.size)=cs:=by rw[<- hl];exact Mz
 simp only[appH,ht,hk,he,jp,h1,hb,hs,mc,h0,h2,hl,Kf,MN,JM,Lr,Kk,List.isEmpty_cons,JX,LY,List.flatMap_nil,L6,h3,h4,JO];rw[decide_eq_true hc];simp
end Go.Av.Ap
namespace Go.Av.Ap
variable {α:Type}
def aC(nm:α->aT)(l:List α)(s:aT):List α:=(l.find? fun x=>nm x== s).toList
def bK(nm:α->aT)(same:α->α->Bool)(base mine theirs:List α):List α->List α->List aT->List α×aT×Bool
 |[],out,_=>(out,[],true)
 |x:: xs,out,done=>
  if done.contains (nm x)=true then bK nm same base mine theirs xs out done
  else if bF same (aC nm base (nm x)) (aC nm mine (nm x))=true then bK nm same base mine theirs xs (out++aC nm theirs (nm x)) (done++[nm x])
  else if bF same (aC nm base (nm x)) (aC nm theirs (nm x))=true\/bF same (aC nm mine (nm x)) (aC nm theirs (nm x))=true then bK nm same base mine theirs xs (out++aC nm mine (nm x)) (done++[nm x])
  else([],nm x,false)
def a7(nm:α->aT)(same:α->α->Bool)(base mine theirs:List α):List α×aT×Bool:=bK nm same base mine theirs (base++(mine++theirs)) [] []
theorem ga(F:α->Bool):∀(l:List α)(i:Int),0<=i->(be F l i= -1/\l.find? F=none)\/∃(k:Nat)(hk:k<l.length),be F l i=i+k/\l.find? F=some l[k]
 |[],i,_=>.inl ⟨rfl,rfl⟩
 | x:: l,i,hi=>by
  cases h:F x with
  |true=>exact .inr ⟨0,by simp,by simp[be,h],by simp[h]⟩
  |false=>
   rcases ga F l (i+1) (by omega)with⟨h1,h2⟩|⟨k,hk,h1,h2⟩
   ·exact .inl ⟨by simp[be,h,h1],by simp[h,h2]⟩
   ·exact .inr ⟨k+1,by simp;omega,by simp[be,h,h1];omega,by simp[h,h2]⟩
theorem bJ(nm:α->aT)(l:List α)(s:aT):(aC nm l s).length<=1:=by
 unfold aC;cases l.find? fun x=>nm x== s<;>simp
theorem bZ(nm:α->aT){l:List α}{s:aT}{x:α}(h:x∈aC nm l s):x∈l/\nm x=s:=by
 unfold aC at h;rw[Lx]at h;exact⟨K3 h,by simpa using List.find?_some h⟩
end Go.Av.Ap
namespace Go.Av
def ic{T:TT}{t e:Nat}{ti ei:TI}(ht:T t=some ti)(hk:ti.kind= .slice e)(he:T e=some ei)(es:List AV)(hok:cO ei.size es=true){a b:Int}(h0:0<=a)(h1:a<=b)(h2:b<=es.length):d6 T t (.sl es) (some (.int .i64 a)) (some (.int .i64 b)) none=some (.sl ((es.take b.toNat).drop a.toNat)):=by
 unfold d6;rw[ht];have h3:0<=b:=by omega
 have h4:a<=max b 0:=by omega
 simp[hk,he,cZ,h0,h2,h3,h4,hok]
end Go.Av
namespace Go.Av.Ap
mutual
def gU:Ty->Ty->Bool
 |.mk k fs,.mk k' fs'=>k== k'&&jj fs fs'
def jj:List bI->List bI->Bool
 |[],[]=>true
 |f:: l,g:: m=>sk f g&&jj l m
 |_,_=>false
def sk:aT×Ty->aT×Ty->Bool
 |(s,t),(s',t')=>s== s'&&gU t t'
end
def yo(f g:bI):sk f g=(f.1== g.1&&gU f.2 g.2):=by
 obtain⟨s,t⟩:=f;obtain⟨s',t'⟩:=g;rfl
theorem nH:(a b:List bI)->jj a b=bF (fun x y=>x.1== y.1&&gU x.2 y.2) a b
 |[],[]=>rfl
 |[],_:: _=>rfl
 |_:: _,[]=>rfl
 |v:: a,w:: b=>by simp only[jj,bF,nH a b,yo]
def Ax(a b:Ty):gU a b=(a.kind== b.kind&&bF (fun x y=>x.1== y.1&&gU x.2 y.2) a.fields b.fields):=by
 cases a;cases b;simp only[gU,nH,Ty.kind,Ty.fields]
mutual
def iI:Exp->Exp->Bool
 |.mk o n s m ns es,.mk o' n' s' m' ns' es'=>o== o'&&n== n'&&s== s'&&m== m'&&ns== ns'&&ji es es'
def ji:List Exp->List Exp->Bool
 |[],[]=>true
 |f:: l,g:: m=>iI f g&&ji l m
 |_,_=>false
end
theorem nG:(a b:List Exp)->ji a b=bF iI a b
 |[],[]=>rfl
 |[],_:: _=>rfl
 |_:: _,[]=>rfl
 |v:: a,w:: b=>by simp only[ji,bF,nG a b]
def Au(a b:Exp):iI a b=(a.op== b.op&&a.n== b.n&&a.s== b.s&&a.m== b.m&&a.names== b.names&&bF iI a.args b.args):=by
 cases a;cases b;simp only[iI,nG,Exp.op,Exp.n,Exp.s,Exp.m,Exp.names,Exp.args]
def Hx{e:Ty}{x:bI}(h:x∈e.fields):SizeOf.sizeOf x.2<SizeOf.sizeOf e:=by
 cases e with
 |mk k fs=>
  have h1:=Ld h;have h2:SizeOf.sizeOf x.2<SizeOf.sizeOf x:=by cases x;simp;omega
  have h3:SizeOf.sizeOf x<SizeOf.sizeOf fs:=h1;simp only[Ty.mk.sizeOf_spec];show SizeOf.sizeOf x.2<1+SizeOf.sizeOf k+SizeOf.sizeOf fs;omega
def EO{e x:Exp}(h:x∈e.args):SizeOf.sizeOf x<SizeOf.sizeOf e:=by
 cases e with
 |mk o n s m ns es=>
  have h1:=Ld h;have h3:SizeOf.sizeOf x<SizeOf.sizeOf es:=h1;simp only[Exp.mk.sizeOf_spec];omega
theorem lT:∀(l:List aT)(seen:List aT),qj seen l=true↔(∀s∈l,cJ s=true/\s ∉ seen)/\l.Nodup
 |[],seen=>by simp[qj]
 | s:: l,seen=>by
  have hc:seen.contains s=false↔s ∉ seen:=by
   rw[<- LK,KN]
  simp only[qj,JN,KF,hc,lT l,K7,Kc,MA,J3,Mx];constructor
  ·rintro⟨⟨h1,h2⟩,h3,h4⟩;exact⟨⟨⟨h2,h1⟩,fun t ht=>⟨(h3 t ht).1,(h3 t ht).2.1⟩⟩,fun hm=>(h3 s hm).2.2.1 rfl,h4⟩
  ·rintro⟨⟨⟨h2,h1⟩,h3⟩,h4,h5⟩;exact⟨⟨h1,h2⟩,fun t ht=>⟨(h3 t ht).1,(h3 t ht).2,fun e=>h4 (e▸ht),fun e=>(by cases e)⟩,h5⟩
theorem mK:∀(l:List Fun)(seen:List aT),iG seen l=true↔(∀f∈l,vg f=true/\f.name ∉ seen)/\(l.map (·.name)).Nodup
 |[],seen=>by simp[iG]
 | s:: l,seen=>by
  have hc:seen.contains s.name=false↔s.name ∉ seen:=by
   rw[<- LK,KN]
  simp only[iG,JN,KF,hc,mK l,Ks,K7,Kc,MA,J3,Mx];constructor
  ·rintro⟨⟨h1,h2⟩,h3,h4⟩;exact⟨⟨⟨h2,h1⟩,fun t ht=>⟨(h3 t ht).1,(h3 t ht).2.1⟩⟩,fun hm=>by
    obtain⟨t,ht,e⟩:=Kq.1 hm;exact (h3 t ht).2.2.1 e,h4⟩
  ·rintro⟨⟨⟨h2,h1⟩,h3⟩,h4,h5⟩;exact⟨⟨h1,h2⟩,fun t ht=>⟨(h3 t ht).1,(h3 t ht).2,fun e=>h4 (Kq.2 ⟨t,ht,e⟩),fun e=>(by cases e)⟩,h5⟩
theorem pu:∀(l:List bI)(seen:List aT),mL seen l=true↔(∀f∈l,(cJ f.1=true/\bX f.2=true)/\f.1 ∉ seen)/\(l.map (·.1)).Nodup
 |[],seen=>by simp[mL]
 | s:: l,seen=>by
  have hc:seen.contains s.1=false↔s.1 ∉ seen:=by
   rw[<- LK,KN]
  simp only[mL,JN,KF,hc,pu l,Ks,K7,Kc,MA,J3,Mx];constructor
  ·rintro⟨⟨⟨h1,h2⟩,h2'⟩,h3,h4⟩;exact⟨⟨⟨⟨h2,h2'⟩,h1⟩,fun t ht=>⟨(h3 t ht).1,(h3 t ht).2.1⟩⟩,fun hm=>by
    obtain⟨t,ht,e⟩:=Kq.1 hm;exact (h3 t ht).2.2.1 e,h4⟩
  ·rintro⟨⟨⟨⟨h2,h2'⟩,h1⟩,h3⟩,h4,h5⟩;exact⟨⟨⟨h1,h2⟩,h2'⟩,fun t ht=>⟨(h3 t ht).1,(h3 t ht).2,fun e=>h4 (Kq.2 ⟨t,ht,e⟩),fun e=>(by cases e)⟩,h5⟩
def yh{l m:List aT}(h:l.Perm m):qj [] l=qj [] m:=by
 rw[KU,lT,lT,h.nodup_iff];constructor
 ·rintro⟨h1,h2⟩;exact⟨fun s hs=>h1 s (h.mem_iff.2 hs),h2⟩
 ·rintro⟨h1,h2⟩;exact⟨fun s hs=>h1 s (h.mem_iff.1 hs),h2⟩
def vH{l m:List Fun}(h:l.Perm m):iG [] l=iG [] m:=by
 rw[KU,mK,mK,(h.map (·.name)).nodup_iff];constructor
 ·rintro⟨h1,h2⟩;exact⟨fun s hs=>h1 s (h.mem_iff.2 hs),h2⟩
 ·rintro⟨h1,h2⟩;exact⟨fun s hs=>h1 s (h.mem_iff.1 hs),h2⟩
def yg{l m:List bI}(h:l.Perm m):mL [] l=mL [] m:=by
 rw[KU,pu,pu,(h.map (·.1)).nodup_iff];constructor
 ·rintro⟨h1,h2⟩;exact⟨fun s hs=>h1 s (h.mem_iff.2 hs),h2⟩
 ·rintro⟨h1,h2⟩;exact⟨fun s hs=>h1 s (h.mem_iff.1 hs),h2⟩
def yL{α:Type}{p:α->Bool}{l m:List α}(h:l.Perm m):l.all p=m.all p:=by
 rw[KU,J6,J6];exact⟨fun h1 s hs=>h1 s (h.mem_iff.2 hs),fun h1 s hs=>h1 s (h.mem_iff.1 hs)⟩
def kW{name:aT}{u u':List aT}{l l':List (bI×Exp)}{fs fs':List Fun}(hu:u.Perm u')(hl:l.Perm l')(hf:fs.Perm fs'):
  aZ ⟨name,u,l.map Prod.fst,l.map Prod.snd,fs,false,[],[],[]⟩=aZ ⟨name,u',l'.map Prod.fst,l'.map Prod.snd,fs',false,[],[],[]⟩:=by
 have h1:=(hl.map Prod.fst);have h2:=(hl.map Prod.snd);simp only[aZ,nC,eE,yh hu,vH hf,yg h1,yL h2,hu.length_eq,hf.length_eq,h1.length_eq,h2.length_eq]
end Go.Av.Ap
namespace Go.Av.Ap
variable {α:Type}
mutual
theorem ku:∀(a b:Ty),gU a b=true↔a=b
 |.mk k fs,.mk k' fs'=>by simp only[gU,JN,Kw,pK fs fs',Ty.mk.injEq]
theorem pK:∀(a b:List bI),jj a b=true↔a=b
 |[],[]=>by simp[jj]
 |[],_:: _=>by simp[jj]
 |_:: _,[]=>by simp[jj]
 |f:: l,g:: m=>by simp only[jj,JN,vR f g,pK l m,Lv]
theorem vR:∀(a b:aT×Ty),sk a b=true↔a=b
 |(s,t),(s',t')=>by simp only[sk,JN,Kw,ku t t',Ku]
end
mutual
theorem mQ:∀(a b:Exp),iI a b=true↔a=b
 |.mk o n s m ns es,.mk o' n' s' m' ns' es'=>by simp only[iI,JN,Kw,pI es es',Exp.mk.injEq,and_assoc]
theorem pI:∀(a b:List Exp),ji a b=true↔a=b
 |[],[]=>by simp[ji]
 |[],_:: _=>by simp[ji]
 |_:: _,[]=>by simp[ji]
 |f:: l,g:: m=>by simp only[ji,JN,mQ f g,pI l m,Lv]
end
theorem sL(F:α->α->Bool)(h:∀x y,F x y=true↔x=y):∀(a b:List α),bF F a b=true↔a=b
 |[],[]=>by simp[bF]
 |[],_:: _=>by simp[bF]
 |_:: _,[]=>by simp[bF]
 |x:: a,y:: b=>by simp only[bF,JN,h x y,sL F h a b,Lv]
theorem di{nm:α->aT}{same:α->α->Bool}(h:∀x y,nm x=nm y->(same x y=true↔x=y))(a b:List α)(s:aT):bF same (aC nm a s) (aC nm b s)=true↔aC nm a s=aC nm b s:=by
 have ha:=fun x (hx:x∈aC nm a s)=>(bZ nm hx).2;have hb:=fun x (hx:x∈aC nm b s)=>(bZ nm hx).2;have la:=bJ nm a s;have lb:=bJ nm b s;generalize aC nm a s=l at *;generalize aC nm b s=m at *
 match l,m,la,lb with
 |[],[],_,_=>simp[bF]
 |[],[y],_,_=>simp[bF]
 |[x],[],_,_=>simp[bF]
 |[x],[y],_,_=>
  have:=h x y ((ha x (by simp)).trans (hb y (by simp)).symm)
  simp[bF,this]
def m7(nm:α->aT)(same:α->α->Bool)(a b c:List α)(s:aT):Prop:=
 bF same (aC nm a s) (aC nm b s)=true\/bF same (aC nm a s) (aC nm c s)=true\/bF same (aC nm b s) (aC nm c s)=true
def pick(nm:α->aT)(same:α->α->Bool)(a b c:List α)(s:aT):List α:=if bF same (aC nm a s) (aC nm b s)=true then aC nm c s else aC nm b s
theorem i7(nm:α->aT)(same:α->α->Bool)(a b c:List α):∀(xs out:List α)(done:List aT),(bK nm same a b c xs out done).2.2=true↔∀x∈xs,nm x ∉ done->m7 nm same a b c (nm x)
 |[],out,done=>by simp[bK]
 | x :: xs,out,done=>by
  have skip:∀d:List aT,(∀s,s∈done->s∈d)->(∀s,s∈d->s∈done\/s=nm x)->(nm x∈done\/m7 nm same a b c (nm x))->((∀y∈xs,nm y ∉ d->m7 nm same a b c (nm y))↔∀y∈x:: xs,nm y ∉ done->m7 nm same a b c (nm y)):=by
   intro d hd1 hd2 hx;constructor
   ·intro h y hy hn;by_cases hyd:nm y∈d
    ·rcases hd2 _ hyd with h1|h1
     ·exact absurd h1 hn
     ·rcases hx with h2|h2
      ·rw[h1]at hn;exact absurd h2 hn
      ·rw[h1];exact h2
    ·rcases Kc.1 hy with rfl|hy
     ·rcases hx with h2|h2
      ·exact absurd h2 hn
      ·exact h2
     ·exact h y hy hyd
   ·intro h y hy hn;exact h y (KW _ hy) fun h1=>hn (hd1 _ h1)
  have hda:∀s,s∈done->s∈done++[nm x]:=fun s h=>Kl _ h;have hdb:∀s,s∈done++[nm x]->s∈done\/s=nm x:=fun s h=>by simpa using h
  unfold bK;split
  ·rename_i hc;rw[i7 nm same a b c xs out done];exact skip done (fun _ h=>h) (fun _ h=>.inl h) (.inl (KN.1 hc))
  ·rename_i hc;have hn:nm x ∉ done:=fun h=>hc (KN.2 h);split
   ·rename_i h1;rw[i7 nm same a b c xs _ _];exact skip _ hda hdb (.inr (.inl h1))
   ·rename_i h1;split
    ·rename_i h2;rw[i7 nm same a b c xs _ _];exact skip _ hda hdb (.inr (.inr h2))
    ·rename_i h2;constructor
     ·intro h;cases h
     ·intro h;rcases h x KX hn with h3|h3
      ·exact absurd h3 h1
      ·exact absurd h3 h2
theorem iD(nm:α->aT)(same:α->α->Bool)(a b c:List α):(a7 nm same a b c).2.2=true↔∀x∈a++(b++c),m7 nm same a b c (nm x):=by
 unfold a7;rw[i7];simp
theorem hM{nm:α->aT}{same:α->α->Bool}(h:∀x y,nm x=nm y->(same x y=true↔x=y))(a b c:List α):(a7 nm same a b c).2.2=(a7 nm same a c b).2.2:=by
 rw[KU,iD,iD];have hs:∀s,m7 nm same a b c s↔m7 nm same a c b s:=fun s=>by
  unfold m7;rw[di h,di h,di h,di h];constructor
  ·rintro (h|h|h)
   ·exact .inr (.inl h)
   ·exact .inl h
   ·exact .inr (.inr h.symm)
  ·rintro (h|h|h)
   ·exact .inr (.inl h)
   ·exact .inl h
   ·exact .inr (.inr h.symm)
 constructor
 ·intro H x hx;exact (hs _).1 (H x (by simp only[J3]at hx |-;rcases hx with h|h|h<;>simp[h]))
 ·intro H x hx;exact (hs _).2 (H x (by simp only[J3]at hx |-;rcases hx with h|h|h<;>simp[h]))
end Go.Av.Ap
namespace Go.Av.Ap
variable {α:Type}
theorem dM{nm:α->aT}{l:List α}{s:aT}:aC nm l s=[]↔s ∉ l.map nm:=by
 unfold aC;constructor
 ·intro h hm;obtain⟨x,hx,rfl⟩:=Kq.1 hm;cases hf:l.find? fun y=>nm y== nm x with
  |none=>
   have:=LU.1 hf x hx
   simp at this
  |some y=>rw[hf]at h;simp at h
 ·intro h;cases hf:l.find? fun y=>nm y== s with
  |none=>rfl
  |some y=>
   have h1:=K3 hf;have h2:=List.find?_some hf;exact absurd (Kq.2 ⟨y,h1,by simpa using h2⟩) h
theorem lA(nm:α->aT)(l m:List α)(s:aT):aC nm (l++m) s=if s∈l.map nm then aC nm l s else aC nm m s:=by
 unfold aC;rw[Mj];by_cases h:s∈l.map nm
 ·rw[JV h];cases hf:l.find? fun y=>nm y== s with
  |none=>
   obtain⟨x,hx,rfl⟩:=Kq.1 h
   have:=LU.1 hf x hx
   simp at this
  |some y=>simp
 ·rw[if_neg h];have:l.find? (fun y=>nm y== s)=none:=by
   have:=dM.2 h
   unfold aC at this;cases hf:l.find? fun y=>nm y== s with
   |none=>rfl
   |some y=>rw[hf]at this;simp at this
  rw[this];simp
theorem vd{nm:α->aT}{l:List α}{s:aT}(h1:l.length<=1)(h2:∀x∈l,nm x=s):aC nm l s=l:=by
 match l,h1 with
 |[],_=>rfl
 |[x],_=>
  have:=h2 x (by simp)
  unfold aC;simp[this]
theorem Cc(nm:α->aT)(same:α->α->Bool)(a b c:List α)(s:aT):(pick nm same a b c s).length<=1:=by
 unfold pick;split
 ·exact bJ _ _ _
 ·exact bJ _ _ _
theorem yk{nm:α->aT}{same:α->α->Bool}{a b c:List α}{s:aT}{x:α}(h:x∈pick nm same a b c s):nm x=s:=by
 unfold pick at h;split at h
 ·exact (bZ nm h).2
 ·exact (bZ nm h).2
theorem ij(nm:α->aT)(same:α->α->Bool)(a b c:List α):∀(xs out:List α)(done:List aT),(bK nm same a b c xs out done).2.2=true->(∀y∈out,nm y∈done)->(out.map nm).Nodup->
  ((bK nm same a b c xs out done).1.map nm).Nodup/\∀s,aC nm (bK nm same a b c xs out done).1 s=if s∈done then aC nm out s else if s∈xs.map nm then pick nm same a b c s else[]
 | [],out,done,_,hi,hn=>by
  refine⟨hn,fun s=>?_⟩;show aC nm out s=_;split
  ·rfl
  ·rename_i h;rw[if_neg (by simp)];exact dM.2 fun hm=>by
    obtain⟨y,hy,rfl⟩:=Kq.1 hm;exact h (hi y hy)
 | x :: xs,out,done,hok,hi,hn=>by
  unfold bK at hok |-;by_cases hc:done.contains (nm x)=true
  ·have hd:=KN.1 hc;rw[JV hc]at hok |-;obtain⟨h1,h2⟩:=ij nm same a b c xs out done hok hi hn;refine⟨h1,fun s=>?_⟩;rw[h2];by_cases hs:s∈done
   ·rw[JV hs,JV hs]
   ·rw[if_neg hs,if_neg hs];have:s≠nm x:=fun h=>hs (h▸hd);simp only[Ks,Kc,this,false_or]
  ·have hd:nm x ∉ done:=fun h=>hc (KN.2 h);rw[if_neg hc]at hok |-;have step:∀P:List α,P=pick nm same a b c (nm x)->(bK nm same a b c xs (out++P) (done++[nm x])).2.2=true->
     ((bK nm same a b c xs (out++P) (done++[nm x])).1.map nm).Nodup/\∀s,aC nm (bK nm same a b c xs (out++P) (done++[nm x])).1 s=if s∈done then aC nm out s else if s∈(x:: xs).map nm then pick nm same a b c s else[]:=by
    intro P hP hk;have hP1:P.length<=1:=by rw[hP];exact Cc ..
    have hP2:∀y∈P,nm y=nm x:=fun y hy=>by rw[hP]at hy;exact yk hy
    have hout:nm x ∉ out.map nm:=fun hm=>by
     obtain⟨y,hy,hye⟩:=Kq.1 hm;exact hd (hye▸hi y hy)
    have hnd:((out++P).map nm).Nodup:=by
     rw[Lo,List.nodup_append];refine⟨hn,?_,?_⟩
     ·match P,hP1 with
      |[],_=>simp
      |[y],_=>simp
     ·intro s hs t ht he;obtain⟨y,hy,rfl⟩:=Kq.1 ht;subst he;rw[hP2 y hy]at hs;exact hout hs
    obtain⟨h1,h2⟩:=ij nm same a b c xs (out++P) (done++[nm x]) hk (fun y hy=>by
     rcases J3.1 hy with h|h
     ·exact Kl _ (hi y h)
     ·rw[hP2 y h];simp) hnd
    refine⟨h1,fun s=>?_⟩;rw[h2];by_cases hs:s∈done
    ·have hne:s≠nm x:=fun h=>hd (h▸hs);rw[JV (Kl _ hs),JV hs,lA];split
     ·rfl
     ·rename_i h3;rw[dM.2 h3];exact dM.2 fun hm=>by
       obtain⟨y,hy,rfl⟩:=Kq.1 hm;exact hne (hP2 y hy)
    ·rw[if_neg hs];by_cases hx:s=nm x
     ·subst hx;rw[JV (by simp),JV (by simp),lA,if_neg hout,vd hP1 hP2,hP]
     ·rw[if_neg (by simp[hs,hx])];simp only[Ks,Kc,hx,false_or]
   by_cases h1:bF same (aC nm a (nm x)) (aC nm b (nm x))=true
   ·rw[JV h1]at hok |-;exact step _ (by unfold pick;rw[JV h1]) hok
   ·rw[if_neg h1]at hok |-;by_cases h2:bF same (aC nm a (nm x)) (aC nm c (nm x))=true\/bF same (aC nm b (nm x)) (aC nm c (nm x))=true
    ·rw[JV h2]at hok |-;exact step _ (by unfold pick;rw[if_neg h1]) hok
    ·rw[if_neg h2]at hok;cases hok
theorem b9{nm:α->aT}{same:α->α->Bool}{a b c:List α}(h:(a7 nm same a b c).2.2=true):((a7 nm same a b c).1.map nm).Nodup/\∀s,aC nm (a7 nm same a b c).1 s=pick nm same a b c s:=by
 obtain⟨h1,h2⟩:=ij nm same a b c (a++(b++c)) [] [] h (fun y hy=>by cases hy) (by simp);refine⟨h1,fun s=>?_⟩
 have:=h2 s
 unfold a7;rw[this,if_neg (by simp)];split
 ·rfl
 ·rename_i hs;simp only[Lo,J3,Mx]at hs;unfold pick;rw[dM.2 hs.2.1,dM.2 hs.2.2];simp
theorem cR{nm:α->aT}{same:α->α->Bool}(h:∀x y,nm x=nm y->(same x y=true↔x=y)){a b c:List α}(h1:(a7 nm same a b c).2.2=true)(s:aT):aC nm (a7 nm same a b c).1 s=aC nm (a7 nm same a c b).1 s:=by
 have h2:(a7 nm same a c b).2.2=true:=by rw[<- hM h];exact h1
 rw[(b9 h1).2,(b9 h2).2];unfold pick;have p1:=di h a b s;have p2:=di h a c s;by_cases e1:aC nm a s=aC nm b s
 ·by_cases e2:aC nm a s=aC nm c s
  ·rw[JV (p1.2 e1),JV (p2.2 e2),<- e1,<- e2]
  ·rw[JV (p1.2 e1),if_neg (fun k=>e2 (p2.1 k))]
 ·by_cases e2:aC nm a s=aC nm c s
  ·rw[if_neg (fun k=>e1 (p1.1 k)),JV (p2.2 e2)]
  ·rw[if_neg (fun k=>e1 (p1.1 k)),if_neg (fun k=>e2 (p2.1 k))];by_cases hs:s∈(a++(b++c)).map nm
   ·obtain⟨x,hx,rfl⟩:=Kq.1 hs;rcases (iD nm same a b c).1 h1 x hx with h3|h3|h3
    ·exact absurd ((di h _ _ _).1 h3) e1
    ·exact absurd ((di h _ _ _).1 h3) e2
    ·exact (di h _ _ _).1 h3
   ·simp only[Lo,J3,Mx]at hs;rw[dM.2 hs.2.1,dM.2 hs.2.2]
end Go.Av.Ap
namespace Go.Av.Ap
variable {α:Type}
theorem iC{nm:α->aT}:∀ {l:List α},(l.map nm).Nodup->∀ {x:α},x∈l->aC nm l (nm x)=[x]
 | y:: l,hn,x,hx=>by
  simp only[Ks,K7]at hn;unfold aC;rw[List.find?_cons];by_cases h:nm y=nm x
  ·have:y=x:=by
    rcases Kc.1 hx with rfl|hx
    ·rfl
    ·exact absurd (Kq.2 ⟨x,hx,h.symm⟩) hn.1
   subst this;simp
  ·have hx':x∈l:=by
    rcases Kc.1 hx with rfl|hx
    ·exact absurd rfl h
    ·exact hx
   have hb:(nm y== nm x)=false:=by rw[J4];exact h
   rw[hb];exact iC hn.2 hx'
theorem jd{nm:α->aT}:∀ {l:List α},(l.map nm).Nodup->l.Nodup
 |[],_=>ML
 |x:: l,h=>by
  simp only[Ks,K7]at h;exact K7.2 ⟨fun hm=>h.1 (Kq.2 ⟨x,hm,rfl⟩),jd h.2⟩
theorem ny{nm:α->aT}{l m:List α}(hl:(l.map nm).Nodup)(h:∀s,aC nm l s=aC nm m s){x:α}(hx:x∈l):x∈m:=by
 have h1:=iC hl hx;rw[h]at h1;exact (bZ nm (x:=x) (by rw[h1];simp)).1
theorem eb{nm:α->aT}{l m:List α}(hl:(l.map nm).Nodup)(hm:(m.map nm).Nodup)(h:∀s,aC nm l s=aC nm m s):l.Perm m:=
 (List.perm_ext_iff_of_nodup (jd hl) (jd hm)).2 fun _=>⟨fun hx=>ny hl h hx,fun hx=>ny hm (fun s=>(h s).symm) hx⟩
theorem eT{nm:α->aT}{same:α->α->Bool}(h:∀x y,nm x=nm y->(same x y=true↔x=y))(a b:List α):(a7 nm same a b a).2.2=true/\∀s,aC nm (a7 nm same a b a).1 s=aC nm b s:=by
 have h1:(a7 nm same a b a).2.2=true:=(iD nm same a b a).2 fun x _=>.inr (.inl ((di h a a (nm x)).2 rfl));refine⟨h1,fun s=>?_⟩;rw[(b9 h1).2];unfold pick;by_cases e:bF same (aC nm a s) (aC nm b s)=true
 ·rw[JV e];exact (di h a b s).1 e
 ·rw[if_neg e]
theorem eU{nm:α->aT}{same:α->α->Bool}(h:∀x y,nm x=nm y->(same x y=true↔x=y))(a b:List α):(a7 nm same a b b).2.2=true/\∀s,aC nm (a7 nm same a b b).1 s=aC nm b s:=by
 have h1:(a7 nm same a b b).2.2=true:=(iD nm same a b b).2 fun x _=>.inr (.inr ((di h b b (nm x)).2 rfl));refine⟨h1,fun s=>?_⟩;rw[(b9 h1).2];unfold pick;by_cases e:bF same (aC nm a s) (aC nm b s)=true
 ·rw[JV e]
 ·rw[if_neg e]
theorem vS(a b:List bI):bF (fun x y=>x.1== y.1&&gU x.2 y.2) a b=true↔a=b:=
 sL _ (fun x y=>by
  obtain⟨s,t⟩:=x;obtain⟨s',t'⟩:=y;simp only[JN,Kw,ku,Ku]) a b
end Go.Av.Ap
namespace Go.Av.Ap
open Go Go.Av
theorem nf{α:Type}{nm:α->aT}(l:List α)(s:aT):(l.find? fun x=>nm x== s).toList=aC nm l s:=rfl
def ve{α:Type}{nm:α->aT}{l m:List α}(hl:(l.map nm).Nodup)(h:l.Perm m)(s:aT):(l.find? fun x=>nm x== s)=m.find? fun x=>nm x== s:=by
 have hm:(m.map nm).Nodup:=(h.map nm).nodup_iff.1 hl;have key:aC nm l s=aC nm m s:=by
  by_cases hs:s∈l.map nm
  ·obtain⟨x,hx,rfl⟩:=Kq.1 hs;rw[iC hl hx,iC hm (h.mem_iff.1 hx)]
  ·rw[dM.2 hs,dM.2 fun h2=>hs ((h.map nm).mem_iff.2 h2)]
 rw[<- nf,<- nf]at key;cases h1:l.find? fun x=>nm x== s<;>cases h2:m.find? fun x=>nm x== s<;>rw[h1,h2]at key<;>simp at key
 all_goals first|rfl|rw[key]
structure CEq (c c':Tcx):Prop where
 vars:∀s,bN (fun z:bI=>z.1== s) c.vars=bN (fun z:bI=>z.1== s) c'.vars
 funcs:∀s,(c.funcs.find? fun f=>f.name== s)=c'.funcs.find? fun f=>f.name== s
 uses:∀u,u∈c.uses↔u∈c'.uses
 faces:c.faces=c'.faces
def xE{c c':Tcx}(C:CEq c c')(e:Exp):db c e=db c' e:=by
 unfold db;rw[C.funcs,C.faces];simp only[C.uses]
def Cs{c c':Tcx}(C:CEq c c')(r:List bI->Exp->dU Ty)(ls:List bI)(e:Exp):cB c r ls e=cB c' r ls e:=by
 unfold cB;rw[xE C,C.vars]
theorem xn{c c':Tcx}(C:CEq c c'):∀d:Nat,bL c d=bL c' d
 |0=>rfl
 |d+1=>by
  show cB c (bL c d)=cB c' (bL c' d);rw[xn C d];funext ls e;exact Cs C _ _ _
def GV{c c':Tcx}(C:CEq c c')(f:Fun):uy c f=uy c' f:=by
 unfold uy;rw[xn C]
theorem oJ:{l:List (aT×Int)} ->(∀x∈l,x.2=0)->(bC l).2=0
 |[],_=>rfl
 |y:: l,h=>by
  unfold bC;rw[JV (h y KX)];exact oJ fun x hx=>h x (KW _ hx)
def uW{l:List (aT×Int)}:(bC l).2=0↔∀x∈l,x.2=0:=⟨wC,oJ⟩
theorem dN{α:Type}{p:α->Bool}:∀ {l:List α} {x:α},bN p l=some x->x∈l/\p x=true
 | y:: l,x,h=>by
  unfold bN at h;split at h
  ·rename_i z hz;cases h;exact⟨KW _ (dN hz).1,(dN hz).2⟩
  ·cases hp:p y with
   |true=>rw[hp]at h;cases h;exact⟨KX,hp⟩
   |false=>rw[hp]at h;cases h
theorem oZ{α:Type}{p:α->Bool}:∀ {l:List α},bN p l=none->∀x∈l,p x=false
 | y:: l,h,x,hx=>by
  unfold bN at h;split at h
  ·cases h
  ·rename_i hz;cases hp:p y with
   |true=>rw[hp]at h;cases h
   |false=>
    rcases Kc.1 hx with rfl|hx
    ·exact hp
    ·exact oZ hz x hx
def vr{nm:bI->aT}{l m:List bI}(hl:(l.map nm).Nodup)(h:l.Perm m)(s:aT):bN (fun z=>nm z== s) l=bN (fun z=>nm z== s) m:=by
 cases h1:bN (fun z=>nm z== s) l with
 | none=>
  cases h2:bN (fun z=>nm z== s) m with
  |none=>rfl
  |some y=>
   have:=oZ h1 y (h.mem_iff.2 (dN h2).1)
   rw[(dN h2).2]at this;cases this
 | some x=>
  cases h2:bN (fun z=>nm z== s) m with
  |none=>
   have:=oZ h2 x (h.mem_iff.1 (dN h1).1)
   rw[(dN h1).2]at this;cases this
  |some y=>
   have ex:nm x=s:=by simpa using(dN h1).2
   have ey:nm y=s:=by simpa using(dN h2).2
   have h3:=iC hl (dN h1).1;have h4:=iC hl (h.mem_iff.2 (dN h2).1);rw[ex]at h3;rw[ey,h3]at h4;cases h4;rfl
theorem nN{α β:Type}:∀l:List (α×β),(l.map Prod.fst).zip (l.map Prod.snd)=l
 |[]=>rfl
 |x:: l=>by simp only[Ks,Md,nN l]
def ml{α:Type}{p:α->Prop}{l m:List α}(h:l.Perm m):(∀x∈l,p x)↔∀x∈m,p x:=⟨fun a x hx=>a x (h.mem_iff.2 hx),fun a x hx=>a x (h.mem_iff.1 hx)⟩
def eX(name:aT)(u:List aT)(l:List (bI×Exp))(fs:List Fun):Mod:=⟨name,u,l.map Prod.fst,l.map Prod.snd,fs,false,[],[],[]⟩
def vE{name:aT}{u:List aT}{l:List (bI×Exp)}{fs:List Fun}:(gQ (eX name u l fs)).2=0↔∀x∈l,ib [] x.2 x.1.2=0:=by
 unfold gQ;rw[uW];simp only[eX,JL,JZ,L6,ek,nN,List.forall_mem_map]
def oB{name:aT}{u u':List aT}{l l':List (bI×Exp)}{fs fs':List Fun}(hu:u.Perm u')(hl:l.Perm l')(hf:fs.Perm fs')(F:List Face):
  (dE (eX name u l fs) F).2=0↔(dE (eX name u' l' fs') F).2=0:=by
 have hr:aZ (eX name u l fs)=aZ (eX name u' l' fs'):=kW hu hl hf;unfold dE;rw[<- hr];by_cases hc:(F.all gp&&aZ (eX name u l fs))=true
 ·rw[JV hc,JV hc];simp only[JN]at hc;have hm:=kT hc.2;have C:CEq (dL (eX name u l fs) (cW [] F)) (dL (eX name u' l' fs') (cW [] F)):=
   ⟨fun s=>vr hm.vnames (hl.map Prod.fst) s,fun s=>ve hm.fnames hf s,fun x=>hu.mem_iff,rfl⟩
  rw[uW,uW];simp only[J3,Kc,or_imp,forall_and,forall_eq,vE];refine and_congr ?_ (and_congr (ml hl) ?_)
  ·exact ml (hu.map _)
  ·simp only[wI,List.forall_mem_map,GV C];exact ml (p:=fun f=>uy (dL (eX name u' l' fs') (cW [] F)) f=0) hf
 ·rw[if_neg hc,if_neg hc]
def yB{α:Type}(x:dU α):Prop:=∀n b n',x n= .er b n'->b≠27
def tJ{α:Type}(a:α):yB (.ok a):=fun n b n' h=>by cases h
def pn{α:Type}{e:Int}(h:e≠27):yB (α:=α) (.er e):=fun n b n' h'=>by cases h';exact h
def kk{α β:Type}{x:dU α}{f:α->dU β}(hx:yB x)(hf:∀a,yB (f a)):yB (.bind x f):=fun n b n' h=>by
 unfold dU.bind at h;split at h
 ·exact hf _ _ _ _ h
 ·rename_i e' m hm;cases h;exact hx _ _ _ hm
def jS{α:Type}{c:Prop}[Decidable c]{x y:dU α}(h1:yB x)(h2:yB y):yB (if c then x else y):=by
 split
 ·exact h1
 ·exact h2
theorem rW{r:Exp->dU Ty}(h:∀e,yB (r e)):∀l,yB (dR r l)
 |[]=>tJ _
 |e:: l=>kk (h e) fun _=>kk (rW h l) fun _=>tJ _
theorem rX(c:Tcx):∀(d:Nat)(ls:List bI)(e:Exp),yB (bL c d ls e)
 |0,_,_=>pn (by decide)
 | d+1,ls,e=>by
  have H:=rX c d;show yB (cB c (bL c d) ls e);unfold cB;refine jS ?_ (jS ?_ (jS ?_ (jS ?_ ?_)))
  ·split
   ·exact tJ _
   ·exact pn (by decide)
  ·exact kk (H _ _) fun _=>H _ _
  ·split
   ·exact pn (by decide)
   ·exact jS (kk (H _ _) fun _=>jS (tJ _) (pn (by decide))) (tJ _)
  ·split
   ·exact pn (by decide)
   ·exact jS (kk (rW (H _) _) fun _=>jS (fun n b n' h=>by cases h) (pn (by decide))) (pn (by decide))
  ·refine kk (rW (H _) _) fun l n b n' h=>?_;split at h
   ·cases h
   ·cases h;decide
def BZ(ls:List bI)(e:Exp)(w:Ty):ib ls e w≠27:=by
 unfold ib;split
 ·rename_i b n h;exact rX _ _ _ _ _ _ _ h
 ·split
  ·decide
  ·split<;>decide
def G8(c:Tcx)(f:Fun):uy c f≠27:=by
 unfold uy;split
 ·rename_i b n h;exact rX _ _ _ _ _ _ _ h
 ·split
  ·split<;>decide
  ·decide
theorem vF:∀ {l:List (aT×Int)},(∀x∈l,x.2≠27)->(bC l).2≠27
 |[],_=>by simp[bC]
 |y:: l,h=>by
  unfold bC;split
  ·exact vF fun x hx=>h x (KW _ hx)
  ·exact h y KX
def po(ls:List bI)(vs:List bI)(es:List Exp):∀x∈ek ls vs es,x.2≠27:=by
 intro x hx;unfold ek at hx;obtain⟨y,_,rfl⟩:=Kq.1 hx;exact BZ _ _ _
def zp(m:Mod)(F:List Face):(dE m F).2≠27:=by
 unfold dE;split
 ·refine vF fun x hx=>?_;rcases J3.1 hx with hx|hx
  ·unfold ka at hx;obtain⟨y,_,rfl⟩:=Kq.1 hx;simp only;split<;>decide
  ·rcases Kc.1 hx with rfl|hx
   ·unfold gQ;refine vF fun x hx=>?_;rcases J3.1 hx with hx|hx
    ·exact po _ _ _ x hx
    ·split at hx
     ·rcases J3.1 hx with hx|hx
      ·exact po _ _ _ x hx
      ·exact po _ _ _ x hx
     ·cases hx
   ·unfold wI at hx;obtain⟨y,_,rfl⟩:=Kq.1 hx;exact G8 _ _
 ·decide
end Go.Av.Ap
namespace Go.Av.Ap
variable {α:Type}
theorem mB{β:Type}(g:α->β)(F:β->Bool):∀(l:List α)(i:Int),be F (l.map g) i=be (fun x=>F (g x)) l i
 |[],_=>rfl
 |x:: l,i=>by simp only[Ks,be,mB g F l]
theorem mw{nm:α->aT}{a b:List α}{s:aT}(h:aC nm a s=aC nm b s):
  (be (fun x=>x== s) (a.map nm) 0= -1/\be (fun x=>x== s) (b.map nm) 0= -1)\/
  ∃(i j:Nat)(hi:i<a.length)(hj:j<b.length),be (fun x=>x== s) (a.map nm) 0=(i:Int)/\be (fun x=>x== s) (b.map nm) 0=(j:Int)/\a[i]=b[j]:=by
 rw[mB,mB];unfold aC at h;rcases ga (fun x=>nm x== s) a 0 (by omega)with⟨h1,h2⟩|⟨i,hi,h1,h2⟩<;>rcases ga (fun x=>nm x== s) b 0 (by omega)with⟨h3,h4⟩|⟨j,hj,h3,h4⟩<;>rw[h2,h4]at h
 ·exact .inl ⟨h1,h3⟩
 ·simp at h
 ·simp at h
 ·exact .inr ⟨i,j,hi,hj,by rw[h1];omega,by rw[h3];omega,by simpa using h⟩
def fh:List aT->List aT->List aT
 |[],out=>out
 |s:: l,out=>if out.contains s=true then fh l out else fh l (out++[s])
theorem jT:∀(l out:List aT),(fh l out).length<=out.length+l.length
 |[],out=>by simp[fh]
 |s:: l,out=>by
  simp only[fh];split
  ·have:=jT l out;simp only[Ke];omega
  ·have:=jT l (out++[s]);simp only[JY,Ke,J8]at this |-;omega
end Go.Av.Ap
