/- The abstract evaluator of the model and plain laws, part 3: its soundness holds for every program whose table of types is the evaluator's. No further condition. -/
import Derived.Test.YtkkabinknmldeaaGreatLb
import Derived.KernelRfl
import Derived.Below
import Derived.Lib.IndexMore
import Derived.Lib.Fields
import Derived.Shelf.SlSortCmp.WholeK
import Derived.Lib.Bytealg
import Derived.IntWalk
import Derived.ChangeSame
import Derived.OpenShut
import Derived.ChangeReads
import Derived.ReadAgain
import Derived.Deep.Slices
import Derived.WideShapes
import Derived.SizedLaws
import Derived.Sort.MapsRangeIn
import Derived.Maps.OwnIn
import Derived.RangeFuncSeq
set_option linter.unusedSimpArgs false
set_option linter.unusedVariables false
namespace Go.Av
variable [Dr]
omit [Dr] in
theorem xz{l:List Nat}{t:Nat}(h:t∈l):fM l t=true:=(im l t).2 h
omit [Dr] in
theorem nP{l:List Nat}{d:Option Nat}(h:ck l d=false):∀ t∈l,d≠some t:=by
 intro t ht hd
 rw[hd] at h
 simp only[ck] at h
 rw[xz ht] at h
 cases h
omit [Dr] in
theorem oR{a b:Option Nat}(h:clash a b=false):∀ t,a=some t→b≠some t:=by
 intro t ha hb
 rw[ha,hb] at h
 simp[clash] at h
section
variable {cx:Cx} {ops:Array Oper} {base:Nat} {e:Env}
omit [Dr] in
theorem vK{gid:Nat}{f:Foot}{ss:Option Nat}{u:Upd}(h:Shape e gid f ss u):Shape e gid f ss (gV u):=
 ⟨fun _=>rfl,fun _=>rfl,fun _=>rfl,fun _ x h=>by simp[gV] at h,fun _=>rfl,fun _=>rfl,fun hw C off hh=>h.loc hw C off hh,fun x h=>by simp[gV] at h⟩
omit [Dr] in
theorem Ag{p q:Upd→Prop}(hpq:∀ u,p u→q (gV u)){A:Act1}(h:cN p A):cN q (iD A):=by
 cases A with
 | bad=>trivial
 | stat u=>exact hpq _ h
 | dyn m sh=>exact fun v=>hpq _ (h v)
 | thr v=>trivial
omit [Dr] in
theorem Gw {p:∀ {α:Type},M α→Prop} {A:Act1} (h:bV p A):bV p (iD A):=by
 cases A <;> exact h
omit [Dr] in
theorem qy{i:Nat}{o:Oper}(ho:ops[i]? = some o){h h':Hp}{u:Upd}(hr:fE cx base ops i e h= .ok u h'):Shape e ((base + i) * 1000) (az cx o) (cM o) u:=by
 unfold fE at hr
 rw[ho] at hr
 simp only at hr
 cases hgd:o.guard with
 | none=>rw[hgd] at hr;exact mc (mq _ _ _ _) hr
 | some g=>
  obtain⟨j,want⟩:=g
  rw[hgd] at hr
  simp only at hr
  cases hdj:dM ops j with
  | none=>rw[hdj] at hr;cases hr
  | some t=>
   rw[hdj] at hr
   simp only at hr
   cases hpl:fm cx o with
   | false=>rw[hpl] at hr;cases hr
   | true=>
    rw[hpl] at hr
    simp only[cond_true] at hr
    have h0:∀ {h h':Hp},(M.pure (Upd.ofV (.tup [])):M Upd) h= .ok u h'→Shape e ((base + i) * 1000) (az cx o) (cM o) u:=by
     intro h h' hh
     cases hh
     exact Shape.ofV ..
    generalize e.av t=q at hr
    cases q with
    | bool b=>
     simp only[kZ] at hr
     cases hb:(b== want) with
     | false=>rw[hb] at hr;exact h0 hr
     | true=>rw[hb] at hr;exact mc (Ag (fun u=>vK) (mq _ _ _ _)) hr
    | tup vs=>
     cases vs with
     | nil=>exact h0 hr
     | cons v vs=>cases hr
    | _=>cases hr
omit [Dr] in
theorem An {p:∀ {α:Type},M α→Prop} (h1:∀ {α:Type} (m:M α),bE m→p m) (h2:∀ {α β:Type} (m:M α) (f:α→β),p m→p (ae m fun v=>M.pure (f v))) {A:Act1} (h:bV p A):p (eu A):=by
 cases A with
 | bad=>exact h1 _ bE.fail
 | stat u=>exact h1 _ (bE.pure u)
 | dyn m sh=>exact h2 _ _ h
 | thr v=>exact h.elim
omit [Dr] in
theorem kA {p:∀ {α:Type},M α→Prop} (h1:∀ {α:Type} (m:M α),bE m→p m) (h2:∀ {α β:Type} (m:M α) (f:α→β),p m→p (ae m fun v=>M.pure (f v)))
  {i:Nat} {o:Oper} (ho:ops[i]? = some o) (h:bV p (gg cx e ((base + i) * 1000) o)):p (fE cx base ops i e):=by
 unfold fE
 rw[ho]
 simp only
 cases hgd:o.guard with
 | none=>exact An h1 h2 h
 | some g=>
  obtain⟨j,want⟩:=g
  simp only
  cases hdj:dM ops j with
  | none=>exact h1 _ bE.fail
  | some t=>
   simp only
   cases hpl:fm cx o with
   | false=>exact h1 _ bE.fail
   | true=>
    simp only[cond_true]
    unfold kZ
    split
    ·rename_i b _
     cases hb:(b== want) with
     | false=>exact h1 _ (bE.pure _)
     | true=>exact An h1 h2 (Gw h)
    ·exact h1 _ (bE.pure _)
    ·exact h1 _ bE.fail
structure Small (ops:Array Oper):Prop where
 dst:∀(i:Nat)(o:Oper),ops[i]? = some o→∀ t,o.dst=some t→t < 1000
 src:∀(i:Nat)(o:Oper),ops[i]? = some o→∀ t∈jT o,t < 1000
omit [Dr] in
theorem Small.reads(hS:Small ops){i:Nat}{o:Oper}(ho:ops[i]? = some o):∀ t∈dt ops i,t < 1000:=by
 intro t ht
 rw[gQ ho,List.mem_append] at ht
 rcases ht with ht | ht
 ·unfold fj at ht
  split at ht
  ·rename_i j _ _
   cases hj:ops[j]? with
   | none=>rw[hj] at ht;simp at ht
   | some oj=>
    rw[hj] at ht
    simp only[Option.bind_some] at ht
    cases hd:oj.dst with
    | none=>rw[hd] at ht;simp at ht
    | some s=>rw[hd] at ht;simp at ht;rw[ht];exact hS.dst j oj hj s hd
  ·simp at ht
 ·exact hS.src i o ho t ht
omit [Dr] in
theorem oH{gid:Nat}{x:Foot}{ss:Option Nat}{u:Upd}{d:Option Tmp}(hsh:Shape e gid x ss u){t:Nat}(h1:d≠some t)(h2:ss≠some t)(h3:t < 1000):(e.upd d u).get t=e.get t:=by
 rw[cQ,if_neg h1]
 refine rD _ fun y hy hyt=>?_
 rcases hsh.keys y hy with h | h
 ·omega
 ·exact h2 (by rw[h,hyt])
omit [Dr] in
theorem Fi{gid:Nat}{x:Foot}{ss:Option Nat}{u:Upd}{d:Option Tmp}(hsh:Shape e gid x ss u)(hw:x.wl=false){t:Nat}(h1:d≠some t):(e.upd d u).get t=e.get t:=by
 rw[cQ,if_neg h1,hsh.ls hw];rfl
omit [Dr] in
theorem sZ{gid:Nat}{x:Foot}{ss:Option Nat}{u:Upd}{d:Option Tmp}{o:Oper}(hsh:Shape e gid x ss u)(hd:∀ t,d=some t→t < 1000) (hops:∀ t∈jT o,d≠some t∧ss≠some t∧t < 1000)
  (hloc:((az cx o).rl||(az cx o).wl)=true→x.wl=false) (hal:(az cx o).dr=true→x.ad=false∧x.dr=false):Agree cx o e (e.upd d u):=by
 refine⟨fun t ht=>oH hsh (hops t ht).1 (hops t ht).2.1 (hops t ht).2.2,fun h=>⟨fun t ht=>Fi hsh (hloc h) (fun hh=>Nat.not_lt.2 ht (hd t hh)),fun B=>?_⟩,fun h g=>?_,fun h s _ hl=>?_⟩
 ·show bJ (mP (eB e.lb u.unlb) u.lb) B=bJ e.lb B
  rw[hsh.lb (hloc h),hsh.unlb (hloc h)];rfl
 ·show aN (u.add++eO e.al u.drop) g=aN e.al g
  rw[hsh.noad (hal h).1,hsh.nodr (hal h).2];rfl
 ·have hw:=hloc (by rw[h];simp)
  show be (sB d u.ent (u.ls++e.sl)) (bG s)=true
  rw[hsh.ls hw,eY,List.nil_append,hl,Bool.and_true]
  have:np u.ent (bG s)=true:=by
   unfold np
   split
   ·rename_i C off hv
    obtain⟨t,off',ht⟩:=hsh.loc hw C off hv
    have:=nM hl ht
    rw[Bool.not_eq_true',Bool.eq_false_iff]
    intro hh
    exact this (Nat.eq_of_beq_eq_true hh)
   ·rfl
  rw[this,Bool.or_true]
omit [Dr] in
theorem Bt{gid:Nat}{x:Foot}{ss:Option Nat}{u:Upd}{d:Option Tmp}{o:Oper}(hsh:Shape e gid x ss u)(hd:∀ t,d=some t→t < 1000) (hops:∀ t∈jT o,d≠some t∧ss≠some t∧t < 1000)
  (hloc:((az cx o).rl||(az cx o).wl)=true→x.wl=false) (hal:(az cx o).dr=true→x.ad=false∧x.dr=false):Agree cx o (e.upd d u) e:=by
 have A:=sZ (cx:=cx) hsh hd hops hloc hal
 refine⟨fun t ht=>(A.ops t ht).symm,fun h=>⟨fun t ht=>((A.loc h).1 t ht).symm,fun B=>((A.loc h).2 B).symm⟩,fun h g=>(A.al h g).symm,fun _ s _ hl=>?_⟩
 have hl':be (sB d u.ent (u.ls++e.sl)) (bG s)=true:=hl
 rw[eY,il] at hl'
 simp only[Bool.and_eq_true] at hl'
 exact hl'.2.2
omit [Dr] in
theorem yu{gi gj:Nat}{x y:Foot}{si sj:Option Nat}{u v:Upd}{d f:Option Tmp}(hu:Shape e gi x si u)(hv:Shape e gj y sj v) (hy:y.wl=false)
  (hf:∀ t,f=some t→t < 1000) (hdf:∀ t,d=some t→f≠some t) (hsf:∀ t,si=some t→f≠some t)
  (hg:gi≠gj) (h1:x.dr=true→y.dr=false∧y.ad=false) (h2:x.ad=true→y.dr=false) (h3:x.ad=true→y.ad=true→x.wl=false):EqE ((e.upd d u).upd f v) ((e.upd f v).upd d u):=by
 have e1:=hv.ls hy
 have e2:=hv.lb hy
 have e3:=hv.unlb hy
 refine⟨fun t=>?_,fun g=>?_,fun B=>?_,fun B=>?_⟩
 ·rw[cQ,cQ,e1]
  show (if d=some t then u.ent else b9 (u.ls++sB f v.ent (v.ls++e.sl)) t)=if f=some t then v.ent else b9 (sB d u.ent (u.ls++e.sl)) t
  rw[e1,ki,List.nil_append]
  by_cases hft:f=some t
  ·rw[if_pos hft,if_neg (fun h=>hdf t h hft),rD,ki,if_pos hft]
   intro z hz hzt
   rcases hu.keys z hz with h | h
   ·exact Nat.not_lt.2 h (by rw[hzt];exact hf t hft)
   ·exact hsf z.1 h (by rw[hzt];exact hft)
  ·rw[if_neg hft]
   split
   ·rfl
   ·exact pJ (by rw[ki,if_neg hft])
 ·show aN (u.add++eO (v.add++eO e.al v.drop) u.drop) g=aN (v.add++eO (u.add++eO e.al u.drop) v.drop) g
  cases hxd:x.dr with
  | true=>
   obtain⟨h4,h5⟩:=h1 hxd
   rw[hv.noad h5,hv.nodr h4]
   rfl
  | false=>
   rw[hu.nodr hxd]
   cases hxa:x.ad with
   | false=>rw[hu.noad hxa];rfl
   | true=>
    rw[hv.nodr (h2 hxa)]
    cases hya:y.ad with
    | false=>rw[hv.noad hya];rfl
    | true=>
     have k1:=hu.add (h3 hxa hya)
     have k2:=hv.add hy
     show aN (u.add++(v.add++e.al)) g=aN (v.add++(u.add++e.al)) g
     rw[eT,eT,eT,eT]
     by_cases hgi:g=gi
     ·rw[pk k2 (by omega)]
     ·rw[pk k1 hgi]
 ·show bJ (mP (eB (mP (eB e.lb v.unlb) v.lb) u.unlb) u.lb) B=bJ (mP (eB (mP (eB e.lb u.unlb) u.lb) v.unlb) v.lb) B
  rw[e2,e3];rfl
 ·show be (sB d u.ent (u.ls++sB f v.ent (v.ls++e.sl))) B=be (sB f v.ent (v.ls++sB d u.ent (u.ls++e.sl))) B
  simp only[eY,il]
  ac_rfl
end
end Go.Av
namespace Go.Av
variable [Dr]
section
variable {cx:Cx} {ops:Array Oper} {base:Nat}
structure Ind (cx:Cx) (ops:Array Oper) (i j:Nat) (a b:Oper):Prop where
 ha:ops[i]? = some a
 hb:ops[j]? = some b
 piv:(az cx a).piv=false
 l1:(az cx a).wl=true→(az cx b).rl=false∧(az cx b).wl=false
 l2:(az cx a).rl=true→(az cx b).wl=false
 h1:(az cx a).wh=true→(az cx b).rh=false∧(az cx b).wh=false
 h2:(az cx a).rh=true→(az cx b).wh=false∨(az cx b).nw=true
 g1:(az cx a).dr=true→(az cx b).dr=false∧(az cx b).ad=false
 g2:(az cx a).ad=true→(az cx b).dr=false
 g3:(az cx a).ad=true→(az cx b).ad=true→(az cx a).wl=false∧(az cx b).wl=false
 r1:∀ t∈dt ops j,a.dst≠some t
 r2:∀ t∈dt ops i,b.dst≠some t
 s1:∀ t∈dt ops j,cM a≠some t
 s2:∀ t∈dt ops i,cM b≠some t
 c1:∀ t,cM a=some t→b.dst≠some t
 c2:∀ t,a.dst=some t→cM b≠some t
 c3:∀ t,a.dst=some t→b.dst≠some t
omit [Dr] in
theorem Ci{i j:Nat}(h:nH cx ops i j=true):∃ a b,Ind cx ops i j a b:=by
 unfold nH at h
 split at h
 ·rename_i a b ha hb
  refine⟨a,b,?_⟩
  simp only[Bool.and_eq_true,Bool.not_eq_true'] at h
  obtain⟨⟨⟨⟨⟨⟨⟨⟨⟨⟨⟨⟨⟨⟨k1,k2⟩,k3⟩,k4⟩,k5⟩,k6⟩,k7⟩,k8⟩,k9⟩,k10⟩,k11⟩,k12⟩,k13⟩,k14⟩,k15⟩:=h
  refine⟨ha,hb,k1,fun q=>?_,fun q=>?_,fun q=>?_,fun q=>?_,fun q=>?_,fun q=>?_,fun q q'=>?_,nP k9,nP k10,nP k11,nP k12,oR k13,oR k14,oR k15⟩
  ·rw[q] at k2;simpa using k2
  ·rw[q] at k3;simpa using k3
  ·rw[q] at k4;simpa using k4
  ·rw[q] at k5;simp only[Bool.true_and] at k5;cases hb:(az cx b).wh <;> simp_all
  ·rw[q] at k6;simpa using k6
  ·rw[q] at k7;simpa using k7
  ·rw[q,q'] at k8;simpa using k8
 ·cases h
omit [Dr] in
theorem swap(hI:IsoPure cx)(hS:Small ops){i j:Nat}(hij:nH cx ops i j=true)(hne:i≠j)(e:Env)(h:Hp):
  RE (ae (stepG cx base ops i e) (stepG cx base ops j) h) (ae (stepG cx base ops j e) (stepG cx base ops i) h):=by
 obtain⟨a,b,I⟩:=Ci hij
 have hda:dM ops i=a.dst:=by simp[dM,I.ha]
 have hdb:dM ops j=b.dst:=by simp[dM,I.hb]
 unfold stepG
 rw[hda,hdb]
 simp only[ae,M.pure]
 cases hri:fE cx base ops i e h with
 | fail=>trivial
 | pan v h'=>exact absurd hri (kA (p:=@eN) (fun _ g=>g.read.stay) (fun _ f g=>g.bnd f) I.ha ((fk hI e _ a).stay I.piv) h v h')
 | ok u h1=>
  simp only
  have shu:=qy I.ha hri
  have hra:=gQ (ops:=ops) I.ha
  have hrb:=gQ (ops:=ops) I.hb
  have hbo:∀ t∈jT b,a.dst≠some t∧cM a≠some t∧t < 1000:=fun t ht=>⟨I.r1 t (by rw[hrb];simp[ht]),I.s1 t (by rw[hrb];simp[ht]),hS.src j b I.hb t ht⟩
  have hao:∀ t∈jT a,b.dst≠some t∧cM b≠some t∧t < 1000:=fun t ht=>⟨I.r2 t (by rw[hra];simp[ht]),I.s2 t (by rw[hra];simp[ht]),hS.src i a I.ha t ht⟩
  have Abwd:Agree cx b (e.upd a.dst u) e:=Bt shu (hS.dst i a I.ha) hbo (fun q=>by
   cases hw:(az cx a).wl with
   | false=>rfl
   | true=>obtain⟨q1,q2⟩:=I.l1 hw;rw[q1,q2] at q;cases q) (fun q=>by
   constructor
   ·cases hw:(az cx a).ad with
    | false=>rfl
    | true=>have:=I.g2 hw;rw[this] at q;cases q
   ·cases hw:(az cx a).dr with
    | false=>rfl
    | true=>have:=(I.g1 hw).1;rw[this] at q;cases q)
  have hgb:∀ t∈fj ops b,e.get t=(e.upd a.dst u).get t:=fun t ht=>by
   have htr:t∈dt ops j:=by rw[hrb];simp[ht]
   exact (oH shu (I.r1 t htr) (I.s1 t htr) (hS.reads I.hb t htr)).symm
  -- the second, after the first
  cases hrj:fE cx base ops j (e.upd a.dst u) h1 with
  | fail=>trivial
  | pan v h2=>
   have hj:=gB (base:=base) I.hb hgb Abwd (h:=h1) (by rw[hrj];simp)
   rw[hrj] at hj
   -- j leaves: so it may write, and i did not touch the heap
   have hwb:(az cx b).wh=true:=by
    cases hw:(az cx b).wh with
    | true=>rfl
    | false=>exact absurd hj ((kA (p:=@d8) (fun _ g=>g.read) (fun _ f g=>g.bnd f) I.hb ((fk hI e _ b).read hw)).stay _ _ _)
   have hwa:(az cx a).wh=false:=by
    cases hw:(az cx a).wh with
    | false=>rfl
    | true=>have:=(I.h1 hw).2;rw[this] at hwb;cases hwb
   have hh:h1=h:=by
    have hR:d8 (fE cx base ops i e):=kA (p:=@d8) (fun _ g=>g.read) (fun _ f g=>g.bnd f) I.ha ((fk hI e _ a).read hwa)
    rcases hR h with hx | ⟨u',hx⟩ <;> rw[hri] at hx <;> cases hx
    rfl
   subst hh
   rw[hj]
   exact rfl
  | ok v h2=>
   have hj:=gB (base:=base) I.hb hgb Abwd (h:=h1) (by rw[hrj];simp)
   rw[hrj] at hj
   have shv:=qy I.hb hj
   have Afwd:Agree cx a e (e.upd b.dst v):=sZ shv (hS.dst j b I.hb) hao (fun q=>by
    cases hw:(az cx b).wl with
    | false=>rfl
    | true=>
     exfalso
     cases hrl:(az cx a).rl with
     | true=>have:=I.l2 hrl;rw[this] at hw;cases hw
     | false=>
      rw[hrl] at q
      have hwl:(az cx a).wl=true:=by simpa using q
      have:=(I.l1 hwl).2
      rw[this] at hw;cases hw) (fun q=>⟨(I.g1 q).2,(I.g1 q).1⟩)
   have hga:∀ t∈fj ops a,(e.upd b.dst v).get t=e.get t:=fun t ht=>by
    have htr:t∈dt ops i:=by rw[hra];simp[ht]
    exact oH shv (I.r2 t htr) (I.s2 t htr) (hS.reads I.ha t htr)
   have hcomm:EqE ((e.upd a.dst u).upd b.dst v) ((e.upd b.dst v).upd a.dst u):=by
    have hgij:(base + i) * 1000≠(base + j) * 1000:=by omega
    cases hwb:(az cx b).wl with
    | false=>
     exact yu shu shv hwb (hS.dst j b I.hb) I.c3 I.c1 hgij I.g1 I.g2 (fun q q'=>(I.g3 q q').1)
    | true=>
     have hwa:(az cx a).wl=false:=by
      cases hw:(az cx a).wl with
      | false=>rfl
      | true=>have:=(I.l1 hw).2;rw[this] at hwb;cases hwb
     refine (yu shv shu hwa (hS.dst i a I.ha) (fun t ht hh=>I.c3 t hh ht) (fun t ht hh=>I.c2 t hh ht) (Ne.symm hgij) (fun q=>⟨?_,?_⟩) (fun q=>?_) (fun q q'=>?_)).symm
     ·cases hw:(az cx a).dr with
      | false=>rfl
      | true=>have:=(I.g1 hw).1;rw[this] at q;cases q
     ·cases hw:(az cx a).ad with
      | false=>rfl
      | true=>have:=I.g2 hw;rw[this] at q;cases q
     ·cases hw:(az cx a).dr with
      | false=>rfl
      | true=>have:=(I.g1 hw).2;rw[this] at q;cases q
     ·have:=(I.g3 q' q).2;rw[this] at hwb;cases hwb
   cases hwa:(az cx a).wh with
   | false=>
    have hR:d8 (fE cx base ops i e):=kA (p:=@d8) (fun _ g=>g.read) (fun _ f g=>g.bnd f) I.ha ((fk hI e _ a).read hwa)
    have hh:h1=h:=by
     rcases hR h with hx | ⟨u',hx⟩ <;> rw[hri] at hx <;> cases hx
     rfl
    subst hh
    rw[hj]
    simp only
    have hi2:fE cx base ops i e h2= .ok u h2:=by
     cases hra':(az cx a).rh with
     | false=>
      obtain⟨q,hq⟩:bE (fE cx base ops i e):=kA (p:=@bE) (fun _ g=>g) (fun _ f g=>g.bnd f) I.ha ((fk hI e _ a).pure hwa hra')
      rw[hq] at hri ⊢
      cases q with
      | none=>cases hri
      | some u'=>cases hri;rfl
     | true=>
      rcases I.h2 hra' with hwb | hnw
      case inr=>
       have hNw:yE (fE cx base ops j e):=kA (p:=@yE) (fun _ g=>g.nw) (fun _ f g=>g.bnd f) I.hb ((fk hI e _ b).nw hnw)
       have hAp:mC (fE cx base ops i e)∧d8 (fE cx base ops i e):=kA (p:=fun m=>mC m∧d8 m) (fun _ g=>⟨g.app,g.read⟩) (fun _ f g=>mC.bnd g f) I.ha ((fk hI e _ a).app hwa)
       obtain⟨t,rfl⟩:=hNw _ _ _ hj
       exact hAp.1 _ t _ hri
      have hRb:d8 (fE cx base ops j e):=kA (p:=@d8) (fun _ g=>g.read) (fun _ f g=>g.bnd f) I.hb ((fk hI e _ b).read hwb)
      rcases hRb h1 with hx | ⟨u',hx⟩ <;> rw[hj] at hx <;> cases hx
      exact hri
    rw[gB I.ha hga Afwd (by rw[hi2];simp),hi2]
    exact⟨_,rfl,hcomm⟩
   | true=>
    obtain⟨hrb',hwb⟩:=I.h1 hwa
    obtain⟨q,hq⟩:bE (fE cx base ops j e):=kA (p:=@bE) (fun _ g=>g) (fun _ f g=>g.bnd f) I.hb ((fk hI e _ b).pure hwb hrb')
    rw[hq] at hj ⊢
    cases q with
    | none=>cases hj
    | some u'=>
     cases hj
     simp only[af]
     rw[gB I.ha hga Afwd (by rw[hri];simp),hri]
     exact⟨_,rfl,hcomm⟩
omit [Dr] in
theorem I6(hI:IsoPure cx)(hS:Small ops){i:Nat}(q:List Nat):∀(p:List Nat),(∀ x∈p,nH cx ops x i=true∧x≠i)→∀(e:Env)(h:Hp),RE (bc cx base ops (p++i:: q) e h) (bc cx base ops (i:: (p++q)) e h)
 | [],_,e,h=>RE.refl _
 | x:: p,hp,e,h=>by
  have ih:=fun e h=>I6 hI hS q p (fun y hy=>hp y (by simp[hy])) e h
  have h1:RE (bc cx base ops (x:: (p++i:: q)) e h) (bc cx base ops (x:: i:: (p++q)) e h):=by
   simp only[bc,ae] at ih ⊢
   cases stepG cx base ops x e h with
   | ok e' h'=>exact ih e' h'
   | pan v h'=>exact rfl
   | fail=>trivial
  refine h1.trans ?_
  have e1:bc cx base ops (x:: i:: (p++q)) e=ae (ae (stepG cx base ops x e) (stepG cx base ops i)) (bc cx base ops (p++q)):=by rw[g8];rfl
  have e2:bc cx base ops (i:: x:: (p++q)) e=ae (ae (stepG cx base ops i e) (stepG cx base ops x)) (bc cx base ops (p++q)):=by rw[g8];rfl
  show RE (bc cx base ops (x:: i:: (p++q)) e h) (bc cx base ops (i:: x:: (p++q)) e h)
  rw[e1,e2]
  exact RE.bind (swap hI hS (hp x (by simp)).1 (hp x (by simp)).2 e h) fun e e' x h=>oc _ h x
end
end Go.Av
namespace Go.Av
variable [Dr]
omit [Dr] in
theorem Gi{a b:Option (Nat×Bool)}(h:Bc a b=true):a=b:=by
 unfold Bc at h
 split at h
 ·rfl
 ·simp only[Bool.and_eq_true,beq_iff_eq] at h
  rw[Nat.eq_of_beq_eq_true h.1,h.2]
 ·cases h
def iG(gs:List (Option (Nat×Bool)×List Nat)):List Nat:=gs.flatMap (·.2)
omit [Dr] in
theorem jN(ops:Array Oper):∀ l:List Nat,iG (dN ops l)=l∧∀ g∈dN ops l,∀ i∈g.2,guardOf ops i=g.1
 | []=>⟨rfl,by simp[dN]⟩
 | i :: is=>by
  obtain⟨h1,h2⟩:=jN ops is
  simp only[dN]
  cases hg:dN ops is with
  | nil=>
   rw[hg] at h1
   have:is=[]:=by simpa [iG] using h1.symm
   subst this
   exact⟨rfl,by simp⟩
  | cons x r=>
   obtain⟨g,js⟩:=x
   rw[hg] at h1 h2
   simp only
   cases hs:Bc (guardOf ops i) g with
   | true=>
    refine⟨?_,fun y hy=>?_⟩
    ·simp only[cond_true,iG,List.flatMap_cons,List.cons_append] at h1 ⊢
     rw[h1]
    ·simp only[cond_true,List.mem_cons] at hy
     rcases hy with rfl | hy
     ·intro k hk
      simp only[List.mem_cons] at hk
      rcases hk with rfl | hk
      ·exact Gi hs
      ·exact h2 (g,js) (by simp) k hk
     ·exact h2 y (by simp[hy])
   | false=>
    refine⟨?_,fun y hy=>?_⟩
    ·simp only[cond_false,iG,List.flatMap_cons,List.cons_append,List.nil_append] at h1 ⊢
     rw[h1]
    ·simp only[cond_false,List.mem_cons] at hy
     rcases hy with rfl | rfl | hy
     ·intro k hk
      simp only[List.mem_singleton] at hk
      subst hk;rfl
     ·exact h2 (g,js) (by simp)
     ·exact h2 y (by simp[hy])
omit [Dr] in
theorem wI{ρ:Type}(e:Env)(d:Option Tmp)(A:Act1)(k:Env→M ρ):nu e d A k=ae (eu A) fun u=>k (e.upd d u):=by
 cases A with
 | bad=>rfl
 | stat u=>rfl
 | dyn m sh=>simp only[nu,eu,g8,aB]
 | thr v=>rfl
omit [Dr] in
theorem BD{α β:Type}{m:M α}{f g:α→M β}{h:Hp}(hfg:∀ u h',m h= .ok u h'→f u h'=g u h'):ae m f h=ae m g h:=by
 simp only[ae]
 cases hm:m h with
 | ok u h'=>exact hfg u h' hm
 | pan v h'=>rfl
 | fail=>rfl
section
variable {cx:Cx} {ops:Array Oper} {base:Nat}
omit [Dr] in
theorem Br{i:Nat}{o:Oper}(ho:ops[i]? = some o)(hg:guardOf ops i=none)(e:Env):fE cx base ops i e=eu (gg cx e ((base + i) * 1000) o):=by
 have:o.guard=none:=by simpa [guardOf,ho] using hg
 unfold fE
 rw[ho]
 simp only
 rw[this]
omit [Dr] in
theorem oo{i j t:Nat}{want:Bool}{o:Oper}(ho:ops[i]? = some o)(hg:guardOf ops i=some (j,want))(hj:dM ops j=some t)(hp:fm cx o=true)(e:Env):
  fE cx base ops i e=kZ (e.av t) want (eu (iD (gg cx e ((base + i) * 1000) o))):=by
 have:o.guard=some (j,want):=by simpa [guardOf,ho] using hg
 unfold fE
 rw[ho]
 simp only
 rw[this]
 simp only
 rw[hj]
 simp only
 rw[hp]
 rfl
omit [Dr] in
theorem xP{ρ:Type}:∀(is:List Nat)(e:Env)(k:Env→M ρ)(_:∀ i∈is,guardOf ops i=none),jJ cx base ops false is e k=ae (bc cx base ops is e) k
 | [],e,k,_=>rfl
 | i:: is,e,k,hg=>by
  simp only[jJ,bc]
  unfold stepG
  cases ho:ops[i]? with
  | none=>unfold fE;rw[ho];rfl
  | some o=>
   simp only
   rw[wI,Br ho (hg i (by simp)),g8,g8]
   have hd:dM ops i=o.dst:=by simp[dM,ho]
   rw[hd]
   congr 1
   funext u
   simp only[aB]
   exact xP is _ k fun j hj=>hg j (by simp[hj])
structure Turned (ds:List Nat) (e e':Env):Prop where
 get:∀ t,t ∉ ds→e'.get t=e.get t
 al:e'.al=e.al
 lb:e'.lb=e.lb
 lf:∀ B,be e.sl B=true→be e'.sl B=true
 ng:∀ t∈ds,(e'.get t).g=none
omit [Dr] in
theorem Turned.step{ds:List Nat}{e e':Env}(H:Turned ds e e'){u:Upd}{d:Option Nat}(hls:u.ls=[])(hadd:u.add=[])(hdrop:u.drop=none)(hlb:u.lb=none)(hunlb:u.unlb=none) (hg:u.ent.g=none)
  (hloc:∀ C off,u.ent.v= .loc C off→∃ t off',(e'.get t).v= .loc C off'):Turned (d.toList++ds) e (e'.upd d u):=by
 have hget:∀ t,(e'.upd d u).get t=if d=some t then u.ent else e'.get t:=fun t=>by rw[cQ,hls];rfl
 refine⟨fun t ht=>?_,?_,?_,fun B hB=>?_,fun t ht=>?_⟩
 ·simp only[List.mem_append,not_or,Option.mem_toList] at ht
  rw[hget,if_neg ht.1]
  exact H.get t ht.2
 ·show u.add++eO e'.al u.drop=e.al
  rw[hadd,hdrop];exact H.al
 ·show mP (eB e'.lb u.unlb) u.lb=e.lb
  rw[hlb,hunlb];exact H.lb
 ·have h1:=H.lf B hB
  show be (sB d u.ent (u.ls++e'.sl)) B=true
  rw[hls,eY,List.nil_append,h1,Bool.and_true]
  have:np u.ent B=true:=by
   unfold np
   split
   ·rename_i C off hv
    obtain⟨t,off',ht⟩:=hloc C off hv
    have:=nM h1 ht
    rw[Bool.not_eq_true',Bool.eq_false_iff]
    intro hh
    exact this (Nat.eq_of_beq_eq_true hh)
   ·rfl
  rw[this,Bool.or_true]
 ·rw[hget]
  split
  ·exact hg
  ·rename_i hd
   simp only[List.mem_append,Option.mem_toList] at ht
   rcases ht with ht | ht
   ·exact absurd ht hd
   ·exact H.ng t ht
omit [Dr] in
theorem Turned.refl(e:Env):Turned [] e e:=⟨fun _ _=>rfl,rfl,rfl,fun _ h=>h,fun t h=>by simp at h⟩
omit [Dr] in
theorem Turned.sub{ds ds':List Nat}{e e':Env}(H:Turned ds e e')(h:∀ t,t∈ds↔t∈ds'):Turned ds' e e':=
 ⟨fun t ht=>H.get t fun hh=>ht ((h t).1 hh),H.al,H.lb,H.lf,fun t ht=>H.ng t ((h t).2 ht)⟩
structure GroupOk (cx:Cx) (ops:Array Oper) (j:Nat) (want:Bool) (t:Nat) (is:List Nat):Prop where
 hj:dM ops j=some t
 each:∀ i∈is,∃ o,ops[i]? = some o∧guardOf ops i=some (j,want)∧fm cx o=true
 nt:t ∉ da ops is
omit [Dr] in
theorem jH(i:Nat)(is:List Nat):∀ t,t∈da ops (i:: is)↔dM ops i=some t∨t∈da ops is:=by
 intro t
 unfold da
 simp only[List.mem_filterMap,List.mem_cons,exists_eq_or_imp]
omit [Dr] in
theorem GroupOk.tail{j:Nat}{want:Bool}{t i:Nat}{is:List Nat}(G:GroupOk cx ops j want t (i:: is)):GroupOk cx ops j want t is:=
 ⟨G.hj,fun k hk=>G.each k (by simp[hk]),fun h=>G.nt ((jH i is t).2 (.inr h))⟩
omit [Dr] in
theorem GroupOk.ne{j:Nat}{want:Bool}{t i:Nat}{is:List Nat}(G:GroupOk cx ops j want t (i:: is)):dM ops i≠some t:=fun h=>G.nt ((jH i is t).2 (.inl h))
omit [Dr] in
theorem kX{A:Act1}{h h':Hp}{u:Upd}(hr:eu (iD A) h= .ok u h'):∃ u0,eu A h= .ok u0 h'∧u=gV u0:=by
 rw[pj] at hr
 cases hx:eu A h <;> rw[hx] at hr <;> simp at hr
 exact⟨_,by rw[hr.2],hr.1.symm⟩
omit [Dr] in
theorem t7{ρ:Type}{j:Nat}{want:Bool}{t:Nat}:∀(is:List Nat)(e:Env)(k:Env→M ρ)(h:Hp),GroupOk cx ops j want t is→e.av t= .bool want→jJ cx base ops true is e k h=ae (bc cx base ops is e) k h
 | [],e,k,h,_,_=>rfl
 | i:: is,e,k,h,G,hc=>by
  obtain⟨o,ho,hg,hp⟩:=G.each i (by simp)
  have hd:dM ops i=o.dst:=by simp[dM,ho]
  simp only[jJ,bc,ho,cond_true]
  rw[wI]
  unfold stepG
  rw[oo ho hg G.hj hp,hc,g8,g8]
  simp only[kZ,beq_self_eq_true,cond_true,aB,hd]
  refine BD fun u h' hu=>?_
  obtain⟨u0,hu0,rfl⟩:=kX hu
  refine t7 is _ k h' G.tail ?_
  have:(e.upd o.dst (gV u0)).get t=e.get t:=by rw[cQ,if_neg (by rw[← hd];exact G.ne)];rfl
  simp only[Env.av,this]
  exact hc
omit [Dr] in
theorem oh{j:Nat}{want:Bool}{t:Nat}:∀(is:List Nat)(e e':Env)(h h':Hp),GroupOk cx ops j want t is→e.av t= .bool want→bc cx base ops is e h= .ok e' h'→Turned (da ops is) e e':=by
 have key:∀(is:List Nat)(e0 e e':Env)(ds:List Nat)(h h':Hp),GroupOk cx ops j want t is→e.av t= .bool want→Turned ds e0 e→bc cx base ops is e h= .ok e' h'→Turned (da ops is++ds) e0 e':=by
  intro is
  induction is with
  | nil=>
   intro e0 e e' ds h h' _ _ H hr
   cases hr
   exact H
  | cons i is ih=>
   intro e0 e e' ds h h' G hc H hr
   obtain⟨o,ho,hg,hp⟩:=G.each i (by simp)
   have hd:dM ops i=o.dst:=by simp[dM,ho]
   simp only[bc] at hr
   unfold stepG at hr
   rw[oo ho hg G.hj hp,hc,g8] at hr
   simp only[kZ,beq_self_eq_true,cond_true,hd,ae] at hr
   cases hx:eu (iD (gg cx e ((base + i) * 1000) o)) h with
   | fail=>rw[hx] at hr;cases hr
   | pan v hh=>rw[hx] at hr;cases hr
   | ok u hh=>
    rw[hx] at hr
    simp only at hr
    obtain⟨u0,hu0,rfl⟩:=kX hx
    have hsh:=mc (mq cx e ((base + i) * 1000) o) hu0
    simp only[fm,Bool.and_eq_true,Bool.not_eq_true'] at hp
    have H2:=H.step (u:=gV u0) (d:=o.dst) rfl rfl rfl rfl rfl rfl (hsh.loc hp.1)
    refine (ih e0 _ e' _ hh h' G.tail ?_ H2 hr).sub fun s=>?_
    ·have:(e.upd o.dst (gV u0)).get t=e.get t:=by rw[cQ,if_neg (by rw[← hd];exact G.ne)];rfl
     simp only[Env.av,this]
     exact hc
    ·simp only[List.mem_append,jH,Option.mem_toList,hd]
     constructor
     ·rintro (h | h | h)
      ·exact .inl (.inr h)
      ·exact .inl (.inl h)
      ·exact .inr h
     ·rintro ((h | h) | h)
      ·exact .inr (.inl h)
      ·exact .inl h
      ·exact .inr (.inr h)
 intro is e e' h h' G hc hr
 exact (key is e e e' [] h h' G hc (.refl e) hr).sub (by simp)
def Off(c:AV)(want:Bool):Prop:=c= .tup []∨∃ b,c= .bool b∧(b== want)=false
omit [Dr] in
theorem Off.look{c:AV}{want:Bool}(h:Off c want)(m:M Upd):kZ c want m=M.pure (.ofV (.tup [])):=by
 rcases h with rfl | ⟨b,rfl,hb⟩
 ·rfl
 ·simp only[kZ,hb,cond_false]
omit [Dr] in
theorem HU{j:Nat}{want:Bool}{t:Nat}:∀(is:List Nat)(e:Env)(h:Hp),GroupOk cx ops j want t is→Off (e.av t) want→∃ e',bc cx base ops is e h= .ok e' h∧Turned (da ops is) e e'∧∀ s∈da ops is,e'.get s=⟨.val (.tup []),none⟩:=by
 have key:∀(is:List Nat)(e0 e:Env)(ds:List Nat)(h:Hp),GroupOk cx ops j want t is→Off (e.av t) want→Turned ds e0 e→(∀ s∈ds,e.get s=⟨.val (.tup []),none⟩)→
   ∃ e',bc cx base ops is e h= .ok e' h∧Turned (da ops is++ds) e0 e'∧∀ s∈da ops is++ds,e'.get s=⟨.val (.tup []),none⟩:=by
  intro is
  induction is with
  | nil=>exact fun e0 e ds h _ _ H hds=>⟨e,rfl,H,hds⟩
  | cons i is ih=>
   intro e0 e ds h G hc H hds
   obtain⟨o,ho,hg,hp⟩:=G.each i (by simp)
   have hd:dM ops i=o.dst:=by simp[dM,ho]
   have hget:∀ s,(e.upd o.dst (.ofV (.tup []))).get s=if o.dst=some s then ⟨.val (.tup []),none⟩ else e.get s:=fun s=>by rw[cQ];rfl
   have H2:=H.step (u:=.ofV (.tup [])) (d:=o.dst) rfl rfl rfl rfl rfl rfl (fun C off hh=>by cases hh)
   have hav:(e.upd o.dst (.ofV (.tup []))).av t=e.av t:=by
    have:(e.upd o.dst (.ofV (.tup []))).get t=e.get t:=by rw[hget,if_neg (by rw[← hd];exact G.ne)]
    simp only[Env.av,this]
   obtain⟨e',h1,h2,h3⟩:=ih e0 (e.upd o.dst (.ofV (.tup []))) (o.dst.toList++ds) h G.tail (by rw[hav];exact hc) H2 (fun s hs=>by
    rw[hget]
    split
    ·rfl
    ·rename_i hn
     simp only[List.mem_append,Option.mem_toList] at hs
     rcases hs with hs | hs
     ·exact absurd hs hn
     ·exact hds s hs)
   have hiff:∀ s,s∈da ops is++(o.dst.toList++ds)↔s∈da ops (i:: is)++ds:=fun s=>by
    simp only[List.mem_append,jH,Option.mem_toList,hd]
    constructor
    ·rintro (h | h | h)
     ·exact .inl (.inr h)
     ·exact .inl (.inl h)
     ·exact .inr h
    ·rintro ((h | h) | h)
     ·exact .inr (.inl h)
     ·exact .inl h
     ·exact .inr (.inr h)
   refine⟨e',?_,h2.sub hiff,fun s hs=>h3 s ((hiff s).2 hs)⟩
   simp only[bc]
   unfold stepG
   rw[oo ho hg G.hj hp,hc.look,hd]
   exact h1
 intro is e h G hc
 obtain⟨e',h1,h2,h3⟩:=key is e e [] h G hc (.refl e) (by simp)
 exact⟨e',h1,h2.sub (by simp),fun s hs=>h3 s (by simp[hs])⟩
end
end Go.Av
namespace Go.Av
variable [Dr]
section
variable {cx:Cx} {ops:Array Oper} {base:Nat}
structure Rel (ops:Array Oper) (L:List Nat) (e2 e:Env):Prop where
 get:∀ t,e2.get t=e.get t∨(e2.get t=Ent.none∧t < 1000∧∀ i∈L,t ∉ dt ops i)
 al:∀ g,aN e2.al g=aN e.al g
 lb:∀ B,bJ e2.lb B=bJ e.lb B
 lf:∀ B,be e2.sl B=true→be e.sl B=true
omit [Dr] in
theorem Rel.refl(ops:Array Oper)(L:List Nat)(e:Env):Rel ops L e e:=⟨fun _=>.inl rfl,fun _=>rfl,fun _=>rfl,fun _ h=>h⟩
omit [Dr] in
theorem Rel.sub{L L':List Nat}{e2 e:Env}(H:Rel ops L e2 e)(h:∀ i∈L',i∈L):Rel ops L' e2 e:=
 ⟨fun t=>(H.get t).imp id fun ⟨h1,h2,h3⟩=>⟨h1,h2,fun i hi=>h3 i (h i hi)⟩,H.al,H.lb,H.lf⟩
omit [Dr] in
theorem Rel.read{L:List Nat}{e2 e:Env}(H:Rel ops L e2 e){i t:Nat}(hi:i∈L)(ht:t∈dt ops i):e.get t=e2.get t:=by
 rcases H.get t with h | ⟨_,_,h⟩
 ·exact h.symm
 ·exact absurd ht (h i hi)
omit [Dr] in
theorem Rel.agree{L:List Nat}{e2 e:Env}(H:Rel ops L e2 e){i:Nat}{o:Oper}(hi:i∈L)(ho:ops[i]? = some o):Agree cx o e2 e:=by
 refine⟨fun t ht=>H.read hi (by rw[gQ ho];simp[ht]),fun _=>⟨fun t ht=>?_,fun B=>(H.lb B).symm⟩,fun _ g=>(H.al g).symm,fun _ s _ hl=>H.lf _ hl⟩
 rcases H.get t with h | ⟨_,h,_⟩
 ·exact h.symm
 ·omega
omit [Dr] in
theorem Rel.upd{L:List Nat}{e2 e:Env}(H:Rel ops L e2 e)(d:Option Tmp)(u:Upd):Rel ops L (e2.upd d u) (e.upd d u):=by
 refine⟨fun t=>?_,fun g=>?_,fun B=>?_,fun B hB=>?_⟩
 ·rw[cQ,cQ]
  split
  ·exact .inl rfl
  ·rw[kh,kh]
   split
   ·exact .inl rfl
   ·exact H.get t
 ·show aN (u.add++eO e2.al u.drop) g=aN (u.add++eO e.al u.drop) g
  have:aN (eO e2.al u.drop) g=aN (eO e.al u.drop) g:=by
   cases u.drop with
   | none=>exact H.al g
   | some k=>simp only[eO,lA,H.al g]
  rw[eT,eT,this]
 ·show bJ (mP (eB e2.lb u.unlb) u.lb) B=bJ (mP (eB e.lb u.unlb) u.lb) B
  have:bJ (eB e2.lb u.unlb) B=bJ (eB e.lb u.unlb) B:=by
   cases u.unlb with
   | none=>exact H.lb B
   | some k=>simp only[eB,nL,H.lb B]
  cases u.lb with
  | none=>exact this
  | some x=>
   obtain⟨k,n⟩:=x
   simp only[mP,ey,this]
 ·have hB':be (sB d u.ent (u.ls++e2.sl)) B=true:=hB
  show be (sB d u.ent (u.ls++e.sl)) B=true
  rw[eY,il] at hB' ⊢
  simp only[Bool.and_eq_true] at hB' ⊢
  exact⟨hB'.1,hB'.2.1,H.lf B hB'.2.2⟩
omit [Dr] in
theorem Rel.run:∀(is:List Nat){L:List Nat}{e2 e:Env}(_:Rel ops L e2 e)(_:∀ i∈is,i∈L)(h:Hp),bc cx base ops is e2 h≠.fail→
  (∃ e2' e' h',bc cx base ops is e2 h= .ok e2' h'∧bc cx base ops is e h= .ok e' h'∧Rel ops L e2' e')∨∃ v h',bc cx base ops is e2 h= .pan v h'∧bc cx base ops is e h= .pan v h'
 | [],L,e2,e,H,_,h,_=>.inl ⟨e2,e,h,rfl,rfl,H⟩
 | i:: is,L,e2,e,H,hL,h,hr=>by
  simp only[bc] at hr ⊢
  unfold stepG at hr ⊢
  simp only[ae,M.pure] at hr ⊢
  cases hx:fE cx base ops i e2 h with
  | fail=>rw[hx] at hr;exact absurd rfl hr
  | _ =>
   have ho:∃ o,ops[i]? = some o:=by
    cases ho:ops[i]? with
    | none=>unfold fE at hx;rw[ho] at hx;cases hx
    | some o=>exact⟨o,rfl⟩
   obtain⟨o,ho⟩:=ho
   have hi:=hL i (by simp)
   have hy:fE cx base ops i e h=fE cx base ops i e2 h:=gB ho (fun t ht=>H.read hi (by rw[gQ ho];simp[ht])) (H.agree hi ho) (by rw[hx];simp)
   rw[hy,hx]
   first
    | rw[hx] at hr
      exact Rel.run is (H.upd _ _) (fun k hk=>hL k (by simp[hk])) _ hr
    | exact .inr ⟨_,_,rfl,rfl⟩
omit [Dr] in
theorem q8(e:Env):∀(ds:List Nat)(t:Nat),(forget e ds).get t=if t∈ds then Ent.none else e.get t
 | [],t=>by simp[forget]
 | d:: ds,t=>by
  show b9 ((d,Ent.none):: (forget e ds).sl) t=_
  rw[cG]
  by_cases hd:d=t
  ·subst hd;simp
  ·rw[if_neg hd]
   have:=q8 e ds t
   simp only[Env.get] at this
   rw[this]
   have hd':¬ t=d:=fun h=>hd h.symm
   simp[hd',Env.get]
omit [Dr] in
theorem pD(e:Env):∀(ds:List Nat),(forget e ds).al=e.al∧(forget e ds).lb=e.lb∧∀ B,be (forget e ds).sl B=be e.sl B
 | []=>⟨rfl,rfl,fun _=>rfl⟩
 | _d:: ds=>pD e ds
omit [Dr] in
theorem pS(e:Env)(f:Nat→AV):∀(outs:List Nat)(pre:List AV)(t:Nat),(gp e (pre++outs.map f) pre.length outs).get t=if t∈outs then ⟨.val (f t),none⟩ else e.get t
 | [],pre,t=>by simp[gp]
 | d:: ds,pre,t=>by
  show b9 ((d,⟨.val (nth (pre++(d:: ds).map f) pre.length),none⟩):: (gp e (pre++(d:: ds).map f) (pre.length + 1) ds).sl) t=_
  rw[cG]
  have hn:nth (pre++(d:: ds).map f) pre.length=f d:=by simp[nth]
  by_cases hd:d=t
  ·subst hd;rw[hn];simp
  ·rw[if_neg hd]
   have:=pS e f ds (pre++[f d]) t
   simp only[List.append_assoc,List.length_append,List.length_cons,List.length_nil,List.singleton_append] at this
   simp only[Env.get,List.map_cons] at this ⊢
   rw[this]
   have hd':¬ t=d:=fun h=>hd h.symm
   simp[hd']
omit [Dr] in
theorem od(e:Env)(vs:List AV):∀(outs:List Nat)(i:Nat),(gp e vs i outs).al=e.al∧(gp e vs i outs).lb=e.lb∧∀ B,be (gp e vs i outs).sl B=be e.sl B
 | [],_i=>⟨rfl,rfl,fun _=>rfl⟩
 | _d:: ds,i=>od e vs ds (i + 1)
omit [Dr] in
theorem Ak(gs:List (Option (Nat×Bool)×List Nat))(t:Nat):Aj ops gs t=true↔∃ i∈iG gs,t∈dt ops i:=by
 unfold Aj iG
 simp only[List.any_eq_true,List.mem_flatMap,im]
 constructor
 ·rintro⟨g,hg,i,hi,ht⟩;exact⟨i,⟨g,hg,hi⟩,ht⟩
 ·rintro⟨i,⟨g,hg,hi⟩,ht⟩;exact⟨g,hg,i,hi,ht⟩
omit [Dr] in
theorem Rel.close{is:List Nat}{gs:List (Option (Nat×Bool)×List Nat)}{e2 e e':Env}(H:Rel ops (is++iG gs) e2 e)(hS:Small ops)(T:Turned (da ops is) e e'){vs:List AV} {f:Nat→AV}
  (hvs:vs=(dB ops is gs).map f) (hf:∀ t∈dB ops is gs,e'.get t=⟨.val (f t),none⟩∨(f t= .any∧t < 1000∧∀ i∈iG gs,t ∉ dt ops i)):Rel ops (iG gs) (gp (forget e2 (da ops is)) vs 0 (dB ops is gs)) e':=by
 have hr:=od (forget e2 (da ops is)) vs (dB ops is gs) 0
 have hr2:=pD e2 (da ops is)
 refine⟨fun t=>?_,fun g=>?_,fun B=>?_,fun B hB=>?_⟩
 ·have hg:=pS (forget e2 (da ops is)) f (dB ops is gs) [] t
  simp only[List.nil_append,List.length_nil] at hg
  rw[hvs,hg]
  split
  ·rename_i ht
   rcases hf t ht with h | ⟨h1,h2,h3⟩
   ·exact .inl h.symm
   ·exact .inr ⟨by rw[h1];rfl,h2,h3⟩
  ·rename_i ht
   rw[q8]
   split
   ·rename_i hd
    refine .inr ⟨rfl,?_,fun i hi hti=>ht ?_⟩
    ·unfold da at hd
     simp only[List.mem_filterMap] at hd
     obtain⟨i,hi,hd⟩:=hd
     unfold dM at hd
     cases hoi:ops[i]? with
     | none=>rw[hoi] at hd;simp at hd
     | some o=>rw[hoi] at hd;exact hS.dst i o hoi t hd
    ·unfold dB
     rw[List.mem_filter]
     exact⟨hd,(Ak gs t).2 ⟨i,hi,hti⟩⟩
   ·rename_i hd
    rw[T.get t hd]
    rcases H.get t with h | ⟨h1,h2,h3⟩
    ·exact .inl h
    ·exact .inr ⟨h1,h2,fun i hi=>h3 i (by simp[hi])⟩
 ·rw[hr.1,hr2.1,T.al];exact H.al g
 ·rw[hr.2.1,hr2.2.1,T.lb];exact H.lb B
 ·rw[hr.2.2,hr2.2.2] at hB
  exact T.lf B (H.lf B hB)
omit [Dr] in
theorem rY(l m:List Nat):∀ e:Env,bc cx base ops (l++m) e=ae (bc cx base ops l e) (bc cx base ops m):=by
 induction l with
 | nil=>intro e;rfl
 | cons i l ih=>
  intro e
  show ae (stepG cx base ops i e) (bc cx base ops (l++m))=ae (ae (stepG cx base ops i e) (bc cx base ops l)) (bc cx base ops m)
  rw[g8]
  congr 1
  funext e'
  exact ih e'
omit [Dr] in
theorem Hn{x:Ent}(h1:mX x=true)(h2:x.g=none):x=⟨.val x.av,none⟩:=by
 obtain⟨v,g⟩:=x
 cases v with
 | val a=>simp only at h2;subst h2;rfl
 | loc B off=>cases h1
omit [Dr] in
theorem kc{ρ:Type}(hS:Small ops):∀(gs:List (Option (Nat×Bool)×List Nat))(e2 e:Env)(k:Env→M ρ)(h:Hp),(∀ g∈gs,∀ i∈g.2,guardOf ops i=g.1)→Rel ops (iG gs) e2 e→eC cx base ops gs e2 k h≠.fail→
  (∃ e2' e' h',eC cx base ops gs e2 k h=k e2' h'∧bc cx base ops (iG gs) e h= .ok e' h'∧Rel ops [] e2' e')∨∃ v h',eC cx base ops gs e2 k h= .pan v h'∧bc cx base ops (iG gs) e h= .pan v h'
 | [],e2,e,k,h,_,H,_=>.inl ⟨e2,e,h,rfl,rfl,H⟩
 | (none,is):: gs,e2,e,k,h,hg,H,hr=>by
  have hg0:∀ i∈is,guardOf ops i=none:=hg (none,is) (by simp)
  have hfl:iG ((none,is):: gs)=is++iG gs:=rfl
  rw[hfl] at H ⊢
  rw[rY]
  simp only[eC] at hr ⊢
  rw[xP is e2 _ hg0] at hr ⊢
  simp only[ae] at hr ⊢
  have hr2:bc cx base ops is e2 h≠.fail:=fun hf=>by rw[hf] at hr;exact hr rfl
  rcases H.run (base:=base) (cx:=cx) is (fun i hi=>by simp[hi]) h hr2 with ⟨e2',e',h',h1,h2,H'⟩ | ⟨v,h',h1,h2⟩
  ·rw[h1] at hr ⊢
   rw[h2]
   exact kc hS gs e2' e' k h' (fun g hgg=>hg g (by simp[hgg])) (H'.sub fun i hi=>by simp[hi]) hr
  ·rw[h1,h2]
   exact .inr ⟨v,h',rfl,rfl⟩
 | (some (j,want),is):: gs,e2,e,k,h,hg,H,hr=>by
  have hg0:∀ i∈is,guardOf ops i=some (j,want):=hg (some (j,want),is) (by simp)
  have hfl:iG ((some (j,want),is):: gs)=is++iG gs:=rfl
  rw[hfl] at H ⊢
  rw[rY]
  simp only[eC] at hr ⊢
  cases hdj:dM ops j with
  | none=>rw[hdj] at hr;exact absurd rfl hr
  | some t=>
   rw[hdj] at hr
   simp only at hr ⊢
   revert hr
   cases hc:((is.all fun i=>match ops[i]? with | some o=>fm cx o&&o.dst.isSome | none=>false) && !(fM (da ops is) t)) with
   | false=>intro hr;exact absurd rfl hr
   | true=>
    intro hr
    simp only[cond_true] at hr ⊢
    simp only[Bool.and_eq_true,Bool.not_eq_true',List.all_eq_true] at hc
    have G:GroupOk cx ops j want t is:=by
     refine⟨hdj,fun i hi=>?_,fun ht=>?_⟩
     ·have:=hc.1 i hi
      cases hoi:ops[i]? with
      | none=>rw[hoi] at this;cases this
      | some o=>
       rw[hoi] at this
       simp only[Bool.and_eq_true] at this
       exact⟨o,rfl,hg0 i hi,this.1⟩
     ·rw[(im _ _).2 ht] at hc
      exact Bool.noConfusion hc.2
    have htr:∀ i∈is,t∈dt ops i:=fun i hi=>by
     obtain⟨o,ho,hgi,_⟩:=G.each i hi
     rw[gQ ho]
     have:o.guard=some (j,want):=by simpa [guardOf,ho] using hgi
     have:t∈fj ops o:=by
      unfold fj
      rw[this]
      simp only
      rw[show (ops[j]?).bind (·.dst)=some t from hdj]
      simp
     simp[this]
    -- the guard says yes
    cases is with
    | nil=>
     have hrn:∀ e,bc cx base ops [] e=M.pure e:=fun _=>rfl
     rw[hrn,aB]
     have ho:dB ops [] gs=[]:=rfl
     have hd:da ops []=[]:=rfl
     rw[ho,hd] at hr ⊢
     have hpure:∀ {q:AV} {m:M (List AV)},m h= .ok [] h→ax q want ([]:List Nat).length m h≠.fail→ax q want ([]:List Nat).length m h= .ok [] h:=by
      intro q m hm hne
      cases q with
      | bool b=>
       simp only[ax]
       cases b== want with
       | true=>exact hm
       | false=>rfl
      | tup vs=>
       cases vs with
       | nil=>rfl
       | cons v vs=>exact absurd rfl hne
      | _=>exact absurd rfl hne
     simp only[ae] at hr ⊢
     have hp:=hpure (q:=e2.av t) (m:=jJ cx base ops true [] e2 fun e'=>bif ([]:List Nat).all (fun t=>mX (e'.get t)) then M.pure (([]:List Nat).map e'.av) else M.fail) rfl (fun hf=>by rw[hf] at hr;exact hr rfl)
     rw[hp] at hr ⊢
     exact kc hS gs e2 e k h (fun g hgg=>hg g (by simp[hgg])) (H.sub fun i hi=>by simp[hi]) hr
    | cons i0 is0=>
    have hav:e.av t=e2.av t:=by
     have:=H.read (i:=i0) (by simp) (htr i0 (by simp))
     simp only[Env.av,this]
    generalize hiseq:i0:: is0=is at *
    have hoff:Off (e2.av t) want→(ax (e2.av t) want (dB ops is gs).length (jJ cx base ops true is e2 fun e'=>bif (dB ops is gs).all (fun t=>mX (e'.get t)) then M.pure ((dB ops is gs).map e'.av) else M.fail))=M.pure (List.replicate (dB ops is gs).length (.tup [])):=by
     rintro (hq | ⟨b,hq,hb⟩)
     ·rw[hq];rfl
     ·rw[hq];simp only[ax,hb,cond_false]
    have hcase:Off (e2.av t) want∨e2.av t= .bool want:=by
     cases hq:e2.av t with
     | bool b=>
      cases hb:(b== want) with
      | true=>right;simp at hb;rw[hb]
      | false=>exact .inl (.inr ⟨b,rfl,hb⟩)
     | tup vs=>
      cases vs with
      | nil=>exact .inl (.inl rfl)
      | cons v vs=>rw[hq] at hr;exact absurd rfl hr
     | _=>rw[hq] at hr;exact absurd rfl hr
    rcases hcase with ho | hy
    ·rw[hoff ho,aB] at hr ⊢
     obtain⟨e',h1,T,h2⟩:=HU (base:=base) is e h G (by rw[hav];exact ho)
     simp only[ae]
     rw[h1]
     refine kc hS gs _ e' k h (fun g hgg=>hg g (by simp[hgg])) (H.close hS T (f:=fun _=>.tup []) ?_ fun s hs=>.inl ?_) hr
     ·exact (List.map_const' ..).symm
     ·refine h2 s ?_
      unfold dB at hs
      exact (List.mem_filter.1 hs).1
    ·rw[hy] at hr ⊢
     simp only[ax,beq_self_eq_true,cond_true,ae] at hr ⊢
     rw[t7 is e2 _ h G hy] at hr ⊢
     simp only[ae] at hr ⊢
     have hr2:bc cx base ops is e2 h≠.fail:=fun hf=>by rw[hf] at hr;exact hr rfl
     rcases H.run (base:=base) (cx:=cx) is (fun i hi=>by simp[hi]) h hr2 with ⟨e2',e',h',h1,h2,H'⟩ | ⟨v,h',h1,h2⟩
     ·rw[h1] at hr ⊢
      rw[h2]
      simp only at hr ⊢
      have T2:=oh is e2 e2' h h' G hy h1
      have T:=oh is e e' h h' G (by rw[hav];exact hy) h2
      cases hv:(dB ops is gs).all (fun t=>mX (e2'.get t)) with
      | false=>rw[hv] at hr;exact absurd rfl hr
      | true=>
       rw[hv] at hr
       simp only[cond_true,M.pure] at hr ⊢
       refine kc hS gs _ e' k h' (fun g hgg=>hg g (by simp[hgg])) (H.close hS T (f:=e2'.av) rfl fun s hs=>?_) hr
       have hsd:s∈da ops is:=by unfold dB at hs;exact (List.mem_filter.1 hs).1
       have hval:=Hn (List.all_eq_true.1 hv s hs) (T2.ng s hsd)
       rcases H'.get s with h3 | ⟨h3,h4,h5⟩
       ·left;rw[← h3];exact hval
       ·right;exact⟨by simp only[Env.av,h3];rfl,h4,fun i hi=>h5 i (by simp[hi])⟩
     ·rw[h1,h2]
      exact .inr ⟨v,h',rfl,rfl⟩
end
end Go.Av
namespace Go.Av
variable [Dr]
omit [Dr] in
theorem kK(acc:List Nat):∀(es:List Edge)(x:Nat),(jP acc es).testBit x=true↔∃ e∈es,Region.binds .any e=true∧(e.on=x∨(acc.getD e.on 0).testBit x=true)
 | [],x=>by simp[jP]
 | e :: es,x=>by
  simp only[jP]
  cases hb:Region.binds .any e with
  | false=>
   simp only[cond_false,kK acc es x,List.mem_cons]
   constructor
   ·rintro⟨e',he,h⟩;exact⟨e',.inr he,h⟩
   ·rintro⟨e',rfl | he,h⟩
    ·rw[hb] at h;exact absurd h.1 (by simp)
    ·exact⟨e',he,h⟩
  | true=>
   simp only[cond_true,Nat.testBit_or,Bool.or_eq_true,kK acc es x,List.mem_cons,Nat.testBit_two_pow,decide_eq_true_eq]
   constructor
   ·rintro ((⟨e',he,h⟩ | h) | h)
    ·exact⟨e',.inr he,h⟩
    ·exact⟨e,.inl rfl,hb,.inl h⟩
    ·exact⟨e,.inl rfl,hb,.inr h⟩
   ·rintro⟨e',rfl | he,h1,h2⟩
    ·rcases h2 with h2 | h2
     ·exact .inl (.inr h2)
     ·exact .inr h2
    ·exact .inl (.inl ⟨e',he,h1,h2⟩)
omit [Dr] in
theorem ta:∀(os:List Oper)(acc:List Nat),∃ r:List Nat,yI os acc=acc++r∧r.length=os.length∧∀(k:Nat)(o:Oper),os[k]? = some o→r[k]? = some (jP (acc++r.take k) o.after.toList)
 | [],acc=>⟨[],by simp[yI],rfl,by simp⟩
 | o:: os,acc=>by
  obtain⟨r,h1,h2,h3⟩:=ta os (acc++[jP acc o.after.toList])
  refine⟨jP acc o.after.toList:: r,by simp[yI,h1],by simp[h2],fun k o' ho=>?_⟩
  cases k with
  | zero=>simp at ho;subst ho;simp
  | succ k=>
   simp only[List.getElem?_cons_succ,List.take_succ_cons] at ho ⊢
   rw[h3 k o' ho]
   simp
section
variable {ops:Array Oper}
def lC(ops:Array Oper):List Nat:=yI ops.toList []
omit [Dr] in
theorem EK{j:Nat}{o:Oper}(ho:ops[j]? = some o):(lC ops).length=ops.size∧(lC ops).getD j 0=jP ((lC ops).take j) o.after.toList:=by
 obtain⟨r,h1,h2,h3⟩:=ta ops.toList []
 have h4:lC ops=r:=by unfold lC;rw[h1];simp
 rw[h4]
 refine⟨by simp[h2],?_⟩
 have:=h3 j o (by simpa using ho)
 rw[List.getD_eq_getElem?_getD,this]
 simp
omit [Dr] in
theorem BC{listed:Nat→Prop}(hcl:∀(j:Nat)(o:Oper),ops[j]? = some o→listed j→∀ e∈o.after.toList,Region.binds .any e=true→listed e.on):
  ∀(j:Nat)(o:Oper),ops[j]? = some o→(∀ e∈o.after.toList,Region.binds .any e=true→listed e.on)→∀ x,((lC ops).getD j 0).testBit x=true→listed x:=by
 intro j
 induction j using Nat.strongRecOn with
 | _ j ih=>
  intro o ho hl x hx
  obtain⟨hlen,hget⟩:=EK ho
  rw[hget,kK] at hx
  obtain⟨e,he,hb,hx | hx⟩:=hx
  ·rw[← hx];exact hl e he hb
  ·by_cases hj:e.on < j
   ·have hjs:j < ops.size:=(Array.getElem?_eq_some_iff.1 ho).1
    have hos:ops[e.on]? = some ops[e.on]:=Array.getElem?_eq_getElem (by omega)
    have h1:((lC ops).take j).getD e.on 0=(lC ops).getD e.on 0:=by
     rw[List.getD_eq_getElem?_getD,List.getD_eq_getElem?_getD,List.getElem?_take,if_pos hj]
    rw[h1] at hx
    exact ih e.on hj _ hos (hcl e.on _ hos (hl e he hb)) x hx
   ·rw[List.getD_eq_getElem?_getD,List.getElem?_take,if_neg hj] at hx
    simp at hx
def C2(cx:Cx)(ops:Array Oper)(i j:Nat):Prop:=((lC ops).getD i 0).testBit j=false∧(((lC ops).getD j 0).testBit i=true∨nH cx ops i j=true)
omit [Dr] in
theorem pO{cx:Cx}:∀ {l:List Nat},kQ cx ops (lC ops) l=true→l.Pairwise (C2 cx ops)∧∀ i∈l,((lC ops).getD i 0).testBit i=false
 | [],_=>⟨.nil,by simp⟩
 | i:: l,h=>by
  simp only[kQ,Bool.and_eq_true,Bool.not_eq_true',List.all_eq_true,Bool.or_eq_true] at h
  obtain⟨⟨h1,h2⟩,h3⟩:=h
  obtain⟨h4,h5⟩:=pO h3
  refine⟨.cons (fun j hj=>h2 j hj) h4,fun k hk=>?_⟩
  simp only[List.mem_cons] at hk
  rcases hk with rfl | hk
  ·exact h1
  ·exact h5 k hk
omit [Dr] in
theorem lF:∀ {l:List Nat},distinct l=true→l.Nodup
 | [],_=>.nil
 | i:: l,h=>by
  simp only[distinct,Bool.and_eq_true,Bool.not_eq_true'] at h
  refine List.nodup_cons.2 ⟨fun hi=>?_,lF h.2⟩
  rw[(im _ _).2 hi] at h
  exact Bool.noConfusion h.1
variable {P:Program} {cx:Cx} {c:Entry} {N base:Nat}
theorem wE(hT:TOK P cx.T)(hC:cW P cx.own cx.call)(hI:IsoPure cx)(hO:OpsOk N cx ops)(hS:Small ops)(hbit:∀ i x,((lC ops).getD i 0).testBit x=true→x < ops.size) (hself:∀ i,i < ops.size→((lC ops).getD i 0).testBit i=false)
  {Q:Exit→Act→World→Prop}:∀(n:Nat)(rest:List Nat)(listed:Array Bool)(D:List Nat)(e:Env)(h:Hp)(a:Act)(w:World),rest.length=n→listed.size=ops.size→rest.Nodup→
  (∀ i,i∈rest↔i < ops.size∧listed.getD i true=false)→(∀ i∈rest,i ∉ D)→(∀ i∈D,i < ops.size)→
  (∀(j:Nat)(o:Oper),ops[j]? = some o→listed.getD j false=true→∀ e∈o.after.toList,Region.binds .any e=true→listed.getD e.on false=true)→rest.Pairwise (C2 cx ops)→
  fD c N (UD base D) e h a w→bc cx base ops rest e h≠.fail→
  (∀ e0 e' h' a' w',bc cx base ops rest e h= .ok e0 h'→EqE e0 e'→fD c N (UR base ops.size) e' h' a' w'→a'.defers=a.defers→Q .normal a' w')→
  (∀ pv h' v w' a',bc cx base ops rest e h= .pan pv h'→mO c pv h' v w'→a'.defers=a.defers→Q (.panic [{ v,recovered:=false }]) a' w')→wpAny P .any ops Q n listed a w
 | 0,rest,listed,D,e,h,a,w,hlen,hsz,hnd,hmem,hdis,hD,hcl,hpw,H,hr,hn,hp=>by
  have:rest=[]:=List.eq_nil_of_length_eq_zero hlen
  subst this
  refine⟨?_,hn e e h a w rfl (.refl e) (H.wider (Io hD)) rfl⟩
  refine List.eq_nil_iff_forall_not_mem.2 fun i hi=>?_
  obtain⟨h0,o,ho,_⟩:=mem_ready.1 hi
  have:=(hmem i).2 ⟨(Array.getElem?_eq_some_iff.1 ho).1,h0⟩
  simp at this
 | n + 1,rest,listed,D,e,h,a,w,hlen,hsz,hnd,hmem,hdis,hD,hcl,hpw,H,hr,hn,hp=>by
  have hgd:∀ i,i < ops.size→listed.getD i true=listed.getD i false:=fun i hi=>by
   rw[Array.getD_eq_getD_getElem?,Array.getD_eq_getD_getElem?,Array.getElem?_eq_getElem (by omega)]
   rfl
  refine⟨fun hemp=>?_,fun i hi=>?_⟩
  ·exfalso
   cases rest with
   | nil=>simp at hlen
   | cons r0 tl=>
    have hr0:=(hmem r0).1 (by simp)
    have hor:ops[r0]? = some ops[r0]:=Array.getElem?_eq_getElem hr0.1
    have:r0∈Region.ready .any ops listed:=by
     refine mem_ready.2 ⟨hr0.2,_,hor,fun ed hed hb=>?_⟩
     have hbt:((lC ops).getD r0 0).testBit ed.on=true:=by
      rw[(EK hor).2,kK]
      exact⟨ed,by simpa using hed,hb,.inl rfl⟩
     have hlt:=hbit r0 ed.on hbt
     cases hl:listed.getD ed.on false with
     | true=>rfl
     | false=>
      have hin:=(hmem ed.on).2 ⟨hlt,by rw[hgd _ hlt];exact hl⟩
      simp only[List.mem_cons] at hin
      rcases hin with hin | hin
      ·rw[hin] at hbt
       rw[hself r0 hr0.1] at hbt
       cases hbt
      ·have:=(List.pairwise_cons.1 hpw).1 ed.on hin
       rw[this.1] at hbt
       cases hbt
    rw[hemp] at this
    simp at this
  ·obtain⟨h0,o,ho,hall⟩:=mem_ready.1 hi
   have hlt:i < ops.size:=(Array.getElem?_eq_some_iff.1 ho).1
   have hin:=(hmem i).2 ⟨hlt,h0⟩
   obtain⟨p,q,rfl⟩:=List.append_of_mem hin
   have hnd':=hnd
   rw[List.nodup_append] at hnd'
   have hni:i ∉ p++q:=by
    intro hm
    rw[List.mem_append] at hm
    rcases hm with hm | hm
    ·exact hnd'.2.2 i hm i (by simp) rfl
    ·exact (List.nodup_cons.1 hnd'.2.1).1 hm
   have hclo:=BC (ops:=ops) (listed:=fun j=>listed.getD j false=true) (fun j o ho hj ed hed hb=>hcl j o ho hj ed hed hb) i o ho (fun ed hed hb=>hall ed (by simpa using hed) hb)
   have hfront:∀ x∈p,nH cx ops x i=true∧x≠i:=by
    intro x hx
    have hpr:=(List.pairwise_append.1 hpw).2.2 x hx i (by simp)
    refine⟨?_,fun hxi=>hni (by rw[← hxi];simp[hx])⟩
    rcases hpr.2 with h1 | h1
    ·have hxl:=hclo x h1
     have hxr:=(hmem x).1 (by simp[hx])
     rw[hgd x hxr.1] at hxr
     rw[hxr.2] at hxl
     cases hxl
    ·exact h1
   have hRE:=I6 (base:=base) hI hS q p hfront e h
   have hr':bc cx base ops (i:: (p++q)) e h≠.fail:=by
    intro hf
    rw[hf] at hRE
    cases hx:bc cx base ops (p++i:: q) e h with
    | fail=>exact hr hx
    | ok e0 h0=>rw[hx] at hRE;obtain⟨_,h1,_⟩:=hRE;cases h1
    | pan v h0=>rw[hx] at hRE;cases hRE
   simp only[bc,ae] at hr'
   have hstep:∀ {r:R Env},bc cx base ops (i:: (p++q)) e h=r→bc cx base ops (i:: (p++q)) e h=r:=fun h=>h
   simp only[bc,ae] at hRE
   refine sb hT hC hO (hdis i hin) H (fun hf=>by rw[hf] at hr';exact hr' rfl) (fun e1 h1 a1 w1 hst hs hdf=>?_) (fun pv h1 v w1 hst hps=>?_)
   ·rw [hst] at hr' hRE
    simp only at hr' hRE
    refine wE hT hC hI hO hS hbit hself n (p++q) (listed.setIfInBounds i true) (i:: D) e1 h1 a1 w1 ?_ (by simp[hsz]) ?_ (fun k=>?_) (fun k hk=>?_) (fun k hk=>?_) (fun k o' ho' hk ed hed hb=>?_) ?_ hs hr' (fun e0 e' h' a' w' hok heq hsat hdf'=>?_) (fun pv h' v w' a' hok hps hdf'=>?_)
    ·simp only[List.length_append,List.length_cons] at hlen ⊢;omega
    ·exact hnd.sublist (List.Sublist.append (List.Sublist.refl p) (List.sublist_cons_self i q))
    ·have hset:k≠i→(listed.setIfInBounds i true).getD k true=listed.getD k true:=fun hk=>by
      rw[Array.getD_eq_getD_getElem?,Array.getD_eq_getD_getElem?,Array.getElem?_setIfInBounds_ne (Ne.symm hk)]
     constructor
     ·intro hk
      have hki:k≠i:=fun h=>hni (h▸hk)
      rw[hset hki]
      exact (hmem k).1 (by
       simp only[List.mem_append,List.mem_cons] at hk ⊢
       rcases hk with hk | hk
       ·exact .inl hk
       ·exact .inr (.inr hk))
     ·rintro⟨h1,h2⟩
      have hki:k≠i:=by
       rintro rfl
       rw[Array.getD_eq_getD_getElem?,Array.getElem?_setIfInBounds_self] at h2
       rw[if_pos (by omega)] at h2
       simp at h2
      rw[hset hki] at h2
      have:=(hmem k).2 ⟨h1,h2⟩
      simp only[List.mem_append,List.mem_cons] at this ⊢
      rcases this with h | h | h
      ·exact .inl h
      ·exact absurd h hki
      ·exact .inr h
    ·simp only[List.mem_cons,not_or]
     refine⟨fun hki=>hni (hki▸hk),hdis k ?_⟩
     simp only[List.mem_append,List.mem_cons] at hk ⊢
     rcases hk with hk | hk
     ·exact .inl hk
     ·exact .inr (.inr hk)
    ·simp only[List.mem_cons] at hk
     rcases hk with rfl | hk
     ·exact hlt
     ·exact hD k hk
    ·have hmono:∀ x,listed.getD x false=true→(listed.setIfInBounds i true).getD x false=true:=fun x hx=>getD_set_true hx
     by_cases hki:k=i
     ·subst hki
      rw[ho] at ho'
      cases ho'
      exact hmono _ (hall ed (by simpa using hed) hb)
     ·refine hmono _ (hcl k o' ho' ?_ ed hed hb)
      rw[Array.getD_eq_getD_getElem?,Array.getElem?_setIfInBounds_ne (Ne.symm hki),← Array.getD_eq_getD_getElem?] at hk
      exact hk
    ·exact hpw.sublist (List.Sublist.append (List.Sublist.refl p) (List.sublist_cons_self i q))
    ·rw[hok] at hRE
     cases hx:bc cx base ops (p++i:: q) e h with
     | fail=>exact absurd hx hr
     | ok ex hx'=>
      rw[hx] at hRE
      obtain⟨e0',h2,h3⟩:=hRE
      cases h2
      exact hn ex e' _ a' w' hx (h3.trans heq) hsat (hdf'.trans hdf)
     | pan v h0=>rw[hx] at hRE;cases hRE
    ·rw[hok] at hRE
     cases hx:bc cx base ops (p++i:: q) e h with
     | fail=>exact absurd hx hr
     | ok ex hx'=>rw[hx] at hRE;obtain⟨_,h1,_⟩:=hRE;cases h1
     | pan v0 h0=>
      rw[hx] at hRE
      cases hRE
      exact hp _ _ v w' a' hx hps (hdf'.trans hdf)
   ·rw[hst] at hRE
    cases hx:bc cx base ops (p++i:: q) e h with
    | fail=>exact absurd hx hr
    | ok ex hx'=>rw[hx] at hRE;obtain⟨_,h1,_⟩:=hRE;cases h1
    | pan v0 h0=>
     rw[hx] at hRE
     cases hRE
     exact hp _ _ v w1 a hx hps rfl
end
end Go.Av
namespace Go.Av
variable [Dr]
structure IsoCall (cx:Cx):Prop where
 iso:∀ f args,cx.iso f=true→∃ x:Option (Bool×AV),∀ h,cx.call f args h=(match x with | none=>.fail | some (true,v)=>.ok v h | some (false,v)=>.pan v h)
 nw:∀ f args,cx.nw f=true→yE (cx.call f args)
omit [Dr] in
theorem IsoCall.draw{cx:Cx}(h:IsoCall cx):IsoPure (fB cx):=by
 refine⟨?_,fun f args hf=>?_⟩
 case refine_2=>
  have hn:=h.nw f args hf
  show yE (bif cx.iso f then cR (cx.call f args) else cx.call f args)
  cases cx.iso f with
  | false=>exact hn
  | true=>
   intro hp v h' hh
   simp only[cond_true,cR] at hh
   cases hq:cx.call f args hp with
   | ok a b=>rw[hq] at hh;cases hh;exact hn _ _ _ hq
   | pan a b=>rw[hq] at hh;cases hh
   | fail=>rw[hq] at hh;cases hh
 intro f args hf
 have hf':cx.iso f=true:=hf
 obtain⟨x,hx⟩:=h.iso f args hf'
 refine⟨match x with | some (true,v)=>some v | _=>none,?_⟩
 show (bif cx.iso f then cR (cx.call f args) else cx.call f args)=_
 rw[hf']
 funext hp
 simp only[cond_true,cR,hx]
 rcases x with _ | ⟨b,v⟩
 ·rfl
 ·cases b <;> rfl
theorem cW.draw{P:Program}{cx:Cx}(h:cW P cx.own cx.call):cW P (fB cx).own (fB cx).call:=by
 intro f args hp S β w vs hr hg hw hh hv
 have hcall:(fB cx).call f args hp=(bif cx.iso f then cR (cx.call f args) hp else cx.call f args hp):=by
  show (bif cx.iso f then cR (cx.call f args) else cx.call f args) hp=_
  cases cx.iso f <;> rfl
 rw[hcall] at hr ⊢
 have key:∀ r,r=cx.call f args hp→r≠.fail→Calls P f vs.toArray w (eM ((fB cx).own f) S β hp w r)∧(P.funcs[f]?).any (fun fn=>fn.body.isSome && !(fn.name== "runtime.NumGoroutine"))=true:=by
  intro r hr1 hr2
  subst hr1
  exact h f args hp S β w vs hr2 hg hw hh hv
 cases hi:cx.iso f with
 | false=>rw[hi] at hr;exact key _ rfl hr
 | true=>
  rw[hi] at hr
  simp only[cond_true,cR] at hr ⊢
  cases hx:cx.call f args hp with
  | ok v hq=>rw[hx] at hr;exact key _ hx.symm (by simp)
  | pan v hq=>rw[hx] at hr;exact absurd rfl hr
  | fail=>rw[hx] at hr;exact absurd rfl hr
def lk(c:Entry)(N:Nat)(e:Env)(h:Hp)(a:Act)(w:World):Prop:=fD c N (fun g=>g < e.nx * 1000) e h a w
theorem fD.rel{c:Entry}{N:Nat}{U:Nat→Prop}{e2 e:Env}{h:Hp}{a:Act}{w:World}{ops:Array Oper}(H:fD c N U e h a w)(R:Rel ops [] e2 e):fD c N U e2 h a w:=by
 obtain⟨S,β,γ,lam,ω,F⟩:=H
 refine⟨S,β,γ,lam,ω,F.weak (fun t=>?_) (fun t g hg=>?_) (fun g z hz=>by rw[R.al] at hz;exact hz) (fun B n hB=>by rw[R.lb] at hB;exact hB)⟩
 ·rcases R.get t with h | ⟨h1,h2,_⟩
  ·exact .inl (by rw[h])
  ·exact .inr ⟨by rw[h1];rfl,h2⟩
 ·rcases R.get t with h | ⟨h1,_⟩
  ·rw[h] at hg;exact hg
  ·rw[h1] at hg;cases hg
theorem fD.eqE{c:Entry}{N:Nat}{U:Nat→Prop}{e2 e:Env}{h:Hp}{a:Act}{w:World}(H:fD c N U e h a w)(R:EqE e e2):fD c N U e2 h a w:=by
 obtain⟨S,β,γ,lam,ω,F⟩:=H
 exact⟨S,β,γ,lam,ω,F.weak (fun t=>.inl (by rw[R.get])) (fun t g hg=>by rw[R.get] at hg;exact hg) (fun g z hz=>by rw[R.al] at hz;exact hz) (fun B n hB=>by rw[R.lb] at hB;exact hB)⟩
theorem fD.nx{c:Entry}{N:Nat}{U:Nat→Prop}{e:Env}{h:Hp}{a:Act}{w:World}(n:Nat)(H:fD c N U e h a w):fD c N U { e with nx:=n } h a w:=by
 obtain⟨S,β,γ,lam,ω,F⟩:=H
 exact⟨S,β,γ,lam,ω,F.weak (fun t=>.inl rfl) (fun t g hg=>hg) (fun g z hz=>hz) (fun B n hB=>hB)⟩
section
variable {P:Program} {cx:Cx} {c:Entry} {e:Env} {h:Hp} {a:Act} {w:World} {ops:Array Oper} {id:Nat}
omit [Dr] in
theorem sL{n:Nat}(hn:n≤1000)(hd:jZ n ops=true)(hk:∀ p,Cj (cK cx.ann.kinds p .L)=true→p < n):OpsOk n cx ops∧Small ops:=by
 unfold jZ at hd
 rw[Array.all_eq_true_iff_forall_mem] at hd
 have h1:∀(i:Nat)(o:Oper),ops[i]? = some o→(∀ t,o.dst=some t→t < n)∧∀ t∈jT o,t < 1000:=by
  intro i o ho
  have:=hd o (Array.mem_of_getElem? ho)
  simp only[Bool.and_eq_true,List.all_eq_true,decide_eq_true_eq] at this
  refine⟨fun t ht=>?_,this.2⟩
  have h2:=this.1
  rw[ht] at h2
  simpa using h2
 refine⟨⟨fun i o ho=>(h1 i o ho).1,fun i o ho x hx t hxt=>(h1 i o ho).2 t ?_,hk⟩,⟨fun i o ho t ht=>Nat.lt_of_lt_of_le ((h1 i o ho).1 t ht) hn,fun i o ho=>(h1 i o ho).2⟩⟩
 subst hxt
 exact List.mem_filterMap.2 ⟨_,hx,rfl⟩
theorem CI{ρ:Type}(hT:TOK P cx.T)(hC:cW P cx.own cx.call)(hI:IsoCall cx)(hk:∀ p,Cj (cK cx.ann.kinds p .L)=true→p < cx.nt){draw:Bool} {k:Env→M ρ}
  (H:lk c cx.nt e h a w) (hr:pr cx id ops draw e k h≠.fail) {Q:Exit→Act→World→Prop}
  (hn:∀ e' h' a' w',pr cx id ops draw e k h=k e' h'→lk c cx.nt e' h' a' w'→a'.defers=a.defers→Q .normal a' w')
  (hp:∀ pv h' v w' a',pr cx id ops draw e k h= .pan pv h'→mO c pv h' v w'→a'.defers=a.defers→Q (.panic [{ v,recovered:=false }]) a' w'):
  (Code.region id ops draw).wp P Q a w:=by
 have hN:cx.nt≤1000:=by obtain⟨S,β,γ,lam,ω,F⟩:=H;exact F.tsz.2
 have H0:fD c cx.nt (UD e.nx []) e h a w:=H.wider fun g hg=>.inl hg
 unfold pr at hr hn hp
 cases hds:jZ cx.nt ops with
 | false=>rw[hds] at hr;exact absurd rfl hr
 | true=>
  obtain⟨hO,hS⟩:=sL (cx:=cx) hN hds hk
  rw[hds] at hr hn hp
  simp only[cond_true] at hr hn hp
  cases draw with
  | false=>
   simp only[cond_false] at hr hn hp
   obtain⟨hfl,hgs⟩:=jN ops (List.range ops.size)
   refine wp_region (ub hT hC hO (List.range ops.size) [] e h a w List.nodup_range (by simp) H0 ?_ ?_ ?_)
   all_goals
    have hseq:=kc (cx:=cx) (base:=e.nx) hS (dN ops (List.range ops.size)) e e _ h hgs (.refl ops _ e) hr
    rw[hfl] at hseq
   ·rcases hseq with ⟨_,_,_,_,h2,_⟩ | ⟨_,_,_,h2⟩ <;> rw[h2] <;> simp
   ·intro e' h' a' w' hok hsat hdf
    rcases hseq with ⟨e2',e'',h'',h1,h2,hR⟩ | ⟨_,_,_,h2⟩
    ·rw[h2] at hok
     cases hok
     refine hn _ _ a' w' h1 (fD.nx _ ((hsat.wider (Io ?_)).rel hR)) hdf
     intro i hi
     simpa using hi
    ·rw[h2] at hok;cases hok
   ·intro pv h' v w' a' hok hps hdf
    rcases hseq with ⟨e2',e'',h'',h1,h2,hR⟩ | ⟨_,_,h1,h2⟩
    ·rw[h2] at hok;cases hok
    ·rw[h2] at hok
     cases hok
     exact hp _ _ v w' a' h1 hps hdf
  | true=>
   simp only[cond_true] at hr hn hp
   generalize tX cx id ops.size=ord at hr hn hp
   cases hdo:mU cx ops ord with
   | false=>rw[hdo] at hr;exact absurd rfl hr
   | true=>
    rw[hdo] at hr hn hp
    simp only[cond_true] at hr hn hp
    simp only[mU,FZ,Bool.and_eq_true,List.all_eq_true,decide_eq_true_eq] at hdo
    obtain⟨⟨⟨⟨⟨hlen,hmem⟩,hdist⟩,hlt⟩,hbits⟩,hpairs⟩:=hdo
    have hlen':ord.length=ops.size:=Nat.eq_of_beq_eq_true hlen
    obtain⟨hpw,hself⟩:=pO (cx:=cx) (ops:=ops) hpairs
    have hpw':ord.Pairwise (C2 (fB cx) ops):=hpw
    have hO':OpsOk cx.nt (fB cx) ops:=⟨hO.dst,hO.src,hO.kin⟩
    obtain⟨hfl,hgs⟩:=jN ops ord
    have hseq:=kc (cx:=fB cx) (base:=e.nx) hS (dN ops ord) e e _ h hgs (.refl ops _ e) hr
    rw[hfl] at hseq
    refine wp_region_draw fun t=>?_
    have hsch:Region.schedule (P.follows .mixedOrders) ops t=Region.linearise .any ops t:=by
     simp only[Region.schedule,hT.mix,Bool.true_or,if_true]
    rw[hsch]
    have hmem':∀ i,i∈ord↔i < ops.size:=fun i=>⟨fun hi=>hlt i hi,fun hi=>(im _ _).1 (hmem i (by simpa using hi))⟩
    refine wpAny_sound ops.size t _ a _ (wE (cx:=fB cx) (c:=c) (N:=cx.nt) (base:=e.nx) hT hC.draw hI.draw hO' hS ?_ ?_ ops.size ord (Array.replicate ops.size false) [] e h a w.drew hlen' (by simp) (lF hdist) ?_ (by simp) (by simp) ?_ hpw' ?_ ?_ ?_ ?_)
    ·intro i x hx
     rcases Nat.lt_or_ge x ops.size with h' | h'
     ·exact h'
     ·have hm:(lC ops).getD i 0 < 2 ^ ops.size:=by
       rw[List.getD_eq_getElem?_getD]
       cases hi:(lC ops)[i]? with
       | none=>simp;exact Nat.pow_pos (by omega)
       | some m=>exact hbits m (List.mem_of_getElem? hi)
      rw[Nat.testBit_lt_two_pow (Nat.lt_of_lt_of_le hm (Nat.pow_le_pow_right (by omega) h'))] at hx
      cases hx
    ·exact fun i hi=>hself i ((hmem' i).2 hi)
    ·intro i
     rw[hmem']
     constructor
     ·intro hi
      refine⟨hi,?_⟩
      rw[Array.getD_eq_getD_getElem?,Array.getElem?_replicate,if_pos hi]
      rfl
     ·exact fun hi=>hi.1
    ·intro j o ho hj
     exfalso
     rw[Array.getD_eq_getD_getElem?,Array.getElem?_replicate] at hj
     split at hj <;> simp at hj
    ·obtain⟨S,β,γ,lam,ω,F⟩:=H0
     exact⟨S,β,γ,lam,ω,F.drew⟩
    ·rcases hseq with ⟨_,_,_,_,h2,_⟩ | ⟨_,_,_,h2⟩ <;> rw[h2] <;> simp
    ·intro e0 e' h' a' w' hok heq hsat hdf
     rcases hseq with ⟨e2',e'',h'',h1,h2,hR⟩ | ⟨_,_,_,h2⟩
     ·rw[h2] at hok
      cases hok
      exact hn _ _ a' w' h1 (fD.nx _ ((hsat.eqE heq.symm).rel hR)) hdf
     ·rw[h2] at hok;cases hok
    ·intro pv h' v w' a' hok hps hdf
     rcases hseq with ⟨e2',e'',h'',h1,h2,hR⟩ | ⟨_,_,h1,h2⟩
     ·rw[h2] at hok;cases hok
     ·rw[h2] at hok
      cases hok
      exact hp _ _ v w' a' h1 hps hdf
end
end Go.Av
namespace Go.Av
variable [Dr]
omit [Dr] in
theorem kP {e:Env}:∀(l:List (Nat×Option Nat))(used:List Nat)(vs:List AV),iu e l used=some vs→vs.length=l.length∧
  (∀(i:Nat)(t:Nat)(z:Option Nat),l[i]? = some (t,z)→∃ a,vs[i]? = some a∧(e.get t).v= .val a∧∀ sz,z=some sz→∃ g z0,(e.get t).g=some g∧aN e.al g=some z0∧(z0=none∨z0=some sz)∧g ∉ used)∧
  ∀(i j:Nat)(t t' sz sz':Nat),i < j→l[i]? = some (t,some sz)→l[j]? = some (t',some sz')→(e.get t).g≠(e.get t').g
 | [],used,vs,h=>by
  simp only[iu,Option.some.injEq] at h
  subst h
  exact⟨rfl,by simp,by simp⟩
 | (t,none):: r,used,vs,h=>by
  simp only[iu] at h
  split at h
  ·rename_i a ha
   split at h
   ·rename_i vs' hvs
    simp only[Option.some.injEq] at h
    subst h
    obtain⟨h1,h2,h3⟩:=kP r used vs' hvs
    refine⟨by simp[h1],fun i t' z hi=>?_,fun i j t1 t2 sz1 sz2 hij hi hj=>?_⟩
    ·cases i with
     | zero=>
      simp only[List.getElem?_cons_zero,Option.some.injEq,Prod.mk.injEq] at hi
      obtain⟨rfl,rfl⟩:=hi
      exact⟨a,rfl,ha,fun sz hsz=>by cases hsz⟩
     | succ i=>simpa using h2 i t' z (by simpa using hi)
    ·cases i with
     | zero=>simp at hi
     | succ i=>
      cases j with
      | zero=>omega
      | succ j=>exact h3 i j t1 t2 sz1 sz2 (by omega) (by simpa using hi) (by simpa using hj)
   ·cases h
  ·cases h
 | (t, some sz):: r,used,vs,h=>by
  simp only[iu] at h
  split at h
  ·rename_i a g ha hg
   split at h
   ·cases h
   ·rename_i z0 hz0
    have hcond:vL z0 (some sz)=true∧fM used g=false∧(match iu e r (g:: used) with | some vs=>some (a:: vs) | none=>none)=some vs:=by
     cases hm:fM used g with
     | true=>
      rw[hm] at h
      cases z0 with
      | none=>cases h
      | some n=>
       simp only at h
       cases hb:Nat.beq n sz <;> rw[hb] at h <;> cases h
     | false=>
      rw[hm] at h
      cases z0 with
      | none=>exact⟨rfl,rfl,h⟩
      | some n=>
       simp only at h
       cases hb:Nat.beq n sz with
       | true=>rw[hb] at h;exact⟨hb,rfl,h⟩
       | false=>rw[hb] at h;cases h
    obtain⟨hc1,hc2,h⟩:=hcond
    have hc:=And.intro hc1 hc2
    ·split at h
     ·rename_i vs' hvs
      simp only[Option.some.injEq] at h
      subst h
      have hgu:g ∉ used:=fun hm=>by
       rw[(im _ _).2 hm] at hc
       exact Bool.noConfusion hc.2
      have hz:z0=none∨z0=some sz:=by
       cases z0 with
       | none=>exact .inl rfl
       | some n=>exact .inr (by rw[Nat.eq_of_beq_eq_true hc.1])
      obtain⟨h1,h2,h3⟩:=kP r (g:: used) vs' hvs
      refine⟨by simp[h1],fun i t' z hi=>?_,fun i j t1 t2 sz1 sz2 hij hi hj=>?_⟩
      ·cases i with
       | zero=>
        simp only[List.getElem?_cons_zero,Option.some.injEq,Prod.mk.injEq] at hi
        obtain⟨rfl,rfl⟩:=hi
        exact⟨a,rfl,ha,fun sz' hsz=>by cases hsz;exact⟨g,z0,hg,hz0,hz,hgu⟩⟩
       | succ i=>
        obtain⟨a',k1,k2,k3⟩:=h2 i t' z (by simpa using hi)
        refine⟨a',by simpa using k1,k2,fun sz' hsz=>?_⟩
        obtain⟨g',z',m1,m2,m3,m4⟩:=k3 sz' hsz
        exact⟨g',z',m1,m2,m3,fun hm=>m4 (by simp[hm])⟩
      ·cases i with
       | zero=>
        cases j with
        | zero=>omega
        | succ j=>
         simp only[List.getElem?_cons_zero,Option.some.injEq,Prod.mk.injEq] at hi
         obtain⟨rfl,_⟩:=hi
         obtain⟨a',k1,k2,k3⟩:=h2 j t2 (some sz2) (by simpa using hj)
         obtain⟨g',z',m1,m2,m3,m4⟩:=k3 sz2 rfl
         rw[hg,m1]
         intro hh
         simp only[Option.some.injEq] at hh
         exact m4 (by simp[hh])
       | succ i=>
        cases j with
        | zero=>omega
        | succ j=>exact h3 i j t1 t2 sz1 sz2 (by omega) (by simpa using hi) (by simpa using hj)
     ·cases h
  ·cases h
omit [Dr] in
theorem li(vs:List AV)(r:List (Nat×Ent))(t:Nat):∀(l:List (Nat×Option Nat))(k:Nat),
  (∃(i:Nat)(z:Option Nat),l[i]? = some (t,z)∧b9 (cT vs k l++r) t=⟨.val (nth vs (k + i)),z.map fun _=>k + i⟩)∨
  ((∀(i:Nat)(z:Option Nat),l[i]? ≠some (t,z))∧b9 (cT vs k l++r) t=b9 r t)
 | [],k=>.inr ⟨by simp,rfl⟩
 | (s,z):: l,k=>by
  have hh:cT vs k ((s,z):: l)=(s,⟨.val (nth vs k),z.map fun _=>k⟩):: cT vs (k + 1) l:=by cases z <;> rfl
  rw[hh,List.cons_append,cG]
  by_cases hs:s=t
  ·subst hs
   rw[if_pos rfl]
   exact .inl ⟨0,z,rfl,rfl⟩
  ·rw[if_neg hs]
   rcases li vs r t l (k + 1) with ⟨i,z',h1,h2⟩ | ⟨h1,h2⟩
   ·refine .inl ⟨i + 1,z',by simpa using h1,?_⟩
    rw[h2,show k + 1 + i=k + (i + 1) by omega]
   ·refine .inr ⟨fun i z' hi=>?_,h2⟩
    cases i with
    | zero=>simp at hi;exact hs hi.1
    | succ i=>exact h1 i z' (by simpa using hi)
omit [Dr] in
theorem ic:∀(l:List (Nat×Option Nat))(k g:Nat)(y:Option Nat),aN (ku k l) g=some y→∃(i t sz:Nat),l[i]? = some (t,some sz)∧g=k + i∧y=some sz
 | [],k,g,y,h=>by simp[ku,aN] at h
 | (s,none):: l,k,g,y,h=>by
  obtain⟨i,t,sz,h1,h2,h3⟩:=ic l (k + 1) g y h
  exact⟨i + 1,t,sz,by simpa using h1,by omega,h3⟩
 | (s,some n):: l,k,g,y,h=>by
  simp only[ku,cd] at h
  split at h
  ·rename_i hk
   simp only[Option.some.injEq] at h
   exact⟨0,s,n,rfl,by omega,h.symm⟩
  ·obtain⟨i,t,sz,h1,h2,h3⟩:=ic l (k + 1) g y h
   exact⟨i + 1,t,sz,by simpa using h1,by omega,h3⟩
omit [Dr] in
theorem oO(t:Nat):∀(l:List (Nat×Nat×Nat)),(∃ B off,(t,B,off)∈l∧b9 (l.map fun x=>(x.1,(⟨.loc x.2.1 x.2.2,none⟩:Ent))) t=⟨.loc B off,none⟩)∨b9 (l.map fun x=>(x.1,(⟨.loc x.2.1 x.2.2,none⟩:Ent))) t=Ent.none
 | []=>.inr rfl
 | (s,B,off):: l=>by
  rw[List.map_cons,cG]
  by_cases hs:s=t
  ·subst hs
   rw[if_pos rfl]
   exact .inl ⟨B,off,by simp,rfl⟩
  ·rw[if_neg hs]
   rcases oO t l with ⟨B',off',h1,h2⟩ | h
   ·exact .inl ⟨B',off',by simp[h1],h2⟩
   ·exact .inr h
omit [Dr] in
theorem rB{e:Env}:∀ {l:List (Nat×Nat×Nat)},rA e l=true→∀ t B off,(t,B,off)∈l→(e.get t).v= .loc B off
 | [],_,t,B,off,h=>by simp at h
 | (s,B0,off0):: l,h,t,B,off,hm=>by
  simp only[rA,Bool.and_eq_true] at h
  simp only[List.mem_cons,Prod.mk.injEq] at hm
  rcases hm with ⟨rfl,rfl,rfl⟩ | hm
  ·have h1:=h.1
   split at h1
   ·rename_i B' off' hv
    simp only[Bool.and_eq_true] at h1
    rw[hv,Nat.eq_of_beq_eq_true h1.1,Nat.eq_of_beq_eq_true h1.2]
   ·cases h1
  ·exact rB h.2 t B off hm
omit [Dr] in
theorem tL{e:Env}:∀ {l:List (Nat×Nat)},xq e l=true→∀ B n,bJ l B=some n→bJ e.lb B=some n
 | [],_,B,n,h=>by simp[bJ] at h
 | (B0,n0):: l,h,B,n,hm=>by
  simp only[xq,Bool.and_eq_true] at h
  rw[ey] at hm
  split at hm
  ·rename_i hB
   subst hB
   simp only[Option.some.injEq] at hm
   subst hm
   have h1:=h.1
   split at h1
   ·rename_i m hv
    rw[hv,Nat.eq_of_beq_eq_true h1]
   ·cases h1
  ·exact tL h.2 B n hm
section
variable {c:Entry} {N:Nat} {e:Env} {h:Hp} {a:Act} {w:World}
open Classical in
theorem vT{ja:JA}{vs:List AV}(H:lk c N e h a w)(hp:pack ja e=some vs):lk c N (unpack ja vs) h a w:=by
 obtain⟨S,β,γ,lam,ω,F⟩:=H
 unfold pack at hp
 cases hlo:(rA e ja.locs&&xq e ja.lbs) with
 | false=>rw[hlo] at hp;cases hp
 | true=>
  rw[hlo] at hp
  simp only[cond_true] at hp
  simp only[Bool.and_eq_true] at hlo
  obtain⟨hlen,hval,hdis⟩:=kP ja.vals [] vs hp
  -- the groups carried
  let gOf:Nat→Option Nat:=fun i=>match ja.vals[i]? with | some (t,some _)=>(e.get t).g | _=>none
  have hg1:∀ i t sz,ja.vals[i]? = some (t,some sz)→∃ g z0,gOf i=some g∧(e.get t).g=some g∧aN e.al g=some z0∧(z0=none∨z0=some sz):=by
   intro i t sz hi
   obtain⟨a',_,_,h3⟩:=hval i t (some sz) hi
   obtain⟨g,z0,k1,k2,k3,_⟩:=h3 sz rfl
   refine⟨g,z0,?_,k1,k2,k3⟩
   show (match ja.vals[i]? with | some (t,some _)=>(e.get t).g | _=>none)=some g
   rw[hi]
   exact k1
  have hg2:∀ i j g,gOf i=some g→gOf j=some g→i=j:=by
   have hex:∀ i g,gOf i=some g→∃ t sz,ja.vals[i]? = some (t,some sz)∧(e.get t).g=some g:=by
    intro i g hi
    have hi':(match ja.vals[i]? with | some (t,some _)=>(e.get t).g | _=>none)=some g:=hi
    split at hi'
    ·rename_i t sz ht;exact⟨t,sz,ht,hi'⟩
    ·cases hi'
   intro i j g hi hj
   obtain⟨t,sz,k1,k2⟩:=hex i g hi
   obtain⟨t',sz',m1,m2⟩:=hex j g hj
   rcases Nat.lt_trichotomy i j with hlt | heq | hlt
   ·exact absurd (k2.trans m2.symm) (hdis i j t t' sz sz' hlt k1 m1)
   ·exact heq
   ·exact absurd (m2.trans k2.symm) (hdis j i t' t sz' sz hlt m1 k1)
  let γ':Nat→Value:=fun i=>match gOf i with | some g=>γ g | none=>undef
  let ω':Nat→Owner:=fun b=>match ω b with
   | .grp g=>if hx:∃ i,gOf i=some g then .grp (Classical.choose hx) else .no
   | o=>o
  have hωg:∀ b g i,ω b= .grp g→gOf i=some g→ω' b= .grp i:=by
   intro b g i hb hi
   show (match ω b with | .grp g=>if hx:∃ i,gOf i=some g then Owner.grp (Classical.choose hx) else .no | o=>o)= .grp i
   rw[hb]
   simp only
   have hx:∃ i,gOf i=some g:=⟨i,hi⟩
   rw[dif_pos hx,hg2 _ _ g (Classical.choose_spec hx) hi]
  have hωo:∀ b,(∀ g,ω b≠.grp g)→ω' b=ω b:=by
   intro b hb
   show (match ω b with | .grp g=>if hx:∃ i,gOf i=some g then Owner.grp (Classical.choose hx) else .no | o=>o)=ω b
   cases ho:ω b with
   | grp g=>exact absurd ho (hb g)
   | _=>rfl
  have hωn:∀ b,ω' b≠.no→ω b≠.no:=by
   intro b hb ho
   refine hb ?_
   rw[hωo b (fun g hg=>by rw[ho] at hg;cases hg),ho]
  have hωx:∀ b g,ω' b= .grp g→∃ g',ω b= .grp g':=by
   intro b g hg
   cases ho:ω b with
   | grp g'=>exact⟨g',rfl⟩
   | _=>rw[hωo b (fun g' h'=>by rw[ho] at h';cases h'),ho] at hg;cases hg
  -- the slots
  have hget:∀ t,(∃(i:Nat)(z:Option Nat)(a':AV),ja.vals[i]? = some (t,z)∧(e.get t).v= .val a'∧(unpack ja vs).get t=⟨.val a',z.map fun _=>i⟩)∨(∃ B off,(e.get t).v= .loc B off∧(unpack ja vs).get t=⟨.loc B off,none⟩)∨(unpack ja vs).get t=Ent.none:=by
   intro t
   have hu:(unpack ja vs).get t=b9 (cT vs 0 ja.vals++ja.locs.map fun x=>(x.1,(⟨.loc x.2.1 x.2.2,none⟩:Ent))) t:=rfl
   rcases li vs (ja.locs.map fun x=>(x.1,(⟨.loc x.2.1 x.2.2,none⟩:Ent))) t ja.vals 0 with ⟨i,z,h1,h2⟩ | ⟨h1,h2⟩
   ·obtain⟨a',k1,k2,_⟩:=hval i t z h1
    refine .inl ⟨i,z,a',h1,k2,?_⟩
    rw[hu,h2,Nat.zero_add]
    have:nth vs i=a':=by simp[nth,k1]
    rw[this]
   ·rcases oO t ja.locs with ⟨B,off,k1,k2⟩ | k
    ·exact .inr (.inl ⟨B,off,rB hlo.1 t B off k1,by rw[hu,h2,k2]⟩)
    ·exact .inr (.inr (by rw[hu,h2,k]))
  have hgg:∀ t g,((unpack ja vs).get t).g=some g→∃ sz,ja.vals[g]? = some (t,some sz):=by
   intro t g hg
   rcases hget t with ⟨i,z,a',h1,_,h3⟩ | ⟨_,_,_,h3⟩ | h3
   ·rw[h3] at hg
    cases z with
    | none=>simp at hg
    | some sz=>simp at hg;subst hg;exact⟨sz,h1⟩
   ·rw[h3] at hg;cases hg
   ·rw[h3] at hg;cases hg
  have hγ:∀ t g,((unpack ja vs).get t).g=some g→∃ g0 z0,(e.get t).g=some g0∧aN e.al g0=some z0∧γ' g=γ g0:=by
   intro t g hg
   obtain⟨sz,h1⟩:=hgg t g hg
   obtain⟨g0,z0,k1,k2,k3,_⟩:=hg1 g t sz h1
   refine⟨g0,z0,k2,k3,?_⟩
   show (match gOf g with | some g=>γ g | none=>undef)=γ g0
   rw[k1]
  refine⟨S,β,γ',lam,ω',⟨F.wf,F.gro,F.keep,F.le,F.ext,F.hlen,fun l cs hl hcs=>?_,F.tsz,fun t ht=>?_,fun t g z ht hg hz=>?_,fun B n hB=>?_,fun g z hz=>?_,fun b hb=>⟨(F.mine b (hωn b hb)).1.imp (fun hE=>⟨hE.1,fun g hg=>by obtain⟨g',h'⟩:=hωx b g hg;exact hE.2 g' h'⟩) id,(F.mine b (hωn b hb)).2⟩,fun t g hg=>?_,fun g z hz=>?_⟩⟩
  ·rcases F.heap l cs hl hcs with ⟨b,x,h1,h2,h3,h4⟩ | ⟨b,h1,h3,h4⟩
   ·exact .inl ⟨b,x,h1,h2,by rw[hωo b (fun g hg=>by rw[h3] at hg;cases hg)];exact h3,h4⟩
   ·exact .inr ⟨b,h1,by rw[hωo b (fun g hg=>by rw[h3] at hg;cases hg)];exact h3,h4⟩
  ·have hs:=F.slots t ht
   rcases hget t with ⟨i,z,a',_,h2,h3⟩ | ⟨B,off,h2,h3⟩ | h3
   ·rw[h3];rw[h2] at hs;exact hs
   ·rw[h3];rw[h2] at hs;exact hs
   ·rw[h3];simp[Ent.none,fR,VR]
  ·obtain⟨g0,z0,k1,k2,k3⟩:=hγ t g hg
   rw[k3]
   exact F.grps t g0 z0 ht k1 k2
  ·obtain⟨k1,k2,k3,b,x,k4,k5,k6,k7,k8⟩:=F.lblk B n (tL hlo.2 B n hB)
   refine⟨k1,k2,k3,b,x,k4,k5,by rw[hωo b (fun g hg=>by rw[k6] at hg;cases hg)];exact k6,k7,fun i hi=>?_⟩
   obtain⟨v,a',m1,m2,m3,m4⟩:=k8 i hi
   have hgr:∀ g z,((unpack ja vs).get (B + i)).g=some g→aN (unpack ja vs).al g=some z→v=γ' g:=by
    intro g z hg _
    obtain⟨g0,z0,p1,p2,p3⟩:=hγ _ g hg
    rw[p3]
    exact m4 g0 z0 p1 p2
   rcases hget (B + i) with ⟨j,z,a2,_,h2,h3⟩ | ⟨B',off,h2,h3⟩ | h3
   ·refine⟨v,a2,m1,by rw[h3],?_,hgr⟩
    rw[m2] at h2
    cases h2
    exact m3
   ·rw[m2] at h2;cases h2
   ·exact⟨v,.any,m1,by rw[h3];rfl,by simp[VR],hgr⟩
  ·obtain⟨i,t,sz,h1,h2,h3⟩:=ic ja.vals 0 g z hz
   rw[Nat.zero_add] at h2
   subst h2
   obtain⟨g0,z0,k1,k2,k3,k4⟩:=hg1 g t sz h1
   have hγ':γ' g=γ g0:=by
    show (match gOf g with | some g=>γ g | none=>undef)=γ g0
    rw[k1]
   rw[hγ']
   obtain⟨ad,len,cap,m1,m2,m3,m4⟩:=F.free g0 z0 k3
   refine⟨ad,len,cap,m1,m2,m3,m4.imp id ?_⟩
   rintro⟨sz',b,off,x,p1,p2,p3,p4,p5,p6⟩
   have:sz'=sz:=by
    rcases k4 with k4 | k4 <;> rw[k4] at p1 <;> cases p1
    rfl
   subst this
   exact⟨sz',b,off,x,h3,p2,p3,p4,hωg b g0 g p5 k1,p6⟩
  ·obtain⟨sz,h1⟩:=hgg t g hg
   have:g < ja.vals.length:=by
    rcases Nat.lt_or_ge g ja.vals.length with h | h
    ·exact h
    ·rw[List.getElem?_eq_none h] at h1;cases h1
   show g < ja.vals.length * 1000
   omega
  ·obtain⟨i,t,sz,h1,h2,h3⟩:=ic ja.vals 0 g z hz
   have:i < ja.vals.length:=by
    rcases Nat.lt_or_ge i ja.vals.length with h | h
    ·exact h
    ·rw[List.getElem?_eq_none h] at h1;cases h1
   show g < ja.vals.length * 1000
   omega
omit [Dr] in
theorem Hr(d:Nat)(h:Hp):ix d h .any= .any:=by cases d <;> rfl
omit [Dr] in
theorem A4(g:AV→AV)(hg:g .any= .any)(vs:List AV)(i:Nat):nth (vs.map g) i=g (nth vs i):=by
 unfold nth
 rw[List.getD_eq_getElem?_getD,List.getD_eq_getElem?_getD,List.getElem?_map]
 cases vs[i]? with
 | none=>simp[hg]
 | some v=>rfl
structure Reval (g:AV→AV) (x y:Ent):Prop where
 gr:y.g=x.g
 v:(∃ a,x.v= .val a∧y.v= .val (g a))∨(∃ B off,x.v= .loc B off∧y.v= .loc B off)
omit [Dr] in
theorem gW(g:AV→AV)(hg:g .any= .any)(vs:List AV)(r:List (Nat×Ent))(hr:∀ t,Reval g (b9 r t) (b9 r t))(t:Nat):∀(l:List (Nat×Option Nat))(k:Nat),
  Reval g (b9 (cT vs k l++r) t) (b9 (cT (vs.map g) k l++r) t)
 | [],k=>by simpa [cT] using hr t
 | (s,none):: l,k=>by
  simp only[cT,List.cons_append,b9]
  cases Nat.beq s t with
  | true=>exact⟨rfl,.inl ⟨_,rfl,by simp only[cond_true];rw[A4 g hg]⟩⟩
  | false=>exact gW g hg vs r hr t l (k + 1)
 | (s,some z):: l,k=>by
  simp only[cT,List.cons_append,b9]
  cases Nat.beq s t with
  | true=>exact⟨rfl,.inl ⟨_,rfl,by simp only[cond_true];rw[A4 g hg]⟩⟩
  | false=>exact gW g hg vs r hr t l (k + 1)
omit [Dr] in
theorem vS(g:AV→AV)(hg:g .any= .any)(ja:JA)(vs:List AV)(t:Nat):Reval g ((unpack ja vs).get t) ((unpack ja (vs.map g)).get t):=by
 refine gW g hg vs _ (fun t=>?_) t ja.vals 0
 rcases oO t ja.locs with ⟨B,off,_,k2⟩ | k
 ·rw[k2];exact⟨rfl,.inr ⟨B,off,rfl,rfl⟩⟩
 ·rw[k];exact⟨rfl,.inl ⟨.any,rfl,by simp[Ent.none,hg]⟩⟩
theorem FR.reval{U:Nat→Prop}{S:aC}{β:List bU}{γ:Nat→Value}{lam:Nat→Option Nat}{ω:Nat→Owner}{e2:Env}{h2:Hp}{S2:aC}{ω2:Nat→Owner}{g:AV→AV}(F:FR c N U e h a w S β γ lam ω)(F2:FR c N U e h2 a w S2 β γ lam ω2) (hg:∀ x v,VR S β x v→VR S2 β (g x) v)
  (hr:∀ t,Reval g (e.get t) (e2.get t)) (hal:e2.al=e.al) (hlb:e2.lb=e.lb):FR c N U e2 h2 a w S2 β γ lam ω2:=by
 refine⟨F2.wf,F2.gro,F2.keep,F2.le,F2.ext,F2.hlen,F2.heap,F2.tsz,fun t ht=>?_,fun t k z ht hk hz=>?_,fun B n hB=>?_,fun k z hz=>F2.free k z (by rw[← hal];exact hz),F2.mine,fun t k hk=>?_,fun k z hz=>F2.used.2 k z (by rw[← hal];exact hz)⟩
 ·have h1:=F.slots t ht
  rcases (hr t).v with ⟨x,q1,q2⟩ | ⟨B,off,q1,q2⟩
  ·rw[q1] at h1;rw[q2];exact hg _ _ h1
  ·rw[q1] at h1;rw[q2];exact h1
 ·rw[(hr t).gr] at hk
  rw[hal] at hz
  exact F2.grps t k z ht hk hz
 ·rw[hlb] at hB
  obtain⟨k1,k2,k3,b,x,k4,k5,k6,k7,k8⟩:=F2.lblk B n hB
  obtain⟨_,_,_,b',x',j4,j5,j6,j7,j8⟩:=F.lblk B n hB
  rw[k4] at j4
  cases j4
  cases k5.inj j5
  refine⟨k1,k2,k3,b,x,k4,k5,k6,k7,fun i hi=>?_⟩
  obtain⟨v,a',m1,m2,m3,m4⟩:=k8 i hi
  obtain⟨v',a'',n1,n2,n3,_⟩:=j8 i hi
  rw[m1] at n1
  cases n1
  rcases (hr (B + i)).v with ⟨y,q1,q2⟩ | ⟨B',off,q1,q2⟩
  ·rw[n2] at q1
   cases q1
   refine⟨v,g a'',m1,q2,hg _ _ n3,fun k z hk hz=>?_⟩
   rw[(hr (B + i)).gr] at hk
   rw[hal] at hz
   exact m4 k z hk hz
  ·rw[n2] at q1;cases q1
 ·rw[(hr t).gr] at hk
  exact F2.used.1 t k hk
theorem sN{ja:JA}{vs:List AV}(H:lk c N (unpack ja vs) h a w):lk c N (unpack ja (vs.map (ix 6 h))) (h.map fun _=>[]) a w:=by
 obtain⟨S,β,γ,lam,ω,F⟩:=H
 obtain⟨S2,ω2,F2,hf⟩:=F.freeze
 have F3:=F.reval F2 (g:=ix 6 h) (fun x v hx=>hf _ _ hx) (vS _ (Hr 6 h) ja vs) (e2:=unpack ja (vs.map (ix 6 h))) rfl rfl
 exact⟨S2,β,γ,lam,ω2,F3⟩
end
end Go.Av
namespace Go.Av
variable [Dr]
section
variable {P:Program} {cx:Cx} {c:Entry} {e:Env} {h:Hp} {a:Act} {w:World} {ops:Array Oper} {id:Nat}
theorem zQ{ρ:Type}(hT:TOK P cx.T)(hC:cW P cx.own cx.call)(hI:IsoCall cx)(hk:∀ p,Cj (cK cx.ann.kinds p .L)=true→p < cx.nt){draw:Bool} {k:Env→M ρ}
  (H:lk c cx.nt e h a w) (hr:oA cx id ops draw e k h≠.fail) {Q:Exit→Act→World→Prop}
  (hn:∀ e' h' a' w',oA cx id ops draw e k h=k e' h'→lk c cx.nt e' h' a' w'→a'.defers=a.defers→Q .normal a' w')
  (hp:∀ pv h' v w' a',oA cx id ops draw e k h= .pan pv h'→mO c pv h' v w'→a'.defers=a.defers→Q (.panic [{ v,recovered:=false }]) a' w'):
  (Code.region id ops draw).wp P Q a w:=CI hT hC hI hk H hr hn hp
end
end Go.Av
namespace Go.Av
variable [Dr]
section
variable {P:Program} {Q:Exit→Act→World→Prop} {b:Code}
def lx(P:Program)(c:Code)(Q:Exit→Act→World→Prop)(a:Act)(w:World):Prop:=
 ∀(b:Frame)(k:List Item)(cs:List Frame),∃ e a' w',Q e a' w'∧Arrives P (lone (b.at a (.code c:: .inLoop c:: k)) cs w) b k cs e a' w'
omit [Dr] in
theorem lx.loop{a:Act}{w:World}(h:lx P b Q a w):(Code.loop b).wp P Q a w:=
 fun f k cs=>let ⟨e,a',w',q,r⟩:=h f k cs;⟨e,a',w',q,.of_steps (.one step_loop) r⟩
omit [Dr] in
theorem lx.round{a:Act}{w:World}(h:b.wp P (Exit.then (lx P b Q) Q) a w):lx P b Q a w:=by
 intro f k cs
 obtain⟨e,a₁,w₁,hq,harr⟩:=h f (.inLoop b:: k) cs
 cases e with
 | normal=>
  obtain⟨e₂,a₂,w₂,hq₂,harr₂⟩:=hq f k cs
  exact⟨e₂,a₂,w₂,hq₂,.of_steps (Steps.trans harr (.one step_inLoop)) harr₂⟩
 | exit id=>exact⟨_,a₁,w₁,hq,.pass (x:=.inLoop b) rfl (fun _ _=>.inl (by simp)) harr⟩
 | goto l=>exact⟨_,a₁,w₁,hq,.pass (x:=.inLoop b) rfl (fun _ _=>.inl (by simp)) harr⟩
 | ret=>exact⟨_,a₁,w₁,hq,.pass (x:=.inLoop b) rfl (fun _ _=>.inl (by simp)) harr⟩
 | panic ch=>exact⟨_,a₁,w₁,hq,.pass (x:=.inLoop b) rfl (fun _ _=>.inl (by simp)) harr⟩
 | outgrown=>exact⟨_,a₁,w₁,hq,.pass (x:=.inLoop b) rfl (fun _ _=>.inl (by simp)) harr⟩
end
section
variable {P:Program} {cx:Cx} {c:Entry} {ρ:Type}
omit [Dr] in
theorem E2{fx:bB ρ}{id:Nat}{code:Code}{e:Env}{kn kr:Env→M ρ}{kx:Nat→Env→M ρ}(hc:∀ b,code≠.loop b):
  ev cx fx (.block id code) e kn kx kr=ev cx fx code e kn (fun i e'=>bif Nat.beq i id then kn e' else kx i e') kr:=by
 cases code <;> first | rfl | exact absurd rfl (hc _)
def zy(cx:Cx)(x:Code):Option JA:=match nn x with
 | some t=>pw cx.ann.joins t
 | none=>none
omit [Dr] in
theorem JW{fx:bB ρ}{x y:Code}{e:Env}{kn kr:Env→M ρ}{kx:Nat→Env→M ρ}:ev cx fx (.seq x y) e kn kx kr=(match zy cx x with
  | some ja=>jn (fun vs=>ev cx fx y (unpack ja vs) kn kx kr) fun j=>ev cx fx x e (sf ja j) kx kr
  | none=>ev cx fx x e (fun e'=>ev cx fx y e' kn kx kr) kx kr):=by
 unfold zy
 simp only[ev]
 cases nn x with
 | none=>rfl
 | some t=>
  simp only
  cases pw cx.ann.joins t <;> rfl
structure Posts (c:Entry) (N:Nat) (r:R ρ) (a:Act) (kn:Env→M ρ) (kx:Nat→Env→M ρ) (kr:Env→M ρ) (Q:Exit→Act→World→Prop):Prop where
 nrm:∀ e' h' a' w',r=kn e' h'→lk c N e' h' a' w'→a'.defers=a.defers→Q .normal a' w'
 ext:∀ i e' h' a' w',r=kx i e' h'→lk c N e' h' a' w'→a'.defers=a.defers→Q (.exit i) a' w'
 ret:∀ e' h' a' w',r=kr e' h'→lk c N e' h' a' w'→a'.defers=a.defers→Q .ret a' w'
 pan:∀ pv h' v w' a',r= .pan pv h'→mO c pv h' v w'→a'.defers=a.defers→Q (.panic [{ v,recovered:=false }]) a' w'
theorem vQ{ja:JA}{j:List AV→M ρ}{e:Env}{h:Hp}{N:Nat}{a:Act}{w:World}(H:lk c N e h a w)(hr:sf ja j e h≠.fail):∃ vs h',sf ja j e h=j vs h'∧lk c N (unpack ja vs) h' a w:=by
 unfold sf at hr ⊢
 cases hp:pack ja e with
 | none=>rw[hp] at hr;exact absurd rfl hr
 | some vs=>
  have hs:=vT H hp
  simp only
  cases ja.fz with
  | false=>exact⟨vs,h,rfl,hs⟩
  | true=>exact⟨_,_,rfl,sN hs⟩
theorem E4 (hT:TOK P cx.T) (hC:cW P cx.own cx.call) (hI:IsoCall cx) (hk:∀ p,Cj (cK cx.ann.kinds p .L)=true→p < cx.nt) (m:Nat):∀(n:Nat)(code:Code),SizeOf.sizeOf code < n→
  ∀(e:Env)(h:Hp)(a:Act)(w:World)(kn:Env→M ρ)(kx:Nat→Env→M ρ)(kr:Env→M ρ)(Q:Exit→Act→World→Prop),lk c cx.nt e h a w→ev cx (cZ m) code e kn kx kr h≠.fail→
  Posts c cx.nt (ev cx (cZ m) code e kn kx kr h) a kn kx kr Q→code.wp P Q a w:=by
 intro n
 induction n with
 | zero=>intro code hn;omega
 | succ n ih=>
  intro code hn e h a w kn kx kr Q H hr hp
  cases code <;> (try exact absurd rfl hr)
  case skip=>exact wp_skip (hp.nrm e h a w rfl H rfl)
  case exit id=>exact wp_exit (hp.ext id e h a w rfl H rfl)
  case ret=>exact wp_ret (hp.ret e h a w rfl H rfl)
  case region id ops draw=>exact zQ hT hC hI hk H hr hp.nrm hp.pan
  case seq x y=>
   have hx:SizeOf.sizeOf x < n:=by simp at hn;omega
   have hy:SizeOf.sizeOf y < n:=by simp at hn;omega
   refine wp_seq ?_
   rw[JW] at hr hp
   generalize zy cx x=oj at hr hp
   cases oj with
   | none=>
    simp only at hr hp
    refine ih x hx e h a w _ kx kr _ H hr ⟨fun e' h' a' w' hok hs hd=>?_,fun i e' h' a' w' hok hs hd=>hp.ext i e' h' a' w' hok hs hd,fun e' h' a' w' hok hs hd=>hp.ret e' h' a' w' hok hs hd,fun pv h' v w' a' hok hs hd=>hp.pan pv h' v w' a' hok hs hd⟩
    rw[hok] at hr hp
    exact ih y hy e' h' a' w' kn kx kr Q hs hr ⟨fun e2 h2 a2 w2 k1 k2 k3=>hp.nrm e2 h2 a2 w2 k1 k2 (k3.trans hd),fun i e2 h2 a2 w2 k1 k2 k3=>hp.ext i e2 h2 a2 w2 k1 k2 (k3.trans hd),fun e2 h2 a2 w2 k1 k2 k3=>hp.ret e2 h2 a2 w2 k1 k2 (k3.trans hd),fun pv h2 v w2 a2 k1 k2 k3=>hp.pan pv h2 v w2 a2 k1 k2 (k3.trans hd)⟩
   | some ja=>
    simp only[jn] at hr hp
    refine ih x hx e h a w _ kx kr _ H hr ⟨fun e' h' a' w' hok hs hd=>?_,fun i e' h' a' w' hok hs hd=>hp.ext i e' h' a' w' hok hs hd,fun e' h' a' w' hok hs hd=>hp.ret e' h' a' w' hok hs hd,fun pv h' v w' a' hok hs hd=>hp.pan pv h' v w' a' hok hs hd⟩
    rw[hok] at hr hp
    obtain⟨vs,h3,hj,hs3⟩:=vQ hs hr
    rw[hj] at hr hp
    exact ih y hy (unpack ja vs) h3 a' w' kn kx kr Q hs3 hr ⟨fun e2 h2 a2 w2 k1 k2 k3=>hp.nrm e2 h2 a2 w2 k1 k2 (k3.trans hd),fun i e2 h2 a2 w2 k1 k2 k3=>hp.ext i e2 h2 a2 w2 k1 k2 (k3.trans hd),fun e2 h2 a2 w2 k1 k2 k3=>hp.ret e2 h2 a2 w2 k1 k2 (k3.trans hd),fun pv h2 v w2 a2 k1 k2 k3=>hp.pan pv h2 v w2 a2 k1 k2 (k3.trans hd)⟩
  case cond o x y=>
   have hx:SizeOf.sizeOf x < n:=by simp at hn;omega
   have hy:SizeOf.sizeOf y < n:=by simp at hn;omega
   cases o <;> (try exact absurd rfl hr)
   case const v=>
    simp only[ev] at hr hp
    have hav:∀ b,cA v= .bool b→a.eval (.const v)= .bool b:=by
     intro b hb
     show v= .bool b
     cases v with
     | bool c=>simp only[cA,Aw,AV.bool.injEq] at hb;rw[hb]
     | tuple vs=>simp only[cA] at hb;cases hvs:vs.isEmpty <;> rw[hvs] at hb <;> cases hb
     | pointer p=>cases p <;> (simp only[cA,Aw] at hb;cases hb)
     | map p=>cases p <;> (simp only[cA,Aw] at hb;cases hb)
     | slice p n m=>
      have hs:Aw (.slice p n m)= .sl []∨Aw (.slice p n m)= .any:=by
       cases p with
       | some q=>exact .inr rfl
       | none=>cases n with
        | succ n=>exact .inr rfl
        | zero=>cases m with
         | succ m=>exact .inr rfl
         | zero=>exact .inl rfl
      simp only[cA] at hb
      rcases hs with hs | hs <;> rw[hs] at hb <;> cases hb
     | _=>simp only[cA,Aw] at hb;cases hb
    cases hq:cA v <;> rw[hq] at hr hp <;> (try exact absurd rfl hr)
    rename_i b
    cases b with
    | true=>exact wp_cond (hav true hq) (ih x hx e h a w kn kx kr Q H hr hp)
    | false=>exact wp_cond (hav false hq) (ih y hy e h a w kn kx kr Q H hr hp)
   rename_i t
   simp only[ev] at hr hp
   cases ht:decide (t < 1000) with
   | false=>rw[ht] at hr;exact absurd rfl hr
   | true=>
    rw[ht] at hr hp
    simp only[cond_true] at hr hp
    have htl:t < 1000:=by simpa using ht
    have hav:∀ b,e.av t= .bool b→a.eval (.tmp t)= .bool b:=by
     intro b hb
     obtain⟨S,β,γ,lam,ω,F⟩:=H
     have hs:=F.slots t htl
     simp only[Env.av,Ent.av] at hb
     cases hv:(e.get t).v with
     | val av=>
      rw[hv] at hs hb
      simp only at hb
      subst hb
      simp only[fR,VR] at hs
      exact hs
     | loc B off=>rw[hv] at hb;cases hb
    cases hq:e.av t <;> rw[hq] at hr hp <;> (try exact absurd rfl hr)
    rename_i b
    cases b with
    | true=>exact wp_cond (hav true hq) (ih x hx e h a w kn kx kr Q H hr hp)
    | false=>exact wp_cond (hav false hq) (ih y hy e h a w kn kx kr Q H hr hp)
  case block id code=>
   refine wp_block ?_
   by_cases hc:∃ b,code= .loop b
   ·obtain⟨b,rfl⟩:=hc
    have hb:SizeOf.sizeOf b < n:=by simp at hn;omega
    simp only[ev] at hr hp
    cases hja:pw cx.ann.loops id with
    | none=>rw[hja] at hr;exact absurd rfl hr
    | some ja=>
     rw[hja] at hr hp
     simp only at hr hp
     refine lx.loop ?_
     obtain⟨vs,h3,hj,hs3⟩:=vQ H hr
     rw[hj] at hr hp
     have key:∀(k:Nat)(vs:List AV)(h:Hp)(a1:Act)(w:World),lk c cx.nt (unpack ja vs) h a1 w→a1.defers=a.defers→
       cZ k (fun self vs=>ev cx (cZ m) b (unpack ja vs) (sf ja self) (fun i e'=>bif Nat.beq i id then kn e' else kx i e') kr) vs h≠.fail→
       Posts c cx.nt (cZ k (fun self vs=>ev cx (cZ m) b (unpack ja vs) (sf ja self) (fun i e'=>bif Nat.beq i id then kn e' else kx i e') kr) vs h) a kn kx kr Q→lx P b (Exit.inBlock id Q) a1 w:=by
      intro k
      induction k with
      | zero=>intro vs h a1 w _ _ hr _;exact absurd rfl hr
      | succ k ihk=>
       intro vs h a1 w hs hd hr hp
       simp only[cZ] at hr hp
       refine lx.round (ih b hb (unpack ja vs) h a1 w _ _ kr _ hs hr ⟨fun e' h' a' w' hok hs' hd'=>?_,fun i e' h' a' w' hok hs' hd'=>?_,fun e' h' a' w' hok hs' hd'=>hp.ret e' h' a' w' hok hs' (hd'.trans hd),fun pv h' v w' a' hok hs' hd'=>hp.pan pv h' v w' a' hok hs' (hd'.trans hd)⟩)
       ·rw[hok] at hr hp
        obtain⟨vs',h4,hj',hs4⟩:=vQ hs' hr
        rw[hj'] at hr hp
        exact ihk vs' h4 a' w' hs4 (hd'.trans hd) hr hp
       ·cases hi:Nat.beq i id with
        | true=>
         rw[hi] at hok
         have:=Nat.eq_of_beq_eq_true hi
         subst this
         show Exit.inBlock i Q (.exit i) a' w'
         simp only[Exit.inBlock,if_true]
         exact hp.nrm e' h' a' w' hok hs' (hd'.trans hd)
        | false=>
         rw[hi] at hok
         have hne:i≠id:=fun hh=>by subst hh;simp at hi
         show Exit.inBlock id Q (.exit i) a' w'
         simp only[Exit.inBlock,if_neg hne]
         exact hp.ext i e' h' a' w' hok hs' (hd'.trans hd)
     exact key m vs h3 a w hs3 rfl hr hp
   ·have hc':∀ b,code≠.loop b:=fun b hb=>hc ⟨b,hb⟩
    rw[E2 hc'] at hr hp
    have hs:SizeOf.sizeOf code < n:=by simp at hn;omega
    refine ih code hs e h a w kn _ kr _ H hr ⟨fun e' h' a' w' hok hs' hd'=>hp.nrm e' h' a' w' hok hs' hd',fun i e' h' a' w' hok hs' hd'=>?_,fun e' h' a' w' hok hs' hd'=>hp.ret e' h' a' w' hok hs' hd',fun pv h' v w' a' hok hs' hd'=>hp.pan pv h' v w' a' hok hs' hd'⟩
    cases hi:Nat.beq i id with
    | true=>
     rw[hi] at hok
     have:=Nat.eq_of_beq_eq_true hi
     subst this
     show Exit.inBlock i Q (.exit i) a' w'
     simp only[Exit.inBlock,if_true]
     exact hp.nrm e' h' a' w' hok hs' hd'
    | false=>
     rw[hi] at hok
     have hne:i≠id:=fun hh=>by subst hh;simp at hi
     show Exit.inBlock id Q (.exit i) a' w'
     simp only[Exit.inBlock,if_neg hne]
     exact hp.ext i e' h' a' w' hok hs' hd'
end
end Go.Av
namespace Go.Av
variable [Dr]
omit [Dr] in
theorem qB:∀(args:List AV)(i t:Nat),b9 (wj i args) t=if i≤t∧t < i + args.length then ⟨.val (nth args (t - i)),none⟩ else Ent.none
 | [],i,t=>by
  simp only[wj,b9,List.length_nil,Nat.add_zero]
  rw[if_neg (by omega)]
 | a:: as0,i,t=>by
  simp only[wj,cG,List.length_cons]
  by_cases h:i=t
  ·subst h
   rw[if_pos rfl,if_pos (by omega)]
   simp[nth]
  ·rw[if_neg h,qB as0 (i + 1) t]
   by_cases h2:i + 1≤t∧t < i + 1 + as0.length
   ·rw[if_pos h2,if_pos (by omega)]
    have:t - i=(t - (i + 1)) + 1:=by omega
    simp[nth,this]
   ·rw[if_neg h2,if_neg (by omega)]
section
variable {P:Program} {cx:Cx}
open Classical in
theorem Kq{w:World}{S:aC}{β:List bU}{h:Hp}{args:List AV}{vs:List Value}{n:Nat}(hg:vX β h w)(hw:Wf S w)(hh:cU S β w h)(hv:bj S β args vs)(hn:args.length≤n)(hn2:n≤1000):
  ∃ γ lam ω,FR { w,S,β,E:=cB β h,gok:=hg } n (fun g=>g < (pZ args).nx * 1000) (pZ args) h { tmps:=vs.toArray++Array.replicate (n - vs.toArray.size) undef,defers:=[] } w S β γ lam ω:=by
 obtain⟨hlen,ω0,hr⟩:=hh
 have hvl:=hv.length
 have hget:∀ t,(pZ args).get t=if t < args.length then ⟨.val (nth args t),none⟩ else Ent.none:=fun t=>by
  have:=qB args 0 t
  simp only[Nat.zero_le,true_and,Nat.zero_add,Nat.sub_zero] at this
  exact this
 let ω:Nat→Owner:=fun b=>if cB β h b then ω0 b else .no
 refine⟨fun _=>undef,fun _=>none,ω,⟨hw,Gro.refl _,fun b _ _=>⟨rfl,fun _=>rfl⟩,aC.le_refl S,gt.refl β,hlen,fun l cs hl hcs=>?_,⟨?_,hn2⟩,fun t ht=>?_,fun t g z ht hg=>?_,fun B m hB=>?_,fun g z hz=>?_,fun b hb=>?_,fun t g hg=>?_,fun g z hz=>?_⟩⟩
 ·have hown:∀ b n,β[l]? = some (b,n)→ω0 b= .heap l→ω b= .heap l:=fun b n h1 h3=>by
   show (if cB β h b then ω0 b else .no)=_
   rw[if_pos ⟨l,cs,_,hl,hcs,h1⟩]
   exact h3
  rcases hr l cs hl hcs with ⟨b,x,h1,h2,h3,h4⟩ | ⟨b,h1,h3,h4⟩
  ·exact .inl ⟨b,x,h1,h2,hown b _ h1 h3,h4⟩
  ·exact .inr ⟨b,h1,hown b _ h1 h3,h4⟩
 ·simp;omega
 ·rw[hget]
  split
  ·rename_i hlt
   have hx:args[t]? = some (nth args t):=by simp[nth,hlt]
   obtain⟨v,h1,h2⟩:=hv.get hx
   have:(vs.toArray++Array.replicate (n - vs.toArray.size) undef).getD t undef=v:=by
    rw[Array.getD_eq_getD_getElem?,Array.getElem?_append_left (by simp;omega)]
    simp[h1]
   rw[this]
   exact h2
  ·simp[Ent.none,fR,VR]
 ·rw[hget] at hg
  split at hg <;> cases hg
 ·cases hB
 ·cases hz
 ·have hb':cB β h b:=by
   by_cases ho:cB β h b
   ·exact ho
   ·exact absurd (show ω b= .no from if_neg ho) hb
  obtain⟨l,cs,m,h1,h2,h3⟩:=hb'
  obtain⟨b',x,k1,k2,k3,_⟩:=hr.own h1 h2
  rw[h3] at k1
  cases k1
  have hω:ω b= .heap l:=by
   show (if cB β h b then ω0 b else .no)=_
   rw[if_pos ⟨l,cs,_,h1,h2,h3⟩]
   exact k3
  exact⟨.inl ⟨⟨l,cs,_,h1,h2,h3⟩,fun g=>by rw[hω];simp⟩,k2⟩
 ·rw[hget] at hg
  split at hg <;> cases hg
 ·cases hz
theorem start{w:World}{S:aC}{β:List bU}{h:Hp}{args:List AV}{vs:List Value}{n:Nat}(hg:vX β h w)(hw:Wf S w)(hh:cU S β w h)(hv:bj S β args vs)(hn:args.length≤n)(hn2:n≤1000):
  lk { w,S,β,E:=cB β h,gok:=hg } n (pZ args) h { tmps:=vs.toArray++Array.replicate (n - vs.toArray.size) undef,defers:=[] } w:=⟨S,β,Kq hg hw hh hv hn hn2⟩
def iR(tmps:Array Value):ResultVar→Sem Value
 | .tmp t=>pure (tmps.getD t undef)
 | .cell p t=>do loadVar t (← asAddr (tmps.getD p undef))
omit [Dr] in
theorem rW(fn:Func)(tmps:Array Value):results fn tmps=(do let vs ← fn.results.mapM (iR tmps);pure (if h:vs.size=1 then vs[0] else .tuple vs)):=by
 unfold results
 congr 1
theorem Kn {c:Entry} {N:Nat} {U:Nat→Prop} {e:Env} {h:Hp} {a:Act} {w:World} {S:aC} {β:List bU} {γ:Nat→Value} {lam:Nat→Option Nat} {ω:Nat→Owner} (hT:TOK P cx.T) (F:FR c N U e h a w S β γ lam ω)
  {r:ResultVar} {v:AV} (hr:xL cx.T e r=some v):∃ u,(iR a.tmps r).run P w= .ok u w∧VR S β v u:=by
 cases r with
 | tmp t=>
  simp only[xL] at hr
  cases ht:decide (t < 1000) with
  | false=>rw[ht] at hr;cases hr
  | true=>
   rw[ht] at hr
   simp only[cond_true] at hr
   have hs:=F.slots t (by simpa using ht)
   cases hv:(e.get t).v with
   | loc B off=>rw[hv] at hr;cases hr
   | val av=>
    rw[hv] at hr hs
    simp only[Option.some.injEq] at hr
    subst hr
    exact⟨_,by simp only[iR,Sem.run_pure],hs⟩
 | cell p t=>
  simp only[xL] at hr
  cases hp:decide (p < 1000) with
  | false=>rw[hp] at hr;cases hr
  | true=>
   rw[hp] at hr
   simp only[cond_true] at hr
   have hs:=F.slots p (by simpa using hp)
   cases hv:(e.get p).v with
   | loc B off=>
    rw[hv] at hr hs
    cases ht:cx.T t with
    | none=>rw[ht] at hr;cases hr
    | some ti=>
     rw[ht] at hr
     simp only at hr
     cases hin:mE e B off ti.size with
     | false=>rw[hin] at hr;cases hr
     | true=>
      rw[hin] at hr
      simp only[cond_true] at hr
      simp only[fR] at hs
      obtain⟨b,hlam,hpv⟩:=hs
      obtain⟨b',x,m,hm,hle,hlam',hrow,hms,hcells⟩:=F.locals hin
      rw[hlam] at hlam';cases hlam'
      let f:Nat→Value:=fun i=>(x[off + i]?).getD undef
      have hf:∀ i,i < ti.size→x[off + i]? = some (f i):=fun i hi=>by
       obtain⟨v,_,hv',_⟩:=hcells i hi
       show _=some ((x[off + i]?).getD undef)
       rw[hv'];rfl
      have hload:=pH hT ht hrow f hf
      have hexec:∀ v,(loadVar t ⟨b,off,none⟩).run P w= .ok v w→(iR a.tmps (.cell p t)).run P w= .ok v w:=fun v hv'=>by
       simp only[iR];rw[hpv];simpa [asAddr] using hv'
      cases hag:ti.agg with
      | true=>
       rw[hag] at hr
       simp only[cond_true,Option.some.injEq] at hr
       subst hr
       refine⟨_,hexec _ (hload.1 hag),?_⟩
       simp only[VR]
       refine⟨_,rfl,re ti.size fun i hi=>?_⟩
       obtain⟨v,a',g1,g2,g3,_⟩:=hcells i hi
       have:f i=v:=by show (x[off + i]?).getD undef=v;rw[g1];rfl
       rw[this]
       simp only[Env.av,Ent.av,g2]
       exact g3
      | false=>
       rw[hag] at hr
       simp only[cond_false] at hr
       cases hone:decide (ti.size=1) with
       | false=>rw[hone] at hr;cases hr
       | true=>
        rw[hone] at hr
        simp only[cond_true,Option.some.injEq] at hr
        subst hr
        have hone':ti.size=1:=by simpa using hone
        obtain⟨v,a',g1,g2,g3,g4⟩:=hcells 0 (by omega)
        simp only[Nat.add_zero] at g1 g2 g4
        have hfv:f 0=v:=by show (x[off + 0]?).getD undef=v;rw[Nat.add_zero,g1];rfl
        refine⟨v,hexec _ (hfv▸hload.2 hag hone'),?_⟩
        simp only[Env.av,Ent.av,g2]
        exact g3
   | val av=>
    rw[hv] at hr hs
    cases ht:cx.T t with
    | none=>rw[ht] at hr;cases hr
    | some ti=>
     rw[ht] at hr
     simp only at hr
     obtain⟨v,h1,h2⟩:=AS hT F.wf hr hs
     refine⟨v,?_,h2⟩
     unfold ah at hr
     rw[ht] at hr
     cases av <;> simp only[reduceCtorEq] at hr
     simp only[fR,VR] at hs
     obtain⟨b,off,vs,hpv,_,_⟩:=hs
     simp only[iR]
     rw[hpv] at h1 ⊢
     simpa [Instr.loadAt,Instr.sureAddr,asAddr] using h1
theorem zR{c:Entry}{N:Nat}{U:Nat→Prop}{e:Env}{h:Hp}{a:Act}{w:World}{S:aC}{β:List bU}{γ:Nat→Value}{lam:Nat→Option Nat}{ω:Nat→Owner}(hT:TOK P cx.T) (F:FR c N U e h a w S β γ lam ω)
  {fn:Func} {vs:List AV} (hr:gR cx.T e fn.results.toList=some vs):∃ u,(results fn a.tmps).run P w= .ok u w∧VR S β (mK vs) u:=by
 have key:∀(l:List ResultVar)(vs:List AV),gR cx.T e l=some vs→∃ us:List Value,(l.mapM (iR a.tmps)).run P w= .ok us w∧bj S β vs us:=by
  intro l
  induction l with
  | nil=>intro vs h;simp only[gR,Option.some.injEq] at h;subst h;exact⟨[],by simp,by simp[bj]⟩
  | cons r rs ih=>
   intro vs h
   simp only[gR] at h
   cases h1:xL cx.T e r with
   | none=>rw[h1] at h;cases h
   | some v=>
    cases h2:gR cx.T e rs with
    | none=>rw[h1,h2] at h;cases h
    | some vs'=>
     rw[h1,h2] at h
     simp only[Option.some.injEq] at h
     subst h
     obtain⟨u,k1,k2⟩:=Kn hT F h1
     obtain⟨us,m1,m2⟩:=ih vs' h2
     refine⟨u:: us,?_,by simp only[bj];exact⟨u,us,rfl,k2,m2⟩⟩
     rw[List.mapM_cons,Sem.run_bind,k1,Result.andThen_ok,Sem.run_bind,m1,Result.andThen_ok,Sem.run_pure]
 obtain⟨us,k1,k2⟩:=key _ _ hr
 have hlen:=k2.length
 have hrun:(fn.results.mapM (iR a.tmps)).run P w= .ok us.toArray w:=by
  rw[Array.mapM_eq_mapM_toList]
  rw[map_eq_pure_bind,Sem.run_bind,k1,Result.andThen_ok,Sem.run_pure]
 refine⟨if h:us.toArray.size=1 then us.toArray[0] else .tuple us.toArray,?_,?_⟩
 ·rw[rW,Sem.run_bind,hrun,Result.andThen_ok,Sem.run_pure]
 ·unfold mK
  split
  ·rename_i v
   cases us with
   | nil=>simp at hlen
   | cons u us=>
    cases us with
    | nil=>simp only[bj] at k2;obtain⟨x,xs,hx,hy,_⟩:=k2;simp at hx;simp[hx.1,hy]
    | cons u2 us=>simp at hlen
  ·rename_i hne
   rw[dif_neg]
   ·simp only[VR];exact⟨us,rfl,k2⟩
   ·intro h1
    have:vs.length=1:=by rw[← hlen];simpa using h1
    match vs,this with
    | [v],_=>exact hne v rfl
end
end Go.Av
namespace Go.Av
variable [Dr]
omit [Dr] in
theorem xk{n:Nat}{ks:List (Nat×Kind)}(h:nJ n ks=true):∀ p,Cj (cK ks p .L)=true→p < n:=by
 intro p hp
 induction ks with
 | nil=>simp[cK,Cj] at hp
 | cons x ks ih=>
  obtain⟨k,y⟩:=x
  unfold nJ at h
  simp only[List.all_cons,Bool.and_eq_true] at h
  simp only[cK] at hp
  cases hk:Nat.beq k p with
  | true=>
   rw[hk] at hp
   simp only[cond_true] at hp
   have:=h.1
   rw[hp] at this
   have hk':=Nat.eq_of_beq_eq_true hk
   subst hk'
   simpa using this
  | false=>
   rw[hk] at hp
   exact ih h.2 hp
section
variable {P:Program} {cx:Cx}
theorem Kh{c:Entry}{N:Nat}{U:Nat→Prop}{e:Env}{h:Hp}{a:Act}{w:World}{S:aC}{β:List bU}{γ:Nat→Value}{lam:Nat→Option Nat}{ω:Nat→Owner} (F:FR c N U e h a w S β γ lam ω)
  {fn:Func} {sz:Nat} (ho:vq fn e sz=true) {u:Value} (hu:(results fn a.tmps).run P w= .ok u w):un c.w.heap.size S β w h sz u:=by
 unfold vq at ho
 split at ho
 ·rename_i t hres
  cases ht:decide (t < 1000) with
  | false=>rw[ht] at ho;cases ho
  | true=>
   rw[ht] at ho
   simp only[Bool.true_and] at ho
   split at ho
   ·rename_i g hg
    split at ho
    ·rename_i z hz
     have hgr:=F.grps t g z (by simpa using ht) hg hz
     obtain⟨ad,len,cap,h1,h2,h3,h4⟩:=F.free g z hz
     have hue:u=a.tmps.getD t undef:=by
      have hr:fn.results= #[.tmp t]:=by apply Array.ext';simpa using hres
      rw[rW,hr] at hu
      simp[iR] at hu
      simpa using hu.symm
     rw[hue,hgr]
     refine⟨ad,len,cap,h1,h2,h3,h4.imp id ?_⟩
     rintro⟨sz',b,off,x,k1,k2,k3,k4,k5,k6⟩
     have hsz:sz'=sz:=by
      rw[k1] at ho
      simp only[vL] at ho
      exact Nat.eq_of_beq_eq_true ho
     subst hsz
     refine⟨b,off,x,k2,k3,k4,(F.mine b (by rw[k5];simp)).1.grp k5,fun hb=>?_,k6⟩
     obtain⟨l,_,hl,_⟩:=F.hown hb
     rw[k5] at hl
     cases hl
    ·cases ho
   ·cases ho
 ·cases ho
omit [Dr] in
theorem Gf{fn:Func}{own:Option Nat}{e:Env}{h:Hp}(hr:kp cx fn own e h≠.fail):∃ rs,gR cx.T e fn.results.toList=some rs∧(kp cx fn own e h= .ok (mK rs) h∨(own=none∧kp cx fn own e h= .ok (ix 6 h (mK rs)) (h.map fun _=>[])))∧∀ sz,own=some sz→vq fn e sz=true:=by
 have key:∀ b z:Bool,(bif b then ae (af ((gR cx.T e fn.results.toList).map mK)) (bif z then (bif own.isSome then fun _=>M.fail else AK) else M.pure) else M.fail:M AV) h≠.fail→b=true∧∃ rs,gR cx.T e fn.results.toList=some rs∧
   ((bif b then ae (af ((gR cx.T e fn.results.toList).map mK)) (bif z then (bif own.isSome then fun _=>M.fail else AK) else M.pure) else M.fail:M AV) h= .ok (mK rs) h∨
    (own=none∧(bif b then ae (af ((gR cx.T e fn.results.toList).map mK)) (bif z then (bif own.isSome then fun _=>M.fail else AK) else M.pure) else M.fail:M AV) h= .ok (ix 6 h (mK rs)) (h.map fun _=>[]))):=by
  intro b z hr
  cases b with
  | false=>exact absurd rfl hr
  | true=>
   refine⟨rfl,?_⟩
   cases hres:gR cx.T e fn.results.toList with
   | none=>rw[hres] at hr;exact absurd rfl hr
   | some rs=>
    rw[hres] at hr
    cases z with
    | false=>exact⟨rs,rfl,.inl rfl⟩
    | true=>
     cases own with
     | none=>exact⟨rs,rfl,.inr ⟨rfl,rfl⟩⟩
     | some sz=>exact absurd rfl hr
 unfold kp at hr ⊢
 cases own with
 | none=>
  obtain⟨_,rs,h1,h2⟩:=key true _ hr
  exact⟨rs,h1,h2,fun sz hsz=>by cases hsz⟩
 | some sz=>
  obtain⟨h0,rs,h1,h2⟩:=key _ _ hr
  exact⟨rs,h1,h2,fun sz' hsz=>by cases hsz;exact h0⟩
theorem i8(hT:TOK P cx.T)(hC:cW P cx.own cx.call)(hI:IsoCall cx)(m:Nat){f:FuncId}{fn:Func}(hf:P.funcs[f]? = some fn)(hnt:cx.nt=fn.ntmps){own:Option Nat}{args:List AV}{h:Hp}{S:aC}{β:List bU}{w:World} {vs:List Value}
  (hr:ci cx (cZ m) fn own args h≠.fail) (hg:vX β h w) (hw:Wf S w) (hh:cU S β w h) (hv:bj S β args vs):Calls P f vs.toArray w (eM own S β h w (ci cx (cZ m) fn own args h))∧fn.body.isSome=true:=by
 unfold ci at hr ⊢
 cases hb:fn.body with
 | none=>rw[hb] at hr;exact absurd rfl hr
 | some code=>
  rw[hb] at hr
  simp only at hr ⊢
  refine⟨?_,rfl⟩
  cases hc:(decide (args.length≤fn.ntmps)&&decide (fn.ntmps≤1000)&&nJ cx.nt cx.ann.kinds) with
  | false=>rw[hc] at hr;exact absurd rfl hr
  | true=>
   rw[hc] at hr
   simp only[cond_true] at hr ⊢
   simp only[Bool.and_eq_true,decide_eq_true_eq] at hc
   obtain⟨⟨hc1,hc2⟩,hc3⟩:=hc
   have H:lk { w,S,β,E:=cB β h,gok:=hg } cx.nt (pZ args) h { tmps:=vs.toArray++Array.replicate (fn.ntmps - vs.toArray.size) undef,defers:=[] } w:=by
    rw[hnt]
    exact start hg hw hh hv hc1 hc2
   have hret:∀(e':Env)(h':Hp)(a':Act)(w':World),ev cx (cZ m) code (pZ args) (kp cx fn own) (fun _ _=>M.fail) (kp cx fn own) h=kp cx fn own e' h'→
     lk { w,S,β,E:=cB β h,gok:=hg } cx.nt e' h' a' w'→∃ v,(results fn a'.tmps).run P w'= .ok v w'∧eM own S β h w (ev cx (cZ m) code (pZ args) (kp cx fn own) (fun _ _=>M.fail) (kp cx fn own) h) (.returned v) w':=by
    intro e' h' a' w' hok hs
    rw[hok] at hr ⊢
    obtain⟨rs,hres,hret,hown⟩:=Gf hr
    obtain⟨S',β',γ,lam,ω,F⟩:=hs
    obtain⟨u,hu1,hu2⟩:=zR (P:=P) hT F hres
    rcases hret with hret | ⟨rfl,hret⟩
    ·rw[hret]
     exact⟨u,hu1,S',β',u,rfl,hu2,F.out,fun sz hsz=>Kh F (hown sz hsz) hu1⟩
    ·rw[hret]
     obtain⟨S2,ω2,F2,hf⟩:=F.freeze
     exact⟨u,hu1,S2,β',u,rfl,hf _ _ hu2,F2.out,fun sz hsz=>by cases hsz⟩
   refine calls_of_wp hf hb (E4 hT hC hI (xk hc3) m _ code (Nat.lt_succ_self _) (pZ args) h _ w _ _ _ _ H hr ⟨fun e' h' a' w' hok hs hd=>?_,fun i e' h' a' w' hok hs hd=>?_,fun e' h' a' w' hok hs hd=>?_,fun pv h' v w' a' hok hs hd=>?_⟩)
   ·exact⟨hd,hret e' h' a' w' hok hs⟩
   ·rw[hok] at hr;exact absurd rfl hr
   ·exact⟨hd,hret e' h' a' w' hok hs⟩
   ·refine⟨hd,?_⟩
    rw[hok]
    obtain⟨S',β',hout,hvr⟩:=hs
    exact⟨S',β',v,rfl,hvr,hout⟩
end
open Classical in
theorem AO{S:aC}{β:List bU}{w w':World}{h:Hp}(_hw:Wf S w)(hh:cU S β w h){β0:List bU}{h0:Hp}(hE:∀ b,¬ cB β0 h0 b){S':aC}{β':List bU}{h':Hp}(L:Left (cB β0 h0) S β0 w S' β' w' h'):∃ S2,Left (cB β h) S β w S2 β w' h∧(∀ a v,VR S' β' a v→VR S2 β (ix 6 h' a) v)∧∀ sz v,un w.heap.size S' β' w' h' sz v→un w.heap.size S2 β w' h sz v:=by
 obtain⟨hlen,ω,hH⟩:=L.heap
 have hnew:∀ b,cB β' h' b→w.heap.size≤b:=fun b hb=>(L.owned b hb).resolve_left (hE b)
 let S2:aC:=fun b o=>if cB β' h' b then w'.cell? ⟨b,o,none⟩ else S' b o
 have hS2n:∀ b,¬ cB β' h' b→∀ o,S2 b o=S' b o:=fun b hb o=>if_neg hb
 have hS2y:∀ b,cB β' h' b→∀ o,S2 b o=w'.cell? ⟨b,o,none⟩:=fun b hb o=>if_pos hb
 have hle:S'.le S2:=by
  intro b o v hv
  by_cases hb:cB β' h' b
  ·obtain⟨l,cs,n,h1,h2,h3⟩:=hb
   obtain⟨b',x,k1,k2,k3,k5⟩:=hH.own h1 h2
   rw[h3] at k1;cases k1
   rw[k5] at hv
   cases hv
  ·rw[hS2n b hb];exact hv
 have hrow:∀ b,b < w.heap.size→w'.heap[b]? = w.heap[b]? ∧∀ o,S2 b o=S b o:=by
  intro b hb
  have hk:=L.keep b hb (hE b)
  refine⟨hk.1,fun o=>?_⟩
  rw[hS2n b (fun ho=>by have:=hnew b ho;omega)]
  exact hk.2 o
 have hwf:Wf S2 w':=by
  intro b o v hv
  by_cases hb:cB β' h' b
  ·rw[hS2y b hb] at hv;exact hv
  ·rw[hS2n b hb] at hv;exact L.wf b o v hv
 obtain⟨hlen0,ω0,hH0⟩:=hh
 have hlt0:∀ b,cB β h b→b < w.heap.size:=by
  rintro b ⟨l,cs,n,h1,h2,h3⟩
  obtain⟨b',x,k1,k2,_⟩:=hH0.own h1 h2
  rw[h3] at k1;cases k1
  exact k2
 have hle0:S.le S2:=aC.le_trans L.le hle
 refine⟨S2,⟨hle0,gt.refl β,hwf,L.gro,fun b hb _=>hrow b hb,⟨hlen0,ω0,hH0.rows hle0 (gt.refl β) hlen0 fun l cs hl _=>.inl ⟨hl,fun b hb ho=>⟨ho,(hrow b hb).1,fun o h=>by rw[(hrow b hb).2];exact h⟩⟩⟩,fun b hb=>.inl hb⟩,fun a v hv=>uX hH hle (fun b o x hb hr=>?_) 6 a v hv,fun sz v=>?_⟩
 ·rw[hS2y b hb,hr.cell]
 ·rintro⟨ad,len,cap,k1,k2,k3,k4⟩
  refine⟨ad,len,cap,k1,k2,k3,k4.imp id ?_⟩
  rintro⟨b,off,x,p1,p2,p3,p4,p5,p6⟩
  refine⟨b,off,x,p1,p2,p3,p4,fun hb=>?_,fun o ho=>by rw[hS2n b p5];exact p6 o ho⟩
  have:=hlt0 b hb
  omega
theorem Fv{S:aC}{β:List bU}{w w':World}{h:Hp}{own:Option Nat}{m:List AV→M AV}{args:List AV}{en:Ending}(hw:Wf S w)(hh:cU S β w h)(hp:eM own S [] [] w (m (dL aw args) []) en w'):eM own S β h w (rq m args h) en w':=by
 have key:=fun {S':aC} {β':List bU} {h':Hp} (L:Left (cB [] []) S [] w S' β' w' h')=>AO hw hh (by rintro b ⟨l,cs,n,h1,_⟩;simp at h1) L
 unfold rq
 cases hm:m (dL aw args) [] with
 | fail=>rw[hm] at hp;exact hp.elim
 | ok r h'=>
  rw[hm] at hp
  obtain⟨S',β',v,h1,h2,h3,h4⟩:=hp
  obtain⟨S2,k1,k2,k3⟩:=key h3
  exact⟨S2,β,v,h1,k2 r v h2,k1,fun sz hsz=>k3 sz v (h4 sz hsz)⟩
 | pan r h'=>
  rw[hm] at hp
  obtain⟨S',β',v,h1,h2,h3⟩:=hp
  obtain⟨S2,k1,k2,k3⟩:=key h3
  exact⟨S2,β,v,h1,k2 r v h2,k1⟩
structure GoodPg (P:Program) (p:Pg):Prop where
 tok:TOK P p.T
 funcs:∀ f fn a,p.funcs f=some (fn,a)→P.funcs[f]? = some fn∧(fn.name== "runtime.NumGoroutine")=false
 other:∀ f E,p.other f=some E→∀ call,cW P p.own call→∀(args:List AV)(h:Hp)(S:aC)(β:List bU)(w:World)(vs:List Value),E call args h≠.fail→vX β h w→Wf S w→cU S β w h→bj S β args vs→
  Calls P f vs.toArray w (eM (p.own f) S β h w (E call args h))∧(P.funcs[f]?).any (fun fn=>fn.body.isSome && !(fn.name== "runtime.NumGoroutine"))=true
 nw:∀ f,p.nw f=true→∃ E,p.other f=some E∧∀ call args,yE (E call args)
omit [Dr] in
theorem cU.nil{S:aC}{w:World}:cU S [] w []:=⟨rfl,fun _=>.no,fun l cs hl=>by simp at hl⟩
theorem wJ{P:Program}{p:Pg}(G:GoodPg P p)(m:Nat){call:FuncId→List AV→M AV}(hC:cW P p.own call)(hI:∀ n a,IsoCall (p.cx call n a)):cW P p.own (jI p call (cZ m)):=by
 intro f args h S β w vs hr hg hw hh hv
 unfold jI at hr ⊢
 cases ho:p.other f with
 | some E=>rw[ho] at hr;exact G.other f E ho call hC args h S β w vs hr hg hw hh hv
 | none=>
  rw[ho] at hr
  simp only at hr ⊢
  cases hf:p.funcs f with
  | none=>rw[hf] at hr;exact absurd rfl hr
  | some x=>
   obtain⟨fn,a⟩:=x
   rw[hf] at hr
   simp only at hr ⊢
   obtain⟨hf1,hf2⟩:=G.funcs f fn a hf
   have hany:fn.body.isSome=true→(P.funcs[f]?).any (fun fn=>fn.body.isSome && !(fn.name== "runtime.NumGoroutine"))=true:=by
    intro hb
    rw[hf1]
    simp only[Option.any_some,hb,hf2,Bool.not_false,Bool.and_self]
   cases hi:a.iso with
   | false=>
    rw[hi] at hr
    simp only[cond_false] at hr ⊢
    obtain⟨h1,h2⟩:=i8 (cx:=p.cx call fn.ntmps a) G.tok hC (hI _ _) m hf1 rfl hr hg hw hh hv
    exact⟨h1,hany h2⟩
   | true=>
    rw[hi] at hr
    simp only[cond_true] at hr ⊢
    have hr':ci (p.cx call fn.ntmps a) (cZ m) fn (p.own f) (dL aw args) []≠.fail:=by
     intro hf
     unfold rq at hr
     rw[hf] at hr
     exact hr rfl
    obtain⟨h1,h2⟩:=i8 (cx:=p.cx call fn.ntmps a) G.tok hC (hI _ _) m hf1 rfl hr' ⟨hg.1,fun b _ hb=>by obtain⟨l,_,_,h1,_⟩:=hb;simp at h1⟩ hw cU.nil (EU hv)
    exact⟨h1.mono fun en w' hp=>Fv hw hh hp,hany h2⟩
omit [Dr] in
theorem zi(p:Pg)(hN:∀ f,p.nw f=true→∃ E,p.other f=some E∧∀ call args,yE (E call args)):∀ n k a,IsoCall (p.cx (dF p n) k a)
 | 0,k,a=>⟨fun f args _=>⟨none,fun _=>rfl⟩,fun f args _ h v h' hh=>by cases hh⟩
 | n + 1,k,a=>by
  refine⟨?_,fun f args hf=>?_⟩
  case refine_2=>
   obtain⟨E,hE,hn⟩:=hN f hf
   have:(p.cx (dF p (n + 1)) k a).call f args=E (dF p n) args:=by
    show jI p (dF p n) (cZ n) f args=_
    unfold jI
    rw[hE]
   rw[this]
   exact hn _ _
  intro f args hi
  have hi':p.iso f=true:=hi
  unfold Pg.iso at hi'
  cases ho:p.other f with
  | some E=>rw[ho] at hi';cases hi'
  | none=>
   rw[ho] at hi'
   simp only at hi'
   cases hf:p.funcs f with
   | none=>rw[hf] at hi';cases hi'
   | some x=>
    obtain⟨fn,b⟩:=x
    rw[hf] at hi'
    simp only at hi'
    refine⟨match ci (p.cx (dF p n) fn.ntmps b) (cZ n) fn (p.own f) (dL aw args) [] with | .ok r h'=>some (true,ix 6 h' r) | .pan v h'=>some (false,ix 6 h' v) | .fail=>none,fun h=>?_⟩
    show jI p (dF p n) (cZ n) f args h=_
    unfold jI
    rw[ho]
    simp only
    rw[hf]
    simp only[hi',cond_true,rq]
    cases ci (p.cx (dF p n) fn.ntmps b) (cZ n) fn (p.own f) (dL aw args) [] <;> rfl
theorem nv{P:Program}{p:Pg}(G:GoodPg P p):∀ n,cW P p.own (dF p n)
 | 0=>fun _f _args _h _S _β _w _vs hr=>absurd rfl hr
 | n + 1=>wJ G n (nv G n) fun k a=>zi p G.nw n k a
end Go.Av
namespace Go.Av
theorem Fq{m:List AV→M AV}{ms:Nat→List AV→M AV}(h:bg m ms)(args:List AV):aJ (rq m args) fun n=>rq (ms n) args:=by
 intro x
 obtain⟨h1,h2⟩:=h (dL aw args) []
 (try dsimp only at h1 h2)
 refine⟨fun hne=>?_,fun n hne=>?_⟩
 ·have hne':m (dL aw args) []≠.fail:=fun hf=>hne (by simp only[rq,hf])
  obtain⟨N,hN⟩:=h1 hne'
  refine⟨N,fun n hn=>?_⟩
  (try dsimp only)
  simp only[rq,hN n hn]
 ·(try dsimp only at hne ⊢)
  have hne':ms n (dL aw args) []≠.fail:=fun hf=>hne (by simp only[rq,hf])
  simp only[rq,h2 n hne']
def dK(p:Pg):Prop:=∀ f E,p.other f=some E→∀(call:FuncId→List AV→M AV)(calls:Nat→FuncId→List AV→M AV),(∀ f,bg (call f) fun n=>calls n f)→bg (E call) fun n=>E (calls n)
section
variable {cx:Cx} {call:FuncId→List AV→M AV} {calls:Nat→FuncId→List AV→M AV} {fx:bB AV} {fxs:Nat→bB AV}
theorem zh(hc:∀ f,bg (call f) fun n=>calls n f)(hfx:om fx fxs)(hfc:vY fx)(hfcs:∀ n,vY (fxs n))(fn:Func)(own:Option Nat):
  bg (ci (cx.wc call) fx fn own) fun n=>ci (cx.wc (calls n)) (fxs n) fn own:=by
 intro args
 unfold ci
 cases fn.body with
 | none=>exact aJ.const _
 | some c=>
  have key:∀ b:Bool,aJ (bif b then ev (cx.wc call) fx c (pZ args) (kp (cx.wc call) fn own) (fun _ _=>M.fail) (kp (cx.wc call) fn own) else M.fail) fun n=>(bif b then ev (cx.wc (calls n)) (fxs n) c (pZ args) (kp (cx.wc (calls n)) fn own) (fun _ _=>M.fail) (kp (cx.wc (calls n)) fn own) else M.fail):=by
   intro b
   cases b with
   | false=>exact aJ.const _
   | true=>
    have hr:bg (kp (cx.wc call) fn own) fun n=>kp (cx.wc (calls n)) fn own:=bg.const (kp cx fn own)
    exact JV _ c (Nat.lt_succ_self _) call calls fx fxs hc hfx hfc hfcs (pZ args) _ (fun n=>kp (cx.wc (calls n)) fn own) _ (fun _ _ _=>M.fail) _ (fun n=>kp (cx.wc (calls n)) fn own) hr (fun i=>bg.const _) hr
  exact key (decide (args.length≤fn.ntmps)&&decide (fn.ntmps≤1000)&&nJ cx.nt cx.ann.kinds)
theorem tt{p:Pg}(hO:dK p)(hc:∀ f,bg (call f) fun n=>calls n f)(hfx:om fx fxs)(hfc:vY fx)(hfcs:∀ n,vY (fxs n))(f:FuncId):bg (jI p call fx f) fun n=>jI p (calls n) (fxs n) f:=by
 intro args
 unfold jI
 cases ho:p.other f with
 | some E=>exact hO f E ho call calls hc args
 | none=>
  simp only
  cases p.funcs f with
  | none=>exact aJ.const _
  | some x=>
   obtain⟨fn,a⟩:=x
   simp only
   have hb:=zh (cx:=p.cx call fn.ntmps a) hc hfx hfc hfcs fn (p.own f)
   cases a.iso with
   | true=>exact Fq hb args
   | false=>exact hb args
end
theorem pq{p:Pg}(hO:dK p):∀ n f args,yw (dF p n f args) (dF p (n + 1) f args)
 | 0,f,args=>fun x hne=>absurd rfl hne
 | n + 1,f,args=>by
  have hc:∀ f,bg (dF p (n + 1) f) fun m=>(if m=0 then dF p n else dF p (n + 1)) f:=by
   intro f args x
   refine⟨fun _=>⟨1,fun m hm=>?_⟩,fun m hne=>?_⟩
   ·(try dsimp only)
    rw[if_neg (by omega)]
   ·(try dsimp only at hne ⊢)
    by_cases h0:m=0
    ·rw[if_pos h0] at hne ⊢;exact pq hO n f args x hne
    ·rw[if_neg h0]
  have h:=tt hO hc (wQ n) (uT (n + 1)) (fun m=>by
   by_cases h0:m=0
   ·rw[if_pos h0];exact uT n
   ·rw[if_neg h0];exact uT (n + 1)) f args
  intro x hne
  have:=(h x).2 0
  (try dsimp only at this)
  rw[if_pos rfl,if_pos rfl] at this
  exact this hne
theorem uQ{p:Pg}(hO:dK p){n m:Nat}(h:n≤m)(f:FuncId)(args:List AV):yw (dF p n f args) (dF p m f args):=by
 induction m with
 | zero => have:n=0:=by omega
           subst this;exact .refl _
 | succ m ih=>
  by_cases hn:n=m + 1
  ·subst hn;exact .refl _
  ·exact (ih (by omega)).trans (pq hO m f args)
open Classical in
noncomputable def ai (p:Pg) (f:FuncId) (args:List AV):M AV:=fun h=>if hx:∃ n,dF p n f args h≠.fail then dF p (Classical.choose hx) f args h else .fail
theorem me{p:Pg}(hO:dK p)(f:FuncId):bg (ai p f) fun n=>dF p n f:=by
 intro args h
 refine tf (fun n m hnm hne=>uQ hO hnm f args h hne) ?_
 unfold ai
 by_cases hx:∃ n,dF p n f args h≠.fail
 ·left
  simp only[dif_pos hx]
  exact⟨_,Classical.choose_spec hx,rfl⟩
 ·right
  simp only[dif_neg hx]
  exact⟨fun n=>Classical.byContradiction fun h=>hx ⟨n,h⟩,trivial⟩
theorem qt.uniq{α:Type}{a a':R α}{b:Nat→R α}(h:qt a b)(g:qt a' fun n=>b (n + 1)):a=a':=by
 by_cases ha:a= .fail
 ·by_cases ha':a'= .fail
  ·rw[ha,ha']
  ·obtain⟨N,hN⟩:=g.1 ha'
   have h1:=hN N (Nat.le_refl _)
   (try dsimp only at h1)
   exact (h.2 (N + 1) (by rw[h1];exact ha')).symm.trans h1
 ·obtain⟨N,hN⟩:=h.1 ha
  have h1:=hN (N + 1) (by omega)
  have h2:=g.2 N
  (try dsimp only at h2)
  exact h1.symm.trans (h2 (by rw[h1];exact ha))
theorem qD{p:Pg}(hO:dK p)(f:FuncId)(args:List AV):ai p f args=jI p (ai p) aj f args:=by
 funext h
 have h1:=me hO f args h
 have h2:=tt hO (fun f=>me hO f) wP Fb (fun n=>uT n) f args h
 exact h1.uniq h2
theorem lD[Dr]{P:Program}{p:Pg}(G:GoodPg P p)(hO:dK p):cW P p.own (ai p):=by
 intro f args h S β w vs hr hg hw hh hv
 obtain⟨N,hN⟩:=(me hO f args h).1 hr
 have h1:=hN N (Nat.le_refl _)
 (try dsimp only at h1)
 rw[← h1] at hr ⊢
 exact nv G N f args h S β w vs hr hg hw hh hv
theorem EP{p:Pg}(hO:dK p){n:Nat}{f:FuncId}{args:List AV}{h:Hp}{r:R AV}(hr:dF p n f args h=r)(hne:r≠.fail):ai p f args h=r:=by
 have:=(me hO f args h).2 n (by (try dsimp only);rw[hr];exact hne)
 (try dsimp only at this)
 rw[← this,hr]
end Go.Av
namespace Go.Av
section
variable {ρ:Type}
theorem aQ{F:(List AV→M ρ)→List AV→M ρ}(hF:mF F)(vs:List AV):aj F vs=F (aj F) vs:=by
 funext h
 exact (ig hF vs h).uniq (hF _ _ (ig hF) vs h)
theorem au{c:AV}{x y:M ρ}{xs ys:Nat→M ρ}(hx:aJ x xs)(hy:aJ y ys):aJ (ap c x y) fun n=>ap c (xs n) (ys n):=by
 unfold ap
 cases c with
 | bool b=>cases b <;> first | exact hx | exact hy
 | _=>exact aJ.const _
theorem gG{F:(List AV→M ρ)→List AV→M ρ}{Fs:Nat→(List AV→M ρ)→List AV→M ρ}(h1:bD F Fs)(h2:mF F)(h3:∀ n,mF (Fs n)):bg (aj F) fun n=>aj (Fs n):=Fb F Fs h1 h2 h3
end
end Go.Av
namespace Go.Av
def aE(m:M AV):M AV:=fun h=>match m [] with
 | .ok r h'=>.ok (ix 6 h' r) h
 | .pan v h'=>.pan (ix 6 h' v) h
 | .fail=>.fail
theorem ay{p:Pg}(hO:dK p){f:FuncId}{fn:Func}{a:Ann}(h1:p.other f=none)(h2:p.funcs f=some (fn,a))(h3:a.iso=true)(args:List AV):
  ai p f args=aE (ci (p.cx (ai p) fn.ntmps a) aj fn (p.own f) (dL aw args)):=by
 rw[qD hO]
 unfold jI
 rw[h1]
 simp only
 rw[h2]
 simp only[h3,cond_true]
 rfl
theorem cg{p:Pg}(hO:dK p){f:FuncId}{fn:Func}{a:Ann}(h1:p.other f=none)(h2:p.funcs f=some (fn,a))(h3:a.iso=false)(args:List AV):
  ai p f args=ci (p.cx (ai p) fn.ntmps a) aj fn (p.own f) args:=by
 rw[qD hO]
 unfold jI
 rw[h1]
 simp only
 rw[h2]
 simp only[h3,cond_false]
theorem dy{p:Pg}(hO:dK p){f:FuncId}{E:(FuncId→List AV→M AV)→List AV→M AV}(h1:p.other f=some E)(args:List AV):ai p f args=E (ai p) args:=by
 rw[qD hO]
 unfold jI
 rw[h1]
def fA(T:TT)(t:TypeId):(FuncId→List AV→M AV)→List AV→M AV:=fun _ args=>match args with
 | [.sl es]=>af (cP T t (.sl []) (.sl es))
 | _=>M.fail
def di(T:TT)(t:TypeId):(FuncId→List AV→M AV)→List AV→M AV:=fun _ args=>match args with
 | [.sl es]=>appH T t true (.sl []) (.sl es)
 | _=>M.fail
def vR(t:TypeId)(k:IntKind)(zero:AV):R AV→R AV
 | .ok v h'=>bif cm 4 v then .ok (.tup [.agg (ab v),.int k 0]) h' else .fail
 | .pan (.iface t' (.int k' n)) h'=>bif Nat.beq t' t&&decide (k'=k) then .ok (.tup [zero,.int k n]) h' else .fail
 | _=>.fail
def ym(t:TypeId)(k:IntKind)(zero:AV):(FuncId→List AV→M AV)→List AV→M AV:=fun call args=>match args with
 | [f]=>fun h=>vR t k zero (bw call f [] h)
 | _=>M.fail
theorem F0{m:M AV}{ms:Nat→M AV}(p:R AV→R AV)(hp:p .fail= .fail)(h:aJ m ms):aJ (fun x=>p (m x)) fun n=>fun x=>p (ms n x):=by
 intro x
 obtain⟨h1,h2⟩:=h x
 constructor
 ·intro hne
  obtain⟨N,hN⟩:=h1 (fun hh=>hne (by simp only[hh,hp]))
  exact⟨N,fun n hn=>congrArg p (hN n hn)⟩
 ·intro n hne
  exact congrArg p (h2 n (fun hh=>hne (by have:=congrArg p hh;simpa [hp] using this)))
theorem qK(T:TT)(t:TypeId)(call:FuncId→List AV→M AV)(calls:Nat→FuncId→List AV→M AV):bg (fA T t call) fun n=>fA T t (calls n):=bg.const _
theorem qJ(T:TT)(t:TypeId)(call:FuncId→List AV→M AV)(calls:Nat→FuncId→List AV→M AV):bg (di T t call) fun n=>di T t (calls n):=bg.const _
theorem Gz(t:TypeId)(k:IntKind)(zero:AV)(call:FuncId→List AV→M AV)(calls:Nat→FuncId→List AV→M AV)(hc:∀ f,bg (call f) fun n=>calls n f):bg (ym t k zero call) fun n=>ym t k zero (calls n):=by
 have hv:∀ f,aJ (bw call f []) fun n=>bw (calls n) f []:=by
  intro f
  unfold bw
  split
  ·exact hc _ _
  ·exact aJ.const _
 intro args
 cases args with
 | nil=>exact aJ.const _
 | cons f r=>
  cases r with
  | nil=>exact F0 (vR t k zero) rfl (hv f)
  | cons _ _=>exact aJ.const _
theorem fl{α:Type}{b:Bool}{x:α}{o:Option α}{y:α}(h:(bif b then some x else o)=some y):x=y∨o=some y:=by
 cases b with
 | true=>exact .inl (by simpa using h)
 | false=>exact .inr h
theorem tn (T:TT) (t:TypeId) (call:FuncId→List AV→M AV) (args:List AV):yE (di T t call args):=by
 unfold di
 split
 ·rename_i y
  intro h v h' hh
  unfold appH at hh
  split at hh
  ·cases hh
  ·split at hh
   ·split at hh
    ·cases hh
    ·split at hh
     ·cases hh
     ·rename_i bs _
      revert hh
      generalize (_&&_:Bool)=b1
      cases b1 with
      | false=>intro hh;cases hh
      | true=>
       simp only[cond_true]
       cases bs.isEmpty with
       | true=>intro hh;cases hh;exact⟨[],by simp⟩
       | false=>
        simp only[cond_false]
        generalize decide (_≤140737488355328)=b2
        cases b2 with
        | false=>intro hh;cases hh
        | true=>intro hh;cases hh;exact⟨_,rfl⟩
   ·cases hh
 ·intro h v h' hh;cases hh
end Go.Av
namespace Go.Av
variable [Dr]
open Go.RowKit
section
variable {S:aC} {β:List bU} {h:Hp} {w w':World}
omit [Dr] in
theorem cU.below(hh:cU S β w h){S':aC}(hb:∀ b,b < w.heap.size→w'.heap[b]? = w.heap[b]? ∧∀ o,S' b o=S b o)(hle:S.le S'):cU S' β w' h:=by
 obtain⟨hlen,ω,hr⟩:=hh
 exact⟨hlen,ω,hr.rows hle (gt.refl β) hlen fun l cs hl _=>.inl ⟨hl,fun b hlt ho=>⟨ho,(hb b hlt).1,fun o h=>by rw[(hb b hlt).2];exact h⟩⟩⟩
theorem zA(hw:Wf S w)(hh:cU S β w h)(hb:Below w.heap.size w w')(hd:Dr.on→w.drawn≤w'.drawn){S':aC}(hS:∀ b,b < w.heap.size→∀ o,S' b o=S b o)(hnew:∀ b o v,w.heap.size≤b→S' b o=some v→w'.cell? ⟨b,o,none⟩=some v):
  Left (cB β h) S β w S' β w' h:=by
 have hle:S.le S':=fun b o v hv=>by rw[hS b (hw.lt hv)];exact hv
 refine⟨hle,gt.refl β,fun b o v hv=>?_,⟨hb.size,hb.os,hb.output,hb.tape,hd⟩,fun b hlt _=>⟨hb.block b hlt,hS b hlt⟩,hh.below (fun b hlt=>⟨hb.block b hlt,hS b hlt⟩) hle,fun b hb=>.inl hb⟩
 rcases Nat.lt_or_ge b w.heap.size with hlt | hge
 ·rw[hS b hlt] at hv
  rw[cell_of_heap (hb.block b hlt)]
  exact hw b o v hv
 ·exact hnew b o v hge hv
theorem jG(hw:Wf S w)(hh:cU S β w h)(hb:Below w.heap.size w w')(hd:Dr.on→w.drawn≤w'.drawn){r:AV}{v:Value}(hv:VR S β r v):eM none S β h w (.ok r h) (.returned v) w':=
 ⟨S,β,v,rfl,hv,zA hw hh hb hd (fun _ _ _=>rfl) (fun b o v hge hv=>by have:=hw.lt hv;omega),fun sz hsz=>by cases hsz⟩
end
end Go.Av
namespace Go.Av
variable [Dr]
def jY:(FuncId→List AV→M AV)→List AV→M AV:=fun _ args=>match args with
 | [.str s,.str t]=>af (bif decide (s.length < 4294967281) then some (.bool (Lib.contains s t)) else none)
 | _=>M.fail
def wR:AV→Option (List UInt8×Int×List AV)
 | .agg [.str n,.int .i64 k,.sl fs]=>some (n,k,fs)
 | _=>none
def gH:List AV→Option (List (List UInt8×Int×List AV))
 | []=>some []
 | x:: r=>match wR x,gH r with
  | some z,some l=>some (z:: l)
  | _,_=>none
def bQ{α:Type}(p:α→Bool):List α→Option α
 | []=>none
 | z:: r=>match bQ p r with
  | some y=>some y
  | none=>bif p z then some z else none
def zE(l:List (List UInt8×Int×List AV))(name:List UInt8):AV:=match bQ (fun z=>z.1== name) l with
 | some z=>.tup [.agg [.int .i64 z.2.1,.sl z.2.2],.bool true]
 | none=>.tup [.agg [.int .i64 0,.sl []],.bool false]
def ml:(FuncId→List AV→M AV)→List AV→M AV:=fun _ args=>match args with
 | [.sl es,.str name]=>(match gH es with
  | some l=>af (bif decide (l.length≤1000000000) then some (zE l name) else none)
  | none=>M.fail)
 | _=>M.fail
omit [Dr] in
theorem sP{α:Type}(p:α→Bool)(l:List α):bQ p l=l.reverse.find? p:=by
 induction l with
 | nil=>rfl
 | cons z r ih=>
  simp only[bQ,ih,List.reverse_cons,List.find?_append]
  cases r.reverse.find? p with
  | some y=>rfl
  | none=>cases h:p z <;> simp[h]
end Go.Av
namespace Go.Av.Ap
abbrev aU:=List UInt8
inductive Val where
 | mk (kind n:Int) (names:List aU) (values:List Val)
instance:Inhabited Val:=⟨.mk 0 0 [] []⟩
inductive Exp where
 | mk (op n:Int) (s m:aU) (names:List aU) (args:List Exp)
instance:Inhabited Exp:=⟨.mk 0 0 [] [] [] []⟩
inductive Ty where
 | mk (kind:Int) (fields:List (aU×Ty))
instance:Inhabited Ty:=⟨.mk 0 []⟩
abbrev bP:=aU×Ty
structure Fun where
 name:aU
 pub:Bool
 params:List bP
 result:Ty
 effects:Int
 body:Exp
 deriving Inhabited
structure Mod where
 name:aU
 uses:List aU
 vars:List bP
 init:List Exp
 funcs:List Fun
 moves:Bool
 old:List bP
 forward:List Exp
 back:List Exp
 deriving Inhabited
def Val.kind:Val→Int | .mk k _ _ _=>k
def Val.n:Val→Int | .mk _ n _ _=>n
def Val.names:Val→List aU | .mk _ _ ns _=>ns
def Val.values:Val→List Val | .mk _ _ _ vs=>vs
def Exp.op:Exp→Int | .mk o _ _ _ _ _=>o
def Exp.n:Exp→Int | .mk _ n _ _ _ _=>n
def Exp.s:Exp→aU | .mk _ _ s _ _ _=>s
def Exp.m:Exp→aU | .mk _ _ _ m _ _=>m
def Exp.names:Exp→List aU | .mk _ _ _ _ ns _=>ns
def Exp.args:Exp→List Exp | .mk _ _ _ _ _ es=>es
def Ty.kind:Ty→Int | .mk k _=>k
def Ty.fields:Ty→List bP | .mk _ fs=>fs
@[simp] theorem Val.kind_mk(a b c d):(Val.mk a b c d).kind=a:=rfl
@[simp] theorem Val.n_mk(a b c d):(Val.mk a b c d).n=b:=rfl
@[simp] theorem Val.names_mk(a b c d):(Val.mk a b c d).names=c:=rfl
@[simp] theorem Val.values_mk(a b c d):(Val.mk a b c d).values=d:=rfl
theorem Val.eta(v:Val):Val.mk v.kind v.n v.names v.values=v:=by cases v;rfl
theorem Exp.eta(e:Exp):Exp.mk e.op e.n e.s e.m e.names e.args=e:=by cases e;rfl
theorem Ty.eta(t:Ty):Ty.mk t.kind t.fields=t:=by cases t;rfl
def strs(l:List aU):AV:=.sl (l.map .str)
mutual
def Val.av:Val→AV
 | .mk k n ns vs=>.agg [.int .i64 k,.int .i64 n,strs ns,.sl (eF vs)]
def eF:List Val→List AV
 | []=>[]
 | v:: vs=>v.av:: eF vs
end
mutual
def Exp.cells:Exp→List AV
 | .mk o n s m ns es=>[.int .i64 o,.int .i64 n,.str s,.str m,strs ns,.sl (iA es)]
def iA:List Exp→List AV
 | []=>[]
 | e:: es=>.agg e.cells:: iA es
end
def Exp.av(e:Exp):AV:=.agg e.cells
mutual
def Ty.cells:Ty→List AV
 | .mk k fs=>[.int .i64 k,.sl (eJ fs)]
def eJ:List (aU×Ty)→List AV
 | []=>[]
 | f:: fs=>bF f:: eJ fs
def bF:aU×Ty→AV
 | (n,t)=>.agg (.str n:: t.cells)
end
def Ty.av(t:Ty):AV:=.agg t.cells
def Fun.av(f:Fun):AV:=.agg ([.str f.name,.bool f.pub,.sl (eJ f.params)]++f.result.cells++[.int .i64 f.effects]++f.body.cells)
def eW(l:List Fun):AV:=.sl (l.map Fun.av)
def Mod.av(m:Mod):AV:=.agg [.str m.name,strs m.uses,.sl (eJ m.vars),.sl (iA m.init),eW m.funcs,.bool m.moves,.sl (eJ m.old),.sl (iA m.forward),.sl (iA m.back)]
def vals(l:List Val):AV:=.sl (eF l)
def cb(l:List Exp):AV:=.sl (iA l)
def aK(l:List bP):AV:=.sl (eJ l)
def cw(l:List Mod):AV:=.sl (l.map Mod.av)
def ints(l:List Int):AV:=.sl (l.map (.int .i64))
structure Vars where
 module:aU
 values:List Val
 deriving Inhabited
structure Deed where
 effect:Int
 arg:Int
 answer:Int
 deriving DecidableEq,Inhabited
structure Call where
 module:aU
 func:aU
 args:List Val
 deriving Inhabited
def Vars.av(v:Vars):AV:=.agg [.str v.module,vals v.values]
def Deed.av(d:Deed):AV:=.agg [.int .i64 d.effect,.int .i64 d.arg,.int .i64 d.answer]
def Call.av(c:Call):AV:=.agg [.str c.module,.str c.func,vals c.args]
def cD(l:List Vars):AV:=.sl (l.map Vars.av)
def deeds(l:List Deed):AV:=.sl (l.map Deed.av)
def calls(l:List Call):AV:=.sl (l.map Call.av)
structure Out where
 err:Int
 value:Val
 deeds:List Deed
 calls:List Call
 state:List Vars
def Out.av(o:Out):AV:=.agg [.int .i64 o.err,.int .i64 o.value.kind,.int .i64 o.value.n,strs o.value.names,vals o.value.values,Ap.deeds o.deeds,Ap.calls o.calls,cD o.state]
theorem cI:(l:List Val)→eF l=l.map Val.av
 | []=>rfl
 | v:: l=>by simp[eF,cI l]
theorem eV:(l:List Exp)→iA l=l.map Exp.av
 | []=>rfl
 | v:: l=>by simp[iA,eV l,Exp.av]
theorem cS:(l:List bP)→eJ l=l.map bF
 | []=>rfl
 | v:: l=>by simp[eJ,cS l]
theorem Val.av_eq(v:Val):v.av= .agg [.int .i64 v.kind,.int .i64 v.n,strs v.names,vals v.values]:=by cases v;rfl
theorem Exp.cells_eq(e:Exp):e.cells=[.int .i64 e.op,.int .i64 e.n,.str e.s,.str e.m,strs e.names,cb e.args]:=by cases e;rfl
theorem Ty.cells_eq(t:Ty):t.cells=[.int .i64 t.kind,aK t.fields]:=by cases t;simp[Ty.cells,aK,Ty.kind,Ty.fields]
theorem jd(f:bP):bF f= .agg [.str f.1,.int .i64 f.2.kind,aK f.2.fields]:=by obtain⟨n,t⟩:=f;simp[bF,Ty.cells_eq]
@[simp] theorem dU(v:Val):ab v.av=[.int .i64 v.kind,.int .i64 v.n,strs v.names,vals v.values]:=by rw[v.av_eq];rfl
@[simp] theorem a7(e:Exp):ab e.av=[.int .i64 e.op,.int .i64 e.n,.str e.s,.str e.m,strs e.names,cb e.args]:=by rw[Exp.av,e.cells_eq];rfl
@[simp] theorem df(f:bP):ab (bF f)=[.str f.1,.int .i64 f.2.kind,aK f.2.fields]:=by rw[jd];rfl
@[simp] theorem ej(t:Ty):ab t.av=[.int .i64 t.kind,aK t.fields]:=by rw[Ty.av,t.cells_eq];rfl
@[simp] theorem dT(f:Fun):ab f.av=[.str f.name,.bool f.pub,aK f.params,.int .i64 f.result.kind,aK f.result.fields,.int .i64 f.effects,.int .i64 f.body.op,.int .i64 f.body.n,.str f.body.s,.str f.body.m,strs f.body.names,cb f.body.args]:=by
 simp[Fun.av,ab,Ty.cells_eq,Exp.cells_eq,aK]
@[simp] theorem br(m:Mod):ab m.av=[.str m.name,strs m.uses,aK m.vars,cb m.init,eW m.funcs,.bool m.moves,aK m.old,cb m.forward,cb m.back]:=rfl
@[simp] theorem wU(v:Val):AV.agg [.int .i64 v.kind,.int .i64 v.n,strs v.names,vals v.values]=v.av:=(v.av_eq).symm
@[simp] theorem f8(e:Exp):AV.agg [.int .i64 e.op,.int .i64 e.n,.str e.s,.str e.m,strs e.names,cb e.args]=e.av:=by rw[Exp.av,e.cells_eq]
@[simp] theorem eP(t:Ty):AV.agg [.int .i64 t.kind,aK t.fields]=t.av:=by rw[Ty.av,t.cells_eq]
@[simp] theorem ij(f:bP):AV.agg [.str f.1,.int .i64 f.2.kind,aK f.2.fields]=bF f:=(jd f).symm
@[simp] theorem lK(f:Fun):AV.agg [.str f.name,.bool f.pub,aK f.params,.int .i64 f.result.kind,aK f.result.fields,.int .i64 f.effects,.int .i64 f.body.op,.int .i64 f.body.n,.str f.body.s,.str f.body.m,strs f.body.names,cb f.body.args]=f.av:=by
 simp[Fun.av,Ty.cells_eq,Exp.cells_eq,aK]
@[simp] theorem wS(m:Mod):AV.agg [.str m.name,strs m.uses,aK m.vars,cb m.init,eW m.funcs,.bool m.moves,aK m.old,cb m.forward,cb m.back]=m.av:=rfl
theorem fh{α:Type}(g:Nat→Nat→Nat→Nat→Bool→AV)(f:α→AV)(h:∀ x,cl g (f x)=f x):(l:List α)→dL g (l.map f)=l.map f
 | []=>rfl
 | x:: l=>by simp[dL,h x,fh g f h l]
@[simp] theorem mg(g:Nat→Nat→Nat→Nat→Bool→AV)(l:List aU):cl g (strs l)=strs l:=by
 simp[strs,cl,fh g AV.str (fun _=>rfl) l]
@[simp] theorem uG(g:Nat→Nat→Nat→Nat→Bool→AV)(l:List Int):cl g (ints l)=ints l:=by
 simp[ints,cl,fh g (AV.int .i64) (fun _=>rfl) l]
mutual
theorem Val.cl_av(g:Nat→Nat→Nat→Nat→Bool→AV):(v:Val)→cl g v.av=v.av
 | .mk k n ns vs=>by simp[Val.av,cl,dL,vV g vs]
theorem vV(g:Nat→Nat→Nat→Nat→Bool→AV):(l:List Val)→dL g (eF l)=eF l
 | []=>rfl
 | v:: l=>by simp[eF,dL,Val.cl_av g v,vV g l]
end
mutual
theorem Exp.cl_cells(g:Nat→Nat→Nat→Nat→Bool→AV):(e:Exp)→dL g e.cells=e.cells
 | .mk o n s m ns es=>by simp[Exp.cells,cl,dL,qe g es]
theorem qe(g:Nat→Nat→Nat→Nat→Bool→AV):(l:List Exp)→dL g (iA l)=iA l
 | []=>rfl
 | e:: l=>by simp[iA,dL,cl,Exp.cl_cells g e,qe g l]
end
mutual
theorem Ty.cl_cells(g:Nat→Nat→Nat→Nat→Bool→AV):(t:Ty)→dL g t.cells=t.cells
 | .mk k fs=>by simp[Ty.cells,cl,dL,nC g fs]
theorem nC(g:Nat→Nat→Nat→Nat→Bool→AV):(l:List (aU×Ty))→dL g (eJ l)=eJ l
 | []=>rfl
 | f:: l=>by simp[eJ,dL,Fc g f,nC g l]
theorem Fc(g:Nat→Nat→Nat→Nat→Bool→AV):(f:aU×Ty)→cl g (bF f)=bF f
 | (n,t)=>by simp[bF,cl,dL,Ty.cl_cells g t]
end
@[simp] theorem mS(g:Nat→Nat→Nat→Nat→Bool→AV)(v:Val):cl g v.av=v.av:=v.cl_av g
@[simp] theorem jE(g:Nat→Nat→Nat→Nat→Bool→AV)(l:List Val):cl g (vals l)=vals l:=by simp[vals,cl,vV]
@[simp] theorem yS(g:Nat→Nat→Nat→Nat→Bool→AV)(e:Exp):cl g e.av=e.av:=by simp[Exp.av,cl,Exp.cl_cells]
@[simp] theorem Mm(g:Nat→Nat→Nat→Nat→Bool→AV)(l:List Exp):cl g (cb l)=cb l:=by simp[cb,cl,qe]
@[simp] theorem tm(g:Nat→Nat→Nat→Nat→Bool→AV)(t:Ty):cl g t.av=t.av:=by simp[Ty.av,cl,Ty.cl_cells]
@[simp] theorem ER(g:Nat→Nat→Nat→Nat→Bool→AV)(f:bP):cl g (bF f)=bF f:=Fc g f
@[simp] theorem Ay(g:Nat→Nat→Nat→Nat→Bool→AV)(l:List bP):cl g (aK l)=aK l:=by simp[aK,cl,nC]
theorem qL(g:Nat→Nat→Nat→Nat→Bool→AV):(a b:List AV)→dL g (a++b)=dL g a++dL g b
 | [],b=>rfl
 | x:: a,b=>by simp[dL,qL g a b]
@[simp] theorem ES(g:Nat→Nat→Nat→Nat→Bool→AV)(f:Fun):cl g f.av=f.av:=by
 simp[Fun.av,cl,dL,qL,nC,Ty.cl_cells,Exp.cl_cells]
@[simp] theorem Hg(g:Nat→Nat→Nat→Nat→Bool→AV)(l:List Fun):cl g (eW l)=eW l:=by simp[eW,cl,fh g Fun.av (ES g)]
@[simp] theorem uH(g:Nat→Nat→Nat→Nat→Bool→AV)(m:Mod):cl g m.av=m.av:=by
 simp[Mod.av,cl,dL,nC,qe,Hg]
@[simp] theorem kH(g:Nat→Nat→Nat→Nat→Bool→AV)(l:List Mod):cl g (cw l)=cw l:=by simp[cw,cl,fh g Mod.av (uH g)]
@[simp] theorem yT(g:Nat→Nat→Nat→Nat→Bool→AV)(k:IntKind)(n:Int):cl g (.int k n)= .int k n:=rfl
@[simp] theorem Ml(g:Nat→Nat→Nat→Nat→Bool→AV)(b:Bool):cl g (.bool b)= .bool b:=rfl
@[simp] theorem yV(g:Nat→Nat→Nat→Nat→Bool→AV)(s:aU):cl g (.str s)= .str s:=rfl
@[simp] theorem Hj(g:Nat→Nat→Nat→Nat→Bool→AV)(v:Vars):cl g v.av=v.av:=by simp[Vars.av,cl,dL]
@[simp] theorem Hf(g:Nat→Nat→Nat→Nat→Bool→AV)(v:Deed):cl g v.av=v.av:=by simp[Deed.av,cl,dL]
@[simp] theorem He(g:Nat→Nat→Nat→Nat→Bool→AV)(v:Call):cl g v.av=v.av:=by simp[Call.av,cl,dL]
@[simp] theorem wz(g:Nat→Nat→Nat→Nat→Bool→AV)(l:List Vars):cl g (cD l)=cD l:=by simp[cD,cl,fh g Vars.av (Hj g)]
@[simp] theorem Lk(g:Nat→Nat→Nat→Nat→Bool→AV)(l:List Deed):cl g (deeds l)=deeds l:=by simp[deeds,cl,fh g Deed.av (Hf g)]
@[simp] theorem Lj(g:Nat→Nat→Nat→Nat→Bool→AV)(l:List Call):cl g (calls l)=calls l:=by simp[calls,cl,fh g Call.av (He g)]
@[simp] theorem oz(g:Nat→Nat→Nat→Nat→Bool→AV)(o:Out):cl g o.av=o.av:=by simp[Out.av,cl,dL]
@[simp] theorem pi(v:Vars):ab v.av=[.str v.module,vals v.values]:=rfl
@[simp] theorem pf(v:Deed):ab v.av=[.int .i64 v.effect,.int .i64 v.arg,.int .i64 v.answer]:=rfl
@[simp] theorem pe(v:Call):ab v.av=[.str v.module,.str v.func,vals v.args]:=rfl
@[simp] theorem i6(o:Out):ab o.av=[.int .i64 o.err,.int .i64 o.value.kind,.int .i64 o.value.n,strs o.value.names,vals o.value.values,deeds o.deeds,calls o.calls,cD o.state]:=rfl
@[simp] theorem tD(v:Vars):AV.agg [.str v.module,vals v.values]=v.av:=rfl
@[simp] theorem tB(v:Deed):AV.agg [.int .i64 v.effect,.int .i64 v.arg,.int .i64 v.answer]=v.av:=rfl
@[simp] theorem tA(v:Call):AV.agg [.str v.module,.str v.func,vals v.args]=v.av:=rfl
@[simp] theorem wT(o:Out):AV.agg [.int .i64 o.err,.int .i64 o.value.kind,.int .i64 o.value.n,strs o.value.names,vals o.value.values,deeds o.deeds,calls o.calls,cD o.state]=o.av:=rfl
@[simp] theorem KO(v:Vars):cL v.av=some 2:=rfl
@[simp] theorem KM(v:Deed):cL v.av=some 3:=rfl
@[simp] theorem KL(v:Call):cL v.av=some 3:=rfl
@[simp] theorem L5(v:Out):cL v.av=some 8:=rfl
@[simp] theorem mo(v:Vars):cm 2 v.av=true:=by simp[cm,aO,vals]
@[simp] theorem oS(v:Deed):cm 3 v.av=true:=by simp[cm,aO]
@[simp] theorem tV(v:Call):cm 3 v.av=true:=by simp[cm,aO,vals]
@[simp] theorem rL(v:Out):cm 8 v.av=true:=by simp[cm,aO,vals,strs,deeds,calls,cD]
def Clean(a:AV):Prop:=∀ g,cl g a=a
theorem Clean.frz{a:AV}(h:Clean a)(d:Nat)(hp:Hp):ix d hp a=a:=by
 cases d with
 | zero=>exact h _
 | succ d=>exact h _
theorem bM{a:AV}(h:Clean a):aE (M.pure a)=M.pure a:=by
 funext hp
 simp only[aE,M.pure,h.frz]
@[simp] theorem iU(b:Bool):aE (M.pure (.bool b))=M.pure (.bool b):=bM fun _=>rfl
@[simp] theorem Fu(k:IntKind)(n:Int):aE (M.pure (.int k n))=M.pure (.int k n):=bM fun _=>rfl
@[simp] theorem LN(s:aU):aE (M.pure (.str s))=M.pure (.str s):=bM fun _=>rfl
@[simp] theorem LO(v:Val):aE (M.pure v.av)=M.pure v.av:=bM fun g=>mS g v
@[simp] theorem KA(v:List Val):aE (M.pure (vals v))=M.pure (vals v):=bM fun g=>jE g v
@[simp] theorem LK(v:Exp):aE (M.pure v.av)=M.pure v.av:=bM fun g=>yS g v
@[simp] theorem LL(v:Fun):aE (M.pure v.av)=M.pure v.av:=bM fun g=>ES g v
@[simp] theorem L8(v:Val):cL v.av=some 4:=by rw[v.av_eq];rfl
@[simp] theorem L1(e:Exp):cL e.av=some 6:=by rw[Exp.av,e.cells_eq];rfl
@[simp] theorem L2(f:bP):cL (bF f)=some 3:=by rw[jd];rfl
@[simp] theorem Mo(t:Ty):cL t.av=some 2:=by rw[Ty.av,t.cells_eq];rfl
@[simp] theorem L3(f:Fun):cL f.av=some 12:=by simp[Fun.av,cL,Ty.cells_eq,Exp.cells_eq]
@[simp] theorem L4(m:Mod):cL m.av=some 9:=rfl
@[simp] theorem eq(v:Val):cm 4 v.av=true:=by simp[cm,aO,strs,vals]
@[simp] theorem iq(e:Exp):cm 6 e.av=true:=by simp[cm,aO,strs,cb]
@[simp] theorem ir(f:bP):cm 3 (bF f)=true:=by simp[cm,aO,aK]
@[simp] theorem jh(f:Fun):cm 12 f.av=true:=by simp[cm,aO,aK,strs,cb]
@[simp] theorem km(m:Mod):cm 9 m.av=true:=by simp[cm,aO,aK,strs,cb,eW]
@[simp] theorem FU(s:aU):cm 1 (.str s)=true:=rfl
@[simp] theorem FQ(k:IntKind)(n:Int):cm 1 (.int k n)=true:=rfl
theorem dP{α:Type}{sz:Nat}{f:α→AV}(h:∀ x,cm sz (f x)=true)(l:List α):db sz (l.map f)=true:=by simp[db,h]
@[simp] theorem KJ(l:List aU):db 1 (l.map AV.str)=true:=dP FU l
@[simp] theorem Cy(l:List Int):db 1 (l.map (AV.int .i64))=true:=dP (FQ .i64) l
@[simp] theorem Cz(l:List Val):db 4 (eF l)=true:=by rw[cI];exact dP eq l
@[simp] theorem KD(l:List Exp):db 6 (iA l)=true:=by rw[eV];exact dP iq l
@[simp] theorem KE(l:List bP):db 3 (eJ l)=true:=by rw[cS];exact dP ir l
@[simp] theorem KF(l:List Fun):db 12 (l.map Fun.av)=true:=dP jh l
@[simp] theorem KG(l:List Mod):db 9 (l.map Mod.av)=true:=dP km l
theorem rk{T:TT}{t e:Nat}{ti ei:TI}(ht:T t=some ti)(hk:ti.kind= .slice e)(he:T e=some ei){α:Type}{f:α→AV}(hs:∀ x,cL (f x)=some ei.size){l:List α}{i:Nat}{x:α}(h:l[i]? = some x):
  ak T t (.sl (l.map f)) (.int .i64 (i:Int))=some (.ip (ab (f x))):=by
 unfold ak
 rw[ht]
 simp only[hk,he]
 rw[if_neg (by omega)]
 have:(l.map f)[(i:Int).toNat]? = some (f x):=by rw[Int.toNat_natCast,List.getElem?_map,h];rfl
 rw[this]
 simp only
 rw[if_pos (hs x)]
theorem bW{T:TT}{t e:Nat}{ti ei:TI}(ht:T t=some ti)(hk:ti.kind= .slice e)(he:T e=some ei){α:Type}[Inhabited α]{f:α→AV}(hs:∀ x,cL (f x)=some ei.size){l:List α}{n:Int}(h0:0≤n)(h:n < (l.length:Int)):
  ak T t (.sl (l.map f)) (.int .i64 n)=some (.ip (ab (f l[n.toNat]!))):=by
 have hlt:n.toNat < l.length:=by omega
 have:=rk ht hk he hs (l:=l) (i:=n.toNat) (x:=l[n.toNat]!) (by rw[List.getElem!_eq_getElem?_getD,List.getElem?_eq_getElem hlt];rfl)
 rw[show ((n.toNat:Nat):Int)=n by omega] at this
 exact this
theorem i7{T:TT}{t e:Nat}{ti ei:TI}(ht:T t=some ti)(hk:ti.kind= .slice e)(he:T e=some ei){α:Type}{f:α→AV}(hs:∀ x,cm ei.size (f x)=true){a b:List α}(h:(a.length + b.length) * ei.bytes≤140737488355328)(h0:0 < ei.bytes):
  cP T t (.sl (a.map f)) (.sl (b.map f))=some (.sl ((a++b).map f)):=by
 unfold cP
 rw[ht]
 simp only[hk,he,gu]
 rw[dP hs,dP hs]
 simp[h,h0,jq]
end Go.Av.Ap
namespace Go.Av
open Go.RowKit Go.Sort Go.Proofs
section
variable [Dr]
theorem Left.grew(hd:Dr.on){S S':aC}{β β':List bU}{w w':World}{h':Hp}(L:Left (cB [] []) S β w S' β' w' h'):∃ q os,w'=grow (w.drewN q) os:=by
 have hg:=L.gro
 have hd:=hg.cnt hd
 have hk:∀ b,b < w.heap.size→w'.heap[b]? = w.heap[b]?:=fun b hb=>(L.keep b hb (by rintro⟨l,_,_,h1,_⟩;simp at h1)).1
 refine⟨w'.drawn - w.drawn,w'.heap.extract w.heap.size w'.heap.size,?_⟩
 have e1:w.heap++w'.heap.extract w.heap.size w'.heap.size=w'.heap:=by
  apply Array.ext_getElem?
  intro i
  by_cases hi:i < w.heap.size
  ·rw[Array.getElem?_append_left hi,hk i hi]
  ·rw[Array.getElem?_append_right (by omega),Array.getElem?_extract]
   split
   ·rw[show w.heap.size + (i - w.heap.size)=i by omega]
   ·rw[Array.getElem?_eq_none (by omega)]
 have e2:w.drawn + (w'.drawn - w.drawn)=w'.drawn:=by omega
 obtain⟨h1,h2,h3,h4,h5⟩:=w'
 obtain⟨g1,g2,g3,g4,g5⟩:=w
 have a1:=hg.os;have a2:=hg.out;have a3:=hg.tape
 simp only at a1 a2 a3 e1 e2
 unfold grow World.drewN
 simp only[e1,e2,a1,a2,a3]
end
theorem pz{α β:Type}(f:α→List β)(k:Nat)(hk:∀ x,(f x).length=k)(hp:0 < k):∀(l:List α)(t:Nat),(l.map f).flatten[t]? = (l[t / k]?).bind fun x=>(f x)[t % k]?
 | [],t=>by simp
 | x:: l,t=>by
  simp only[List.map_cons,List.flatten_cons]
  by_cases h:t < k
  ·rw[List.getElem?_append_left (by rw[hk];exact h),Nat.div_eq_of_lt h,Nat.mod_eq_of_lt h];simp
  ·rw[List.getElem?_append_right (by rw[hk];omega),hk,pz f k hk hp l (t - k)]
   rw[Nat.div_eq_sub_div hp (by omega:k≤t),Nat.mod_eq_sub_mod (by omega:k≤t)]
   simp
theorem pB{α β:Type}(f:α→List β)(k:Nat)(hk:∀ x,(f x).length=k):∀(l:List α),(l.map f).flatten.length=l.length * k
 | []=>by simp
 | x:: l=>by simp only[List.map_cons,List.flatten_cons,List.length_append,hk,pB f k hk l,List.length_cons,Nat.succ_mul];omega
section
variable {α:Type} [Inhabited α]
theorem qZ(enc:α→List Value)(k:Nat)(hk:∀ x,(enc x).length=k)(hp:0 < k)(d:Array α):(flatK enc k d).toList=(d.toList.map enc).flatten:=by
 apply List.ext_getElem?
 intro t
 rw[pz enc k hk hp]
 by_cases ht:t < d.size * k
 ·have hd:t / k < d.size:=by rw[Nat.div_lt_iff_lt_mul hp];exact ht
  have hm:t % k < k:=Nat.mod_lt _ hp
  have h1:=get_flatK enc k d t ht
  rw[getElem!_pos (flatK enc k d) t (by rw[size_flatK];exact ht),getElem!_pos d _ hd,getElem!_pos (enc _) _ (by rw[hk];exact hm)] at h1
  rw[List.getElem?_eq_getElem (by simpa using ht),Array.getElem_toList,h1,Array.getElem?_toList,Array.getElem?_eq_getElem hd]
  simp only[Option.bind_some]
  rw[List.getElem?_eq_getElem (by rw[hk];exact hm)]
 ·rw[List.getElem?_eq_none (by simp only[Array.length_toList,size_flatK];omega),List.getElem?_eq_none (by simp only[Array.length_toList];rw[Nat.le_div_iff_mul_le hp];omega)]
  rfl
theorem sT(F x:Array Value)(off:Nat)(hf:off + F.size≤x.size):putCells id off F x=(x.toList.take off++F.toList++x.toList.drop (off + F.size)).toArray:=by
 apply Array.ext_getElem?
 intro t
 unfold putCells
 simp only[Array.getElem?_mapIdx,List.getElem?_toArray]
 by_cases h1:t < off
 ·rw[List.getElem?_append_left (by simp;omega),List.getElem?_append_left (by simp;omega),List.getElem?_take,if_pos h1,Array.getElem?_toList,Array.getElem?_eq_getElem (by omega)]
  simp only[Option.map_some]
  rw[if_neg (by omega)]
 ·by_cases h2:t < off + F.size
  ·rw[List.getElem?_append_left (by simp;omega),List.getElem?_append_right (by simp;omega)]
   have e:(x.toList.take off).length=off:=by simp;omega
   rw[e,Array.getElem?_eq_getElem (by omega:t < x.size),Array.getElem?_toList,Array.getElem?_eq_getElem (by omega:t - off < F.size)]
   simp only[Option.map_some,id]
   rw[if_pos ⟨by omega,h2⟩,getElem!_pos F _ (by omega)]
  ·have e:(x.toList.take off++F.toList).length=off + F.size:=by simp;omega
   rw[List.getElem?_append_right (by rw[e];omega),e,List.getElem?_drop,Array.getElem?_toList,show off + F.size + (t - (off + F.size))=t by omega]
   cases x[t]? with
   | none=>rfl
   | some y=>simp only[Option.map_some];rw[if_neg (by omega)]
theorem Gs{w:World}{b:Nat}{x:Array Value}(hr:Row w b x)(enc:α→List Value)(k off n:Nat)(d:Array α)(os:Array Obj)(hf:off + d.size * k≤x.size):
  Row (sortWorldK enc k w b off n d os) b (x.toList.take off++(flatK enc k d).toList++x.toList.drop (off + (flatK enc k d).size)).toArray:=by
 have hlt:=hr.lt
 obtain⟨e,he⟩:=hr
 refine⟨e,?_⟩
 rw[← sT (flatK enc k d) x off (by rw[size_flatK];exact hf)]
 show ((w.heap.modify b (onCells (putCells id off (flatK enc k d))))++os)[b]? = _
 rw[Array.getElem?_append_left (by simpa using hlt),Array.getElem?_modify,if_pos rfl,he]
 rfl
theorem r9{w:World}{b b':Nat}(enc:α→List Value)(k off n:Nat)(d:Array α)(os:Array Obj)(hlt:b' < w.heap.size)(hb:b'≠b):(sortWorldK enc k w b off n d os).heap[b']? = w.heap[b']?:=by
 show ((w.heap.modify b (onCells (putCells id off (flatK enc k d))))++os)[b']? = _
 rw[Array.getElem?_append_left (by simpa using hlt),Array.getElem?_modify,if_neg (fun h=>hb h.symm)]
theorem Gr[Dr]{w:World}{b:Nat}(enc:α→List Value)(k off n:Nat)(d:Array α)(os:Array Obj):Gro w (sortWorldK enc k w b off n d os):=by
 refine⟨?_,rfl,rfl,rfl,fun _=>?_⟩
 ·show _≤((w.heap.modify b (onCells (putCells id off (flatK enc k d))))++os).size
  simp
 ·show w.drawn≤w.drawn + n
  omega
end
section
variable [Dr] {S:aC} {β:List bU} {h:Hp} {w w':World}
theorem Fw(hw:Wf S w)(hh:cU S β w h){l b nb off:Nat}{cs acs:List AV}{vs:List Value}(hcs:h[l]? = some cs)(hne:cs≠[])(hb:β[l]? = some (b,nb))(hb0:nb≠0)(hvs:bj S β acs vs)(hle:off + acs.length≤cs.length)(hoc:cs.all aO=true)(hoa:acs.all aO=true) (hg:Gro w w')
  (hr:∀ x,Row w b x→cs.length≤x.size→Row w' b (x.toList.take off++vs++x.toList.drop (off + vs.length)).toArray) (ho:∀ b',b' < w.heap.size→b'≠b→w'.heap[b']? = w.heap[b']?):
  Left (cB β h) S β w S β w' (h.set l (setCells cs off acs)):=by
 obtain⟨hlen,ω,hH⟩:=hh
 obtain⟨z,j1,j2,j3,j4,j5⟩:=fq.cells hH hcs hne hb hb0
 rw[hb] at j1;cases j1
 have hvl:=hvs.length
 have hzs:cs.length≤z.size:=by
  have:=j4.length
  simp at this
  omega
 have hrow:=hr z j2 hzs
 have hll:l < h.length:=by
  rcases Nat.lt_or_ge l h.length with k | k
  ·exact k
  ·rw[List.getElem?_eq_none k] at hcs;cases hcs
 have hown:∀ b',cB β (h.set l (setCells cs off acs)) b'→cB β h b':=by
  rintro b' ⟨l',cs',n,k1,k2,k3⟩
  by_cases hl:l'=l
  ·subst hl
   exact⟨l',cs,n,hcs,hne,k3⟩
  ·rw[List.getElem?_set_ne (fun e=>hl e.symm)] at k1
   exact⟨l',cs',n,k1,k2,k3⟩
 refine⟨aC.le_refl S,gt.refl β,fun b' o v hv=>?_,hg,fun b' hb' hE=>?_,⟨by simpa using hlen,ω,fq.rows hH (aC.le_refl S) (gt.refl β) hlen fun l' cs' hl' hne'=>?_⟩,fun b' hb'=>.inl (hown b' hb')⟩
 ·have hne2:b'≠b:=by rintro rfl;rw[j5] at hv;cases hv
  rw[cell_of_heap (ho b' (hw.lt hv) hne2)]
  exact hw b' o v hv
 ·have hne2:b'≠b:=by rintro rfl;exact hE ⟨l,cs,_,hcs,hne,hb⟩
  exact⟨ho b' hb' hne2,fun _=>rfl⟩
 ·by_cases hl:l'=l
  ·subst hl
   rw[List.getElem?_set_self hll] at hl'
   cases hl'
   refine .inr ⟨b,_,?_,hrow,j3,?_,j5,fun t ht=>?_⟩
   ·rw[hb];simp;omega
   ·rw[fH _ _ _ (by omega)]
    have hsp:bj S β (setCells cs off acs) (((z.toList.take cs.length).take off++vs++(z.toList.take cs.length).drop (off + vs.length))):=by
     unfold setCells
     rw[hvl]
     exact ((j4.take off).append hvs).append (j4.drop _)
    have heq:(z.toList.take off++vs++z.toList.drop (off + vs.length)).take cs.length=
      (z.toList.take cs.length).take off++vs++(z.toList.take cs.length).drop (off + vs.length):=by
     rw[List.take_append,List.take_append]
     have e1:(z.toList.take off).length=off:=by simp;omega
     rw[List.take_take,List.take_take]
     have e2:min cs.length off=off:=by omega
     have e3:min off cs.length=off:=by omega
     rw[e2,e3,e1]
     have e4:vs.take (cs.length - off)=vs:=List.take_of_length_le (by omega)
     rw[e4]
     congr 1
     rw[List.take_drop,List.length_append,e1]
     congr 2
     omega
    show bj S β _ (List.take _ _)
    rw[show (z.toList.take off++vs++z.toList.drop (off + vs.length)).toArray.toList=(z.toList.take off++vs++z.toList.drop (off + vs.length)) from rfl,heq]
    exact hsp
   ·rcases ht.setCells with g | g
    ·exact absurd g (kl hoc t)
    ·exact absurd g (kl hoa t)
  ·rw[List.getElem?_set_ne (fun e=>hl e.symm)] at hl'
   refine .inl ⟨hl',fun b2 hlt hω=>⟨hω,ho b2 hlt ?_,fun o=>id⟩⟩
   rintro rfl
   rw[j3] at hω
   cases hω
   exact hl rfl
end
theorem bj.split{S:aC}{β:List bU}:{ps qs:List AV} →{vs:List Value} →bj S β (ps++qs) vs→∃ u v,vs=u++v∧bj S β ps u∧bj S β qs v
 | [],_,vs,h=>⟨[],vs,rfl,by simp[bj],h⟩
 | _:: ps,qs,vs,h=>by
  simp only[List.cons_append,bj] at h
  obtain⟨x,xs,rfl,h1,h2⟩:=h
  obtain⟨u,v,rfl,h3,h4⟩:=bj.split h2
  exact⟨x:: u,v,rfl,by simp only[bj];exact⟨x,u,rfl,h1,h3⟩,h4⟩
section
variable [Dr] {α:Type} [Inhabited α] {P:Program}
end
end Go.Av
namespace Go.Av.Ap
open Go Go.Av
abbrev yx:=aU×aU
def xJ(r:yx):AV:=.agg [.str r.1,.str r.2]
def xK(l:List yx):AV:=.sl (l.map xJ)
def zP(l:List (List yx)):AV:=.sl (l.map xK)
@[simp] theorem Jt(r:yx):ab (xJ r)=[.str r.1,.str r.2]:=rfl
@[simp] theorem LA(r:yx):AV.agg [.str r.1,.str r.2]=xJ r:=rfl
@[simp] theorem FT(r:yx):cm 2 (xJ r)=true:=rfl
@[simp] theorem KH(l:List yx):db 2 (l.map xJ)=true:=dP FT l
@[simp] theorem JK(g:Nat→Nat→Nat→Nat→Bool→AV)(r:yx):cl g (xJ r)=xJ r:=rfl
@[simp] theorem Hh(g:Nat→Nat→Nat→Nat→Bool→AV)(l:List yx):cl g (xK l)=xK l:=by simp[xK,cl,fh g xJ (JK g)]
@[simp] theorem Ll(g:Nat→Nat→Nat→Nat→Bool→AV)(l:List (List yx)):cl g (zP l)=zP l:=by simp[zP,cl,fh g xK (Hh g)]
section
variable {V:Type}
end
end Go.Av.Ap
namespace Go.Av
open Go.RowKit Go.Sort Go.Proofs
def ew{α:Type}(k:Nat)(l:List α)(i:Nat):List α:=(l.drop (i * k)).take k
theorem tg{α:Type}{k n:Nat}{l:List α}(h:l.length=n * k){i:Nat}(hi:i < n):(ew k l i).length=k:=by
 have:i * k + k≤n * k:=by rw[← Nat.succ_mul];exact Nat.mul_le_mul_right _ hi
 simp only[ew,List.length_take,List.length_drop,h]
 omega
theorem qH{α:Type}{k:Nat}:(n:Nat)→{l:List α} →l.length=n * k→((List.range n).map fun i=>ew k l i).flatten=l
 | 0,l,h=>by simp at h;simp[h]
 | n + 1,l,h=>by
  rw[List.range_succ_eq_map,List.map_cons,List.map_map,List.flatten_cons]
  have e:((fun i=>ew k l i) ∘ Nat.succ)=fun i=>ew k (l.drop k) i:=by
   funext i
   simp only[Function.comp,ew,List.drop_drop,Nat.succ_mul]
   congr 2
   omega
  rw[e,qH n (l:=l.drop k) (by rw[List.length_drop,h,Nat.succ_mul];omega)]
  simp[ew,List.take_append_drop]
theorem bj.chunk{S:aC}{β:List bU}{cs:List AV}{vs:List Value}(h:bj S β cs vs)(k i:Nat):bj S β (ew k cs i) (ew k vs i):=(h.drop (i * k)).take k
def oK:List AV→Option (List UInt8)
 | .str s:: _=>some s
 | _=>none
def yY(x y:List UInt8):Int:=if aT x y=true then -1 else if aT y x=true then 1 else 0
def GO(keys:List (List UInt8))(n:Nat)(i j:Nat):Int:=yY keys[i % n]! keys[j % n]!
def fV(keys:List (List UInt8)):List Nat:=(pdq (ltOf (GO keys keys.length)) (Array.range keys.length) 0 (Array.range keys.length).size (Lib.bitLen (Array.range keys.length).size) true true).toList
def rt:List (List AV)→Option (List (List UInt8))
 | []=>some []
 | c:: r=>match oK c with
  | none=>none
  | some s=>match rt r with
   | none=>none
   | some l=>some (s:: l)
theorem tI:{cs:List (List AV)} →{ks:List (List UInt8)} →rt cs=some ks→ks.length=cs.length∧∀(i:Nat)(c:List AV),cs[i]? = some c→oK c=some ks[i]!
 | [],ks,h=>by
  cases h
  exact⟨rfl,fun i c hc=>by simp at hc⟩
 | c:: r,ks,h=>by
  unfold rt at h
  cases hc:oK c with
  | none=>rw[hc] at h;cases h
  | some s=>
   rw[hc] at h
   simp only at h
   cases hr:rt r with
   | none=>rw[hr] at h;cases h
   | some l=>
    rw[hr] at h
    cases h
    obtain⟨h1,h2⟩:=tI hr
    refine⟨by simp[h1],fun i d hd=>?_⟩
    cases i with
    | zero=>simp at hd;subst hd;simpa using hc
    | succ i=>simpa using h2 i d (by simpa using hd)
theorem xj{nm:List AV→List UInt8}:{cs:List (List AV)} →(∀ c∈cs,oK c=some (nm c))→rt cs=some (cs.map nm)
 | [],_=>rfl
 | c:: r,h=>by simp[rt,h c (by simp),xj (cs:=r) fun d hd=>h d (by simp[hd])]
def keysOf(k n:Nat)(row:List AV):Option (List (List UInt8)):=rt ((List.range n).map fun i=>ew k row i)
def gJ(k g:Nat):(FuncId→List AV→M AV)→List AV→M AV:=fun _ args h=>match args with
 | [.sl [],.fn (.func g') [] []]=>bif Nat.beq g' g then .ok (.tup []) h else .fail
 | [.hn,.fn (.func g') [] []]=>bif Nat.beq g' g then .ok (.tup []) h else .fail
 | [.hs l off len sz _,.fn (.func g') [] []]=>match h[l]? with
  | none=>.fail
  | some cs=>match keysOf k len ((cs.drop off).take (len * k)) with
   | none=>.fail
   | some keys=>bif Nat.beq g' g&&Nat.beq sz k&&decide (0 < len)&&decide (0 < k)&&decide (off + len * k≤cs.length)&&decide (keys.length=len)&&decide (len < 4611686018427387904)&&decide ((fV keys).length=len)&&cs.all aO
     then .ok (.tup []) (h.set l (setCells cs off ((fV keys).map fun i=>ew k ((cs.drop off).take (len * k)) (i % len)).flatten)) else .fail
 | _=>.fail
section
variable [Dr] {P:Program}
omit [Dr] in
theorem Ck{S:aC}{β:List bU}{c:List AV}{s:List UInt8}{vs:List Value}(h:oK c=some s)(hv:bj S β c vs):∃(x:ByteArray)(r:List Value),vs= .string x:: r∧x.data.toList=s:=by
 unfold oK at h
 split at h
 ·cases h
  simp only[bj,VR] at hv
  obtain⟨v,r,rfl,⟨x,rfl,hx⟩,_⟩:=hv
  exact⟨x,r,rfl,hx⟩
 ·cases h
omit [Dr] in
theorem s6{k i:Nat}{l:List AV}{p:AV→Bool}(h:l.all p=true):(ew k l i).all p=true:=by
 rw[List.all_eq_true] at h ⊢
 exact fun x hx=>h x (List.mem_of_mem_drop (List.mem_of_mem_take hx))
theorem Fl{f k g:Nat} (call:FuncId→List AV→M AV)
  (hcal:∀(w:World)(blk off cap:Nat)(keys:List (List UInt8))(ev:Nat→List Value),0 < keys.length→(∀ i,(ev i).length=k)→(∀ i,∀ v∈ev i,v.oneCell'=true)→(∀ i,∃(x:ByteArray)(r:List Value),ev i= .string x:: r∧x.data.toList=keys[i % keys.length]!)→
   GOKw w→gN≤blk→HoldsK ev k w blk off (Array.range keys.length)→blk < w.heap.size→keys.length < 4611686018427387904→
   Calls P f #[.slice (some ⟨blk,off,none⟩) keys.length cap,.func (.func g) #[] #[]] w fun e w'=>e= .returned (.tuple #[])∧∃ n os,w'=sortWorldK ev k w blk off n (fV keys).toArray os)
  {l off len sz g':Nat} {ag:Bool} {h:Hp} {S:aC} {β:List bU} {w:World} {vs:List Value} (hr:gJ k g call [.hs l off len sz ag,.fn (.func g') [] []] h≠.fail) (hg:vX β h w) (hw:Wf S w) (hh:cU S β w h)
  (hv:bj S β [.hs l off len sz ag,.fn (.func g') [] []] vs):Calls P f vs.toArray w (eM none S β h w (gJ k g call [.hs l off len sz ag,.fn (.func g') [] []] h)):=by
 unfold gJ at hr ⊢
 simp only at hr ⊢
 cases hl:h[l]? with
 | none=>rw[hl] at hr;exact absurd rfl hr
 | some cs=>
  rw[hl] at hr
  simp only at hr ⊢
  generalize hrow:(cs.drop off).take (len * k)=row at hr ⊢
  cases hd:keysOf k len row with
  | none=>rw[hd] at hr;exact absurd rfl hr
  | some keys=>
   rw[hd] at hr
   simp only at hr ⊢
   cases hc:(Nat.beq g' g&&Nat.beq sz k&&decide (0 < len)&&decide (0 < k)&&decide (off + len * k≤cs.length)&&decide (keys.length=len)&&decide (len < 4611686018427387904)&&decide ((fV keys).length=len)&&cs.all aO) with
   | false=>rw[hc] at hr;exact absurd rfl hr
   | true=>
    simp only[Bool.and_eq_true,decide_eq_true_eq] at hc
    obtain⟨⟨⟨⟨⟨⟨⟨⟨c1,c2⟩,c3⟩,hpos⟩,c4⟩,c5⟩,c6⟩,c7⟩,c8⟩:=hc
    obtain rfl:=Nat.eq_of_beq_eq_true c1
    obtain rfl:=Nat.eq_of_beq_eq_true c2
    simp only[cond_true]
    have hlk:0 < len * sz:=Nat.mul_pos c3 hpos
    have hne:cs≠[]:=by rintro rfl;simp at c4;omega
    simp only[bj] at hv
    obtain⟨v1,r1,rfl,hv1,v2,r2,rfl,hv2,rfl⟩:=hv
    obtain⟨⟨b,nb⟩,cap,hb,hb0,rfl,k1,k2⟩:=hv1.hs_pos c3
    simp only[VR,bj] at hv2
    obtain⟨y1,y2,rfl,rfl,rfl⟩:=hv2
    have hh':=hh
    obtain⟨hlen,ω,hH⟩:=hh
    obtain⟨z,j1,j2,j3,j4,j5⟩:=fq.cells hH hl hne hb hb0
    rw[hb] at j1;cases j1
    have hzs:cs.length≤z.size:=by
     have:=j4.length
     simp at this
     omega
    have hown:cB β h b:=⟨l,cs,_,hl,hne,hb⟩
    have hgb:gN≤b:=by
     rcases Nat.lt_or_ge b gN with k | k
     ·exact absurd hown (hg.2 b k)
     ·exact k
    have hrl:row.length=len * sz:=by rw[← hrow,List.length_take,List.length_drop];omega
    have hvx:=(j4.drop off).take (len * sz)
    rw[hrow] at hvx
    generalize hvr:(((z.toList.take cs.length).drop off).take (len * sz))=vr at hvx
    have hvl:vr.length=len * sz:=by rw[hvx.length,hrl]
    have hro:row.all aO=true:=by
     rw[List.all_eq_true] at c8 ⊢
     rw[← hrow]
     exact fun x hx=>c8 x (List.mem_of_mem_drop (List.mem_of_mem_take hx))
    have hmod:∀ i,i % len < len:=fun i=>Nat.mod_lt _ c3
    obtain⟨hk1,hk2⟩:=tI hd
    let ev:Nat→List Value:=fun i=>ew sz vr (i % len)
    have hev:∀ i,(ev i).length=sz:=fun i=>tg hvl (hmod i)
    have hea:∀ i,(ew sz row (i % len)).length=sz:=fun i=>tg hrl (hmod i)
    have hre:∀ i,bj S β (ew sz row (i % len)) (ev i):=fun i=>hvx.chunk sz (i % len)
    have hrange:(List.range len).map ev=(List.range len).map fun i=>ew sz vr i:=List.map_congr_left fun i hi=>by
     show ew sz vr (i % len)=_
     rw[Nat.mod_eq_of_lt (List.mem_range.1 hi)]
    have hflat:(flatK ev sz (Array.range keys.length)).toList=vr:=by
     rw[qZ ev sz hev hpos,Array.toList_range,c5,hrange,qH len hvl]
    have hsz:(flatK ev sz (Array.range keys.length)).size=len * sz:=by rw[size_flatK];simp[c5]
    have hholds:HoldsK ev sz w b off (Array.range keys.length):=by
     intro j hj
     rw[hsz] at hj
     have e1:(flatK ev sz (Array.range keys.length))[j]! = z[off + j]'(by omega):=by
      have h1:(flatK ev sz (Array.range keys.length)).toList[j]? = z.toList[off + j]?:=by
       rw[hflat,← hvr,List.getElem?_take,if_pos hj,List.getElem?_drop,List.getElem?_take,if_pos (by omega)]
      rw[Array.getElem?_toList,Array.getElem?_toList,Array.getElem?_eq_getElem (by omega),Array.getElem?_eq_getElem (by omega)] at h1
      rw[getElem!_pos _ j (by omega)]
      exact Option.some.inj h1
     rw[e1]
     refine⟨by rw[j2.cell,Array.getElem?_eq_getElem (by omega)];rfl,?_⟩
     obtain⟨e,he⟩:=j2
     simp[World.frozen?,he]
    have hkey:∀ i,∃(x:ByteArray)(r:List Value),ev i= .string x:: r∧x.data.toList=keys[i % keys.length]!:=fun i=>by
     refine Ck ?_ (hre i)
     rw[c5]
     exact hk2 (i % len) _ (by rw[List.getElem?_map,List.getElem?_range (hmod i)];rfl)
    have hone:∀ i,∀ v∈ev i,v.oneCell'=true:=fun i=>FX (hre i) (s6 hro)
    have hcall:=hcal w b off cap keys ev (by omega) hev hone hkey hg.1 hgb hholds j2.lt (by omega)
    rw[c5] at hcall
    refine hcall.mono ?_
    rintro e w' ⟨rfl,n,os,rfl⟩
    have hfl2:=qZ ev sz hev hpos (fV keys).toArray
    have hs2:(flatK ev sz (fV keys).toArray).size=len * sz:=by rw[size_flatK];simp[c7]
    have hal:((fV keys).map fun i=>ew sz row (i % len)).flatten.length=len * sz:=by rw[pB (fun i=>ew sz row (i % len)) sz hea,c7]
    have hvv:∀ p:List Nat,bj S β (p.map fun i=>ew sz row (i % len)).flatten (p.map ev).flatten:=by
     intro p
     induction p with
     | nil=>simp[bj]
     | cons i p ih=>simp only[List.map_cons,List.flatten_cons];exact (hre i).append ih
    have hok:((fV keys).map fun i=>ew sz row (i % len)).flatten.all aO=true:=by
     rw[List.all_flatten,List.all_map]
     exact List.all_eq_true.2 fun i _=>s6 hro
    refine⟨S,β,_,rfl,by simp only[VR,bj];exact⟨[],rfl,rfl⟩,Fw (vs:=(flatK ev sz (fV keys).toArray).toList) hw hh' hl hne hb hb0 (by rw[hfl2];exact hvv _) (by rw[hal];exact c4) c8 hok (Gr ev sz off n _ os) (fun x hx hle=>?_) (fun b' hlt hne2=>r9 ev sz off n _ os hlt hne2),fun _ hsz=>by cases hsz⟩
    have:=Gs hx ev sz off n (fV keys).toArray os (by simp only[List.size_toArray,c7];omega)
    exact this
end
end Go.Av
namespace Go.Av.Ap
def ib(l:List Ty):AV:=.sl (l.map Ty.av)
structure Sig where
 name:aU
 params:List Ty
 result:Ty
 effects:Int
 deriving Inhabited
structure Face where
 module:aU
 funcs:List Sig
 deriving Inhabited
structure Vsn where
 major:Int
 minor:Int
 patch:Int
 deriving Inhabited,DecidableEq
def Sig.cells(s:Sig):List AV:=[.str s.name,ib s.params,.int .i64 s.result.kind,aK s.result.fields,.int .i64 s.effects]
def Sig.av(s:Sig):AV:=.agg s.cells
def sigs(l:List Sig):AV:=.sl (l.map Sig.av)
def Face.cells(f:Face):List AV:=[.str f.module,sigs f.funcs]
def Face.av(f:Face):AV:=.agg f.cells
def faces(l:List Face):AV:=.sl (l.map Face.av)
def Vsn.av(v:Vsn):AV:=.agg [.int .i64 v.major,.int .i64 v.minor,.int .i64 v.patch]
@[simp] theorem fJ(s:Sig):ab s.av=[.str s.name,ib s.params,.int .i64 s.result.kind,aK s.result.fields,.int .i64 s.effects]:=rfl
@[simp] theorem lz(f:Face):ab f.av=[.str f.module,sigs f.funcs]:=rfl
@[simp] theorem Ju(v:Vsn):ab v.av=[.int .i64 v.major,.int .i64 v.minor,.int .i64 v.patch]:=rfl
@[simp] theorem q7(s:Sig):AV.agg [.str s.name,ib s.params,.int .i64 s.result.kind,aK s.result.fields,.int .i64 s.effects]=s.av:=rfl
@[simp] theorem tC(f:Face):AV.agg [.str f.module,sigs f.funcs]=f.av:=rfl
@[simp] theorem LC(v:Vsn):AV.agg [.int .i64 v.major,.int .i64 v.minor,.int .i64 v.patch]=v.av:=rfl
@[simp] theorem nQ(t:Ty):cm 2 t.av=true:=by simp[cm,aO,aK]
@[simp] theorem LV(l:List Ty):db 2 (l.map Ty.av)=true:=dP nQ l
@[simp] theorem L6(s:Sig):cL s.av=some 5:=rfl
@[simp] theorem KN(s:Face):cL s.av=some 2:=rfl
@[simp] theorem L9(s:Vsn):cL s.av=some 3:=rfl
@[simp] theorem lV(s:Sig):cm 5 s.av=true:=by simp[cm,aO,aK,ib]
@[simp] theorem oT(s:Face):cm 2 s.av=true:=by simp[cm,aO,sigs]
@[simp] theorem LU(s:Vsn):cm 3 s.av=true:=rfl
@[simp] theorem KI(l:List Sig):db 5 (l.map Sig.av)=true:=dP lV l
@[simp] theorem Kc(l:List Face):db 2 (l.map Face.av)=true:=dP oT l
@[simp] theorem ET(g:Nat→Nat→Nat→Nat→Bool→AV)(l:List Ty):cl g (ib l)=ib l:=by simp[ib,cl,fh g Ty.av (tm g)]
@[simp] theorem yU(g:Nat→Nat→Nat→Nat→Bool→AV)(s:Sig):cl g s.av=s.av:=by unfold Sig.av Sig.cells;simp only[cl,dL,ET,Ay]
@[simp] theorem Hi(g:Nat→Nat→Nat→Nat→Bool→AV)(l:List Sig):cl g (sigs l)=sigs l:=by simp[sigs,cl,fh g Sig.av (yU g)]
@[simp] theorem Ax(g:Nat→Nat→Nat→Nat→Bool→AV)(s:Face):cl g s.av=s.av:=by unfold Face.av Face.cells;simp only[cl,dL,Hi]
@[simp] theorem EQ(g:Nat→Nat→Nat→Nat→Bool→AV)(l:List Face):cl g (faces l)=faces l:=by simp[faces,cl,fh g Face.av (Ax g)]
@[simp] theorem M7(g:Nat→Nat→Nat→Nat→Bool→AV)(s:Vsn):cl g s.av=s.av:=by unfold Vsn.av;simp only[cl,dL]
@[simp] theorem Mn(v:Ty):aE (M.pure v.av)=M.pure v.av:=bM fun g=>tm g v
@[simp] theorem LM(v:Sig):aE (M.pure v.av)=M.pure v.av:=bM fun g=>yU g v
@[simp] theorem Kz(v:Face):aE (M.pure v.av)=M.pure v.av:=bM fun g=>Ax g v
end Go.Av.Ap
namespace Go.Av
open Go.Av.Ap
def Ih:Nat→AV→Bool
 | 0,_=>false
 | d + 1,.agg [.int .i64 _,.sl fs]=>decide (fs.length≤100)&&fs.all fun f=>match f with
  | .agg [.str _,.int .i64 k,.sl gs]=>Ih d (.agg [.int .i64 k,.sl gs])
  | _=>false
 | _,_=>false
def mh:(FuncId→List AV→M AV)→List AV→M AV:=fun _ args=>match args with
 | [v]=>af (bif Ih 5 v then some v else none)
 | _=>M.fail
def xy:Nat→Ty→Prop
 | 0,_=>False
 | d + 1,t=>t.fields.length≤100∧∀ f∈t.fields,xy d f.2
theorem FM:∀(d:Nat)(t:Ty),xy d t→xy (d + 1) t
 | 0,_,h=>h.elim
 | d + 1,_t,h=>⟨h.1,fun f hf=>FM d f.2 (h.2 f hf)⟩
theorem GE:∀(d:Nat)(t:Ty),xy d t→Ih d t.av=true
 | 0,_,h=>h.elim
 | d + 1,t,h=>by
  cases t with
  | mk k fs=>
   show Ih (d + 1) (.agg [.int .i64 k,.sl (eJ fs)])=true
   simp only[Ih,Bool.and_eq_true,decide_eq_true_eq,List.all_eq_true]
   refine⟨by rw[cS,List.length_map];exact h.1,fun v hv=>?_⟩
   rw[cS] at hv
   obtain⟨f,hf,rfl⟩:=List.mem_map.1 hv
   rw[jd]
   show Ih d (.agg [.int .i64 f.2.kind,.sl (eJ f.2.fields)])=true
   have:=GE d f.2 (h.2 f hf)
   cases hf2:f.2 with
   | mk k2 gs=>rw[hf2] at this;exact this
theorem qR{α β:Type}{f:β→α}{P:β→Prop}:(l:List α)→(∀ a∈l,∃ b,a=f b∧P b)→∃ m:List β,l=m.map f∧∀ b∈m,P b
 | [],_=>⟨[],rfl,by simp⟩
 | a:: l,h=>by
  obtain⟨b,rfl,hb⟩:=h a List.mem_cons_self
  obtain⟨m,rfl,hm⟩:=qR l fun a ha=>h a (List.mem_cons_of_mem _ ha)
  exact⟨b:: m,rfl,fun c hc=>by rcases List.mem_cons.1 hc with rfl | hc;exact hb;exact hm c hc⟩
theorem yp:∀(d:Nat)(v:AV),Ih d v=true→∃ t:Ty,v=t.av∧xy d t
 | 0,_,h=>by cases h
 | d + 1,v,h=>by
  unfold Ih at h
  split at h
  ·cases h
  ·rename_i k fs e
   obtain rfl:=Nat.succ.inj e
   simp only[Bool.and_eq_true,decide_eq_true_eq,List.all_eq_true] at h
   have key:∀ a∈fs,∃ f:bP,a=bF f∧xy d f.2:=by
    intro a ha
    have h2:=h.2 a ha
    split at h2
    ·rename_i n k' gs
     obtain⟨t,h3,h4⟩:=yp d _ h2
     refine⟨(n,t),?_,h4⟩
     rw[jd]
     have h5:t.av= .agg [.int .i64 t.kind,aK t.fields]:=by cases t;rfl
     rw[h5] at h3
     simp only[AV.agg.injEq,List.cons.injEq,and_true] at h3
     rw[← h3.1,← h3.2]
    ·cases h2
   obtain⟨m,rfl,hm⟩:=qR fs key
   refine⟨.mk k m,?_,?_,hm⟩
   ·show _=AV.agg [.int .i64 k,.sl (eJ m)]
    rw[cS]
   ·have:=h.1
    rw[List.length_map] at this
    exact this
  ·cases h
end Go.Av
namespace Go.Av
variable [Dr]
theorem jF{P:Program}{cx:Cx}{own:Option Nat}(hT:TOK P cx.T)(hC:cW P cx.own cx.call)(hI:IsoCall cx){f:FuncId}{fn:Func}(hf:P.funcs[f]? = some fn)(hnt:cx.nt=fn.ntmps) {E:List AV→Hp→R AV}
  (h0:∀ h,E [] h= .ok (.sl []) h) (h1:∀ e es h,ci cx (cZ 0) fn own [.sl (e:: es)] h=E (e:: es) h) (h2:∀ h,ci cx (cZ 0) fn own [.hn] h= .ok (.sl []) h)
  (h3:∀ l off h,ci cx (cZ 0) fn own [.hs l off 0 1 false] h= .ok (.sl []) h) {es:List AV} {h:Hp} {S:aC} {β:List bU} {w:World} {vs:List Value}
  (hr:E es h≠.fail) (hg:vX β h w) (hw:Wf S w) (hh:cU S β w h) (hv:bj S β [.sl es] vs):Calls P f vs.toArray w (eM own S β h w (E es h))∧fn.body.isSome=true:=by
 cases es with
 | cons e es=>
  rw[← h1] at hr ⊢
  exact i8 hT hC hI 0 hf hnt hr hg hw hh hv
 | nil=>
  rw[h0]
  simp only[bj] at hv
  obtain⟨v,_,rfl,hv,rfl⟩:=hv
  have hv0:=hv
  simp only[VR] at hv
  obtain⟨a,cap,rfl,hc,hn,hq⟩:=hv
  cases a with
  | none=>
   have hcap:=hn rfl
   subst hcap
   have hv2:bj S β [.hn] [.slice none ([]:List AV).length 0]:=by simp[bj,VR]
   have:=i8 (own:=own) hT hC hI 0 hf hnt (args:=[.hn]) (h:=h) (by rw[h2];simp) hg hw hh hv2
   rw[h2] at this
   exact this
  | some q=>
   obtain⟨hs,_⟩:=hq q rfl
   have hX:cU S [(q.block,q.off + cap)] w [[]]:=⟨rfl,fun _=>.no,fun l cs hl hne=>by
    cases l with
    | zero=>simp at hl;exact absurd hl hne
    | succ l=>simp at hl⟩
   have hE:∀ b,¬ cB [(q.block,q.off + cap)] [[]] b:=by
    rintro b ⟨l,cs,n,k1,k2,_⟩
    cases l with
    | zero=>simp at k1;exact k2 k1
    | succ l=>simp at k1
   have hv2:bj S [(q.block,q.off + cap)] [.hs 0 q.off 0 1 false] [.slice (some q) ([]:List AV).length cap]:=by
    simp only[bj,VR]
    rcases Nat.eq_zero_or_pos cap with h0 | h0
    ·subst h0
     exact⟨_,_,rfl,.inr ⟨trivial,q,rfl⟩,rfl⟩
    ·have hq':q=⟨q.block,q.off,none⟩:=by
      have:=hs h0
      cases q;simp_all
     exact⟨_,_,rfl,.inl ⟨(q.block,q.off + cap),cap,rfl,(by show q.off + cap≠0;omega),by rw[← hq'];rfl,Nat.zero_le _,by simp⟩,rfl⟩
   have:=i8 (own:=own) hT hC hI 0 hf hnt (args:=[.hs 0 q.off 0 1 false]) (h:=[[]]) (by rw[h3];simp) ⟨hg.1,fun b _=>hE b⟩ hw hX hv2
   rw[h3] at this
   refine⟨this.1.mono fun en w' hp=>?_,this.2⟩
   obtain⟨S',β',v,k1,k2,k3,k4⟩:=hp
   obtain⟨S2,j1,j2,j3⟩:=AO hw hh hE k3
   exact⟨S2,β,v,k1,j2 (.sl []) v k2,j1,fun sz hsz=>j3 sz v (k4 sz hsz)⟩
end Go.Av
namespace Go.Av
variable [Dr]
omit [Dr] in
theorem cU.grow{S:aC}{β:List bU}{w w':World}{h:Hp}(hh:cU S β w h)(hb:∀ b,b < w.heap.size→w'.heap[b]? = w.heap[b]?):cU S β w' h:=by
 obtain⟨hlen,ω,hr⟩:=hh
 exact⟨hlen,ω,hr.rows (aC.le_refl S) (gt.refl β) hlen fun l cs hl _=>.inl ⟨hl,fun b hb' ho=>⟨ho,hb b hb',fun o h=>h⟩⟩⟩
omit [Dr] in
theorem cU.low{S:aC}{β:List bU}{w:World}{h:Hp}(hh:cU S β w h){b:Nat}(hb:cB β h b):b < w.heap.size:=by
 obtain⟨_,ω,hr⟩:=hh
 obtain⟨l,cs,n,h1,h2,h3⟩:=hb
 obtain⟨b',x,k1,k2,_⟩:=hr.own h1 h2
 rw[h3] at k1
 cases k1
 exact k2
omit [Dr] in
theorem Wf.grow{S:aC}{w w':World}(hw:Wf S w)(hb:∀ b,b < w.heap.size→w'.heap[b]? = w.heap[b]?):Wf S w':=
 fun b o v hv=>by rw[cell_of_heap (hb b (hw.lt hv))];exact hw b o v hv
theorem tM{S S':aC}{β β':List bU}{w w2 w' w'':World}{h h':Hp}(hg:Gro w w2)(hold:∀ b,b < w.heap.size→w2.heap[b]? = w.heap[b]?)(L:Left (cB β h) S β w2 S' β' w' h') (hg':Gro w' w'')
  (hsame:∀ b,¬ (w.heap.size≤b∧b < w2.heap.size)→w''.heap[b]? = w'.heap[b]?) (hw:Wf S w) (hh:cU S β w h):Left (cB β h) S β w S' β' w'' h':=by
 have hs:=hg.size
 refine⟨L.le,L.ext,fun b o v hv=>?_,(hg.trans L.gro).trans hg',fun b hb hE=>?_,?_,fun b hb=>?_⟩
 ·by_cases hb:w.heap.size≤b∧b < w2.heap.size
  ·have hE:¬ cB β h b:=fun ho=>by have:=hh.low ho;omega
   have:=(L.keep b hb.2 hE).2 o
   rw[this,hw.none hb.1] at hv
   cases hv
  ·rw[cell_of_heap (hsame b hb)]
   exact L.wf b o v hv
 ·have h1:=L.keep b (by omega) hE
  exact⟨by rw[hsame b (by omega),h1.1,hold b hb],h1.2⟩
 ·obtain⟨hlen,ω,hr⟩:=L.heap
  refine⟨hlen,ω,hr.rowsA (aC.le_refl S') (gt.refl β') hlen fun l cs hl hne=>.inl ⟨hl,fun b _ ⟨n,h1⟩ h3=>⟨h3,hsame b fun hb=>?_,fun o h=>h⟩⟩⟩
  rcases L.owned b ⟨l,cs,_,hl,hne,h1⟩ with ho | ho
  ·have:=hh.low ho;omega
  ·omega
 ·rcases L.owned b hb with ho | ho
  ·exact .inl ho
  ·exact .inr (by omega)
theorem Gro.setCell(w:World)(a:Addr)(v:Value):Gro w (w.setCell a v):=⟨by simp,rfl,rfl,rfl,fun _=>Nat.le_refl _⟩
omit [Dr] in
theorem gn{w:World}{a:Addr}{v:Value}{b:Nat}(h:b≠a.block):(w.setCell a v).heap[b]? = w.heap[b]?:=by
 simp only[World.setCell,Array.getElem?_modify]
 rw[if_neg (fun e=>h e.symm)]
end Go.Av
namespace Go.Av
attribute [simp] aB ar EM BE
@[simp] theorem aA{α:Type}(b:Bool)(x y:M α):ap (.bool b) x y=if b=true then x else y:=by cases b <;> rfl
def gv(b w:Bool)(y:AV):AV:=bif b== w then y else .tup []
@[simp] theorem Ny(y:AV):gv false false y=y:=rfl
@[simp] theorem NB(y:AV):gv true true y=y:=rfl
@[simp] theorem Nz(y:AV):gv false true y= .tup []:=rfl
@[simp] theorem NA(y:AV):gv true false y= .tup []:=rfl
@[simp high] theorem dq(b w:Bool)(y:AV):ax (.bool b) w 1 (M.pure [y])=M.pure [gv b w y]:=by cases b <;> cases w <;> rfl
@[simp high] theorem Kw(b w c w2:Bool)(y:AV):ax (gv b w (.bool c)) w2 1 (M.pure [y])=M.pure [gv b w (gv c w2 y)]:=by cases b <;> cases w <;> cases c <;> cases w2 <;> rfl
@[simp high] theorem Kx(b w c e:Bool):ax (.bool b) w 1 (ae (af (aG (gv b w (.bool c)) (.bool true) (gv b w (gv c false (.bool e))))) fun v=>M.pure [v])=M.pure [gv b w (.bool (c||e))]:=by
 cases b <;> cases w <;> cases c <;> rfl
@[simp high] theorem J1(b w c e:Bool):ax (.bool b) w 1 (ae (af (aG (gv b w (.bool c)) (gv b w (gv c true (.bool e))) (.bool false))) fun v=>M.pure [v])=M.pure [gv b w (.bool (c&&e))]:=by
 cases b <;> cases w <;> cases c <;> rfl
@[simp high] theorem oV(b c:Bool):aG (.bool b) (gv b true (.bool c)) (.bool false)=some (.bool (b&&c)):=by cases b <;> rfl
@[simp high] theorem l7(b c:Bool):aG (.bool b) (.bool true) (gv b false (.bool c))=some (.bool (b||c)):=by cases b <;> rfl
@[simp] theorem Ht(w:Bool)(n:Nat)(m:M (List AV)):ax (.bool !w) w n m=M.pure (List.replicate n (.tup [])):=by cases w <;> rfl
@[simp] theorem ga(w:Bool)(n:Nat)(m:M (List AV)):ax (.bool w) w n m=m:=by cases w <;> rfl
@[simp] theorem Ch(n:Nat)(m:M (List AV)):ax (.bool false) true n m=M.pure (List.replicate n (.tup [])):=rfl
@[simp] theorem Ky(n:Nat)(m:M (List AV)):ax (.bool true) false n m=M.pure (List.replicate n (.tup [])):=rfl
@[simp] theorem zv(w:Bool)(n:Nat)(m:M (List AV)):ax (.tup []) w n m=M.pure (List.replicate n (.tup [])):=rfl
@[simp] theorem m8(x y:AV):aG (.bool true) x y=some x:=rfl
@[simp] theorem l6(x y:AV):aG (.bool false) x y=some y:=rfl
@[simp] theorem aL(x:AV)(l:List AV):nth (x:: l) 0=x:=rfl
@[simp] theorem aS(x:AV)(l:List AV)(n:Nat):nth (x:: l) (n + 1)=nth l n:=rfl
@[simp] theorem rr{α:Type}(k:List AV→M α)(m:(List AV→M α)→M α):jn k m=m k:=rfl
@[simp] theorem dW{α:Type}(a:α):cR (M.pure a)=M.pure a:=rfl
@[simp] theorem dS(b:Bool):fy .not (.bool b)=some (.bool !b):=rfl
@[simp] theorem cO(l:List AV)(i:Nat):aD (.tup l) i=l[i]?:=rfl
@[simp] theorem Ja:True:=trivial
@[simp] theorem dV(l k:Nat):a8 (.hp l k)=some (.hp l k):=rfl
@[simp] theorem Ka(cs:List AV):a8 (.ip cs)=some (.ip cs):=rfl
@[simp] theorem gA(s:List UInt8):ab (.str s)=[.str s]:=rfl
@[simp] theorem Js(k:IntKind)(n:Int):ab (.int k n)=[.int k n]:=rfl
@[simp] theorem bY(cs:List AV):ab (.agg cs)=cs:=rfl
@[simp] theorem cX(T:TT)(t:Nat)(a b:Int):am T .add t (.int .i64 a) (.int .i64 b)=some (.int .i64 (IntKind.i64.wrap (a + b))):=rfl
@[simp] theorem uB(T:TT)(t:Nat)(a b:Int):am T .sub t (.int .i64 a) (.int .i64 b)=some (.int .i64 (IntKind.i64.wrap (a - b))):=rfl
@[simp] theorem G0(T:TT)(t:Nat)(a b:Int):am T .mul t (.int .i64 a) (.int .i64 b)=some (.int .i64 (IntKind.i64.wrap (a * b))):=rfl
@[simp] theorem bz(T:TT)(t:Nat)(a b:Int):am T .lss t (.int .i64 a) (.int .i64 b)=some (.bool (decide (a < b))):=rfl
@[simp] theorem nk(T:TT)(t:Nat)(a b:Int):am T .leq t (.int .i64 a) (.int .i64 b)=some (.bool (decide (a≤b))):=rfl
@[simp] theorem qb(T:TT)(t:Nat)(a b:Int):am T .gtr t (.int .i64 a) (.int .i64 b)=some (.bool (decide (b < a))):=rfl
@[simp] theorem kE(T:TT)(t:Nat)(a b:Int):am T .geq t (.int .i64 a) (.int .i64 b)=some (.bool (decide (b≤a))):=rfl
@[simp] theorem g7(T:TT)(t:Nat)(a b:Int):am T .eql t (.int .i64 a) (.int .i64 b)=some (.bool (a== b)):=rfl
@[simp] theorem kF(T:TT)(t:Nat)(a b:Int):am T .neq t (.int .i64 a) (.int .i64 b)=some (.bool (a != b)):=rfl
@[simp] theorem vJ(T:TT)(t:Nat)(a b:List UInt8):am T .eql t (.str a) (.str b)=some (.bool (a== b)):=rfl
@[simp] theorem Ia(T:TT)(t:Nat)(a b:List UInt8):am T .neq t (.str a) (.str b)=some (.bool !(a== b)):=rfl
@[simp] theorem Mt(T:TT)(t:Nat)(a b:List UInt8):am T .lss t (.str a) (.str b)=some (.bool (aT a b)):=rfl
@[simp] theorem Mq(T:TT)(t:Nat)(a b:List UInt8):am T .geq t (.str a) (.str b)=some (.bool !(aT a b)):=rfl
@[simp] theorem ba{n:Nat}{x:AV}(h:cm n x=true):aH n x=M.pure (.agg (ab x)):=by
 unfold aH kG
 rw[h]
 rfl
@[simp] theorem aY{n:Nat}{x:AV}(h:cm n x=true):ao n [] x=M.pure (.agg (ab x)):=by
 unfold ao kG
 rw[h]
 rfl
@[simp] theorem KB(b:Bool)(x:AV):gw b [x]=some x:=by simp[gw]
@[simp] theorem KC(b:Bool)(a c:Int):gw b [.int .i64 a,.int .i64 c]=some (.int .i64 (if b=true then max a c else min a c)):=by
 cases b
 ·simp only[gw,FN,cond_false]
  congr 2
  simp only[Int.min_def]
  split <;> split <;> simp_all <;> omega
 ·simp only[gw,FN,cond_true]
  congr 2
  simp only[Int.max_def]
  split <;> split <;> simp_all <;> omega
theorem aV{x:Int}(h1:-9223372036854775808≤x)(h2:x≤9223372036854775807):IntKind.i64.wrap x=x:=IntWalk.i64_in _ ⟨h1,h2⟩
theorem GI{n:Nat}(h:n≤4611686018427387904):IntKind.i64.wrap (n:Int)=(n:Int):=IntWalk.i64_in _ (by omega)
theorem bq{n:Nat}(h:n≤4611686018427387904):IntKind.i64.wrap ((n:Int) + 1)=((n + 1:Nat):Int):=by
 rw[IntWalk.i64_in _ (by omega)];omega
theorem ui{n:Nat}(h:n≤4611686018427387904):IntKind.i64.wrap (((n + 1:Nat):Int) - 1)=(n:Int):=by
 rw[IntWalk.i64_in _ (by omega)];omega
namespace Ap
mutual
def Val.sz:Val→Nat
 | .mk _ _ ns vs=>1 + ns.length + bT vs
def bT:List Val→Nat
 | []=>0
 | v:: vs=>v.sz + bT vs
end
theorem gX:{l:List Val} →{v:Val} →v∈l→v.sz≤bT l
 | w:: l,v,h=>by
  simp only[bT]
  rcases List.mem_cons.1 h with rfl | h
  ·omega
  ·have:=gX h;omega
theorem Val.sz_pos(v:Val):1≤v.sz:=by cases v;simp[Val.sz];omega
theorem jr:(l:List Val)→l.length≤bT l
 | []=>by simp
 | v:: l=>by have:=jr l;have:=v.sz_pos;simp only[bT,List.length_cons];omega
theorem Val.sz_names(v:Val):v.names.length≤v.sz:=by cases v;simp[Val.sz,Val.names];omega
theorem Val.sz_values(v:Val):bT v.values < v.sz:=by cases v;simp[Val.sz,Val.values];omega
theorem Val.sz_len(v:Val):v.values.length < v.sz:=Nat.lt_of_le_of_lt (jr _) v.sz_values
theorem Val.sz_mem{v x:Val}(h:x∈v.values):x.sz < v.sz:=Nat.lt_of_le_of_lt (gX h) v.sz_values
end Ap
end Go.Av
namespace Go.Av
def aZ{α:Type}(F:α→Bool):List α→Int→Int
 | [],_=>-1
 | x:: l,i=>if F x=true then i else aZ F l (i + 1)
theorem xc{α:Type}(F:α→Bool):(l:List α)→(i:Int)→0≤i→(0≤aZ F l i↔l.any F=true)
 | [],i,_=>by simp[aZ]
 | x:: l,i,h=>by
  simp only[aZ]
  split
  ·rename_i hx;simp[hx,h]
  ·rename_i hx;rw[xc F l (i + 1) (by omega)];simp[hx]
theorem kf{α:Type}(F:α→Bool)(l:List α):decide (0≤aZ F l 0)=l.any F:=by
 have:=xc F l 0 (by omega)
 cases h:l.any F with
 | true=>simp[this.2 h]
 | false=>simp only[decide_eq_false_iff_not];intro hh;rw[this.1 hh] at h;cases h
@[simp] theorem Jb(a b:Nat):((a:Int)== (b:Int))=(a== b):=by rw[Bool.eq_iff_iff];simp;omega
@[simp] theorem HM(a:Nat):((a:Int)== 0)=(a== 0):=by rw[Bool.eq_iff_iff];simp
@[simp] theorem Jc(a b:Nat):((a:Int) != (b:Int))=(a != b):=by rw[Bool.eq_iff_iff];simp;omega
def iz{α β:Type}(F:α→β→Bool):List α→List β→Bool
 | x:: l,y:: r=>F x y&&iz F l r
 | [],[]=>true
 | _,_=>false
theorem Bu{α β:Type}(F:α→β→Bool)(a:List α)(b:List β)(i:Nat)(h1:i < a.length)(h2:i < b.length):iz F (a.drop i) (b.drop i)=(F a[i] b[i]&&iz F (a.drop (i + 1)) (b.drop (i + 1))):=by
 rw[List.drop_eq_getElem_cons h1,List.drop_eq_getElem_cons h2]
 rfl
theorem pm{α β:Type}(F:α→β→Bool):(a:List α)→(b:List β)→a.length≠b.length→iz F a b=false
 | [],[],h=>absurd rfl h
 | [],_:: _,_=>rfl
 | _:: _,[],_=>rfl
 | x:: a,y:: b,h=>by
  have:=pm F a b (by simpa using h)
  simp[iz,this]
end Go.Av
namespace Go.Av
open Ap
@[simp high] theorem JI(x:Val):aH 4 (Val.av x)=M.pure (Val.av x):=by rw[ba (eq x),dU,wU]
@[simp high] theorem Hb(x:Val):ao 4 [] (Val.av x)=M.pure (Val.av x):=by rw[aY (eq x),dU,wU]
@[simp high] theorem JF(x:Exp):aH 6 (Exp.av x)=M.pure (Exp.av x):=by rw[ba (iq x),a7,f8]
@[simp high] theorem G6(x:Exp):ao 6 [] (Exp.av x)=M.pure (Exp.av x):=by rw[aY (iq x),a7,f8]
@[simp high] theorem qF(x:bP):aH 3 (bF x)=M.pure (bF x):=by rw[ba (ir x),df,ij]
@[simp high] theorem G7(x:bP):ao 3 [] (bF x)=M.pure (bF x):=by rw[aY (ir x),df,ij]
@[simp high] theorem i9(x:Fun):aH 12 (Fun.av x)=M.pure (Fun.av x):=by rw[ba (jh x),dT,lK]
@[simp high] theorem G8(x:Fun):ao 12 [] (Fun.av x)=M.pure (Fun.av x):=by rw[aY (jh x),dT,lK]
@[simp high] theorem JG(x:Mod):aH 9 (Mod.av x)=M.pure (Mod.av x):=by rw[ba (km x),br,wS]
@[simp high] theorem G9(x:Mod):ao 9 [] (Mod.av x)=M.pure (Mod.av x):=by rw[aY (km x),br,wS]
@[simp high] theorem I3(x:Vars):aH 2 (Vars.av x)=M.pure (Vars.av x):=by rw[ba (mo x),pi,tD]
@[simp high] theorem GN(x:Vars):ao 2 [] (Vars.av x)=M.pure (Vars.av x):=by rw[aY (mo x),pi,tD]
@[simp high] theorem I2(x:Deed):aH 3 (Deed.av x)=M.pure (Deed.av x):=by rw[ba (oS x),pf,tB]
@[simp high] theorem GM(x:Deed):ao 3 [] (Deed.av x)=M.pure (Deed.av x):=by rw[aY (oS x),pf,tB]
@[simp high] theorem I1(x:Ap.Call):aH 3 (Ap.Call.av x)=M.pure (Ap.Call.av x):=by rw[ba (tV x),pe,tA]
@[simp high] theorem GL(x:Ap.Call):ao 3 [] (Ap.Call.av x)=M.pure (Ap.Call.av x):=by rw[aY (tV x),pe,tA]
@[simp high] theorem JH(x:Ap.Out):aH 8 (Ap.Out.av x)=M.pure (Ap.Out.av x):=by rw[ba (rL x),i6,wT]
@[simp high] theorem Ha(x:Ap.Out):ao 8 [] (Ap.Out.av x)=M.pure (Ap.Out.av x):=by rw[aY (rL x),i6,wT]
@[simp] theorem nQ(t:Ty):cm 2 t.av=true:=by simp[cm,aO,aK]
@[simp high] theorem gE(x:Ty):aH 2 (Ty.av x)=M.pure (Ty.av x):=by rw[ba (nQ x),ej,eP]
@[simp high] theorem ww(x:Ty):ao 2 [] (Ty.av x)=M.pure (Ty.av x):=by rw[aY (nQ x),ej,eP]
end Go.Av
namespace Go.Av
@[simp] theorem GP(c:Prop)[Decidable c](a b:Bool):(if c then (M.pure (.bool a):M AV) else M.pure (.bool b))=M.pure (.bool (if c then a else b)):=by split <;> rfl
@[simp] theorem Hw(c:Prop)[Decidable c](a b:Int):(if c then (M.pure (.int .i64 a):M AV) else M.pure (.int .i64 b))=M.pure (.int .i64 (if c then a else b)):=by split <;> rfl
end Go.Av
namespace Go.Av
variable [Dr]
open Go.RowKit Go.WideShapes Go.ChangeShapes
theorem Left.below{S S':aC}{β β':List bU}{w w':World}{h':Hp}(L:Left (cB [] []) S β w S' β' w' h'):Below w.heap.size w w':=
 ⟨L.gro.os,L.gro.tape,L.gro.out,L.gro.size,fun k hk=>(L.keep k hk (by rintro⟨l,_,_,h1,_⟩;simp at h1)).1⟩
def ll(W:World):aC:=fun b o=>W.cell? ⟨b,o,none⟩
omit [Dr] in
theorem GV(W:World):Wf (ll W) W:=fun _ _ _ h=>h
omit [Dr] in
theorem Cg{W:World}(h:GOKw W):vX [] [] W:=⟨h,fun b _ ho=>by obtain⟨l,_,_,h1,_⟩:=ho;simp at h1⟩
theorem Cl{P:Program}{p:Pg}(G:GoodPg P p)(hO:dK p){f:FuncId}{args:List AV}{vs:List Value}{W:World}(hg:GOKw W) (hv:bj (ll W) [] args vs)
  (ht:ai p f args []= .ok (.bool true) []):Calls P f vs.toArray W fun e W'=>e= .returned (.bool true)∧Below W.heap.size W W':=by
 have h:=(lD G hO f args [] (ll W) [] W vs (by rw[ht];simp) (Cg hg) (GV W) ⟨rfl,fun _=>.no,fun l cs hl=>by simp at hl⟩ hv).1
 rw[ht] at h
 refine h.mono fun e W' hp=>?_
 obtain⟨S',β',v,rfl,hv,L,_⟩:=hp
 simp only[VR] at hv
 subst hv
 exact⟨rfl,L.below⟩
section
variable {H:Type} {enc:TypeId×Value→H} {P:Program}
omit [Dr] in
theorem sS{f:Func}{s:ChangeSpec}{apart fresh handsOn again:Bool}{W W':World}{args:Array Value}{v:Value}{ds gs:List (DataW H)} {before pa pv:List MemPlace}
  (hW:DataW.Whole enc P f.params.toList s.vars apart W args.toList ds gs before)
  (hres:∀(b:Nat)(sp:Nat→Bool)(hd:Bool),DataW.TrodAll enc P W' b sp hd f.resultTypes.toList (v.resultList f.resultTypes.size) (s.fn H (ds++gs)).results [])
  (hargs:∀ sp:Nat→Bool,(∀ p∈before,sp p.block=true)→DataW.TrodAll enc P W' 0 sp true f.params.toList args.toList (s.fn H (ds++gs)).args pa)
  (hvars:∀ sp:Nat→Bool,(∀ p∈before,sp p.block=true)→DataW.TrodVars enc P W' sp s.vars (s.fn H (ds++gs)).vars pv)
  (hps:before=pa++pv) (hb:Below W.heap.size W W')
  (hok:∀(j:Nat)(t:TypeId)(r:Value),f.resultTypes[j]? = some t→(v.resultList f.resultTypes.size)[j]? = some r→Value.okWide P W' .any 0 t r):
  s.post enc P f apart fresh handsOn again W args v W':=by
 have hlt:∀ p∈before,p.block < W.heap.size:=fun p hp=>hW.lt p hp
 have hold:∀ p∈before,(fun b=>decide (b < W.heap.size)) p.block=true:=fun p hp=>by simpa using hlt p hp
 refine⟨ds,gs,before,[],pa,pv,hW,hres _ _ _,hargs _ hold,hvars _ hold,World.keptBut_mono (fun p hp=>⟨hp,?_⟩) (hb.frame (· ∈before)),fun _=>?_⟩
 ·rw[hps,List.mem_append] at hp
  exact Or.inr hp
 ·obtain⟨_,_,_,_,_,hz,hn⟩:=hW
  refine⟨hok,_,_,([]++pa)++pv,⟨[]++pa,pv,trodAll_append (hargs _ (fun _ _=>rfl)) (hres _ _ _),hvars _ (fun _ _=>rfl),rfl,?_,?_⟩,?_⟩
  ·intro b off hp
   have hin:MemPlace.cell b off∈before:=by rw[hps];simpa using hp
   rw[hb.frozen (hlt _ hin)]
   exact hz b off hin
  ·intro ha
   have:=hn ha
   rw[hps] at this
   simpa using this
  ·intro p hp _
   rw[hps]
   simpa using hp
end
end Go.Av
namespace Go.Av
theorem uU{F:(List AV→M AV)→List AV→M AV}(hF:∀ vs,aj F vs=F (aj F) vs)(st:Nat→List AV)(n:Nat) (G:Nat→Bool)
  (hend:F (aj F) (st n)=M.pure (.bool true)) (hstep:∀ k,k < n→F (aj F) (st k)=if G k=true then aj F (st (k + 1)) else M.pure (.bool false)):
  ∀ k,k≤n→aj F (st k)=M.pure (.bool ((List.range' k (n - k)).all G)):=by
 have key:∀ r k,n - k=r→k≤n→aj F (st k)=M.pure (.bool ((List.range' k r).all G)):=by
  intro r
  induction r with
  | zero=>
   intro k hr hk
   obtain rfl:k=n:=by omega
   rw[hF,hend]
   rfl
  | succ r ih=>
   intro k hr hk
   rw[hF,hstep k (by omega),ih (k + 1) (by omega) (by omega)]
   simp only[List.range'_succ,List.all_cons]
   cases G k <;> rfl
 exact fun k hk=>key (n - k) k rfl hk
theorem mQ{α:Type}[Inhabited α](P:α→Bool)(l:List α):(List.range' 0 l.length).all (fun k=>P l[k]!)=l.all P:=by
 rw[Bool.eq_iff_iff]
 simp only[List.all_eq_true,List.mem_range'_1]
 constructor
 ·intro h x hx
  obtain⟨i,hi,rfl⟩:=List.getElem_of_mem hx
  have:=h i ⟨Nat.zero_le _,by omega⟩
  rwa [getElem!_pos l i hi] at this
 ·intro h k hk
  have hk':k < l.length:=by omega
  rw[getElem!_pos l k hk']
  exact h _ (List.getElem_mem hk')
theorem uc{T:TT}{t e:Nat}{ti ei:TI}(ht:T t=some ti)(hk:ti.kind= .slice e)(he:T e=some ei)(es:List AV){n:Int}(h0:0≤n)(h1:n≤es.length):dx T t (.sl es) none (some (.int .i64 n)) none=some (.sl (es.take n.toNat)):=by
 unfold dx
 rw[ht]
 simp[hk,he,dh,h0,h1]
theorem pT{T:TT}{t e:Nat}{ti ei:TI}(ht:T t=some ti)(hk:ti.kind= .slice e)(he:T e=some ei)(es:List AV):dx T t (.sl es) none (some (.int .i64 es.length)) (some (.int .i64 es.length))=some (.sl es):=by
 unfold dx
 rw[ht]
 simp[hk,he,dh]
theorem CP{T:TT}{t e:Nat}{ti ei:TI}(ht:T t=some ti)(hk:ti.kind= .slice e)(he:T e=some ei)(es:List AV)(hok:db ei.size es=true){n:Int}(h0:0≤n)(h1:n≤es.length):dx T t (.sl es) (some (.int .i64 n)) none none=some (.sl (es.drop n.toNat)):=by
 unfold dx
 rw[ht]
 simp[hk,he,dh,h0,h1,hok]
end Go.Av
namespace Go.Av.Ap
open Go Go.Av
def ju{α:Type}(most:Int)(g:α→Int→Int)(n:Int)(l:List α):Int:=l.foldl (fun n x=>if n≤most then n + g x (most - n) else n) n
theorem jX{α:Type}{most:Int}{g:α→Int→Int}{n:Int}(h:most < n):(l:List α)→ju most g n l=n
 | []=>rfl
 | x:: l=>by
  show ju most g (if n≤most then n + g x (most - n) else n) l=n
  rw[if_neg (by omega)]
  exact jX h l
theorem mf{α:Type}{most:Int}{g:α→Int→Int}{n:Int}(x:α)(l:List α)(h:n≤most):ju most g n (x:: l)=ju most g (n + g x (most - n)) l:=by
 show ju most g (if n≤most then n + g x (most - n) else n) l=_
 rw[if_pos h]
theorem jx{α:Type}{most:Int}{g:α→Int→Int}:(l:List α)→(∀ x∈l,∀ m,0≤m→m≤most→1≤g x m∧g x m≤m + 1)→∀ n,1≤n→n≤most + 1→n≤ju most g n l∧ju most g n l≤most + 1
 | [],_,n,h1,h2=>⟨Int.le_refl _,h2⟩
 | x:: l,hg,n,h1,h2=>by
  by_cases h:n≤most
  ·rw[mf x l h]
   have:=hg x List.mem_cons_self (most - n) (by omega) (by omega)
   have ih:=jx l (fun y hy=>hg y (List.mem_cons_of_mem _ hy)) (n + g x (most - n)) (by omega) (by omega)
   exact⟨by omega,ih.2⟩
  ·rw[jX (by omega)]
   exact⟨Int.le_refl _,h2⟩
theorem uV{α:Type}{F:(List AV→M AV)→List AV→M AV}(hF:∀ vs,aj F vs=F (aj F) vs)(st:Int→Nat→List AV)(most:Int)(g:α→Int→Int) (l:List α)
  (hg:∀ x∈l,∀ m,0≤m→m≤most→1≤g x m∧g x m≤m + 1)
  (hend:∀ n,F (aj F) (st n l.length)=M.pure (.int .i64 n))
  (hstop:∀ n k,k < l.length→most < n→F (aj F) (st n k)=M.pure (.int .i64 n))
  (hstep:∀ n k,(hk:k < l.length)→1≤n→n≤most→F (aj F) (st n k)=aj F (st (n + g l[k] (most - n)) (k + 1))):
  ∀ r n k,l.length - k=r→k≤l.length→1≤n→n≤most + 1→aj F (st n k)=M.pure (.int .i64 (ju most g n (l.drop k))):=by
 intro r
 induction r with
 | zero=>
  intro n k hr hk _ _
  obtain rfl:k=l.length:=by omega
  rw[hF,hend,List.drop_length]
  rfl
 | succ r ih=>
  intro n k hr hk h1 h2
  have hk':k < l.length:=by omega
  rw[hF,List.drop_eq_getElem_cons hk']
  by_cases h:n≤most
  ·have hb:=hg l[k] (List.getElem_mem hk') (most - n) (by omega) (by omega)
   rw[hstep n k hk' h1 h,mf _ _ h,ih _ _ (by omega) (by omega) (by omega) (by omega)]
  ·rw[hstop n k hk' (by omega),jX (by omega)]
def dj:Nat→Val→Int→Int
 | 0,_,most=>most + 1
 | d + 1,v,most=>ju most (dj d) 1 v.values
def fb:Nat→Exp→Int→Int
 | 0,_,most=>most + 1
 | d + 1,e,most=>ju most (fb d) 1 e.args
def eL:Nat→Ty→Int→Int
 | 0,_,most=>most + 1
 | d + 1,t,most=>ju most (fun f=>eL d f.2) 1 t.fields
theorem hJ:∀(d:Nat)(v:Val)(most:Int),0≤most→1≤dj d v most∧dj d v most≤most + 1
 | 0,v,most,h=>⟨by simp only[dj];omega,Int.le_refl _⟩
 | d + 1,v,most,h=>jx v.values (fun x _ m h0 _=>hJ d x m h0) 1 (by omega) (by omega)
theorem hG:∀(d:Nat)(v:Exp)(most:Int),0≤most→1≤fb d v most∧fb d v most≤most + 1
 | 0,v,most,h=>⟨by simp only[fb];omega,Int.le_refl _⟩
 | d + 1,v,most,h=>jx v.args (fun x _ m h0 _=>hG d x m h0) 1 (by omega) (by omega)
theorem jO:∀(d:Nat)(v:Ty)(most:Int),0≤most→1≤eL d v most∧eL d v most≤most + 1
 | 0,v,most,h=>⟨by simp only[eL];omega,Int.le_refl _⟩
 | d + 1,v,most,h=>jx v.fields (fun x _ m h0 _=>jO d x.2 m h0) 1 (by omega) (by omega)
def Val.limN:Nat→Val→Prop
 | 0,_=>True
 | n + 1,v=>v.names.length≤140737488355328∧v.values.length≤140737488355328∧∀ x∈v.values,x.limN n
def Val.Lim(v:Val):Prop:=∀ n,v.limN n
def Exp.limN:Nat→Exp→Prop
 | 0,_=>True
 | n + 1,v=>v.names.length≤8796093022208∧v.args.length≤140737488355328∧∀ x∈v.args,x.limN n
def Exp.Lim(v:Exp):Prop:=∀ n,v.limN n
def Ty.limN:Nat→Ty→Prop
 | 0,_=>True
 | n + 1,v=>v.fields.length≤140737488355328∧∀ x∈v.fields,x.2.limN n
def Ty.Lim(v:Ty):Prop:=∀ n,v.limN n
theorem Val.Lim.names{v:Val}(h:v.Lim):v.names.length≤140737488355328:=(h 1).1
theorem Val.Lim.len{v:Val}(h:v.Lim):v.values.length≤140737488355328:=(h 1).2.1
theorem Val.Lim.kid{v:Val}(h:v.Lim){x:Val}(hx:x∈v.values):x.Lim:=fun n=>(h (n + 1)).2.2 x hx
theorem Exp.Lim.names{v:Exp}(h:v.Lim):v.names.length≤8796093022208:=(h 1).1
theorem Exp.Lim.len{v:Exp}(h:v.Lim):v.args.length≤140737488355328:=(h 1).2.1
theorem Exp.Lim.kid{v:Exp}(h:v.Lim){x:Exp}(hx:x∈v.args):x.Lim:=fun n=>(h (n + 1)).2.2 x hx
theorem Ty.Lim.len{v:Ty}(h:v.Lim):v.fields.length≤140737488355328:=(h 1).1
theorem Ty.Lim.kid{v:Ty}(h:v.Lim){x:bP}(hx:x∈v.fields):x.2.Lim:=fun n=>(h (n + 1)).2 x hx
structure Fun.Lim (f:Fun):Prop where
 params:f.params.length≤140737488355328
 pty:∀ x∈f.params,x.2.Lim
 result:f.result.Lim
 body:f.body.Lim
structure Mod.Lim (m:Mod):Prop where
 uses:m.uses.length≤140737488355328
 vars:m.vars.length≤140737488355328
 vty:∀ x∈m.vars,x.2.Lim
 init:m.init.length≤140737488355328
 ies:∀ e∈m.init,e.Lim
 funcs:m.funcs.length≤140737488355328
 fns:∀ f∈m.funcs,f.Lim
 old:m.old.length≤140737488355328
 oty:∀ x∈m.old,x.2.Lim
 forward:m.forward.length≤140737488355328
 fes:∀ e∈m.forward,e.Lim
 back:m.back.length≤140737488355328
 bes:∀ e∈m.back,e.Lim
def dp(l:List bP):Bool:=(l.take 9).all (fun f=>decide (eL 8 f.2 20≤20))&&decide (l.length≤8)
def c9(e:Exp):Bool:=decide (fb 16 e 40≤40)
def qk(m:Mod):Bool:=(m.funcs.take 9).all (fun f=>dp f.params&&decide (eL 8 f.result 20≤20))&&((m.forward.take 7++m.back.take 7).all c9&&(decide (m.uses.length≤12)&&dp m.vars&&dp m.old&&decide (m.forward.length≤6)&&decide (m.back.length≤6)))
def BX(m:Mod):Bool:=(decide (m.vars.length≤4)&&decide (m.init.length≤6)&&decide (m.funcs.length≤4)&&qk m)&&(m.init.all c9&&m.funcs.all (fun f=>c9 f.body&&decide (f.params.length≤8)))
def zl(p:List Mod)(args:List Val)(world:List Int)(fuel:Int):Bool:=
 (decide (p.length≤4)&&decide (args.length≤8)&&decide (world.length≤30)&&decide (fuel≤2000))&&(p.all BX&&args.all (fun v=>decide (dj 8 v 40≤40)))
def qj(b:UInt8):Bool:=decide (97≤b.toNat)&&decide (b.toNat≤122)
def za(b:UInt8):Bool:=decide (48≤b.toNat)&&decide (b.toNat≤57)
def qA(b:UInt8):Bool:=qj b||za b
def pW(s:aU):Bool:=!(s== [])&&qj (s.headD 0)&&decide (s.length≤20)&&((s.takeWhile qA).length== s.length)
def my:aU:=[32,97,110,100,32,98,97,99,107,32,98,111,111,108,32,99,108,111,99,107,32,101,108,115,101,32,102,97,108,115,101,32,102,105,108,101,115,32,102,110,32,102,111,114,119,97,114,100,32,103,101,116,32,105,102,32,105,110,32,105,110,116,32,108,101,116,32,109,111,100,117,108,101,32,109,111,118,101,32,110,101,116,32,110,111,116,32,111,114,32,112,117,98,32,115,101,99,114,101,116,115,32,115,101,116,32,116,104,101,110,32,116,114,117,101,32,117,115,101,32,118,97,114,32]
def de(s:aU):Bool:=pW s && !(Lib.contains my ([32]++s++[32]))
theorem CU{s:aU}(h:pW s=true):s.length≤20:=by
 unfold pW at h
 simp only[Bool.and_eq_true,decide_eq_true_eq] at h
 exact h.1.2
def eI(p f:aU):Bool:=!(aT f p||f== p)
def kC{α:Type}(Q:α→α→Bool):List α→Bool
 | x:: y:: r=>Q x y&&kC Q (y:: r)
 | _=>true
theorem wk{α:Type}[Inhabited α](Q:α→α→Bool):(l:List α)→(kC Q l=true↔∀ k,k + 1 < l.length→Q l[k]! l[k + 1]! = true)
 | []=>by simp[kC]
 | [x]=>by simp[kC]
 | x:: y:: r=>by
  simp only[kC,Bool.and_eq_true,wk Q (y:: r)]
  constructor
  ·rintro⟨h1,h2⟩ k hk
   cases k with
   | zero=>simpa using h1
   | succ k=>simpa using h2 k (by simpa using hk)
  ·intro h
   refine⟨by simpa using h 0 (by simp),fun k hk=>?_⟩
   simpa using h (k + 1) (by simpa using hk)
theorem Ao{α:Type}[Inhabited α](P:α→Bool)(Q:α→α→Bool)(l:List α):(List.range' 0 l.length).all (fun k=>P l[k]! && (decide (k=0)||Q l[k - 1]! l[k]!))=(l.all P&&kC Q l):=by
 rw[Bool.eq_iff_iff,Bool.and_eq_true,← mQ P l,wk]
 simp only[List.all_eq_true,List.mem_range'_1,Bool.and_eq_true,Bool.or_eq_true,decide_eq_true_eq]
 constructor
 ·intro h
  refine⟨fun k hk=>(h k hk).1,fun k hk=>?_⟩
  have:=(h (k + 1) ⟨Nat.zero_le _,by omega⟩).2
  rcases this with h0 | h1
  ·omega
  ·simpa using h1
 ·rintro⟨h1,h2⟩ k hk
  refine⟨h1 k hk,?_⟩
  cases k with
  | zero=>exact .inl rfl
  | succ k=>exact .inr (by simpa using h2 k (by omega))
def dw:Nat→Ty→Bool
 | 0,_=>false
 | d + 1,t=>decide (0≤t.kind)&&decide (t.kind < 3)&&decide (t.fields.length≤8)&&(t.kind== 2||t.fields.length== 0)&&(t.fields.all (fun f=>de f.1&&dw d f.2)&&kC (fun a b=>eI a.1 b.1) t.fields)
theorem fg(d:Nat)(t:Ty):dw (d + 1) t=(decide (0≤t.kind)&&decide (t.kind < 3)&&decide (t.fields.length≤8)&&(t.kind== 2||t.fields.length== 0)&&(t.fields.all (fun f=>de f.1&&dw d f.2)&&kC (fun a b=>eI a.1 b.1) t.fields)):=rfl
abbrev bN(t:Ty):Bool:=dw 4 t
mutual
def uA:Ty→Ty→Bool
 | .mk k fs,a=>a.kind== k&&qa fs a.fields
def qa:List (aU×Ty)→List bP→Bool
 | [],_=>true
 | f:: fs,l=>yJ f l&&qa fs l
def yJ:aU×Ty→List bP→Bool
 | (n,t),l=>match bQ (fun z=>z.1== n) l with
  | some z=>uA t z.2
  | none=>false
end
def bR(a b:Ty):Bool:=uA b a
theorem pn:(fs:List bP)→(l:List bP)→qa fs l=fs.all fun f=>yJ f l
 | [],_=>rfl
 | f:: fs,l=>by simp[qa,pn fs l]
theorem tb(a b:Ty):bR a b=(a.kind== b.kind&&b.fields.all fun f=>match bQ (fun z=>z.1== f.1) a.fields with | some z=>bR z.2 f.2 | none=>false):=by
 cases b with
 | mk k fs=>
  show uA (.mk k fs) a=_
  simp only[uA,pn,Ty.kind,Ty.fields]
  congr 2
  funext f
  obtain⟨n,t⟩:=f
  simp only[yJ,bR]
def ee(a b:Int):Int:=IntKind.i64.wrap (BitVec.ofInt 64 a &&& ~~~ BitVec.ofInt 64 b).toNat
structure Sig.Lim (s:Sig):Prop where
 plen:s.params.length≤140737488355328
 ptys:∀ t∈s.params,t.Lim
 result:s.result.Lim
structure Face.Lim (f:Face):Prop where
 len:f.funcs.length≤140737488355328
 sigs:∀ s∈f.funcs,s.Lim
@[simp] theorem qG(x:Sig):aH 5 x.av=M.pure x.av:=by rw[ba (lV x),fJ,q7]
@[simp] theorem uF(x:Sig):ao 5 [] x.av=M.pure x.av:=by rw[aY (lV x),fJ,q7]
theorem dC:(a:aU)→aT a a=false
 | []=>rfl
 | x:: a=>by simp[aT,dC a]
theorem dY:(a b c:aU)→aT a b=true→aT b c=true→aT a c=true
 | _,[],c,h,_=>by cases ‹aU› <;> simp[aT] at h
 | _,_:: _,[],_,h=>by simp[aT] at h
 | [],_:: _,_:: _,_,_=>by simp[aT]
 | x:: a,y:: b,z:: c,h1,h2=>by
  simp only[aT,Bool.or_eq_true,Bool.and_eq_true,decide_eq_true_eq,beq_iff_eq,UInt8.lt_iff_toNat_lt] at h1 h2 ⊢
  rcases h1 with h1 | ⟨rfl,h1⟩
  ·rcases h2 with h2 | ⟨rfl,h2⟩
   ·exact .inl (by omega)
   ·exact .inl h1
  ·rcases h2 with h2 | ⟨rfl,h2⟩
   ·exact .inl h2
   ·exact .inr ⟨rfl,dY a b c h1 h2⟩
theorem fG:(a b:aU)→aT a b=false→a≠b→aT b a=true
 | [],[],_,h=>absurd rfl h
 | [],_:: _,h,_=>by simp[aT] at h
 | _:: _,[],_,_=>by simp[aT]
 | x:: a,y:: b,h1,h2=>by
  simp only[aT,Bool.or_eq_false_iff,decide_eq_false_iff_not,Bool.or_eq_true,Bool.and_eq_true,decide_eq_true_eq,beq_iff_eq,UInt8.lt_iff_toNat_lt] at h1 ⊢
  by_cases e:x=y
  ·subst e
   refine .inr ⟨rfl,fG a b ?_ fun e=>h2 (by rw[e])⟩
   simpa using h1.2
  ·refine .inl ?_
   have:x.toNat≠y.toNat:=fun e'=>e (UInt8.toNat_inj.1 e')
   omega
theorem qz(p f:aU):eI p f=true↔aT p f=true:=by
 unfold eI
 rw[Bool.not_eq_true',Bool.or_eq_false_iff]
 constructor
 ·rintro⟨h1,h2⟩
  exact fG f p h1 (beq_eq_false_iff_ne.1 h2)
 ·intro h
  refine⟨?_,?_⟩
  ·cases hc:aT f p with
   | false=>rfl
   | true=>exact absurd (dY _ _ _ h hc) (by simp[dC])
  ·rw[beq_eq_false_iff_ne]
   rintro rfl
   rw[dC] at h
   cases h
theorem ou{α:Type}{Q:α→α→Bool}{nm:α→aU}(hQ:∀ x y,Q x y=true→aT (nm x) (nm y)=true):(l:List α)→kC Q l=true→l.Pairwise fun x y=>aT (nm x) (nm y)=true
 | [],_=>.nil
 | [x],_=>by simp
 | x:: y:: r,h=>by
  simp only[kC,Bool.and_eq_true] at h
  have ih:=ou hQ (y:: r) h.2
  refine .cons (fun z hz=>?_) ih
  have h1:=hQ _ _ h.1
  rcases List.mem_cons.1 hz with rfl | hz
  ·exact h1
  ·exact dY _ _ _ h1 ((List.pairwise_cons.1 ih).1 z hz)
theorem Fe{t:Ty}{f:bP}(h:f∈t.fields):SizeOf.sizeOf f.2 < SizeOf.sizeOf t:=by
 cases t with
 | mk k fs=>
  have h1:SizeOf.sizeOf f < SizeOf.sizeOf fs:=List.sizeOf_lt_of_mem h
  obtain⟨n,u⟩:=f
  simp only[Prod.mk.sizeOf_spec] at h1
  simp only[Ty.mk.sizeOf_spec]
  omega
end Go.Av.Ap
namespace Go.Av.Ap
open Go Go.Av
section
variable {α:Type} {f:α→AV} {sz:Nat}
def rowOf(f:α→AV)(l:List α):List AV:=(l.map f).flatMap ab
theorem jo(x:α)(l:List α):rowOf f (x:: l)=ab (f x)++rowOf f l:=by simp[rowOf]
theorem fY(hs:∀ x,(ab (f x)).length=sz):(l:List α)→(rowOf f l).length=l.length * sz
 | []=>by simp[rowOf]
 | x:: l=>by rw[jo,List.length_append,hs,fY hs l,List.length_cons,Nat.succ_mul];omega
theorem iv(hs:∀ x,(ab (f x)).length=sz):(l:List α)→(i:Nat)→(h:i < l.length)→((rowOf f l).drop (i * sz)).take sz=ab (f l[i])
 | x:: l,0,_=>by
  rw[jo,Nat.zero_mul,List.drop_zero,List.take_left' (hs x)]
  rfl
 | x:: l,i + 1,h=>by
  rw[jo,show (i + 1) * sz=(ab (f x)).length + i * sz by rw[hs,Nat.succ_mul];omega,List.drop_append,List.drop_eq_nil_of_le (by omega),Nat.add_sub_cancel_left,List.nil_append]
  simpa using iv hs l i (by simpa using h)
theorem sV{cs xs:List AV}{off:Nat}(h:(cs.drop off).take xs.length=xs):setCells cs off xs=cs:=by
 unfold setCells
 conv=>lhs;rw[← h]
 rw[List.append_assoc]
 have:cs.take off++((cs.drop off).take xs.length++cs.drop (off + ((cs.drop off).take xs.length).length))=cs:=by
  rw[h,← List.drop_drop]
  conv=>lhs;rw[show xs++List.drop xs.length (List.drop off cs)=(cs.drop off).take xs.length++List.drop xs.length (List.drop off cs) by rw[h]]
  rw[List.take_append_drop,List.take_append_drop]
 exact this
theorem oG(hs:∀ x,(ab (f x)).length=sz)(hag:∀ x,f x= .agg (ab (f x)))(hcl:∀ x g,cl g (f x)=f x)(hz:0 < sz){h:Hp}{q:Nat}{l:List α}(hq:h[q]? = some (rowOf f l))(d:Nat):
  ix (d + 1) h (.hs q 0 l.length sz true)= .sl (l.map f):=by
 have hlen:=fY (f:=f) hs l
 simp only[ix,cl,hq]
 have h1:(decide (0 + l.length * sz≤(rowOf f l).length)&&decide (0 < sz)&&(true||(Nat.beq sz 1&&(rowOf f l).all aO)))=true:=by
  simp[hlen,hz]
 rw[h1,cond_true]
 congr 1
 apply List.ext_getElem
 ·simp
 ·intro i h2 h3
  have hi:i < l.length:=by simpa using h2
  simp only[List.getElem_map,List.getElem_range,Nat.zero_add,cond_true]
  rw[iv hs l i hi,← hag]
  cases d with
  | zero=>exact hcl _ _
  | succ d=>exact hcl _ _
theorem yW{T:TT}{t e:Nat}{ti ei:TI}(ht:T t=some ti)(hk:ti.kind= .slice e)(he:T e=some ei)(h4:ei.size=sz)(hag:ei.agg=true)(hb:0 < ei.bytes)(hz:0 < sz)(hok:∀ x,cm sz (f x)=true)(call:FuncId→List AV→M AV)(l:List α)(hc:l.length * ei.bytes≤140737488355328)(h:Hp):
  di T t call [.sl (l.map f)] h=if l=[] then .ok (.sl []) h else .ok (.hs h.length 0 l.length sz true) (h++[rowOf f l]):=by
 have h1:db sz (l.map f)=true:=dP hok l
 cases l with
 | nil=>simp[di,appH,ht,hk,he,gu,hb,h4,jq,db,hz]
 | cons v l=>
  have hne:((v:: l).map f).isEmpty=false:=rfl
  unfold di appH
  simp only[ht,hk,he,gu,h4,h1,hb,hz,jq,decide_true,Bool.and_self,cond_true,hne,cond_false,List.length_map,hag]
  rw[decide_eq_true hc]
  simp[rowOf]
end
theorem Co{T:TT}{t:Nat}{ti:TI}{q off:Nat}{cs:List AV}{h:Hp}(ht:T t=some ti)(hag:ti.agg=true)(hq:h[q]? = some cs)(hle:off + ti.size≤cs.length):aR T t (.hp q off) h= .ok (.agg ((cs.drop off).take ti.size)) h:=by
 simp only[aR,ht,hq,hag,cond_true]
 rw[if_pos hle]
theorem ye{T:TT}{t:Nat}{ti:TI}{q off:Nat}{cs:List AV}{v:AV}{h:Hp}(ht:T t=some ti)(hq:h[q]? = some cs)(hok:cm ti.size v=true)(hle:off + ti.size≤cs.length)(h0:0 < ti.size)(hsame:(cs.drop off).take (ab v).length=ab v):
  bo T t (.hp q off) v h= .ok (.tup []) h:=by
 simp only[bo,ht,hq,hok,decide_eq_true hle,decide_eq_true h0,Bool.and_self,cond_true]
 rw[sV hsame]
 congr 1
 obtain⟨hlt,hk⟩:=List.getElem?_eq_some_iff.1 hq
 rw[← hk]
 exact List.set_getElem_self hlt
end Go.Av.Ap
namespace Go.Av
open Go.RowKit
section
variable {H:Type} {enc:TypeId×Value→H} {P:Program} {w w':World}
theorem mJ{base:Nat}{spare:Nat→Bool}{held:Bool}:∀ {ts:List TypeId} {vs:List Value} {ds:List (DataW H)} {ps:List MemPlace},DataW.TrodAll enc P w base spare held ts vs ds ps→(∀ p∈ps,w.sameAt w' p)→DataW.TrodAll enc P w' base spare held ts vs ds ps
 | [],[],[],_,h,_=>h
 | _:: _,_:: _,_:: _,_,⟨p,q,⟨n,h1⟩,h2,e⟩,hs=>⟨p,q,⟨n,DataW.trod_carry n _ _ _ h1 (fun x hx=>hs x (by rw[e];exact List.mem_append_left _ hx))⟩,mJ h2 (fun x hx=>hs x (by rw[e];exact List.mem_append_right _ hx)),e⟩
theorem vE(hb:Below w.heap.size w w'){p:MemPlace}(hp:p.block < w.heap.size):w.sameAt w' p:=by
 cases p with
 | cell b off=>
  have:=hb.block b hp
  show w'.cell? ⟨b,off,none⟩=w.cell? ⟨b,off,none⟩
  simp only[World.cell?,this]
 | map b=>exact hb.block b hp
theorem yH{T:TypeId→Prop}(K:Kids P T)(hz:∀ t e,T t→P.underlying t=some (.slice e)→0 < P.cellsOf e){ts:List TypeId}{vs:List Value}{ds:List (DataW H)}{ps:List MemPlace} (hT:∀ t∈ts,T t)
  (h:DataW.TrodAll enc P w 0 (fun _=>true) true ts vs ds ps) (hlt:∀ p∈ps,p.block < w.heap.size) (hb:Below w.heap.size w w') (sp:Nat→Bool) (hsp:∀ p∈ps,sp p.block=true):DataW.TrodAll enc P w' 0 sp true ts vs ds ps:=
 (mJ h fun p hp=>vE hb (hlt p hp)).respare K hz hT hsp
end
theorem AR{α:Type}(Q:Nat→α→Prop):∀ n,(∀ i,i < n→∃ x,Q i x)→∃ l:List α,l.length=n∧∀ i x,l[i]? = some x→Q i x
 | 0,_=>⟨[],rfl,fun i x h=>by simp at h⟩
 | n + 1,h=>by
  obtain⟨l,h1,h2⟩:=AR Q n fun i hi=>h i (by omega)
  obtain⟨y,hy⟩:=h n (by omega)
  refine⟨l++[y],by simp[h1],fun i x hx=>?_⟩
  by_cases hi:i < n
  ·rw[List.getElem?_append_left (by omega)] at hx
   exact h2 i x hx
  ·rw[List.getElem?_append_right (by omega)] at hx
   have hin:i - l.length=0:=by
    rcases Nat.eq_zero_or_pos (i - l.length) with h | h
    ·exact h
    ·rw[List.getElem?_eq_none (by simp;omega)] at hx;cases hx
   rw[hin] at hx
   simp only[List.getElem?_cons_zero,Option.some.injEq] at hx
   subst hx
   obtain rfl:i=n:=by omega
   exact hy
end Go.Av
namespace Go.Av
open Go.RowKit Go.WideShapes Go.ChangeShapes
section
variable {H:Type} (enc:TypeId×Value→H) (P:Program) (W:World)
def Rd{α:Type}(N:Nat)(t:TypeId)(cells:α→List AV)(Ok:α→Prop):Prop:=∀(base:Nat)(held:Bool)(n:Nat),n < N→∀(cs:List Value)(x:DataW H×List MemPlace),DataW.trod enc P W base (fun _=>true) held n t cs=some x→(∀ k∈x.1.weights P t,k≤reachBytes)→∃ a:α,bj (ll W) [] (cells a) cs∧Ok a
def GU{α:Type}(N:Nat)(tot:Nat)(o:Nat)(fs:List Field)(cells:α→List AV)(Ok:α→Prop):Prop:=∀(base:Nat)(held:Bool)(n:Nat),n < N→∀(cs:List Value)(xs:List (DataW H×List MemPlace)),cs.length=tot→
 xs.length=fs.length→(∀(i:Nat)(f:Field),fs[i]? = some f→DataW.trod enc P W base (fun _=>true) held n f.type ((cs.drop f.offset).take (P.cellsOf f.type))=xs[i]?)→(∀ k∈DataW.weightsEach P (fs.map (·.type)) (xs.map (·.1)),k≤reachBytes)→∃ a:α,bj (ll W) [] (cells a) (cs.drop o)∧Ok a
variable {enc P W} {α β:Type} {N:Nat} {t:TypeId}
theorem Rd.zero{cells:α→List AV}{Ok:α→Prop}:Rd enc P W 0 t cells Ok:=fun _ _ n hn=>absurd hn (by omega)
theorem Rd.le{cells:α→List AV}{Ok:α→Prop}(h:Rd enc P W N t cells Ok){M:Nat}(hm:M≤N):Rd enc P W M t cells Ok:=fun b hd n hn=>h b hd n (by omega)
theorem Rd.map{cells:α→List AV}{Ok:α→Prop}(h:Rd enc P W N t cells Ok)(g:α→β){cells':β→List AV}{Ok':β→Prop}(hc:∀ a,cells' (g a)=cells a)(ho:∀ a,Ok a→Ok' (g a)):Rd enc P W N t cells' Ok':=by
 intro b hd n hn cs x hx hw
 obtain⟨a,h1,h2⟩:=h b hd n hn cs x hx hw
 exact⟨g a,by rw[hc];exact h1,ho a h2⟩
theorem A8(ht:P.underlying t=some .bool):Rd enc P W N t (fun b:Bool=>[.bool b]) (fun _=>True):=by
 intro b hd n hn cs x hx hw
 obtain⟨b,rfl,_⟩:=DataW.trod_bool ht hx
 exact⟨b,by simp[bj,VR],trivial⟩
theorem jU{k:IntKind}(ht:P.underlying t=some (.int k)):Rd enc P W N t (fun n:Int=>[.int k n]) (fun n=>(Lit.int k n).wf=true):=by
 intro b hd n hn cs x hx hw
 obtain⟨b,rfl,_,hwf⟩:=DataW.trod_int ht hx
 exact⟨b,by simp[bj,VR],hwf⟩
theorem oX(ht:P.underlying t=some .string):Rd enc P W N t (fun s:List UInt8=>[.str s]) (fun s=>s.length≤reachBytes):=by
 intro b hd n hn cs x hx hw
 obtain⟨s,rfl,rfl,_⟩:=DataW.trod_string ht hx
 exact⟨s.data.toList,by simp[bj,VR],hw _ (by simp[DataW.weights])⟩
def Ji(cells:α→List AV)(ev:α→AV)(sz:Nat):Prop:=∀(a:α)(S:aC)(β:List bU)(vs:List Value),bj S β (cells a) vs→vs.length=sz→∃ v,VR S β (ev a) v∧v.cells.toList=vs
theorem j0{cells:α→List AV}{ev:α→AV}{sz:Nat}(he:∀ a,ev a= .agg (cells a)):Ji cells ev sz:=fun a S β vs h hl=>⟨.agg vs.toArray,by rw[he];simp only[VR];exact⟨vs,rfl,h⟩,by simp[Value.cells]⟩
theorem wG{ev:α→AV}(ho:∀ a,aO (ev a)=true):Ji (fun a=>[ev a]) ev 1:=fun a S β vs h hl=>by
 simp only[bj] at h
 obtain⟨v,_,rfl,h,rfl⟩:=h
 exact⟨v,h,by rw[(iX (ho a) h).1]⟩
theorem ma{e:TypeId}:∀ {l:List (DataW H)} {d:DataW H},d∈l→∀ k∈d.weights P e,k∈DataW.weightsAll P e l
 | x:: l,d,hd,k,hk=>by
  simp only[DataW.weightsAll,List.mem_append]
  rcases List.mem_cons.1 hd with rfl | hd
  ·exact .inl hk
  ·exact .inr (ma hd k hk)
theorem jk{e:TypeId}{cells:α→List AV}{Ok:α→Prop}(h:Rd enc P W N e cells Ok)(ht:P.underlying t=some (.slice e)){sz by_:Nat}(hsz:P.cellsOf e=sz)(h0:0 < sz)(hby:P.bytesOf e=by_){ev:α→AV}(hev:Ji cells ev sz):
  Rd enc P W N t (fun l:List α=>[.sl (l.map ev)]) (fun l=>l.length * by_≤reachBytes∧∀ a∈l,Ok a):=by
 intro base hd n hn cs x hx hw
 rcases DataW.trod_slice ht hx with ⟨rfl,rfl⟩ | ⟨a,len,cap,elems,rest,m,rfl,rfl,rfl,hb,hle,hm,hlen,hel,hsp,_⟩
 ·exact⟨[],by simp only[bj,List.map_nil,VR];exact⟨_,_,rfl,⟨none,0,rfl,Nat.le_refl _,fun _=>rfl,fun q hq=>by cases hq⟩,rfl⟩,by simp,fun a ha=>by cases ha⟩
 obtain⟨hrl,hre⟩:=hsp rfl
 rw[hsz] at hel hre
 simp only[DataW.weights,ht,List.mem_cons,List.mem_append,hby] at hw
 have hspot:0 < cap→a.spot=none:=by
  intro hc
  have:∃ y,(W.cells? base (a.add 0) sz).bind (DataW.trod enc P W base (fun _=>true) hd m e)=some y:=by
   by_cases h1:0 < len
   ·have:=hel 0 h1
    rw[List.getElem?_eq_getElem (by omega)] at this
    exact⟨_,by simpa using this⟩
   ·have:=hre 0 (by omega)
    rw[List.getElem?_eq_getElem (by omega)] at this
    obtain rfl:len=0:=by omega
    exact⟨_,by simpa using this⟩
  obtain⟨y,hy⟩:=this
  obtain⟨cs,hcs,_⟩:=Option.bind_eq_some_iff.1 hy
  obtain⟨_,hl,hc⟩:=World.cells?_some hcs
  have h2:=hc 0 h0
  rw[List.getElem?_eq_getElem (by omega)] at h2
  have h3:=World.cell?_spot h2
  have e:(a.add 0).add 0=a:=by unfold Addr.add;simp
  rwa [e] at h3
 have hx:∀ i,i < len→∃ y:α,(∃ v,VR (ll W) [] (ev y) v∧v.cells.size=sz∧fZ (ll W) a.block (a.off + i * sz) v.cells.toList)∧Ok y:=by
  intro i hi
  have h1:=hel i hi
  rw[List.getElem?_eq_getElem (by omega)] at h1
  obtain⟨cs,hcs,htr⟩:=Option.bind_eq_some_iff.1 h1
  obtain⟨y,hy,hok⟩:=h base hd m (by omega) cs _ htr (fun k hk=>hw k (.inr (.inl (ma (List.mem_map.2 ⟨_,List.getElem_mem _,rfl⟩) k hk))))
  obtain⟨_,hl,hc⟩:=World.cells?_some hcs
  obtain⟨v,hv,hvc⟩:=hev y _ _ cs hy hl
  refine⟨y,⟨v,hv,by rw[← Array.length_toList,hvc,hl],fun j u hj=>?_⟩,hok⟩
  rw[hvc] at hj
  have hjl:j < sz:=by
   rcases Nat.lt_or_ge j cs.length with h | h
   ·omega
   ·rw[List.getElem?_eq_none h] at hj;cases hj
  have h2:=hc j hjl
  rw[hj] at h2
  unfold ll
  have hs:=hspot (by omega)
  have e:(a.add (i * sz)).add j=⟨a.block,a.off + i * sz + j,none⟩:=by
   obtain⟨b,o,s⟩:=a
   simp only at hs
   subst hs
   rw[add_plain,add_plain]
  rw[← e]
  exact h2
 obtain⟨l,hl1,hl2⟩:=AR (fun i y=>(∃ v,VR (ll W) [] (ev y) v∧v.cells.size=sz∧fZ (ll W) a.block (a.off + i * sz) v.cells.toList)∧Ok y) len hx
 refine⟨l,?_,?_,fun y hy=>?_⟩
 ·simp only[bj,VR,List.length_map]
  refine⟨_,_,rfl,⟨some a,cap,by rw[hl1],by omega,(fun e=>by cases e),fun q hq=>?_⟩,rfl⟩
  cases hq
  refine⟨hspot,sz,.of_get fun i e he=>?_⟩
  rw[List.getElem?_map,Option.map_eq_some_iff] at he
  obtain⟨y,hy,rfl⟩:=he
  exact (hl2 i y hy).1
 ·have:=hw _ (.inl rfl)
  simp only[List.length_map] at this
  have h3:=Nat.mul_le_mul_right by_ (show l.length≤elems.length + rest.length by omega)
  omega
 ·obtain⟨i,hi,e⟩:=List.getElem_of_mem hy
  exact (hl2 i y (by rw[List.getElem?_eq_getElem hi,e])).2
theorem jj{tot:Nat}:GU enc P W N tot tot [] (fun _:Unit=>[]) (fun _=>True):=fun base hd n hn cs xs hl _ _ _=>⟨(),by simp[bj,← hl],trivial⟩
theorem bk{tot o k:Nat}{f:Field}{fs:List Field}{c1:α→List AV}{Ok1:α→Prop}{c2:β→List AV}{Ok2:β→Prop}(h1:Rd enc P W N f.type c1 Ok1)(ho:f.offset=o)(hk:P.cellsOf f.type=k)(h2:GU enc P W N tot (o + k) fs c2 Ok2):
  GU enc P W N tot o (f:: fs) (fun x:α×β=>c1 x.1++c2 x.2) (fun x=>Ok1 x.1∧Ok2 x.2):=by
 intro base hd n hn cs xs hl hx hf hw
 match xs,hx with
 | x:: xs,hx=>
  have hf0:=hf 0 f rfl
  rw[ho,hk] at hf0
  simp only[List.map_cons,DataW.weightsEach,List.mem_append] at hw
  obtain⟨a,ha,oa⟩:=h1 base hd n hn _ x hf0 fun k hk=>hw k (.inl hk)
  obtain⟨b,hb,ob⟩:=h2 base hd n hn cs xs hl (by simpa using hx) (fun i g hg=>by simpa using hf (i + 1) g (by simpa using hg)) fun k hk=>hw k (.inr hk)
  refine⟨(a,b),?_,oa,ob⟩
  have:=ha.append hb
  rwa [← List.drop_drop,List.take_append_drop] at this
theorem gP{fs:Array Field}{tot:Nat}{cells:α→List AV}{Ok:α→Prop}(ht:P.underlying t=some (.struct fs))(hc:P.cellsOf t=tot)(h:GU enc P W N tot 0 fs.toList cells Ok):Rd enc P W (N + 1) t cells Ok:=by
 intro base hd n hn cs x hx hw
 obtain⟨xs,m,rfl,rfl,hl,hxs,hf⟩:=DataW.trod_struct ht hx
 simp only[DataW.weights,ht] at hw
 obtain⟨a,h1,h2⟩:=h base hd m (by omega) cs xs (by rw[hl,hc]) (by simpa using hxs) (fun i f hi=>hf i f (by simpa using hi)) hw
 exact⟨a,by simpa using h1,h2⟩
theorem Kk{cells:α→List AV}{Ok:α→Prop}(h:∀ N,Rd enc P W N t cells Ok){base:Nat}{held:Bool}{v:Value}{d:DataW H}{p:List MemPlace}(hd:DataW.Trod enc P W base (fun _=>true) held t v d p)(hw:∀ k∈d.weights P t,k≤reachBytes):
  ∃ a:α,bj (ll W) [] (cells a) v.cells.toList∧Ok a:=by
 obtain⟨n,hn⟩:=hd
 exact h (n + 1) base held n (by omega) _ _ hn hw
theorem A7{f:α→AV}{Ok:α→Prop}(h:∀ N,Rd enc P W N t (fun a=>[f a]) Ok){base:Nat}{held:Bool}{v:Value}{d:DataW H}{p:List MemPlace}(hv:v.cells.toList=[v])(hd:DataW.Trod enc P W base (fun _=>true) held t v d p)(hw:∀ k∈d.weights P t,k≤reachBytes):
  ∃ a:α,VR (ll W) [] (f a) v∧Ok a:=by
 obtain⟨a,h1,h2⟩:=Kk h hd hw
 rw[hv] at h1
 simp only[bj] at h1
 obtain⟨y,ys,e,h1,rfl⟩:=h1
 cases e
 exact⟨a,h1,h2⟩
theorem ot{e:TypeId}{r:Reach}{b0:Nat}{f:α→AV}{Ok:α→Prop}(h:∀ N,Rd enc P W N t (fun a=>[f a]) Ok)(ht:P.underlying t=some (.slice e)){base:Nat}{held:Bool}{v:Value}{d:DataW H}{p:List MemPlace} (hok:Value.okWide P W r b0 t v)
  (hd:DataW.Trod enc P W base (fun _=>true) held t v d p) (hw:∀ k∈d.weights P t,k≤reachBytes):∃ a:α,VR (ll W) [] (f a) v∧Ok a:=by
 obtain⟨a,len,cap,rfl⟩:=okWide_slice ht hok
 exact A7 h rfl hd hw
theorem uz{k:IntKind}{r:Reach}{b0:Nat}{f:α→AV}{Ok:α→Prop}(h:∀ N,Rd enc P W N t (fun a=>[f a]) Ok)(ht:P.underlying t=some (.int k)){base:Nat}{held:Bool}{v:Value}{d:DataW H}{p:List MemPlace} (hok:Value.okWide P W r b0 t v)
  (hd:DataW.Trod enc P W base (fun _=>true) held t v d p) (hw:∀ k∈d.weights P t,k≤reachBytes):∃ a:α,VR (ll W) [] (f a) v∧Ok a:=by
 obtain⟨a,rfl⟩:=okWide_int ht hok
 exact A7 h rfl hd hw
theorem gF{ts:List TypeId}{ds:List (DataW H)}(h:(DataW.weightsEach P ts ds).all (· ≤reachBytes)=true){j:Nat}{u:TypeId}{d:DataW H}(ht:ts[j]? = some u)(hd:ds[j]? = some d):∀ k∈d.weights P u,k≤reachBytes:=fun k hk=>by
 have:=List.all_eq_true.1 h _ (DataW.weights_mem_each ht hd k hk)
 simpa using this
end
end Go.Av
namespace Go.Av.Ap
open Go Go.Av
def fK(e:Exp):Exp×Int:=
 if e.op=0∨e.op=1 then (.mk e.op e.n [] [] [] e.args,0)
 else if e.op=2∨e.op=17 then (.mk e.op 0 e.s [] [] e.args,0)
 else if e.op=18∨e.op=14 then (.mk e.op 0 e.s [] [] e.args,1)
 else if e.op=16 then (.mk e.op e.n [] [] [] e.args,1)
 else if e.op=10 then (.mk e.op 0 [] [] [] e.args,1)
 else if e.op=12 then (.mk e.op 0 e.s [] [] e.args,2)
 else if e.op=11 then (.mk e.op 0 [] [] [] e.args,3)
 else if e.op=13 then (.mk e.op 0 [] [] e.names e.args,e.names.length)
 else if e.op=15 then (.mk e.op 0 e.s e.m [] e.args,-1)
 else (.mk e.op 0 [] [] [] e.args,2)
def rI(l:List aU):Bool:=(l.all de&&kC eI l)&&decide (l.length≤8)
def fU(e:Exp):Bool:=
 if e.op=0 then decide (0≤e.n)&&decide (e.n≤1099511627776)
 else if e.op=1 then e.n== 0||e.n== 1
 else if e.op=16 then ((e.n== 1||e.n== 2)||e.n== 4)||e.n== 8
 else if e.op=2∨e.op=17∨e.op=18∨e.op=14∨e.op=12 then de e.s
 else if e.op=15 then de e.s&&(e.m== []||de e.m)&&decide (e.args.length≤6)
 else if e.op=13 then rI e.names
 else true
def l9(e:Exp):Bool:=
 decide (0≤e.op)&&decide (e.op < 19)&&(decide ((fK e).2 < 0)||((fK e).2== (e.args.length:Int)))&&((fK e).1.n== e.n)&&((fK e).1.s== e.s)&&((fK e).1.m== e.m)&&(((fK e).1.names.length:Int)== (e.names.length:Int))&&fU e
def cH:Nat→Exp→Bool
 | 0,_=>false
 | d + 1,e=>l9 e&&e.args.all (cH d)
theorem l8(d:Nat)(e:Exp):cH (d + 1) e=(l9 e&&e.args.all (cH d)):=rfl
def nV(a b:Int):Int:=IntKind.i64.wrap (BitVec.ofInt 64 a ||| BitVec.ofInt 64 b).toNat
mutual
def sk:Ty→Ty→Option Ty
 | .mk k fs,b=>if k=b.kind then some (.mk k (lp fs b.fields)) else none
def lp:List (aU×Ty)→List bP→List bP
 | [],_=>[]
 | f:: fs,l=>(match Je f l with | some x=>[x] | none=>[])++lp fs l
def Je:aU×Ty→List bP→Option bP
 | (n,t),l=>match bQ (fun z=>z.1== n) l with
  | some z=>(match sk t z.2 with | some u=>some (n,u) | none=>none)
  | none=>none
end
def jt(k:Int)(l:List Ty):Bool:=l.all fun t=>t.kind== k
def bO(e:Exp)(l:List Ty):Option Ty:=
 if e.op=3∨e.op=4∨e.op=5∨e.op=16 then (if jt 0 l=true then some (.mk 0 []) else none)
 else if e.op=1 then some (.mk 1 [])
 else if e.op=6 then (if jt 0 l=true then some (.mk 1 []) else none)
 else if e.op=7 then (if (jt 0 l||jt 1 l)=true then some (.mk 1 []) else none)
 else if e.op=8∨e.op=9∨e.op=10 then (if jt 1 l=true then some (.mk 1 []) else none)
 else if e.op=11 then (match sk l[1]! l[2]! with | some t=>if l[0]!.kind=1 then some t else none | none=>none)
 else if e.op=13 then some (.mk 2 (e.names.zip l))
 else if e.op=14 then (match bQ (fun z=>z.1== e.s) l[0]!.fields with | some z=>some z.2 | none=>none)
 else some (.mk 0 [])
inductive Tr (α:Type) where
 | ok (a:α) (n:Int)
 | er (e n:Int)
abbrev dI(α:Type):=Int→Tr α
def dI.ok{α:Type}(a:α):dI α:=fun n=>.ok a n
def dI.er{α:Type}(e:Int):dI α:=fun n=>.er e n
def dI.bind{α β:Type}(x:dI α)(f:α→dI β):dI β:=fun n=>match x n with
 | .ok a n'=>f a n'
 | .er e n'=>.er e n'
structure Tcx where
 vars:List bP
 funcs:List Fun
 uses:List aU
 faces:aU→Option Face
def cY(c:Tcx)(e:Exp):Option (List Ty×Ty×Int):=
 if e.m=[] then (match c.funcs.find? fun f=>f.name== e.s with
  | some f=>some (f.params.map (·.2),f.result,f.effects)
  | none=>none)
 else match c.faces e.m with
  | none=>none
  | some f=>match f.funcs.find? (fun s=>s.name== e.s) with
   | none=>none
   | some s=>if e.m∈c.uses then some (s.params,s.result,s.effects) else none
def dm(r:Exp→dI Ty):List Exp→dI (List Ty)
 | []=>.ok []
 | e:: es=>.bind (r e) fun t=>.bind (dm r es) fun ts=>.ok (t:: ts)
def cr(c:Tcx)(r:List bP→Exp→dI Ty)(ls:List bP)(e:Exp):dI Ty:=
 if e.op=2 then (match bQ (fun z=>z.1== e.s) ls with | some z=>.ok z.2 | none=>.er 12)
 else if e.op=12 then .bind (r ls e.args[0]!) fun t=>r (ls++[(e.s,t)]) e.args[1]!
 else if e.op=17∨e.op=18 then (match bQ (fun z=>z.1== e.s) c.vars with
  | none=>.er 12
  | some z=>if e.op=18 then .bind (r ls e.args[0]!) fun u=>if bR u z.2=true then .ok z.2 else .er 13 else .ok z.2)
 else if e.op=15 then (match cY c e with
  | none=>.er 12
  | some s=>if s.1.length=e.args.length then .bind (dm (r ls) e.args) fun l=>if iz bR l s.1=true then fun n=>.ok s.2.1 (nV n s.2.2) else .er 13 else .er 13)
 else .bind (dm (r ls) e.args) fun l n=>match bO e l with
  | some t=>.ok t (if e.op=16 then nV n e.n else n)
  | none=>.er 13 (if e.op=16 then nV n e.n else n)
def bI(c:Tcx):Nat→List bP→Exp→dI Ty
 | 0=>fun _ _=>.er 16
 | d + 1=>cr c (bI c d)
def p9:Tcx:=⟨[],[],[],fun _=>none⟩
def dz(ls:List bP)(e:Exp)(want:Ty):Int:=match bI p9 12 ls e 0 with
 | .er b _=>b
 | .ok t n=>if n≠0 then 14 else if bR t want=true then 0 else 13
def cj:List (aU×Int)→aU×Int
 | []=>([],0)
 | x:: l=>if x.2=0 then cj l else x
def ff(ls:List bP)(vs:List bP)(es:List Exp):List (aU×Int):=(vs.zip es).map fun x=>(x.1.1,dz ls x.2 x.1.2)
def jR(m:Mod):aU×Int:=cj (ff [] m.vars m.init++if m.moves=true then ff m.old m.vars m.forward++ff m.vars m.old m.back else [])
def CY(c:Tcx)(f:Fun):Int:=match bI c 12 f.params f.body 0 with
 | .er b _=>b
 | .ok t n=>if bR t f.result=true then (if ee n f.effects=0 then 0 else 14) else 13
def iB(f:Face):Bool:=f.funcs.all fun s=>bN s.result&&s.params.all bN
def CV{α:Type}(x:dI α):Prop:=∀ n b n',x n= .er b n'→b≠0
theorem xA{α:Type}(a:α):CV (.ok a):=fun n b n' h=>by cases h
theorem rJ{α:Type}{e:Int}(h:e≠0):CV (α:=α) (.er e):=fun n b n' h'=>by cases h';exact h
theorem mn{α β:Type}{x:dI α}{f:α→dI β}(hx:CV x)(hf:∀ a,CV (f a)):CV (.bind x f):=fun n b n' h=>by
 unfold dI.bind at h
 split at h
 ·exact hf _ _ _ _ h
 ·rename_i e' m hm
  cases h
  exact hx _ _ _ hm
theorem lR{α:Type}{c:Prop}[Decidable c]{x y:dI α}(h1:CV x)(h2:CV y):CV (if c then x else y):=by
 split
 ·exact h1
 ·exact h2
theorem nO{r:Exp→dI Ty}(h:∀ e,CV (r e)):∀ l,CV (dm r l)
 | []=>xA _
 | e:: l=>mn (h e) fun _=>mn (nO h l) fun _=>xA _
theorem g9(c:Tcx):∀(d:Nat)(ls:List bP)(e:Exp),CV (bI c d ls e)
 | 0,_,_=>rJ (by decide)
 | d + 1,ls,e=>by
  have H:=g9 c d
  show CV (cr c (bI c d) ls e)
  unfold cr
  refine lR ?_ (lR ?_ (lR ?_ (lR ?_ ?_)))
  ·split
   ·exact xA _
   ·exact rJ (by decide)
  ·exact mn (H _ _) fun _=>H _ _
  ·split
   ·exact rJ (by decide)
   ·exact lR (mn (H _ _) fun _=>lR (xA _) (rJ (by decide))) (xA _)
  ·split
   ·exact rJ (by decide)
   ·exact lR (mn (nO (H _) _) fun _=>lR (fun n b n' h=>by cases h) (rJ (by decide))) (rJ (by decide))
  ·refine mn (nO (H _) _) fun l n b n' h=>?_
   split at h
   ·cases h
   ·cases h;decide
theorem Ac{c:Tcx}{r:List bP→Exp→dI Ty}{ls:List bP}{e:Exp}(h:e.op=12):cr c r ls e= .bind (r ls e.args[0]!) fun t=>r (ls++[(e.s,t)]) e.args[1]!:=by
 unfold cr;rw[if_neg (by omega),if_pos h]
theorem Ad{c:Tcx}{r:List bP→Exp→dI Ty}{ls:List bP}{e:Exp}(h:e.op=2):cr c r ls e=(match bQ (fun z=>z.1== e.s) ls with | some z=>.ok z.2 | none=>.er 12):=by
 unfold cr;rw[if_pos h]
theorem Ab{c:Tcx}{r:List bP→Exp→dI Ty}{ls:List bP}{e:Exp}(h:e.op=17∨e.op=18):cr c r ls e=(match bQ (fun z=>z.1== e.s) c.vars with
  | none=>.er 12
  | some z=>if e.op=18 then .bind (r ls e.args[0]!) fun u=>if bR u z.2=true then .ok z.2 else .er 13 else .ok z.2):=by
 unfold cr;rw[if_neg (by omega),if_neg (by omega),if_pos h]
theorem yc{c:Tcx}{r:List bP→Exp→dI Ty}{ls:List bP}{e:Exp}(h:e.op=15):cr c r ls e=(match cY c e with
  | none=>.er 12
  | some s=>if s.1.length=e.args.length then .bind (dm (r ls) e.args) fun l=>if iz bR l s.1=true then fun n=>.ok s.2.1 (nV n s.2.2) else .er 13 else .er 13):=by
 unfold cr;rw[if_neg (by omega),if_neg (by omega),if_neg (by omega),if_pos h]
def pQ(e:Exp)(l:List Ty):dI Ty:=fun n=>match bO e l with
 | some t=>.ok t (if e.op=16 then nV n e.n else n)
 | none=>.er 13 (if e.op=16 then nV n e.n else n)
theorem rV{e:Exp}{l:List Ty}{t:Ty}(h:bO e l=some t)(n:Int):pQ e l n= .ok t (if e.op=16 then nV n e.n else n):=by
 unfold pQ;rw[h]
theorem rU{e:Exp}{l:List Ty}(h:bO e l=none)(n:Int):pQ e l n= .er 13 (if e.op=16 then nV n e.n else n):=by
 unfold pQ;rw[h]
theorem yd{c:Tcx}{r:List bP→Exp→dI Ty}{ls:List bP}{e:Exp}(h1:¬ e.op=2)(h2:¬ e.op=12)(h3:¬ (e.op=17∨e.op=18))(h4:¬ e.op=15):cr c r ls e= .bind (dm (r ls) e.args) (pQ e):=by
 unfold cr;rw[if_neg h1,if_neg h2,if_neg h3,if_neg h4];rfl
def findR(p:List Mod)(r:yx):Option Fun:=match p.find? (fun m=>m.name== r.1) with
 | some m=>m.funcs.find? fun f=>f.name== r.2
 | none=>none
mutual
def Kb:Exp→List Exp
 | .mk o n s m ns es=>.mk o n s m ns es:: A0 es
def A0:List Exp→List Exp
 | []=>[]
 | e:: es=>Kb e++A0 es
end
def Mf(f:yx)(e:Exp):yx:=(if e.m=[] then f.1 else e.m,e.s)
end Go.Av.Ap
namespace Go.Av
open Go
section
variable {F:Fence} {n:Nat} {P:Program} {w w':World} {ops:Array Oper} {rest:List Oper} {o:Oper} {a:Act} {Q:Exit→Act→World→Prop} {v:Value}
end
end Go.Av
namespace Go.Av.Ap
open Go Go.Av
theorem mY{T:TT}{t:Nat}{ti:TI}(ht:T t=some ti)(ha:ti.agg=false){h:Hp}{l k:Nat}{cs:List AV}{v:AV}(h0:h[l]? = some cs)(h1:cs[k]? = some v):aR T t (.hp l k) h= .ok v h:=by
 simp[aR,ht,h0,ha,h1]
theorem FB{T:TT}{t:Nat}{ti:TI}(ht:T t=some ti)(ha:ti.agg=true){h:Hp}{l k:Nat}{cs:List AV}(h0:h[l]? = some cs)(hle:k + ti.size≤cs.length):aR T t (.hp l k) h= .ok (.agg ((cs.drop k).take ti.size)) h:=by
 simp[aR,ht,h0,ha,hle]
theorem vI{T:TT}{t:Nat}{ti:TI}(ht:T t=some ti){h:Hp}{l k:Nat}{cs:List AV}{v:AV}(h0:h[l]? = some cs)(hv:cm ti.size v=true)(hle:k + ti.size≤cs.length)(hp:0 < ti.size):
  bo T t (.hp l k) v h= .ok (.tup []) (h.set l (setCells cs k (ab v))):=by
 simp[bo,ht,h0,hv,hle,hp]
theorem IV{T:TT}{t e:Nat}{ti ei:TI}(ht:T t=some ti)(hk:ti.kind= .slice e)(he:T e=some ei){x:AV}(hx:cm ei.size x=true)(hb:0 < ei.bytes)(hs:0 < ei.size)(hc:ei.bytes≤140737488355328)(h:Hp):
  appH T t false .hn (.sl [x]) h= .ok (.hs h.length 0 1 ei.size ei.agg) (h++[ab x]):=by
 have:db ei.size [x]=true:=by simp[db,hx]
 simp[appH,ht,hk,he,gu,this,hb,hs,jq,hc]
theorem IX{T:TT}{t e:Nat}{ti ei:TI}(ht:T t=some ti)(hk:ti.kind= .slice e)(he:T e=some ei){x:AV}(hx:cm ei.size x=true)(hb:0 < ei.bytes)(hs:0 < ei.size){h:Hp}{q n:Nat}{cs:List AV}(h0:h[q]? = some cs) (hok:cs.all aO=true)
  (hl:cs.length=n * ei.size) (hn:0 < n) (hc:(n + 1) * ei.bytes≤140737488355328):appH T t false (.hs q 0 n ei.size ei.agg) (.sl [x]) h= .ok (.hs h.length 0 (n + 1) ei.size ei.agg) ((h.set q [])++[cs++ab x]):=by
 have h1:db ei.size [x]=true:=by simp[db,hx]
 have h2:List.all cs aO=true:=hok
 have h3:0 < n * ei.size:=Nat.mul_pos hn hs
 have h4:cs.take (n * ei.size)=cs:=by rw[← hl];exact List.take_length
 simp only[appH,ht,hk,he,gu,h1,hb,hs,jq,h0,h2,hl,decide_true,Bool.and_self,cond_true,beq_self_eq_true,List.length_singleton,List.isEmpty_cons,cond_false,List.flatMap_cons,List.flatMap_nil,List.append_nil,h3,h4,Nat.le_refl]
 rw[decide_eq_true hc]
 simp
abbrev A9(e:Exp):Bool:=cH 12 e
def xE:List aU→List bP→Bool
 | _,[]=>true
 | seen,f:: l=>!(seen.contains f.1)&&de f.1&&bN f.2&&xE (seen++[f.1]) l
def gl(l:List bP)(most:Int):Bool:=xE [] l&&decide ((l.length:Int)≤most)
def B9(f:Fun):Bool:=de f.name&&gl f.params 6&&bN f.result&&A9 f.body&&(ee f.effects 15== 0)
def pL:List aU→List Fun→Bool
 | _,[]=>true
 | seen,f:: l=>!(seen.contains f.name)&&B9 f&&pL (seen++[f.name]) l
def FV:List aU→List aU→Bool
 | _,[]=>true
 | seen,s:: l=>!(seen.contains s)&&de s&&FV (seen++[s]) l
def tZ(m:Mod):Bool:=de m.name&&decide (m.uses.length≤12)&&decide (m.funcs.length≤30)&&gl m.vars 8&&(m.init.all A9&&((m.init.length:Int)== m.vars.length))&&(m.moves||decide (m.old.length=0)) &&
 (gl m.old 8&&(m.forward.all A9&&((m.forward.length:Int)== (if m.moves=true then (m.vars.length:Int) else 0)))&&(m.back.all A9&&((m.back.length:Int)== m.old.length)))
def jm(m:Mod):Bool:=FV [] m.uses&&(pL [] m.funcs&&tZ m)
theorem nR:(l:List bP)→(seen:List aU)→xE seen l=true→(∀ f∈l,de f.1=true∧bN f.2=true∧f.1 ∉ seen)∧(l.map (·.1)).Nodup
 | [],seen,_=>⟨fun f h=>(by cases h),List.nodup_nil⟩
 | f:: l,seen,h=>by
  simp only[xE,Bool.and_eq_true,Bool.not_eq_true'] at h
  obtain⟨⟨⟨h1,h2⟩,h3⟩,h4⟩:=h
  obtain⟨i1,i2⟩:=nR l _ h4
  have h1':f.1 ∉ seen:=fun hm=>by rw[List.contains_iff_mem.2 hm] at h1;cases h1
  refine⟨fun g hg=>?_,?_⟩
  ·rcases List.mem_cons.1 hg with rfl | hg
   ·exact⟨h2,h3,h1'⟩
   ·obtain⟨j1,j2,j3⟩:=i1 g hg
    exact⟨j1,j2,fun hm=>j3 (List.mem_append_left _ hm)⟩
  ·rw[List.map_cons,List.nodup_cons]
   refine⟨fun hm=>?_,i2⟩
   obtain⟨g,hg,e⟩:=List.mem_map.1 hm
   exact (i1 g hg).2.2 (List.mem_append_right _ (by rw[e];simp))
theorem tW:(l:List Fun)→(seen:List aU)→pL seen l=true→(∀ f∈l,B9 f=true∧f.name ∉ seen)∧(l.map (·.name)).Nodup
 | [],seen,_=>⟨fun f h=>(by cases h),List.nodup_nil⟩
 | f:: l,seen,h=>by
  simp only[pL,Bool.and_eq_true,Bool.not_eq_true'] at h
  obtain⟨⟨h1,h2⟩,h4⟩:=h
  obtain⟨i1,i2⟩:=tW l _ h4
  have h1':f.name ∉ seen:=fun hm=>by rw[List.contains_iff_mem.2 hm] at h1;cases h1
  refine⟨fun g hg=>?_,?_⟩
  ·rcases List.mem_cons.1 hg with rfl | hg
   ·exact⟨h2,h1'⟩
   ·obtain⟨j1,j3⟩:=i1 g hg
    exact⟨j1,fun hm=>j3 (List.mem_append_left _ hm)⟩
  ·rw[List.map_cons,List.nodup_cons]
   refine⟨fun hm=>?_,i2⟩
   obtain⟨g,hg,e⟩:=List.mem_map.1 hm
   exact (i1 g hg).2 (List.mem_append_right _ (by rw[e];simp))
structure FunOk (f:Fun):Prop where
 name:de f.name=true
 plen:f.params.length≤6
 pars:∀ z∈f.params,bN z.2=true
 pnames:(f.params.map (·.1)).Nodup
 res:bN f.result=true
 body:cH 12 f.body=true
 eff:ee f.effects 15=0
theorem JY{f:Fun}(h:B9 f=true):FunOk f:=by
 unfold B9 gl at h
 simp only[Bool.and_eq_true,decide_eq_true_eq,beq_iff_eq] at h
 obtain⟨⟨⟨⟨h1,h2,h3⟩,h4⟩,h5⟩,h6⟩:=h
 obtain⟨i1,i2⟩:=nR _ _ h2
 exact⟨h1,by omega,fun z hz=>(i1 z hz).2.1,i2,h4,h5,h6⟩
structure ModOk (m:Mod):Prop where
 name:de m.name=true
 ulen:m.uses.length≤12
 flen:m.funcs.length≤30
 fns:∀ f∈m.funcs,FunOk f
 fnames:(m.funcs.map (·.name)).Nodup
 vlen:m.vars.length≤8
 vars:∀ z∈m.vars,bN z.2=true
 vnames:(m.vars.map (·.1)).Nodup
 ilen:m.init.length=m.vars.length
 init:∀ e∈m.init,cH 12 e=true
 olen:m.old.length≤8
 old:∀ z∈m.old,bN z.2=true
 wlen:m.moves=true→m.forward.length=m.vars.length
 forw:∀ e∈m.forward,cH 12 e=true
 blen:m.back.length=m.old.length
 back:∀ e∈m.back,cH 12 e=true
theorem jQ{m:Mod}(h:jm m=true):ModOk m:=by
 unfold jm tZ gl at h
 simp only[Bool.and_eq_true,decide_eq_true_eq,beq_iff_eq,List.all_eq_true,Bool.or_eq_true] at h
 obtain⟨h1,h2,⟨⟨⟨⟨⟨h3,h4⟩,h5⟩,h6,h7⟩,h8,h9⟩,h10⟩,⟨⟨h11,h12⟩,h13,h14⟩,h15,h16⟩:=h
 obtain⟨f1,f2⟩:=tW _ _ h2
 obtain⟨v1,v2⟩:=nR _ _ h6
 obtain⟨o1,_⟩:=nR _ _ h11
 exact⟨h3,h4,h5,fun f hf=>JY (f1 f hf).1,f2,by omega,fun z hz=>(v1 z hz).2.1,v2,by omega,h8,by omega,fun z hz=>(o1 z hz).2.1,fun hm=>by rw[if_pos hm] at h14;omega,h13,by omega,h15⟩
end Go.Av.Ap
