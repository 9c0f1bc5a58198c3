/- The abstract evaluator of the model and plain laws, part 3: its soundness holds for every program whose table of types is the evaluator's. No further condition. -/
import Derived.Test.YtihmmkncokjbaaaGreatDoorLb
import Derived.KernelRfl
import Derived.Below
import Derived.Lib.IndexMore
import Derived.Lib.Fields
import Derived.Lib.AtoiAll
import Derived.Lib.SplitLaws
import Derived.IntWalk
import Derived.Shelf.SlSortCmp.WholeK
import Derived.Lib.Bytealg
import Derived.ChangeSame
import Derived.OpenShut
import Derived.ChangeReads
import Derived.ReadAgain
import Derived.Deep.Slices
import Derived.WideShapes
import Derived.SizedLaws
set_option linter.defProp false
set_option linter.unusedSimpArgs false
set_option linter.unusedVariables false
namespace Go.Av
variable [Dr]
structure EqE (e e':Env):Prop where
 get:∀t,e'.get t=e.get t
 al:∀g,aP e'.al g=aP e.al g
 lb:∀B,bJ e'.lb B=bJ e.lb B
 lf:∀B,bh e'.sl B=bh e.sl B
omit [Dr]in
theorem EqE.refl(e:Env):EqE e e:=⟨fun _=>rfl,fun _=>rfl,fun _=>rfl,fun _=>rfl⟩
omit [Dr]in
theorem EqE.symm{e e':Env}(h:EqE e e'):EqE e' e:=⟨fun t=>(h.get t).symm,fun t=>(h.al t).symm,fun t=>(h.lb t).symm,fun t=>(h.lf t).symm⟩
omit [Dr]in
theorem EqE.trans{a b c:Env}(h:EqE a b)(g:EqE b c):EqE a c:=
 ⟨fun t=>(g.get t).trans (h.get t),fun t=>(g.al t).trans (h.al t),fun t=>(g.lb t).trans (h.lb t),fun t=>(g.lf t).trans (h.lf t)⟩
def RE:R Env->R Env->Prop
 |.fail,_=>True
 |.ok e h,r=>∃e',r= .ok e' h/\EqE e e'
 |.pan v h,r=>r= .pan v h
omit [Dr]in
theorem RE.refl(r:R Env):RE r r:=by
 cases r with
 |ok e h=>exact⟨e,rfl,.refl e⟩
 |pan v h=>exact rfl
 |fail=>trivial
omit [Dr]in
theorem RE.trans{a b c:R Env}(h:RE a b)(g:RE b c):RE a c:=by
 cases a with
 |ok e x=>
  obtain⟨e',rfl,h⟩:=h;obtain⟨e2,rfl,g⟩:=g;exact⟨e2,rfl,h.trans g⟩
 |pan v x=>cases h;exact g
 |fail=>trivial
omit [Dr]in
theorem jN(l r:List (Nat×Ent))(t:Nat):cg (l++r) t=if(∃x∈l,x.1=t)then cg l t else cg r t:=by
 induction l with
 |nil=>simp
 | cons x l ih=>
  obtain⟨k,y⟩:=x;rw[Qb,cE,cE];by_cases hk:k=t
  ·subst hk;simp
  ·rw[if_neg hk,if_neg hk,ih];have:(∃x∈(k,y):: l,x.1=t)↔(∃x∈l,x.1=t):=by
    simp only[P0,exists_eq_or_imp];constructor
    ·rintro (h|h)
     ·exact absurd h hk
     ·exact h
    ·exact .inr
   simp only[this]
omit [Dr]in
theorem ra{l:List (Nat×Ent)}(r:List (Nat×Ent)){t:Nat}(h:∀x∈l,x.1≠t):cg (l++r) t=cg r t:=by
 rw[jN,if_neg];rintro⟨x,hx,ht⟩;exact h x hx ht
omit [Dr]in
theorem jO(d:Option Tmp)(x:Ent)(r:List (Nat×Ent))(t:Nat):cg (r4 d x r) t=if d=some t then x else cg r t:=by
 cases d with
 |none=>simp[r4]
 |some s=>simp only[r4,cE,Pn]
omit [Dr]in
theorem pk{l r s:List (Nat×Ent)}{t:Nat}(h:cg r t=cg s t):cg (l++r) t=cg (l++s) t:=by
 rw[jN,jN,h]
omit [Dr]in
theorem gZ(l r:List (Nat×Ent))(B:Nat):bh (l++r) B=(bh l B&&bh r B):=by
 unfold bh;rw[List.all_append]
def mZ(x:Ent)(B:Nat):Bool:=match x.v with
 |.loc C _=>!(Nat.beq C B)
 |.val _=>true
omit [Dr]in
theorem eO(d:Option Tmp)(x:Ent)(r:List (Nat×Ent))(B:Nat):bh (r4 d x r) B=((d.isNone||mZ x B)&&bh r B):=by
 cases d with
 |none=>simp[r4]
 |some t=>rfl
omit [Dr]in
theorem nv{l:List (Nat×Ent)}{B t C off:Nat}(h:bh l B=true)(ht:(cg l t).v= .loc C off):C≠B:=by
 induction l with
 |nil=>simp[cg,Ent.none]at ht
 | cons x l ih=>
  obtain⟨k,y⟩:=x;rw[cE]at ht;simp only[bh,P5,Po]at h;split at ht
  ·rw[ht]at h;have h1:=h.1;simp only[Qr]at h1;intro hc;rw[hc,Sp]at h1;cases h1
  ·exact ih (by unfold bh;exact h.2) ht
omit [Dr]in
theorem eL(l r:List (Nat×Option Nat))(g:Nat):aP (l++r) g=(match aP l g with|some z=>some z|none=>aP r g):=by
 induction l with
 |nil=>rfl
 |cons x l ih=>
  obtain⟨k,y⟩:=x;rw[Qb,cm,cm];split
  ·rfl
  ·exact ih
omit [Dr]in
theorem oY{l:List (Nat×Option Nat)}{k g:Nat}(h:∀x∈l,x.1=k)(hg:g≠k):aP l g=none:=by
 induction l with
 |nil=>rfl
 | cons x l ih=>
  obtain⟨j,y⟩:=x;rw[cm,if_neg]
  ·exact ih fun x hx=>h x (by simp[hx])
  ·have:=h (j,y) (by simp)
   simp at this;omega
omit [Dr]in
theorem nu(r:List (Nat×Nat))(k B:Nat):bJ (mg r k) B=if k=B then none else bJ r B:=by
 induction r with
 |nil=>simp[mg,bJ]
 | cons x r ih=>
  obtain⟨j,y⟩:=x;simp only[mg];by_cases hj:j=k
  ·subst hj;simp only[Sp,Pq,ih,ej];split<;>rfl
  ·have:Nat.beq j k=false:=by rw[QI];intro hh;exact hj (PI hh)
   simp only[this,Py,ej,ih];by_cases hg:j=B
   ·subst hg;rw[Ps rfl,if_neg (fun h=>hj h.symm),Ps rfl]
   ·rw[if_neg hg,if_neg hg]
omit [Dr]in
theorem EqE.upd{e e':Env}(h:EqE e e')(d:Option Tmp)(u:Upd):EqE (e.upd d u) (e'.upd d u):=by
 refine⟨fun t=>?_,fun g=>?_,fun B=>?_,fun B=>?_⟩
 ·show cg (r4 d u.ent (u.ls++e'.sl)) t=cg (r4 d u.ent (u.ls++e.sl)) t;rw[jO,jO,pk (h.get t)]
 ·show aP (u.add++eI e'.al u.drop) g=aP (u.add++eI e.al u.drop) g;have:aP (eI e'.al u.drop) g=aP (eI e.al u.drop) g:=by
   cases u.drop with
   |none=>exact h.al g
   |some k=>simp only[eI,kR,h.al g]
  rw[eL,eL,this]
 ·show bJ (mz (eu e'.lb u.unlb) u.lb) B=bJ (mz (eu e.lb u.unlb) u.lb) B;have:bJ (eu e'.lb u.unlb) B=bJ (eu e.lb u.unlb) B:=by
   cases u.unlb with
   |none=>exact h.lb B
   |some k=>simp only[eu,nu,h.lb B]
  cases u.lb with
  |none=>exact this
  |some x=>
   obtain⟨k,n⟩:=x;simp only[mz,ej,this]
 ·show bh (r4 d u.ent (u.ls++e'.sl)) B=bh (r4 d u.ent (u.ls++e.sl)) B;rw[eO,eO,gZ,gZ,h.lf B]
section
variable {cx:Cx} {ops:Array Oper} {base:Nat}
def eX(ops:Array Oper)(o:Oper):List Nat:=match o.guard with
 |some (j,_)=>(match (ops[j]?).bind (·.dst)with|some t=>[t]|none=>[])
 |none=>[]
omit [Dr]in
theorem gH{i:Nat}{o:Oper}(ho:ops[i]? = some o):dl ops i=eX ops o++jv o:=by
 unfold dl eX;rw[ho];rfl
omit [Dr]in
theorem gx{e e':Env}{i:Nat}{o:Oper}(ho:ops[i]? = some o)(hg:∀t∈eX ops o,e'.get t=e.get t)(A:Agree cx o e e'){h:Hp}(hr:fm cx base ops i e h≠.fail):fm cx base ops i e' h=fm cx base ops i e h:=by
 unfold fm at hr |-;rw[ho]at hr;rw[ho];simp only at hr |-;have key:∀ {A':Act1->Act1} ,(∀h,ee (A' .bad) h= .fail)->ee (A' (fT cx e ((base+i)*1000) o)) h≠.fail->ee (A' (fT cx e' ((base+i)*1000) o)) h=ee (A' (fT cx e ((base+i)*1000) o)) h:=by
  intro A' h1 h2;rw[CI A];intro hb;rw[hb]at h2;exact h2 (h1 h)
 cases hgd:o.guard with
 |none=>
  rw[hgd]at hr;exact key (A':=id) (fun _=>rfl) hr
 | some g=>
  obtain⟨j,want⟩:=g;rw[hgd]at hr;simp only at hr |-;cases hdj:dI ops j with
  |none=>rfl
  | some t=>
   rw[hdj]at hr;simp only at hr |-;cases hpl:eZ cx o with
   |false=>rfl
   | true=>
    rw[hpl]at hr;simp only[Pq]at hr |-;have ht:e'.get t=e.get t:=hg t (by unfold eX;rw[hgd];simp only;rw[show (ops[j]?).bind (·.dst)=some t from hdj];simp);have hav:e'.av t=e.av t:=by simp only[Env.av,ht]
    rw[hav];cases hq:e.av t with
    | bool b=>
     rw[hq]at hr;simp only[kE]at hr |-;cases hb:(b== want)with
     |false=>rfl
     |true=>
      rw[hb]at hr;exact key (A':=il) (fun _=>rfl) hr
    |tup vs=>cases vs<;>rfl
    |_=>rfl
omit [Dr]in
theorem EqE.agree{e e':Env}(h:EqE e e')(o:Oper):Agree cx o e e':=
 ⟨fun t _=>h.get t,fun _=>⟨fun t _=>h.get t,h.lb⟩,fun _=>h.al,fun _ s _ hl=>by rw[h.lf];exact hl⟩
omit [Dr]in
theorem yc{e e':Env}(h:EqE e e')(i:Nat)(x:Hp):RE (stepG cx base ops i e x) (stepG cx base ops i e' x):=by
 unfold stepG;simp only[ae,M.pure];cases hr:fm cx base ops i e x with
 |fail=>trivial
 | _=>
  have ho:∃o,ops[i]? = some o:=by
   cases ho:ops[i]? with
   |none=>unfold fm at hr;rw[ho]at hr;cases hr
   |some o=>exact⟨o,rfl⟩
  obtain⟨o,ho⟩:=ho;rw[gx ho (fun t _=>h.get t) (h.agree o) (by rw[hr];simp),hr]
  first
   |exact⟨_,rfl,h.upd _ _⟩
   |exact rfl
omit [Dr]in
theorem RE.bind{m m':M Env}{x x':Hp}(h:RE (m x) (m' x')){f f':Env->M Env}(hf:∀e e' x,EqE e e'->RE (f e x) (f' e' x)):RE (ae m f x) (ae m' f' x'):=by
 simp only[ae];revert h;generalize m x=r;generalize m' x'=r';intro h;cases r with
 |ok e x=>obtain⟨e',rfl,h⟩:=h;exact hf e e' x h
 |pan v x=>cases h;exact rfl
 |fail=>trivial
omit [Dr]in
theorem nM:∀(l:List Nat){e e':Env}(_:EqE e e')(x:Hp),RE (bb cx base ops l e x) (bb cx base ops l e' x)
 |[],e,e',h,x=>⟨e',rfl,h⟩
 |i:: l,e,e',h,x=>by
  exact RE.bind (yc h i x) fun e e' x h=>nM l h x
end
end Go.Av
namespace Go.Av
variable [Dr]
omit [Dr]in
theorem xx{l:List Nat}{t:Nat}(h:t∈l):fG l t=true:=(g7 l t).2 h
omit [Dr]in
theorem nB{l:List Nat}{d:Option Nat}(h:cb l d=false):∀t∈l,d≠some t:=by
 intro t ht hd;rw[hd]at h;simp only[cb]at h;rw[xx ht]at h;cases h
omit [Dr]in
theorem oC{a b:Option Nat}(h:clash a b=false):∀t,a=some t->b≠some t:=by
 intro t ha hb;rw[ha,hb]at h;simp[clash]at h
section
variable {cx:Cx} {ops:Array Oper} {base:Nat} {e:Env}
omit [Dr]in
theorem vq{gid:Nat}{f:Foot}{ss:Option Nat}{u:Upd}(h:Shape e gid f ss u):Shape e gid f ss (gM u):=
 ⟨fun _=>rfl,fun _=>rfl,fun _=>rfl,fun _ x h=>by simp[gM]at h,fun _=>rfl,fun _=>rfl,fun hw C off hh=>h.loc hw C off hh,fun x h=>by simp[gM]at h⟩
omit [Dr]in
theorem Aa{p q:Upd->Prop}(hpq:∀u,p u->q (gM u)){A:Act1}(h:cJ p A):cJ q (il A):=by
 cases A with
 |bad=>trivial
 |stat u=>exact hpq _ h
 |dyn m sh=>exact fun v=>hpq _ (h v)
 |thr v=>trivial
omit [Dr]in
theorem Gs{p:∀ {α:Type},M α->Prop}{A:Act1}(h:ca p A):ca p (il A):=by
 cases A<;>exact h
omit [Dr]in
theorem qe{i:Nat}{o:Oper}(ho:ops[i]? = some o){h h':Hp}{u:Upd}(hr:fm cx base ops i e h= .ok u h'):Shape e ((base+i)*1000) (aC cx o) (cH o) u:=by
 unfold fm at hr;rw[ho]at hr;simp only at hr;cases hgd:o.guard with
 |none=>rw[hgd]at hr;exact lM (lZ _ _ _ _) hr
 | some g=>
  obtain⟨j,want⟩:=g;rw[hgd]at hr;simp only at hr;cases hdj:dI ops j with
  |none=>rw[hdj]at hr;cases hr
  | some t=>
   rw[hdj]at hr;simp only at hr;cases hpl:eZ cx o with
   |false=>rw[hpl]at hr;cases hr
   | true=>
    rw[hpl]at hr;simp only[Pq]at hr;have h0:∀ {h h':Hp},(M.pure (Upd.ofV (.tup [])):M Upd) h= .ok u h'->Shape e ((base+i)*1000) (aC cx o) (cH o) u:=by
     intro h h' hh;cases hh;exact Shape.ofV ..
    generalize e.av t=q at hr;cases q with
    |bool b=>
     simp only[kE]at hr;cases hb:(b== want)with
     |false=>rw[hb]at hr;exact h0 hr
     |true=>rw[hb]at hr;exact lM (Aa (fun u=>vq) (lZ _ _ _ _)) hr
    |tup vs=>
     cases vs with
     |nil=>exact h0 hr
     |cons v vs=>cases hr
    |_=>cases hr
omit [Dr]in
theorem Am{p:∀ {α:Type},M α->Prop}(h1:∀ {α:Type} (m:M α),bA m->p m)(h2:∀ {α β:Type} (m:M α) (f:α->β),p m->p (ae m fun v=>M.pure (f v))){A:Act1}(h:ca p A):p (ee A):=by
 cases A with
 |bad=>exact h1 _ bA.fail
 |stat u=>exact h1 _ (bA.pure u)
 |dyn m sh=>exact h2 _ _ h
 |thr v=>exact h.elim
omit [Dr]in
theorem jX{p:∀ {α:Type},M α->Prop}(h1:∀ {α:Type} (m:M α),bA m->p m)(h2:∀ {α β:Type} (m:M α) (f:α->β),p m->p (ae m fun v=>M.pure (f v))){i:Nat}{o:Oper}(ho:ops[i]? = some o)(h:ca p (fT cx e ((base+i)*1000) o)):p (fm cx base ops i e):=by
 unfold fm;rw[ho];simp only;cases hgd:o.guard with
 |none=>exact Am h1 h2 h
 | some g=>
  obtain⟨j,want⟩:=g;simp only;cases hdj:dI ops j with
  |none=>exact h1 _ bA.fail
  | some t=>
   simp only;cases hpl:eZ cx o with
   |false=>exact h1 _ bA.fail
   | true=>
    simp only[Pq];unfold kE;split
    ·rename_i b _;cases hb:(b== want)with
     |false=>exact h1 _ (bA.pure _)
     |true=>exact Am h1 h2 (Gs h)
    ·exact h1 _ (bA.pure _)
    ·exact h1 _ bA.fail
structure Small (ops:Array Oper):Prop where
 dst:∀(i:Nat)(o:Oper),ops[i]? = some o->∀t,o.dst=some t->t<1000
 src:∀(i:Nat)(o:Oper),ops[i]? = some o->∀t∈jv o,t<1000
omit [Dr]in
theorem Small.reads(hS:Small ops){i:Nat}{o:Oper}(ho:ops[i]? = some o):∀t∈dl ops i,t<1000:=by
 intro t ht;rw[gH ho,PZ]at ht;rcases ht with ht|ht
 ·unfold eX at ht;split at ht
  ·rename_i j _ _;cases hj:ops[j]? with
   |none=>rw[hj]at ht;simp at ht
   |some oj=>
    rw[hj]at ht;simp only[Rt]at ht;cases hd:oj.dst with
    |none=>rw[hd]at ht;simp at ht
    |some s=>rw[hd]at ht;simp at ht;rw[ht];exact hS.dst j oj hj s hd
  ·simp at ht
 ·exact hS.src i o ho t ht
omit [Dr]in
theorem ol{gid:Nat}{x:Foot}{ss:Option Nat}{u:Upd}{d:Option Tmp}(hsh:Shape e gid x ss u){t:Nat}(h1:d≠some t)(h2:ss≠some t)(h3:t<1000):(e.upd d u).get t=e.get t:=by
 rw[cP,if_neg h1];refine ra _ fun y hy hyt=>?_;rcases hsh.keys y hy with h|h
 ·omega
 ·exact h2 (by rw[h,hyt])
omit [Dr]in
theorem Fg{gid:Nat}{x:Foot}{ss:Option Nat}{u:Upd}{d:Option Tmp}(hsh:Shape e gid x ss u)(hw:x.wl=false){t:Nat}(h1:d≠some t):(e.upd d u).get t=e.get t:=by
 rw[cP,if_neg h1,hsh.ls hw];rfl
omit [Dr]in
theorem sB{gid:Nat}{x:Foot}{ss:Option Nat}{u:Upd}{d:Option Tmp}{o:Oper}(hsh:Shape e gid x ss u)(hd:∀t,d=some t->t<1000)(hops:∀t∈jv o,d≠some t/\ss≠some t/\t<1000)(hloc:((aC cx o).rl||(aC cx o).wl)=true->x.wl=false)(hal:(aC cx o).dr=true->x.ad=false/\x.dr=false):Agree cx o e (e.upd d u):=by
 refine⟨fun t ht=>ol hsh (hops t ht).1 (hops t ht).2.1 (hops t ht).2.2,fun h=>⟨fun t ht=>Fg hsh (hloc h) (fun hh=>Nat.not_lt.2 ht (hd t hh)),fun B=>?_⟩,fun h g=>?_,fun h s _ hl=>?_⟩
 ·show bJ (mz (eu e.lb u.unlb) u.lb) B=bJ e.lb B;rw[hsh.lb (hloc h),hsh.unlb (hloc h)];rfl
 ·show aP (u.add++eI e.al u.drop) g=aP e.al g;rw[hsh.noad (hal h).1,hsh.nodr (hal h).2];rfl
 ·have hw:=hloc (by rw[h];simp);show bh (r4 d u.ent (u.ls++e.sl)) (bC s)=true;rw[hsh.ls hw,eO,P7,hl,QB];have:mZ u.ent (bC s)=true:=by
   unfold mZ;split
   ·rename_i C off hv;obtain⟨t,off',ht⟩:=hsh.loc hw C off hv
    have:=nv hl ht
    rw[Qr,QI];intro hh;exact this (PI hh)
   ·rfl
  rw[this,Bool.or_true]
omit [Dr]in
theorem BG{gid:Nat}{x:Foot}{ss:Option Nat}{u:Upd}{d:Option Tmp}{o:Oper}(hsh:Shape e gid x ss u)(hd:∀t,d=some t->t<1000)(hops:∀t∈jv o,d≠some t/\ss≠some t/\t<1000)(hloc:((aC cx o).rl||(aC cx o).wl)=true->x.wl=false)(hal:(aC cx o).dr=true->x.ad=false/\x.dr=false):Agree cx o (e.upd d u) e:=by
 have A:=sB (cx:=cx) hsh hd hops hloc hal;refine⟨fun t ht=>(A.ops t ht).symm,fun h=>⟨fun t ht=>((A.loc h).1 t ht).symm,fun B=>((A.loc h).2 B).symm⟩,fun h g=>(A.al h g).symm,fun _ s _ hl=>?_⟩;have hl':bh (r4 d u.ent (u.ls++e.sl)) (bC s)=true:=hl;rw[eO,gZ]at hl';simp only[Po]at hl';exact hl'.2.2
omit [Dr]in
theorem yt{gi gj:Nat}{x y:Foot}{si sj:Option Nat}{u v:Upd}{d f:Option Tmp}(hu:Shape e gi x si u)(hv:Shape e gj y sj v)(hy:y.wl=false)(hf:∀t,f=some t->t<1000)(hdf:∀t,d=some t->f≠some t)(hsf:∀t,si=some t->f≠some t)(hg:gi≠gj)(h1:x.dr=true->y.dr=false/\y.ad=false)(h2:x.ad=true->y.dr=false)(h3:x.ad=true->y.ad=true->x.wl=false):EqE ((e.upd d u).upd f v) ((e.upd f v).upd d u):=by
 have e1:=hv.ls hy;have e2:=hv.lb hy;have e3:=hv.unlb hy;refine⟨fun t=>?_,fun g=>?_,fun B=>?_,fun B=>?_⟩
 ·rw[cP,cP,e1];show (if d=some t then u.ent else cg (u.ls++r4 f v.ent (v.ls++e.sl)) t)=if f=some t then v.ent else cg (r4 d u.ent (u.ls++e.sl)) t;rw[e1,jO,P7];by_cases hft:f=some t
  ·rw[Ps hft,if_neg (fun h=>hdf t h hft),ra,jO,Ps hft];intro z hz hzt;rcases hu.keys z hz with h|h
   ·exact Nat.not_lt.2 h (by rw[hzt];exact hf t hft)
   ·exact hsf z.1 h (by rw[hzt];exact hft)
  ·rw[if_neg hft];split
   ·rfl
   ·exact pk (by rw[jO,if_neg hft])
 ·show aP (u.add++eI (v.add++eI e.al v.drop) u.drop) g=aP (v.add++eI (u.add++eI e.al u.drop) v.drop) g;cases hxd:x.dr with
  |true=>
   obtain⟨h4,h5⟩:=h1 hxd;rw[hv.noad h5,hv.nodr h4];rfl
  | false=>
   rw[hu.nodr hxd];cases hxa:x.ad with
   |false=>rw[hu.noad hxa];rfl
   | true=>
    rw[hv.nodr (h2 hxa)];cases hya:y.ad with
    |false=>rw[hv.noad hya];rfl
    |true=>
     have k1:=hu.add (h3 hxa hya);have k2:=hv.add hy;show aP (u.add++(v.add++e.al)) g=aP (v.add++(u.add++e.al)) g;rw[eL,eL,eL,eL];by_cases hgi:g=gi
     ·rw[oY k2 (by omega)]
     ·rw[oY k1 hgi]
 ·show bJ (mz (eu (mz (eu e.lb v.unlb) v.lb) u.unlb) u.lb) B=bJ (mz (eu (mz (eu e.lb u.unlb) u.lb) v.unlb) v.lb) B;rw[e2,e3];rfl
 ·show bh (r4 d u.ent (u.ls++r4 f v.ent (v.ls++e.sl))) B=bh (r4 f v.ent (v.ls++r4 d u.ent (u.ls++e.sl))) B;simp only[eO,gZ]
  ac_rfl
end
end Go.Av
namespace Go.Av
variable [Dr]
section
variable {cx:Cx} {ops:Array Oper} {base:Nat}
structure Ind (cx:Cx) (ops:Array Oper) (i j:Nat) (a b:Oper):Prop where
 ha:ops[i]? = some a
 hb:ops[j]? = some b
 piv:(aC cx a).piv=false
 l1:(aC cx a).wl=true->(aC cx b).rl=false/\(aC cx b).wl=false
 l2:(aC cx a).rl=true->(aC cx b).wl=false
 h1:(aC cx a).wh=true->(aC cx b).rh=false/\(aC cx b).wh=false
 h2:(aC cx a).rh=true->(aC cx b).wh=false\/(aC cx b).nw=true
 g1:(aC cx a).dr=true->(aC cx b).dr=false/\(aC cx b).ad=false
 g2:(aC cx a).ad=true->(aC cx b).dr=false
 g3:(aC cx a).ad=true->(aC cx b).ad=true->(aC cx a).wl=false/\(aC cx b).wl=false
 r1:∀t∈dl ops j,a.dst≠some t
 r2:∀t∈dl ops i,b.dst≠some t
 s1:∀t∈dl ops j,cH a≠some t
 s2:∀t∈dl ops i,cH b≠some t
 c1:∀t,cH a=some t->b.dst≠some t
 c2:∀t,a.dst=some t->cH b≠some t
 c3:∀t,a.dst=some t->b.dst≠some t
omit [Dr]in
theorem Cr{i j:Nat}(h:np cx ops i j=true):∃a b,Ind cx ops i j a b:=by
 unfold np at h;split at h
 ·rename_i a b ha hb;refine⟨a,b,?_⟩;simp only[Po,Qr]at h;obtain⟨⟨⟨⟨⟨⟨⟨⟨⟨⟨⟨⟨⟨⟨k1,k2⟩,k3⟩,k4⟩,k5⟩,k6⟩,k7⟩,k8⟩,k9⟩,k10⟩,k11⟩,k12⟩,k13⟩,k14⟩,k15⟩:=h;refine⟨ha,hb,k1,fun q=>?_,fun q=>?_,fun q=>?_,fun q=>?_,fun q=>?_,fun q=>?_,fun q q'=>?_,nB k9,nB k10,nB k11,nB k12,oC k13,oC k14,oC k15⟩
  ·rw[q]at k2;simpa using k2
  ·rw[q]at k3;simpa using k3
  ·rw[q]at k4;simpa using k4
  ·rw[q]at k5;simp only[QJ]at k5;cases hb:(aC cx b).wh<;>simp_all
  ·rw[q]at k6;simpa using k6
  ·rw[q]at k7;simpa using k7
  ·rw[q,q']at k8;simpa using k8
 ·cases h
omit [Dr]in
theorem swap(hI:IsoPure cx)(hS:Small ops){i j:Nat}(hij:np cx ops i j=true)(hne:i≠j)(e:Env)(h:Hp):
  RE (ae (stepG cx base ops i e) (stepG cx base ops j) h) (ae (stepG cx base ops j e) (stepG cx base ops i) h):=by
 obtain⟨a,b,I⟩:=Cr hij;have hda:dI ops i=a.dst:=by simp[dI,I.ha]
 have hdb:dI ops j=b.dst:=by simp[dI,I.hb]
 unfold stepG;rw[hda,hdb];simp only[ae,M.pure];cases hri:fm cx base ops i e h with
 |fail=>trivial
 |pan v h'=>exact absurd hri (jX (p:=@eE) (fun _ g=>g.read.stay) (fun _ f g=>g.bnd f) I.ha ((eY hI e _ a).stay I.piv) h v h')
 | ok u h1=>
  simp only;have shu:=qe I.ha hri;have hra:=gH (ops:=ops) I.ha;have hrb:=gH (ops:=ops) I.hb;have hbo:∀t∈jv b,a.dst≠some t/\cH a≠some t/\t<1000:=fun t ht=>⟨I.r1 t (by rw[hrb];simp[ht]),I.s1 t (by rw[hrb];simp[ht]),hS.src j b I.hb t ht⟩;have hao:∀t∈jv a,b.dst≠some t/\cH b≠some t/\t<1000:=fun t ht=>⟨I.r2 t (by rw[hra];simp[ht]),I.s2 t (by rw[hra];simp[ht]),hS.src i a I.ha t ht⟩;have Abwd:Agree cx b (e.upd a.dst u) e:=BG shu (hS.dst i a I.ha) hbo (fun q=>by
   cases hw:(aC cx a).wl with
   |false=>rfl
   |true=>obtain⟨q1,q2⟩:=I.l1 hw;rw[q1,q2]at q;cases q) (fun q=>by
   constructor
   ·cases hw:(aC cx a).ad with
    |false=>rfl
    |true=>have:=I.g2 hw;rw[this]at q;cases q
   ·cases hw:(aC cx a).dr with
    |false=>rfl
    |true=>have:=(I.g1 hw).1;rw[this]at q;cases q)
  have hgb:∀t∈eX ops b,e.get t=(e.upd a.dst u).get t:=fun t ht=>by
   have htr:t∈dl ops j:=by rw[hrb];simp[ht]
   exact (ol shu (I.r1 t htr) (I.s1 t htr) (hS.reads I.hb t htr)).symm
  -- the second, after the first
  cases hrj:fm cx base ops j (e.upd a.dst u) h1 with
  |fail=>trivial
  | pan v h2=>
   have hj:=gx (base:=base) I.hb hgb Abwd (h:=h1) (by rw[hrj];simp);rw[hrj]at hj
   -- j leaves: so it may write, and i did not touch the heap
   have hwb:(aC cx b).wh=true:=by
    cases hw:(aC cx b).wh with
    |true=>rfl
    |false=>exact absurd hj ((jX (p:=@dU) (fun _ g=>g.read) (fun _ f g=>g.bnd f) I.hb ((eY hI e _ b).read hw)).stay _ _ _)
   have hwa:(aC cx a).wh=false:=by
    cases hw:(aC cx a).wh with
    |false=>rfl
    |true=>have:=(I.h1 hw).2;rw[this]at hwb;cases hwb
   have hh:h1=h:=by
    have hR:dU (fm cx base ops i e):=jX (p:=@dU) (fun _ g=>g.read) (fun _ f g=>g.bnd f) I.ha ((eY hI e _ a).read hwa);rcases hR h with hx|⟨u',hx⟩<;>rw[hri]at hx<;>cases hx;rfl
   subst hh;rw[hj];exact rfl
  | ok v h2=>
   have hj:=gx (base:=base) I.hb hgb Abwd (h:=h1) (by rw[hrj];simp);rw[hrj]at hj;have shv:=qe I.hb hj;have Afwd:Agree cx a e (e.upd b.dst v):=sB shv (hS.dst j b I.hb) hao (fun q=>by
    cases hw:(aC cx b).wl with
    |false=>rfl
    | true=>
     exfalso;cases hrl:(aC cx a).rl with
     |true=>have:=I.l2 hrl;rw[this]at hw;cases hw
     |false=>
      rw[hrl]at q;have hwl:(aC cx a).wl=true:=by simpa using q
      have:=(I.l1 hwl).2
      rw[this]at hw;cases hw) (fun q=>⟨(I.g1 q).2,(I.g1 q).1⟩)
   have hga:∀t∈eX ops a,(e.upd b.dst v).get t=e.get t:=fun t ht=>by
    have htr:t∈dl ops i:=by rw[hra];simp[ht]
    exact ol shv (I.r2 t htr) (I.s2 t htr) (hS.reads I.ha t htr)
   have hcomm:EqE ((e.upd a.dst u).upd b.dst v) ((e.upd b.dst v).upd a.dst u):=by
    have hgij:(base+i)*1000≠(base+j)*1000:=by omega
    cases hwb:(aC cx b).wl with
    |false=>
     exact yt shu shv hwb (hS.dst j b I.hb) I.c3 I.c1 hgij I.g1 I.g2 (fun q q'=>(I.g3 q q').1)
    | true=>
     have hwa:(aC cx a).wl=false:=by
      cases hw:(aC cx a).wl with
      |false=>rfl
      |true=>have:=(I.l1 hw).2;rw[this]at hwb;cases hwb
     refine (yt shv shu hwa (hS.dst i a I.ha) (fun t ht hh=>I.c3 t hh ht) (fun t ht hh=>I.c2 t hh ht) (R9 hgij) (fun q=>⟨?_,?_⟩) (fun q=>?_) (fun q q'=>?_)).symm
     ·cases hw:(aC cx a).dr with
      |false=>rfl
      |true=>have:=(I.g1 hw).1;rw[this]at q;cases q
     ·cases hw:(aC cx a).ad with
      |false=>rfl
      |true=>have:=I.g2 hw;rw[this]at q;cases q
     ·cases hw:(aC cx a).dr with
      |false=>rfl
      |true=>have:=(I.g1 hw).2;rw[this]at q;cases q
     ·have:=(I.g3 q' q).2;rw[this]at hwb;cases hwb
   cases hwa:(aC cx a).wh with
   | false=>
    have hR:dU (fm cx base ops i e):=jX (p:=@dU) (fun _ g=>g.read) (fun _ f g=>g.bnd f) I.ha ((eY hI e _ a).read hwa);have hh:h1=h:=by
     rcases hR h with hx|⟨u',hx⟩<;>rw[hri]at hx<;>cases hx;rfl
    subst hh;rw[hj];simp only;have hi2:fm cx base ops i e h2= .ok u h2:=by
     cases hra':(aC cx a).rh with
     |false=>
      obtain⟨q,hq⟩:bA (fm cx base ops i e):=jX (p:=@bA) (fun _ g=>g) (fun _ f g=>g.bnd f) I.ha ((eY hI e _ a).pure hwa hra');rw[hq]at hri |-;cases q with
      |none=>cases hri
      |some u'=>cases hri;rfl
     | true=>
      rcases I.h2 hra' with hwb|hnw
      case inr=>
       have hNw:yD (fm cx base ops j e):=jX (p:=@yD) (fun _ g=>g.nw) (fun _ f g=>g.bnd f) I.hb ((eY hI e _ b).nw hnw);have hAp:l9 (fm cx base ops i e)/\dU (fm cx base ops i e):=jX (p:=fun m=>l9 m/\dU m) (fun _ g=>⟨g.app,g.read⟩) (fun _ f g=>l9.bnd g f) I.ha ((eY hI e _ a).app hwa);obtain⟨t,rfl⟩:=hNw _ _ _ hj;exact hAp.1 _ t _ hri
      have hRb:dU (fm cx base ops j e):=jX (p:=@dU) (fun _ g=>g.read) (fun _ f g=>g.bnd f) I.hb ((eY hI e _ b).read hwb);rcases hRb h1 with hx|⟨u',hx⟩<;>rw[hj]at hx<;>cases hx;exact hri
    rw[gx I.ha hga Afwd (by rw[hi2];simp),hi2];exact⟨_,rfl,hcomm⟩
   | true=>
    obtain⟨hrb',hwb⟩:=I.h1 hwa;obtain⟨q,hq⟩:bA (fm cx base ops j e):=jX (p:=@bA) (fun _ g=>g) (fun _ f g=>g.bnd f) I.hb ((eY hI e _ b).pure hwb hrb');rw[hq]at hj |-;cases q with
    |none=>cases hj
    |some u'=>
     cases hj;simp only[af];rw[gx I.ha hga Afwd (by rw[hri];simp),hri];exact⟨_,rfl,hcomm⟩
omit [Dr]in
theorem Jk(hI:IsoPure cx)(hS:Small ops){i:Nat}(q:List Nat):∀(p:List Nat),(∀x∈p,np cx ops x i=true/\x≠i)->∀(e:Env)(h:Hp),RE (bb cx base ops (p++i:: q) e h) (bb cx base ops (i:: (p++q)) e h)
 |[],_,e,h=>RE.refl _
 | x:: p,hp,e,h=>by
  have ih:=fun e h=>Jk hI hS q p (fun y hy=>hp y (by simp[hy])) e h;have h1:RE (bb cx base ops (x:: (p++i:: q)) e h) (bb cx base ops (x:: i:: (p++q)) e h):=by
   simp only[bb,ae]at ih |-;cases stepG cx base ops x e h with
   |ok e' h'=>exact ih e' h'
   |pan v h'=>exact rfl
   |fail=>trivial
  refine h1.trans ?_;have e1:bb cx base ops (x:: i:: (p++q)) e=ae (ae (stepG cx base ops x e) (stepG cx base ops i)) (bb cx base ops (p++q)):=by rw[gR];rfl
  have e2:bb cx base ops (i:: x:: (p++q)) e=ae (ae (stepG cx base ops i e) (stepG cx base ops x)) (bb cx base ops (p++q)):=by rw[gR];rfl
  show RE (bb cx base ops (x:: i:: (p++q)) e h) (bb cx base ops (i:: x:: (p++q)) e h);rw[e1,e2];exact RE.bind (swap hI hS (hp x (by simp)).1 (hp x (by simp)).2 e h) fun e e' x h=>nM _ h x
end
end Go.Av
namespace Go.Av
variable [Dr]
omit [Dr]in
theorem Gg{a b:Option (Nat×Bool)}(h:Bp a b=true):a=b:=by
 unfold Bp at h;split at h
 ·rfl
 ·simp only[Po,PR]at h;rw[PI h.1,h.2]
 ·cases h
def iq(gs:List (Option (Nat×Bool)×List Nat)):List Nat:=gs.flatMap (·.2)
omit [Dr]in
theorem jq(ops:Array Oper):∀l:List Nat,iq (dK ops l)=l/\∀g∈dK ops l,∀i∈g.2,guardOf ops i=g.1
 |[]=>⟨rfl,by simp[dK]⟩
 | i :: is=>by
  obtain⟨h1,h2⟩:=jq ops is;simp only[dK];cases hg:dK ops is with
  |nil=>
   rw[hg]at h1;have:is=[]:=by simpa [iq]using h1.symm
   subst this;exact⟨rfl,by simp⟩
  | cons x r=>
   obtain⟨g,js⟩:=x;rw[hg]at h1 h2;simp only;cases hs:Bp (guardOf ops i) g with
   | true=>
    refine⟨?_,fun y hy=>?_⟩
    ·simp only[Pq,iq,QM,Qb]at h1 |-;rw[h1]
    ·simp only[Pq,P0]at hy;rcases hy with rfl|hy
     ·intro k hk;simp only[P0]at hk;rcases hk with rfl|hk
      ·exact Gg hs
      ·exact h2 (g,js) (by simp) k hk
     ·exact h2 y (by simp[hy])
   | false=>
    refine⟨?_,fun y hy=>?_⟩
    ·simp only[Py,iq,QM,Qb,P7]at h1 |-;rw[h1]
    ·simp only[Py,P0]at hy;rcases hy with rfl|rfl|hy
     ·intro k hk;simp only[Qd]at hk;subst hk;rfl
     ·exact h2 (g,js) (by simp)
     ·exact h2 y (by simp[hy])
omit [Dr]in
theorem wx{ρ:Type}(e:Env)(d:Option Tmp)(A:Act1)(k:Env->M ρ):m5 e d A k=ae (ee A) fun u=>k (e.upd d u):=by
 cases A with
 |bad=>rfl
 |stat u=>rfl
 |dyn m sh=>simp only[m5,ee,gR,aB]
 |thr v=>rfl
omit [Dr]in
theorem BN{α β:Type}{m:M α}{f g:α->M β}{h:Hp}(hfg:∀u h',m h= .ok u h'->f u h'=g u h'):ae m f h=ae m g h:=by
 simp only[ae];cases hm:m h with
 |ok u h'=>exact hfg u h' hm
 |pan v h'=>rfl
 |fail=>rfl
section
variable {cx:Cx} {ops:Array Oper} {base:Nat}
omit [Dr]in
theorem BF{i:Nat}{o:Oper}(ho:ops[i]? = some o)(hg:guardOf ops i=none)(e:Env):fm cx base ops i e=ee (fT cx e ((base+i)*1000) o):=by
 have:o.guard=none:=by simpa [guardOf,ho]using hg
 unfold fm;rw[ho];simp only;rw[this]
omit [Dr]in
theorem nV{i j t:Nat}{want:Bool}{o:Oper}(ho:ops[i]? = some o)(hg:guardOf ops i=some (j,want))(hj:dI ops j=some t)(hp:eZ cx o=true)(e:Env):
  fm cx base ops i e=kE (e.av t) want (ee (il (fT cx e ((base+i)*1000) o))):=by
 have:o.guard=some (j,want):=by simpa [guardOf,ho]using hg
 unfold fm;rw[ho];simp only;rw[this];simp only;rw[hj];simp only;rw[hp];rfl
omit [Dr]in
theorem xS{ρ:Type}:∀(is:List Nat)(e:Env)(k:Env->M ρ)(_:∀i∈is,guardOf ops i=none),jo cx base ops false is e k=ae (bb cx base ops is e) k
 |[],e,k,_=>rfl
 | i:: is,e,k,hg=>by
  simp only[jo,bb];unfold stepG;cases ho:ops[i]? with
  |none=>unfold fm;rw[ho];rfl
  |some o=>
   simp only;rw[wx,BF ho (hg i (by simp)),gR,gR];have hd:dI ops i=o.dst:=by simp[dI,ho]
   rw[hd];congr 1;funext u;simp only[aB];exact xS is _ k fun j hj=>hg j (by simp[hj])
structure Turned (ds:List Nat) (e e':Env):Prop where
 get:∀t,t ∉ ds->e'.get t=e.get t
 al:e'.al=e.al
 lb:e'.lb=e.lb
 lf:∀B,bh e.sl B=true->bh e'.sl B=true
 ng:∀t∈ds,(e'.get t).g=none
omit [Dr]in
theorem Turned.step{ds:List Nat}{e e':Env}(H:Turned ds e e'){u:Upd}{d:Option Nat}(hls:u.ls=[])(hadd:u.add=[])(hdrop:u.drop=none)(hlb:u.lb=none)(hunlb:u.unlb=none)(hg:u.ent.g=none)(hloc:∀C off,u.ent.v= .loc C off->∃t off',(e'.get t).v= .loc C off'):Turned (d.toList++ds) e (e'.upd d u):=by
 have hget:∀t,(e'.upd d u).get t=if d=some t then u.ent else e'.get t:=fun t=>by rw[cP,hls];rfl
 refine⟨fun t ht=>?_,?_,?_,fun B hB=>?_,fun t ht=>?_⟩
 ·simp only[PZ,not_or,Rn]at ht;rw[hget,if_neg ht.1];exact H.get t ht.2
 ·show u.add++eI e'.al u.drop=e.al;rw[hadd,hdrop];exact H.al
 ·show mz (eu e'.lb u.unlb) u.lb=e.lb;rw[hlb,hunlb];exact H.lb
 ·have h1:=H.lf B hB;show bh (r4 d u.ent (u.ls++e'.sl)) B=true;rw[hls,eO,P7,h1,QB];have:mZ u.ent B=true:=by
   unfold mZ;split
   ·rename_i C off hv;obtain⟨t,off',ht⟩:=hloc C off hv
    have:=nv h1 ht
    rw[Qr,QI];intro hh;exact this (PI hh)
   ·rfl
  rw[this,Bool.or_true]
 ·rw[hget];split
  ·exact hg
  ·rename_i hd;simp only[PZ,Rn]at ht;rcases ht with ht|ht
   ·exact absurd ht hd
   ·exact H.ng t ht
omit [Dr]in
theorem Turned.refl(e:Env):Turned [] e e:=⟨fun _ _=>rfl,rfl,rfl,fun _ h=>h,fun t h=>by simp at h⟩
omit [Dr]in
theorem Turned.sub{ds ds':List Nat}{e e':Env}(H:Turned ds e e')(h:∀t,t∈ds↔t∈ds'):Turned ds' e e':=
 ⟨fun t ht=>H.get t fun hh=>ht ((h t).1 hh),H.al,H.lb,H.lf,fun t ht=>H.ng t ((h t).2 ht)⟩
structure GroupOk (cx:Cx) (ops:Array Oper) (j:Nat) (want:Bool) (t:Nat) (is:List Nat):Prop where
 hj:dI ops j=some t
 each:∀i∈is,∃o,ops[i]? = some o/\guardOf ops i=some (j,want)/\eZ cx o=true
 nt:t ∉ cV ops is
omit [Dr]in
theorem jl(i:Nat)(is:List Nat):∀t,t∈cV ops (i:: is)↔dI ops i=some t\/t∈cV ops is:=by
 intro t;unfold cV;simp only[RH,P0,exists_eq_or_imp]
omit [Dr]in
theorem GroupOk.tail{j:Nat}{want:Bool}{t i:Nat}{is:List Nat}(G:GroupOk cx ops j want t (i:: is)):GroupOk cx ops j want t is:=
 ⟨G.hj,fun k hk=>G.each k (by simp[hk]),fun h=>G.nt ((jl i is t).2 (.inr h))⟩
omit [Dr]in
theorem GroupOk.ne{j:Nat}{want:Bool}{t i:Nat}{is:List Nat}(G:GroupOk cx ops j want t (i:: is)):dI ops i≠some t:=fun h=>G.nt ((jl i is t).2 (.inl h))
omit [Dr]in
theorem kB{A:Act1}{h h':Hp}{u:Upd}(hr:ee (il A) h= .ok u h'):∃u0,ee A h= .ok u0 h'/\u=gM u0:=by
 rw[oX]at hr;cases hx:ee A h<;>rw[hx]at hr<;>simp at hr;exact⟨_,by rw[hr.2],hr.1.symm⟩
omit [Dr]in
theorem tE{ρ:Type}{j:Nat}{want:Bool}{t:Nat}:∀(is:List Nat)(e:Env)(k:Env->M ρ)(h:Hp),GroupOk cx ops j want t is->e.av t= .bool want->jo cx base ops true is e k h=ae (bb cx base ops is e) k h
 |[],e,k,h,_,_=>rfl
 |i:: is,e,k,h,G,hc=>by
  obtain⟨o,ho,hg,hp⟩:=G.each i (by simp);have hd:dI ops i=o.dst:=by simp[dI,ho]
  simp only[jo,bb,ho,Pq];rw[wx];unfold stepG;rw[nV ho hg G.hj hp,hc,gR,gR];simp only[kE,QG,Pq,aB,hd];refine BN fun u h' hu=>?_;obtain⟨u0,hu0,rfl⟩:=kB hu;refine tE is _ k h' G.tail ?_;have:(e.upd o.dst (gM u0)).get t=e.get t:=by rw[cP,if_neg (by rw[<- hd];exact G.ne)];rfl
  simp only[Env.av,this];exact hc
omit [Dr]in
theorem nP{j:Nat}{want:Bool}{t:Nat}:∀(is:List Nat)(e e':Env)(h h':Hp),GroupOk cx ops j want t is->e.av t= .bool want->bb cx base ops is e h= .ok e' h'->Turned (cV ops is) e e':=by
 have key:∀(is:List Nat)(e0 e e':Env)(ds:List Nat)(h h':Hp),GroupOk cx ops j want t is->e.av t= .bool want->Turned ds e0 e->bb cx base ops is e h= .ok e' h'->Turned (cV ops is++ds) e0 e':=by
  intro is
  induction is with
  |nil=>
   intro e0 e e' ds h h' _ _ H hr;cases hr;exact H
  | cons i is ih=>
   intro e0 e e' ds h h' G hc H hr;obtain⟨o,ho,hg,hp⟩:=G.each i (by simp);have hd:dI ops i=o.dst:=by simp[dI,ho]
   simp only[bb]at hr;unfold stepG at hr;rw[nV ho hg G.hj hp,hc,gR]at hr;simp only[kE,QG,Pq,hd,ae]at hr;cases hx:ee (il (fT cx e ((base+i)*1000) o)) h with
   |fail=>rw[hx]at hr;cases hr
   |pan v hh=>rw[hx]at hr;cases hr
   | ok u hh=>
    rw[hx]at hr;simp only at hr;obtain⟨u0,hu0,rfl⟩:=kB hx;have hsh:=lM (lZ cx e ((base+i)*1000) o) hu0;simp only[eZ,Po,Qr]at hp;have H2:=H.step (u:=gM u0) (d:=o.dst) rfl rfl rfl rfl rfl rfl (hsh.loc hp.1);refine (ih e0 _ e' _ hh h' G.tail ?_ H2 hr).sub fun s=>?_
    ·have:(e.upd o.dst (gM u0)).get t=e.get t:=by rw[cP,if_neg (by rw[<- hd];exact G.ne)];rfl
     simp only[Env.av,this];exact hc
    ·simp only[PZ,jl,Rn,hd];constructor
     ·rintro (h|h|h)
      ·exact .inl (.inr h)
      ·exact .inl (.inl h)
      ·exact .inr h
     ·rintro ((h|h)|h)
      ·exact .inr (.inl h)
      ·exact .inl h
      ·exact .inr (.inr h)
 intro is e e' h h' G hc hr;exact (key is e e e' [] h h' G hc (.refl e) hr).sub (by simp)
def Off(c:AV)(want:Bool):Prop:=c= .tup []\/∃b,c= .bool b/\(b== want)=false
omit [Dr]in
theorem Off.look{c:AV}{want:Bool}(h:Off c want)(m:M Upd):kE c want m=M.pure (.ofV (.tup [])):=by
 rcases h with rfl|⟨b,rfl,hb⟩
 ·rfl
 ·simp only[kE,hb,Py]
omit [Dr]in
theorem HV{j:Nat}{want:Bool}{t:Nat}:∀(is:List Nat)(e:Env)(h:Hp),GroupOk cx ops j want t is->Off (e.av t) want->∃e',bb cx base ops is e h= .ok e' h/\Turned (cV ops is) e e'/\∀s∈cV ops is,e'.get s=⟨.val (.tup []),none⟩:=by
 have key:∀(is:List Nat)(e0 e:Env)(ds:List Nat)(h:Hp),GroupOk cx ops j want t is->Off (e.av t) want->Turned ds e0 e->(∀s∈ds,e.get s=⟨.val (.tup []),none⟩)->
   ∃e',bb cx base ops is e h= .ok e' h/\Turned (cV ops is++ds) e0 e'/\∀s∈cV ops is++ds,e'.get s=⟨.val (.tup []),none⟩:=by
  intro is
  induction is with
  |nil=>exact fun e0 e ds h _ _ H hds=>⟨e,rfl,H,hds⟩
  | cons i is ih=>
   intro e0 e ds h G hc H hds;obtain⟨o,ho,hg,hp⟩:=G.each i (by simp);have hd:dI ops i=o.dst:=by simp[dI,ho]
   have hget:∀s,(e.upd o.dst (.ofV (.tup []))).get s=if o.dst=some s then⟨.val (.tup []),none⟩else e.get s:=fun s=>by rw[cP];rfl
   have H2:=H.step (u:=.ofV (.tup [])) (d:=o.dst) rfl rfl rfl rfl rfl rfl (fun C off hh=>by cases hh);have hav:(e.upd o.dst (.ofV (.tup []))).av t=e.av t:=by
    have:(e.upd o.dst (.ofV (.tup []))).get t=e.get t:=by rw[hget,if_neg (by rw[<- hd];exact G.ne)]
    simp only[Env.av,this]
   obtain⟨e',h1,h2,h3⟩:=ih e0 (e.upd o.dst (.ofV (.tup []))) (o.dst.toList++ds) h G.tail (by rw[hav];exact hc) H2 (fun s hs=>by
    rw[hget];split
    ·rfl
    ·rename_i hn;simp only[PZ,Rn]at hs;rcases hs with hs|hs
     ·exact absurd hs hn
     ·exact hds s hs)
   have hiff:∀s,s∈cV ops is++(o.dst.toList++ds)↔s∈cV ops (i:: is)++ds:=fun s=>by
    simp only[PZ,jl,Rn,hd];constructor
    ·rintro (h|h|h)
     ·exact .inl (.inr h)
     ·exact .inl (.inl h)
     ·exact .inr h
    ·rintro ((h|h)|h)
     ·exact .inr (.inl h)
     ·exact .inl h
     ·exact .inr (.inr h)
   refine⟨e',?_,h2.sub hiff,fun s hs=>h3 s ((hiff s).2 hs)⟩;simp only[bb];unfold stepG;rw[nV ho hg G.hj hp,hc.look,hd];exact h1
 intro is e h G hc;obtain⟨e',h1,h2,h3⟩:=key is e e [] h G hc (.refl e) (by simp);exact⟨e',h1,h2.sub (by simp),fun s hs=>h3 s (by simp[hs])⟩
end
end Go.Av
namespace Go.Av
variable [Dr]
section
variable {cx:Cx} {ops:Array Oper} {base:Nat}
structure Rel (ops:Array Oper) (L:List Nat) (e2 e:Env):Prop where
 get:∀t,e2.get t=e.get t\/(e2.get t=Ent.none/\t<1000/\∀i∈L,t ∉ dl ops i)
 al:∀g,aP e2.al g=aP e.al g
 lb:∀B,bJ e2.lb B=bJ e.lb B
 lf:∀B,bh e2.sl B=true->bh e.sl B=true
omit [Dr]in
theorem Rel.refl(ops:Array Oper)(L:List Nat)(e:Env):Rel ops L e e:=⟨fun _=>.inl rfl,fun _=>rfl,fun _=>rfl,fun _ h=>h⟩
omit [Dr]in
theorem Rel.sub{L L':List Nat}{e2 e:Env}(H:Rel ops L e2 e)(h:∀i∈L',i∈L):Rel ops L' e2 e:=
 ⟨fun t=>(H.get t).imp id fun⟨h1,h2,h3⟩=>⟨h1,h2,fun i hi=>h3 i (h i hi)⟩,H.al,H.lb,H.lf⟩
omit [Dr]in
theorem Rel.read{L:List Nat}{e2 e:Env}(H:Rel ops L e2 e){i t:Nat}(hi:i∈L)(ht:t∈dl ops i):e.get t=e2.get t:=by
 rcases H.get t with h|⟨_,_,h⟩
 ·exact h.symm
 ·exact absurd ht (h i hi)
omit [Dr]in
theorem Rel.agree{L:List Nat}{e2 e:Env}(H:Rel ops L e2 e){i:Nat}{o:Oper}(hi:i∈L)(ho:ops[i]? = some o):Agree cx o e2 e:=by
 refine⟨fun t ht=>H.read hi (by rw[gH ho];simp[ht]),fun _=>⟨fun t ht=>?_,fun B=>(H.lb B).symm⟩,fun _ g=>(H.al g).symm,fun _ s _ hl=>H.lf _ hl⟩;rcases H.get t with h|⟨_,h,_⟩
 ·exact h.symm
 ·omega
omit [Dr]in
theorem Rel.upd{L:List Nat}{e2 e:Env}(H:Rel ops L e2 e)(d:Option Tmp)(u:Upd):Rel ops L (e2.upd d u) (e.upd d u):=by
 refine⟨fun t=>?_,fun g=>?_,fun B=>?_,fun B hB=>?_⟩
 ·rw[cP,cP];split
  ·exact .inl rfl
  ·rw[jN,jN];split
   ·exact .inl rfl
   ·exact H.get t
 ·show aP (u.add++eI e2.al u.drop) g=aP (u.add++eI e.al u.drop) g;have:aP (eI e2.al u.drop) g=aP (eI e.al u.drop) g:=by
   cases u.drop with
   |none=>exact H.al g
   |some k=>simp only[eI,kR,H.al g]
  rw[eL,eL,this]
 ·show bJ (mz (eu e2.lb u.unlb) u.lb) B=bJ (mz (eu e.lb u.unlb) u.lb) B;have:bJ (eu e2.lb u.unlb) B=bJ (eu e.lb u.unlb) B:=by
   cases u.unlb with
   |none=>exact H.lb B
   |some k=>simp only[eu,nu,H.lb B]
  cases u.lb with
  |none=>exact this
  |some x=>
   obtain⟨k,n⟩:=x;simp only[mz,ej,this]
 ·have hB':bh (r4 d u.ent (u.ls++e2.sl)) B=true:=hB;show bh (r4 d u.ent (u.ls++e.sl)) B=true;rw[eO,gZ]at hB' |-;simp only[Po]at hB' |-;exact⟨hB'.1,hB'.2.1,H.lf B hB'.2.2⟩
omit [Dr]in
theorem Rel.run:∀(is:List Nat){L:List Nat}{e2 e:Env}(_:Rel ops L e2 e)(_:∀i∈is,i∈L)(h:Hp),bb cx base ops is e2 h≠.fail->
  (∃e2' e' h',bb cx base ops is e2 h= .ok e2' h'/\bb cx base ops is e h= .ok e' h'/\Rel ops L e2' e')\/∃v h',bb cx base ops is e2 h= .pan v h'/\bb cx base ops is e h= .pan v h'
 |[],L,e2,e,H,_,h,_=>.inl ⟨e2,e,h,rfl,rfl,H⟩
 | i:: is,L,e2,e,H,hL,h,hr=>by
  simp only[bb]at hr |-;unfold stepG at hr |-;simp only[ae,M.pure]at hr |-;cases hx:fm cx base ops i e2 h with
  |fail=>rw[hx]at hr;exact absurd rfl hr
  | _ =>
   have ho:∃o,ops[i]? = some o:=by
    cases ho:ops[i]? with
    |none=>unfold fm at hx;rw[ho]at hx;cases hx
    |some o=>exact⟨o,rfl⟩
   obtain⟨o,ho⟩:=ho;have hi:=hL i (by simp);have hy:fm cx base ops i e h=fm cx base ops i e2 h:=gx ho (fun t ht=>H.read hi (by rw[gH ho];simp[ht])) (H.agree hi ho) (by rw[hx];simp);rw[hy,hx]
   first
    | rw[hx]at hr
      exact Rel.run is (H.upd _ _) (fun k hk=>hL k (by simp[hk])) _ hr
    |exact .inr ⟨_,_,rfl,rfl⟩
omit [Dr]in
theorem qG(e:Env):∀(ds:List Nat)(t:Nat),(forget e ds).get t=if t∈ds then Ent.none else e.get t
 |[],t=>by simp[forget]
 | d:: ds,t=>by
  show cg ((d,Ent.none):: (forget e ds).sl) t=_;rw[cE];by_cases hd:d=t
  ·subst hd;simp
  ·rw[if_neg hd]
   have:=qG e ds t
   simp only[Env.get]at this;rw[this];have hd':¬t=d:=fun h=>hd h.symm;simp[hd',Env.get]
omit [Dr]in
theorem pe(e:Env):∀(ds:List Nat),(forget e ds).al=e.al/\(forget e ds).lb=e.lb/\∀B,bh (forget e ds).sl B=bh e.sl B
 |[]=>⟨rfl,rfl,fun _=>rfl⟩
 |_d:: ds=>pe e ds
omit [Dr]in
theorem pw(e:Env)(f:Nat->AV):∀(outs:List Nat)(pre:List AV)(t:Nat),(gk e (pre++outs.map f) pre.length outs).get t=if t∈outs then⟨.val (f t),none⟩else e.get t
 |[],pre,t=>by simp[gk]
 | d:: ds,pre,t=>by
  show cg ((d,⟨.val (nth (pre++(d:: ds).map f) pre.length),none⟩):: (gk e (pre++(d:: ds).map f) (pre.length+1) ds).sl) t=_;rw[cE];have hn:nth (pre++(d:: ds).map f) pre.length=f d:=by simp[nth]
  by_cases hd:d=t
  ·subst hd;rw[hn];simp
  ·rw[if_neg hd]
   have:=pw e f ds (pre++[f d]) t
   simp only[Qq,P1,PW,Qa,Rp]at this;simp only[Env.get,Qu]at this |-;rw[this];have hd':¬t=d:=fun h=>hd h.symm;simp[hd']
omit [Dr]in
theorem nN(e:Env)(vs:List AV):∀(outs:List Nat)(i:Nat),(gk e vs i outs).al=e.al/\(gk e vs i outs).lb=e.lb/\∀B,bh (gk e vs i outs).sl B=bh e.sl B
 |[],_i=>⟨rfl,rfl,fun _=>rfl⟩
 |_d:: ds,i=>nN e vs ds (i+1)
omit [Dr]in
theorem Ag(gs:List (Option (Nat×Bool)×List Nat))(t:Nat):Af ops gs t=true↔∃i∈iq gs,t∈dl ops i:=by
 unfold Af iq;simp only[List.any_eq_true,List.mem_flatMap,g7];constructor
 ·rintro⟨g,hg,i,hi,ht⟩;exact⟨i,⟨g,hg,hi⟩,ht⟩
 ·rintro⟨i,⟨g,hg,hi⟩,ht⟩;exact⟨g,hg,i,hi,ht⟩
omit [Dr]in
theorem Rel.close{is:List Nat}{gs:List (Option (Nat×Bool)×List Nat)}{e2 e e':Env}(H:Rel ops (is++iq gs) e2 e)(hS:Small ops)(T:Turned (cV ops is) e e'){vs:List AV}{f:Nat->AV}(hvs:vs=(dx ops is gs).map f)(hf:∀t∈dx ops is gs,e'.get t=⟨.val (f t),none⟩\/(f t= .any/\t<1000/\∀i∈iq gs,t ∉ dl ops i)):Rel ops (iq gs) (gk (forget e2 (cV ops is)) vs 0 (dx ops is gs)) e':=by
 have hr:=nN (forget e2 (cV ops is)) vs (dx ops is gs) 0;have hr2:=pe e2 (cV ops is);refine⟨fun t=>?_,fun g=>?_,fun B=>?_,fun B hB=>?_⟩
 ·have hg:=pw (forget e2 (cV ops is)) f (dx ops is gs) [] t;simp only[P7,Qa]at hg;rw[hvs,hg];split
  ·rename_i ht;rcases hf t ht with h|⟨h1,h2,h3⟩
   ·exact .inl h.symm
   ·exact .inr ⟨by rw[h1];rfl,h2,h3⟩
  ·rename_i ht;rw[qG];split
   ·rename_i hd;refine .inr ⟨rfl,?_,fun i hi hti=>ht ?_⟩
    ·unfold cV at hd;simp only[RH]at hd;obtain⟨i,hi,hd⟩:=hd;unfold dI at hd;cases hoi:ops[i]? with
     |none=>rw[hoi]at hd;simp at hd
     |some o=>rw[hoi]at hd;exact hS.dst i o hoi t hd
    ·unfold dx;rw[SA];exact⟨hd,(Ag gs t).2 ⟨i,hi,hti⟩⟩
   ·rename_i hd;rw[T.get t hd];rcases H.get t with h|⟨h1,h2,h3⟩
    ·exact .inl h
    ·exact .inr ⟨h1,h2,fun i hi=>h3 i (by simp[hi])⟩
 ·rw[hr.1,hr2.1,T.al];exact H.al g
 ·rw[hr.2.1,hr2.2.1,T.lb];exact H.lb B
 ·rw[hr.2.2,hr2.2.2]at hB;exact T.lf B (H.lf B hB)
omit [Dr]in
theorem rG(l m:List Nat):∀e:Env,bb cx base ops (l++m) e=ae (bb cx base ops l e) (bb cx base ops m):=by
 induction l with
 |nil=>intro e;rfl
 |cons i l ih=>
  intro e;show ae (stepG cx base ops i e) (bb cx base ops (l++m))=ae (ae (stepG cx base ops i e) (bb cx base ops l)) (bb cx base ops m);rw[gR];congr 1;funext e';exact ih e'
omit [Dr]in
theorem Hn{x:Ent}(h1:mH x=true)(h2:x.g=none):x=⟨.val x.av,none⟩:=by
 obtain⟨v,g⟩:=x;cases v with
 |val a=>simp only at h2;subst h2;rfl
 |loc B off=>cases h1
omit [Dr]in
theorem jJ{ρ:Type}(hS:Small ops):∀(gs:List (Option (Nat×Bool)×List Nat))(e2 e:Env)(k:Env->M ρ)(h:Hp),(∀g∈gs,∀i∈g.2,guardOf ops i=g.1)->Rel ops (iq gs) e2 e->ew cx base ops gs e2 k h≠.fail->
  (∃e2' e' h',ew cx base ops gs e2 k h=k e2' h'/\bb cx base ops (iq gs) e h= .ok e' h'/\Rel ops [] e2' e')\/∃v h',ew cx base ops gs e2 k h= .pan v h'/\bb cx base ops (iq gs) e h= .pan v h'
 |[],e2,e,k,h,_,H,_=>.inl ⟨e2,e,h,rfl,rfl,H⟩
 | (none,is):: gs,e2,e,k,h,hg,H,hr=>by
  have hg0:∀i∈is,guardOf ops i=none:=hg (none,is) (by simp);have hfl:iq ((none,is):: gs)=is++iq gs:=rfl;rw[hfl]at H |-;rw[rG];simp only[ew]at hr |-;rw[xS is e2 _ hg0]at hr |-;simp only[ae]at hr |-;have hr2:bb cx base ops is e2 h≠.fail:=fun hf=>by rw[hf]at hr;exact hr rfl
  rcases H.run (base:=base) (cx:=cx) is (fun i hi=>by simp[hi]) h hr2 with⟨e2',e',h',h1,h2,H'⟩|⟨v,h',h1,h2⟩
  ·rw[h1]at hr |-;rw[h2];exact jJ hS gs e2' e' k h' (fun g hgg=>hg g (by simp[hgg])) (H'.sub fun i hi=>by simp[hi]) hr
  ·rw[h1,h2];exact .inr ⟨v,h',rfl,rfl⟩
 | (some (j,want),is):: gs,e2,e,k,h,hg,H,hr=>by
  have hg0:∀i∈is,guardOf ops i=some (j,want):=hg (some (j,want),is) (by simp);have hfl:iq ((some (j,want),is):: gs)=is++iq gs:=rfl;rw[hfl]at H |-;rw[rG];simp only[ew]at hr |-;cases hdj:dI ops j with
  |none=>rw[hdj]at hr;exact absurd rfl hr
  | some t=>
   rw[hdj]at hr;simp only at hr |-;revert hr;cases hc:((is.all fun i=>match ops[i]? with|some o=>eZ cx o&&o.dst.isSome|none=>false)&&!(fG (cV ops is) t))with
   |false=>intro hr;exact absurd rfl hr
   | true=>
    intro hr;simp only[Pq]at hr |-;simp only[Po,Qr,PG]at hc;have G:GroupOk cx ops j want t is:=by
     refine⟨hdj,fun i hi=>?_,fun ht=>?_⟩
     ·have:=hc.1 i hi
      cases hoi:ops[i]? with
      |none=>rw[hoi]at this;cases this
      |some o=>
       rw[hoi]at this;simp only[Po]at this;exact⟨o,rfl,hg0 i hi,this.1⟩
     ·rw[(g7 _ _).2 ht]at hc;exact Bool.noConfusion hc.2
    have htr:∀i∈is,t∈dl ops i:=fun i hi=>by
     obtain⟨o,ho,hgi,_⟩:=G.each i hi;rw[gH ho];have:o.guard=some (j,want):=by simpa [guardOf,ho]using hgi
     have:t∈eX ops o:=by
      unfold eX;rw[this];simp only;rw[show (ops[j]?).bind (·.dst)=some t from hdj];simp
     simp[this]
    -- the guard says yes
    cases is with
    | nil=>
     have hrn:∀e,bb cx base ops [] e=M.pure e:=fun _=>rfl;rw[hrn,aB];have ho:dx ops [] gs=[]:=rfl;have hd:cV ops []=[]:=rfl;rw[ho,hd]at hr |-;have hpure:∀ {q:AV} {m:M (List AV)},m h= .ok [] h->ax q want ([]:List Nat).length m h≠.fail->ax q want ([]:List Nat).length m h= .ok [] h:=by
      intro q m hm hne;cases q with
      |bool b=>
       simp only[ax];cases b== want with
       |true=>exact hm
       |false=>rfl
      |tup vs=>
       cases vs with
       |nil=>rfl
       |cons v vs=>exact absurd rfl hne
      |_=>exact absurd rfl hne
     simp only[ae]at hr |-;have hp:=hpure (q:=e2.av t) (m:=jo cx base ops true [] e2 fun e'=>bif ([]:List Nat).all (fun t=>mH (e'.get t))then M.pure (([]:List Nat).map e'.av)else M.fail) rfl (fun hf=>by rw[hf]at hr;exact hr rfl);rw[hp]at hr |-;exact jJ hS gs e2 e k h (fun g hgg=>hg g (by simp[hgg])) (H.sub fun i hi=>by simp[hi]) hr
    |cons i0 is0=>
    have hav:e.av t=e2.av t:=by
     have:=H.read (i:=i0) (by simp) (htr i0 (by simp))
     simp only[Env.av,this]
    generalize hiseq:i0:: is0=is at *;have hoff:Off (e2.av t) want->(ax (e2.av t) want (dx ops is gs).length (jo cx base ops true is e2 fun e'=>bif (dx ops is gs).all (fun t=>mH (e'.get t))then M.pure ((dx ops is gs).map e'.av)else M.fail))=M.pure (List.replicate (dx ops is gs).length (.tup [])):=by
     rintro (hq|⟨b,hq,hb⟩)
     ·rw[hq];rfl
     ·rw[hq];simp only[ax,hb,Py]
    have hcase:Off (e2.av t) want\/e2.av t= .bool want:=by
     cases hq:e2.av t with
     |bool b=>
      cases hb:(b== want)with
      |true=>right;simp at hb;rw[hb]
      |false=>exact .inl (.inr ⟨b,rfl,hb⟩)
     |tup vs=>
      cases vs with
      |nil=>exact .inl (.inl rfl)
      |cons v vs=>rw[hq]at hr;exact absurd rfl hr
     |_=>rw[hq]at hr;exact absurd rfl hr
    rcases hcase with ho|hy
    ·rw[hoff ho,aB]at hr |-;obtain⟨e',h1,T,h2⟩:=HV (base:=base) is e h G (by rw[hav];exact ho);simp only[ae];rw[h1];refine jJ hS gs _ e' k h (fun g hgg=>hg g (by simp[hgg])) (H.close hS T (f:=fun _=>.tup []) ?_ fun s hs=>.inl ?_) hr
     ·exact (List.map_const' ..).symm
     ·refine h2 s ?_;unfold dx at hs;exact (SA.1 hs).1
    ·rw[hy]at hr |-;simp only[ax,QG,Pq,ae]at hr |-;rw[tE is e2 _ h G hy]at hr |-;simp only[ae]at hr |-;have hr2:bb cx base ops is e2 h≠.fail:=fun hf=>by rw[hf]at hr;exact hr rfl
     rcases H.run (base:=base) (cx:=cx) is (fun i hi=>by simp[hi]) h hr2 with⟨e2',e',h',h1,h2,H'⟩|⟨v,h',h1,h2⟩
     ·rw[h1]at hr |-;rw[h2];simp only at hr |-;have T2:=nP is e2 e2' h h' G hy h1;have T:=nP is e e' h h' G (by rw[hav];exact hy) h2;cases hv:(dx ops is gs).all (fun t=>mH (e2'.get t))with
      |false=>rw[hv]at hr;exact absurd rfl hr
      |true=>
       rw[hv]at hr;simp only[Pq,M.pure]at hr |-;refine jJ hS gs _ e' k h' (fun g hgg=>hg g (by simp[hgg])) (H.close hS T (f:=e2'.av) rfl fun s hs=>?_) hr;have hsd:s∈cV ops is:=by unfold dx at hs;exact (SA.1 hs).1
       have hval:=Hn (PG.1 hv s hs) (T2.ng s hsd);rcases H'.get s with h3|⟨h3,h4,h5⟩
       ·left;rw[<- h3];exact hval
       ·right;exact⟨by simp only[Env.av,h3];rfl,h4,fun i hi=>h5 i (by simp[hi])⟩
     ·rw[h1,h2];exact .inr ⟨v,h',rfl,rfl⟩
end
end Go.Av
namespace Go.Av
variable [Dr]
omit [Dr]in
theorem kg(acc:List Nat):∀(es:List Edge)(x:Nat),(jr acc es).testBit x=true↔∃e∈es,Region.binds .any e=true/\(e.on=x\/(acc.getD e.on 0).testBit x=true)
 |[],x=>by simp[jr]
 | e :: es,x=>by
  simp only[jr];cases hb:Region.binds .any e with
  | false=>
   simp only[Py,kg acc es x,P0];constructor
   ·rintro⟨e',he,h⟩;exact⟨e',.inr he,h⟩
   ·rintro⟨e',rfl|he,h⟩
    ·rw[hb]at h;exact absurd h.1 (by simp)
    ·exact⟨e',he,h⟩
  | true=>
   simp only[Pq,Nat.testBit_or,Qn,kg acc es x,P0,Nat.testBit_two_pow,Pt];constructor
   ·rintro ((⟨e',he,h⟩|h)|h)
    ·exact⟨e',.inr he,h⟩
    ·exact⟨e,.inl rfl,hb,.inl h⟩
    ·exact⟨e,.inl rfl,hb,.inr h⟩
   ·rintro⟨e',rfl|he,h1,h2⟩
    ·rcases h2 with h2|h2
     ·exact .inl (.inr h2)
     ·exact .inr h2
    ·exact .inl (.inl ⟨e',he,h1,h2⟩)
omit [Dr]in
theorem sH:∀(os:List Oper)(acc:List Nat),∃r:List Nat,yJ os acc=acc++r/\r.length=os.length/\∀(k:Nat)(o:Oper),os[k]? = some o->r[k]? = some (jr (acc++r.take k) o.after.toList)
 |[],acc=>⟨[],by simp[yJ],rfl,by simp⟩
 | o:: os,acc=>by
  obtain⟨r,h1,h2,h3⟩:=sH os (acc++[jr acc o.after.toList]);refine⟨jr acc o.after.toList:: r,by simp[yJ,h1],by simp[h2],fun k o' ho=>?_⟩;cases k with
  |zero=>simp at ho;subst ho;simp
  |succ k=>
   simp only[PM,Qv]at ho |-;rw[h3 k o' ho];simp
section
variable {ops:Array Oper}
def kW(ops:Array Oper):List Nat:=yJ ops.toList []
omit [Dr]in
theorem EF{j:Nat}{o:Oper}(ho:ops[j]? = some o):(kW ops).length=ops.size/\(kW ops).getD j 0=jr ((kW ops).take j) o.after.toList:=by
 obtain⟨r,h1,h2,h3⟩:=sH ops.toList [];have h4:kW ops=r:=by unfold kW;rw[h1];simp
 rw[h4];refine⟨by simp[h2],?_⟩
 have:=h3 j o (by simpa using ho)
 rw[P4,this];simp
omit [Dr]in
theorem BM{listed:Nat->Prop}(hcl:∀(j:Nat)(o:Oper),ops[j]? = some o->listed j->∀e∈o.after.toList,Region.binds .any e=true->listed e.on):
  ∀(j:Nat)(o:Oper),ops[j]? = some o->(∀e∈o.after.toList,Region.binds .any e=true->listed e.on)->∀x,((kW ops).getD j 0).testBit x=true->listed x:=by
 intro j
 induction j using Nat.strongRecOn with
 | _ j ih=>
  intro o ho hl x hx;obtain⟨hlen,hget⟩:=EF ho;rw[hget,kg]at hx;obtain⟨e,he,hb,hx|hx⟩:=hx
  ·rw[<- hx];exact hl e he hb
  ·by_cases hj:e.on<j
   ·have hjs:j<ops.size:=(Qg.1 ho).1;have hos:ops[e.on]? = some ops[e.on]:=QA (by omega);have h1:((kW ops).take j).getD e.on 0=(kW ops).getD e.on 0:=by
     rw[P4,P4,PV,Ps hj]
    rw[h1]at hx;exact ih e.on hj _ hos (hcl e.on _ hos (hl e he hb)) x hx
   ·rw[P4,PV,if_neg hj]at hx;simp at hx
def De(cx:Cx)(ops:Array Oper)(i j:Nat):Prop:=((kW ops).getD i 0).testBit j=false/\(((kW ops).getD j 0).testBit i=true\/np cx ops i j=true)
omit [Dr]in
theorem po{cx:Cx}:∀ {l:List Nat},ko cx ops (kW ops) l=true->l.Pairwise (De cx ops)/\∀i∈l,((kW ops).getD i 0).testBit i=false
 |[],_=>⟨.nil,by simp⟩
 |i:: l,h=>by
  simp only[ko,Po,Qr,PG,Qn]at h;obtain⟨⟨h1,h2⟩,h3⟩:=h;obtain⟨h4,h5⟩:=po h3;refine⟨.cons (fun j hj=>h2 j hj) h4,fun k hk=>?_⟩;simp only[P0]at hk;rcases hk with rfl|hk
  ·exact h1
  ·exact h5 k hk
omit [Dr]in
theorem lg:∀ {l:List Nat},distinct l=true->l.Nodup
 |[],_=>.nil
 |i:: l,h=>by
  simp only[distinct,Po,Qr]at h;refine RD.2 ⟨fun hi=>?_,lg h.2⟩;rw[(g7 _ _).2 hi]at h;exact Bool.noConfusion h.1
variable {P:Program} {cx:Cx} {c:Entry} {N base:Nat}
theorem wu(hT:TOK P cx.T)(hC:cK P cx.own cx.call)(hI:IsoPure cx)(hO:OpsOk N cx ops)(hS:Small ops)(hbit:∀i x,((kW ops).getD i 0).testBit x=true->x<ops.size)(hself:∀i,i<ops.size->((kW ops).getD i 0).testBit i=false){Q:Exit->Act->World->Prop}:∀(n:Nat)(rest:List Nat)(listed:Array Bool)(D:List Nat)(e:Env)(h:Hp)(a:Act)(w:World),rest.length=n->listed.size=ops.size->rest.Nodup->
  (∀i,i∈rest↔i<ops.size/\listed.getD i true=false)->(∀i∈rest,i ∉ D)->(∀i∈D,i<ops.size)->
  (∀(j:Nat)(o:Oper),ops[j]? = some o->listed.getD j false=true->∀e∈o.after.toList,Region.binds .any e=true->listed.getD e.on false=true)->rest.Pairwise (De cx ops)->
  fl c N (UD base D) e h a w->bb cx base ops rest e h≠.fail->
  (∀e0 e' h' a' w',bb cx base ops rest e h= .ok e0 h'->EqE e0 e'->fl c N (UR base ops.size) e' h' a' w'->a'.defers=a.defers->Q .normal a' w')->
  (∀pv h' v w' a',bb cx base ops rest e h= .pan pv h'->my c pv h' v w'->a'.defers=a.defers->Q (.panic [{ v,recovered:=false }]) a' w')->wpAny P .any ops Q n listed a w
 |0,rest,listed,D,e,h,a,w,hlen,hsz,hnd,hmem,hdis,hD,hcl,hpw,H,hr,hn,hp=>by
  have:rest=[]:=PL hlen;subst this;refine⟨?_,hn e e h a w rfl (.refl e) (H.wider (Io hD)) rfl⟩;refine List.eq_nil_iff_forall_not_mem.2 fun i hi=>?_;obtain⟨h0,o,ho,_⟩:=mem_ready.1 hi
  have:=(hmem i).2 ⟨(Qg.1 ho).1,h0⟩
  simp at this
 | n + 1,rest,listed,D,e,h,a,w,hlen,hsz,hnd,hmem,hdis,hD,hcl,hpw,H,hr,hn,hp=>by
  have hgd:∀i,i<ops.size->listed.getD i true=listed.getD i false:=fun i hi=>by
   rw[P9,P9,QA (by omega)];rfl
  refine⟨fun hemp=>?_,fun i hi=>?_⟩
  ·exfalso;cases rest with
   |nil=>simp at hlen
   | cons r0 tl=>
    have hr0:=(hmem r0).1 (by simp);have hor:ops[r0]? = some ops[r0]:=QA hr0.1;have:r0∈Region.ready .any ops listed:=by
     refine mem_ready.2 ⟨hr0.2,_,hor,fun ed hed hb=>?_⟩;have hbt:((kW ops).getD r0 0).testBit ed.on=true:=by
      rw[(EF hor).2,kg];exact⟨ed,by simpa using hed,hb,.inl rfl⟩
     have hlt:=hbit r0 ed.on hbt;cases hl:listed.getD ed.on false with
     |true=>rfl
     | false=>
      have hin:=(hmem ed.on).2 ⟨hlt,by rw[hgd _ hlt];exact hl⟩;simp only[P0]at hin;rcases hin with hin|hin
      ·rw[hin]at hbt;rw[hself r0 hr0.1]at hbt;cases hbt
      ·have:=(Se.1 hpw).1 ed.on hin
       rw[this.1]at hbt;cases hbt
    rw[hemp]at this;simp at this
  ·obtain⟨h0,o,ho,hall⟩:=mem_ready.1 hi;have hlt:i<ops.size:=(Qg.1 ho).1;have hin:=(hmem i).2 ⟨hlt,h0⟩;obtain⟨p,q,rfl⟩:=List.append_of_mem hin;have hnd':=hnd;rw[List.nodup_append]at hnd';have hni:i ∉ p++q:=by
    intro hm;rw[PZ]at hm;rcases hm with hm|hm
    ·exact hnd'.2.2 i hm i (by simp) rfl
    ·exact (RD.1 hnd'.2.1).1 hm
   have hclo:=BM (ops:=ops) (listed:=fun j=>listed.getD j false=true) (fun j o ho hj ed hed hb=>hcl j o ho hj ed hed hb) i o ho (fun ed hed hb=>hall ed (by simpa using hed) hb);have hfront:∀x∈p,np cx ops x i=true/\x≠i:=by
    intro x hx;have hpr:=(List.pairwise_append.1 hpw).2.2 x hx i (by simp);refine⟨?_,fun hxi=>hni (by rw[<- hxi];simp[hx])⟩;rcases hpr.2 with h1|h1
    ·have hxl:=hclo x h1;have hxr:=(hmem x).1 (by simp[hx]);rw[hgd x hxr.1]at hxr;rw[hxr.2]at hxl;cases hxl
    ·exact h1
   have hRE:=Jk (base:=base) hI hS q p hfront e h;have hr':bb cx base ops (i:: (p++q)) e h≠.fail:=by
    intro hf;rw[hf]at hRE;cases hx:bb cx base ops (p++i:: q) e h with
    |fail=>exact hr hx
    |ok e0 h0=>rw[hx]at hRE;obtain⟨_,h1,_⟩:=hRE;cases h1
    |pan v h0=>rw[hx]at hRE;cases hRE
   simp only[bb,ae]at hr';have hstep:∀ {r:R Env},bb cx base ops (i:: (p++q)) e h=r->bb cx base ops (i:: (p++q)) e h=r:=fun h=>h;simp only[bb,ae]at hRE;refine rO hT hC hO (hdis i hin) H (fun hf=>by rw[hf]at hr';exact hr' rfl) (fun e1 h1 a1 w1 hst hs hdf=>?_) (fun pv h1 v w1 hst hps=>?_)
   ·rw [hst]at hr' hRE;simp only at hr' hRE;refine wu hT hC hI hO hS hbit hself n (p++q) (listed.setIfInBounds i true) (i:: D) e1 h1 a1 w1 ?_ (by simp[hsz]) ?_ (fun k=>?_) (fun k hk=>?_) (fun k hk=>?_) (fun k o' ho' hk ed hed hb=>?_) ?_ hs hr' (fun e0 e' h' a' w' hok heq hsat hdf'=>?_) (fun pv h' v w' a' hok hps hdf'=>?_)
    ·simp only[P1,PW]at hlen |-;omega
    ·exact hnd.sublist (List.Sublist.append (List.Sublist.refl p) (List.sublist_cons_self i q))
    ·have hset:k≠i->(listed.setIfInBounds i true).getD k true=listed.getD k true:=fun hk=>by
      rw[P9,P9,Rh (R9 hk)]
     constructor
     ·intro hk;have hki:k≠i:=fun h=>hni (h▸hk);rw[hset hki];exact (hmem k).1 (by
       simp only[PZ,P0]at hk |-;rcases hk with hk|hk
       ·exact .inl hk
       ·exact .inr (.inr hk))
     ·rintro⟨h1,h2⟩;have hki:k≠i:=by
       rintro rfl;rw[P9,Array.getElem?_setIfInBounds_self]at h2;rw[Ps (by omega)]at h2;simp at h2
      rw[hset hki]at h2
      have:=(hmem k).2 ⟨h1,h2⟩
      simp only[PZ,P0]at this |-;rcases this with h|h|h
      ·exact .inl h
      ·exact absurd h hki
      ·exact .inr h
    ·simp only[P0,not_or];refine⟨fun hki=>hni (hki▸hk),hdis k ?_⟩;simp only[PZ,P0]at hk |-;rcases hk with hk|hk
     ·exact .inl hk
     ·exact .inr (.inr hk)
    ·simp only[P0]at hk;rcases hk with rfl|hk
     ·exact hlt
     ·exact hD k hk
    ·have hmono:∀x,listed.getD x false=true->(listed.setIfInBounds i true).getD x false=true:=fun x hx=>getD_set_true hx;by_cases hki:k=i
     ·subst hki;rw[ho]at ho';cases ho';exact hmono _ (hall ed (by simpa using hed) hb)
     ·refine hmono _ (hcl k o' ho' ?_ ed hed hb);rw[P9,Rh (R9 hki),<- P9]at hk;exact hk
    ·exact hpw.sublist (List.Sublist.append (List.Sublist.refl p) (List.sublist_cons_self i q))
    ·rw[hok]at hRE;cases hx:bb cx base ops (p++i:: q) e h with
     |fail=>exact absurd hx hr
     |ok ex hx'=>
      rw[hx]at hRE;obtain⟨e0',h2,h3⟩:=hRE;cases h2;exact hn ex e' _ a' w' hx (h3.trans heq) hsat (hdf'.trans hdf)
     |pan v h0=>rw[hx]at hRE;cases hRE
    ·rw[hok]at hRE;cases hx:bb cx base ops (p++i:: q) e h with
     |fail=>exact absurd hx hr
     |ok ex hx'=>rw[hx]at hRE;obtain⟨_,h1,_⟩:=hRE;cases h1
     |pan v0 h0=>
      rw[hx]at hRE;cases hRE;exact hp _ _ v w' a' hx hps (hdf'.trans hdf)
   ·rw[hst]at hRE;cases hx:bb cx base ops (p++i:: q) e h with
    |fail=>exact absurd hx hr
    |ok ex hx'=>rw[hx]at hRE;obtain⟨_,h1,_⟩:=hRE;cases h1
    |pan v0 h0=>
     rw[hx]at hRE;cases hRE;exact hp _ _ v w1 a hx hps rfl
end
end Go.Av
namespace Go.Av
variable [Dr]
structure IsoCall (cx:Cx):Prop where
 iso:∀f args,cx.iso f=true->∃x:Option (Bool×AV),∀h,cx.call f args h=(match x with|none=>.fail|some (true,v)=>.ok v h|some (false,v)=>.pan v h)
 nw:∀f args,cx.nw f=true->yD (cx.call f args)
omit [Dr]in
theorem IsoCall.draw{cx:Cx}(h:IsoCall cx):IsoPure (ff cx):=by
 refine⟨?_,fun f args hf=>?_⟩
 case refine_2=>
  have hn:=h.nw f args hf;show yD (bif cx.iso f then cR (cx.call f args)else cx.call f args);cases cx.iso f with
  |false=>exact hn
  |true=>
   intro hp v h' hh;simp only[Pq,cR]at hh;cases hq:cx.call f args hp with
   |ok a b=>rw[hq]at hh;cases hh;exact hn _ _ _ hq
   |pan a b=>rw[hq]at hh;cases hh
   |fail=>rw[hq]at hh;cases hh
 intro f args hf;have hf':cx.iso f=true:=hf;obtain⟨x,hx⟩:=h.iso f args hf';refine⟨match x with|some (true,v)=>some v|_=>none,?_⟩;show (bif cx.iso f then cR (cx.call f args)else cx.call f args)=_;rw[hf'];funext hp;simp only[Pq,cR,hx];rcases x with _|⟨b,v⟩
 ·rfl
 ·cases b<;>rfl
theorem cK.draw{P:Program}{cx:Cx}(h:cK P cx.own cx.call):cK P (ff cx).own (ff cx).call:=by
 intro f args hp S β w vs hr hg hw hh hv;have hcall:(ff cx).call f args hp=(bif cx.iso f then cR (cx.call f args) hp else cx.call f args hp):=by
  show (bif cx.iso f then cR (cx.call f args)else cx.call f args) hp=_;cases cx.iso f<;>rfl
 rw[hcall]at hr |-
 have key:∀r,r=cx.call f args hp->r≠.fail->Calls P f vs.toArray w (dt ((ff cx).own f) S β hp w r)/\(P.funcs[f]?).any (fun fn=>fn.body.isSome&&!(fn.name== "runtime.NumGoroutine"))=true:=by
  intro r hr1 hr2;subst hr1;exact h f args hp S β w vs hr2 hg hw hh hv
 cases hi:cx.iso f with
 |false=>rw[hi]at hr;exact key _ rfl hr
 |true=>
  rw[hi]at hr;simp only[Pq,cR]at hr |-;cases hx:cx.call f args hp with
  |ok v hq=>rw[hx]at hr;exact key _ hx.symm (by simp)
  |pan v hq=>rw[hx]at hr;exact absurd rfl hr
  |fail=>rw[hx]at hr;exact absurd rfl hr
def kI(c:Entry)(N:Nat)(e:Env)(h:Hp)(a:Act)(w:World):Prop:=fl c N (fun g=>g<e.nx*1000) e h a w
theorem fl.rel{c:Entry}{N:Nat}{U:Nat->Prop}{e2 e:Env}{h:Hp}{a:Act}{w:World}{ops:Array Oper}(H:fl c N U e h a w)(R:Rel ops [] e2 e):fl c N U e2 h a w:=by
 obtain⟨S,β,γ,lam,ω,F⟩:=H;refine⟨S,β,γ,lam,ω,F.weak (fun t=>?_) (fun t g hg=>?_) (fun g z hz=>by rw[R.al]at hz;exact hz) (fun B n hB=>by rw[R.lb]at hB;exact hB)⟩
 ·rcases R.get t with h|⟨h1,h2,_⟩
  ·exact .inl (by rw[h])
  ·exact .inr ⟨by rw[h1];rfl,h2⟩
 ·rcases R.get t with h|⟨h1,_⟩
  ·rw[h]at hg;exact hg
  ·rw[h1]at hg;cases hg
theorem fl.eqE{c:Entry}{N:Nat}{U:Nat->Prop}{e2 e:Env}{h:Hp}{a:Act}{w:World}(H:fl c N U e h a w)(R:EqE e e2):fl c N U e2 h a w:=by
 obtain⟨S,β,γ,lam,ω,F⟩:=H;exact⟨S,β,γ,lam,ω,F.weak (fun t=>.inl (by rw[R.get])) (fun t g hg=>by rw[R.get]at hg;exact hg) (fun g z hz=>by rw[R.al]at hz;exact hz) (fun B n hB=>by rw[R.lb]at hB;exact hB)⟩
theorem fl.nx{c:Entry}{N:Nat}{U:Nat->Prop}{e:Env}{h:Hp}{a:Act}{w:World}(n:Nat)(H:fl c N U e h a w):fl c N U { e with nx:=n } h a w:=by
 obtain⟨S,β,γ,lam,ω,F⟩:=H;exact⟨S,β,γ,lam,ω,F.weak (fun t=>.inl rfl) (fun t g hg=>hg) (fun g z hz=>hz) (fun B n hB=>hB)⟩
section
variable {P:Program} {cx:Cx} {c:Entry} {e:Env} {h:Hp} {a:Act} {w:World} {ops:Array Oper} {id:Nat}
omit [Dr]in
theorem sb{n:Nat}(hn:n<=1000)(hd:jG n ops=true)(hk:∀p,Cs (cG cx.ann.kinds p .L)=true->p<n):OpsOk n cx ops/\Small ops:=by
 unfold jG at hd;rw[Array.all_eq_true_iff_forall_mem]at hd;have h1:∀(i:Nat)(o:Oper),ops[i]? = some o->(∀t,o.dst=some t->t<n)/\∀t∈jv o,t<1000:=by
  intro i o ho
  have:=hd o (Array.mem_of_getElem? ho)
  simp only[Po,PG,Pt]at this;refine⟨fun t ht=>?_,this.2⟩;have h2:=this.1;rw[ht]at h2;simpa using h2
 refine⟨⟨fun i o ho=>(h1 i o ho).1,fun i o ho x hx t hxt=>(h1 i o ho).2 t ?_,hk⟩,⟨fun i o ho t ht=>Qc ((h1 i o ho).1 t ht) hn,fun i o ho=>(h1 i o ho).2⟩⟩;subst hxt;exact RH.2 ⟨_,hx,rfl⟩
theorem CQ{ρ:Type}(hT:TOK P cx.T)(hC:cK P cx.own cx.call)(hI:IsoCall cx)(hk:∀p,Cs (cG cx.ann.kinds p .L)=true->p<cx.nt){draw:Bool}{k:Env->M ρ}(H:kI c cx.nt e h a w)(hr:o5 cx id ops draw e k h≠.fail){Q:Exit->Act->World->Prop}(hn:∀e' h' a' w',o5 cx id ops draw e k h=k e' h'->kI c cx.nt e' h' a' w'->a'.defers=a.defers->Q .normal a' w')(hp:∀pv h' v w' a',o5 cx id ops draw e k h= .pan pv h'->my c pv h' v w'->a'.defers=a.defers->Q (.panic [{ v,recovered:=false }]) a' w'):
  (Code.region id ops draw).wp P Q a w:=by
 have hN:cx.nt<=1000:=by obtain⟨S,β,γ,lam,ω,F⟩:=H;exact F.tsz.2
 have H0:fl c cx.nt (UD e.nx []) e h a w:=H.wider fun g hg=>.inl hg;unfold o5 at hr hn hp;cases hds:jG cx.nt ops with
 |false=>rw[hds]at hr;exact absurd rfl hr
 | true=>
  obtain⟨hO,hS⟩:=sb (cx:=cx) hN hds hk;rw[hds]at hr hn hp;simp only[Pq]at hr hn hp;cases draw with
  | false=>
   simp only[Py]at hr hn hp;obtain⟨hfl,hgs⟩:=jq ops (List.range ops.size);refine wp_region (tK hT hC hO (List.range ops.size) [] e h a w List.nodup_range (by simp) H0 ?_ ?_ ?_)
   all_goals
    have hseq:=jJ (cx:=cx) (base:=e.nx) hS (dK ops (List.range ops.size)) e e _ h hgs (.refl ops _ e) hr;rw[hfl]at hseq
   ·rcases hseq with⟨_,_,_,_,h2,_⟩|⟨_,_,_,h2⟩<;>rw[h2]<;>simp
   ·intro e' h' a' w' hok hsat hdf;rcases hseq with⟨e2',e'',h'',h1,h2,hR⟩|⟨_,_,_,h2⟩
    ·rw[h2]at hok;cases hok;refine hn _ _ a' w' h1 (fl.nx _ ((hsat.wider (Io ?_)).rel hR)) hdf;intro i hi;simpa using hi
    ·rw[h2]at hok;cases hok
   ·intro pv h' v w' a' hok hps hdf;rcases hseq with⟨e2',e'',h'',h1,h2,hR⟩|⟨_,_,h1,h2⟩
    ·rw[h2]at hok;cases hok
    ·rw[h2]at hok;cases hok;exact hp _ _ v w' a' h1 hps hdf
  | true=>
   simp only[Pq]at hr hn hp;generalize tx cx id ops.size=ord at hr hn hp;cases hdo:mD cx ops ord with
   |false=>rw[hdo]at hr;exact absurd rfl hr
   | true=>
    rw[hdo]at hr hn hp;simp only[Pq]at hr hn hp;simp only[mD,FV,Po,PG,Pt]at hdo;obtain⟨⟨⟨⟨⟨hlen,hmem⟩,hdist⟩,hlt⟩,hbits⟩,hpairs⟩:=hdo;have hlen':ord.length=ops.size:=PI hlen;obtain⟨hpw,hself⟩:=po (cx:=cx) (ops:=ops) hpairs;have hpw':ord.Pairwise (De (ff cx) ops):=hpw;have hO':OpsOk cx.nt (ff cx) ops:=⟨hO.dst,hO.src,hO.kin⟩;obtain⟨hfl,hgs⟩:=jq ops ord;have hseq:=jJ (cx:=ff cx) (base:=e.nx) hS (dK ops ord) e e _ h hgs (.refl ops _ e) hr;rw[hfl]at hseq;refine wp_region_draw fun t=>?_;have hsch:Region.schedule (P.follows .mixedOrders) ops t=Region.linearise .any ops t:=by
     simp only[Region.schedule,hT.mix,Bool.true_or,PF]
    rw[hsch];have hmem':∀i,i∈ord↔i<ops.size:=fun i=>⟨fun hi=>hlt i hi,fun hi=>(g7 _ _).1 (hmem i (by simpa using hi))⟩;refine wpAny_sound ops.size t _ a _ (wu (cx:=ff cx) (c:=c) (N:=cx.nt) (base:=e.nx) hT hC.draw hI.draw hO' hS ?_ ?_ ops.size ord (Array.replicate ops.size false) [] e h a w.drew hlen' (by simp) (lg hdist) ?_ (by simp) (by simp) ?_ hpw' ?_ ?_ ?_ ?_)
    ·intro i x hx;rcases PS x ops.size with h'|h'
     ·exact h'
     ·have hm:(kW ops).getD i 0<2 ^ ops.size:=by
       rw[P4];cases hi:(kW ops)[i]? with
       |none=>simp;exact Nat.pow_pos (by omega)
       |some m=>exact hbits m (Qf hi)
      rw[Nat.testBit_lt_two_pow (Qc hm (Nat.pow_le_pow_right (by omega) h'))]at hx;cases hx
    ·exact fun i hi=>hself i ((hmem' i).2 hi)
    ·intro i;rw[hmem'];constructor
     ·intro hi;refine⟨hi,?_⟩;rw[P9,Ss,Ps hi];rfl
     ·exact fun hi=>hi.1
    ·intro j o ho hj;exfalso;rw[P9,Ss]at hj;split at hj<;>simp at hj
    ·obtain⟨S,β,γ,lam,ω,F⟩:=H0;exact⟨S,β,γ,lam,ω,F.drew⟩
    ·rcases hseq with⟨_,_,_,_,h2,_⟩|⟨_,_,_,h2⟩<;>rw[h2]<;>simp
    ·intro e0 e' h' a' w' hok heq hsat hdf;rcases hseq with⟨e2',e'',h'',h1,h2,hR⟩|⟨_,_,_,h2⟩
     ·rw[h2]at hok;cases hok;exact hn _ _ a' w' h1 (fl.nx _ ((hsat.eqE heq.symm).rel hR)) hdf
     ·rw[h2]at hok;cases hok
    ·intro pv h' v w' a' hok hps hdf;rcases hseq with⟨e2',e'',h'',h1,h2,hR⟩|⟨_,_,h1,h2⟩
     ·rw[h2]at hok;cases hok
     ·rw[h2]at hok;cases hok;exact hp _ _ v w' a' h1 hps hdf
end
end Go.Av
namespace Go.Av
variable [Dr]
omit [Dr]in
theorem km{e:Env}:∀(l:List (Nat×Option Nat))(used:List Nat)(vs:List AV),hJ e l used=some vs->vs.length=l.length/\
  (∀(i:Nat)(t:Nat)(z:Option Nat),l[i]? = some (t,z)->∃a,vs[i]? = some a/\(e.get t).v= .val a/\∀sz,z=some sz->∃g z0,(e.get t).g=some g/\aP e.al g=some z0/\(z0=none\/z0=some sz)/\g ∉ used)/\
  ∀(i j:Nat)(t t' sz sz':Nat),i<j->l[i]? = some (t,some sz)->l[j]? = some (t',some sz')->(e.get t).g≠(e.get t').g
 |[],used,vs,h=>by
  simp only[hJ,Pn]at h;subst h;exact⟨rfl,by simp,by simp⟩
 | (t,none):: r,used,vs,h=>by
  simp only[hJ]at h;split at h
  ·rename_i a ha;split at h
   ·rename_i vs' hvs;simp only[Pn]at h;subst h;obtain⟨h1,h2,h3⟩:=km r used vs' hvs;refine⟨by simp[h1],fun i t' z hi=>?_,fun i j t1 t2 sz1 sz2 hij hi hj=>?_⟩
    ·cases i with
     |zero=>
      simp only[Pu,Pn,Qt]at hi;obtain⟨rfl,rfl⟩:=hi;exact⟨a,rfl,ha,fun sz hsz=>by cases hsz⟩
     |succ i=>simpa using h2 i t' z (by simpa using hi)
    ·cases i with
     |zero=>simp at hi
     |succ i=>
      cases j with
      |zero=>omega
      |succ j=>exact h3 i j t1 t2 sz1 sz2 (by omega) (by simpa using hi) (by simpa using hj)
   ·cases h
  ·cases h
 | (t, some sz):: r,used,vs,h=>by
  simp only[hJ]at h;split at h
  ·rename_i a g ha hg;split at h
   ·cases h
   ·rename_i z0 hz0;have hcond:vu z0 (some sz)=true/\fG used g=false/\(match hJ e r (g:: used)with|some vs=>some (a:: vs)|none=>none)=some vs:=by
     cases hm:fG used g with
     | true=>
      rw[hm]at h;cases z0 with
      |none=>cases h
      |some n=>
       simp only at h;cases hb:Nat.beq n sz<;>rw[hb]at h<;>cases h
     | false=>
      rw[hm]at h;cases z0 with
      |none=>exact⟨rfl,rfl,h⟩
      |some n=>
       simp only at h;cases hb:Nat.beq n sz with
       |true=>rw[hb]at h;exact⟨hb,rfl,h⟩
       |false=>rw[hb]at h;cases h
    obtain⟨hc1,hc2,h⟩:=hcond;have hc:=And.intro hc1 hc2
    ·split at h
     ·rename_i vs' hvs;simp only[Pn]at h;subst h;have hgu:g ∉ used:=fun hm=>by
       rw[(g7 _ _).2 hm]at hc;exact Bool.noConfusion hc.2
      have hz:z0=none\/z0=some sz:=by
       cases z0 with
       |none=>exact .inl rfl
       |some n=>exact .inr (by rw[PI hc.1])
      obtain⟨h1,h2,h3⟩:=km r (g:: used) vs' hvs;refine⟨by simp[h1],fun i t' z hi=>?_,fun i j t1 t2 sz1 sz2 hij hi hj=>?_⟩
      ·cases i with
       |zero=>
        simp only[Pu,Pn,Qt]at hi;obtain⟨rfl,rfl⟩:=hi;exact⟨a,rfl,ha,fun sz' hsz=>by cases hsz;exact⟨g,z0,hg,hz0,hz,hgu⟩⟩
       |succ i=>
        obtain⟨a',k1,k2,k3⟩:=h2 i t' z (by simpa using hi);refine⟨a',by simpa using k1,k2,fun sz' hsz=>?_⟩;obtain⟨g',z',m1,m2,m3,m4⟩:=k3 sz' hsz;exact⟨g',z',m1,m2,m3,fun hm=>m4 (by simp[hm])⟩
      ·cases i with
       | zero=>
        cases j with
        |zero=>omega
        |succ j=>
         simp only[Pu,Pn,Qt]at hi;obtain⟨rfl,_⟩:=hi;obtain⟨a',k1,k2,k3⟩:=h2 j t2 (some sz2) (by simpa using hj);obtain⟨g',z',m1,m2,m3,m4⟩:=k3 sz2 rfl;rw[hg,m1];intro hh;simp only[Pn]at hh;exact m4 (by simp[hh])
       |succ i=>
        cases j with
        |zero=>omega
        |succ j=>exact h3 i j t1 t2 sz1 sz2 (by omega) (by simpa using hi) (by simpa using hj)
     ·cases h
  ·cases h
omit [Dr]in
theorem kG(vs:List AV)(r:List (Nat×Ent))(t:Nat):∀(l:List (Nat×Option Nat))(k:Nat),
  (∃(i:Nat)(z:Option Nat),l[i]? = some (t,z)/\cg (cS vs k l++r) t=⟨.val (nth vs (k+i)),z.map fun _=>k+i⟩)\/
  ((∀(i:Nat)(z:Option Nat),l[i]? ≠some (t,z))/\cg (cS vs k l++r) t=cg r t)
 |[],k=>.inr ⟨by simp,rfl⟩
 | (s,z):: l,k=>by
  have hh:cS vs k ((s,z):: l)=(s,⟨.val (nth vs k),z.map fun _=>k⟩):: cS vs (k+1) l:=by cases z<;>rfl
  rw[hh,Qb,cE];by_cases hs:s=t
  ·subst hs;rw[Ps rfl];exact .inl ⟨0,z,rfl,rfl⟩
  ·rw[if_neg hs];rcases kG vs r t l (k+1)with⟨i,z',h1,h2⟩|⟨h1,h2⟩
   ·refine .inl ⟨i+1,z',by simpa using h1,?_⟩;rw[h2,show k+1+i=k+(i+1) by omega]
   ·refine .inr ⟨fun i z' hi=>?_,h2⟩;cases i with
    |zero=>simp at hi;exact hs hi.1
    |succ i=>exact h1 i z' (by simpa using hi)
omit [Dr]in
theorem gX:∀(l:List (Nat×Option Nat))(k g:Nat)(y:Option Nat),aP (jW k l) g=some y->∃(i t sz:Nat),l[i]? = some (t,some sz)/\g=k+i/\y=some sz
 |[],k,g,y,h=>by simp[jW,aP]at h
 |(s,none):: l,k,g,y,h=>by
  obtain⟨i,t,sz,h1,h2,h3⟩:=gX l (k+1) g y h;exact⟨i+1,t,sz,by simpa using h1,by omega,h3⟩
 | (s,some n):: l,k,g,y,h=>by
  simp only[jW,cm]at h;split at h
  ·rename_i hk;simp only[Pn]at h;exact⟨0,s,n,rfl,by omega,h.symm⟩
  ·obtain⟨i,t,sz,h1,h2,h3⟩:=gX l (k+1) g y h;exact⟨i+1,t,sz,by simpa using h1,by omega,h3⟩
omit [Dr]in
theorem ov(t:Nat):∀(l:List (Nat×Nat×Nat)),(∃B off,(t,B,off)∈l/\cg (l.map fun x=>(x.1,(⟨.loc x.2.1 x.2.2,none⟩:Ent))) t=⟨.loc B off,none⟩)\/cg (l.map fun x=>(x.1,(⟨.loc x.2.1 x.2.2,none⟩:Ent))) t=Ent.none
 |[]=>.inr rfl
 | (s,B,off):: l=>by
  rw[Qu,cE];by_cases hs:s=t
  ·subst hs;rw[Ps rfl];exact .inl ⟨B,off,by simp,rfl⟩
  ·rw[if_neg hs];rcases ov t l with⟨B',off',h1,h2⟩|h
   ·exact .inl ⟨B',off',by simp[h1],h2⟩
   ·exact .inr h
omit [Dr]in
theorem q8{e:Env}:∀ {l:List (Nat×Nat×Nat)},q7 e l=true->∀t B off,(t,B,off)∈l->(e.get t).v= .loc B off
 |[],_,t,B,off,h=>by simp at h
 | (s,B0,off0):: l,h,t,B,off,hm=>by
  simp only[q7,Po]at h;simp only[P0,Qt]at hm;rcases hm with⟨rfl,rfl,rfl⟩|hm
  ·have h1:=h.1;split at h1
   ·rename_i B' off' hv;simp only[Po]at h1;rw[hv,PI h1.1,PI h1.2]
   ·cases h1
  ·exact q8 h.2 t B off hm
omit [Dr]in
theorem s9{e:Env}:∀ {l:List (Nat×Nat)},xo e l=true->∀B n,bJ l B=some n->bJ e.lb B=some n
 |[],_,B,n,h=>by simp[bJ]at h
 | (B0,n0):: l,h,B,n,hm=>by
  simp only[xo,Po]at h;rw[ej]at hm;split at hm
  ·rename_i hB;subst hB;simp only[Pn]at hm;subst hm;have h1:=h.1;split at h1
   ·rename_i m hv;rw[hv,PI h1]
   ·cases h1
  ·exact s9 h.2 B n hm
section
variable {c:Entry} {N:Nat} {e:Env} {h:Hp} {a:Act} {w:World}
open Classical in
theorem vC{ja:JA}{vs:List AV}(H:kI c N e h a w)(hp:pack ja e=some vs):kI c N (unpack ja vs) h a w:=by
 obtain⟨S,β,γ,lam,ω,F⟩:=H;unfold pack at hp;cases hlo:(q7 e ja.locs&&xo e ja.lbs)with
 |false=>rw[hlo]at hp;cases hp
 | true=>
  rw[hlo]at hp;simp only[Pq]at hp;simp only[Po]at hlo;obtain⟨hlen,hval,hdis⟩:=km ja.vals [] vs hp
  -- the groups carried
  let gOf:Nat->Option Nat:=fun i=>match ja.vals[i]? with|some (t,some _)=>(e.get t).g|_=>none
  have hg1:∀i t sz,ja.vals[i]? = some (t,some sz)->∃g z0,gOf i=some g/\(e.get t).g=some g/\aP e.al g=some z0/\(z0=none\/z0=some sz):=by
   intro i t sz hi;obtain⟨a',_,_,h3⟩:=hval i t (some sz) hi;obtain⟨g,z0,k1,k2,k3,_⟩:=h3 sz rfl;refine⟨g,z0,?_,k1,k2,k3⟩;show (match ja.vals[i]? with|some (t,some _)=>(e.get t).g|_=>none)=some g;rw[hi];exact k1
  have hg2:∀i j g,gOf i=some g->gOf j=some g->i=j:=by
   have hex:∀i g,gOf i=some g->∃t sz,ja.vals[i]? = some (t,some sz)/\(e.get t).g=some g:=by
    intro i g hi;have hi':(match ja.vals[i]? with|some (t,some _)=>(e.get t).g|_=>none)=some g:=hi;split at hi'
    ·rename_i t sz ht;exact⟨t,sz,ht,hi'⟩
    ·cases hi'
   intro i j g hi hj;obtain⟨t,sz,k1,k2⟩:=hex i g hi;obtain⟨t',sz',m1,m2⟩:=hex j g hj;rcases Nat.lt_trichotomy i j with hlt|heq|hlt
   ·exact absurd (k2.trans m2.symm) (hdis i j t t' sz sz' hlt k1 m1)
   ·exact heq
   ·exact absurd (m2.trans k2.symm) (hdis j i t' t sz' sz hlt m1 k1)
  let γ':Nat->Value:=fun i=>match gOf i with|some g=>γ g|none=>undef
  let ω':Nat->Owner:=fun b=>match ω b with
   |.grp g=>if hx:∃i,gOf i=some g then .grp (Classical.choose hx)else .no
   |o=>o
  have hωg:∀b g i,ω b= .grp g->gOf i=some g->ω' b= .grp i:=by
   intro b g i hb hi;show (match ω b with|.grp g=>if hx:∃i,gOf i=some g then Owner.grp (Classical.choose hx)else .no|o=>o)= .grp i;rw[hb];simp only;have hx:∃i,gOf i=some g:=⟨i,hi⟩;rw[dif_pos hx,hg2 _ _ g (RX hx) hi]
  have hωo:∀b,(∀g,ω b≠.grp g)->ω' b=ω b:=by
   intro b hb;show (match ω b with|.grp g=>if hx:∃i,gOf i=some g then Owner.grp (Classical.choose hx)else .no|o=>o)=ω b;cases ho:ω b with
   |grp g=>exact absurd ho (hb g)
   |_=>rfl
  have hωn:∀b,ω' b≠.no->ω b≠.no:=by
   intro b hb ho;refine hb ?_;rw[hωo b (fun g hg=>by rw[ho]at hg;cases hg),ho]
  have hωx:∀b g,ω' b= .grp g->∃g',ω b= .grp g':=by
   intro b g hg;cases ho:ω b with
   |grp g'=>exact⟨g',rfl⟩
   |_=>rw[hωo b (fun g' h'=>by rw[ho]at h';cases h'),ho]at hg;cases hg
  -- the slots
  have hget:∀t,(∃(i:Nat)(z:Option Nat)(a':AV),ja.vals[i]? = some (t,z)/\(e.get t).v= .val a'/\(unpack ja vs).get t=⟨.val a',z.map fun _=>i⟩)\/(∃B off,(e.get t).v= .loc B off/\(unpack ja vs).get t=⟨.loc B off,none⟩)\/(unpack ja vs).get t=Ent.none:=by
   intro t;have hu:(unpack ja vs).get t=cg (cS vs 0 ja.vals++ja.locs.map fun x=>(x.1,(⟨.loc x.2.1 x.2.2,none⟩:Ent))) t:=rfl;rcases kG vs (ja.locs.map fun x=>(x.1,(⟨.loc x.2.1 x.2.2,none⟩:Ent))) t ja.vals 0 with⟨i,z,h1,h2⟩|⟨h1,h2⟩
   ·obtain⟨a',k1,k2,_⟩:=hval i t z h1;refine .inl ⟨i,z,a',h1,k2,?_⟩;rw[hu,h2,PX];have:nth vs i=a':=by simp[nth,k1]
    rw[this]
   ·rcases ov t ja.locs with⟨B,off,k1,k2⟩|k
    ·exact .inr (.inl ⟨B,off,q8 hlo.1 t B off k1,by rw[hu,h2,k2]⟩)
    ·exact .inr (.inr (by rw[hu,h2,k]))
  have hgg:∀t g,((unpack ja vs).get t).g=some g->∃sz,ja.vals[g]? = some (t,some sz):=by
   intro t g hg;rcases hget t with⟨i,z,a',h1,_,h3⟩|⟨_,_,_,h3⟩|h3
   ·rw[h3]at hg;cases z with
    |none=>simp at hg
    |some sz=>simp at hg;subst hg;exact⟨sz,h1⟩
   ·rw[h3]at hg;cases hg
   ·rw[h3]at hg;cases hg
  have hγ:∀t g,((unpack ja vs).get t).g=some g->∃g0 z0,(e.get t).g=some g0/\aP e.al g0=some z0/\γ' g=γ g0:=by
   intro t g hg;obtain⟨sz,h1⟩:=hgg t g hg;obtain⟨g0,z0,k1,k2,k3,_⟩:=hg1 g t sz h1;refine⟨g0,z0,k2,k3,?_⟩;show (match gOf g with|some g=>γ g|none=>undef)=γ g0;rw[k1]
  refine⟨S,β,γ',lam,ω',⟨F.wf,F.gro,F.keep,F.le,F.ext,F.hlen,fun l cs hl hcs=>?_,F.tsz,fun t ht=>?_,fun t g z ht hg hz=>?_,fun B n hB=>?_,fun g z hz=>?_,fun b hb=>⟨(F.mine b (hωn b hb)).1.imp (fun hE=>⟨hE.1,fun g hg=>by obtain⟨g',h'⟩:=hωx b g hg;exact hE.2 g' h'⟩) id,(F.mine b (hωn b hb)).2⟩,fun t g hg=>?_,fun g z hz=>?_⟩⟩
  ·rcases F.heap l cs hl hcs with⟨b,x,h1,h2,h3,h4⟩|⟨b,h1,h3,h4⟩
   ·exact .inl ⟨b,x,h1,h2,by rw[hωo b (fun g hg=>by rw[h3]at hg;cases hg)];exact h3,h4⟩
   ·exact .inr ⟨b,h1,by rw[hωo b (fun g hg=>by rw[h3]at hg;cases hg)];exact h3,h4⟩
  ·have hs:=F.slots t ht;rcases hget t with⟨i,z,a',_,h2,h3⟩|⟨B,off,h2,h3⟩|h3
   ·rw[h3];rw[h2]at hs;exact hs
   ·rw[h3];rw[h2]at hs;exact hs
   ·rw[h3];simp[Ent.none,fK,VR]
  ·obtain⟨g0,z0,k1,k2,k3⟩:=hγ t g hg;rw[k3];exact F.grps t g0 z0 ht k1 k2
  ·obtain⟨k1,k2,k3,b,x,k4,k5,k6,k7,k8⟩:=F.lblk B n (s9 hlo.2 B n hB);refine⟨k1,k2,k3,b,x,k4,k5,by rw[hωo b (fun g hg=>by rw[k6]at hg;cases hg)];exact k6,k7,fun i hi=>?_⟩;obtain⟨v,a',m1,m2,m3,m4⟩:=k8 i hi;have hgr:∀g z,((unpack ja vs).get (B+i)).g=some g->aP (unpack ja vs).al g=some z->v=γ' g:=by
    intro g z hg _;obtain⟨g0,z0,p1,p2,p3⟩:=hγ _ g hg;rw[p3];exact m4 g0 z0 p1 p2
   rcases hget (B+i)with⟨j,z,a2,_,h2,h3⟩|⟨B',off,h2,h3⟩|h3
   ·refine⟨v,a2,m1,by rw[h3],?_,hgr⟩;rw[m2]at h2;cases h2;exact m3
   ·rw[m2]at h2;cases h2
   ·exact⟨v,.any,m1,by rw[h3];rfl,by simp[VR],hgr⟩
  ·obtain⟨i,t,sz,h1,h2,h3⟩:=gX ja.vals 0 g z hz;rw[PX]at h2;subst h2;obtain⟨g0,z0,k1,k2,k3,k4⟩:=hg1 g t sz h1;have hγ':γ' g=γ g0:=by
    show (match gOf g with|some g=>γ g|none=>undef)=γ g0;rw[k1]
   rw[hγ'];obtain⟨ad,len,cap,m1,m2,m3,m4⟩:=F.free g0 z0 k3;refine⟨ad,len,cap,m1,m2,m3,m4.imp id ?_⟩;rintro⟨sz',b,off,x,p1,p2,p3,p4,p5,p6⟩;have:sz'=sz:=by
    rcases k4 with k4|k4<;>rw[k4]at p1<;>cases p1;rfl
   subst this;exact⟨sz',b,off,x,h3,p2,p3,p4,hωg b g0 g p5 k1,p6⟩
  ·obtain⟨sz,h1⟩:=hgg t g hg;have:g<ja.vals.length:=by
    rcases PS g ja.vals.length with h|h
    ·exact h
    ·rw[PO h]at h1;cases h1
   show g<ja.vals.length*1000;omega
  ·obtain⟨i,t,sz,h1,h2,h3⟩:=gX ja.vals 0 g z hz;have:i<ja.vals.length:=by
    rcases PS i ja.vals.length with h|h
    ·exact h
    ·rw[PO h]at h1;cases h1
   show g<ja.vals.length*1000;omega
omit [Dr]in
theorem Hu(d:Nat)(h:Hp):kC d h .any= .any:=by cases d<;>rfl
omit [Dr]in
theorem Be(g:AV->AV)(hg:g .any= .any)(vs:List AV)(i:Nat):nth (vs.map g) i=g (nth vs i):=by
 unfold nth;rw[P4,P4,Qp];cases vs[i]? with
 |none=>simp[hg]
 |some v=>rfl
structure Reval (g:AV->AV) (x y:Ent):Prop where
 gr:y.g=x.g
 v:(∃a,x.v= .val a/\y.v= .val (g a))\/(∃B off,x.v= .loc B off/\y.v= .loc B off)
omit [Dr]in
theorem gO(g:AV->AV)(hg:g .any= .any)(vs:List AV)(r:List (Nat×Ent))(hr:∀t,Reval g (cg r t) (cg r t))(t:Nat):∀(l:List (Nat×Option Nat))(k:Nat),
  Reval g (cg (cS vs k l++r) t) (cg (cS (vs.map g) k l++r) t)
 |[],k=>by simpa [cS]using hr t
 |(s,none):: l,k=>by
  simp only[cS,Qb,cg];cases Nat.beq s t with
  |true=>exact⟨rfl,.inl ⟨_,rfl,by simp only[Pq];rw[Be g hg]⟩⟩
  |false=>exact gO g hg vs r hr t l (k+1)
 |(s,some z):: l,k=>by
  simp only[cS,Qb,cg];cases Nat.beq s t with
  |true=>exact⟨rfl,.inl ⟨_,rfl,by simp only[Pq];rw[Be g hg]⟩⟩
  |false=>exact gO g hg vs r hr t l (k+1)
omit [Dr]in
theorem vB(g:AV->AV)(hg:g .any= .any)(ja:JA)(vs:List AV)(t:Nat):Reval g ((unpack ja vs).get t) ((unpack ja (vs.map g)).get t):=by
 refine gO g hg vs _ (fun t=>?_) t ja.vals 0;rcases ov t ja.locs with⟨B,off,_,k2⟩|k
 ·rw[k2];exact⟨rfl,.inr ⟨B,off,rfl,rfl⟩⟩
 ·rw[k];exact⟨rfl,.inl ⟨.any,rfl,by simp[Ent.none,hg]⟩⟩
theorem FR.reval{U:Nat->Prop}{S:aE}{β:List bT}{γ:Nat->Value}{lam:Nat->Option Nat}{ω:Nat->Owner}{e2:Env}{h2:Hp}{S2:aE}{ω2:Nat->Owner}{g:AV->AV}(F:FR c N U e h a w S β γ lam ω)(F2:FR c N U e h2 a w S2 β γ lam ω2)(hg:∀x v,VR S β x v->VR S2 β (g x) v)(hr:∀t,Reval g (e.get t) (e2.get t))(hal:e2.al=e.al)(hlb:e2.lb=e.lb):FR c N U e2 h2 a w S2 β γ lam ω2:=by
 refine⟨F2.wf,F2.gro,F2.keep,F2.le,F2.ext,F2.hlen,F2.heap,F2.tsz,fun t ht=>?_,fun t k z ht hk hz=>?_,fun B n hB=>?_,fun k z hz=>F2.free k z (by rw[<- hal];exact hz),F2.mine,fun t k hk=>?_,fun k z hz=>F2.used.2 k z (by rw[<- hal];exact hz)⟩
 ·have h1:=F.slots t ht;rcases (hr t).v with⟨x,q1,q2⟩|⟨B,off,q1,q2⟩
  ·rw[q1]at h1;rw[q2];exact hg _ _ h1
  ·rw[q1]at h1;rw[q2];exact h1
 ·rw[(hr t).gr]at hk;rw[hal]at hz;exact F2.grps t k z ht hk hz
 ·rw[hlb]at hB;obtain⟨k1,k2,k3,b,x,k4,k5,k6,k7,k8⟩:=F2.lblk B n hB;obtain⟨_,_,_,b',x',j4,j5,j6,j7,j8⟩:=F.lblk B n hB;rw[k4]at j4;cases j4;cases k5.inj j5;refine⟨k1,k2,k3,b,x,k4,k5,k6,k7,fun i hi=>?_⟩;obtain⟨v,a',m1,m2,m3,m4⟩:=k8 i hi;obtain⟨v',a'',n1,n2,n3,_⟩:=j8 i hi;rw[m1]at n1;cases n1;rcases (hr (B+i)).v with⟨y,q1,q2⟩|⟨B',off,q1,q2⟩
  ·rw[n2]at q1;cases q1;refine⟨v,g a'',m1,q2,hg _ _ n3,fun k z hk hz=>?_⟩;rw[(hr (B+i)).gr]at hk;rw[hal]at hz;exact m4 k z hk hz
  ·rw[n2]at q1;cases q1
 ·rw[(hr t).gr]at hk;exact F2.used.1 t k hk
theorem sf{ja:JA}{vs:List AV}(H:kI c N (unpack ja vs) h a w):kI c N (unpack ja (vs.map (kC 6 h))) (h.map fun _=>[]) a w:=by
 obtain⟨S,β,γ,lam,ω,F⟩:=H;obtain⟨S2,ω2,F2,hf⟩:=F.freeze;have F3:=F.reval F2 (g:=kC 6 h) (fun x v hx=>hf _ _ hx) (vB _ (Hu 6 h) ja vs) (e2:=unpack ja (vs.map (kC 6 h))) rfl rfl;exact⟨S2,β,γ,lam,ω2,F3⟩
end
end Go.Av
namespace Go.Av
variable [Dr]
section
variable {P:Program} {cx:Cx} {c:Entry} {e:Env} {h:Hp} {a:Act} {w:World} {ops:Array Oper} {id:Nat}
theorem zK{ρ:Type}(hT:TOK P cx.T)(hC:cK P cx.own cx.call)(hI:IsoCall cx)(hk:∀p,Cs (cG cx.ann.kinds p .L)=true->p<cx.nt){draw:Bool}{k:Env->M ρ}(H:kI c cx.nt e h a w)(hr:od cx id ops draw e k h≠.fail){Q:Exit->Act->World->Prop}(hn:∀e' h' a' w',od cx id ops draw e k h=k e' h'->kI c cx.nt e' h' a' w'->a'.defers=a.defers->Q .normal a' w')(hp:∀pv h' v w' a',od cx id ops draw e k h= .pan pv h'->my c pv h' v w'->a'.defers=a.defers->Q (.panic [{ v,recovered:=false }]) a' w'):
  (Code.region id ops draw).wp P Q a w:=CQ hT hC hI hk H hr hn hp
end
end Go.Av
namespace Go.Av
variable [Dr]
section
variable {P:Program} {Q:Exit->Act->World->Prop} {b:Code}
def kO(P:Program)(c:Code)(Q:Exit->Act->World->Prop)(a:Act)(w:World):Prop:=
 ∀(b:Frame)(k:List Item)(cs:List Frame),∃e a' w',Q e a' w'/\Arrives P (lone (b.at a (.code c:: .inLoop c:: k)) cs w) b k cs e a' w'
omit [Dr]in
theorem kO.loop{a:Act}{w:World}(h:kO P b Q a w):(Code.loop b).wp P Q a w:=
 fun f k cs=>let ⟨e,a',w',q,r⟩:=h f k cs;⟨e,a',w',q,.of_steps (.one step_loop) r⟩
omit [Dr]in
theorem kO.round{a:Act}{w:World}(h:b.wp P (Exit.then (kO P b Q) Q) a w):kO P b Q a w:=by
 intro f k cs;obtain⟨e,a₁,w₁,hq,harr⟩:=h f (.inLoop b:: k) cs;cases e with
 |normal=>
  obtain⟨e₂,a₂,w₂,hq₂,harr₂⟩:=hq f k cs;exact⟨e₂,a₂,w₂,hq₂,.of_steps (Steps.trans harr (.one step_inLoop)) harr₂⟩
 |exit id=>exact⟨_,a₁,w₁,hq,.pass (x:=.inLoop b) rfl (fun _ _=>.inl (by simp)) harr⟩
 |goto l=>exact⟨_,a₁,w₁,hq,.pass (x:=.inLoop b) rfl (fun _ _=>.inl (by simp)) harr⟩
 |ret=>exact⟨_,a₁,w₁,hq,.pass (x:=.inLoop b) rfl (fun _ _=>.inl (by simp)) harr⟩
 |panic ch=>exact⟨_,a₁,w₁,hq,.pass (x:=.inLoop b) rfl (fun _ _=>.inl (by simp)) harr⟩
 |outgrown=>exact⟨_,a₁,w₁,hq,.pass (x:=.inLoop b) rfl (fun _ _=>.inl (by simp)) harr⟩
end
section
variable {P:Program} {cx:Cx} {c:Entry} {ρ:Type}
omit [Dr]in
theorem E0{fx:bG ρ}{id:Nat}{code:Code}{e:Env}{kn kr:Env->M ρ}{kx:Nat->Env->M ρ}(hc:∀b,code≠.loop b):
  ev cx fx (.block id code) e kn kx kr=ev cx fx code e kn (fun i e'=>bif Nat.beq i id then kn e' else kx i e') kr:=by
 cases code<;>first|rfl|exact absurd rfl (hc _)
def zr(cx:Cx)(x:Code):Option JA:=match mX x with
 |some t=>o9 cx.ann.joins t
 |none=>none
omit [Dr]in
theorem Ke{fx:bG ρ}{x y:Code}{e:Env}{kn kr:Env->M ρ}{kx:Nat->Env->M ρ}:ev cx fx (.seq x y) e kn kx kr=(match zr cx x with
  |some ja=>jn (fun vs=>ev cx fx y (unpack ja vs) kn kx kr) fun j=>ev cx fx x e (rT ja j) kx kr
  |none=>ev cx fx x e (fun e'=>ev cx fx y e' kn kx kr) kx kr):=by
 unfold zr;simp only[ev];cases mX x with
 |none=>rfl
 |some t=>
  simp only;cases o9 cx.ann.joins t<;>rfl
structure Posts (c:Entry) (N:Nat) (r:R ρ) (a:Act) (kn:Env->M ρ) (kx:Nat->Env->M ρ) (kr:Env->M ρ) (Q:Exit->Act->World->Prop):Prop where
 nrm:∀e' h' a' w',r=kn e' h'->kI c N e' h' a' w'->a'.defers=a.defers->Q .normal a' w'
 ext:∀i e' h' a' w',r=kx i e' h'->kI c N e' h' a' w'->a'.defers=a.defers->Q (.exit i) a' w'
 ret:∀e' h' a' w',r=kr e' h'->kI c N e' h' a' w'->a'.defers=a.defers->Q .ret a' w'
 pan:∀pv h' v w' a',r= .pan pv h'->my c pv h' v w'->a'.defers=a.defers->Q (.panic [{ v,recovered:=false }]) a' w'
theorem vz{ja:JA}{j:List AV->M ρ}{e:Env}{h:Hp}{N:Nat}{a:Act}{w:World}(H:kI c N e h a w)(hr:rT ja j e h≠.fail):∃vs h',rT ja j e h=j vs h'/\kI c N (unpack ja vs) h' a w:=by
 unfold rT at hr |-;cases hp:pack ja e with
 |none=>rw[hp]at hr;exact absurd rfl hr
 |some vs=>
  have hs:=vC H hp;simp only;cases ja.fz with
  |false=>exact⟨vs,h,rfl,hs⟩
  |true=>exact⟨_,_,rfl,sf hs⟩
theorem E2(hT:TOK P cx.T)(hC:cK P cx.own cx.call)(hI:IsoCall cx)(hk:∀p,Cs (cG cx.ann.kinds p .L)=true->p<cx.nt)(m:Nat):∀(n:Nat)(code:Code),SizeOf.sizeOf code<n->
  ∀(e:Env)(h:Hp)(a:Act)(w:World)(kn:Env->M ρ)(kx:Nat->Env->M ρ)(kr:Env->M ρ)(Q:Exit->Act->World->Prop),kI c cx.nt e h a w->ev cx (da m) code e kn kx kr h≠.fail->
  Posts c cx.nt (ev cx (da m) code e kn kx kr h) a kn kx kr Q->code.wp P Q a w:=by
 intro n
 induction n with
 |zero=>intro code hn;omega
 | succ n ih=>
  intro code hn e h a w kn kx kr Q H hr hp;cases code<;>(try exact absurd rfl hr)
  case skip=>exact wp_skip (hp.nrm e h a w rfl H rfl)
  case exit id=>exact wp_exit (hp.ext id e h a w rfl H rfl)
  case ret=>exact wp_ret (hp.ret e h a w rfl H rfl)
  case region id ops draw=>exact zK hT hC hI hk H hr hp.nrm hp.pan
  case seq x y=>
   have hx:SizeOf.sizeOf x<n:=by simp at hn;omega
   have hy:SizeOf.sizeOf y<n:=by simp at hn;omega
   refine wp_seq ?_;rw[Ke]at hr hp;generalize zr cx x=oj at hr hp;cases oj with
   |none=>
    simp only at hr hp;refine ih x hx e h a w _ kx kr _ H hr ⟨fun e' h' a' w' hok hs hd=>?_,fun i e' h' a' w' hok hs hd=>hp.ext i e' h' a' w' hok hs hd,fun e' h' a' w' hok hs hd=>hp.ret e' h' a' w' hok hs hd,fun pv h' v w' a' hok hs hd=>hp.pan pv h' v w' a' hok hs hd⟩;rw[hok]at hr hp;exact ih y hy e' h' a' w' kn kx kr Q hs hr ⟨fun e2 h2 a2 w2 k1 k2 k3=>hp.nrm e2 h2 a2 w2 k1 k2 (k3.trans hd),fun i e2 h2 a2 w2 k1 k2 k3=>hp.ext i e2 h2 a2 w2 k1 k2 (k3.trans hd),fun e2 h2 a2 w2 k1 k2 k3=>hp.ret e2 h2 a2 w2 k1 k2 (k3.trans hd),fun pv h2 v w2 a2 k1 k2 k3=>hp.pan pv h2 v w2 a2 k1 k2 (k3.trans hd)⟩
   |some ja=>
    simp only[jn]at hr hp;refine ih x hx e h a w _ kx kr _ H hr ⟨fun e' h' a' w' hok hs hd=>?_,fun i e' h' a' w' hok hs hd=>hp.ext i e' h' a' w' hok hs hd,fun e' h' a' w' hok hs hd=>hp.ret e' h' a' w' hok hs hd,fun pv h' v w' a' hok hs hd=>hp.pan pv h' v w' a' hok hs hd⟩;rw[hok]at hr hp;obtain⟨vs,h3,hj,hs3⟩:=vz hs hr;rw[hj]at hr hp;exact ih y hy (unpack ja vs) h3 a' w' kn kx kr Q hs3 hr ⟨fun e2 h2 a2 w2 k1 k2 k3=>hp.nrm e2 h2 a2 w2 k1 k2 (k3.trans hd),fun i e2 h2 a2 w2 k1 k2 k3=>hp.ext i e2 h2 a2 w2 k1 k2 (k3.trans hd),fun e2 h2 a2 w2 k1 k2 k3=>hp.ret e2 h2 a2 w2 k1 k2 (k3.trans hd),fun pv h2 v w2 a2 k1 k2 k3=>hp.pan pv h2 v w2 a2 k1 k2 (k3.trans hd)⟩
  case cond o x y=>
   have hx:SizeOf.sizeOf x<n:=by simp at hn;omega
   have hy:SizeOf.sizeOf y<n:=by simp at hn;omega
   cases o<;>(try exact absurd rfl hr)
   case const v=>
    simp only[ev]at hr hp
    have hav:∀b,cA v= .bool b->a.eval (.const v)= .bool b:=by
     intro b hb;show v= .bool b;cases v with
     |bool c=>simp only[cA,Ax,AV.bool.injEq]at hb;rw[hb]
     |tuple vs=>simp only[cA]at hb;cases hvs:vs.isEmpty<;>rw[hvs]at hb<;>cases hb
     |pointer p=>cases p<;>(simp only[cA,Ax]at hb;cases hb)
     |map p=>cases p<;>(simp only[cA,Ax]at hb;cases hb)
     | slice p n m=>
      have hs:Ax (.slice p n m)= .sl []\/Ax (.slice p n m)= .any:=by
       cases p with
       |some q=>exact .inr rfl
       | none=>cases n with
        |succ n=>exact .inr rfl
        |zero=>cases m with
         |succ m=>exact .inr rfl
         |zero=>exact .inl rfl
      simp only[cA]at hb;rcases hs with hs|hs<;>rw[hs]at hb<;>cases hb
     |_=>simp only[cA,Ax]at hb;cases hb
    cases hq:cA v<;>rw[hq]at hr hp<;>(try exact absurd rfl hr);rename_i b;cases b with
    |true=>exact wp_cond (hav true hq) (ih x hx e h a w kn kx kr Q H hr hp)
    |false=>exact wp_cond (hav false hq) (ih y hy e h a w kn kx kr Q H hr hp)
   rename_i t;simp only[ev]at hr hp;cases ht:decide (t<1000)with
   |false=>rw[ht]at hr;exact absurd rfl hr
   | true=>
    rw[ht]at hr hp;simp only[Pq]at hr hp;have htl:t<1000:=by simpa using ht
    have hav:∀b,e.av t= .bool b->a.eval (.tmp t)= .bool b:=by
     intro b hb;obtain⟨S,β,γ,lam,ω,F⟩:=H;have hs:=F.slots t htl;simp only[Env.av,Ent.av]at hb;cases hv:(e.get t).v with
     |val av=>
      rw[hv]at hs hb;simp only at hb;subst hb;simp only[fK,VR]at hs;exact hs
     |loc B off=>rw[hv]at hb;cases hb
    cases hq:e.av t<;>rw[hq]at hr hp<;>(try exact absurd rfl hr);rename_i b;cases b with
    |true=>exact wp_cond (hav true hq) (ih x hx e h a w kn kx kr Q H hr hp)
    |false=>exact wp_cond (hav false hq) (ih y hy e h a w kn kx kr Q H hr hp)
  case block id code=>
   refine wp_block ?_;by_cases hc:∃b,code= .loop b
   ·obtain⟨b,rfl⟩:=hc;have hb:SizeOf.sizeOf b<n:=by simp at hn;omega
    simp only[ev]at hr hp;cases hja:o9 cx.ann.loops id with
    |none=>rw[hja]at hr;exact absurd rfl hr
    | some ja=>
     rw[hja]at hr hp;simp only at hr hp;refine kO.loop ?_;obtain⟨vs,h3,hj,hs3⟩:=vz H hr;rw[hj]at hr hp;have key:∀(k:Nat)(vs:List AV)(h:Hp)(a1:Act)(w:World),kI c cx.nt (unpack ja vs) h a1 w->a1.defers=a.defers->
       da k (fun self vs=>ev cx (da m) b (unpack ja vs) (rT ja self) (fun i e'=>bif Nat.beq i id then kn e' else kx i e') kr) vs h≠.fail->
       Posts c cx.nt (da k (fun self vs=>ev cx (da m) b (unpack ja vs) (rT ja self) (fun i e'=>bif Nat.beq i id then kn e' else kx i e') kr) vs h) a kn kx kr Q->kO P b (Exit.inBlock id Q) a1 w:=by
      intro k
      induction k with
      |zero=>intro vs h a1 w _ _ hr _;exact absurd rfl hr
      | succ k ihk=>
       intro vs h a1 w hs hd hr hp;simp only[da]at hr hp;refine kO.round (ih b hb (unpack ja vs) h a1 w _ _ kr _ hs hr ⟨fun e' h' a' w' hok hs' hd'=>?_,fun i e' h' a' w' hok hs' hd'=>?_,fun e' h' a' w' hok hs' hd'=>hp.ret e' h' a' w' hok hs' (hd'.trans hd),fun pv h' v w' a' hok hs' hd'=>hp.pan pv h' v w' a' hok hs' (hd'.trans hd)⟩)
       ·rw[hok]at hr hp;obtain⟨vs',h4,hj',hs4⟩:=vz hs' hr;rw[hj']at hr hp;exact ihk vs' h4 a' w' hs4 (hd'.trans hd) hr hp
       ·cases hi:Nat.beq i id with
        |true=>
         rw[hi]at hok
         have:=PI hi
         subst this;show Exit.inBlock i Q (.exit i) a' w';simp only[Exit.inBlock,PF];exact hp.nrm e' h' a' w' hok hs' (hd'.trans hd)
        |false=>
         rw[hi]at hok;have hne:i≠id:=fun hh=>by subst hh;simp at hi
         show Exit.inBlock id Q (.exit i) a' w';simp only[Exit.inBlock,if_neg hne];exact hp.ext i e' h' a' w' hok hs' (hd'.trans hd)
     exact key m vs h3 a w hs3 rfl hr hp
   ·have hc':∀b,code≠.loop b:=fun b hb=>hc ⟨b,hb⟩;rw[E0 hc']at hr hp;have hs:SizeOf.sizeOf code<n:=by simp at hn;omega
    refine ih code hs e h a w kn _ kr _ H hr ⟨fun e' h' a' w' hok hs' hd'=>hp.nrm e' h' a' w' hok hs' hd',fun i e' h' a' w' hok hs' hd'=>?_,fun e' h' a' w' hok hs' hd'=>hp.ret e' h' a' w' hok hs' hd',fun pv h' v w' a' hok hs' hd'=>hp.pan pv h' v w' a' hok hs' hd'⟩;cases hi:Nat.beq i id with
    |true=>
     rw[hi]at hok
     have:=PI hi
     subst this;show Exit.inBlock i Q (.exit i) a' w';simp only[Exit.inBlock,PF];exact hp.nrm e' h' a' w' hok hs' hd'
    |false=>
     rw[hi]at hok;have hne:i≠id:=fun hh=>by subst hh;simp at hi
     show Exit.inBlock id Q (.exit i) a' w';simp only[Exit.inBlock,if_neg hne];exact hp.ext i e' h' a' w' hok hs' hd'
end
end Go.Av
namespace Go.Av
variable [Dr]
omit [Dr]in
theorem qh:∀(args:List AV)(i t:Nat),cg (vU i args) t=if i<=t/\t<i+args.length then⟨.val (nth args (t-i)),none⟩else Ent.none
 |[],i,t=>by
  simp only[vU,cg,Qa,QK];rw[if_neg (by omega)]
 | a:: as0,i,t=>by
  simp only[vU,cE,PW];by_cases h:i=t
  ·subst h;rw[Ps rfl,Ps (by omega)];simp[nth]
  ·rw[if_neg h,qh as0 (i+1) t];by_cases h2:i+1<=t/\t<i+1+as0.length
   ·rw[Ps h2,Ps (by omega)];have:t-i=(t-(i+1))+1:=by omega
    simp[nth,this]
   ·rw[if_neg h2,if_neg (by omega)]
section
variable {P:Program} {cx:Cx}
open Classical in
theorem KU{w:World}{S:aE}{β:List bT}{h:Hp}{args:List AV}{vs:List Value}{n:Nat}(hg:pF S β h w)(hw:Wf S w)(hh:ck S β w h)(hv:bj S β args vs)(hn:args.length<=n)(hn2:n<=1000):
  ∃γ lam ω,FR { w,S,β,E:=bZ β h,gok:=hg } n (fun g=>g<(pG args).nx*1000) (pG args) h { tmps:=vs.toArray++Array.replicate (n-vs.toArray.size) undef,defers:=[] } w S β γ lam ω:=by
 obtain⟨hlen,ω0,hr⟩:=hh;have hvl:=hv.length;have hget:∀t,(pG args).get t=if t<args.length then⟨.val (nth args t),none⟩else Ent.none:=fun t=>by
  have:=qh args 0 t
  simp only[P8,true_and,PX,Sr]at this;exact this
 let ω:Nat->Owner:=fun b=>if bZ β h b then ω0 b else .no;refine⟨fun _=>undef,fun _=>none,ω,⟨hw,Gro.refl _,fun b _ _=>⟨rfl,fun _=>rfl⟩,aE.le_refl S,fk.refl β,hlen,fun l cs hl hcs=>?_,⟨?_,hn2⟩,fun t ht=>?_,fun t g z ht hg=>?_,fun B m hB=>?_,fun g z hz=>?_,fun b hb=>?_,fun t g hg=>?_,fun g z hz=>?_⟩⟩
 ·have hown:∀b n,β[l]? = some (b,n)->ω0 b= .heap l->ω b= .heap l:=fun b n h1 h3=>by
   show (if bZ β h b then ω0 b else .no)=_;rw[Ps ⟨l,cs,_,hl,hcs,h1⟩];exact h3
  rcases hr l cs hl hcs with⟨b,x,h1,h2,h3,h4⟩|⟨b,h1,h3,h4⟩
  ·exact .inl ⟨b,x,h1,h2,hown b _ h1 h3,h4⟩
  ·exact .inr ⟨b,h1,hown b _ h1 h3,h4⟩
 ·simp;omega
 ·rw[hget];split
  ·rename_i hlt;have hx:args[t]? = some (nth args t):=by simp[nth,hlt]
   obtain⟨v,h1,h2⟩:=hv.get hx;have:(vs.toArray++Array.replicate (n-vs.toArray.size) undef).getD t undef=v:=by
    rw[P9,Sg (by simp;omega)];simp[h1]
   rw[this];exact h2
  ·simp[Ent.none,fK,VR]
 ·rw[hget]at hg;split at hg<;>cases hg
 ·cases hB
 ·cases hz
 ·have hb':bZ β h b:=by
   by_cases ho:bZ β h b
   ·exact ho
   ·exact absurd (show ω b= .no from if_neg ho) hb
  obtain⟨l,cs,m,h1,h2,h3⟩:=hb';obtain⟨b',x,k1,k2,k3,_⟩:=hr.own h1 h2;rw[h3]at k1;cases k1;have hω:ω b= .heap l:=by
   show (if bZ β h b then ω0 b else .no)=_;rw[Ps ⟨l,cs,_,h1,h2,h3⟩];exact k3
  exact⟨.inl ⟨⟨l,cs,_,h1,h2,h3⟩,fun g=>by rw[hω];simp⟩,k2⟩
 ·rw[hget]at hg;split at hg<;>cases hg
 ·cases hz
theorem start{w:World}{S:aE}{β:List bT}{h:Hp}{args:List AV}{vs:List Value}{n:Nat}(hg:pF S β h w)(hw:Wf S w)(hh:ck S β w h)(hv:bj S β args vs)(hn:args.length<=n)(hn2:n<=1000):
  kI { w,S,β,E:=bZ β h,gok:=hg } n (pG args) h { tmps:=vs.toArray++Array.replicate (n-vs.toArray.size) undef,defers:=[] } w:=⟨S,β,KU hg hw hh hv hn hn2⟩
def iB(tmps:Array Value):ResultVar->Sem Value
 |.tmp t=>pure (tmps.getD t undef)
 |.cell p t=>do loadVar t (<- asAddr (tmps.getD p undef))
omit [Dr]in
theorem rC(fn:Func)(tmps:Array Value):results fn tmps=(do let vs <- fn.results.mapM (iB tmps);pure (if h:vs.size=1 then vs[0]else .tuple vs)):=by
 unfold results;congr 1
theorem KS{c:Entry}{N:Nat}{U:Nat->Prop}{e:Env}{h:Hp}{a:Act}{w:World}{S:aE}{β:List bT}{γ:Nat->Value}{lam:Nat->Option Nat}{ω:Nat->Owner}(hT:TOK P cx.T)(F:FR c N U e h a w S β γ lam ω){r:ResultVar}{v:AV}(hr:xP cx.T e r=some v):∃u,(iB a.tmps r).run P w= .ok u w/\VR S β v u:=by
 cases r with
 | tmp t=>
  simp only[xP]at hr;cases ht:decide (t<1000)with
  |false=>rw[ht]at hr;cases hr
  | true=>
   rw[ht]at hr;simp only[Pq]at hr;have hs:=F.slots t (by simpa using ht);cases hv:(e.get t).v with
   |loc B off=>rw[hv]at hr;cases hr
   |val av=>
    rw[hv]at hr hs;simp only[Pn]at hr;subst hr;exact⟨_,by simp only[iB,Sem.run_pure],hs⟩
 | cell p t=>
  simp only[xP]at hr;cases hp:decide (p<1000)with
  |false=>rw[hp]at hr;cases hr
  | true=>
   rw[hp]at hr;simp only[Pq]at hr;have hs:=F.slots p (by simpa using hp);cases hv:(e.get p).v with
   | loc B off=>
    rw[hv]at hr hs;cases ht:cx.T t with
    |none=>rw[ht]at hr;cases hr
    | some ti=>
     rw[ht]at hr;simp only at hr;cases hin:mb e B off ti.size with
     |false=>rw[hin]at hr;cases hr
     | true=>
      rw[hin]at hr;simp only[Pq]at hr;simp only[fK]at hs;obtain⟨b,hlam,hpv⟩:=hs;obtain⟨b',x,m,hm,hle,hlam',hrow,hms,hcells⟩:=F.locals hin;rw[hlam]at hlam';cases hlam';let f:Nat->Value:=fun i=>(x[off+i]?).getD undef;have hf:∀i,i<ti.size->x[off+i]? = some (f i):=fun i hi=>by
       obtain⟨v,_,hv',_⟩:=hcells i hi;show _=some ((x[off+i]?).getD undef);rw[hv'];rfl
      have hload:=pi hT ht hrow f hf;have hexec:∀v,(loadVar t ⟨b,off,none⟩).run P w= .ok v w->(iB a.tmps (.cell p t)).run P w= .ok v w:=fun v hv'=>by
       simp only[iB];rw[hpv];simpa [asAddr]using hv'
      cases hag:ti.agg with
      |true=>
       rw[hag]at hr;simp only[Pq,Pn]at hr;subst hr;refine⟨_,hexec _ (hload.1 hag),?_⟩;simp only[VR];refine⟨_,rfl,qJ ti.size fun i hi=>?_⟩;obtain⟨v,a',g1,g2,g3,_⟩:=hcells i hi;have:f i=v:=by show (x[off+i]?).getD undef=v;rw[g1];rfl
       rw[this];simp only[Env.av,Ent.av,g2];exact g3
      | false=>
       rw[hag]at hr;simp only[Py]at hr;cases hone:decide (ti.size=1)with
       |false=>rw[hone]at hr;cases hr
       |true=>
        rw[hone]at hr;simp only[Pq,Pn]at hr;subst hr;have hone':ti.size=1:=by simpa using hone
        obtain⟨v,a',g1,g2,g3,g4⟩:=hcells 0 (by omega);simp only[QK]at g1 g2 g4;have hfv:f 0=v:=by show (x[off+0]?).getD undef=v;rw[QK,g1];rfl
        refine⟨v,hexec _ (hfv▸hload.2 hag hone'),?_⟩;simp only[Env.av,Ent.av,g2];exact g3
   | val av=>
    rw[hv]at hr hs;cases ht:cx.T t with
    |none=>rw[ht]at hr;cases hr
    |some ti=>
     rw[ht]at hr;simp only at hr;obtain⟨v,h1,h2⟩:=A5 hT F.wf hr hs;refine⟨v,?_,h2⟩;unfold ah at hr;rw[ht]at hr;cases av<;>simp only[reduceCtorEq]at hr;simp only[fK,VR]at hs;obtain⟨b,off,vs,hpv,_,_⟩:=hs;simp only[iB];rw[hpv]at h1 |-;simpa [Instr.loadAt,Instr.sureAddr,asAddr]using h1
theorem zL{c:Entry}{N:Nat}{U:Nat->Prop}{e:Env}{h:Hp}{a:Act}{w:World}{S:aE}{β:List bT}{γ:Nat->Value}{lam:Nat->Option Nat}{ω:Nat->Owner}(hT:TOK P cx.T)(F:FR c N U e h a w S β γ lam ω){fn:Func}{vs:List AV}(hr:gI cx.T e fn.results.toList=some vs):∃u,(results fn a.tmps).run P w= .ok u w/\VR S β (mq vs) u:=by
 have key:∀(l:List ResultVar)(vs:List AV),gI cx.T e l=some vs->∃us:List Value,(l.mapM (iB a.tmps)).run P w= .ok us w/\bj S β vs us:=by
  intro l
  induction l with
  |nil=>intro vs h;simp only[gI,Pn]at h;subst h;exact⟨[],by simp,by simp[bj]⟩
  | cons r rs ih=>
   intro vs h;simp only[gI]at h;cases h1:xP cx.T e r with
   |none=>rw[h1]at h;cases h
   | some v=>
    cases h2:gI cx.T e rs with
    |none=>rw[h1,h2]at h;cases h
    |some vs'=>
     rw[h1,h2]at h;simp only[Pn]at h;subst h;obtain⟨u,k1,k2⟩:=KS hT F h1;obtain⟨us,m1,m2⟩:=ih vs' h2;refine⟨u:: us,?_,by simp only[bj];exact⟨u,us,rfl,k2,m2⟩⟩;rw[List.mapM_cons,Sem.run_bind,k1,Result.andThen_ok,Sem.run_bind,m1,Result.andThen_ok,Sem.run_pure]
 obtain⟨us,k1,k2⟩:=key _ _ hr;have hlen:=k2.length;have hrun:(fn.results.mapM (iB a.tmps)).run P w= .ok us.toArray w:=by
  rw[Sm];rw[map_eq_pure_bind,Sem.run_bind,k1,Result.andThen_ok,Sem.run_pure]
 refine⟨if h:us.toArray.size=1 then us.toArray[0]else .tuple us.toArray,?_,?_⟩
 ·rw[rC,Sem.run_bind,hrun,Result.andThen_ok,Sem.run_pure]
 ·unfold mq;split
  ·rename_i v;cases us with
   |nil=>simp at hlen
   |cons u us=>
    cases us with
    |nil=>simp only[bj]at k2;obtain⟨x,xs,hx,hy,_⟩:=k2;simp at hx;simp[hx.1,hy]
    |cons u2 us=>simp at hlen
  ·rename_i hne;rw[dif_neg]
   ·simp only[VR];exact⟨us,rfl,k2⟩
   ·intro h1;have:vs.length=1:=by rw[<- hlen];simpa using h1
    match vs,this with
    |[v],_=>exact hne v rfl
end
end Go.Av
namespace Go.Av
variable [Dr]
omit [Dr]in
theorem xi{n:Nat}{ks:List (Nat×Kind)}(h:nq n ks=true):∀p,Cs (cG ks p .L)=true->p<n:=by
 intro p hp
 induction ks with
 |nil=>simp[cG,Cs]at hp
 | cons x ks ih=>
  obtain⟨k,y⟩:=x;unfold nq at h;simp only[P5,Po]at h;simp only[cG]at hp;cases hk:Nat.beq k p with
  |true=>
   rw[hk]at hp;simp only[Pq]at hp
   have:=h.1
   rw[hp]at this;have hk':=PI hk;subst hk';simpa using this
  |false=>
   rw[hk]at hp;exact ih h.2 hp
section
variable {P:Program} {cx:Cx}
theorem KO{c:Entry}{N:Nat}{U:Nat->Prop}{e:Env}{h:Hp}{a:Act}{w:World}{S:aE}{β:List bT}{γ:Nat->Value}{lam:Nat->Option Nat}{ω:Nat->Owner}(F:FR c N U e h a w S β γ lam ω){fn:Func}{sz:Nat}(ho:uQ fn e sz=true){u:Value}(hu:(results fn a.tmps).run P w= .ok u w):tW c.w.heap.size S β w h sz u:=by
 unfold uQ at ho;split at ho
 ·rename_i t hres;cases ht:decide (t<1000)with
  |false=>rw[ht]at ho;cases ho
  | true=>
   rw[ht]at ho;simp only[QJ]at ho;split at ho
   ·rename_i g hg;split at ho
    ·rename_i z hz;have hgr:=F.grps t g z (by simpa using ht) hg hz;obtain⟨ad,len,cap,h1,h2,h3,h4⟩:=F.free g z hz;have hue:u=a.tmps.getD t undef:=by
      have hr:fn.results= #[.tmp t]:=by apply QW;simpa using hres
      rw[rC,hr]at hu;simp[iB]at hu;simpa using hu.symm
     rw[hue,hgr];refine⟨ad,len,cap,h1,h2,h3,h4.imp id ?_⟩;rintro⟨sz',b,off,x,k1,k2,k3,k4,k5,k6⟩;have hsz:sz'=sz:=by
      rw[k1]at ho;simp only[vu]at ho;exact PI ho
     subst hsz;refine⟨b,off,x,k2,k3,k4,(F.mine b (by rw[k5];simp)).1.grp k5,fun hb=>?_,k6⟩;obtain⟨l,_,hl,_⟩:=F.hown hb;rw[k5]at hl;cases hl
    ·cases ho
   ·cases ho
 ·cases ho
omit [Dr]in
theorem Gc{fn:Func}{own:Option Nat}{e:Env}{h:Hp}(hr:jS cx fn own e h≠.fail):∃rs,gI cx.T e fn.results.toList=some rs/\(jS cx fn own e h= .ok (mq rs) h\/(own=none/\jS cx fn own e h= .ok (kC 6 h (mq rs)) (h.map fun _=>[])))/\∀sz,own=some sz->uQ fn e sz=true:=by
 have key:∀b z:Bool,(bif b then ae (af ((gI cx.T e fn.results.toList).map mq)) (bif z then(bif own.isSome then fun _=>M.fail else AP)else M.pure)else M.fail:M AV) h≠.fail->b=true/\∃rs,gI cx.T e fn.results.toList=some rs/\
   ((bif b then ae (af ((gI cx.T e fn.results.toList).map mq)) (bif z then(bif own.isSome then fun _=>M.fail else AP)else M.pure)else M.fail:M AV) h= .ok (mq rs) h\/
    (own=none/\(bif b then ae (af ((gI cx.T e fn.results.toList).map mq)) (bif z then(bif own.isSome then fun _=>M.fail else AP)else M.pure)else M.fail:M AV) h= .ok (kC 6 h (mq rs)) (h.map fun _=>[]))):=by
  intro b z hr;cases b with
  |false=>exact absurd rfl hr
  | true=>
   refine⟨rfl,?_⟩;cases hres:gI cx.T e fn.results.toList with
   |none=>rw[hres]at hr;exact absurd rfl hr
   | some rs=>
    rw[hres]at hr;cases z with
    |false=>exact⟨rs,rfl,.inl rfl⟩
    |true=>
     cases own with
     |none=>exact⟨rs,rfl,.inr ⟨rfl,rfl⟩⟩
     |some sz=>exact absurd rfl hr
 unfold jS at hr |-;cases own with
 |none=>
  obtain⟨_,rs,h1,h2⟩:=key true _ hr;exact⟨rs,h1,h2,fun sz hsz=>by cases hsz⟩
 |some sz=>
  obtain⟨h0,rs,h1,h2⟩:=key _ _ hr;exact⟨rs,h1,h2,fun sz' hsz=>by cases hsz;exact h0⟩
theorem iN(hT:TOK P cx.T)(hC:cK P cx.own cx.call)(hI:IsoCall cx)(m:Nat){f:FuncId}{fn:Func}(hf:P.funcs[f]? = some fn)(hnt:cx.nt=fn.ntmps){own:Option Nat}{args:List AV}{h:Hp}{S:aE}{β:List bT}{w:World}{vs:List Value}(hr:cN cx (da m) fn own args h≠.fail)(hg:pF S β h w)(hw:Wf S w)(hh:ck S β w h)(hv:bj S β args vs):Calls P f vs.toArray w (dt own S β h w (cN cx (da m) fn own args h))/\fn.body.isSome=true:=by
 unfold cN at hr |-;cases hb:fn.body with
 |none=>rw[hb]at hr;exact absurd rfl hr
 | some code=>
  rw[hb]at hr;simp only at hr |-;refine⟨?_,rfl⟩;cases hc:(decide (args.length<=fn.ntmps)&&decide (fn.ntmps<=1000)&&nq cx.nt cx.ann.kinds)with
  |false=>rw[hc]at hr;exact absurd rfl hr
  | true=>
   rw[hc]at hr;simp only[Pq]at hr |-;simp only[Po,Pt]at hc;obtain⟨⟨hc1,hc2⟩,hc3⟩:=hc;have H:kI { w,S,β,E:=bZ β h,gok:=hg } cx.nt (pG args) h { tmps:=vs.toArray++Array.replicate (fn.ntmps-vs.toArray.size) undef,defers:=[] } w:=by
    rw[hnt];exact start hg hw hh hv hc1 hc2
   have hret:∀(e':Env)(h':Hp)(a':Act)(w':World),ev cx (da m) code (pG args) (jS cx fn own) (fun _ _=>M.fail) (jS cx fn own) h=jS cx fn own e' h'->
     kI { w,S,β,E:=bZ β h,gok:=hg } cx.nt e' h' a' w'->∃v,(results fn a'.tmps).run P w'= .ok v w'/\dt own S β h w (ev cx (da m) code (pG args) (jS cx fn own) (fun _ _=>M.fail) (jS cx fn own) h) (.returned v) w':=by
    intro e' h' a' w' hok hs;rw[hok]at hr |-;obtain⟨rs,hres,hret,hown⟩:=Gc hr;obtain⟨S',β',γ,lam,ω,F⟩:=hs;obtain⟨u,hu1,hu2⟩:=zL (P:=P) hT F hres;rcases hret with hret|⟨rfl,hret⟩
    ·rw[hret];exact⟨u,hu1,S',β',u,rfl,hu2,F.out,fun sz hsz=>KO F (hown sz hsz) hu1⟩
    ·rw[hret];obtain⟨S2,ω2,F2,hf⟩:=F.freeze;exact⟨u,hu1,S2,β',u,rfl,hf _ _ hu2,F2.out,fun sz hsz=>by cases hsz⟩
   refine calls_of_wp hf hb (E2 hT hC hI (xi hc3) m _ code (RV _) (pG args) h _ w _ _ _ _ H hr ⟨fun e' h' a' w' hok hs hd=>?_,fun i e' h' a' w' hok hs hd=>?_,fun e' h' a' w' hok hs hd=>?_,fun pv h' v w' a' hok hs hd=>?_⟩)
   ·exact⟨hd,hret e' h' a' w' hok hs⟩
   ·rw[hok]at hr;exact absurd rfl hr
   ·exact⟨hd,hret e' h' a' w' hok hs⟩
   ·refine⟨hd,?_⟩;rw[hok];obtain⟨S',β',hout,hvr⟩:=hs;exact⟨S',β',v,rfl,hvr,hout⟩
end
open Classical in
theorem AX{S:aE}{β:List bT}{w w':World}{h:Hp}(_hw:Wf S w)(hh:ck S β w h){β0:List bT}{h0:Hp}(hE:∀b,¬bZ β0 h0 b){S':aE}{β':List bT}{h':Hp}(L:Left (bZ β0 h0) S β0 w S' β' w' h'):∃S2,Left (bZ β h) S β w S2 β w' h/\(∀a v,VR S' β' a v->VR S2 β (kC 6 h' a) v)/\∀sz v,tW w.heap.size S' β' w' h' sz v->tW w.heap.size S2 β w' h sz v:=by
 obtain⟨hlen,ω,hH⟩:=L.heap;have hnew:∀b,bZ β' h' b->w.heap.size<=b:=fun b hb=>(L.owned b hb).resolve_left (hE b);let S2:aE:=fun b o=>if bZ β' h' b then w'.cell? ⟨b,o,none⟩else S' b o;have hS2n:∀b,¬bZ β' h' b->∀o,S2 b o=S' b o:=fun b hb o=>if_neg hb;have hS2y:∀b,bZ β' h' b->∀o,S2 b o=w'.cell? ⟨b,o,none⟩:=fun b hb o=>Ps hb;have hle:S'.le S2:=by
  intro b o v hv;by_cases hb:bZ β' h' b
  ·obtain⟨l,cs,n,h1,h2,h3⟩:=hb;obtain⟨b',x,k1,k2,k3,k5⟩:=hH.own h1 h2;rw[h3]at k1;cases k1;rw[k5]at hv;cases hv
  ·rw[hS2n b hb];exact hv
 have hrow:∀b,b<w.heap.size->w'.heap[b]? = w.heap[b]? /\∀o,S2 b o=S b o:=by
  intro b hb;have hk:=L.keep b hb (hE b);refine⟨hk.1,fun o=>?_⟩;rw[hS2n b (fun ho=>by have:=hnew b ho;omega)];exact hk.2 o
 have hwf:Wf S2 w':=by
  intro b o v hv;by_cases hb:bZ β' h' b
  ·rw[hS2y b hb]at hv;exact hv
  ·rw[hS2n b hb]at hv;exact L.wf b o v hv
 obtain⟨hlen0,ω0,hH0⟩:=hh;have hlt0:∀b,bZ β h b->b<w.heap.size:=by
  rintro b ⟨l,cs,n,h1,h2,h3⟩;obtain⟨b',x,k1,k2,_⟩:=hH0.own h1 h2;rw[h3]at k1;cases k1;exact k2
 have hle0:S.le S2:=aE.le_trans L.le hle;refine⟨S2,⟨hle0,fk.refl β,hwf,L.gro,fun b hb _=>hrow b hb,⟨hlen0,ω0,hH0.rows hle0 (fk.refl β) hlen0 fun l cs hl _=>.inl ⟨hl,fun b hb ho=>⟨ho,(hrow b hb).1,fun o h=>by rw[(hrow b hb).2];exact h⟩⟩⟩,fun b hb=>.inl hb⟩,fun a v hv=>uB hH hle (fun b o x hb hr=>?_) 6 a v hv,fun sz v=>?_⟩
 ·rw[hS2y b hb,hr.cell]
 ·rintro⟨ad,len,cap,k1,k2,k3,k4⟩;refine⟨ad,len,cap,k1,k2,k3,k4.imp id ?_⟩;rintro⟨b,off,x,p1,p2,p3,p4,p5,p6⟩;refine⟨b,off,x,p1,p2,p3,p4,fun hb=>?_,fun o ho=>by rw[hS2n b p5];exact p6 o ho⟩
  have:=hlt0 b hb
  omega
theorem xg{S:aE}{β:List bT}{w w':World}{h:Hp}{own:Option Nat}{m:List AV->M AV}{args:List AV}{en:Ending}(hw:Wf S w)(hh:ck S β w h)(hp:dt own S [] [] w (m (dp az args) []) en w'):dt own S β h w (iW m args h) en w':=by
 have key:=fun{S':aE} {β':List bT} {h':Hp} (L:Left (bZ [] []) S [] w S' β' w' h')=>AX hw hh (by rintro b ⟨l,cs,n,h1,_⟩;simp at h1) L;unfold iW;cases hm:m (dp az args) []with
 |fail=>rw[hm]at hp;exact hp.elim
 |ok r h'=>
  rw[hm]at hp;obtain⟨S',β',v,h1,h2,h3,h4⟩:=hp;obtain⟨S2,k1,k2,k3⟩:=key h3;exact⟨S2,β,v,h1,k2 r v h2,k1,fun sz hsz=>k3 sz v (h4 sz hsz)⟩
 |pan r h'=>
  rw[hm]at hp;obtain⟨S',β',v,h1,h2,h3⟩:=hp;obtain⟨S2,k1,k2,k3⟩:=key h3;exact⟨S2,β,v,h1,k2 r v h2,k1⟩
structure GoodPg (P:Program) (p:Pg):Prop where
 tok:TOK P p.T
 funcs:∀f fn a,p.funcs f=some (fn,a)->P.funcs[f]? = some fn/\(fn.name== "runtime.NumGoroutine")=false
 other:∀f E,p.other f=some E->∀call,cK P p.own call->∀(args:List AV)(h:Hp)(S:aE)(β:List bT)(w:World)(vs:List Value),E call args h≠.fail->pF S β h w->Wf S w->ck S β w h->bj S β args vs->
  Calls P f vs.toArray w (dt (p.own f) S β h w (E call args h))/\(P.funcs[f]?).any (fun fn=>fn.body.isSome&&!(fn.name== "runtime.NumGoroutine"))=true
 nw:∀f,p.nw f=true->∃E,p.other f=some E/\∀call args,yD (E call args)
omit [Dr]in
theorem ck.nil{S:aE}{w:World}:ck S [] w []:=⟨rfl,fun _=>.no,fun l cs hl=>by simp at hl⟩
theorem wy{P:Program}{p:Pg}(G:GoodPg P p)(m:Nat){call:FuncId->List AV->M AV}(hC:cK P p.own call)(hI:∀n a,IsoCall (p.cx call n a)):cK P p.own (jm p call (da m)):=by
 intro f args h S β w vs hr hg hw hh hv;unfold jm at hr |-;cases ho:p.other f with
 |some E=>rw[ho]at hr;exact G.other f E ho call hC args h S β w vs hr hg hw hh hv
 | none=>
  rw[ho]at hr;simp only at hr |-;cases hf:p.funcs f with
  |none=>rw[hf]at hr;exact absurd rfl hr
  | some x=>
   obtain⟨fn,a⟩:=x;rw[hf]at hr;simp only at hr |-;obtain⟨hf1,hf2⟩:=G.funcs f fn a hf
   have hany:fn.body.isSome=true->(P.funcs[f]?).any (fun fn=>fn.body.isSome&&!(fn.name== "runtime.NumGoroutine"))=true:=by
    intro hb;rw[hf1];simp only[Option.any_some,hb,hf2,Qe,Ry]
   cases hi:a.iso with
   |false=>
    rw[hi]at hr;simp only[Py]at hr |-;obtain⟨h1,h2⟩:=iN (cx:=p.cx call fn.ntmps a) G.tok hC (hI _ _) m hf1 rfl hr hg hw hh hv;exact⟨h1,hany h2⟩
   | true=>
    rw[hi]at hr;simp only[Pq]at hr |-;have hr':cN (p.cx call fn.ntmps a) (da m) fn (p.own f) (dp az args) []≠.fail:=by
     intro hf;unfold iW at hr;rw[hf]at hr;exact hr rfl
    obtain⟨h1,h2⟩:=iN (cx:=p.cx call fn.ntmps a) G.tok hC (hI _ _) m hf1 rfl hr' ⟨hg.1,fun b _ hb=>by obtain⟨l,_,_,h1,_⟩:=hb;simp at h1,hg.2.2⟩ hw ck.nil (wk hv);exact⟨h1.mono fun en w' hp=>xg hw hh hp,hany h2⟩
omit [Dr]in
theorem zf(p:Pg)(hN:∀f,p.nw f=true->∃E,p.other f=some E/\∀call args,yD (E call args)):∀n k a,IsoCall (p.cx (dA p n) k a)
 |0,k,a=>⟨fun f args _=>⟨none,fun _=>rfl⟩,fun f args _ h v h' hh=>by cases hh⟩
 | n+1,k,a=>by
  refine⟨?_,fun f args hf=>?_⟩
  case refine_2=>
   obtain⟨E,hE,hn⟩:=hN f hf;have:(p.cx (dA p (n+1)) k a).call f args=E (dA p n) args:=by
    show jm p (dA p n) (da n) f args=_;unfold jm;rw[hE]
   rw[this];exact hn _ _
  intro f args hi;have hi':p.iso f=true:=hi;unfold Pg.iso at hi';cases ho:p.other f with
  |some E=>rw[ho]at hi';cases hi'
  | none=>
   rw[ho]at hi';simp only at hi';cases hf:p.funcs f with
   |none=>rw[hf]at hi';cases hi'
   |some x=>
    obtain⟨fn,b⟩:=x;rw[hf]at hi';simp only at hi';refine⟨match cN (p.cx (dA p n) fn.ntmps b) (da n) fn (p.own f) (dp az args) []with|.ok r h'=>some (true,kC 6 h' r)|.pan v h'=>some (false,kC 6 h' v)|.fail=>none,fun h=>?_⟩;show jm p (dA p n) (da n) f args h=_;unfold jm;rw[ho];simp only;rw[hf];simp only[hi',Pq,iW];cases cN (p.cx (dA p n) fn.ntmps b) (da n) fn (p.own f) (dp az args) []<;>rfl
theorem m6{P:Program}{p:Pg}(G:GoodPg P p):∀n,cK P p.own (dA p n)
 |0=>fun _f _args _h _S _β _w _vs hr=>absurd rfl hr
 |n+1=>wy G n (m6 G n) fun k a=>zf p G.nw n k a
end Go.Av
namespace Go.Av
def Ft{m:List AV->M AV}{ms:Nat->List AV->M AV}(h:bN m ms)(args:List AV):aL (iW m args) fun n=>iW (ms n) args:=by
 intro x;obtain⟨h1,h2⟩:=h (dp az args) []
 (try dsimp only at h1 h2)
 refine⟨fun hne=>?_,fun n hne=>?_⟩
 ·have hne':m (dp az args) []≠.fail:=fun hf=>hne (by simp only[iW,hf]);obtain⟨N,hN⟩:=h1 hne';refine⟨N,fun n hn=>?_⟩
  (try dsimp only)
  simp only[iW,hN n hn]
 ·(try dsimp only at hne |-)
  have hne':ms n (dp az args) []≠.fail:=fun hf=>hne (by simp only[iW,hf]);simp only[iW,h2 n hne']
def eC(p:Pg):Prop:=∀f E,p.other f=some E->∀(call:FuncId->List AV->M AV)(calls:Nat->FuncId->List AV->M AV),(∀f,bN (call f) fun n=>calls n f)->bN (E call) fun n=>E (calls n)
section
variable {cx:Cx} {call:FuncId->List AV->M AV} {calls:Nat->FuncId->List AV->M AV} {fx:bG AV} {fxs:Nat->bG AV}
theorem ze(hc:∀f,bN (call f) fun n=>calls n f)(hfx:nT fx fxs)(hfc:vG fx)(hfcs:∀n,vG (fxs n))(fn:Func)(own:Option Nat):
  bN (cN (cx.wc call) fx fn own) fun n=>cN (cx.wc (calls n)) (fxs n) fn own:=by
 intro args;unfold cN;cases fn.body with
 |none=>exact aL.const _
 | some c=>
  have key:∀b:Bool,aL (bif b then ev (cx.wc call) fx c (pG args) (jS (cx.wc call) fn own) (fun _ _=>M.fail) (jS (cx.wc call) fn own)else M.fail) fun n=>(bif b then ev (cx.wc (calls n)) (fxs n) c (pG args) (jS (cx.wc (calls n)) fn own) (fun _ _=>M.fail) (jS (cx.wc (calls n)) fn own)else M.fail):=by
   intro b;cases b with
   |false=>exact aL.const _
   |true=>
    have hr:bN (jS (cx.wc call) fn own) fun n=>jS (cx.wc (calls n)) fn own:=bN.const (jS cx fn own);exact Kd _ c (RV _) call calls fx fxs hc hfx hfc hfcs (pG args) _ (fun n=>jS (cx.wc (calls n)) fn own) _ (fun _ _ _=>M.fail) _ (fun n=>jS (cx.wc (calls n)) fn own) hr (fun i=>bN.const _) hr
  exact key (decide (args.length<=fn.ntmps)&&decide (fn.ntmps<=1000)&&nq cx.nt cx.ann.kinds)
theorem sP{p:Pg}(hO:eC p)(hc:∀f,bN (call f) fun n=>calls n f)(hfx:nT fx fxs)(hfc:vG fx)(hfcs:∀n,vG (fxs n))(f:FuncId):bN (jm p call fx f) fun n=>jm p (calls n) (fxs n) f:=by
 intro args;unfold jm;cases ho:p.other f with
 |some E=>exact hO f E ho call calls hc args
 | none=>
  simp only;cases p.funcs f with
  |none=>exact aL.const _
  |some x=>
   obtain⟨fn,a⟩:=x;simp only;have hb:=ze (cx:=p.cx call fn.ntmps a) hc hfx hfc hfcs fn (p.own f);cases a.iso with
   |true=>exact Ft hb args
   |false=>exact hb args
end
theorem o4{p:Pg}(hO:eC p):∀n f args,yv (dA p n f args) (dA p (n+1) f args)
 |0,f,args=>fun x hne=>absurd rfl hne
 | n+1,f,args=>by
  have hc:∀f,bN (dA p (n+1) f) fun m=>(if m=0 then dA p n else dA p (n+1)) f:=by
   intro f args x;refine⟨fun _=>⟨1,fun m hm=>?_⟩,fun m hne=>?_⟩
   ·(try dsimp only)
    rw[if_neg (by omega)]
   ·(try dsimp only at hne |-)
    by_cases h0:m=0
    ·rw[Ps h0]at hne |-;exact o4 hO n f args x hne
    ·rw[if_neg h0]
  have h:=sP hO hc (wK n) (uy (n+1)) (fun m=>by
   by_cases h0:m=0
   ·rw[Ps h0];exact uy n
   ·rw[if_neg h0];exact uy (n+1)) f args
  intro x hne
  have:=(h x).2 0
  (try dsimp only at this)
  rw[Ps rfl,Ps rfl]at this;exact this hne
def ut{p:Pg}(hO:eC p){n m:Nat}(h:n<=m)(f:FuncId)(args:List AV):yv (dA p n f args) (dA p m f args):=by
 induction m with
 | zero => have:n=0:=by omega
           subst this;exact .refl _
 |succ m ih=>
  by_cases hn:n=m+1
  ·subst hn;exact .refl _
  ·exact (ih (by omega)).trans (o4 hO m f args)
open Classical in
noncomputable def ai(p:Pg)(f:FuncId)(args:List AV):M AV:=fun h=>if hx:∃n,dA p n f args h≠.fail then dA p (Classical.choose hx) f args h else .fail
def lO{p:Pg}(hO:eC p)(f:FuncId):bN (ai p f) fun n=>dA p n f:=by
 intro args h;refine sL (fun n m hnm hne=>ut hO hnm f args h hne) ?_;unfold ai;by_cases hx:∃n,dA p n f args h≠.fail
 ·left;simp only[dif_pos hx];exact⟨_,RX hx,rfl⟩
 ·right;simp only[dif_neg hx];exact⟨fun n=>Sk fun h=>hx ⟨n,h⟩,trivial⟩
def p9.uniq{α:Type}{a a':R α}{b:Nat->R α}(h:p9 a b)(g:p9 a' fun n=>b (n+1)):a=a':=by
 by_cases ha:a= .fail
 ·by_cases ha':a'= .fail
  ·rw[ha,ha']
  ·obtain⟨N,hN⟩:=g.1 ha';have h1:=hN N (Pw _)
   (try dsimp only at h1)
   exact (h.2 (N+1) (by rw[h1];exact ha')).symm.trans h1
 ·obtain⟨N,hN⟩:=h.1 ha;have h1:=hN (N+1) (by omega);have h2:=g.2 N
  (try dsimp only at h2)
  exact h1.symm.trans (h2 (by rw[h1];exact ha))
def ql{p:Pg}(hO:eC p)(f:FuncId)(args:List AV):ai p f args=jm p (ai p) aj f args:=by
 funext h;have h1:=lO hO f args h;have h2:=sP hO (fun f=>lO hO f) wJ E8 (fun n=>uy n) f args h;exact h1.uniq h2
def we[Dr]{P:Program}{p:Pg}(G:GoodPg P p)(hO:eC p):cK P p.own (ai p):=by
 intro f args h S β w vs hr hg hw hh hv;obtain⟨N,hN⟩:=(lO hO f args h).1 hr;have h1:=hN N (Pw _)
 (try dsimp only at h1)
 rw[<- h1]at hr |-;exact m6 G N f args h S β w vs hr hg hw hh hv
def EL{p:Pg}(hO:eC p){n:Nat}{f:FuncId}{args:List AV}{h:Hp}{r:R AV}(hr:dA p n f args h=r)(hne:r≠.fail):ai p f args h=r:=by
 have:=(lO hO f args h).2 n (by(try dsimp only);rw[hr];exact hne)
 (try dsimp only at this)
 rw[<- this,hr]
end Go.Av
namespace Go.Av
section
variable {ρ:Type}
theorem aT{F:(List AV->M ρ)->List AV->M ρ}(hF:mc F)(vs:List AV):aj F vs=F (aj F) vs:=by
 funext h;exact (gY hF vs h).uniq (hF _ _ (gY hF) vs h)
theorem aw{c:AV}{x y:M ρ}{xs ys:Nat->M ρ}(hx:aL x xs)(hy:aL y ys):aL (ap c x y) fun n=>ap c (xs n) (ys n):=by
 unfold ap;cases c with
 |bool b=>cases b<;>first|exact hx|exact hy
 |_=>exact aL.const _
theorem sU{F:(List AV->M ρ)->List AV->M ρ}{Fs:Nat->(List AV->M ρ)->List AV->M ρ}(h1:bQ F Fs)(h2:mc F)(h3:∀n,mc (Fs n)):bN (aj F) fun n=>aj (Fs n):=E8 F Fs h1 h2 h3
end
end Go.Av
namespace Go.Av
def aI(m:M AV):M AV:=fun h=>match m []with
 |.ok r h'=>.ok (kC 6 h' r) h
 |.pan v h'=>.pan (kC 6 h' v) h
 |.fail=>.fail
def aA{p:Pg}(hO:eC p){f:FuncId}{fn:Func}{a:Ann}(h1:p.other f=none)(h2:p.funcs f=some (fn,a))(h3:a.iso=true)(args:List AV):
  ai p f args=aI (cN (p.cx (ai p) fn.ntmps a) aj fn (p.own f) (dp az args)):=by
 rw[ql hO];unfold jm;rw[h1];simp only;rw[h2];simp only[h3,Pq];rfl
def cu{p:Pg}(hO:eC p){f:FuncId}{fn:Func}{a:Ann}(h1:p.other f=none)(h2:p.funcs f=some (fn,a))(h3:a.iso=false)(args:List AV):
  ai p f args=cN (p.cx (ai p) fn.ntmps a) aj fn (p.own f) args:=by
 rw[ql hO];unfold jm;rw[h1];simp only;rw[h2];simp only[h3,Py]
def fN{p:Pg}(hO:eC p){f:FuncId}{E:(FuncId->List AV->M AV)->List AV->M AV}(h1:p.other f=some E)(args:List AV):ai p f args=E (ai p) args:=by
 rw[ql hO];unfold jm;rw[h1]
def fe(T:TT)(t:TypeId):(FuncId->List AV->M AV)->List AV->M AV:=fun _ args=>match args with
 |[.sl es]=>af (cQ T t (.sl []) (.sl es))
 |_=>M.fail
def fV(T:TT)(t:TypeId):(FuncId->List AV->M AV)->List AV->M AV:=fun _ args=>match args with
 |[.sl es]=>appH T t true (.sl []) (.sl es)
 |_=>M.fail
def ym(t:TypeId)(k:IntKind)(zero:AV):R AV->R AV
 |.ok v h'=>bif b9 4 v then .ok (.tup [.agg (ab v),.int k 0]) h' else .fail
 |.pan (.iface t' (.int k' n)) h'=>bif Nat.beq t' t&&decide (k'=k)then .ok (.tup [zero,.int k n]) h' else .fail
 |_=>.fail
def yk(t:TypeId)(k:IntKind)(zero:AV):(FuncId->List AV->M AV)->List AV->M AV:=fun call args=>match args with
 |[f]=>fun h=>ym t k zero (bu call f [] h)
 |_=>M.fail
def xH{m:M AV}{ms:Nat->M AV}(p:R AV->R AV)(hp:p .fail= .fail)(h:aL m ms):aL (fun x=>p (m x)) fun n=>fun x=>p (ms n x):=by
 intro x;obtain⟨h1,h2⟩:=h x;constructor
 ·intro hne;obtain⟨N,hN⟩:=h1 (fun hh=>hne (by simp only[hh,hp]));exact⟨N,fun n hn=>Pp p (hN n hn)⟩
 ·intro n hne;exact Pp p (h2 n (fun hh=>hne (by have:=Pp p hh;simpa [hp]using this)))
def yV(T:TT)(t:TypeId)(call:FuncId->List AV->M AV)(calls:Nat->FuncId->List AV->M AV):bN (fe T t call) fun n=>fe T t (calls n):=bN.const _
def yU(T:TT)(t:TypeId)(call:FuncId->List AV->M AV)(calls:Nat->FuncId->List AV->M AV):bN (fV T t call) fun n=>fV T t (calls n):=bN.const _
def Gw(t:TypeId)(k:IntKind)(zero:AV)(call:FuncId->List AV->M AV)(calls:Nat->FuncId->List AV->M AV)(hc:∀f,bN (call f) fun n=>calls n f):bN (yk t k zero call) fun n=>yk t k zero (calls n):=by
 have hv:∀f,aL (bu call f []) fun n=>bu (calls n) f []:=by
  intro f;unfold bu;split
  ·exact hc _ _
  ·exact aL.const _
 intro args;cases args with
 |nil=>exact aL.const _
 |cons f r=>
  cases r with
  |nil=>exact xH (ym t k zero) rfl (hv f)
  |cons _ _=>exact aL.const _
def dD{α:Type}{b:Bool}{x:α}{o:Option α}{y:α}(h:(bif b then some x else o)=some y):x=y\/o=some y:=by
 cases b with
 |true=>exact .inl (by simpa using h)
 |false=>exact .inr h
def BW(T:TT)(t:TypeId)(call:FuncId->List AV->M AV)(args:List AV):yD (fV T t call args):=by
 unfold fV;split
 ·rename_i y;intro h v h' hh;unfold appH at hh;split at hh
  ·cases hh
  ·split at hh
   ·split at hh
    ·cases hh
    ·split at hh
     ·cases hh
     ·rename_i bs _;revert hh;generalize (_&&_:Bool)=b1;cases b1 with
      |false=>intro hh;cases hh
      | true=>
       simp only[Pq];cases bs.isEmpty with
       |true=>intro hh;cases hh;exact⟨[],by simp⟩
       |false=>
        simp only[Py];generalize decide (_<=140737488355328)=b2;cases b2 with
        |false=>intro hh;cases hh
        |true=>intro hh;cases hh;exact⟨_,rfl⟩
   ·cases hh
 ·intro h v h' hh;cases hh
end Go.Av
namespace Go.Av
variable [Dr]
open Go.RowKit
section
variable {S:aE} {β:List bT} {h:Hp} {w w':World}
omit [Dr]in
theorem ck.below(hh:ck S β w h){S':aE}(hb:∀b,b<w.heap.size->w'.heap[b]? = w.heap[b]? /\∀o,S' b o=S b o)(hle:S.le S'):ck S' β w' h:=by
 obtain⟨hlen,ω,hr⟩:=hh;exact⟨hlen,ω,hr.rows hle (fk.refl β) hlen fun l cs hl _=>.inl ⟨hl,fun b hlt ho=>⟨ho,(hb b hlt).1,fun o h=>by rw[(hb b hlt).2];exact h⟩⟩⟩
theorem zt(hw:Wf S w)(hh:ck S β w h)(hb:Below w.heap.size w w')(hd:Dr.on->w.drawn<=w'.drawn){S':aE}(hS:∀b,b<w.heap.size->∀o,S' b o=S b o)(hnew:∀b o v,w.heap.size<=b->S' b o=some v->w'.cell? ⟨b,o,none⟩=some v):
  Left (bZ β h) S β w S' β w' h:=by
 have hle:S.le S':=fun b o v hv=>by rw[hS b (hw.lt hv)];exact hv
 refine⟨hle,fk.refl β,fun b o v hv=>?_,⟨hb.size,hb.os,hb.output,hb.tape,hd⟩,fun b hlt _=>⟨hb.block b hlt,hS b hlt⟩,hh.below (fun b hlt=>⟨hb.block b hlt,hS b hlt⟩) hle,fun b hb=>.inl hb⟩;rcases PS b w.heap.size with hlt|hge
 ·rw[hS b hlt]at hv;rw[cell_of_heap (hb.block b hlt)];exact hw b o v hv
 ·exact hnew b o v hge hv
theorem dH(hw:Wf S w)(hh:ck S β w h)(hb:Below w.heap.size w w')(hd:Dr.on->w.drawn<=w'.drawn){r:AV}{v:Value}(hv:VR S β r v):dt none S β h w (.ok r h) (.returned v) w':=
 ⟨S,β,v,rfl,hv,zt hw hh hb hd (fun _ _ _=>rfl) (fun b o v hge hv=>by have:=hw.lt hv;omega),fun sz hsz=>by cases hsz⟩
end
end Go.Av
namespace Go.Av
variable [Dr]
def jF:(FuncId->List AV->M AV)->List AV->M AV:=fun _ args=>match args with
 |[.str s,.str t]=>af (bif decide (s.length<4294967281)then some (.bool (Lib.contains s t))else none)
 |_=>M.fail
def wL:AV->Option (List UInt8×Int×List AV)
 |.agg [.str n,.int .i64 k,.sl fs]=>some (n,k,fs)
 |_=>none
def gB:List AV->Option (List (List UInt8×Int×List AV))
 |[]=>some []
 |x:: r=>match wL x,gB r with
  |some z,some l=>some (z:: l)
  |_,_=>none
def bW{α:Type}(p:α->Bool):List α->Option α
 |[]=>none
 |z:: r=>match bW p r with
  |some y=>some y
  |none=>bif p z then some z else none
def zx(l:List (List UInt8×Int×List AV))(name:List UInt8):AV:=match bW (fun z=>z.1== name) l with
 |some z=>.tup [.agg [.int .i64 z.2.1,.sl z.2.2],.bool true]
 |none=>.tup [.agg [.int .i64 0,.sl []],.bool false]
def lW:(FuncId->List AV->M AV)->List AV->M AV:=fun _ args=>match args with
 |[.sl es,.str name]=>(match gB es with
  |some l=>af (bif decide (l.length<=1000000000)then some (zx l name)else none)
  |none=>M.fail)
 |_=>M.fail
omit [Dr]in
theorem sk{α:Type}(p:α->Bool)(l:List α):bW p l=l.reverse.find? p:=by
 induction l with
 |nil=>rfl
 |cons z r ih=>
  simp only[bW,ih,List.reverse_cons,List.find?_append];cases r.reverse.find? p with
  |some y=>rfl
  |none=>cases h:p z<;>simp[h]
end Go.Av
namespace Go.Av
variable [Dr]
open Go.RowKit
def BX:Nat->Nat->List UInt8
 |0,_=>[]
 |f+1,u=>bif decide (u<10)then[UInt8.ofNat (48+u)]else BX f (u / 10)++[UInt8.ofNat (48+u % 10)]
omit [Dr]in
theorem un:∀(f u:Nat),u<10 ^ (f+1)->BX (f+1) u=Lib.decDigits u
 | f,u,h=>by
  rw[Lib.decDigits];rw[show BX (f+1) u=bif decide (u<10)then[UInt8.ofNat (48+u)]else BX f (u / 10)++[UInt8.ofNat (48+u % 10)]from rfl];by_cases h10:u<10
  ·rw[dif_pos h10,Q9 h10];rfl
  ·rw[dif_neg h10,RF h10];cases f with
   |zero=>omega
   |succ f=>rw[un f (u / 10) (by rw[Nat.pow_succ]at h;omega)];rfl
def Fu(n:Int):List UInt8:=bif decide (n<0)then 45:: BX 20 n.natAbs else BX 20 n.toNat
omit [Dr]in
theorem Fv{n:Int}(h0:-9223372036854775808<=n)(h1:n<=9223372036854775807):Fu n=Lib.itoa n:=by
 unfold Fu Lib.itoa;by_cases h:n<0
 ·rw[Q9 h,Ps h];simp only[Pq];rw[un 19 n.natAbs (by omega)]
 ·rw[RF h,if_neg h];simp only[Py];rw[un 19 n.toNat (by omega)]
def AY:(FuncId->List AV->M AV)->List AV->M AV:=fun _ args=>match args with
 |[.int .i64 n]=>af (bif decide (-9223372036854775808<=n)&&decide (n<=9223372036854775807)then some (.str (Fu n))else none)
 |_=>M.fail
def Aq(t:TypeId)(s:List UInt8):AV:=match Lib.atoiAll s with
 |.ok v=>.tup [.int .i64 v,.nili]
 |.range=>.tup [.int .i64 (Lib.atoiSat s),.iface t .any]
 |_=>.tup [.int .i64 0,.iface t .any]
def Ao(t:TypeId):(FuncId->List AV->M AV)->List AV->M AV:=fun _ args=>match args with
 |[.str s]=>af (bif decide (s.length<=281474976710656)then some (Aq t s)else none)
 |_=>M.fail
end Go.Av
namespace Go.Av
variable [Dr]
omit [Dr]in
theorem ck.grow{S:aE}{β:List bT}{w w':World}{h:Hp}(hh:ck S β w h)(hb:∀b,b<w.heap.size->w'.heap[b]? = w.heap[b]?):ck S β w' h:=by
 obtain⟨hlen,ω,hr⟩:=hh;exact⟨hlen,ω,hr.rows (aE.le_refl S) (fk.refl β) hlen fun l cs hl _=>.inl ⟨hl,fun b hb' ho=>⟨ho,hb b hb',fun o h=>h⟩⟩⟩
omit [Dr]in
theorem ck.low{S:aE}{β:List bT}{w:World}{h:Hp}(hh:ck S β w h){b:Nat}(hb:bZ β h b):b<w.heap.size:=by
 obtain⟨_,ω,hr⟩:=hh;obtain⟨l,cs,n,h1,h2,h3⟩:=hb;obtain⟨b',x,k1,k2,_⟩:=hr.own h1 h2;rw[h3]at k1;cases k1;exact k2
omit [Dr]in
theorem Wf.grow{S:aE}{w w':World}(hw:Wf S w)(hb:∀b,b<w.heap.size->w'.heap[b]? = w.heap[b]?):Wf S w':=
 fun b o v hv=>by rw[cell_of_heap (hb b (hw.lt hv))];exact hw b o v hv
theorem td{S S':aE}{β β':List bT}{w w2 w' w'':World}{h h':Hp}(hg:Gro w w2)(hold:∀b,b<w.heap.size->w2.heap[b]? = w.heap[b]?)(L:Left (bZ β h) S β w2 S' β' w' h')(hg':Gro w' w'')(hsame:∀b,¬(w.heap.size<=b/\b<w2.heap.size)->w''.heap[b]? = w'.heap[b]?)(hw:Wf S w)(hh:ck S β w h):Left (bZ β h) S β w S' β' w'' h':=by
 have hs:=hg.size;refine⟨L.le,L.ext,fun b o v hv=>?_,(hg.trans L.gro).trans hg',fun b hb hE=>?_,?_,fun b hb=>?_⟩
 ·by_cases hb:w.heap.size<=b/\b<w2.heap.size
  ·have hE:¬bZ β h b:=fun ho=>by have:=hh.low ho;omega
   have:=(L.keep b hb.2 hE).2 o
   rw[this,hw.none hb.1]at hv;cases hv
  ·rw[cell_of_heap (hsame b hb)];exact L.wf b o v hv
 ·have h1:=L.keep b (by omega) hE;exact⟨by rw[hsame b (by omega),h1.1,hold b hb],h1.2⟩
 ·obtain⟨hlen,ω,hr⟩:=L.heap;refine⟨hlen,ω,hr.rowsA (aE.le_refl S') (fk.refl β') hlen fun l cs hl hne=>.inl ⟨hl,fun b _ ⟨n,h1⟩ h3=>⟨h3,hsame b fun hb=>?_,fun o h=>h⟩⟩⟩;rcases L.owned b ⟨l,cs,_,hl,hne,h1⟩with ho|ho
  ·have:=hh.low ho;omega
  ·omega
 ·rcases L.owned b hb with ho|ho
  ·exact .inl ho
  ·exact .inr (by omega)
theorem Gro.setCell(w:World)(a:Addr)(v:Value):Gro w (w.setCell a v):=⟨by simp,rfl,rfl,rfl,fun _=>Pw _⟩
omit [Dr]in
theorem aX{w:World}{a:Addr}{v:Value}{b:Nat}(h:b≠a.block):(w.setCell a v).heap[b]? = w.heap[b]?:=by
 simp only[World.setCell,Array.getElem?_modify];rw[if_neg (fun e=>h e.symm)]
end Go.Av
namespace Go.Av
variable [Dr]
omit [Dr]in
theorem wD(β:List bT)(q:bT):fk β (β++[q]):=fun l b hb=>by
 have:l<β.length:=by
  rcases PS l β.length with h|h
  ·exact h
  ·rw[PO h]at hb;simp at hb
 rw[PN this];exact hb
omit [Dr]in
theorem s5{β:List bT}{h:Hp}(hlen:β.length=h.length){q:bT}{cs:List AV}{b:Nat}(H:bZ (β++[q]) (h++[cs]) b):bZ β h b\/b=q.1:=by
 obtain⟨l,ds,n,h1,h2,h3⟩:=H;rcases PS l h.length with hlt|hge
 ·rw[PN hlt]at h1;rw[PN (by omega)]at h3;exact .inl ⟨l,ds,n,h1,h2,h3⟩
 ·rw[PY (by omega)]at h3;rcases Qj (l-β.length)with h0|h0
  ·rw[h0]at h3;simp only[Pu,Pn]at h3;subst h3;exact .inr rfl
  ·rw[PO (by simp;omega)]at h3;simp at h3
omit [Dr]in
theorem ck.push{S:aE}{β:List bT}{w w':World}{h:Hp}(hh:ck S β w h)(hw:Wf S w)(hold:∀b,b<w.heap.size->w'.heap[b]? = w.heap[b]?){b:Nat}{x:Array Value}{t:TypeId}(hb:w.heap.size<=b)(hrow:w'.heap[b]? = some (.cells x t (0,0))){cs:List AV}(hcs:bj S β cs (x.toList.take cs.length))(htag:∀t',¬dG t' cs):ck S (β++[(b,x.size)]) w' (h++[cs]):=by
 obtain⟨hlen,ω,hr⟩:=hh;have hext:=wD β (b,x.size);refine⟨by simp[hlen],fun k=>if k=b then .heap h.length else ω k,?_⟩;refine hr.rows (aE.le_refl S) hext hlen fun l cs' hl hne=>?_;rcases PS l h.length with hlt|hge
 ·rw[PN hlt]at hl;exact .inl ⟨hl,fun k hk ho=>⟨by rw[if_neg (by omega)];exact ho,hold k hk,fun o h=>h⟩⟩
 ·rw[PY hge]at hl;have hlz:l=h.length:=by
   rcases Qj (l-h.length)with h0|h0
   ·omega
   ·rw[PO (by simp;omega)]at hl;simp at hl
  subst hlz;simp only[Ra,Pu,Pn]at hl;subst hl;exact .inr ⟨b,x,by rw[<- hlen];simp,⟨t,hrow⟩,by rw[Ps rfl],hcs.mono (aE.le_refl S) hext,fun o=>hw.none hb o,fun t' ht'=>absurd ht' (htag t')⟩
theorem Left.trans{E:Nat->Prop}{S S1 S2:aE}{β β1 β2:List bT}{w w1 w2:World}{h1 h2:Hp}(L1:Left E S β w S1 β1 w1 h1)(L2:Left (bZ β1 h1) S1 β1 w1 S2 β2 w2 h2):Left E S β w S2 β2 w2 h2:=by
 have hs:=L1.size;refine⟨fun b o v hv=>L2.le b o v (L1.le b o v hv),fk.trans L1.ext L2.ext,L2.wf,L1.gro.trans L2.gro,fun b hb hE=>?_,L2.heap,fun b hb=>?_⟩
 ·have a1:=L1.keep b hb hE;have hno:¬bZ β1 h1 b:=fun ho=>by
   rcases L1.owned b ho with h|h
   ·exact hE h
   ·omega
  have a2:=L2.keep b (by omega) hno;exact⟨a2.1.trans a1.1,fun o=>(a2.2 o).trans (a1.2 o)⟩
 ·rcases L2.owned b hb with h|h
  ·exact L1.owned b h
  ·exact .inr (by omega)
theorem Left.store{E:Nat->Prop}{S S1:aE}{β β1:List bT}{w w1 w2:World}{h1:Hp}(L:Left E S β w S1 β1 w1 h1)(hg:Gro w1 w2)(B:Nat->Prop)(hB:∀b,B b->w.heap.size<=b/\¬bZ β1 h1 b/\∀o,S1 b o=none)(hsame:∀b,¬B b->w2.heap[b]? = w1.heap[b]?):Left E S β w S1 β1 w2 h1:=by
 refine⟨L.le,L.ext,fun b o v hv=>?_,L.gro.trans hg,fun b hb hE=>?_,?_,L.owned⟩
 ·by_cases hb:B b
  ·rw[(hB b hb).2.2 o]at hv;cases hv
  ·rw[cell_of_heap (hsame b hb)];exact L.wf b o v hv
 ·have a:=L.keep b hb hE;exact⟨(hsame b fun hb'=>by have:=(hB b hb').1;omega).trans a.1,a.2⟩
 ·obtain⟨hlen,ω,hr⟩:=L.heap;exact⟨hlen,ω,hr.rowsA (aE.le_refl S1) (fk.refl β1) hlen fun l cs hl hne=>.inl ⟨hl,fun b _ ⟨n,k1⟩ k3=>⟨k3,hsame b fun hb=>(hB b hb).2.1 ⟨l,cs,n,hl,hne,k1⟩,fun o h=>h⟩⟩⟩
theorem tb{S S':aE}{β β':List bT}{w w2 w':World}{h h':Hp}{q:bT}{cs:List AV}(hw:Wf S w)(hh:ck S β w h)(hg:Gro w w2)(hold:∀b,b<w.heap.size->w2.heap[b]? = w.heap[b]?)(hq:w.heap.size<=q.1)(L:Left (bZ (β++[q]) (h++[cs])) S (β++[q]) w2 S' β' w' h'):Left (bZ β h) S β w S' β' w' h':=by
 have hs:=hg.size;refine⟨L.le,fk.trans (wD β q) L.ext,L.wf,hg.trans L.gro,fun b hb hE=>?_,L.heap,fun b hb=>?_⟩
 ·have hno:¬bZ (β++[q]) (h++[cs]) b:=fun ho=>by
   rcases s5 hh.1 ho with h|h
   ·exact hE h
   ·omega
  have a:=L.keep b (by omega) hno;exact⟨a.1.trans (hold b hb),a.2⟩
 ·rcases L.owned b hb with ho|ho
  ·rcases s5 hh.1 ho with h|h
   ·exact .inl h
   ·exact .inr (by omega)
  ·exact .inr (by omega)
end Go.Av
namespace Go.Av.Ap
abbrev a7:=List UInt8
inductive Val where
 |mk (kind n:Int) (names:List a7) (values:List Val)
instance:Inhabited Val:=⟨.mk 0 0 [] []⟩
inductive Exp where
 |mk (op n:Int) (s m:a7) (names:List a7) (args:List Exp)
instance:Inhabited Exp:=⟨.mk 0 0 [] [] [] []⟩
inductive Ty where
 |mk (kind:Int) (fields:List (a7×Ty))
instance:Inhabited Ty:=⟨.mk 0 []⟩
abbrev bd:=a7×Ty
structure Fun where
 name:a7
 pub:Bool
 params:List bd
 result:Ty
 effects:Int
 body:Exp
 deriving Inhabited
structure Mod where
 name:a7
 uses:List a7
 vars:List bd
 init:List Exp
 funcs:List Fun
 moves:Bool
 old:List bd
 forward:List Exp
 back:List Exp
 deriving Inhabited
def Val.kind:Val->Int|.mk k _ _ _=>k
def Val.n:Val->Int|.mk _ n _ _=>n
def Val.names:Val->List a7|.mk _ _ ns _=>ns
def Val.values:Val->List Val|.mk _ _ _ vs=>vs
def Exp.op:Exp->Int|.mk o _ _ _ _ _=>o
def Exp.n:Exp->Int|.mk _ n _ _ _ _=>n
def Exp.s:Exp->a7|.mk _ _ s _ _ _=>s
def Exp.m:Exp->a7|.mk _ _ _ m _ _=>m
def Exp.names:Exp->List a7|.mk _ _ _ _ ns _=>ns
def Exp.args:Exp->List Exp|.mk _ _ _ _ _ es=>es
def Ty.kind:Ty->Int|.mk k _=>k
def Ty.fields:Ty->List bd|.mk _ fs=>fs
@[simp] theorem O5(a b c d):(Val.mk a b c d).kind=a:=rfl
@[simp] theorem Pk(a b c d):(Val.mk a b c d).n=b:=rfl
@[simp] theorem O0(a b c d):(Val.mk a b c d).names=c:=rfl
@[simp] theorem OY(a b c d):(Val.mk a b c d).values=d:=rfl
def Val.eta(v:Val):Val.mk v.kind v.n v.names v.values=v:=by cases v;rfl
def Exp.eta(e:Exp):Exp.mk e.op e.n e.s e.m e.names e.args=e:=by cases e;rfl
def Ty.eta(t:Ty):Ty.mk t.kind t.fields=t:=by cases t;rfl
def strs(l:List a7):AV:=.sl (l.map .str)
mutual
def Val.av:Val->AV
 |.mk k n ns vs=>.agg [.int .i64 k,.int .i64 n,strs ns,.sl (eb vs)]
def eb:List Val->List AV
 |[]=>[]
 |v:: vs=>v.av:: eb vs
end
mutual
def Exp.cells:Exp->List AV
 |.mk o n s m ns es=>[.int .i64 o,.int .i64 n,.str s,.str m,strs ns,.sl (ic es)]
def ic:List Exp->List AV
 |[]=>[]
 |e:: es=>.agg e.cells:: ic es
end
def Exp.av(e:Exp):AV:=.agg e.cells
mutual
def Ty.cells:Ty->List AV
 |.mk k fs=>[.int .i64 k,.sl (fE fs)]
def fE:List (a7×Ty)->List AV
 |[]=>[]
 |f:: fs=>bw f:: fE fs
def bw:a7×Ty->AV
 |(n,t)=>.agg (.str n:: t.cells)
end
def Ty.av(t:Ty):AV:=.agg t.cells
def Fun.av(f:Fun):AV:=.agg ([.str f.name,.bool f.pub,.sl (fE f.params)]++f.result.cells++[.int .i64 f.effects]++f.body.cells)
def gC(l:List Fun):AV:=.sl (l.map Fun.av)
def Mod.av(m:Mod):AV:=.agg [.str m.name,strs m.uses,.sl (fE m.vars),.sl (ic m.init),gC m.funcs,.bool m.moves,.sl (fE m.old),.sl (ic m.forward),.sl (ic m.back)]
def vals(l:List Val):AV:=.sl (eb l)
def bX(l:List Exp):AV:=.sl (ic l)
def aK(l:List bd):AV:=.sl (fE l)
def fZ(l:List Mod):AV:=.sl (l.map Mod.av)
def ints(l:List Int):AV:=.sl (l.map (.int .i64))
structure Vars where
 module:a7
 values:List Val
 deriving Inhabited
structure Deed where
 effect:Int
 arg:Int
 answer:Int
 deriving DecidableEq,Inhabited
structure Call where
 module:a7
 func:a7
 args:List Val
 deriving Inhabited
def Vars.av(v:Vars):AV:=.agg [.str v.module,vals v.values]
def Deed.av(d:Deed):AV:=.agg [.int .i64 d.effect,.int .i64 d.arg,.int .i64 d.answer]
def Call.av(c:Call):AV:=.agg [.str c.module,.str c.func,vals c.args]
def fc(l:List Vars):AV:=.sl (l.map Vars.av)
def deeds(l:List Deed):AV:=.sl (l.map Deed.av)
def calls(l:List Call):AV:=.sl (l.map Call.av)
structure Out where
 err:Int
 value:Val
 deeds:List Deed
 calls:List Call
 state:List Vars
def Out.av(o:Out):AV:=.agg [.int .i64 o.err,.int .i64 o.value.kind,.int .i64 o.value.n,strs o.value.names,vals o.value.values,Ap.deeds o.deeds,Ap.calls o.calls,fc o.state]
theorem eB:(l:List Val)->eb l=l.map Val.av
 |[]=>rfl
 |v:: l=>by simp[eb,eB l]
theorem iO:(l:List Exp)->ic l=l.map Exp.av
 |[]=>rfl
 |v:: l=>by simp[ic,iO l,Exp.av]
theorem fF:(l:List bd)->fE l=l.map bw
 |[]=>rfl
 |v:: l=>by simp[fE,fF l]
def Val.av_eq(v:Val):v.av= .agg [.int .i64 v.kind,.int .i64 v.n,strs v.names,vals v.values]:=by cases v;rfl
def Exp.cells_eq(e:Exp):e.cells=[.int .i64 e.op,.int .i64 e.n,.str e.s,.str e.m,strs e.names,bX e.args]:=by cases e;rfl
def Ty.cells_eq(t:Ty):t.cells=[.int .i64 t.kind,aK t.fields]:=by cases t;simp[Ty.cells,aK,Ty.kind,Ty.fields]
def lk(f:bd):bw f= .agg [.str f.1,.int .i64 f.2.kind,aK f.2.fields]:=by obtain⟨n,t⟩:=f;simp[bw,Ty.cells_eq]
@[simp] theorem eq(v:Val):ab v.av=[.int .i64 v.kind,.int .i64 v.n,strs v.names,vals v.values]:=by rw[v.av_eq];rfl
@[simp] theorem a6(e:Exp):ab e.av=[.int .i64 e.op,.int .i64 e.n,.str e.s,.str e.m,strs e.names,bX e.args]:=by rw[Exp.av,e.cells_eq];rfl
@[simp] theorem fA(f:bd):ab (bw f)=[.str f.1,.int .i64 f.2.kind,aK f.2.fields]:=by rw[lk];rfl
@[simp] theorem fL(t:Ty):ab t.av=[.int .i64 t.kind,aK t.fields]:=by rw[Ty.av,t.cells_eq];rfl
@[simp] theorem fB(f:Fun):ab f.av=[.str f.name,.bool f.pub,aK f.params,.int .i64 f.result.kind,aK f.result.fields,.int .i64 f.effects,.int .i64 f.body.op,.int .i64 f.body.n,.str f.body.s,.str f.body.m,strs f.body.names,bX f.body.args]:=by
 simp[Fun.av,ab,Ty.cells_eq,Exp.cells_eq,aK]
@[simp] theorem bE(m:Mod):ab m.av=[.str m.name,strs m.uses,aK m.vars,bX m.init,gC m.funcs,.bool m.moves,aK m.old,bX m.forward,bX m.back]:=rfl
@[simp] theorem wQ(v:Val):AV.agg [.int .i64 v.kind,.int .i64 v.n,strs v.names,vals v.values]=v.av:=(v.av_eq).symm
@[simp] theorem fX(e:Exp):AV.agg [.int .i64 e.op,.int .i64 e.n,.str e.s,.str e.m,strs e.names,bX e.args]=e.av:=by rw[Exp.av,e.cells_eq]
@[simp] theorem gS(t:Ty):AV.agg [.int .i64 t.kind,aK t.fields]=t.av:=by rw[Ty.av,t.cells_eq]
@[simp] theorem ll(f:bd):AV.agg [.str f.1,.int .i64 f.2.kind,aK f.2.fields]=bw f:=(lk f).symm
@[simp] theorem nf(f:Fun):AV.agg [.str f.name,.bool f.pub,aK f.params,.int .i64 f.result.kind,aK f.result.fields,.int .i64 f.effects,.int .i64 f.body.op,.int .i64 f.body.n,.str f.body.s,.str f.body.m,strs f.body.names,bX f.body.args]=f.av:=by
 simp[Fun.av,Ty.cells_eq,Exp.cells_eq,aK]
@[simp] theorem wN(m:Mod):AV.agg [.str m.name,strs m.uses,aK m.vars,bX m.init,gC m.funcs,.bool m.moves,aK m.old,bX m.forward,bX m.back]=m.av:=rfl
theorem eT{α:Type}(g:Nat->Nat->Nat->Nat->Bool->AV)(f:α->AV)(h:∀x,cl g (f x)=f x):(l:List α)->dp g (l.map f)=l.map f
 |[]=>rfl
 |x:: l=>by simp[dp,h x,eT g f h l]
@[simp] theorem mW(g:Nat->Nat->Nat->Nat->Bool->AV)(l:List a7):cl g (strs l)=strs l:=by
 simp[strs,cl,eT g AV.str (fun _=>rfl) l]
@[simp] theorem M8(g:Nat->Nat->Nat->Nat->Bool->AV)(l:List Int):cl g (ints l)=ints l:=by
 simp[ints,cl,eT g (AV.int .i64) (fun _=>rfl) l]
mutual
theorem Val.cl_av(g:Nat->Nat->Nat->Nat->Bool->AV):(v:Val)->cl g v.av=v.av
 |.mk k n ns vs=>by simp[Val.av,cl,dp,vE g vs]
theorem vE(g:Nat->Nat->Nat->Nat->Bool->AV):(l:List Val)->dp g (eb l)=eb l
 |[]=>rfl
 |v:: l=>by simp[eb,dp,Val.cl_av g v,vE g l]
end
mutual
theorem Exp.cl_cells(g:Nat->Nat->Nat->Nat->Bool->AV):(e:Exp)->dp g e.cells=e.cells
 |.mk o n s m ns es=>by simp[Exp.cells,cl,dp,pL g es]
theorem pL(g:Nat->Nat->Nat->Nat->Bool->AV):(l:List Exp)->dp g (ic l)=ic l
 |[]=>rfl
 |e:: l=>by simp[ic,dp,cl,Exp.cl_cells g e,pL g l]
end
mutual
theorem Ty.cl_cells(g:Nat->Nat->Nat->Nat->Bool->AV):(t:Ty)->dp g t.cells=t.cells
 |.mk k fs=>by simp[Ty.cells,cl,dp,nd g fs]
theorem nd(g:Nat->Nat->Nat->Nat->Bool->AV):(l:List (a7×Ty))->dp g (fE l)=fE l
 |[]=>rfl
 |f:: l=>by simp[fE,dp,Fa g f,nd g l]
theorem Fa(g:Nat->Nat->Nat->Nat->Bool->AV):(f:a7×Ty)->cl g (bw f)=bw f
 |(n,t)=>by simp[bw,cl,dp,Ty.cl_cells g t]
end
@[simp] theorem EQ(g:Nat->Nat->Nat->Nat->Bool->AV)(v:Val):cl g v.av=v.av:=v.cl_av g
@[simp] theorem jk(g:Nat->Nat->Nat->Nat->Bool->AV)(l:List Val):cl g (vals l)=vals l:=by simp[vals,cl,vE]
@[simp] theorem yS(g:Nat->Nat->Nat->Nat->Bool->AV)(e:Exp):cl g e.av=e.av:=by simp[Exp.av,cl,Exp.cl_cells]
@[simp] theorem Hf(g:Nat->Nat->Nat->Nat->Bool->AV)(l:List Exp):cl g (bX l)=bX l:=by simp[bX,cl,pL]
@[simp] theorem Ji(g:Nat->Nat->Nat->Nat->Bool->AV)(t:Ty):cl g t.av=t.av:=by simp[Ty.av,cl,Ty.cl_cells]
@[simp] theorem J2(g:Nat->Nat->Nat->Nat->Bool->AV)(f:bd):cl g (bw f)=bw f:=Fa g f
@[simp] theorem lP(g:Nat->Nat->Nat->Nat->Bool->AV)(l:List bd):cl g (aK l)=aK l:=by simp[aK,cl,nd]
theorem qp(g:Nat->Nat->Nat->Nat->Bool->AV):(a b:List AV)->dp g (a++b)=dp g a++dp g b
 |[],b=>rfl
 |x:: a,b=>by simp[dp,qp g a b]
@[simp] theorem EN(g:Nat->Nat->Nat->Nat->Bool->AV)(f:Fun):cl g f.av=f.av:=by
 simp[Fun.av,cl,dp,qp,nd,Ty.cl_cells,Exp.cl_cells]
@[simp] theorem Hg(g:Nat->Nat->Nat->Nat->Bool->AV)(l:List Fun):cl g (gC l)=gC l:=by simp[gC,cl,eT g Fun.av (EN g)]
@[simp] theorem ib(g:Nat->Nat->Nat->Nat->Bool->AV)(m:Mod):cl g m.av=m.av:=by
 simp[Mod.av,cl,dp,nd,pL,Hg]
@[simp] theorem Az(g:Nat->Nat->Nat->Nat->Bool->AV)(l:List Mod):cl g (fZ l)=fZ l:=by simp[fZ,cl,eT g Mod.av (ib g)]
@[simp] theorem J3(g:Nat->Nat->Nat->Nat->Bool->AV)(k:IntKind)(n:Int):cl g (.int k n)= .int k n:=rfl
@[simp] theorem M7(g:Nat->Nat->Nat->Nat->Bool->AV)(b:Bool):cl g (.bool b)= .bool b:=rfl
@[simp] theorem yT(g:Nat->Nat->Nat->Nat->Bool->AV)(s:a7):cl g (.str s)= .str s:=rfl
@[simp] theorem Hj(g:Nat->Nat->Nat->Nat->Bool->AV)(v:Vars):cl g v.av=v.av:=by simp[Vars.av,cl,dp]
@[simp] theorem He(g:Nat->Nat->Nat->Nat->Bool->AV)(v:Deed):cl g v.av=v.av:=by simp[Deed.av,cl,dp]
@[simp] theorem Hd(g:Nat->Nat->Nat->Nat->Bool->AV)(v:Call):cl g v.av=v.av:=by simp[Call.av,cl,dp]
@[simp] theorem L5(g:Nat->Nat->Nat->Nat->Bool->AV)(l:List Vars):cl g (fc l)=fc l:=by simp[fc,cl,eT g Vars.av (Hj g)]
@[simp] theorem L3(g:Nat->Nat->Nat->Nat->Bool->AV)(l:List Deed):cl g (deeds l)=deeds l:=by simp[deeds,cl,eT g Deed.av (He g)]
@[simp] theorem L0(g:Nat->Nat->Nat->Nat->Bool->AV)(l:List Call):cl g (calls l)=calls l:=by simp[calls,cl,eT g Call.av (Hd g)]
@[simp] theorem NI(g:Nat->Nat->Nat->Nat->Bool->AV)(o:Out):cl g o.av=o.av:=by simp[Out.av,cl,dp]
@[simp] theorem oW(v:Vars):ab v.av=[.str v.module,vals v.values]:=rfl
@[simp] theorem oV(v:Deed):ab v.av=[.int .i64 v.effect,.int .i64 v.arg,.int .i64 v.answer]:=rfl
@[simp] theorem oU(v:Call):ab v.av=[.str v.module,.str v.func,vals v.args]:=rfl
@[simp] theorem qd(o:Out):ab o.av=[.int .i64 o.err,.int .i64 o.value.kind,.int .i64 o.value.n,strs o.value.names,vals o.value.values,deeds o.deeds,calls o.calls,fc o.state]:=rfl
@[simp] theorem sY(v:Vars):AV.agg [.str v.module,vals v.values]=v.av:=rfl
@[simp] theorem sW(v:Deed):AV.agg [.int .i64 v.effect,.int .i64 v.arg,.int .i64 v.answer]=v.av:=rfl
@[simp] theorem sV(v:Call):AV.agg [.str v.module,.str v.func,vals v.args]=v.av:=rfl
@[simp] theorem wO(o:Out):AV.agg [.int .i64 o.err,.int .i64 o.value.kind,.int .i64 o.value.n,strs o.value.names,vals o.value.values,deeds o.deeds,calls o.calls,fc o.state]=o.av:=rfl
@[simp] theorem Lj(v:Vars):cM v.av=some 2:=rfl
@[simp] theorem Lh(v:Deed):cM v.av=some 3:=rfl
@[simp] theorem Lg(v:Call):cM v.av=some 3:=rfl
@[simp] theorem MQ(v:Out):cM v.av=some 8:=rfl
@[simp] theorem tv(v:Vars):b9 2 v.av=true:=by simp[b9,ba,vals]
@[simp] theorem oD(v:Deed):b9 3 v.av=true:=by simp[b9,ba]
@[simp] theorem tt(v:Call):b9 3 v.av=true:=by simp[b9,ba,vals]
@[simp] theorem xE(v:Out):b9 8 v.av=true:=by simp[b9,ba,vals,strs,deeds,calls,fc]
def Clean(a:AV):Prop:=∀g,cl g a=a
def Clean.frz{a:AV}(h:Clean a)(d:Nat)(hp:Hp):kC d hp a=a:=by
 cases d with
 |zero=>exact h _
 |succ d=>exact h _
def bI{a:AV}(h:Clean a):aI (M.pure a)=M.pure a:=by
 funext hp;simp only[aI,M.pure,h.frz]
@[simp] theorem lV(b:Bool):aI (M.pure (.bool b))=M.pure (.bool b):=bI fun _=>rfl
@[simp] theorem iX(k:IntKind)(n:Int):aI (M.pure (.int k n))=M.pure (.int k n):=bI fun _=>rfl
@[simp] theorem Mv(s:a7):aI (M.pure (.str s))=M.pure (.str s):=bI fun _=>rfl
@[simp] theorem Mw(v:Val):aI (M.pure v.av)=M.pure v.av:=bI fun g=>EQ g v
@[simp] theorem K6(v:List Val):aI (M.pure (vals v))=M.pure (vals v):=bI fun g=>jk g v
@[simp] theorem Mr(v:Exp):aI (M.pure v.av)=M.pure v.av:=bI fun g=>yS g v
@[simp] theorem Mt(v:Fun):aI (M.pure v.av)=M.pure v.av:=bI fun g=>EN g v
@[simp] theorem MS(v:Val):cM v.av=some 4:=by rw[v.av_eq];rfl
@[simp] theorem MM(e:Exp):cM e.av=some 6:=by rw[Exp.av,e.cells_eq];rfl
@[simp] theorem MN(f:bd):cM (bw f)=some 3:=by rw[lk];rfl
@[simp] theorem Nb(t:Ty):cM t.av=some 2:=by rw[Ty.av,t.cells_eq];rfl
@[simp] theorem MO(f:Fun):cM f.av=some 12:=by simp[Fun.av,cM,Ty.cells_eq,Exp.cells_eq]
@[simp] theorem MP(m:Mod):cM m.av=some 9:=rfl
@[simp] theorem dL(v:Val):b9 4 v.av=true:=by simp[b9,ba,strs,vals]
@[simp] theorem g9(e:Exp):b9 6 e.av=true:=by simp[b9,ba,strs,bX]
@[simp] theorem i7(f:bd):b9 3 (bw f)=true:=by simp[b9,ba,aK]
@[simp] theorem i8(f:Fun):b9 12 f.av=true:=by simp[b9,ba,aK,strs,bX]
@[simp] theorem lx(m:Mod):b9 9 m.av=true:=by simp[b9,ba,aK,strs,bX,gC]
@[simp] theorem FP(s:a7):b9 1 (.str s)=true:=rfl
@[simp] theorem FN(k:IntKind)(n:Int):b9 1 (.int k n)=true:=rfl
def d8{α:Type}{sz:Nat}{f:α->AV}(h:∀x,b9 sz (f x)=true)(l:List α):di sz (l.map f)=true:=by simp[di,h]
@[simp] theorem Lf(l:List a7):di 1 (l.map AV.str)=true:=d8 FP l
@[simp] theorem CG(l:List Int):di 1 (l.map (AV.int .i64))=true:=d8 (FN .i64) l
@[simp] theorem CH(l:List Val):di 4 (eb l)=true:=by rw[eB];exact d8 dL l
@[simp] theorem K9(l:List Exp):di 6 (ic l)=true:=by rw[iO];exact d8 g9 l
@[simp] theorem La(l:List bd):di 3 (fE l)=true:=by rw[fF];exact d8 i7 l
@[simp] theorem Lb(l:List Fun):di 12 (l.map Fun.av)=true:=d8 i8 l
@[simp] theorem Lc(l:List Mod):di 9 (l.map Mod.av)=true:=d8 lx l
def qN{T:TT}{t e:Nat}{ti ei:TI}(ht:T t=some ti)(hk:ti.kind= .slice e)(he:T e=some ei){α:Type}{f:α->AV}(hs:∀x,cM (f x)=some ei.size){l:List α}{i:Nat}{x:α}(h:l[i]? = some x):
  ak T t (.sl (l.map f)) (.int .i64 (i:Int))=some (.ip (ab (f x))):=by
 unfold ak;rw[ht];simp only[hk,he];rw[if_neg (by omega)];have:(l.map f)[(i:Int).toNat]? = some (f x):=by rw[PH,Qp,h];rfl
 rw[this];simp only;rw[Ps (hs x)]
def cz{T:TT}{t e:Nat}{ti ei:TI}(ht:T t=some ti)(hk:ti.kind= .slice e)(he:T e=some ei){α:Type}[Inhabited α]{f:α->AV}(hs:∀x,cM (f x)=some ei.size){l:List α}{n:Int}(h0:0<=n)(h:n<(l.length:Int)):
  ak T t (.sl (l.map f)) (.int .i64 n)=some (.ip (ab (f l[n.toNat]!))):=by
 have hlt:n.toNat<l.length:=by omega
 have:=qN ht hk he hs (l:=l) (i:=n.toNat) (x:=l[n.toNat]!) (by rw[Rj,Pv hlt];rfl)
 rw[show ((n.toNat:Nat):Int)=n by omega]at this;exact this
def kU{T:TT}{t e:Nat}{ti ei:TI}(ht:T t=some ti)(hk:ti.kind= .slice e)(he:T e=some ei){α:Type}{f:α->AV}(hs:∀x,b9 ei.size (f x)=true){a b:List α}(h:(a.length+b.length)*ei.bytes<=140737488355328)(h0:0<ei.bytes):
  cQ T t (.sl (a.map f)) (.sl (b.map f))=some (.sl ((a++b).map f)):=by
 unfold cQ;rw[ht];simp only[hk,he,io];rw[d8 hs,d8 hs];simp[h,h0,jU]
end Go.Av.Ap
namespace Go.Av
attribute [simp] aB ao EH BO
@[simp] theorem au{α:Type}(b:Bool)(x y:M α):ap (.bool b) x y=if b=true then x else y:=by cases b<;>rfl
def gv(b w:Bool)(y:AV):AV:=bif b== w then y else .tup []
@[simp] theorem Of(y:AV):gv false false y=y:=rfl
@[simp] theorem Oi(y:AV):gv true true y=y:=rfl
@[simp] theorem Og(y:AV):gv false true y= .tup []:=rfl
@[simp] theorem Oh(y:AV):gv true false y= .tup []:=rfl
@[simp high] theorem eW(b w:Bool)(y:AV):ax (.bool b) w 1 (M.pure [y])=M.pure [gv b w y]:=by cases b<;>cases w<;>rfl
@[simp high] theorem K3(b w c w2:Bool)(y:AV):ax (gv b w (.bool c)) w2 1 (M.pure [y])=M.pure [gv b w (gv c w2 y)]:=by cases b<;>cases w<;>cases c<;>cases w2<;>rfl
@[simp high] theorem K4(b w c e:Bool):ax (.bool b) w 1 (ae (af (aG (gv b w (.bool c)) (.bool true) (gv b w (gv c false (.bool e))))) fun v=>M.pure [v])=M.pure [gv b w (.bool (c||e))]:=by
 cases b<;>cases w<;>cases c<;>rfl
@[simp high] theorem Kn(b w c e:Bool):ax (.bool b) w 1 (ae (af (aG (gv b w (.bool c)) (gv b w (gv c true (.bool e))) (.bool false))) fun v=>M.pure [v])=M.pure [gv b w (.bool (c&&e))]:=by
 cases b<;>cases w<;>cases c<;>rfl
@[simp high] theorem oG(b c:Bool):aG (.bool b) (gv b true (.bool c)) (.bool false)=some (.bool (b&&c)):=by cases b<;>rfl
@[simp high] theorem rr(b c:Bool):aG (.bool b) (.bool true) (gv b false (.bool c))=some (.bool (b||c)):=by cases b<;>rfl
@[simp] theorem Hv(w:Bool)(n:Nat)(m:M (List AV)):ax (.bool !w) w n m=M.pure (List.replicate n (.tup [])):=by cases w<;>rfl
@[simp] theorem bp(w:Bool)(n:Nat)(m:M (List AV)):ax (.bool w) w n m=m:=by cases w<;>rfl
@[simp] theorem dC(n:Nat)(m:M (List AV)):ax (.bool false) true n m=M.pure (List.replicate n (.tup [])):=rfl
@[simp] theorem dZ(n:Nat)(m:M (List AV)):ax (.bool true) false n m=M.pure (List.replicate n (.tup [])):=rfl
@[simp] theorem db(w:Bool)(n:Nat)(m:M (List AV)):ax (.tup []) w n m=M.pure (List.replicate n (.tup [])):=rfl
@[simp] theorem cw(x y:AV):aG (.bool true) x y=some x:=rfl
@[simp] theorem bS(x y:AV):aG (.bool false) x y=some y:=rfl
@[simp] theorem aH(x:AV)(l:List AV):nth (x:: l) 0=x:=rfl
@[simp] theorem aM(x:AV)(l:List AV)(n:Nat):nth (x:: l) (n+1)=nth l n:=rfl
@[simp] theorem qS{α:Type}(k:List AV->M α)(m:(List AV->M α)->M α):jn k m=m k:=rfl
@[simp] theorem dc{α:Type}(a:α):cR (M.pure a)=M.pure a:=rfl
@[simp] theorem gn(b:Bool):eG .not (.bool b)=some (.bool !b):=rfl
@[simp] theorem aR(l:List AV)(i:Nat):aD (.tup l) i=l[i]?:=rfl
@[simp] theorem Jn:True:=trivial
@[simp] theorem eQ(l k:Nat):bo (.hp l k)=some (.hp l k):=rfl
@[simp] theorem KD(cs:List AV):bo (.ip cs)=some (.ip cs):=rfl
@[simp] theorem gw(s:List UInt8):ab (.str s)=[.str s]:=rfl
@[simp] theorem JJ(k:IntKind)(n:Int):ab (.int k n)=[.int k n]:=rfl
@[simp] theorem cD(cs:List AV):ab (.agg cs)=cs:=rfl
@[simp] theorem dj(T:TT)(t:Nat)(a b:Int):am T .add t (.int .i64 a) (.int .i64 b)=some (.int .i64 (IntKind.i64.wrap (a+b))):=rfl
@[simp] theorem ue(T:TT)(t:Nat)(a b:Int):am T .sub t (.int .i64 a) (.int .i64 b)=some (.int .i64 (IntKind.i64.wrap (a-b))):=rfl
@[simp] theorem GY(T:TT)(t:Nat)(a b:Int):am T .mul t (.int .i64 a) (.int .i64 b)=some (.int .i64 (IntKind.i64.wrap (a*b))):=rfl
@[simp] theorem bV(T:TT)(t:Nat)(a b:Int):am T .lss t (.int .i64 a) (.int .i64 b)=some (.bool (decide (a<b))):=rfl
@[simp] theorem mV(T:TT)(t:Nat)(a b:Int):am T .leq t (.int .i64 a) (.int .i64 b)=some (.bool (decide (a<=b))):=rfl
@[simp] theorem ud(T:TT)(t:Nat)(a b:Int):am T .gtr t (.int .i64 a) (.int .i64 b)=some (.bool (decide (b<a))):=rfl
@[simp] theorem jZ(T:TT)(t:Nat)(a b:Int):am T .geq t (.int .i64 a) (.int .i64 b)=some (.bool (decide (b<=a))):=rfl
@[simp] theorem gQ(T:TT)(t:Nat)(a b:Int):am T .eql t (.int .i64 a) (.int .i64 b)=some (.bool (a== b)):=rfl
@[simp] theorem lN(T:TT)(t:Nat)(a b:Int):am T .neq t (.int .i64 a) (.int .i64 b)=some (.bool (a != b)):=rfl
@[simp] theorem vp(T:TT)(t:Nat)(a b:List UInt8):am T .eql t (.str a) (.str b)=some (.bool (a== b)):=rfl
@[simp] theorem Ib(T:TT)(t:Nat)(a b:List UInt8):am T .neq t (.str a) (.str b)=some (.bool !(a== b)):=rfl
@[simp] theorem Ng(T:TT)(t:Nat)(a b:List UInt8):am T .lss t (.str a) (.str b)=some (.bool (bH a b)):=rfl
@[simp] theorem Nf(T:TT)(t:Nat)(a b:List UInt8):am T .geq t (.str a) (.str b)=some (.bool !(bH a b)):=rfl
@[simp] theorem aY{n:Nat}{x:AV}(h:b9 n x=true):aN n x=M.pure (.agg (ab x)):=by
 unfold aN j0;rw[h];rfl
@[simp] theorem bB{n:Nat}{x:AV}(h:b9 n x=true):ay n [] x=M.pure (.agg (ab x)):=by
 unfold ay j0;rw[h];rfl
@[simp] theorem K7(b:Bool)(x:AV):jP b [x]=some x:=by simp[jP]
@[simp] theorem K8(b:Bool)(a c:Int):jP b [.int .i64 a,.int .i64 c]=some (.int .i64 (if b=true then max a c else min a c)):=by
 cases b
 ·simp only[jP,FK,Py];congr 2;simp only[Int.min_def];split<;>split<;>simp_all<;>omega
 ·simp only[jP,FK,Pq];congr 2;simp only[Int.max_def];split<;>split<;>simp_all<;>omega
def bq{x:Int}(h1:-9223372036854775808<=x)(h2:x<=9223372036854775807):IntKind.i64.wrap x=x:=IntWalk.i64_in _ ⟨h1,h2⟩
def GF{n:Nat}(h:n<=4611686018427387904):IntKind.i64.wrap (n:Int)=(n:Int):=IntWalk.i64_in _ (by omega)
def bz{n:Nat}(h:n<=4611686018427387904):IntKind.i64.wrap ((n:Int)+1)=((n+1:Nat):Int):=by
 rw[IntWalk.i64_in _ (by omega)];omega
def tQ{n:Nat}(h:n<=4611686018427387904):IntKind.i64.wrap (((n+1:Nat):Int)-1)=(n:Int):=by
 rw[IntWalk.i64_in _ (by omega)];omega
namespace Ap
mutual
def Val.sz:Val->Nat
 |.mk _ _ ns vs=>1+ns.length+bY vs
def bY:List Val->Nat
 |[]=>0
 |v:: vs=>v.sz+bY vs
end
theorem je:{l:List Val} ->{v:Val} ->v∈l->v.sz<=bY l
 |w:: l,v,h=>by
  simp only[bY];rcases P0.1 h with rfl|h
  ·omega
  ·have:=je h;omega
def Val.sz_pos(v:Val):1<=v.sz:=by cases v;simp[Val.sz];omega
theorem mR:(l:List Val)->l.length<=bY l
 |[]=>by simp
 |v:: l=>by have:=mR l;have:=v.sz_pos;simp only[bY,PW];omega
def Val.sz_names(v:Val):v.names.length<=v.sz:=by cases v;simp[Val.sz,Val.names];omega
def Val.sz_values(v:Val):bY v.values<v.sz:=by cases v;simp[Val.sz,Val.values];omega
def Val.sz_len(v:Val):v.values.length<v.sz:=Nat.lt_of_le_of_lt (mR _) v.sz_values
def OZ{v x:Val}(h:x∈v.values):x.sz<v.sz:=Nat.lt_of_le_of_lt (je h) v.sz_values
end Ap
end Go.Av
namespace Go.Av
def aV{α:Type}(F:α->Bool):List α->Int->Int
 |[],_=>-1
 |x:: l,i=>if F x=true then i else aV F l (i+1)
theorem xa{α:Type}(F:α->Bool):(l:List α)->(i:Int)->0<=i->(0<=aV F l i↔l.any F=true)
 |[],i,_=>by simp[aV]
 |x:: l,i,h=>by
  simp only[aV];split
  ·rename_i hx;simp[hx,h]
  ·rename_i hx;rw[xa F l (i+1) (by omega)];simp[hx]
def jL{α:Type}(F:α->Bool)(l:List α):decide (0<=aV F l 0)=l.any F:=by
 have:=xa F l 0 (by omega)
 cases h:l.any F with
 |true=>simp[this.2 h]
 |false=>simp only[QV];intro hh;rw[this.1 hh]at h;cases h
@[simp] theorem Jo(a b:Nat):((a:Int)== (b:Int))=(a== b):=by rw[QN];simp;omega
@[simp] theorem HO(a:Nat):((a:Int)== 0)=(a== 0):=by rw[QN];simp
@[simp] theorem Jp(a b:Nat):((a:Int) != (b:Int))=(a != b):=by rw[QN];simp;omega
def cj{α β:Type}(F:α->β->Bool):List α->List β->Bool
 |x:: l,y:: r=>F x y&&cj F l r
 |[],[]=>true
 |_,_=>false
def nW{α β:Type}(F:α->β->Bool)(a:List α)(b:List β)(i:Nat)(h1:i<a.length)(h2:i<b.length):cj F (a.drop i) (b.drop i)=(F a[i] b[i]&&cj F (a.drop (i+1)) (b.drop (i+1))):=by
 rw[PC h1,PC h2];rfl
theorem kS{α β:Type}(F:α->β->Bool):(a:List α)->(b:List β)->a.length≠b.length->cj F a b=false
 |[],[],h=>absurd rfl h
 |[],_:: _,_=>rfl
 |_:: _,[],_=>rfl
 |x:: a,y:: b,h=>by
  have:=kS F a b (by simpa using h)
  simp[cj,this]
end Go.Av
namespace Go.Av
open Ap
@[simp high] theorem J1(x:Val):aN 4 (Val.av x)=M.pure (Val.av x):=by rw[aY (dL x),eq,wQ]
@[simp high] theorem G9(x:Val):ay 4 [] (Val.av x)=M.pure (Val.av x):=by rw[bB (dL x),eq,wQ]
@[simp high] theorem JX(x:Exp):aN 6 (Exp.av x)=M.pure (Exp.av x):=by rw[aY (g9 x),a6,fX]
@[simp high] theorem G4(x:Exp):ay 6 [] (Exp.av x)=M.pure (Exp.av x):=by rw[bB (g9 x),a6,fX]
@[simp high] theorem JY(x:bd):aN 3 (bw x)=M.pure (bw x):=by rw[aY (i7 x),fA,ll]
@[simp high] theorem G5(x:bd):ay 3 [] (bw x)=M.pure (bw x):=by rw[bB (i7 x),fA,ll]
@[simp high] theorem mB(x:Fun):aN 12 (Fun.av x)=M.pure (Fun.av x):=by rw[aY (i8 x),fB,nf]
@[simp high] theorem G6(x:Fun):ay 12 [] (Fun.av x)=M.pure (Fun.av x):=by rw[bB (i8 x),fB,nf]
@[simp high] theorem JZ(x:Mod):aN 9 (Mod.av x)=M.pure (Mod.av x):=by rw[aY (lx x),bE,wN]
@[simp high] theorem G7(x:Mod):ay 9 [] (Mod.av x)=M.pure (Mod.av x):=by rw[bB (lx x),bE,wN]
@[simp high] theorem Jh(x:Vars):aN 2 (Vars.av x)=M.pure (Vars.av x):=by rw[aY (tv x),oW,sY]
@[simp high] theorem GL(x:Vars):ay 2 [] (Vars.av x)=M.pure (Vars.av x):=by rw[bB (tv x),oW,sY]
@[simp high] theorem Jg(x:Deed):aN 3 (Deed.av x)=M.pure (Deed.av x):=by rw[aY (oD x),oV,sW]
@[simp high] theorem GK(x:Deed):ay 3 [] (Deed.av x)=M.pure (Deed.av x):=by rw[bB (oD x),oV,sW]
@[simp high] theorem Jf(x:Ap.Call):aN 3 (Ap.Call.av x)=M.pure (Ap.Call.av x):=by rw[aY (tt x),oU,sV]
@[simp high] theorem GJ(x:Ap.Call):ay 3 [] (Ap.Call.av x)=M.pure (Ap.Call.av x):=by rw[bB (tt x),oU,sV]
@[simp high] theorem J0(x:Ap.Out):aN 8 (Ap.Out.av x)=M.pure (Ap.Out.av x):=by rw[aY (xE x),qd,wO]
@[simp high] theorem G8(x:Ap.Out):ay 8 [] (Ap.Out.av x)=M.pure (Ap.Out.av x):=by rw[bB (xE x),qd,wO]
@[simp] theorem pQ(t:Ty):b9 2 t.av=true:=by simp[b9,ba,aK]
@[simp high] theorem jE(x:Ty):aN 2 (Ty.av x)=M.pure (Ty.av x):=by rw[aY (pQ x),fL,gS]
@[simp high] theorem wg(x:Ty):ay 2 [] (Ty.av x)=M.pure (Ty.av x):=by rw[bB (pQ x),fL,gS]
end Go.Av
namespace Go.Av
@[simp] theorem GN(c:Prop)[Decidable c](a b:Bool):(if c then(M.pure (.bool a):M AV)else M.pure (.bool b))=M.pure (.bool (if c then a else b)):=by split<;>rfl
@[simp] theorem Hw(c:Prop)[Decidable c](a b:Int):(if c then(M.pure (.int .i64 a):M AV)else M.pure (.int .i64 b))=M.pure (.int .i64 (if c then a else b)):=by split<;>rfl
def Hr{F:(List AV->M AV)->List AV->M AV}(hF:∀vs,aj F vs=F (aj F) vs)(st:Nat->List AV)(n:Nat)(G:Nat->Bool)(hend:F (aj F) (st n)=M.pure (.bool true))(hstep:∀k,k<n->F (aj F) (st k)=if G k=true then aj F (st (k+1))else M.pure (.bool false)):
  ∀k,k<=n->aj F (st k)=M.pure (.bool ((List.range' k (n-k)).all G)):=by
 have key:∀r k,n-k=r->k<=n->aj F (st k)=M.pure (.bool ((List.range' k r).all G)):=by
  intro r
  induction r with
  |zero=>
   intro k hr hk;obtain rfl:k=n:=by omega
   rw[hF,hend];rfl
  |succ r ih=>
   intro k hr hk;rw[hF,hstep k (by omega),ih (k+1) (by omega) (by omega)];simp only[RU,P5];cases G k<;>rfl
 exact fun k hk=>key (n-k) k rfl hk
def yE{α:Type}[Inhabited α](P:α->Bool)(l:List α):(List.range' 0 l.length).all (fun k=>P l[k]!)=l.all P:=by
 rw[QN];simp only[PG,List.mem_range'_1];constructor
 ·intro h x hx;obtain⟨i,hi,rfl⟩:=List.getElem_of_mem hx
  have:=h i ⟨P8 _,by omega⟩
  rwa [Pz l i hi]at this
 ·intro h k hk;have hk':k<l.length:=by omega
  rw[Pz l k hk'];exact h _ (Px hk')
def CY{T:TT}{t e:Nat}{ti ei:TI}(ht:T t=some ti)(hk:ti.kind= .slice e)(he:T e=some ei)(es:List AV){n:Int}(h0:0<=n)(h1:n<=es.length):dT T t (.sl es) none (some (.int .i64 n)) none=some (.sl (es.take n.toNat)):=by
 unfold dT;rw[ht];simp[hk,he,cZ,h0,h1]
def px{T:TT}{t e:Nat}{ti ei:TI}(ht:T t=some ti)(hk:ti.kind= .slice e)(he:T e=some ei)(es:List AV):dT T t (.sl es) none (some (.int .i64 es.length)) (some (.int .i64 es.length))=some (.sl es):=by
 unfold dT;rw[ht];simp[hk,he,cZ]
def CZ{T:TT}{t e:Nat}{ti ei:TI}(ht:T t=some ti)(hk:ti.kind= .slice e)(he:T e=some ei)(es:List AV)(hok:di ei.size es=true){n:Int}(h0:0<=n)(h1:n<=es.length):dT T t (.sl es) (some (.int .i64 n)) none none=some (.sl (es.drop n.toNat)):=by
 unfold dT;rw[ht];simp[hk,he,cZ,h0,h1,hok]
def qj(s:List UInt8):Bool:=s.all fun b=>decide (b.toNat<128)
def lT(cs:List UInt8):List UInt8->Int->Int
 |[],_=>-1
 |b:: s,i=>if cs.contains b=true then i else lT cs s (i+1)
def lU:(FuncId->List AV->M AV)->List AV->M AV:=fun _ args=>match args with
 |[.str s,.str cs]=>af (bif decide (s.length<4294967281)&&decide (cs.length<1000)&&qj s&&qj cs then some (.int .i64 (lT cs s 0))else none)
 |_=>M.fail
def strsOf:List AV->Option (List (List UInt8))
 |[]=>some []
 |.str s:: r=>(strsOf r).map (s:: ·)
 |_=>none
def qT(sep:List UInt8):List (List UInt8)->List UInt8
 |[]=>[]
 |[a]=>a
 |a:: b:: l=>a++(sep++qT sep (b:: l))
def AZ:(FuncId->List AV->M AV)->List AV->M AV:=fun _ args=>match args with
 |[.sl es,.str sep]=>af (match strsOf es with
  |some l=>bif decide (l.length<=140737488355328)&&decide ((qT sep l).length<=140737488355328)then some (.str (qT sep l))else none
  |none=>none)
 |_=>M.fail
def lB(b:UInt8):Bool:=(decide (97<=b.toNat)&&decide (b.toNat<=122))||(decide (65<=b.toNat)&&decide (b.toNat<=90))||(decide (48<=b.toNat)&&decide (b.toNat<=57))||decide (b.toNat=95)
def uS(s:List UInt8):Bool:=!s.isEmpty&&s.all lB
def uR:(FuncId->List AV->M AV)->List AV->M AV:=fun _ args=>match args with
 |[.str s]=>af (bif decide (s.length<4294967281)then some (.bool (uS s))else none)
 |_=>M.fail
def AC:AV:=.tup [.agg [.int .i64 0,.int .i64 0,.sl [],.sl []],.int .i64 34]
def ia(ft:TypeId):R AV->R AV
 |.ok v h=>.ok v h
 |.pan (.iface t (.agg [])) h=>bif Nat.beq t ft then .ok AC []else .fail
 |.pan _ _=>.fail
 |.fail=>.fail
def qX:M AV:=fun h=>match h[0]? with
 |some [AV.str s]=>.ok (.str s) h
 |_=>.fail
def Ha(sz:Nat)(v:AV):M AV:=fun h=>bif b9 sz v then .ok v h else .fail
def EY:AV->Option AV
 |.str s=>some (.bool s.isEmpty)
 |_=>none
def Bm(ft:TypeId)(value has:FuncId)(call:FuncId->List AV->M AV)(t:AV):M AV:=
 ae (call value [.hp 0 0,.int .i64 4]) fun v=>ae (Ha 4 v) fun _=>ae qX fun s=>ae (af (EY s)) fun b=>
  ap b (ae (call has [t,v]) fun r=>ap r (M.pure (.tup [.agg (ab v),.int .i64 0])) (d9 (.iface ft (.agg [])))) (d9 (.iface ft (.agg [])))
def tC(ft:TypeId)(value has:FuncId)(call:FuncId->List AV->M AV):List AV->M AV:=fun args h=>match args,h with
 |[t,.str s],[]=>bif b9 2 t then ia ft (Bm ft value has call t [[AV.str s]])else .fail
 |_,_=>.fail
def tB(ft:TypeId)(value has:FuncId):(FuncId->List AV->M AV)->List AV->M AV:=fun call=>iW (tC ft value has call)
def aL.cond{b:AV}{x y:M AV}{xs ys:Nat->M AV}(hx:aL x xs)(hy:aL y ys):aL (ap b x y) fun n=>ap b (xs n) (ys n):=by
 unfold ap;split
 ·exact hx
 ·exact hy
 ·exact aL.const _
def CO(ft:TypeId)(value has:FuncId)(call:FuncId->List AV->M AV)(calls:Nat->FuncId->List AV->M AV)(hc:∀f,bN (call f) fun n=>calls n f):bN (tB ft value has call) fun n=>tB ft value has (calls n):=by
 have hI:bN (tC ft value has call) fun n=>tC ft value has (calls n):=by
  intro args h;rcases args with _|⟨t,_|⟨x,_|⟨y,r⟩⟩⟩
  ·exact aL.const (fun _=>.fail) h
  ·exact aL.const (fun _=>.fail) h
  ·have hB:aL (Bm ft value has call t) fun n=>Bm ft value has (calls n) t:=
    aL.bnd (hc value _) fun v=>aL.bnd (aL.const _) fun _=>aL.bnd (aL.const _) fun s=>aL.bnd (aL.const _) fun b=>aL.cond (aL.bnd (hc has _) fun r=>aL.cond (aL.const _) (aL.const _)) (aL.const _)
   cases x
   case str s=>
    cases h with
    |nil=>exact xH (fun r=>bif b9 2 t then ia ft r else .fail) (by cases b9 2 t<;>rfl) hB [[AV.str s]]
    |cons a b=>exact aL.const (fun _=>.fail) (a:: b)
   all_goals exact aL.const (fun _=>.fail) h
  ·cases x<;>exact aL.const (fun _=>.fail) h
 intro args h;obtain⟨h1,h2⟩:=hI (dp az args) []
 (try dsimp only at h1 h2)
 refine⟨fun hne=>?_,fun n hne=>?_⟩
 ·obtain⟨N,hN⟩:=h1 (fun hf=>hne (by show iW _ _ _=_;unfold iW;rw[hf]));refine⟨N,fun n hn=>?_⟩;show iW _ _ _=iW _ _ _;unfold iW;rw[hN n hn]
 ·have:=h2 n (fun hf=>hne (by show iW _ _ _=_;unfold iW;rw[hf]))
  show iW _ _ _=iW _ _ _;unfold iW;rw[this]
end Go.Av
namespace Go.Av
open Go.RowKit Go.Sort Go.Proofs
section
variable [Dr]
end
section
variable {α:Type} [Inhabited α]
end
section
variable [Dr] {S:aE} {β:List bT} {h:Hp} {w w':World}
end
theorem Pm{S:aE}{β:List bT}:{ps qs:List AV} ->{vs:List Value} ->bj S β (ps++qs) vs->∃u v,vs=u++v/\bj S β ps u/\bj S β qs v
 |[],_,vs,h=>⟨[],vs,rfl,by simp[bj],h⟩
 |_:: ps,qs,vs,h=>by
  simp only[Qb,bj]at h;obtain⟨x,xs,rfl,h1,h2⟩:=h;obtain⟨u,v,rfl,h3,h4⟩:=Pm h2;exact⟨x:: u,v,rfl,by simp only[bj];exact⟨x,u,rfl,h1,h3⟩,h4⟩
section
variable [Dr] {α:Type} [Inhabited α] {P:Program}
end
end Go.Av
namespace Go.Av.Ap
open Go Go.Av
abbrev Df:=a7×a7
def xN(r:Df):AV:=.agg [.str r.1,.str r.2]
def xO(l:List Df):AV:=.sl (l.map xN)
def zJ(l:List (List Df)):AV:=.sl (l.map xO)
@[simp] theorem JK(r:Df):ab (xN r)=[.str r.1,.str r.2]:=rfl
@[simp] theorem Mm(r:Df):AV.agg [.str r.1,.str r.2]=xN r:=rfl
@[simp] theorem FO(r:Df):b9 2 (xN r)=true:=rfl
@[simp] theorem Ld(l:List Df):di 2 (l.map xN)=true:=d8 FO l
@[simp] theorem J4(g:Nat->Nat->Nat->Nat->Bool->AV)(r:Df):cl g (xN r)=xN r:=rfl
@[simp] theorem Hh(g:Nat->Nat->Nat->Nat->Bool->AV)(l:List Df):cl g (xO l)=xO l:=by simp[xO,cl,eT g xN (J4 g)]
@[simp] theorem L4(g:Nat->Nat->Nat->Nat->Bool->AV)(l:List (List Df)):cl g (zJ l)=zJ l:=by simp[zJ,cl,eT g xO (Hh g)]
section
variable {V:Type}
end
end Go.Av.Ap
namespace Go.Av.Ap
def im(l:List Ty):AV:=.sl (l.map Ty.av)
structure Sig where
 name:a7
 params:List Ty
 result:Ty
 effects:Int
 deriving Inhabited
structure Face where
 module:a7
 funcs:List Sig
 deriving Inhabited
structure Vsn where
 major:Int
 minor:Int
 patch:Int
 deriving Inhabited,DecidableEq
def Sig.cells(s:Sig):List AV:=[.str s.name,im s.params,.int .i64 s.result.kind,aK s.result.fields,.int .i64 s.effects]
def Sig.av(s:Sig):AV:=.agg s.cells
def sigs(l:List Sig):AV:=.sl (l.map Sig.av)
def Face.cells(f:Face):List AV:=[.str f.module,sigs f.funcs]
def Face.av(f:Face):AV:=.agg f.cells
def faces(l:List Face):AV:=.sl (l.map Face.av)
def Vsn.av(v:Vsn):AV:=.agg [.int .i64 v.major,.int .i64 v.minor,.int .i64 v.patch]
@[simp] theorem iM(s:Sig):ab s.av=[.str s.name,im s.params,.int .i64 s.result.kind,aK s.result.fields,.int .i64 s.effects]:=rfl
@[simp] theorem kQ(f:Face):ab f.av=[.str f.module,sigs f.funcs]:=rfl
@[simp] theorem JL(v:Vsn):ab v.av=[.int .i64 v.major,.int .i64 v.minor,.int .i64 v.patch]:=rfl
@[simp] theorem wP(s:Sig):AV.agg [.str s.name,im s.params,.int .i64 s.result.kind,aK s.result.fields,.int .i64 s.effects]=s.av:=rfl
@[simp] theorem sX(f:Face):AV.agg [.str f.module,sigs f.funcs]=f.av:=rfl
@[simp] theorem Mn(v:Vsn):AV.agg [.int .i64 v.major,.int .i64 v.minor,.int .i64 v.patch]=v.av:=rfl
@[simp] theorem pQ(t:Ty):b9 2 t.av=true:=by simp[b9,ba,aK]
@[simp] theorem ME(l:List Ty):di 2 (l.map Ty.av)=true:=d8 pQ l
@[simp] theorem MR(s:Sig):cM s.av=some 5:=rfl
@[simp] theorem Li(s:Face):cM s.av=some 2:=rfl
@[simp] theorem MU(s:Vsn):cM s.av=some 3:=rfl
@[simp] theorem rn(s:Sig):b9 5 s.av=true:=by simp[b9,ba,aK,im]
@[simp] theorem oE(s:Face):b9 2 s.av=true:=by simp[b9,ba,sigs]
@[simp] theorem MD(s:Vsn):b9 3 s.av=true:=rfl
@[simp] theorem Le(l:List Sig):di 5 (l.map Sig.av)=true:=d8 rn l
@[simp] theorem KF(l:List Face):di 2 (l.map Face.av)=true:=d8 oE l
@[simp] theorem EP(g:Nat->Nat->Nat->Nat->Bool->AV)(l:List Ty):cl g (im l)=im l:=by simp[im,cl,eT g Ty.av (Ji g)]
@[simp] theorem EO(g:Nat->Nat->Nat->Nat->Bool->AV)(s:Sig):cl g s.av=s.av:=by unfold Sig.av Sig.cells;simp only[cl,dp,EP,lP]
@[simp] theorem Hi(g:Nat->Nat->Nat->Nat->Bool->AV)(l:List Sig):cl g (sigs l)=sigs l:=by simp[sigs,cl,eT g Sig.av (EO g)]
@[simp] theorem Ay(g:Nat->Nat->Nat->Nat->Bool->AV)(s:Face):cl g s.av=s.av:=by unfold Face.av Face.cells;simp only[cl,dp,Hi]
@[simp] theorem EM(g:Nat->Nat->Nat->Nat->Bool->AV)(l:List Face):cl g (faces l)=faces l:=by simp[faces,cl,eT g Face.av (Ay g)]
@[simp] theorem NJ(g:Nat->Nat->Nat->Nat->Bool->AV)(s:Vsn):cl g s.av=s.av:=by unfold Vsn.av;simp only[cl,dp]
@[simp] theorem M9(v:Ty):aI (M.pure v.av)=M.pure v.av:=bI fun g=>Ji g v
@[simp] theorem Mu(v:Sig):aI (M.pure v.av)=M.pure v.av:=bI fun g=>EO g v
@[simp] theorem K5(v:Face):aI (M.pure v.av)=M.pure v.av:=bI fun g=>Ay g v
end Go.Av.Ap
namespace Go.Av
open Go.RowKit Go.Sort Go.Proofs
section
variable [Dr] {P:Program}
end
end Go.Av
namespace Go.Av
variable [Dr]
theorem kZ{P:Program}{cx:Cx}{own:Option Nat}(hT:TOK P cx.T)(hC:cK P cx.own cx.call)(hI:IsoCall cx){f:FuncId}{fn:Func}(hf:P.funcs[f]? = some fn)(hnt:cx.nt=fn.ntmps){E:List AV->Hp->R AV}(h0:∀h,E [] h= .ok (.sl []) h)(h1:∀e es h,cN cx (da 0) fn own [.sl (e:: es)] h=E (e:: es) h)(h2:∀h,cN cx (da 0) fn own [.hn] h= .ok (.sl []) h)(h3:∀l off h,cN cx (da 0) fn own [.hs l off 0 1 false] h= .ok (.sl []) h){es:List AV}{h:Hp}{S:aE}{β:List bT}{w:World}{vs:List Value}(hr:E es h≠.fail)(hg:pF S β h w)(hw:Wf S w)(hh:ck S β w h)(hv:bj S β [.sl es] vs):Calls P f vs.toArray w (dt own S β h w (E es h))/\fn.body.isSome=true:=by
 cases es with
 |cons e es=>
  rw[<- h1]at hr |-;exact iN hT hC hI 0 hf hnt hr hg hw hh hv
 | nil=>
  rw[h0];simp only[bj]at hv;obtain⟨v,_,rfl,hv,rfl⟩:=hv;have hv0:=hv;simp only[VR]at hv;obtain⟨a,cap,rfl,hc,hn,hq⟩:=hv;cases a with
  |none=>
   have hcap:=hn rfl;subst hcap;have hv2:bj S β [.hn] [.slice none ([]:List AV).length 0]:=by simp[bj,VR]
   have:=iN (own:=own) hT hC hI 0 hf hnt (args:=[.hn]) (h:=h) (by rw[h2];simp) hg hw hh hv2
   rw[h2]at this;exact this
  | some q=>
   obtain⟨hs,_⟩:=hq q rfl;have hX:ck S [(q.block,q.off+cap)] w [[]]:=⟨rfl,fun _=>.no,fun l cs hl hne=>by
    cases l with
    |zero=>simp at hl;exact absurd hl hne
    |succ l=>simp at hl⟩
   have hE:∀b,¬bZ [(q.block,q.off+cap)] [[]] b:=by
    rintro b ⟨l,cs,n,k1,k2,_⟩;cases l with
    |zero=>simp at k1;exact k2 k1
    |succ l=>simp at k1
   have hv2:bj S [(q.block,q.off+cap)] [.hs 0 q.off 0 1 false] [.slice (some q) ([]:List AV).length cap]:=by
    simp only[bj,VR];rcases Qj cap with h0|h0
    ·subst h0;exact⟨_,_,rfl,.inr ⟨trivial,q,rfl⟩,rfl⟩
    ·have hq':q=⟨q.block,q.off,none⟩:=by
      have:=hs h0
      cases q;simp_all
     exact⟨_,_,rfl,.inl ⟨(q.block,q.off+cap),cap,rfl,(by show q.off+cap≠0;omega),by rw[<- hq'];rfl,P8 _,by simp⟩,rfl⟩
   have:=iN (own:=own) hT hC hI 0 hf hnt (args:=[.hs 0 q.off 0 1 false]) (h:=[[]]) (by rw[h3];simp) ⟨hg.1,fun b _=>hE b,hg.2.2⟩ hw hX hv2
   rw[h3]at this;refine⟨this.1.mono fun en w' hp=>?_,this.2⟩;obtain⟨S',β',v,k1,k2,k3,k4⟩:=hp;obtain⟨S2,j1,j2,j3⟩:=AX hw hh hE k3;exact⟨S2,β,v,k1,j2 (.sl []) v k2,j1,fun sz hsz=>j3 sz v (k4 sz hsz)⟩
end Go.Av
namespace Go.Av
variable [Dr]
open Go.RowKit Go.WideShapes Go.ChangeShapes
theorem Left.below{S S':aE}{β β':List bT}{w w':World}{h':Hp}(L:Left (bZ [] []) S β w S' β' w' h'):Below w.heap.size w w':=
 ⟨L.gro.os,L.gro.tape,L.gro.out,L.gro.size,fun k hk=>(L.keep k hk (by rintro⟨l,_,_,h1,_⟩;simp at h1)).1⟩
def ma(W:World):aE:=fun b o=>W.cell? ⟨b,o,none⟩
omit [Dr]in
theorem GR(W:World):Wf (ma W) W:=fun _ _ _ h=>h
omit [Dr]in
theorem Cq{W:World}(h:GOKw W):pF (ma W) [] [] W:=⟨h,fun b _ ho=>by obtain⟨l,_,_,h1,_⟩:=ho;simp at h1,Ih h⟩
theorem Ct{P:Program}{p:Pg}(G:GoodPg P p)(hO:eC p){f:FuncId}{args:List AV}{vs:List Value}{W:World}(hg:GOKw W)(hv:bj (ma W) [] args vs)(ht:ai p f args []= .ok (.bool true) []):Calls P f vs.toArray W fun e W'=>e= .returned (.bool true)/\Below W.heap.size W W':=by
 have h:=(we G hO f args [] (ma W) [] W vs (by rw[ht];simp) (Cq hg) (GR W) ⟨rfl,fun _=>.no,fun l cs hl=>by simp at hl⟩ hv).1;rw[ht]at h;refine h.mono fun e W' hp=>?_;obtain⟨S',β',v,rfl,hv,L,_⟩:=hp;simp only[VR]at hv;subst hv;exact⟨rfl,L.below⟩
section
variable {H:Type} {enc:TypeId×Value->H} {P:Program}
omit [Dr]in
theorem sr{f:Func}{s:ChangeSpec}{apart fresh handsOn again:Bool}{W W':World}{args:Array Value}{v:Value}{ds gs:List (DataW H)}{before pa pv:List MemPlace}(hW:DataW.Whole enc P f.params.toList s.vars apart W args.toList ds gs before)(hres:∀(b:Nat)(sp:Nat->Bool)(hd:Bool),DataW.TrodAll enc P W' b sp hd f.resultTypes.toList (v.resultList f.resultTypes.size) (s.fn H (ds++gs)).results [])(hargs:∀sp:Nat->Bool,(∀p∈before,sp p.block=true)->DataW.TrodAll enc P W' 0 sp true f.params.toList args.toList (s.fn H (ds++gs)).args pa)(hvars:∀sp:Nat->Bool,(∀p∈before,sp p.block=true)->DataW.TrodVars enc P W' sp s.vars (s.fn H (ds++gs)).vars pv)(hps:before=pa++pv)(hb:Below W.heap.size W W')(hok:∀(j:Nat)(t:TypeId)(r:Value),f.resultTypes[j]? = some t->(v.resultList f.resultTypes.size)[j]? = some r->Value.okWide P W' .any 0 t r):
  s.post enc P f apart fresh handsOn again W args v W':=by
 have hlt:∀p∈before,p.block<W.heap.size:=fun p hp=>hW.lt p hp;have hold:∀p∈before,(fun b=>decide (b<W.heap.size)) p.block=true:=fun p hp=>by simpa using hlt p hp
 refine⟨ds,gs,before,[],pa,pv,hW,hres _ _ _,hargs _ hold,hvars _ hold,World.keptBut_mono (fun p hp=>⟨hp,?_⟩) (hb.frame (· ∈before)),fun _=>?_⟩
 ·rw[hps,PZ]at hp;exact Or.inr hp
 ·obtain⟨_,_,_,_,_,hz,hn⟩:=hW;refine⟨hok,_,_,([]++pa)++pv,⟨[]++pa,pv,trodAll_append (hargs _ (fun _ _=>rfl)) (hres _ _ _),hvars _ (fun _ _=>rfl),rfl,?_,?_⟩,?_⟩
  ·intro b off hp;have hin:MemPlace.cell b off∈before:=by rw[hps];simpa using hp
   rw[hb.frozen (hlt _ hin)];exact hz b off hin
  ·intro ha
   have:=hn ha
   rw[hps]at this;simpa using this
  ·intro p hp _;rw[hps];simpa using hp
end
end Go.Av
namespace Go.Av
open Go.RowKit
section
variable {H:Type} {enc:TypeId×Value->H} {P:Program} {w w':World}
theorem mo{base:Nat}{spare:Nat->Bool}{held:Bool}:∀ {ts:List TypeId} {vs:List Value} {ds:List (DataW H)} {ps:List MemPlace},DataW.TrodAll enc P w base spare held ts vs ds ps->(∀p∈ps,w.sameAt w' p)->DataW.TrodAll enc P w' base spare held ts vs ds ps
 |[],[],[],_,h,_=>h
 |_:: _,_:: _,_:: _,_,⟨p,q,⟨n,h1⟩,h2,e⟩,hs=>⟨p,q,⟨n,DataW.trod_carry n _ _ _ h1 (fun x hx=>hs x (by rw[e];exact Q7 _ hx))⟩,mo h2 (fun x hx=>hs x (by rw[e];exact QT _ hx)),e⟩
theorem vf(hb:Below w.heap.size w w'){p:MemPlace}(hp:p.block<w.heap.size):w.sameAt w' p:=by
 cases p with
 |cell b off=>
  have:=hb.block b hp
  show w'.cell? ⟨b,off,none⟩=w.cell? ⟨b,off,none⟩;simp only[World.cell?,this]
 |map b=>exact hb.block b hp
theorem yG{T:TypeId->Prop}(K:Kids P T)(hz:∀t e,T t->P.underlying t=some (.slice e)->0<P.cellsOf e){ts:List TypeId}{vs:List Value}{ds:List (DataW H)}{ps:List MemPlace}(hT:∀t∈ts,T t)(h:DataW.TrodAll enc P w 0 (fun _=>true) true ts vs ds ps)(hlt:∀p∈ps,p.block<w.heap.size)(hb:Below w.heap.size w w')(sp:Nat->Bool)(hsp:∀p∈ps,sp p.block=true):DataW.TrodAll enc P w' 0 sp true ts vs ds ps:=
 (mo h fun p hp=>vf hb (hlt p hp)).respare K hz hT hsp
end
theorem A4{α:Type}(Q:Nat->α->Prop):∀n,(∀i,i<n->∃x,Q i x)->∃l:List α,l.length=n/\∀i x,l[i]? = some x->Q i x
 |0,_=>⟨[],rfl,fun i x h=>by simp at h⟩
 | n+1,h=>by
  obtain⟨l,h1,h2⟩:=A4 Q n fun i hi=>h i (by omega);obtain⟨y,hy⟩:=h n (by omega);refine⟨l++[y],by simp[h1],fun i x hx=>?_⟩;by_cases hi:i<n
  ·rw[PN (by omega)]at hx;exact h2 i x hx
  ·rw[PY (by omega)]at hx;have hin:i-l.length=0:=by
    rcases Qj (i-l.length)with h|h
    ·exact h
    ·rw[PO (by simp;omega)]at hx;cases hx
   rw[hin]at hx;simp only[Pu,Pn]at hx;subst hx;obtain rfl:i=n:=by omega
   exact hy
end Go.Av
namespace Go.Av
open Go.RowKit Go.WideShapes Go.ChangeShapes
section
variable {H:Type} (enc:TypeId×Value->H) (P:Program) (W:World)
def Rd{α:Type}(N:Nat)(t:TypeId)(cells:α->List AV)(Ok:α->Prop):Prop:=∀(base:Nat)(held:Bool)(n:Nat),n<N->∀(cs:List Value)(x:DataW H×List MemPlace),DataW.trod enc P W base (fun _=>true) held n t cs=some x->(∀k∈x.1.weights P t,k<=reachBytes)->∃a:α,bj (ma W) [] (cells a) cs/\Ok a
def GQ{α:Type}(N:Nat)(tot:Nat)(o:Nat)(fs:List Field)(cells:α->List AV)(Ok:α->Prop):Prop:=∀(base:Nat)(held:Bool)(n:Nat),n<N->∀(cs:List Value)(xs:List (DataW H×List MemPlace)),cs.length=tot->
 xs.length=fs.length->(∀(i:Nat)(f:Field),fs[i]? = some f->DataW.trod enc P W base (fun _=>true) held n f.type ((cs.drop f.offset).take (P.cellsOf f.type))=xs[i]?)->(∀k∈DataW.weightsEach P (fs.map (·.type)) (xs.map (·.1)),k<=reachBytes)->∃a:α,bj (ma W) [] (cells a) (cs.drop o)/\Ok a
variable {enc P W} {α β:Type} {N:Nat} {t:TypeId}
theorem Rd.zero{cells:α->List AV}{Ok:α->Prop}:Rd enc P W 0 t cells Ok:=fun _ _ n hn=>absurd hn (by omega)
theorem Rd.le{cells:α->List AV}{Ok:α->Prop}(h:Rd enc P W N t cells Ok){M:Nat}(hm:M<=N):Rd enc P W M t cells Ok:=fun b hd n hn=>h b hd n (by omega)
theorem Rd.map{cells:α->List AV}{Ok:α->Prop}(h:Rd enc P W N t cells Ok)(g:α->β){cells':β->List AV}{Ok':β->Prop}(hc:∀a,cells' (g a)=cells a)(ho:∀a,Ok a->Ok' (g a)):Rd enc P W N t cells' Ok':=by
 intro b hd n hn cs x hx hw;obtain⟨a,h1,h2⟩:=h b hd n hn cs x hx hw;exact⟨g a,by rw[hc];exact h1,ho a h2⟩
theorem Bj(ht:P.underlying t=some .bool):Rd enc P W N t (fun b:Bool=>[.bool b]) (fun _=>True):=by
 intro b hd n hn cs x hx hw;obtain⟨b,rfl,_⟩:=DataW.trod_bool ht hx;exact⟨b,by simp[bj,VR],trivial⟩
theorem oJ{k:IntKind}(ht:P.underlying t=some (.int k)):Rd enc P W N t (fun n:Int=>[.int k n]) (fun n=>(Lit.int k n).wf=true):=by
 intro b hd n hn cs x hx hw;obtain⟨b,rfl,_,hwf⟩:=DataW.trod_int ht hx;exact⟨b,by simp[bj,VR],hwf⟩
theorem oK(ht:P.underlying t=some .string):Rd enc P W N t (fun s:List UInt8=>[.str s]) (fun s=>s.length<=reachBytes):=by
 intro b hd n hn cs x hx hw;obtain⟨s,rfl,rfl,_⟩:=DataW.trod_string ht hx;exact⟨s.data.toList,by simp[bj,VR],hw _ (by simp[DataW.weights])⟩
def JB(cells:α->List AV)(ev:α->AV)(sz:Nat):Prop:=∀(a:α)(S:aE)(β:List bT)(vs:List Value),bj S β (cells a) vs->vs.length=sz->∃v,VR S β (ev a) v/\v.cells.toList=vs
theorem lR{cells:α->List AV}{ev:α->AV}{sz:Nat}(he:∀a,ev a= .agg (cells a)):JB cells ev sz:=fun a S β vs h hl=>⟨.agg vs.toArray,by rw[he];simp only[VR];exact⟨vs,rfl,h⟩,by simp[Value.cells]⟩
theorem EV{ev:α->AV}(ho:∀a,ba (ev a)=true):JB (fun a=>[ev a]) ev 1:=fun a S β vs h hl=>by
 simp only[bj]at h;obtain⟨v,_,rfl,h,rfl⟩:=h;exact⟨v,h,by rw[(iF (ho a) h).1]⟩
theorem lK{e:TypeId}:∀ {l:List (DataW H)} {d:DataW H},d∈l->∀k∈d.weights P e,k∈DataW.weightsAll P e l
 |x:: l,d,hd,k,hk=>by
  simp only[DataW.weightsAll,PZ];rcases P0.1 hd with rfl|hd
  ·exact .inl hk
  ·exact .inr (lK hd k hk)
theorem lC{e:TypeId}{cells:α->List AV}{Ok:α->Prop}(h:Rd enc P W N e cells Ok)(ht:P.underlying t=some (.slice e)){sz by_:Nat}(hsz:P.cellsOf e=sz)(h0:0<sz)(hby:P.bytesOf e=by_){ev:α->AV}(hev:JB cells ev sz):
  Rd enc P W N t (fun l:List α=>[.sl (l.map ev)]) (fun l=>l.length*by_<=reachBytes/\∀a∈l,Ok a):=by
 intro base hd n hn cs x hx hw;rcases DataW.trod_slice ht hx with⟨rfl,rfl⟩|⟨a,len,cap,elems,rest,m,rfl,rfl,rfl,hb,hle,hm,hlen,hel,hsp,_⟩
 ·exact⟨[],by simp only[bj,Sq,VR];exact⟨_,_,rfl,⟨none,0,rfl,Pw _,fun _=>rfl,fun q hq=>by cases hq⟩,rfl⟩,by simp,fun a ha=>by cases ha⟩
 obtain⟨hrl,hre⟩:=hsp rfl;rw[hsz]at hel hre;simp only[DataW.weights,ht,P0,PZ,hby]at hw;have hspot:0<cap->a.spot=none:=by
  intro hc;have:∃y,(W.cells? base (a.add 0) sz).bind (DataW.trod enc P W base (fun _=>true) hd m e)=some y:=by
   by_cases h1:0<len
   ·have:=hel 0 h1
    rw[Pv (by omega)]at this;exact⟨_,by simpa using this⟩
   ·have:=hre 0 (by omega)
    rw[Pv (by omega)]at this;obtain rfl:len=0:=by omega
    exact⟨_,by simpa using this⟩
  obtain⟨y,hy⟩:=this;obtain⟨cs,hcs,_⟩:=Sy.1 hy;obtain⟨_,hl,hc⟩:=World.cells?_some hcs;have h2:=hc 0 h0;rw[Pv (by omega)]at h2;have h3:=World.cell?_spot h2;have e:(a.add 0).add 0=a:=by unfold Addr.add;simp
  rwa [e]at h3
 have hx:∀i,i<len->∃y:α,(∃v,VR (ma W) [] (ev y) v/\v.cells.size=sz/\eS (ma W) a.block (a.off+i*sz) v.cells.toList)/\Ok y:=by
  intro i hi;have h1:=hel i hi;rw[Pv (by omega)]at h1;obtain⟨cs,hcs,htr⟩:=Sy.1 h1;obtain⟨y,hy,hok⟩:=h base hd m (by omega) cs _ htr (fun k hk=>hw k (.inr (.inl (lK (QU.2 ⟨_,Px _,rfl⟩) k hk))));obtain⟨_,hl,hc⟩:=World.cells?_some hcs;obtain⟨v,hv,hvc⟩:=hev y _ _ cs hy hl;refine⟨y,⟨v,hv,by rw[<- Ql,hvc,hl],fun j u hj=>?_⟩,hok⟩;rw[hvc]at hj;have hjl:j<sz:=by
   rcases PS j cs.length with h|h
   ·omega
   ·rw[PO h]at hj;cases hj
  have h2:=hc j hjl;rw[hj]at h2;unfold ma;have hs:=hspot (by omega);have e:(a.add (i*sz)).add j=⟨a.block,a.off+i*sz+j,none⟩:=by
   obtain⟨b,o,s⟩:=a;simp only at hs;subst hs;rw[add_plain,add_plain]
  rw[<- e];exact h2
 obtain⟨l,hl1,hl2⟩:=A4 (fun i y=>(∃v,VR (ma W) [] (ev y) v/\v.cells.size=sz/\eS (ma W) a.block (a.off+i*sz) v.cells.toList)/\Ok y) len hx;refine⟨l,?_,?_,fun y hy=>?_⟩
 ·simp only[bj,VR,Q1];refine⟨_,_,rfl,⟨some a,cap,by rw[hl1],by omega,(fun e=>by cases e),fun q hq=>?_⟩,rfl⟩;cases hq;refine⟨hspot,sz,.of_get fun i e he=>?_⟩;rw[Qp,QF]at he;obtain⟨y,hy,rfl⟩:=he;exact (hl2 i y hy).1
 ·have:=hw _ (.inl rfl)
  simp only[Q1]at this;have h3:=PQ by_ (show l.length<=elems.length+rest.length by omega);omega
 ·obtain⟨i,hi,e⟩:=List.getElem_of_mem hy;exact (hl2 i y (by rw[Pv hi,e])).2
theorem jd{tot:Nat}:GQ enc P W N tot tot [] (fun _:Unit=>[]) (fun _=>True):=fun base hd n hn cs xs hl _ _ _=>⟨(),by simp[bj,<- hl],trivial⟩
theorem bm{tot o k:Nat}{f:Field}{fs:List Field}{c1:α->List AV}{Ok1:α->Prop}{c2:β->List AV}{Ok2:β->Prop}(h1:Rd enc P W N f.type c1 Ok1)(ho:f.offset=o)(hk:P.cellsOf f.type=k)(h2:GQ enc P W N tot (o+k) fs c2 Ok2):
  GQ enc P W N tot o (f:: fs) (fun x:α×β=>c1 x.1++c2 x.2) (fun x=>Ok1 x.1/\Ok2 x.2):=by
 intro base hd n hn cs xs hl hx hf hw
 match xs,hx with
 |x:: xs,hx=>
  have hf0:=hf 0 f rfl;rw[ho,hk]at hf0;simp only[Qu,DataW.weightsEach,PZ]at hw;obtain⟨a,ha,oa⟩:=h1 base hd n hn _ x hf0 fun k hk=>hw k (.inl hk);obtain⟨b,hb,ob⟩:=h2 base hd n hn cs xs hl (by simpa using hx) (fun i g hg=>by simpa using hf (i+1) g (by simpa using hg)) fun k hk=>hw k (.inr hk);refine⟨(a,b),?_,oa,ob⟩
  have:=ha.append hb
  rwa [<- List.drop_drop,List.take_append_drop]at this
theorem gG{fs:Array Field}{tot:Nat}{cells:α->List AV}{Ok:α->Prop}(ht:P.underlying t=some (.struct fs))(hc:P.cellsOf t=tot)(h:GQ enc P W N tot 0 fs.toList cells Ok):Rd enc P W (N+1) t cells Ok:=by
 intro base hd n hn cs x hx hw;obtain⟨xs,m,rfl,rfl,hl,hxs,hf⟩:=DataW.trod_struct ht hx;simp only[DataW.weights,ht]at hw;obtain⟨a,h1,h2⟩:=h base hd m (by omega) cs xs (by rw[hl,hc]) (by simpa using hxs) (fun i f hi=>hf i f (by simpa using hi)) hw;exact⟨a,by simpa using h1,h2⟩
theorem F8{cells:α->List AV}{Ok:α->Prop}(h:∀N,Rd enc P W N t cells Ok){base:Nat}{held:Bool}{v:Value}{d:DataW H}{p:List MemPlace}(hd:DataW.Trod enc P W base (fun _=>true) held t v d p)(hw:∀k∈d.weights P t,k<=reachBytes):
  ∃a:α,bj (ma W) [] (cells a) v.cells.toList/\Ok a:=by
 obtain⟨n,hn⟩:=hd;exact h (n+1) base held n (by omega) _ _ hn hw
theorem H6{f:α->AV}{Ok:α->Prop}(h:∀N,Rd enc P W N t (fun a=>[f a]) Ok){base:Nat}{held:Bool}{v:Value}{d:DataW H}{p:List MemPlace}(hv:v.cells.toList=[v])(hd:DataW.Trod enc P W base (fun _=>true) held t v d p)(hw:∀k∈d.weights P t,k<=reachBytes):
  ∃a:α,VR (ma W) [] (f a) v/\Ok a:=by
 obtain⟨a,h1,h2⟩:=F8 h hd hw;rw[hv]at h1;simp only[bj]at h1;obtain⟨y,ys,e,h1,rfl⟩:=h1;cases e;exact⟨a,h1,h2⟩
theorem BL{e:TypeId}{r:Reach}{b0:Nat}{f:α->AV}{Ok:α->Prop}(h:∀N,Rd enc P W N t (fun a=>[f a]) Ok)(ht:P.underlying t=some (.slice e)){base:Nat}{held:Bool}{v:Value}{d:DataW H}{p:List MemPlace}(hok:Value.okWide P W r b0 t v)(hd:DataW.Trod enc P W base (fun _=>true) held t v d p)(hw:∀k∈d.weights P t,k<=reachBytes):∃a:α,VR (ma W) [] (f a) v/\Ok a:=by
 obtain⟨a,len,cap,rfl⟩:=okWide_slice ht hok;exact H6 h rfl hd hw
theorem qi{fs:Array Field}{r:Reach}{b0:Nat}{f:α->AV}{Ok:α->Prop}{cells:α->List AV}(h:∀N,Rd enc P W N t cells Ok)(hf:∀a,f a= .agg (cells a))(ht:P.underlying t=some (.struct fs)){base:Nat}{held:Bool}{v:Value}{d:DataW H}{p:List MemPlace}(hok:Value.okWide P W r b0 t v)(hd:DataW.Trod enc P W base (fun _=>true) held t v d p)(hw:∀k∈d.weights P t,k<=reachBytes):∃a:α,VR (ma W) [] (f a) v/\Ok a:=by
 obtain⟨cs,rfl,_⟩:=okWide_struct ht hok;obtain⟨a,h1,h2⟩:=F8 h hd hw;refine⟨a,?_,h2⟩;rw[hf];simp only[VR];exact⟨cs.toList,by simp,h1⟩
theorem mE{ts:List TypeId}{ds:List (DataW H)}(h:(DataW.weightsEach P ts ds).all (· <=reachBytes)=true){j:Nat}{u:TypeId}{d:DataW H}(ht:ts[j]? = some u)(hd:ds[j]? = some d):∀k∈d.weights P u,k<=reachBytes:=fun k hk=>by
 have:=PG.1 h _ (DataW.weights_mem_each ht hd k hk)
 simpa using this
end
end Go.Av
namespace Go.Av.Ap
open Go Go.Av
def Val.limN:Nat->Val->Prop
 |0,_=>True
 |n+1,v=>v.names.length<=140737488355328/\v.values.length<=140737488355328/\∀x∈v.values,x.limN n
def Val.Lim(v:Val):Prop:=∀n,v.limN n
def Exp.limN:Nat->Exp->Prop
 |0,_=>True
 |n+1,v=>v.names.length<=8796093022208/\v.args.length<=140737488355328/\∀x∈v.args,x.limN n
def Exp.Lim(v:Exp):Prop:=∀n,v.limN n
def Ty.limN:Nat->Ty->Prop
 |0,_=>True
 |n+1,v=>v.fields.length<=140737488355328/\∀x∈v.fields,x.2.limN n
def Ty.Lim(v:Ty):Prop:=∀n,v.limN n
def Val.Lim.names{v:Val}(h:v.Lim):v.names.length<=140737488355328:=(h 1).1
def Val.Lim.len{v:Val}(h:v.Lim):v.values.length<=140737488355328:=(h 1).2.1
def Val.Lim.kid{v:Val}(h:v.Lim){x:Val}(hx:x∈v.values):x.Lim:=fun n=>(h (n+1)).2.2 x hx
def Exp.Lim.names{v:Exp}(h:v.Lim):v.names.length<=8796093022208:=(h 1).1
def Exp.Lim.len{v:Exp}(h:v.Lim):v.args.length<=140737488355328:=(h 1).2.1
def Exp.Lim.kid{v:Exp}(h:v.Lim){x:Exp}(hx:x∈v.args):x.Lim:=fun n=>(h (n+1)).2.2 x hx
def Ty.Lim.len{v:Ty}(h:v.Lim):v.fields.length<=140737488355328:=(h 1).1
def Ty.Lim.kid{v:Ty}(h:v.Lim){x:bd}(hx:x∈v.fields):x.2.Lim:=fun n=>(h (n+1)).2 x hx
structure Fun.Lim (f:Fun):Prop where
 params:f.params.length<=140737488355328
 pty:∀x∈f.params,x.2.Lim
 result:f.result.Lim
 body:f.body.Lim
structure Mod.Lim (m:Mod):Prop where
 uses:m.uses.length<=140737488355328
 vars:m.vars.length<=140737488355328
 vty:∀x∈m.vars,x.2.Lim
 init:m.init.length<=140737488355328
 ies:∀e∈m.init,e.Lim
 funcs:m.funcs.length<=140737488355328
 fns:∀f∈m.funcs,f.Lim
 old:m.old.length<=140737488355328
 oty:∀x∈m.old,x.2.Lim
 forward:m.forward.length<=140737488355328
 fes:∀e∈m.forward,e.Lim
 back:m.back.length<=140737488355328
 bes:∀e∈m.back,e.Lim
def pP(b:UInt8):Bool:=decide (97<=b.toNat)&&decide (b.toNat<=122)
def yY(b:UInt8):Bool:=decide (48<=b.toNat)&&decide (b.toNat<=57)
def qg(b:UInt8):Bool:=pP b||yY b
def pC(s:a7):Bool:=!(s== [])&&pP (s.headD 0)&&decide (s.length<=20)&&((s.takeWhile qg).length== s.length)
def l5:a7:=[32,97,110,100,32,98,97,99,107,32,98,111,111,108,32,99,108,111,99,107,32,101,108,115,101,32,102,97,108,115,101,32,102,105,108,101,115,32,102,110,32,102,111,114,119,97,114,100,32,103,101,116,32,105,102,32,105,110,32,105,110,116,32,108,101,116,32,109,111,100,117,108,101,32,109,111,118,101,32,110,101,116,32,110,111,116,32,111,114,32,112,117,98,32,115,101,99,114,101,116,115,32,115,101,116,32,116,104,101,110,32,116,114,117,101,32,117,115,101,32,118,97,114,32]
def cX(s:a7):Bool:=pC s&&!(Lib.contains l5 ([32]++s++[32]))
def C4{s:a7}(h:pC s=true):s.length<=20:=by
 unfold pC at h;simp only[Po,Pt]at h;exact h.1.2
def eH(p f:a7):Bool:=!(bH f p||f== p)
def kV{α:Type}(Q:α->α->Bool):List α->Bool
 |x:: y:: r=>Q x y&&kV Q (y:: r)
 |_=>true
theorem vV{α:Type}[Inhabited α](Q:α->α->Bool):(l:List α)->(kV Q l=true↔∀k,k+1<l.length->Q l[k]! l[k+1]! = true)
 |[]=>by simp[kV]
 |[x]=>by simp[kV]
 | x:: y:: r=>by
  simp only[kV,Po,vV Q (y:: r)];constructor
  ·rintro⟨h1,h2⟩ k hk;cases k with
   |zero=>simpa using h1
   |succ k=>simpa using h2 k (by simpa using hk)
  ·intro h;refine⟨by simpa using h 0 (by simp),fun k hk=>?_⟩;simpa using h (k+1) (by simpa using hk)
def An{α:Type}[Inhabited α](P:α->Bool)(Q:α->α->Bool)(l:List α):(List.range' 0 l.length).all (fun k=>P l[k]! && (decide (k=0)||Q l[k-1]! l[k]!))=(l.all P&&kV Q l):=by
 rw[QN,Po,<- yE P l,vV];simp only[PG,List.mem_range'_1,Po,Qn,Pt];constructor
 ·intro h;refine⟨fun k hk=>(h k hk).1,fun k hk=>?_⟩
  have:=(h (k+1) ⟨P8 _,by omega⟩).2
  rcases this with h0|h1
  ·omega
  ·simpa using h1
 ·rintro⟨h1,h2⟩ k hk;refine⟨h1 k hk,?_⟩;cases k with
  |zero=>exact .inl rfl
  |succ k=>exact .inr (by simpa using h2 k (by omega))
def dm:Nat->Ty->Bool
 |0,_=>false
 |d+1,t=>decide (0<=t.kind)&&decide (t.kind<3)&&decide (t.fields.length<=8)&&(t.kind== 2||t.fields.length== 0)&&(t.fields.all (fun f=>cX f.1&&dm d f.2)&&kV (fun a b=>eH a.1 b.1) t.fields)
theorem fR(d:Nat)(t:Ty):dm (d+1) t=(decide (0<=t.kind)&&decide (t.kind<3)&&decide (t.fields.length<=8)&&(t.kind== 2||t.fields.length== 0)&&(t.fields.all (fun f=>cX f.1&&dm d f.2)&&kV (fun a b=>eH a.1 b.1) t.fields)):=rfl
abbrev bg(t:Ty):Bool:=dm 4 t
mutual
def uc:Ty->Ty->Bool
 |.mk k fs,a=>a.kind== k&&pK fs a.fields
def pK:List (a7×Ty)->List bd->Bool
 |[],_=>true
 |f:: fs,l=>yK f l&&pK fs l
def yK:a7×Ty->List bd->Bool
 |(n,t),l=>match bW (fun z=>z.1== n) l with
  |some z=>uc t z.2
  |none=>false
end
def cd(a b:Ty):Bool:=uc b a
theorem oZ:(fs:List bd)->(l:List bd)->pK fs l=fs.all fun f=>yK f l
 |[],_=>rfl
 |f:: fs,l=>by simp[pK,oZ fs l]
def sI(a b:Ty):cd a b=(a.kind== b.kind&&b.fields.all fun f=>match bW (fun z=>z.1== f.1) a.fields with|some z=>cd z.2 f.2|none=>false):=by
 cases b with
 |mk k fs=>
  show uc (.mk k fs) a=_;simp only[uc,oZ,Ty.kind,Ty.fields];congr 2;funext f;obtain⟨n,t⟩:=f;simp only[yK,cd]
def eU(a b:Int):Int:=IntKind.i64.wrap (BitVec.ofInt 64 a &&& ~~~ BitVec.ofInt 64 b).toNat
structure Sig.Lim (s:Sig):Prop where
 plen:s.params.length<=140737488355328
 ptys:∀t∈s.params,t.Lim
 result:s.result.Lim
structure Face.Lim (f:Face):Prop where
 len:f.funcs.length<=140737488355328
 sigs:∀s∈f.funcs,s.Lim
@[simp] theorem qm(x:Sig):aN 5 x.av=M.pure x.av:=by rw[aY (rn x),iM,wP]
@[simp] theorem ug(x:Sig):ay 5 [] x.av=M.pure x.av:=by rw[bB (rn x),iM,wP]
end Go.Av.Ap
namespace Go.Av.Ap
def yH:List a7->Bool
 |[]=>true
 |[_]=>true
 |x:: y:: l=>bH x y&&yH (y:: l)
def bF:Nat->Val->Bool
 |0,_=>false
 |d+1,v=>if(v.kind== 0||v.kind== 1)=true then v.names.length== 0&&v.values.length== 0&&(v.kind== 0||v.n== 0||v.n== 1)
  else v.kind== 2&&v.n== 0&&v.names.length== v.values.length&&decide (v.names.length<=8)&&yH v.names&&v.values.all (bF d)
def fI(b:Bool):Val:=.mk 1 (if b then 1 else 0) [] []
def lu(n:Int):Val:=.mk 0 n [] []
def tn(p:List Mod)(s:a7):Int:=aV (fun m=>m.name== s) p 0
def kD(l:List Fun)(s:a7):Int:=aV (fun f=>f.name== s) l 0
def eh(l:List bd)(s:a7):Int:=aV (fun f=>f.1== s) l 0
structure Ms where
 fuel:Int
 frames:Int
 world:List Int
 deeds:List Deed
 calls:List Call
 state:List (List Val)
inductive Rs (α:Type) where
 |ok (a:α) (m:Ms)
 |er (e:Int) (m:Ms)
def X(α:Type):=Ms->Rs α
def X.ok{α:Type}(a:α):X α:=fun m=>.ok a m
def X.er{α:Type}(e:Int):X α:=fun m=>.er e m
def X.bind{α β:Type}(x:X α)(f:α->X β):X β:=fun m=>match x m with
 |.ok a m'=>f a m'
 |.er e m'=>.er e m'
def X.upd{α:Type}(f:Ms->Ms)(x:X α):X α:=fun m=>x (f m)
def X.get{α:Type}(f:Ms->X α):X α:=fun m=>f m m
def aQ(op:Int):Int:=
 if op=0\/op=1\/op=2\/op=17 then 0
 else if op=10\/op=14\/op=16\/op=18 then 1
 else if op=3\/op=4\/op=5\/op=6\/op=7\/op=8\/op=9\/op=12 then 2
 else if op=11 then 3
 else if op=13\/op=15 then -1
 else -2
def gq:List a7->List Val->a7->Option Val
 |n:: ns,v:: vs,s=>match gq ns vs s with
  |some x=>some x
  |none=>if n=s then some v else none
 |_,_,_=>none
def dQ:List a7->List Val->a7->Option Val
 |n:: ns,v:: vs,s=>if n=s then some v else dQ ns vs s
 |_,_,_=>none
def wr(n:Int):Int:=IntKind.i64.wrap n
def kJ(op:Int)(a b:Val):X Val:=
 if op=7 then(if a.kind=b.kind/\a.kind≠2 then .ok (fI (a.n== b.n))else .er 13)
 else if a.kind=0/\b.kind=0 then
  (if op=3 then .ok (lu (wr (a.n+b.n)))else if op=4 then .ok (lu (wr (a.n-b.n)))else if op=5 then .ok (lu (wr (a.n*b.n)))else .ok (fI (decide (a.n<b.n))))
 else .er 13
mutual
def fh:Val->Nat
 |.mk _ _ _ vs=>eJ vs+1
def eJ:List Val->Nat
 |[]=>0
 |v:: vs=>max (fh v) (eJ vs)
end
abbrev Ev:=Int->List a7->List Val->Exp->X Val
def boolX(r:X Val):X Bool:=r.bind fun v=>if v.kind=1 then .ok (v.n== 1)else .er 13
def listX(r:Exp->X Val):List Exp->X (List Val)
 |[]=>.ok []
 |e:: es=>(r e).bind fun v=>(listX r es).bind fun vs=>.ok (v:: vs)
def gV(r:Exp->X Val)(e:Exp):X Val:=
 if e.names.length=e.args.length/\yH e.names=true then
  (if e.names.length<=8 then(listX r e.args).bind fun vs=>if fh (.mk 2 0 e.names vs)<=4 then .ok (.mk 2 0 e.names vs)else .er 6 else .er 6)
 else .er 13
def jI(p:List Mod)(at_:Int)(s:a7):Option Fun:=
 if at_<0 then none else(let l:=(p[at_.toNat]?.getD default).funcs;let i:=kD l s;if i<0 then none else l[i.toNat]?)
def fD(p:List Mod)(r:Ev)(at_:Int)(f:Fun)(l:List Val):X Val:=
 .get fun m=>if m.frames<60 then
  .upd (fun m=>{ m with calls:=if f.pub=true then m.calls++[⟨(p[at_.toNat]?.getD default).name,f.name,l⟩]else m.calls,frames:=m.frames+1 })
   ((r at_ (f.params.map (·.1)) l f.body).bind fun v=>.upd (fun m=>{ m with frames:=m.frames-1 }) (.ok v))
 else .er 6
def me(p:List Mod)(r:Ev)(own:Int)(ns:List a7)(vs:List Val)(e:Exp):X Val:=
 let at_:=if e.m=[]then own else tn p e.m
 match jI p at_ e.s with
 |none=>.er 12
 | some f=>if e.m=[]\/f.pub=true then
   (if e.args.length=f.params.length then(listX (r own ns vs) e.args).bind fun l=>fD p r at_ f l else .er 13)
  else .er 12
def r6(r:X Val)(e:Exp):X Val:=
 r.bind fun v=>if v.kind=0 then
  (if e.n=1\/e.n=2\/e.n=4\/e.n=8 then
   .get fun m=>.upd (fun m=>{ m with world:=m.world.tail,deeds:=m.deeds++[⟨e.n,v.n,m.world.headD 0⟩] }) (.ok (lu (m.world.headD 0)))
  else .er 14)
 else .er 13
def setSt(st:List (List Val))(i k:Nat)(v:Val):List (List Val):=st.modify i fun l=>l.set k v
def mj(st:List (List Val))(i k:Nat):Val:=(st.getD i []).getD k default
def rV(p:List Mod)(r:Exp->X Val)(own:Int)(e:Exp):X Val:=
 if own<0 then .er 12 else
 let i:=eh (p[own.toNat]?.getD default).vars e.s
 if i<0 then .er 12 else
 if e.op=18 then(r e.args[0]!).bind fun v=>.upd (fun m=>{ m with state:=setSt m.state own.toNat i.toNat v }) (.ok v)
 else .get fun m=>.ok (mj m.state own.toNat i.toNat)
def kF(p:List Mod)(r:Ev):Ev:=fun own ns vs e=>.get fun m=>
 if m.fuel<=0 then .er 16 else .upd (fun m=>{ m with fuel:=m.fuel-1 }) <|
 let n:=aQ e.op
 if n= -2\/(n≠-1/\n≠e.args.length)then .er 13
 else if e.op=0 then .ok (lu e.n)
 else if e.op=1 then(if e.n=0\/e.n=1 then .ok (fI (e.n== 1))else .er 13)
 else if e.op=2 then(match gq ns vs e.s with|some v=>.ok v|none=>.er 12)
 else if e.op=3\/e.op=4\/e.op=5\/e.op=6\/e.op=7 then(r own ns vs e.args[0]!).bind fun a=>(r own ns vs e.args[1]!).bind fun b=>kJ e.op a b
 else if e.op=8\/e.op=9 then(boolX (r own ns vs e.args[0]!)).bind fun x=>if x=(e.op== 9)then .ok (fI (e.op== 9))else(boolX (r own ns vs e.args[1]!)).bind fun y=>.ok (fI y)
 else if e.op=10 then(boolX (r own ns vs e.args[0]!)).bind fun x=>.ok (fI !x)
 else if e.op=11 then(boolX (r own ns vs e.args[0]!)).bind fun x=>if x=true then r own ns vs e.args[1]! else r own ns vs e.args[2]!
 else if e.op=12 then(r own ns vs e.args[0]!).bind fun v=>r own (ns++[e.s]) (vs++[v]) e.args[1]!
 else if e.op=13 then gV (r own ns vs) e
 else if e.op=14 then(r own ns vs e.args[0]!).bind fun v=>(match dQ v.names v.values e.s with|some x=>if v.kind=2 then .ok x else .er 13|none=>.er 13)
 else if e.op=15 then me p r own ns vs e
 else if e.op=16 then r6 (r own ns vs e.args[0]!) e
 else rV p (r own ns vs) own e
def bR(p:List Mod):Nat->Ev
 |0=>fun _ _ _ _=>.er 16
 |n+1=>kF p (bR p n)
end Go.Av.Ap
namespace Go.Av.Ap
def Rs.st{α:Type}:Rs α->Ms
 |.ok _ m=>m
 |.er _ m=>m
def Rs.on{α:Type}(f:Ms->Ms):Rs α->Rs α
 |.ok a m=>.ok a (f m)
 |.er e m=>.er e (f m)
def pz{α:Type}(y:X α):X α:=.get fun m=>if m.fuel<=0 then .er 16 else .upd (fun m=>{ m with fuel:=m.fuel-1 }) y
def ND(n a:Int):X Val:=.get fun m=>.upd (fun m=>{ m with world:=m.world.tail,deeds:=m.deeds++[⟨n,a,m.world.headD 0⟩] }) (.ok (lu (m.world.headD 0)))
structure Closed (p:List Mod) (Q:Int->(α:Type)->X α->Prop):Prop where
 ok:∀(o:Int)(α:Type)(a:α),Q o α (.ok a)
 er:∀(o:Int)(α:Type)(e:Int),e≠0->Q o α (.er e)
 bind:∀(o:Int)(α β:Type)(x:X α)(f:α->X β),Q o α x->(∀a,Q o β (f a))->Q o β (x.bind f)
 tick:∀(o:Int)(α:Type)(y:X α),Q o α y->Q o α (pz y)
 act:∀(o n a:Int),Q o Val (ND n a)
 set:∀(o:Int)(k:Nat)(v:Val),¬o<0->Q o Val (.upd (fun m=>{ m with state:=setSt m.state o.toNat k v }) (.ok v))
 get:∀(o:Int)(k:Nat),Q o Val (.get fun m=>.ok (mj m.state o.toNat k))
 enter:∀(o a:Int)(r:Ev)(f:Fun)(l:List Val),¬a<0->a.toNat<p.length->f∈(p[a.toNat]?.getD default).funcs->(∀o ns vs e,Q o Val (r o ns vs e))->Q o Val (fD p r a f l)
def qI{p:List Mod}{a:Int}{s:a7}{f:Fun}(h:jI p a s=some f):¬a<0/\a.toNat<p.length/\f∈(p[a.toNat]?.getD default).funcs:=by
 unfold jI at h;by_cases h1:a<0
 ·simp[h1]at h
 ·rw[if_neg h1]at h;simp only at h;split at h
  ·cases h
  ·have hm:=Qf h;refine⟨h1,?_,hm⟩;rcases PS a.toNat p.length with k|k
   ·exact k
   ·rw[PO k]at hm;cases hm
def Mx{Q:Int->(α:Type)->X α->Prop}{o:Int}{α:Type}{c:Prop}[Decidable c](x y:X α)(h1:Q o α x)(h2:Q o α y):Q o α (if c then x else y):=by
 split
 ·exact h1
 ·exact h2
section
variable {p:List Mod} {Q:Int->(α:Type)->X α->Prop} (C:Closed p Q)
include C
theorem Closed.boolX{o:Int}{r:X Val}(h:Q o Val r):Q o Bool (boolX r):=by
 refine C.bind _ _ _ _ _ h fun v=>?_;split
 ·exact C.ok _ _ _
 ·exact C.er _ _ _ (by decide)
theorem Closed.listX{o:Int}{r:Exp->X Val}(h:∀e,Q o Val (r e)):∀l,Q o (List Val) (listX r l)
 |[]=>C.ok _ _ _
 |e:: l=>C.bind _ _ _ _ _ (h e) fun _=>C.bind _ _ _ _ _ (Closed.listX h l) fun _=>C.ok _ _ _
theorem Closed.step{r:Ev}(h:∀o ns vs e,Q o Val (r o ns vs e))(o:Int)(ns:List a7)(vs:List Val)(e:Exp):Q o Val (kF p r o ns vs e):=by
 unfold kF;refine C.tick _ _ _ ?_;have B:=fun{α β:Type} {x:X α} {f:α->X β}=>C.bind o α β x f;have I:=@Mx Q o;have er:=fun(α:Type) n (h:n≠0)=>C.er o α n h;have ok:=fun(α:Type) (a:α)=>C.ok o α a;refine I _ _ (er _ _ (by decide)) (I _ _ (ok _ _) (I _ _ (I _ _ (ok _ _) (er _ _ (by decide))) (I _ _ ?_ (I _ _ ?_ (I _ _ ?_ (I _ _ ?_ (I _ _ ?_ (I _ _ ?_ (I _ _ ?_ (I _ _ ?_ (I _ _ ?_ (I _ _ ?_ ?_))))))))))))
 ·split
  ·exact ok _ _
  ·exact er _ _ (by decide)
 ·refine B (h _ _ _ _) fun a=>B (h _ _ _ _) fun b=>?_;unfold kJ;exact I _ _ (I _ _ (ok _ _) (er _ _ (by decide))) (I _ _ (I _ _ (ok _ _) (I _ _ (ok _ _) (I _ _ (ok _ _) (ok _ _)))) (er _ _ (by decide)))
 ·exact B (C.boolX (h _ _ _ _)) fun a=>I _ _ (ok _ _) (B (C.boolX (h _ _ _ _)) fun b=>ok _ _)
 ·exact B (C.boolX (h _ _ _ _)) fun a=>ok _ _
 ·exact B (C.boolX (h _ _ _ _)) fun a=>I _ _ (h _ _ _ _) (h _ _ _ _)
 ·exact B (h _ _ _ _) fun v=>h _ _ _ _
 ·unfold gV;exact I _ _ (I _ _ (B (C.listX (fun e=>h _ _ _ e) _) fun vs=>I _ _ (ok _ _) (er _ _ (by decide))) (er _ _ (by decide))) (er _ _ (by decide))
 ·refine B (h _ _ _ _) fun v=>?_;split
  ·exact I _ _ (ok _ _) (er _ _ (by decide))
  ·exact er _ _ (by decide)
 ·unfold me;simp only;split
  ·exact er _ _ (by decide)
  ·rename_i f hf;obtain⟨h1,h2,h3⟩:=qI hf;exact I _ _ (I _ _ (B (C.listX (fun e=>h _ _ _ e) _) fun l=>C.enter _ _ _ _ _ h1 h2 h3 h) (er _ _ (by decide))) (er _ _ (by decide))
 ·unfold r6;exact B (h _ _ _ _) fun v=>I _ _ (I _ _ (C.act _ _ _) (er _ _ (by decide))) (er _ _ (by decide))
 ·unfold rV;split
  ·exact er _ _ (by decide)
  ·rename_i ho;exact I _ _ (er _ _ (by decide)) (I _ _ (B (h _ _ _ _) fun v=>C.set _ _ _ ho) (C.get _ _))
theorem Closed.eval:∀(n:Nat)(o:Int)(ns:List a7)(vs:List Val)(e:Exp),Q o Val (bR p n o ns vs e)
 |0,_,_,_,_=>C.er _ _ _ (by decide)
 |n+1,o,ns,vs,e=>C.step (fun o ns vs e=>Closed.eval n o ns vs e) o ns vs e
end
def Ni(α:Type)(x:X α):Prop:=∀m e s,x m= .er e s->e≠0
def kK(p:List Mod)(a:Int)(f:Fun)(l:List Val)(m:Ms):Ms:={ m with calls:=if f.pub=true then m.calls++[⟨(p[a.toNat]?.getD default).name,f.name,l⟩]else m.calls,frames:=m.frames+1 }
def zd(p:List Mod):Closed p fun _=>Ni where
 ok:=fun _ _ a m e s h=>by cases h
 er:=fun _ _ a h m e s h2=>by cases h2;exact h
 bind:=fun _ _ _ x f hx hf m e s h=>by
  unfold X.bind at h;cases hr:x m with
  |er c t=>rw[hr]at h;cases h;exact hx m _ _ hr
  |ok a t=>rw[hr]at h;exact hf a t e s h
 tick:=fun _ _ y hy m e s h=>by
  unfold pz X.get at h;by_cases hf:m.fuel<=0
  ·simp only[hf,PF]at h;cases h;decide
  ·simp only[hf,PE]at h;exact hy _ e s h
 act:=fun _ n a m e s h=>by cases h
 set:=fun _ k v _ m e s h=>by cases h
 get:=fun _ k m e s h=>by cases h
 enter:=fun _ a r f l _ _ _ hr m e s h=>by
  unfold fD X.get at h;by_cases hf:m.frames<60
  ·simp only[hf,PF,X.upd,X.bind]at h;cases hq:r a (f.params.map (·.1)) l f.body { m with calls:=if f.pub=true then m.calls++[⟨(p[a.toNat]?.getD default).name,f.name,l⟩]else m.calls,frames:=m.frames+1 }with
   |ok b t=>rw[hq]at h;cases h
   |er c t=>rw[hq]at h;cases h;exact hr _ _ _ _ _ _ _ hq
  ·simp only[hf,PE]at h;cases h;decide
def wz{p:List Mod}{n:Nat}{o:Int}{ns:List a7}{vs:List Val}{e:Exp}{m s:Ms}{c:Int}(h:bR p n o ns vs e m= .er c s):c≠0:=(zd p).eval n o ns vs e m c s h
end Go.Av.Ap
namespace Go.Av.Ap
def tX(m:Ms):Prop:=(∀l∈m.state,∀v∈l,bF 4 v=true)/\(∀c∈m.calls,∀v∈c.args,bF 4 v=true)
def lI(m:Ms):List Nat:=m.state.map List.length
def RQ{α:Type}(x:X α)(Q:α->Prop):Prop:=∀m,tX m->tX (x m).st/\lI (x m).st=lI m/\∀a s,x m= .ok a s->Q a
def iu{α:Type}{a:α}{Q:α->Prop}(h:Q a):RQ (.ok a) Q:=fun m hm=>⟨hm,rfl,fun b s e=>by cases e;exact h⟩
def gh{α:Type}{e:Int}{Q:α->Prop}:RQ (.er e) Q:=fun m hm=>⟨hm,rfl,fun b s e=>by cases e⟩
def dW{α β:Type}{x:X α}{f:α->X β}{Q:α->Prop}{R:β->Prop}(hx:RQ x Q)(hf:∀a,Q a->RQ (f a) R):RQ (x.bind f) R:=by
 intro m hm;obtain⟨h1,h2,h3⟩:=hx m hm;cases hr:x m with
 |er e s=>
  rw[hr]at h1 h2;simp only[X.bind,hr];exact⟨h1,h2,fun b s e=>by cases e⟩
 |ok a s=>
  rw[hr]at h1 h2;obtain⟨g1,g2,g3⟩:=hf a (h3 a s hr) s h1;simp only[X.bind,hr];exact⟨g1,g2.trans h2,g3⟩
def cq{α:Type}{c:Prop}[Decidable c]{x y:X α}{Q:α->Prop}(h1:c->RQ x Q)(h2:¬c->RQ y Q):RQ (if c then x else y) Q:=by
 split
 ·exact h1 ‹_›
 ·exact h2 ‹_›
abbrev Rv(v:Val):Prop:=bF 4 v=true
def iG(n:Int):Rv (lu n):=by simp[Rv,lu,bF,Val.names,Val.values,Val.kind]
def fS(b:Bool):Rv (fI b):=by cases b<;>rfl
theorem iY:(l:List Val)->(d:Nat)->(eJ l<=d↔∀v∈l,fh v<=d)
 |[],d=>by simp[eJ]
 |v:: l,d=>by
  simp only[eJ,P0,forall_eq_or_imp];rw[<- iY l d];omega
def jM(v:Val):fh v=eJ v.values+1:=by cases v;rfl
theorem sT:∀(d:Nat)(v:Val),bF (d+1) v=true->fh v<=d->bF d v=true
 |0,v,_,hl=>by rw[jM]at hl;omega
 | d+1,v,h,hl=>by
  rw[jM]at hl;unfold bF at h|-;split at h
  ·rename_i hk;rw[Ps hk];exact h
  ·rename_i hk;rw[if_neg hk];simp only[Po,PG]at h|-;exact⟨h.1,fun x hx=>sT d x (h.2 x hx) ((iY v.values d).1 (by omega) x hx)⟩
theorem CR{ns:List a7}{vs:List Val}(hl:ns.length=vs.length)(ha:yH ns=true)(h8:ns.length<=8)(hv:∀v∈vs,Rv v)(h4:fh (.mk 2 0 ns vs)<=4):Rv (.mk 2 0 ns vs):=by
 have h3:eJ vs<=3:=by
  rw[jM]at h4;have:(Val.mk 2 0 ns vs).values=vs:=rfl;rw[this]at h4;omega
 have h5:=(iY vs 3).1 h3;unfold Rv bF;rw[if_neg (show ¬(((Val.mk 2 0 ns vs).kind== 0||(Val.mk 2 0 ns vs).kind== 1)=true) by simp[Val.kind])];simp only[O5,Pk,O0,OY,Po,PG,PR];exact⟨⟨⟨⟨⟨trivial,trivial⟩,hl⟩,Q9 h8⟩,ha⟩,fun x hx=>sT 3 x (hv x hx) (h5 x hx)⟩
theorem AK:∀(d:Nat)(v:Val),bF d v=true->bF (d+1) v=true
 |0,v,h=>by simp[bF]at h
 | d+1,v,h=>by
  unfold bF at h|-;split at h
  ·rename_i hk;rw[Ps hk];exact h
  ·rename_i hk;rw[if_neg hk];simp only[Po,PG]at h|-;exact⟨h.1,fun x hx=>AK d x (h.2 x hx)⟩
def xQ{v x:Val}(h:Rv v)(hx:x∈v.values):Rv x:=by
 unfold Rv bF at h;split at h
 ·simp only[Po,PR]at h;have:v.values=[]:=PL h.1.2;rw[this]at hx;cases hx
 ·simp only[Po,PG]at h;exact AK 3 x (h.2 x hx)
def zN{v:Val}(h:Rv v):v.names.length=v.values.length:=by
 unfold Rv bF at h;split at h
 ·simp only[Po,PR]at h;rw[h.1.1,h.1.2]
 ·simp only[Po,PR]at h;exact h.1.1.1.2
theorem xt:∀(ns:List a7)(vs:List Val)(s:a7)(v:Val),gq ns vs s=some v->v∈vs
 | n:: ns,w:: vs,s,v,h=>by
  unfold gq at h;split at h
  ·rename_i x hx;cases h;exact PU _ (xt ns vs s v hx)
  ·split at h
   ·cases h;exact P2
   ·cases h
 |[],_,_,_,h=>by simp[gq]at h
 |_:: _,[],_,_,h=>by simp[gq]at h
theorem qz:∀(ns:List a7)(vs:List Val)(s:a7)(v:Val),dQ ns vs s=some v->v∈vs
 |n:: ns,w:: vs,s,v,h=>by
  unfold dQ at h;split at h
  ·cases h;exact P2
  ·exact PU _ (qz ns vs s v h)
 |[],_,_,_,h=>by simp[dQ]at h
 |_:: _,[],_,_,h=>by simp[dQ]at h
def kP(ns:List a7)(vs:List Val):Prop:=ns.length=vs.length/\∀v∈vs,Rv v
def pT{r:X Val}(h:RQ r Rv):RQ (boolX r) fun _=>True:=dW h fun _ _=>cq (fun _=>iu trivial) (fun _=>gh)
theorem vd{r:Exp->X Val}(h:∀e,RQ (r e) Rv):∀l,RQ (listX r l) fun vs=>vs.length=l.length/\∀v∈vs,Rv v
 |[]=>iu ⟨rfl,fun v hv=>by cases hv⟩
 |e:: l=>dW (h e) fun v hv=>dW (vd h l) fun vs hvs=>iu ⟨by simp[hvs.1],fun w hw=>by
  rcases P0.1 hw with rfl|hw
  ·exact hv
  ·exact hvs.2 w hw⟩
def wW{st:List (List Val)}(h:∀l∈st,∀v∈l,Rv v)(i k:Nat)(hd:Rv default):Rv (mj st i k):=by
 unfold mj;rw[P4,P4];cases h1:st[i]? with
 |none=>simpa using hd
 |some l=>
  simp only[Rb];cases h2:l[k]? with
  |none=>simpa using hd
  |some v=>exact h l (Qf h1) v (Qf h2)
def Gd{p:List Mod}{r:Ev}{a:Int}{f:Fun}{l:List Val}(hr:∀o ns vs e,kP ns vs->RQ (r o ns vs e) Rv)(hl:l.length=f.params.length)(hv:∀v∈l,Rv v):RQ (fD p r a f l) Rv:=by
 have e0:∀m,fD p r a f l m=if m.frames<60 then((r a (f.params.map (·.1)) l f.body).bind fun v=>.upd (fun m=>{ m with frames:=m.frames-1 }) (.ok v)) (kK p a f l m)else .er 6 m:=fun m=>by
  unfold fD X.get;by_cases h:m.frames<60
  ·simp only[h,PF];rfl
  ·simp only[h,PE];rfl
 intro m hm;rw[e0];split
 ·have hb:RQ ((r a (f.params.map (·.1)) l f.body).bind fun v=>.upd (fun m=>{ m with frames:=m.frames-1 }) (.ok v)) Rv:=
   dW (hr _ _ _ _ ⟨by simp[hl],hv⟩) fun _ hv m hm=>⟨hm,rfl,fun a s e=>by cases e;exact hv⟩
  have hm':tX (kK p a f l m):=by
   refine⟨hm.1,fun c hc=>?_⟩;simp only[kK]at hc;split at hc
   ·rcases PZ.1 hc with h|h
    ·exact hm.2 c h
    ·simp only[Qd]at h;subst h;exact hv
   ·exact hm.2 c hc
  exact hb _ hm'
 ·exact⟨hm,rfl,fun _ _ e=>by cases e⟩
def right_step{p:List Mod}{r:Ev}(hr:∀o ns vs e,kP ns vs->RQ (r o ns vs e) Rv)(o:Int)(ns:List a7)(vs:List Val)(e:Exp)(hs:kP ns vs):RQ (kF p r o ns vs e) Rv:=by
 have tick:∀y:X Val,RQ y Rv->RQ (pz y) Rv:=fun y hy m hm=>by
  unfold pz X.get;by_cases h:m.fuel<=0
  ·simp only[h,PF];exact⟨hm,rfl,fun _ _ e=>by cases e⟩
  ·simp only[h,PE];exact hy { m with fuel:=m.fuel-1 } hm
 have H:=fun e=>hr o ns vs e hs;refine tick _ ?_;refine cq (fun _=>gh) fun _=>cq (fun _=>iu (iG _)) fun _=>cq (fun _=>cq (fun _=>iu (fS _)) fun _=>gh) fun _=>cq (fun _=>?_) fun _=>
  cq (fun _=>?_) fun _=>cq (fun _=>?_) fun _=>cq (fun _=>?_) fun _=>cq (fun _=>?_) fun _=>cq (fun _=>?_) fun _=>cq (fun _=>?_) fun _=>cq (fun _=>?_) fun _=>
  cq (fun _=>?_) fun _=>cq (fun _=>?_) fun _=>?_
 ·split
  ·rename_i v hv;exact iu (hs.2 v (xt _ _ _ _ hv))
  ·exact gh
 ·refine dW (H _) fun a ha=>dW (H _) fun b hb=>?_;unfold kJ;exact cq (fun _=>cq (fun _=>iu (fS _)) fun _=>gh) fun _=>cq (fun _=>cq (fun _=>iu (iG _)) fun _=>cq (fun _=>iu (iG _)) fun _=>cq (fun _=>iu (iG _)) fun _=>iu (fS _)) fun _=>gh
 ·exact dW (pT (H _)) fun a _=>cq (fun _=>iu (fS _)) fun _=>dW (pT (H _)) fun b _=>iu (fS _)
 ·exact dW (pT (H _)) fun a _=>iu (fS _)
 ·exact dW (pT (H _)) fun a _=>cq (fun _=>H _) fun _=>H _
 ·exact dW (H _) fun v hv=>hr _ _ _ _ ⟨by simp[hs.1],fun w hw=>by
   rcases PZ.1 hw with h|h
   ·exact hs.2 w h
   ·simp only[Qd]at h;subst h;exact hv⟩
 ·unfold gV;exact cq (fun h1=>cq (fun h2=>dW (vd H _) fun vs hvs=>cq (fun h3=>iu (CR (by rw[hvs.1];exact h1.1) h1.2 h2 hvs.2 h3)) fun _=>gh) fun _=>gh) fun _=>gh
 ·refine dW (H _) fun v hv=>?_;split
  ·rename_i x hx;exact cq (fun _=>iu (xQ hv (qz _ _ _ _ hx))) fun _=>gh
  ·exact gh
 ·unfold me;simp only;split
  ·exact gh
  ·rename_i f hf;exact cq (fun _=>cq (fun h2=>dW (vd H _) fun l hl=>Gd hr (by rw[hl.1,h2]) hl.2) fun _=>gh) fun _=>gh
 ·unfold r6;exact dW (H _) fun v hv=>cq (fun _=>cq (fun _ m hm=>⟨hm,rfl,fun a s e=>by cases e;exact iG _⟩) fun _=>gh) fun _=>gh
 ·unfold rV;refine cq (fun _=>gh) fun ho=>?_;simp only;refine cq (fun _=>gh) fun hi=>cq (fun _=>dW (H _) fun v hv m hm=>⟨⟨?_,hm.2⟩,?_,fun a s e=>by cases e;exact hv⟩) fun _ m hm=>⟨hm,rfl,fun a s e=>by cases e;exact wW hm.1 _ _ (iG 0)⟩
  ·intro l hl w hw;simp only[X.upd,X.ok,Rs.st,setSt]at hl;obtain⟨j,hj⟩:=List.mem_iff_getElem?.1 hl;rw[R6]at hj;cases h1:m.state[j]? with
   |none=>simp[h1]at hj
   | some l0=>
    rw[h1]at hj;simp only[Option.map_eq_map,Qw,Pn]at hj;have hold:=hm.1 l0 (Qf h1);split at hj
    ·subst hj;rcases List.mem_or_eq_of_mem_set hw with h|h
     ·exact hold w h
     ·subst h;exact hv
    ·subst hj;exact hold w hw
  ·simp only[X.upd,X.ok,Rs.st,lI,setSt];apply RN;intro j;rw[Qp,Qp,R6];cases m.state[j]? with
   |none=>rfl
   |some l0=>
    simp only[Qw];split<;>simp
theorem kp{p:List Mod}:∀(n:Nat)(o:Int)(ns:List a7)(vs:List Val)(e:Exp),kP ns vs->RQ (bR p n o ns vs e) Rv
 |0,_,_,_,_,_=>gh
 |n+1,o,ns,vs,e,hs=>right_step (fun o ns vs e h=>kp n o ns vs e h) o ns vs e hs
mutual
def jT:Ty->Ty->Bool
 |.mk k fs,.mk k' fs'=>k== k'&&ku fs fs'
def ku:List bd->List bd->Bool
 |[],[]=>true
 |f:: l,g:: m=>vg f g&&ku l m
 |_,_=>false
def vg:a7×Ty->a7×Ty->Bool
 |(s,t),(s',t')=>s== s'&&jT t t'
end
def CV(f g:bd):vg f g=(f.1== g.1&&jT f.2 g.2):=by
 obtain⟨s,t⟩:=f;obtain⟨s',t'⟩:=g;rfl
theorem pt:(a b:List bd)->ku a b=cj (fun x y=>x.1== y.1&&jT x.2 y.2) a b
 |[],[]=>rfl
 |[],_:: _=>rfl
 |_:: _,[]=>rfl
 |v:: a,w:: b=>by simp only[ku,cj,pt a b,CV]
def Gi(a b:Ty):jT a b=(a.kind== b.kind&&cj (fun x y=>x.1== y.1&&jT x.2 y.2) a.fields b.fields):=by
 cases a;cases b;simp only[jT,pt,Ty.kind,Ty.fields]
mutual
def Gf:Exp->Exp->Bool
 |.mk o n s m ns es,.mk o' n' s' m' ns' es'=>o== o'&&n== n'&&s== s'&&m== m'&&ns== ns'&&mP es es'
def mP:List Exp->List Exp->Bool
 |[],[]=>true
 |f:: l,g:: m=>Gf f g&&mP l m
 |_,_=>false
end
def Js{e:Ty}{x:bd}(h:x∈e.fields):SizeOf.sizeOf x.2<SizeOf.sizeOf e:=by
 cases e with
 |mk k fs=>
  have h1:=Q2 h;have h2:SizeOf.sizeOf x.2<SizeOf.sizeOf x:=by cases x;simp;omega
  have h3:SizeOf.sizeOf x<SizeOf.sizeOf fs:=h1;simp only[Ty.mk.sizeOf_spec];show SizeOf.sizeOf x.2<1+SizeOf.sizeOf k+SizeOf.sizeOf fs;omega
def Kf{e x:Exp}(h:x∈e.args):SizeOf.sizeOf x<SizeOf.sizeOf e:=by
 cases e with
 |mk o n s m ns es=>
  have h1:=Q2 h;have h3:SizeOf.sizeOf x<SizeOf.sizeOf es:=h1;simp only[Exp.mk.sizeOf_spec];omega
def lJ(p:List Mod):Bool:=(List.range p.length).any fun i=>(p.take i).any fun m=>m.name== (p[i]?.getD default).name
def ju(p:List Mod):Int:=if 20<p.length then 6 else if lJ p=true then 5 else 0
def de(world:List Int)(fuel:Int)(st:List (List Val)):Ms:=⟨fuel,0,world,[],[],st⟩
def fW(e:Exp)(ns:List a7)(vs:List Val):Rs Val:=
 if ns.length=vs.length/\vs.all (bF 4)=true then bR [] 100000 (-1) ns vs e (de [] 100000 [])else .er 1 (de [] 100000 [])
def fP:List Exp->Except Int (List Val)
 |[]=>.ok []
 | e:: es=>match fW e [] []with
  |.er c _=>.error c
  |.ok v _=>match fP es with
   |.error c=>.error c
   |.ok vs=>.ok (v:: vs)
def jp:List Mod->Except Int (List Vars)
 |[]=>.ok []
 | m:: ms=>if m.init.length=m.vars.length then(match fP m.init with
   |.error c=>.error c
   |.ok vs=>match jp ms with
    |.error c=>.error c
    |.ok r=>.ok (⟨m.name,vs⟩:: r))
  else .error 13
def iT(p:List Mod):Except Int (List Vars):=if ju p=0 then jp p else .error (ju p)
theorem sC{α β:Type}{F:α->β->Bool}:{a:List α} ->{b:List β} ->cj F a b=true->a.length=b.length/\∀(i:Nat)(x:α)(y:β),a[i]? = some x->b[i]? = some y->F x y=true
 |[],[],_=>⟨rfl,fun i x y h=>by simp at h⟩
 |[],_:: _,h=>by simp[cj]at h
 |_:: _,[],h=>by simp[cj]at h
 |x:: a,y:: b,h=>by
  simp only[cj,Po]at h;obtain⟨h1,h2⟩:=sC h.2;refine⟨by simp[h1],fun i u v hu hv=>?_⟩;cases i with
  |zero=>simp at hu hv;subst hu hv;exact h.1
  |succ i=>exact h2 i u v (by simpa using hu) (by simpa using hv)
theorem s6:(l:List Exp)->(c:Int)->fP l= .error c->c≠0
 |[],c,h=>by cases h
 | e:: es,c,h=>by
  unfold fP at h;split at h
  ·rename_i c' s hc;cases h;unfold fW at hc;split at hc
   ·exact wz hc
   ·cases hc;decide
  ·split at h
   ·rename_i c' hc;cases h;exact s6 es _ hc
   ·cases h
theorem qH:(p:List Mod)->(c:Int)->jp p= .error c->c≠0
 |[],c,h=>by cases h
 | m :: ms,c,h=>by
  unfold jp at h;split at h
  ·split at h
   ·rename_i c' hc;cases h;exact s6 _ _ hc
   ·split at h
    ·rename_i c' hc;cases h;exact qH ms _ hc
    ·cases h
  ·cases h;decide
def zl{p:List Mod}{c:Int}(h:iT p= .error c):c≠0:=by
 unfold iT at h;split at h
 ·exact qH p c h
 ·cases h;assumption
end Go.Av.Ap
