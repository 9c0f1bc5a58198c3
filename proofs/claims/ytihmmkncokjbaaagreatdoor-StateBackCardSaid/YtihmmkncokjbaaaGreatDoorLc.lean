/- The abstract evaluator of the model and plain laws, part 3: its soundness holds for every program whose table of types is the evaluator's. No further condition. -/
import Derived.Test.YtihmmkncokjbaaaGreatDoorLb
import Derived.KernelRfl
import Derived.Below
import Derived.Lib.IndexMore
import Derived.Lib.Fields
import Derived.Lib.AtoiAll
import Derived.Lib.SplitLaws
import Derived.IntWalk
import Derived.Shelf.SlSortCmp.WholeK
import Derived.Lib.Bytealg
import Derived.Shelf.Strings.IndexAnyAll
import Derived.Shelf.Small.Utf8
import Derived.Laws.RangeAny
import Derived.Laws.Runes
import Derived.Scope
import Derived.Shelf.RegionOpenPlain
import Derived.Lib.DecodeN
import Derived.Lib.OthersKept
import Derived.Lib.Small
import Derived.ChangeSame
import Derived.OpenShut
import Derived.ChangeReads
import Derived.ReadAgain
import Derived.Deep.Slices
import Derived.WideShapes
import Derived.SizedLaws
import Derived.Sort.AssemblyPlain
import Derived.Sort.MapsRangeIn
import Derived.Maps.OwnIn
import Derived.RangeFuncSeq
set_option linter.defProp false
set_option linter.unusedSimpArgs false
set_option linter.unusedVariables false
namespace Go.Av
variable [Dr]
structure EqE (e e':Env):Prop where
 get:∀t,e'.get t=e.get t
 al:∀g,aA e'.al g=aA e.al g
 lb:∀B,aW e'.lb B=aW e.lb B
 lf:∀B,aL e'.sl B=aL e.sl B
omit [Dr]in
theorem EqE.refl(e:Env):EqE e e:=⟨fun _=>rfl,fun _=>rfl,fun _=>rfl,fun _=>rfl⟩
omit [Dr]in
theorem EqE.symm{e e':Env}(h:EqE e e'):EqE e' e:=⟨fun t=>(h.get t).symm,fun t=>(h.al t).symm,fun t=>(h.lb t).symm,fun t=>(h.lf t).symm⟩
omit [Dr]in
theorem EqE.trans{a b c:Env}(h:EqE a b)(g:EqE b c):EqE a c:=
 ⟨fun t=>(g.get t).trans (h.get t),fun t=>(g.al t).trans (h.al t),fun t=>(g.lb t).trans (h.lb t),fun t=>(g.lf t).trans (h.lf t)⟩
def RE:R Env->R Env->Prop
 |.fail,_=>True
 |.ok e h,r=>∃e',r= .ok e' h/\EqE e e'
 |.pan v h,r=>r= .pan v h
omit [Dr]in
theorem RE.refl(r:R Env):RE r r:=by
 cases r with
 |ok e h=>exact⟨e,rfl,.refl e⟩
 |pan v h=>exact rfl
 |fail=>trivial
omit [Dr]in
theorem RE.trans{a b c:R Env}(h:RE a b)(g:RE b c):RE a c:=by
 cases a with
 |ok e x=>
  obtain⟨e',rfl,h⟩:=h;obtain⟨e2,rfl,g⟩:=g;exact⟨e2,rfl,h.trans g⟩
 |pan v x=>cases h;exact g
 |fail=>trivial
omit [Dr]in
theorem fD(l r:List (Nat×Ent))(t:Nat):bg (l++r) t=if(∃x∈l,x.1=t)then bg l t else bg r t:=by
 induction l with
 |nil=>simp
 | cons x l ih=>
  obtain⟨k,y⟩:=x;rw[GH,bu,bu];by_cases hk:k=t
  ·subst hk;simp
  ·rw[if_neg hk,if_neg hk,ih];have:(∃x∈(k,y):: l,x.1=t)↔(∃x∈l,x.1=t):=by
    simp only[Gp,exists_eq_or_imp];constructor
    ·rintro (h|h)
     ·exact absurd h hk
     ·exact h
    ·exact .inr
   simp only[this]
omit [Dr]in
theorem lV{l:List (Nat×Ent)}(r:List (Nat×Ent)){t:Nat}(h:∀x∈l,x.1≠t):bg (l++r) t=bg r t:=by
 rw[fD,if_neg];rintro⟨x,hx,ht⟩;exact h x hx ht
omit [Dr]in
theorem fE(d:Option Tmp)(x:Ent)(r:List (Nat×Ent))(t:Nat):bg (mD d x r) t=if d=some t then x else bg r t:=by
 cases d with
 |none=>simp[mD]
 |some s=>simp only[mD,bu,FU]
omit [Dr]in
theorem kf{l r s:List (Nat×Ent)}{t:Nat}(h:bg r t=bg s t):bg (l++r) t=bg (l++s) t:=by
 rw[fD,fD,h]
omit [Dr]in
theorem ew(l r:List (Nat×Ent))(B:Nat):aL (l++r) B=(aL l B&&aL r B):=by
 unfold aL;rw[List.all_append]
def iD(x:Ent)(B:Nat):Bool:=match x.v with
 |.loc C _=>!(Nat.beq C B)
 |.val _=>true
omit [Dr]in
theorem cY(d:Option Tmp)(x:Ent)(r:List (Nat×Ent))(B:Nat):aL (mD d x r) B=((d.isNone||iD x B)&&aL r B):=by
 cases d with
 |none=>simp[mD]
 |some t=>rfl
omit [Dr]in
theorem iS{l:List (Nat×Ent)}{B t C off:Nat}(h:aL l B=true)(ht:(bg l t).v= .loc C off):C≠B:=by
 induction l with
 |nil=>simp[bg,Ent.none]at ht
 | cons x l ih=>
  obtain⟨k,y⟩:=x;rw[bu]at ht;simp only[aL,GR,FV]at h;split at ht
  ·rw[ht]at h;have h1:=h.1;simp only[GI]at h1;intro hc;rw[hc,Ih]at h1;cases h1
  ·exact ih (by unfold aL;exact h.2) ht
omit [Dr]in
theorem cU(l r:List (Nat×Option Nat))(g:Nat):aA (l++r) g=(match aA l g with|some z=>some z|none=>aA r g):=by
 induction l with
 |nil=>rfl
 |cons x l ih=>
  obtain⟨k,y⟩:=x;rw[GH,bj,bj];split
  ·rfl
  ·exact ih
omit [Dr]in
theorem jP{l:List (Nat×Option Nat)}{k g:Nat}(h:∀x∈l,x.1=k)(hg:g≠k):aA l g=none:=by
 induction l with
 |nil=>rfl
 | cons x l ih=>
  obtain⟨j,y⟩:=x;rw[bj,if_neg]
  ·exact ih fun x hx=>h x (by simp[hx])
  ·have:=h (j,y) (by simp)
   simp at this;omega
omit [Dr]in
theorem iR(r:List (Nat×Nat))(k B:Nat):aW (gZ r k) B=if k=B then none else aW r B:=by
 induction r with
 |nil=>simp[gZ,aW]
 | cons x r ih=>
  obtain⟨j,y⟩:=x;simp only[gZ];by_cases hj:j=k
  ·subst hj;simp only[Ih,FW,ih,cF];split<;>rfl
  ·have:Nat.beq j k=false:=by rw[G3];intro hh;exact hj (F6 hh)
   simp only[this,F0,cF,ih];by_cases hg:j=B
   ·subst hg;rw[FY rfl,if_neg (fun h=>hj h.symm),FY rfl]
   ·rw[if_neg hg,if_neg hg]
omit [Dr]in
theorem EqE.upd{e e':Env}(h:EqE e e')(d:Option Tmp)(u:Upd):EqE (e.upd d u) (e'.upd d u):=by
 refine⟨fun t=>?_,fun g=>?_,fun B=>?_,fun B=>?_⟩
 ·show bg (mD d u.ent (u.ls++e'.sl)) t=bg (mD d u.ent (u.ls++e.sl)) t;rw[fE,fE,kf (h.get t)]
 ·show aA (u.add++cS e'.al u.drop) g=aA (u.add++cS e.al u.drop) g;have:aA (cS e'.al u.drop) g=aA (cS e.al u.drop) g:=by
   cases u.drop with
   |none=>exact h.al g
   |some k=>simp only[cS,gf,h.al g]
  rw[cU,cU,this]
 ·show aW (ib (cH e'.lb u.unlb) u.lb) B=aW (ib (cH e.lb u.unlb) u.lb) B;have:aW (cH e'.lb u.unlb) B=aW (cH e.lb u.unlb) B:=by
   cases u.unlb with
   |none=>exact h.lb B
   |some k=>simp only[cH,iR,h.lb B]
  cases u.lb with
  |none=>exact this
  |some x=>
   obtain⟨k,n⟩:=x;simp only[ib,cF,this]
 ·show aL (mD d u.ent (u.ls++e'.sl)) B=aL (mD d u.ent (u.ls++e.sl)) B;rw[cY,cY,ew,ew,h.lf B]
section
variable {cx:Cx} {ops:Array Oper} {base:Nat}
def c8(ops:Array Oper)(o:Oper):List Nat:=match o.guard with
 |some (j,_)=>(match (ops[j]?).bind (·.dst)with|some t=>[t]|none=>[])
 |none=>[]
omit [Dr]in
theorem dY{i:Nat}{o:Oper}(ho:ops[i]? = some o):bY ops i=c8 ops o++fm o:=by
 unfold bY c8;rw[ho];rfl
omit [Dr]in
theorem dS{e e':Env}{i:Nat}{o:Oper}(ho:ops[i]? = some o)(hg:∀t∈c8 ops o,e'.get t=e.get t)(A:Agree cx o e e'){h:Hp}(hr:dp cx base ops i e h≠.fail):dp cx base ops i e' h=dp cx base ops i e h:=by
 unfold dp at hr |-;rw[ho]at hr;rw[ho];simp only at hr |-;have key:∀ {A':Act1->Act1} ,(∀h,cD (A' .bad) h= .fail)->cD (A' (dG cx e ((base+i)*1000) o)) h≠.fail->cD (A' (dG cx e' ((base+i)*1000) o)) h=cD (A' (dG cx e ((base+i)*1000) o)) h:=by
  intro A' h1 h2;rw[uR A];intro hb;rw[hb]at h2;exact h2 (h1 h)
 cases hgd:o.guard with
 |none=>
  rw[hgd]at hr;exact key (A':=id) (fun _=>rfl) hr
 | some g=>
  obtain⟨j,want⟩:=g;rw[hgd]at hr;simp only at hr |-;cases hdj:cf ops j with
  |none=>rfl
  | some t=>
   rw[hdj]at hr;simp only at hr |-;cases hpl:df cx o with
   |false=>rfl
   | true=>
    rw[hpl]at hr;simp only[FW]at hr |-;have ht:e'.get t=e.get t:=hg t (by unfold c8;rw[hgd];simp only;rw[show (ops[j]?).bind (·.dst)=some t from hdj];simp);have hav:e'.av t=e.av t:=by simp only[Env.av,ht]
    rw[hav];cases hq:e.av t with
    | bool b=>
     rw[hq]at hr;simp only[fY]at hr |-;cases hb:(b== want)with
     |false=>rfl
     |true=>
      rw[hb]at hr;exact key (A':=eI) (fun _=>rfl) hr
    |tup vs=>cases vs<;>rfl
    |_=>rfl
omit [Dr]in
theorem EqE.agree{e e':Env}(h:EqE e e')(o:Oper):Agree cx o e e':=
 ⟨fun t _=>h.get t,fun _=>⟨fun t _=>h.get t,h.lb⟩,fun _=>h.al,fun _ s _ hl=>by rw[h.lf];exact hl⟩
omit [Dr]in
theorem q6{e e':Env}(h:EqE e e')(i:Nat)(x:Hp):RE (stepG cx base ops i e x) (stepG cx base ops i e' x):=by
 unfold stepG;simp only[ae,M.pure];cases hr:dp cx base ops i e x with
 |fail=>trivial
 | _=>
  have ho:∃o,ops[i]? = some o:=by
   cases ho:ops[i]? with
   |none=>unfold dp at hr;rw[ho]at hr;cases hr
   |some o=>exact⟨o,rfl⟩
  obtain⟨o,ho⟩:=ho;rw[dS ho (fun t _=>h.get t) (h.agree o) (by rw[hr];simp),hr]
  first
   |exact⟨_,rfl,h.upd _ _⟩
   |exact rfl
omit [Dr]in
theorem RE.bind{m m':M Env}{x x':Hp}(h:RE (m x) (m' x')){f f':Env->M Env}(hf:∀e e' x,EqE e e'->RE (f e x) (f' e' x)):RE (ae m f x) (ae m' f' x'):=by
 simp only[ae];revert h;generalize m x=r;generalize m' x'=r';intro h;cases r with
 |ok e x=>obtain⟨e',rfl,h⟩:=h;exact hf e e' x h
 |pan v x=>cases h;exact rfl
 |fail=>trivial
omit [Dr]in
theorem jb:∀(l:List Nat){e e':Env}(_:EqE e e')(x:Hp),RE (aI cx base ops l e x) (aI cx base ops l e' x)
 |[],e,e',h,x=>⟨e',rfl,h⟩
 |i:: l,e,e',h,x=>by
  exact RE.bind (q6 h i x) fun e e' x h=>jb l h x
end
end Go.Av
namespace Go.Av
variable [Dr]
omit [Dr]in
theorem qy{l:List Nat}{t:Nat}(h:t∈l):dw l t=true:=(ey l t).2 h
omit [Dr]in
theorem iU{l:List Nat}{d:Option Nat}(h:bd l d=false):∀t∈l,d≠some t:=by
 intro t ht hd;rw[hd]at h;simp only[bd]at h;rw[qy ht]at h;cases h
omit [Dr]in
theorem jw{a b:Option Nat}(h:clash a b=false):∀t,a=some t->b≠some t:=by
 intro t ha hb;rw[ha,hb]at h;simp[clash]at h
section
variable {cx:Cx} {ops:Array Oper} {base:Nat} {e:Env}
omit [Dr]in
theorem o8{gid:Nat}{f:Foot}{ss:Option Nat}{u:Upd}(h:Shape e gid f ss u):Shape e gid f ss (ec u):=
 ⟨fun _=>rfl,fun _=>rfl,fun _=>rfl,fun _ x h=>by simp[ec]at h,fun _=>rfl,fun _=>rfl,fun hw C off hh=>h.loc hw C off hh,fun x h=>by simp[ec]at h⟩
omit [Dr]in
theorem sM{p q:Upd->Prop}(hpq:∀u,p u->q (ec u)){A:Act1}(h:bB p A):bB q (eI A):=by
 cases A with
 |bad=>trivial
 |stat u=>exact hpq _ h
 |dyn m sh=>exact fun v=>hpq _ (h v)
 |thr v=>trivial
omit [Dr]in
theorem xQ{p:∀ {α:Type},M α->Prop}{A:Act1}(h:bc p A):bc p (eI A):=by
 cases A<;>exact h
omit [Dr]in
theorem kW{i:Nat}{o:Oper}(ho:ops[i]? = some o){h h':Hp}{u:Upd}(hr:dp cx base ops i e h= .ok u h'):Shape e ((base+i)*1000) (aj cx o) (bw o) u:=by
 unfold dp at hr;rw[ho]at hr;simp only at hr;cases hgd:o.guard with
 |none=>rw[hgd]at hr;exact gJ (gO _ _ _ _) hr
 | some g=>
  obtain⟨j,want⟩:=g;rw[hgd]at hr;simp only at hr;cases hdj:cf ops j with
  |none=>rw[hdj]at hr;cases hr
  | some t=>
   rw[hdj]at hr;simp only at hr;cases hpl:df cx o with
   |false=>rw[hpl]at hr;cases hr
   | true=>
    rw[hpl]at hr;simp only[FW]at hr;have h0:∀ {h h':Hp},(M.pure (Upd.ofV (.tup [])):M Upd) h= .ok u h'->Shape e ((base+i)*1000) (aj cx o) (bw o) u:=by
     intro h h' hh;cases hh;exact Shape.ofV ..
    generalize e.av t=q at hr;cases q with
    |bool b=>
     simp only[fY]at hr;cases hb:(b== want)with
     |false=>rw[hb]at hr;exact h0 hr
     |true=>rw[hb]at hr;exact gJ (sM (fun u=>o8) (gO _ _ _ _)) hr
    |tup vs=>
     cases vs with
     |nil=>exact h0 hr
     |cons v vs=>cases hr
    |_=>cases hr
omit [Dr]in
theorem sZ{p:∀ {α:Type},M α->Prop}(h1:∀ {α:Type} (m:M α),aR m->p m)(h2:∀ {α β:Type} (m:M α) (f:α->β),p m->p (ae m fun v=>M.pure (f v))){A:Act1}(h:bc p A):p (cD A):=by
 cases A with
 |bad=>exact h1 _ aR.fail
 |stat u=>exact h1 _ (aR.pure u)
 |dyn m sh=>exact h2 _ _ h
 |thr v=>exact h.elim
omit [Dr]in
theorem fI{p:∀ {α:Type},M α->Prop}(h1:∀ {α:Type} (m:M α),aR m->p m)(h2:∀ {α β:Type} (m:M α) (f:α->β),p m->p (ae m fun v=>M.pure (f v))){i:Nat}{o:Oper}(ho:ops[i]? = some o)(h:bc p (dG cx e ((base+i)*1000) o)):p (dp cx base ops i e):=by
 unfold dp;rw[ho];simp only;cases hgd:o.guard with
 |none=>exact sZ h1 h2 h
 | some g=>
  obtain⟨j,want⟩:=g;simp only;cases hdj:cf ops j with
  |none=>exact h1 _ aR.fail
  | some t=>
   simp only;cases hpl:df cx o with
   |false=>exact h1 _ aR.fail
   | true=>
    simp only[FW];unfold fY;split
    ·rename_i b _;cases hb:(b== want)with
     |false=>exact h1 _ (aR.pure _)
     |true=>exact sZ h1 h2 (xQ h)
    ·exact h1 _ (aR.pure _)
    ·exact h1 _ aR.fail
structure Small (ops:Array Oper):Prop where
 dst:∀(i:Nat)(o:Oper),ops[i]? = some o->∀t,o.dst=some t->t<1000
 src:∀(i:Nat)(o:Oper),ops[i]? = some o->∀t∈fm o,t<1000
omit [Dr]in
theorem Small.reads(hS:Small ops){i:Nat}{o:Oper}(ho:ops[i]? = some o):∀t∈bY ops i,t<1000:=by
 intro t ht;rw[dY ho,Gt]at ht;rcases ht with ht|ht
 ·unfold c8 at ht;split at ht
  ·rename_i j _ _;cases hj:ops[j]? with
   |none=>rw[hj]at ht;simp at ht
   |some oj=>
    rw[hj]at ht;simp only[Ht]at ht;cases hd:oj.dst with
    |none=>rw[hd]at ht;simp at ht
    |some s=>rw[hd]at ht;simp at ht;rw[ht];exact hS.dst j oj hj s hd
  ·simp at ht
 ·exact hS.src i o ho t ht
omit [Dr]in
theorem jo{gid:Nat}{x:Foot}{ss:Option Nat}{u:Upd}{d:Option Tmp}(hsh:Shape e gid x ss u){t:Nat}(h1:d≠some t)(h2:ss≠some t)(h3:t<1000):(e.upd d u).get t=e.get t:=by
 rw[bJ,if_neg h1];refine lV _ fun y hy hyt=>?_;rcases hsh.keys y hy with h|h
 ·omega
 ·exact h2 (by rw[h,hyt])
omit [Dr]in
theorem wO{gid:Nat}{x:Foot}{ss:Option Nat}{u:Upd}{d:Option Tmp}(hsh:Shape e gid x ss u)(hw:x.wl=false){t:Nat}(h1:d≠some t):(e.upd d u).get t=e.get t:=by
 rw[bJ,if_neg h1,hsh.ls hw];rfl
omit [Dr]in
theorem mR{gid:Nat}{x:Foot}{ss:Option Nat}{u:Upd}{d:Option Tmp}{o:Oper}(hsh:Shape e gid x ss u)(hd:∀t,d=some t->t<1000)(hops:∀t∈fm o,d≠some t/\ss≠some t/\t<1000)(hloc:((aj cx o).rl||(aj cx o).wl)=true->x.wl=false)(hal:(aj cx o).dr=true->x.ad=false/\x.dr=false):Agree cx o e (e.upd d u):=by
 refine⟨fun t ht=>jo hsh (hops t ht).1 (hops t ht).2.1 (hops t ht).2.2,fun h=>⟨fun t ht=>wO hsh (hloc h) (fun hh=>Nat.not_lt.2 ht (hd t hh)),fun B=>?_⟩,fun h g=>?_,fun h s _ hl=>?_⟩
 ·show aW (ib (cH e.lb u.unlb) u.lb) B=aW e.lb B;rw[hsh.lb (hloc h),hsh.unlb (hloc h)];rfl
 ·show aA (u.add++cS e.al u.drop) g=aA e.al g;rw[hsh.noad (hal h).1,hsh.nodr (hal h).2];rfl
 ·have hw:=hloc (by rw[h];simp);show aL (mD d u.ent (u.ls++e.sl)) (aT s)=true;rw[hsh.ls hw,cY,GY,hl,Iy];have:iD u.ent (aT s)=true:=by
   unfold iD;split
   ·rename_i C off hv;obtain⟨t,off',ht⟩:=hsh.loc hw C off hv
    have:=iS hl ht
    rw[GI,G3];intro hh;exact this (F6 hh)
   ·rfl
  rw[this,Bool.or_true]
omit [Dr]in
theorem tX{gid:Nat}{x:Foot}{ss:Option Nat}{u:Upd}{d:Option Tmp}{o:Oper}(hsh:Shape e gid x ss u)(hd:∀t,d=some t->t<1000)(hops:∀t∈fm o,d≠some t/\ss≠some t/\t<1000)(hloc:((aj cx o).rl||(aj cx o).wl)=true->x.wl=false)(hal:(aj cx o).dr=true->x.ad=false/\x.dr=false):Agree cx o (e.upd d u) e:=by
 have A:=mR (cx:=cx) hsh hd hops hloc hal;refine⟨fun t ht=>(A.ops t ht).symm,fun h=>⟨fun t ht=>((A.loc h).1 t ht).symm,fun B=>((A.loc h).2 B).symm⟩,fun h g=>(A.al h g).symm,fun _ s _ hl=>?_⟩;have hl':aL (mD d u.ent (u.ls++e.sl)) (aT s)=true:=hl;rw[cY,ew]at hl';simp only[FV]at hl';exact hl'.2.2
omit [Dr]in
theorem ri{gi gj:Nat}{x y:Foot}{si sj:Option Nat}{u v:Upd}{d f:Option Tmp}(hu:Shape e gi x si u)(hv:Shape e gj y sj v)(hy:y.wl=false)(hf:∀t,f=some t->t<1000)(hdf:∀t,d=some t->f≠some t)(hsf:∀t,si=some t->f≠some t)(hg:gi≠gj)(h1:x.dr=true->y.dr=false/\y.ad=false)(h2:x.ad=true->y.dr=false)(h3:x.ad=true->y.ad=true->x.wl=false):EqE ((e.upd d u).upd f v) ((e.upd f v).upd d u):=by
 have e1:=hv.ls hy;have e2:=hv.lb hy;have e3:=hv.unlb hy;refine⟨fun t=>?_,fun g=>?_,fun B=>?_,fun B=>?_⟩
 ·rw[bJ,bJ,e1];show (if d=some t then u.ent else bg (u.ls++mD f v.ent (v.ls++e.sl)) t)=if f=some t then v.ent else bg (mD d u.ent (u.ls++e.sl)) t;rw[e1,fE,GY];by_cases hft:f=some t
  ·rw[FY hft,if_neg (fun h=>hdf t h hft),lV,fE,FY hft];intro z hz hzt;rcases hu.keys z hz with h|h
   ·exact Nat.not_lt.2 h (by rw[hzt];exact hf t hft)
   ·exact hsf z.1 h (by rw[hzt];exact hft)
  ·rw[if_neg hft];split
   ·rfl
   ·exact kf (by rw[fE,if_neg hft])
 ·show aA (u.add++cS (v.add++cS e.al v.drop) u.drop) g=aA (v.add++cS (u.add++cS e.al u.drop) v.drop) g;cases hxd:x.dr with
  |true=>
   obtain⟨h4,h5⟩:=h1 hxd;rw[hv.noad h5,hv.nodr h4];rfl
  | false=>
   rw[hu.nodr hxd];cases hxa:x.ad with
   |false=>rw[hu.noad hxa];rfl
   | true=>
    rw[hv.nodr (h2 hxa)];cases hya:y.ad with
    |false=>rw[hv.noad hya];rfl
    |true=>
     have k1:=hu.add (h3 hxa hya);have k2:=hv.add hy;show aA (u.add++(v.add++e.al)) g=aA (v.add++(u.add++e.al)) g;rw[cU,cU,cU,cU];by_cases hgi:g=gi
     ·rw[jP k2 (by omega)]
     ·rw[jP k1 hgi]
 ·show aW (ib (cH (ib (cH e.lb v.unlb) v.lb) u.unlb) u.lb) B=aW (ib (cH (ib (cH e.lb u.unlb) u.lb) v.unlb) v.lb) B;rw[e2,e3];rfl
 ·show aL (mD d u.ent (u.ls++mD f v.ent (v.ls++e.sl))) B=aL (mD f v.ent (v.ls++mD d u.ent (u.ls++e.sl))) B;simp only[cY,ew]
  ac_rfl
end
end Go.Av
namespace Go.Av
variable [Dr]
section
variable {cx:Cx} {ops:Array Oper} {base:Nat}
structure Ind (cx:Cx) (ops:Array Oper) (i j:Nat) (a b:Oper):Prop where
 ha:ops[i]? = some a
 hb:ops[j]? = some b
 piv:(aj cx a).piv=false
 l1:(aj cx a).wl=true->(aj cx b).rl=false/\(aj cx b).wl=false
 l2:(aj cx a).rl=true->(aj cx b).wl=false
 h1:(aj cx a).wh=true->(aj cx b).rh=false/\(aj cx b).wh=false
 h2:(aj cx a).rh=true->(aj cx b).wh=false\/(aj cx b).nw=true
 g1:(aj cx a).dr=true->(aj cx b).dr=false/\(aj cx b).ad=false
 g2:(aj cx a).ad=true->(aj cx b).dr=false
 g3:(aj cx a).ad=true->(aj cx b).ad=true->(aj cx a).wl=false/\(aj cx b).wl=false
 r1:∀t∈bY ops j,a.dst≠some t
 r2:∀t∈bY ops i,b.dst≠some t
 s1:∀t∈bY ops j,bw a≠some t
 s2:∀t∈bY ops i,bw b≠some t
 c1:∀t,bw a=some t->b.dst≠some t
 c2:∀t,a.dst=some t->bw b≠some t
 c3:∀t,a.dst=some t->b.dst≠some t
omit [Dr]in
theorem uE{i j:Nat}(h:iN cx ops i j=true):∃a b,Ind cx ops i j a b:=by
 unfold iN at h;split at h
 ·rename_i a b ha hb;refine⟨a,b,?_⟩;simp only[FV,GI]at h;obtain⟨⟨⟨⟨⟨⟨⟨⟨⟨⟨⟨⟨⟨⟨k1,k2⟩,k3⟩,k4⟩,k5⟩,k6⟩,k7⟩,k8⟩,k9⟩,k10⟩,k11⟩,k12⟩,k13⟩,k14⟩,k15⟩:=h;refine⟨ha,hb,k1,fun q=>?_,fun q=>?_,fun q=>?_,fun q=>?_,fun q=>?_,fun q=>?_,fun q q'=>?_,iU k9,iU k10,iU k11,iU k12,jw k13,jw k14,jw k15⟩
  ·rw[q]at k2;simpa using k2
  ·rw[q]at k3;simpa using k3
  ·rw[q]at k4;simpa using k4
  ·rw[q]at k5;simp only[Hb]at k5;cases hb:(aj cx b).wh<;>simp_all
  ·rw[q]at k6;simpa using k6
  ·rw[q]at k7;simpa using k7
  ·rw[q,q']at k8;simpa using k8
 ·cases h
omit [Dr]in
theorem swap(hI:IsoPure cx)(hS:Small ops){i j:Nat}(hij:iN cx ops i j=true)(hne:i≠j)(e:Env)(h:Hp):
  RE (ae (stepG cx base ops i e) (stepG cx base ops j) h) (ae (stepG cx base ops j e) (stepG cx base ops i) h):=by
 obtain⟨a,b,I⟩:=uE hij;have hda:cf ops i=a.dst:=by simp[cf,I.ha]
 have hdb:cf ops j=b.dst:=by simp[cf,I.hb]
 unfold stepG;rw[hda,hdb];simp only[ae,M.pure];cases hri:dp cx base ops i e h with
 |fail=>trivial
 |pan v h'=>exact absurd hri (fI (p:=@cO) (fun _ g=>g.read.stay) (fun _ f g=>g.bnd f) I.ha ((de hI e _ a).stay I.piv) h v h')
 | ok u h1=>
  simp only;have shu:=kW I.ha hri;have hra:=dY (ops:=ops) I.ha;have hrb:=dY (ops:=ops) I.hb;have hbo:∀t∈fm b,a.dst≠some t/\bw a≠some t/\t<1000:=fun t ht=>⟨I.r1 t (by rw[hrb];simp[ht]),I.s1 t (by rw[hrb];simp[ht]),hS.src j b I.hb t ht⟩;have hao:∀t∈fm a,b.dst≠some t/\bw b≠some t/\t<1000:=fun t ht=>⟨I.r2 t (by rw[hra];simp[ht]),I.s2 t (by rw[hra];simp[ht]),hS.src i a I.ha t ht⟩;have Abwd:Agree cx b (e.upd a.dst u) e:=tX shu (hS.dst i a I.ha) hbo (fun q=>by
   cases hw:(aj cx a).wl with
   |false=>rfl
   |true=>obtain⟨q1,q2⟩:=I.l1 hw;rw[q1,q2]at q;cases q) (fun q=>by
   constructor
   ·cases hw:(aj cx a).ad with
    |false=>rfl
    |true=>have:=I.g2 hw;rw[this]at q;cases q
   ·cases hw:(aj cx a).dr with
    |false=>rfl
    |true=>have:=(I.g1 hw).1;rw[this]at q;cases q)
  have hgb:∀t∈c8 ops b,e.get t=(e.upd a.dst u).get t:=fun t ht=>by
   have htr:t∈bY ops j:=by rw[hrb];simp[ht]
   exact (jo shu (I.r1 t htr) (I.s1 t htr) (hS.reads I.hb t htr)).symm
  -- the second, after the first
  cases hrj:dp cx base ops j (e.upd a.dst u) h1 with
  |fail=>trivial
  | pan v h2=>
   have hj:=dS (base:=base) I.hb hgb Abwd (h:=h1) (by rw[hrj];simp);rw[hrj]at hj
   -- j leaves: so it may write, and i did not touch the heap
   have hwb:(aj cx b).wh=true:=by
    cases hw:(aj cx b).wh with
    |true=>rfl
    |false=>exact absurd hj ((fI (p:=@cw) (fun _ g=>g.read) (fun _ f g=>g.bnd f) I.hb ((de hI e _ b).read hw)).stay _ _ _)
   have hwa:(aj cx a).wh=false:=by
    cases hw:(aj cx a).wh with
    |false=>rfl
    |true=>have:=(I.h1 hw).2;rw[this]at hwb;cases hwb
   have hh:h1=h:=by
    have hR:cw (dp cx base ops i e):=fI (p:=@cw) (fun _ g=>g.read) (fun _ f g=>g.bnd f) I.ha ((de hI e _ a).read hwa);rcases hR h with hx|⟨u',hx⟩<;>rw[hri]at hx<;>cases hx;rfl
   subst hh;rw[hj];exact rfl
  | ok v h2=>
   have hj:=dS (base:=base) I.hb hgb Abwd (h:=h1) (by rw[hrj];simp);rw[hrj]at hj;have shv:=kW I.hb hj;have Afwd:Agree cx a e (e.upd b.dst v):=mR shv (hS.dst j b I.hb) hao (fun q=>by
    cases hw:(aj cx b).wl with
    |false=>rfl
    | true=>
     exfalso;cases hrl:(aj cx a).rl with
     |true=>have:=I.l2 hrl;rw[this]at hw;cases hw
     |false=>
      rw[hrl]at q;have hwl:(aj cx a).wl=true:=by simpa using q
      have:=(I.l1 hwl).2
      rw[this]at hw;cases hw) (fun q=>⟨(I.g1 q).2,(I.g1 q).1⟩)
   have hga:∀t∈c8 ops a,(e.upd b.dst v).get t=e.get t:=fun t ht=>by
    have htr:t∈bY ops i:=by rw[hra];simp[ht]
    exact jo shv (I.r2 t htr) (I.s2 t htr) (hS.reads I.ha t htr)
   have hcomm:EqE ((e.upd a.dst u).upd b.dst v) ((e.upd b.dst v).upd a.dst u):=by
    have hgij:(base+i)*1000≠(base+j)*1000:=by omega
    cases hwb:(aj cx b).wl with
    |false=>
     exact ri shu shv hwb (hS.dst j b I.hb) I.c3 I.c1 hgij I.g1 I.g2 (fun q q'=>(I.g3 q q').1)
    | true=>
     have hwa:(aj cx a).wl=false:=by
      cases hw:(aj cx a).wl with
      |false=>rfl
      |true=>have:=(I.l1 hw).2;rw[this]at hwb;cases hwb
     refine (ri shv shu hwa (hS.dst i a I.ha) (fun t ht hh=>I.c3 t hh ht) (fun t ht hh=>I.c2 t hh ht) (Ne.symm hgij) (fun q=>⟨?_,?_⟩) (fun q=>?_) (fun q q'=>?_)).symm
     ·cases hw:(aj cx a).dr with
      |false=>rfl
      |true=>have:=(I.g1 hw).1;rw[this]at q;cases q
     ·cases hw:(aj cx a).ad with
      |false=>rfl
      |true=>have:=I.g2 hw;rw[this]at q;cases q
     ·cases hw:(aj cx a).dr with
      |false=>rfl
      |true=>have:=(I.g1 hw).2;rw[this]at q;cases q
     ·have:=(I.g3 q' q).2;rw[this]at hwb;cases hwb
   cases hwa:(aj cx a).wh with
   | false=>
    have hR:cw (dp cx base ops i e):=fI (p:=@cw) (fun _ g=>g.read) (fun _ f g=>g.bnd f) I.ha ((de hI e _ a).read hwa);have hh:h1=h:=by
     rcases hR h with hx|⟨u',hx⟩<;>rw[hri]at hx<;>cases hx;rfl
    subst hh;rw[hj];simp only;have hi2:dp cx base ops i e h2= .ok u h2:=by
     cases hra':(aj cx a).rh with
     |false=>
      obtain⟨q,hq⟩:aR (dp cx base ops i e):=fI (p:=@aR) (fun _ g=>g) (fun _ f g=>g.bnd f) I.ha ((de hI e _ a).pure hwa hra');rw[hq]at hri |-;cases q with
      |none=>cases hri
      |some u'=>cases hri;rfl
     | true=>
      rcases I.h2 hra' with hwb|hnw
      case inr=>
       have hNw:rr (dp cx base ops j e):=fI (p:=@rr) (fun _ g=>g.nw) (fun _ f g=>g.bnd f) I.hb ((de hI e _ b).nw hnw);have hAp:gU (dp cx base ops i e)/\cw (dp cx base ops i e):=fI (p:=fun m=>gU m/\cw m) (fun _ g=>⟨g.app,g.read⟩) (fun _ f g=>gU.bnd g f) I.ha ((de hI e _ a).app hwa);obtain⟨t,rfl⟩:=hNw _ _ _ hj;exact hAp.1 _ t _ hri
      have hRb:cw (dp cx base ops j e):=fI (p:=@cw) (fun _ g=>g.read) (fun _ f g=>g.bnd f) I.hb ((de hI e _ b).read hwb);rcases hRb h1 with hx|⟨u',hx⟩<;>rw[hj]at hx<;>cases hx;exact hri
    rw[dS I.ha hga Afwd (by rw[hi2];simp),hi2];exact⟨_,rfl,hcomm⟩
   | true=>
    obtain⟨hrb',hwb⟩:=I.h1 hwa;obtain⟨q,hq⟩:aR (dp cx base ops j e):=fI (p:=@aR) (fun _ g=>g) (fun _ f g=>g.bnd f) I.hb ((de hI e _ b).pure hwb hrb');rw[hq]at hj |-;cases q with
    |none=>cases hj
    |some u'=>
     cases hj;simp only[ah];rw[dS I.ha hga Afwd (by rw[hri];simp),hri];exact⟨_,rfl,hcomm⟩
omit [Dr]in
theorem zV(hI:IsoPure cx)(hS:Small ops){i:Nat}(q:List Nat):∀(p:List Nat),(∀x∈p,iN cx ops x i=true/\x≠i)->∀(e:Env)(h:Hp),RE (aI cx base ops (p++i:: q) e h) (aI cx base ops (i:: (p++q)) e h)
 |[],_,e,h=>RE.refl _
 | x:: p,hp,e,h=>by
  have ih:=fun e h=>zV hI hS q p (fun y hy=>hp y (by simp[hy])) e h;have h1:RE (aI cx base ops (x:: (p++i:: q)) e h) (aI cx base ops (x:: i:: (p++q)) e h):=by
   simp only[aI,ae]at ih |-;cases stepG cx base ops x e h with
   |ok e' h'=>exact ih e' h'
   |pan v h'=>exact rfl
   |fail=>trivial
  refine h1.trans ?_;have e1:aI cx base ops (x:: i:: (p++q)) e=ae (ae (stepG cx base ops x e) (stepG cx base ops i)) (aI cx base ops (p++q)):=by rw[cR];rfl
  have e2:aI cx base ops (i:: x:: (p++q)) e=ae (ae (stepG cx base ops i e) (stepG cx base ops x)) (aI cx base ops (p++q)):=by rw[cR];rfl
  show RE (aI cx base ops (x:: i:: (p++q)) e h) (aI cx base ops (i:: x:: (p++q)) e h);rw[e1,e2];exact RE.bind (swap hI hS (hp x (by simp)).1 (hp x (by simp)).2 e h) fun e e' x h=>jb _ h x
end
end Go.Av
namespace Go.Av
variable [Dr]
omit [Dr]in
theorem xI{a b:Option (Nat×Bool)}(h:tQ a b=true):a=b:=by
 unfold tQ at h;split at h
 ·rfl
 ·simp only[FV,GG]at h;rw[F6 h.1,h.2]
 ·cases h
def eJ(gs:List (Option (Nat×Bool)×List Nat)):List Nat:=gs.flatMap (·.2)
omit [Dr]in
theorem fk(ops:Array Oper):∀l:List Nat,eJ (ck ops l)=l/\∀g∈ck ops l,∀i∈g.2,guardOf ops i=g.1
 |[]=>⟨rfl,by simp[ck]⟩
 | i :: is=>by
  obtain⟨h1,h2⟩:=fk ops is;simp only[ck];cases hg:ck ops is with
  |nil=>
   rw[hg]at h1;have:is=[]:=by simpa [eJ]using h1.symm
   subst this;exact⟨rfl,by simp⟩
  | cons x r=>
   obtain⟨g,js⟩:=x;rw[hg]at h1 h2;simp only;cases hs:tQ (guardOf ops i) g with
   | true=>
    refine⟨?_,fun y hy=>?_⟩
    ·simp only[FW,eJ,H9,GH]at h1 |-;rw[h1]
    ·simp only[FW,Gp]at hy;rcases hy with rfl|hy
     ·intro k hk;simp only[Gp]at hk;rcases hk with rfl|hk
      ·exact xI hs
      ·exact h2 (g,js) (by simp) k hk
     ·exact h2 y (by simp[hy])
   | false=>
    refine⟨?_,fun y hy=>?_⟩
    ·simp only[F0,eJ,H9,GH,GY]at h1 |-;rw[h1]
    ·simp only[F0,Gp]at hy;rcases hy with rfl|rfl|hy
     ·intro k hk;simp only[GU]at hk;subst hk;rfl
     ·exact h2 (g,js) (by simp)
     ·exact h2 y (by simp[hy])
omit [Dr]in
theorem pO{ρ:Type}(e:Env)(d:Option Tmp)(A:Act1)(k:Env->M ρ):iE e d A k=ae (cD A) fun u=>k (e.upd d u):=by
 cases A with
 |bad=>rfl
 |stat u=>rfl
 |dyn m sh=>simp only[iE,cD,cR,aw]
 |thr v=>rfl
omit [Dr]in
theorem ua{α β:Type}{m:M α}{f g:α->M β}{h:Hp}(hfg:∀u h',m h= .ok u h'->f u h'=g u h'):ae m f h=ae m g h:=by
 simp only[ae];cases hm:m h with
 |ok u h'=>exact hfg u h' hm
 |pan v h'=>rfl
 |fail=>rfl
section
variable {cx:Cx} {ops:Array Oper} {base:Nat}
omit [Dr]in
theorem tW{i:Nat}{o:Oper}(ho:ops[i]? = some o)(hg:guardOf ops i=none)(e:Env):dp cx base ops i e=cD (dG cx e ((base+i)*1000) o):=by
 have:o.guard=none:=by simpa [guardOf,ho]using hg
 unfold dp;rw[ho];simp only;rw[this]
omit [Dr]in
theorem ji{i j t:Nat}{want:Bool}{o:Oper}(ho:ops[i]? = some o)(hg:guardOf ops i=some (j,want))(hj:cf ops j=some t)(hp:df cx o=true)(e:Env):
  dp cx base ops i e=fY (e.av t) want (cD (eI (dG cx e ((base+i)*1000) o))):=by
 have:o.guard=some (j,want):=by simpa [guardOf,ho]using hg
 unfold dp;rw[ho];simp only;rw[this];simp only;rw[hj];simp only;rw[hp];rfl
omit [Dr]in
theorem qT{ρ:Type}:∀(is:List Nat)(e:Env)(k:Env->M ρ)(_:∀i∈is,guardOf ops i=none),fg cx base ops false is e k=ae (aI cx base ops is e) k
 |[],e,k,_=>rfl
 | i:: is,e,k,hg=>by
  simp only[fg,aI];unfold stepG;cases ho:ops[i]? with
  |none=>unfold dp;rw[ho];rfl
  |some o=>
   simp only;rw[pO,tW ho (hg i (by simp)),cR,cR];have hd:cf ops i=o.dst:=by simp[cf,ho]
   rw[hd];congr 1;funext u;simp only[aw];exact qT is _ k fun j hj=>hg j (by simp[hj])
structure Turned (ds:List Nat) (e e':Env):Prop where
 get:∀t,t ∉ ds->e'.get t=e.get t
 al:e'.al=e.al
 lb:e'.lb=e.lb
 lf:∀B,aL e.sl B=true->aL e'.sl B=true
 ng:∀t∈ds,(e'.get t).g=none
omit [Dr]in
theorem Turned.step{ds:List Nat}{e e':Env}(H:Turned ds e e'){u:Upd}{d:Option Nat}(hls:u.ls=[])(hadd:u.add=[])(hdrop:u.drop=none)(hlb:u.lb=none)(hunlb:u.unlb=none)(hg:u.ent.g=none)(hloc:∀C off,u.ent.v= .loc C off->∃t off',(e'.get t).v= .loc C off'):Turned (d.toList++ds) e (e'.upd d u):=by
 have hget:∀t,(e'.upd d u).get t=if d=some t then u.ent else e'.get t:=fun t=>by rw[bJ,hls];rfl
 refine⟨fun t ht=>?_,?_,?_,fun B hB=>?_,fun t ht=>?_⟩
 ·simp only[Gt,not_or,Hm]at ht;rw[hget,if_neg ht.1];exact H.get t ht.2
 ·show u.add++cS e'.al u.drop=e.al;rw[hadd,hdrop];exact H.al
 ·show ib (cH e'.lb u.unlb) u.lb=e.lb;rw[hlb,hunlb];exact H.lb
 ·have h1:=H.lf B hB;show aL (mD d u.ent (u.ls++e'.sl)) B=true;rw[hls,cY,GY,h1,Iy];have:iD u.ent B=true:=by
   unfold iD;split
   ·rename_i C off hv;obtain⟨t,off',ht⟩:=hloc C off hv
    have:=iS h1 ht
    rw[GI,G3];intro hh;exact this (F6 hh)
   ·rfl
  rw[this,Bool.or_true]
 ·rw[hget];split
  ·exact hg
  ·rename_i hd;simp only[Gt,Hm]at ht;rcases ht with ht|ht
   ·exact absurd ht hd
   ·exact H.ng t ht
omit [Dr]in
theorem Turned.refl(e:Env):Turned [] e e:=⟨fun _ _=>rfl,rfl,rfl,fun _ h=>h,fun t h=>by simp at h⟩
omit [Dr]in
theorem Turned.sub{ds ds':List Nat}{e e':Env}(H:Turned ds e e')(h:∀t,t∈ds↔t∈ds'):Turned ds' e e':=
 ⟨fun t ht=>H.get t fun hh=>ht ((h t).1 hh),H.al,H.lb,H.lf,fun t ht=>H.ng t ((h t).2 ht)⟩
structure GroupOk (cx:Cx) (ops:Array Oper) (j:Nat) (want:Bool) (t:Nat) (is:List Nat):Prop where
 hj:cf ops j=some t
 each:∀i∈is,∃o,ops[i]? = some o/\guardOf ops i=some (j,want)/\df cx o=true
 nt:t ∉ bO ops is
omit [Dr]in
theorem fe(i:Nat)(is:List Nat):∀t,t∈bO ops (i:: is)↔cf ops i=some t\/t∈bO ops is:=by
 intro t;unfold bO;simp only[HE,Gp,exists_eq_or_imp]
omit [Dr]in
theorem GroupOk.tail{j:Nat}{want:Bool}{t i:Nat}{is:List Nat}(G:GroupOk cx ops j want t (i:: is)):GroupOk cx ops j want t is:=
 ⟨G.hj,fun k hk=>G.each k (by simp[hk]),fun h=>G.nt ((fe i is t).2 (.inr h))⟩
omit [Dr]in
theorem GroupOk.ne{j:Nat}{want:Bool}{t i:Nat}{is:List Nat}(G:GroupOk cx ops j want t (i:: is)):cf ops i≠some t:=fun h=>G.nt ((fe i is t).2 (.inl h))
omit [Dr]in
theorem fX{A:Act1}{h h':Hp}{u:Upd}(hr:cD (eI A) h= .ok u h'):∃u0,cD A h= .ok u0 h'/\u=ec u0:=by
 rw[jO]at hr;cases hx:cD A h<;>rw[hx]at hr<;>simp at hr;exact⟨_,by rw[hr.2],hr.1.symm⟩
omit [Dr]in
theorem nT{ρ:Type}{j:Nat}{want:Bool}{t:Nat}:∀(is:List Nat)(e:Env)(k:Env->M ρ)(h:Hp),GroupOk cx ops j want t is->e.av t= .bool want->fg cx base ops true is e k h=ae (aI cx base ops is e) k h
 |[],e,k,h,_,_=>rfl
 |i:: is,e,k,h,G,hc=>by
  obtain⟨o,ho,hg,hp⟩:=G.each i (by simp);have hd:cf ops i=o.dst:=by simp[cf,ho]
  simp only[fg,aI,ho,FW];rw[pO];unfold stepG;rw[ji ho hg G.hj hp,hc,cR,cR];simp only[fY,Hs,FW,aw,hd];refine ua fun u h' hu=>?_;obtain⟨u0,hu0,rfl⟩:=fX hu;refine nT is _ k h' G.tail ?_;have:(e.upd o.dst (ec u0)).get t=e.get t:=by rw[bJ,if_neg (by rw[<- hd];exact G.ne)];rfl
  simp only[Env.av,this];exact hc
omit [Dr]in
theorem je{j:Nat}{want:Bool}{t:Nat}:∀(is:List Nat)(e e':Env)(h h':Hp),GroupOk cx ops j want t is->e.av t= .bool want->aI cx base ops is e h= .ok e' h'->Turned (bO ops is) e e':=by
 have key:∀(is:List Nat)(e0 e e':Env)(ds:List Nat)(h h':Hp),GroupOk cx ops j want t is->e.av t= .bool want->Turned ds e0 e->aI cx base ops is e h= .ok e' h'->Turned (bO ops is++ds) e0 e':=by
  intro is
  induction is with
  |nil=>
   intro e0 e e' ds h h' _ _ H hr;cases hr;exact H
  | cons i is ih=>
   intro e0 e e' ds h h' G hc H hr;obtain⟨o,ho,hg,hp⟩:=G.each i (by simp);have hd:cf ops i=o.dst:=by simp[cf,ho]
   simp only[aI]at hr;unfold stepG at hr;rw[ji ho hg G.hj hp,hc,cR]at hr;simp only[fY,Hs,FW,hd,ae]at hr;cases hx:cD (eI (dG cx e ((base+i)*1000) o)) h with
   |fail=>rw[hx]at hr;cases hr
   |pan v hh=>rw[hx]at hr;cases hr
   | ok u hh=>
    rw[hx]at hr;simp only at hr;obtain⟨u0,hu0,rfl⟩:=fX hx;have hsh:=gJ (gO cx e ((base+i)*1000) o) hu0;simp only[df,FV,GI]at hp;have H2:=H.step (u:=ec u0) (d:=o.dst) rfl rfl rfl rfl rfl rfl (hsh.loc hp.1);refine (ih e0 _ e' _ hh h' G.tail ?_ H2 hr).sub fun s=>?_
    ·have:(e.upd o.dst (ec u0)).get t=e.get t:=by rw[bJ,if_neg (by rw[<- hd];exact G.ne)];rfl
     simp only[Env.av,this];exact hc
    ·simp only[Gt,fe,Hm,hd];constructor
     ·rintro (h|h|h)
      ·exact .inl (.inr h)
      ·exact .inl (.inl h)
      ·exact .inr h
     ·rintro ((h|h)|h)
      ·exact .inr (.inl h)
      ·exact .inl h
      ·exact .inr (.inr h)
 intro is e e' h h' G hc hr;exact (key is e e e' [] h h' G hc (.refl e) hr).sub (by simp)
def Off(c:AV)(want:Bool):Prop:=c= .tup []\/∃b,c= .bool b/\(b== want)=false
omit [Dr]in
theorem Off.look{c:AV}{want:Bool}(h:Off c want)(m:M Upd):fY c want m=M.pure (.ofV (.tup [])):=by
 rcases h with rfl|⟨b,rfl,hb⟩
 ·rfl
 ·simp only[fY,hb,F0]
omit [Dr]in
theorem y4{j:Nat}{want:Bool}{t:Nat}:∀(is:List Nat)(e:Env)(h:Hp),GroupOk cx ops j want t is->Off (e.av t) want->∃e',aI cx base ops is e h= .ok e' h/\Turned (bO ops is) e e'/\∀s∈bO ops is,e'.get s=⟨.val (.tup []),none⟩:=by
 have key:∀(is:List Nat)(e0 e:Env)(ds:List Nat)(h:Hp),GroupOk cx ops j want t is->Off (e.av t) want->Turned ds e0 e->(∀s∈ds,e.get s=⟨.val (.tup []),none⟩)->
   ∃e',aI cx base ops is e h= .ok e' h/\Turned (bO ops is++ds) e0 e'/\∀s∈bO ops is++ds,e'.get s=⟨.val (.tup []),none⟩:=by
  intro is
  induction is with
  |nil=>exact fun e0 e ds h _ _ H hds=>⟨e,rfl,H,hds⟩
  | cons i is ih=>
   intro e0 e ds h G hc H hds;obtain⟨o,ho,hg,hp⟩:=G.each i (by simp);have hd:cf ops i=o.dst:=by simp[cf,ho]
   have hget:∀s,(e.upd o.dst (.ofV (.tup []))).get s=if o.dst=some s then⟨.val (.tup []),none⟩else e.get s:=fun s=>by rw[bJ];rfl
   have H2:=H.step (u:=.ofV (.tup [])) (d:=o.dst) rfl rfl rfl rfl rfl rfl (fun C off hh=>by cases hh);have hav:(e.upd o.dst (.ofV (.tup []))).av t=e.av t:=by
    have:(e.upd o.dst (.ofV (.tup []))).get t=e.get t:=by rw[hget,if_neg (by rw[<- hd];exact G.ne)]
    simp only[Env.av,this]
   obtain⟨e',h1,h2,h3⟩:=ih e0 (e.upd o.dst (.ofV (.tup []))) (o.dst.toList++ds) h G.tail (by rw[hav];exact hc) H2 (fun s hs=>by
    rw[hget];split
    ·rfl
    ·rename_i hn;simp only[Gt,Hm]at hs;rcases hs with hs|hs
     ·exact absurd hs hn
     ·exact hds s hs)
   have hiff:∀s,s∈bO ops is++(o.dst.toList++ds)↔s∈bO ops (i:: is)++ds:=fun s=>by
    simp only[Gt,fe,Hm,hd];constructor
    ·rintro (h|h|h)
     ·exact .inl (.inr h)
     ·exact .inl (.inl h)
     ·exact .inr h
    ·rintro ((h|h)|h)
     ·exact .inr (.inl h)
     ·exact .inl h
     ·exact .inr (.inr h)
   refine⟨e',?_,h2.sub hiff,fun s hs=>h3 s ((hiff s).2 hs)⟩;simp only[aI];unfold stepG;rw[ji ho hg G.hj hp,hc.look,hd];exact h1
 intro is e h G hc;obtain⟨e',h1,h2,h3⟩:=key is e e [] h G hc (.refl e) (by simp);exact⟨e',h1,h2.sub (by simp),fun s hs=>h3 s (by simp[hs])⟩
end
end Go.Av
namespace Go.Av
variable [Dr]
section
variable {cx:Cx} {ops:Array Oper} {base:Nat}
structure Rel (ops:Array Oper) (L:List Nat) (e2 e:Env):Prop where
 get:∀t,e2.get t=e.get t\/(e2.get t=Ent.none/\t<1000/\∀i∈L,t ∉ bY ops i)
 al:∀g,aA e2.al g=aA e.al g
 lb:∀B,aW e2.lb B=aW e.lb B
 lf:∀B,aL e2.sl B=true->aL e.sl B=true
omit [Dr]in
theorem Rel.refl(ops:Array Oper)(L:List Nat)(e:Env):Rel ops L e e:=⟨fun _=>.inl rfl,fun _=>rfl,fun _=>rfl,fun _ h=>h⟩
omit [Dr]in
theorem Rel.sub{L L':List Nat}{e2 e:Env}(H:Rel ops L e2 e)(h:∀i∈L',i∈L):Rel ops L' e2 e:=
 ⟨fun t=>(H.get t).imp id fun⟨h1,h2,h3⟩=>⟨h1,h2,fun i hi=>h3 i (h i hi)⟩,H.al,H.lb,H.lf⟩
omit [Dr]in
theorem Rel.read{L:List Nat}{e2 e:Env}(H:Rel ops L e2 e){i t:Nat}(hi:i∈L)(ht:t∈bY ops i):e.get t=e2.get t:=by
 rcases H.get t with h|⟨_,_,h⟩
 ·exact h.symm
 ·exact absurd ht (h i hi)
omit [Dr]in
theorem Rel.agree{L:List Nat}{e2 e:Env}(H:Rel ops L e2 e){i:Nat}{o:Oper}(hi:i∈L)(ho:ops[i]? = some o):Agree cx o e2 e:=by
 refine⟨fun t ht=>H.read hi (by rw[dY ho];simp[ht]),fun _=>⟨fun t ht=>?_,fun B=>(H.lb B).symm⟩,fun _ g=>(H.al g).symm,fun _ s _ hl=>H.lf _ hl⟩;rcases H.get t with h|⟨_,h,_⟩
 ·exact h.symm
 ·omega
omit [Dr]in
theorem Rel.upd{L:List Nat}{e2 e:Env}(H:Rel ops L e2 e)(d:Option Tmp)(u:Upd):Rel ops L (e2.upd d u) (e.upd d u):=by
 refine⟨fun t=>?_,fun g=>?_,fun B=>?_,fun B hB=>?_⟩
 ·rw[bJ,bJ];split
  ·exact .inl rfl
  ·rw[fD,fD];split
   ·exact .inl rfl
   ·exact H.get t
 ·show aA (u.add++cS e2.al u.drop) g=aA (u.add++cS e.al u.drop) g;have:aA (cS e2.al u.drop) g=aA (cS e.al u.drop) g:=by
   cases u.drop with
   |none=>exact H.al g
   |some k=>simp only[cS,gf,H.al g]
  rw[cU,cU,this]
 ·show aW (ib (cH e2.lb u.unlb) u.lb) B=aW (ib (cH e.lb u.unlb) u.lb) B;have:aW (cH e2.lb u.unlb) B=aW (cH e.lb u.unlb) B:=by
   cases u.unlb with
   |none=>exact H.lb B
   |some k=>simp only[cH,iR,H.lb B]
  cases u.lb with
  |none=>exact this
  |some x=>
   obtain⟨k,n⟩:=x;simp only[ib,cF,this]
 ·have hB':aL (mD d u.ent (u.ls++e2.sl)) B=true:=hB;show aL (mD d u.ent (u.ls++e.sl)) B=true;rw[cY,ew]at hB' |-;simp only[FV]at hB' |-;exact⟨hB'.1,hB'.2.1,H.lf B hB'.2.2⟩
omit [Dr]in
theorem Rel.run:∀(is:List Nat){L:List Nat}{e2 e:Env}(_:Rel ops L e2 e)(_:∀i∈is,i∈L)(h:Hp),aI cx base ops is e2 h≠.fail->
  (∃e2' e' h',aI cx base ops is e2 h= .ok e2' h'/\aI cx base ops is e h= .ok e' h'/\Rel ops L e2' e')\/∃v h',aI cx base ops is e2 h= .pan v h'/\aI cx base ops is e h= .pan v h'
 |[],L,e2,e,H,_,h,_=>.inl ⟨e2,e,h,rfl,rfl,H⟩
 | i:: is,L,e2,e,H,hL,h,hr=>by
  simp only[aI]at hr |-;unfold stepG at hr |-;simp only[ae,M.pure]at hr |-;cases hx:dp cx base ops i e2 h with
  |fail=>rw[hx]at hr;exact absurd rfl hr
  | _ =>
   have ho:∃o,ops[i]? = some o:=by
    cases ho:ops[i]? with
    |none=>unfold dp at hx;rw[ho]at hx;cases hx
    |some o=>exact⟨o,rfl⟩
   obtain⟨o,ho⟩:=ho;have hi:=hL i (by simp);have hy:dp cx base ops i e h=dp cx base ops i e2 h:=dS ho (fun t ht=>H.read hi (by rw[dY ho];simp[ht])) (H.agree hi ho) (by rw[hx];simp);rw[hy,hx]
   first
    | rw[hx]at hr
      exact Rel.run is (H.upd _ _) (fun k hk=>hL k (by simp[hk])) _ hr
    |exact .inr ⟨_,_,rfl,rfl⟩
omit [Dr]in
theorem lD(e:Env):∀(ds:List Nat)(t:Nat),(forget e ds).get t=if t∈ds then Ent.none else e.get t
 |[],t=>by simp[forget]
 | d:: ds,t=>by
  show bg ((d,Ent.none):: (forget e ds).sl) t=_;rw[bu];by_cases hd:d=t
  ·subst hd;simp
  ·rw[if_neg hd]
   have:=lD e ds t
   simp only[Env.get]at this;rw[this];have hd':¬t=d:=fun h=>hd h.symm;simp[hd',Env.get]
omit [Dr]in
theorem j9(e:Env):∀(ds:List Nat),(forget e ds).al=e.al/\(forget e ds).lb=e.lb/\∀B,aL (forget e ds).sl B=aL e.sl B
 |[]=>⟨rfl,rfl,fun _=>rfl⟩
 |_d:: ds=>j9 e ds
omit [Dr]in
theorem km(e:Env)(f:Nat->AV):∀(outs:List Nat)(pre:List AV)(t:Nat),(dO e (pre++outs.map f) pre.length outs).get t=if t∈outs then⟨.val (f t),none⟩else e.get t
 |[],pre,t=>by simp[dO]
 | d:: ds,pre,t=>by
  show bg ((d,⟨.val (nth (pre++(d:: ds).map f) pre.length),none⟩):: (dO e (pre++(d:: ds).map f) (pre.length+1) ds).sl) t=_;rw[bu];have hn:nth (pre++(d:: ds).map f) pre.length=f d:=by simp[nth]
  by_cases hd:d=t
  ·subst hd;rw[hn];simp
  ·rw[if_neg hd]
   have:=km e f ds (pre++[f d]) t
   simp only[Hf,Gh,Ge,GM,List.singleton_append]at this;simp only[Env.get,GL]at this |-;rw[this];have hd':¬t=d:=fun h=>hd h.symm;simp[hd']
omit [Dr]in
theorem jc(e:Env)(vs:List AV):∀(outs:List Nat)(i:Nat),(dO e vs i outs).al=e.al/\(dO e vs i outs).lb=e.lb/\∀B,aL (dO e vs i outs).sl B=aL e.sl B
 |[],_i=>⟨rfl,rfl,fun _=>rfl⟩
 |_d:: ds,i=>jc e vs ds (i+1)
omit [Dr]in
theorem sU(gs:List (Option (Nat×Bool)×List Nat))(t:Nat):sT ops gs t=true↔∃i∈eJ gs,t∈bY ops i:=by
 unfold sT eJ;simp only[List.any_eq_true,List.mem_flatMap,ey];constructor
 ·rintro⟨g,hg,i,hi,ht⟩;exact⟨i,⟨g,hg,hi⟩,ht⟩
 ·rintro⟨i,⟨g,hg,hi⟩,ht⟩;exact⟨g,hg,i,hi,ht⟩
omit [Dr]in
theorem Rel.close{is:List Nat}{gs:List (Option (Nat×Bool)×List Nat)}{e2 e e':Env}(H:Rel ops (is++eJ gs) e2 e)(hS:Small ops)(T:Turned (bO ops is) e e'){vs:List AV}{f:Nat->AV}(hvs:vs=(b5 ops is gs).map f)(hf:∀t∈b5 ops is gs,e'.get t=⟨.val (f t),none⟩\/(f t= .any/\t<1000/\∀i∈eJ gs,t ∉ bY ops i)):Rel ops (eJ gs) (dO (forget e2 (bO ops is)) vs 0 (b5 ops is gs)) e':=by
 have hr:=jc (forget e2 (bO ops is)) vs (b5 ops is gs) 0;have hr2:=j9 e2 (bO ops is);refine⟨fun t=>?_,fun g=>?_,fun B=>?_,fun B hB=>?_⟩
 ·have hg:=km (forget e2 (bO ops is)) f (b5 ops is gs) [] t;simp only[GY,GM]at hg;rw[hvs,hg];split
  ·rename_i ht;rcases hf t ht with h|⟨h1,h2,h3⟩
   ·exact .inl h.symm
   ·exact .inr ⟨by rw[h1];rfl,h2,h3⟩
  ·rename_i ht;rw[lD];split
   ·rename_i hd;refine .inr ⟨rfl,?_,fun i hi hti=>ht ?_⟩
    ·unfold bO at hd;simp only[HE]at hd;obtain⟨i,hi,hd⟩:=hd;unfold cf at hd;cases hoi:ops[i]? with
     |none=>rw[hoi]at hd;simp at hd
     |some o=>rw[hoi]at hd;exact hS.dst i o hoi t hd
    ·unfold b5;rw[Is];exact⟨hd,(sU gs t).2 ⟨i,hi,hti⟩⟩
   ·rename_i hd;rw[T.get t hd];rcases H.get t with h|⟨h1,h2,h3⟩
    ·exact .inl h
    ·exact .inr ⟨h1,h2,fun i hi=>h3 i (by simp[hi])⟩
 ·rw[hr.1,hr2.1,T.al];exact H.al g
 ·rw[hr.2.1,hr2.2.1,T.lb];exact H.lb B
 ·rw[hr.2.2,hr2.2.2]at hB;exact T.lf B (H.lf B hB)
omit [Dr]in
theorem mh(l m:List Nat):∀e:Env,aI cx base ops (l++m) e=ae (aI cx base ops l e) (aI cx base ops m):=by
 induction l with
 |nil=>intro e;rfl
 |cons i l ih=>
  intro e;show ae (stepG cx base ops i e) (aI cx base ops (l++m))=ae (ae (stepG cx base ops i e) (aI cx base ops l)) (aI cx base ops m);rw[cR];congr 1;funext e';exact ih e'
omit [Dr]in
theorem yG{x:Ent}(h1:iq x=true)(h2:x.g=none):x=⟨.val x.av,none⟩:=by
 obtain⟨v,g⟩:=x;cases v with
 |val a=>simp only at h2;subst h2;rfl
 |loc B off=>cases h1
omit [Dr]in
theorem fB{ρ:Type}(hS:Small ops):∀(gs:List (Option (Nat×Bool)×List Nat))(e2 e:Env)(k:Env->M ρ)(h:Hp),(∀g∈gs,∀i∈g.2,guardOf ops i=g.1)->Rel ops (eJ gs) e2 e->cI cx base ops gs e2 k h≠.fail->
  (∃e2' e' h',cI cx base ops gs e2 k h=k e2' h'/\aI cx base ops (eJ gs) e h= .ok e' h'/\Rel ops [] e2' e')\/∃v h',cI cx base ops gs e2 k h= .pan v h'/\aI cx base ops (eJ gs) e h= .pan v h'
 |[],e2,e,k,h,_,H,_=>.inl ⟨e2,e,h,rfl,rfl,H⟩
 | (none,is):: gs,e2,e,k,h,hg,H,hr=>by
  have hg0:∀i∈is,guardOf ops i=none:=hg (none,is) (by simp);have hfl:eJ ((none,is):: gs)=is++eJ gs:=rfl;rw[hfl]at H |-;rw[mh];simp only[cI]at hr |-;rw[qT is e2 _ hg0]at hr |-;simp only[ae]at hr |-;have hr2:aI cx base ops is e2 h≠.fail:=fun hf=>by rw[hf]at hr;exact hr rfl
  rcases H.run (base:=base) (cx:=cx) is (fun i hi=>by simp[hi]) h hr2 with⟨e2',e',h',h1,h2,H'⟩|⟨v,h',h1,h2⟩
  ·rw[h1]at hr |-;rw[h2];exact fB hS gs e2' e' k h' (fun g hgg=>hg g (by simp[hgg])) (H'.sub fun i hi=>by simp[hi]) hr
  ·rw[h1,h2];exact .inr ⟨v,h',rfl,rfl⟩
 | (some (j,want),is):: gs,e2,e,k,h,hg,H,hr=>by
  have hg0:∀i∈is,guardOf ops i=some (j,want):=hg (some (j,want),is) (by simp);have hfl:eJ ((some (j,want),is):: gs)=is++eJ gs:=rfl;rw[hfl]at H |-;rw[mh];simp only[cI]at hr |-;cases hdj:cf ops j with
  |none=>rw[hdj]at hr;exact absurd rfl hr
  | some t=>
   rw[hdj]at hr;simp only at hr |-;revert hr;cases hc:((is.all fun i=>match ops[i]? with|some o=>df cx o&&o.dst.isSome|none=>false)&&!(dw (bO ops is) t))with
   |false=>intro hr;exact absurd rfl hr
   | true=>
    intro hr;simp only[FW]at hr |-;simp only[FV,GI,F9]at hc;have G:GroupOk cx ops j want t is:=by
     refine⟨hdj,fun i hi=>?_,fun ht=>?_⟩
     ·have:=hc.1 i hi
      cases hoi:ops[i]? with
      |none=>rw[hoi]at this;cases this
      |some o=>
       rw[hoi]at this;simp only[FV]at this;exact⟨o,rfl,hg0 i hi,this.1⟩
     ·rw[(ey _ _).2 ht]at hc;exact Bool.noConfusion hc.2
    have htr:∀i∈is,t∈bY ops i:=fun i hi=>by
     obtain⟨o,ho,hgi,_⟩:=G.each i hi;rw[dY ho];have:o.guard=some (j,want):=by simpa [guardOf,ho]using hgi
     have:t∈c8 ops o:=by
      unfold c8;rw[this];simp only;rw[show (ops[j]?).bind (·.dst)=some t from hdj];simp
     simp[this]
    -- the guard says yes
    cases is with
    | nil=>
     have hrn:∀e,aI cx base ops [] e=M.pure e:=fun _=>rfl;rw[hrn,aw];have ho:b5 ops [] gs=[]:=rfl;have hd:bO ops []=[]:=rfl;rw[ho,hd]at hr |-;have hpure:∀ {q:AV} {m:M (List AV)},m h= .ok [] h->au q want ([]:List Nat).length m h≠.fail->au q want ([]:List Nat).length m h= .ok [] h:=by
      intro q m hm hne;cases q with
      |bool b=>
       simp only[au];cases b== want with
       |true=>exact hm
       |false=>rfl
      |tup vs=>
       cases vs with
       |nil=>rfl
       |cons v vs=>exact absurd rfl hne
      |_=>exact absurd rfl hne
     simp only[ae]at hr |-;have hp:=hpure (q:=e2.av t) (m:=fg cx base ops true [] e2 fun e'=>bif ([]:List Nat).all (fun t=>iq (e'.get t))then M.pure (([]:List Nat).map e'.av)else M.fail) rfl (fun hf=>by rw[hf]at hr;exact hr rfl);rw[hp]at hr |-;exact fB hS gs e2 e k h (fun g hgg=>hg g (by simp[hgg])) (H.sub fun i hi=>by simp[hi]) hr
    |cons i0 is0=>
    have hav:e.av t=e2.av t:=by
     have:=H.read (i:=i0) (by simp) (htr i0 (by simp))
     simp only[Env.av,this]
    generalize hiseq:i0:: is0=is at *;have hoff:Off (e2.av t) want->(au (e2.av t) want (b5 ops is gs).length (fg cx base ops true is e2 fun e'=>bif (b5 ops is gs).all (fun t=>iq (e'.get t))then M.pure ((b5 ops is gs).map e'.av)else M.fail))=M.pure (List.replicate (b5 ops is gs).length (.tup [])):=by
     rintro (hq|⟨b,hq,hb⟩)
     ·rw[hq];rfl
     ·rw[hq];simp only[au,hb,F0]
    have hcase:Off (e2.av t) want\/e2.av t= .bool want:=by
     cases hq:e2.av t with
     |bool b=>
      cases hb:(b== want)with
      |true=>right;simp at hb;rw[hb]
      |false=>exact .inl (.inr ⟨b,rfl,hb⟩)
     |tup vs=>
      cases vs with
      |nil=>exact .inl (.inl rfl)
      |cons v vs=>rw[hq]at hr;exact absurd rfl hr
     |_=>rw[hq]at hr;exact absurd rfl hr
    rcases hcase with ho|hy
    ·rw[hoff ho,aw]at hr |-;obtain⟨e',h1,T,h2⟩:=y4 (base:=base) is e h G (by rw[hav];exact ho);simp only[ae];rw[h1];refine fB hS gs _ e' k h (fun g hgg=>hg g (by simp[hgg])) (H.close hS T (f:=fun _=>.tup []) ?_ fun s hs=>.inl ?_) hr
     ·exact (List.map_const' ..).symm
     ·refine h2 s ?_;unfold b5 at hs;exact (Is.1 hs).1
    ·rw[hy]at hr |-;simp only[au,Hs,FW,ae]at hr |-;rw[nT is e2 _ h G hy]at hr |-;simp only[ae]at hr |-;have hr2:aI cx base ops is e2 h≠.fail:=fun hf=>by rw[hf]at hr;exact hr rfl
     rcases H.run (base:=base) (cx:=cx) is (fun i hi=>by simp[hi]) h hr2 with⟨e2',e',h',h1,h2,H'⟩|⟨v,h',h1,h2⟩
     ·rw[h1]at hr |-;rw[h2];simp only at hr |-;have T2:=je is e2 e2' h h' G hy h1;have T:=je is e e' h h' G (by rw[hav];exact hy) h2;cases hv:(b5 ops is gs).all (fun t=>iq (e2'.get t))with
      |false=>rw[hv]at hr;exact absurd rfl hr
      |true=>
       rw[hv]at hr;simp only[FW,M.pure]at hr |-;refine fB hS gs _ e' k h' (fun g hgg=>hg g (by simp[hgg])) (H.close hS T (f:=e2'.av) rfl fun s hs=>?_) hr;have hsd:s∈bO ops is:=by unfold b5 at hs;exact (Is.1 hs).1
       have hval:=yG (F9.1 hv s hs) (T2.ng s hsd);rcases H'.get s with h3|⟨h3,h4,h5⟩
       ·left;rw[<- h3];exact hval
       ·right;exact⟨by simp only[Env.av,h3];rfl,h4,fun i hi=>h5 i (by simp[hi])⟩
     ·rw[h1,h2];exact .inr ⟨v,h',rfl,rfl⟩
end
end Go.Av
namespace Go.Av
variable [Dr]
omit [Dr]in
theorem fN(acc:List Nat):∀(es:List Edge)(x:Nat),(fl acc es).testBit x=true↔∃e∈es,Region.binds .any e=true/\(e.on=x\/(acc.getD e.on 0).testBit x=true)
 |[],x=>by simp[fl]
 | e :: es,x=>by
  simp only[fl];cases hb:Region.binds .any e with
  | false=>
   simp only[F0,fN acc es x,Gp];constructor
   ·rintro⟨e',he,h⟩;exact⟨e',.inr he,h⟩
   ·rintro⟨e',rfl|he,h⟩
    ·rw[hb]at h;exact absurd h.1 (by simp)
    ·exact⟨e',he,h⟩
  | true=>
   simp only[FW,Nat.testBit_or,GE,fN acc es x,Gp,Nat.testBit_two_pow,F5];constructor
   ·rintro ((⟨e',he,h⟩|h)|h)
    ·exact⟨e',.inr he,h⟩
    ·exact⟨e,.inl rfl,hb,.inl h⟩
    ·exact⟨e,.inl rfl,hb,.inr h⟩
   ·rintro⟨e',rfl|he,h1,h2⟩
    ·rcases h2 with h2|h2
     ·exact .inl (.inr h2)
     ·exact .inr h2
    ·exact .inl (.inl ⟨e',he,h1,h2⟩)
omit [Dr]in
theorem mW:∀(os:List Oper)(acc:List Nat),∃r:List Nat,rA os acc=acc++r/\r.length=os.length/\∀(k:Nat)(o:Oper),os[k]? = some o->r[k]? = some (fl (acc++r.take k) o.after.toList)
 |[],acc=>⟨[],by simp[rA],rfl,by simp⟩
 | o:: os,acc=>by
  obtain⟨r,h1,h2,h3⟩:=mW os (acc++[fl acc o.after.toList]);refine⟨fl acc o.after.toList:: r,by simp[rA,h1],by simp[h2],fun k o' ho=>?_⟩;cases k with
  |zero=>simp at ho;subst ho;simp
  |succ k=>
   simp only[Gx,List.take_succ_cons]at ho |-;rw[h3 k o' ho];simp
section
variable {ops:Array Oper}
def gh(ops:Array Oper):List Nat:=rA ops.toList []
omit [Dr]in
theorem v8{j:Nat}{o:Oper}(ho:ops[j]? = some o):(gh ops).length=ops.size/\(gh ops).getD j 0=fl ((gh ops).take j) o.after.toList:=by
 obtain⟨r,h1,h2,h3⟩:=mW ops.toList [];have h4:gh ops=r:=by unfold gh;rw[h1];simp
 rw[h4];refine⟨by simp[h2],?_⟩
 have:=h3 j o (by simpa using ho)
 rw[Gv,this];simp
omit [Dr]in
theorem t8{listed:Nat->Prop}(hcl:∀(j:Nat)(o:Oper),ops[j]? = some o->listed j->∀e∈o.after.toList,Region.binds .any e=true->listed e.on):
  ∀(j:Nat)(o:Oper),ops[j]? = some o->(∀e∈o.after.toList,Region.binds .any e=true->listed e.on)->∀x,((gh ops).getD j 0).testBit x=true->listed x:=by
 intro j
 induction j using Nat.strongRecOn with
 | _ j ih=>
  intro o ho hl x hx;obtain⟨hlen,hget⟩:=v8 ho;rw[hget,fN]at hx;obtain⟨e,he,hb,hx|hx⟩:=hx
  ·rw[<- hx];exact hl e he hb
  ·by_cases hj:e.on<j
   ·have hjs:j<ops.size:=(GC.1 ho).1;have hos:ops[e.on]? = some ops[e.on]:=G2 (by omega);have h1:((gh ops).take j).getD e.on 0=(gh ops).getD e.on 0:=by
     rw[Gv,Gv,Gg,FY hj]
    rw[h1]at hx;exact ih e.on hj _ hos (hcl e.on _ hos (hl e he hb)) x hx
   ·rw[Gv,Gg,if_neg hj]at hx;simp at hx
def vu(cx:Cx)(ops:Array Oper)(i j:Nat):Prop:=((gh ops).getD i 0).testBit j=false/\(((gh ops).getD j 0).testBit i=true\/iN cx ops i j=true)
omit [Dr]in
theorem ki{cx:Cx}:∀ {l:List Nat},fS cx ops (gh ops) l=true->l.Pairwise (vu cx ops)/\∀i∈l,((gh ops).getD i 0).testBit i=false
 |[],_=>⟨.nil,by simp⟩
 |i:: l,h=>by
  simp only[fS,FV,GI,F9,GE]at h;obtain⟨⟨h1,h2⟩,h3⟩:=h;obtain⟨h4,h5⟩:=ki h3;refine⟨.cons (fun j hj=>h2 j hj) h4,fun k hk=>?_⟩;simp only[Gp]at hk;rcases hk with rfl|hk
  ·exact h1
  ·exact h5 k hk
omit [Dr]in
theorem gn:∀ {l:List Nat},distinct l=true->l.Nodup
 |[],_=>.nil
 |i:: l,h=>by
  simp only[distinct,FV,GI]at h;refine Ir.2 ⟨fun hi=>?_,gn h.2⟩;rw[(ey _ _).2 hi]at h;exact Bool.noConfusion h.1
variable {P:Program} {cx:Cx} {c:Entry} {N base:Nat}
theorem pL(hT:TOK P cx.T)(hC:bC P cx.own cx.call)(hI:IsoPure cx)(hO:OpsOk N cx ops)(hS:Small ops)(hbit:∀i x,((gh ops).getD i 0).testBit x=true->x<ops.size)(hself:∀i,i<ops.size->((gh ops).getD i 0).testBit i=false){Q:Exit->Act->World->Prop}:∀(n:Nat)(rest:List Nat)(listed:Array Bool)(D:List Nat)(e:Env)(h:Hp)(a:Act)(w:World),rest.length=n->listed.size=ops.size->rest.Nodup->
  (∀i,i∈rest↔i<ops.size/\listed.getD i true=false)->(∀i∈rest,i ∉ D)->(∀i∈D,i<ops.size)->
  (∀(j:Nat)(o:Oper),ops[j]? = some o->listed.getD j false=true->∀e∈o.after.toList,Region.binds .any e=true->listed.getD e.on false=true)->rest.Pairwise (vu cx ops)->
  dn c N (UD base D) e h a w->aI cx base ops rest e h≠.fail->
  (∀e0 e' h' a' w',aI cx base ops rest e h= .ok e0 h'->EqE e0 e'->dn c N (UR base ops.size) e' h' a' w'->a'.defers=a.defers->Q .normal a' w')->
  (∀pv h' v w' a',aI cx base ops rest e h= .pan pv h'->ia c pv h' v w'->a'.defers=a.defers->Q (.panic [{ v,recovered:=false }]) a' w')->wpAny P .any ops Q n listed a w
 |0,rest,listed,D,e,h,a,w,hlen,hsz,hnd,hmem,hdis,hD,hcl,hpw,H,hr,hn,hp=>by
  have:rest=[]:=Gi hlen;subst this;refine⟨?_,hn e e h a w rfl (.refl e) (H.wider (zj hD)) rfl⟩;refine List.eq_nil_iff_forall_not_mem.2 fun i hi=>?_;obtain⟨h0,o,ho,_⟩:=mem_ready.1 hi
  have:=(hmem i).2 ⟨(GC.1 ho).1,h0⟩
  simp at this
 | n + 1,rest,listed,D,e,h,a,w,hlen,hsz,hnd,hmem,hdis,hD,hcl,hpw,H,hr,hn,hp=>by
  have hgd:∀i,i<ops.size->listed.getD i true=listed.getD i false:=fun i hi=>by
   rw[Gn,Gn,G2 (by omega)];rfl
  refine⟨fun hemp=>?_,fun i hi=>?_⟩
  ·exfalso;cases rest with
   |nil=>simp at hlen
   | cons r0 tl=>
    have hr0:=(hmem r0).1 (by simp);have hor:ops[r0]? = some ops[r0]:=G2 hr0.1;have:r0∈Region.ready .any ops listed:=by
     refine mem_ready.2 ⟨hr0.2,_,hor,fun ed hed hb=>?_⟩;have hbt:((gh ops).getD r0 0).testBit ed.on=true:=by
      rw[(v8 hor).2,fN];exact⟨ed,by simpa using hed,hb,.inl rfl⟩
     have hlt:=hbit r0 ed.on hbt;cases hl:listed.getD ed.on false with
     |true=>rfl
     | false=>
      have hin:=(hmem ed.on).2 ⟨hlt,by rw[hgd _ hlt];exact hl⟩;simp only[Gp]at hin;rcases hin with hin|hin
      ·rw[hin]at hbt;rw[hself r0 hr0.1]at hbt;cases hbt
      ·have:=(H4.1 hpw).1 ed.on hin
       rw[this.1]at hbt;cases hbt
    rw[hemp]at this;simp at this
  ·obtain⟨h0,o,ho,hall⟩:=mem_ready.1 hi;have hlt:i<ops.size:=(GC.1 ho).1;have hin:=(hmem i).2 ⟨hlt,h0⟩;obtain⟨p,q,rfl⟩:=List.append_of_mem hin;have hnd':=hnd;rw[List.nodup_append]at hnd';have hni:i ∉ p++q:=by
    intro hm;rw[Gt]at hm;rcases hm with hm|hm
    ·exact hnd'.2.2 i hm i (by simp) rfl
    ·exact (Ir.1 hnd'.2.1).1 hm
   have hclo:=t8 (ops:=ops) (listed:=fun j=>listed.getD j false=true) (fun j o ho hj ed hed hb=>hcl j o ho hj ed hed hb) i o ho (fun ed hed hb=>hall ed (by simpa using hed) hb);have hfront:∀x∈p,iN cx ops x i=true/\x≠i:=by
    intro x hx;have hpr:=(List.pairwise_append.1 hpw).2.2 x hx i (by simp);refine⟨?_,fun hxi=>hni (by rw[<- hxi];simp[hx])⟩;rcases hpr.2 with h1|h1
    ·have hxl:=hclo x h1;have hxr:=(hmem x).1 (by simp[hx]);rw[hgd x hxr.1]at hxr;rw[hxr.2]at hxl;cases hxl
    ·exact h1
   have hRE:=zV (base:=base) hI hS q p hfront e h;have hr':aI cx base ops (i:: (p++q)) e h≠.fail:=by
    intro hf;rw[hf]at hRE;cases hx:aI cx base ops (p++i:: q) e h with
    |fail=>exact hr hx
    |ok e0 h0=>rw[hx]at hRE;obtain⟨_,h1,_⟩:=hRE;cases h1
    |pan v h0=>rw[hx]at hRE;cases hRE
   simp only[aI,ae]at hr';have hstep:∀ {r:R Env},aI cx base ops (i:: (p++q)) e h=r->aI cx base ops (i:: (p++q)) e h=r:=fun h=>h;simp only[aI,ae]at hRE;refine mn hT hC hO (hdis i hin) H (fun hf=>by rw[hf]at hr';exact hr' rfl) (fun e1 h1 a1 w1 hst hs hdf=>?_) (fun pv h1 v w1 hst hps=>?_)
   ·rw [hst]at hr' hRE;simp only at hr' hRE;refine pL hT hC hI hO hS hbit hself n (p++q) (listed.setIfInBounds i true) (i:: D) e1 h1 a1 w1 ?_ (by simp[hsz]) ?_ (fun k=>?_) (fun k hk=>?_) (fun k hk=>?_) (fun k o' ho' hk ed hed hb=>?_) ?_ hs hr' (fun e0 e' h' a' w' hok heq hsat hdf'=>?_) (fun pv h' v w' a' hok hps hdf'=>?_)
    ·simp only[Gh,Ge]at hlen |-;omega
    ·exact hnd.sublist (List.Sublist.append (List.Sublist.refl p) (List.sublist_cons_self i q))
    ·have hset:k≠i->(listed.setIfInBounds i true).getD k true=listed.getD k true:=fun hk=>by
      rw[Gn,Gn,Hk (Ne.symm hk)]
     constructor
     ·intro hk;have hki:k≠i:=fun h=>hni (h▸hk);rw[hset hki];exact (hmem k).1 (by
       simp only[Gt,Gp]at hk |-;rcases hk with hk|hk
       ·exact .inl hk
       ·exact .inr (.inr hk))
     ·rintro⟨h1,h2⟩;have hki:k≠i:=by
       rintro rfl;rw[Gn,Array.getElem?_setIfInBounds_self]at h2;rw[FY (by omega)]at h2;simp at h2
      rw[hset hki]at h2
      have:=(hmem k).2 ⟨h1,h2⟩
      simp only[Gt,Gp]at this |-;rcases this with h|h|h
      ·exact .inl h
      ·exact absurd h hki
      ·exact .inr h
    ·simp only[Gp,not_or];refine⟨fun hki=>hni (hki▸hk),hdis k ?_⟩;simp only[Gt,Gp]at hk |-;rcases hk with hk|hk
     ·exact .inl hk
     ·exact .inr (.inr hk)
    ·simp only[Gp]at hk;rcases hk with rfl|hk
     ·exact hlt
     ·exact hD k hk
    ·have hmono:∀x,listed.getD x false=true->(listed.setIfInBounds i true).getD x false=true:=fun x hx=>getD_set_true hx;by_cases hki:k=i
     ·subst hki;rw[ho]at ho';cases ho';exact hmono _ (hall ed (by simpa using hed) hb)
     ·refine hmono _ (hcl k o' ho' ?_ ed hed hb);rw[Gn,Hk (Ne.symm hki),<- Gn]at hk;exact hk
    ·exact hpw.sublist (List.Sublist.append (List.Sublist.refl p) (List.sublist_cons_self i q))
    ·rw[hok]at hRE;cases hx:aI cx base ops (p++i:: q) e h with
     |fail=>exact absurd hx hr
     |ok ex hx'=>
      rw[hx]at hRE;obtain⟨e0',h2,h3⟩:=hRE;cases h2;exact hn ex e' _ a' w' hx (h3.trans heq) hsat (hdf'.trans hdf)
     |pan v h0=>rw[hx]at hRE;cases hRE
    ·rw[hok]at hRE;cases hx:aI cx base ops (p++i:: q) e h with
     |fail=>exact absurd hx hr
     |ok ex hx'=>rw[hx]at hRE;obtain⟨_,h1,_⟩:=hRE;cases h1
     |pan v0 h0=>
      rw[hx]at hRE;cases hRE;exact hp _ _ v w' a' hx hps (hdf'.trans hdf)
   ·rw[hst]at hRE;cases hx:aI cx base ops (p++i:: q) e h with
    |fail=>exact absurd hx hr
    |ok ex hx'=>rw[hx]at hRE;obtain⟨_,h1,_⟩:=hRE;cases h1
    |pan v0 h0=>
     rw[hx]at hRE;cases hRE;exact hp _ _ v w1 a hx hps rfl
end
end Go.Av
namespace Go.Av
variable [Dr]
structure IsoCall (cx:Cx):Prop where
 iso:∀f args,cx.iso f=true->∃x:Option (Bool×AV),∀h,cx.call f args h=(match x with|none=>.fail|some (true,v)=>.ok v h|some (false,v)=>.pan v h)
 nw:∀f args,cx.nw f=true->rr (cx.call f args)
omit [Dr]in
theorem IsoCall.draw{cx:Cx}(h:IsoCall cx):IsoPure (dk cx):=by
 refine⟨?_,fun f args hf=>?_⟩
 case refine_2=>
  have hn:=h.nw f args hf;show rr (bif cx.iso f then cG (cx.call f args)else cx.call f args);cases cx.iso f with
  |false=>exact hn
  |true=>
   intro hp v h' hh;simp only[FW,cG]at hh;cases hq:cx.call f args hp with
   |ok a b=>rw[hq]at hh;cases hh;exact hn _ _ _ hq
   |pan a b=>rw[hq]at hh;cases hh
   |fail=>rw[hq]at hh;cases hh
 intro f args hf;have hf':cx.iso f=true:=hf;obtain⟨x,hx⟩:=h.iso f args hf';refine⟨match x with|some (true,v)=>some v|_=>none,?_⟩;show (bif cx.iso f then cG (cx.call f args)else cx.call f args)=_;rw[hf'];funext hp;simp only[FW,cG,hx];rcases x with _|⟨b,v⟩
 ·rfl
 ·cases b<;>rfl
theorem bC.draw{P:Program}{cx:Cx}(h:bC P cx.own cx.call):bC P (dk cx).own (dk cx).call:=by
 intro f args hp S β w vs hr hg hw hh hv;have hcall:(dk cx).call f args hp=(bif cx.iso f then cG (cx.call f args) hp else cx.call f args hp):=by
  show (bif cx.iso f then cG (cx.call f args)else cx.call f args) hp=_;cases cx.iso f<;>rfl
 rw[hcall]at hr |-
 have key:∀r,r=cx.call f args hp->r≠.fail->Calls P f vs.toArray w (cv ((dk cx).own f) S β hp w r)/\(P.funcs[f]?).any (fun fn=>fn.body.isSome&&!(fn.name== "runtime.NumGoroutine"))=true:=by
  intro r hr1 hr2;subst hr1;exact h f args hp S β w vs hr2 hg hw hh hv
 cases hi:cx.iso f with
 |false=>rw[hi]at hr;exact key _ rfl hr
 |true=>
  rw[hi]at hr;simp only[FW,cG]at hr |-;cases hx:cx.call f args hp with
  |ok v hq=>rw[hx]at hr;exact key _ hx.symm (by simp)
  |pan v hq=>rw[hx]at hr;exact absurd rfl hr
  |fail=>rw[hx]at hr;exact absurd rfl hr
def f9(c:Entry)(N:Nat)(e:Env)(h:Hp)(a:Act)(w:World):Prop:=dn c N (fun g=>g<e.nx*1000) e h a w
theorem dn.rel{c:Entry}{N:Nat}{U:Nat->Prop}{e2 e:Env}{h:Hp}{a:Act}{w:World}{ops:Array Oper}(H:dn c N U e h a w)(R:Rel ops [] e2 e):dn c N U e2 h a w:=by
 obtain⟨S,β,γ,lam,ω,F⟩:=H;refine⟨S,β,γ,lam,ω,F.weak (fun t=>?_) (fun t g hg=>?_) (fun g z hz=>by rw[R.al]at hz;exact hz) (fun B n hB=>by rw[R.lb]at hB;exact hB)⟩
 ·rcases R.get t with h|⟨h1,h2,_⟩
  ·exact .inl (by rw[h])
  ·exact .inr ⟨by rw[h1];rfl,h2⟩
 ·rcases R.get t with h|⟨h1,_⟩
  ·rw[h]at hg;exact hg
  ·rw[h1]at hg;cases hg
theorem dn.eqE{c:Entry}{N:Nat}{U:Nat->Prop}{e2 e:Env}{h:Hp}{a:Act}{w:World}(H:dn c N U e h a w)(R:EqE e e2):dn c N U e2 h a w:=by
 obtain⟨S,β,γ,lam,ω,F⟩:=H;exact⟨S,β,γ,lam,ω,F.weak (fun t=>.inl (by rw[R.get])) (fun t g hg=>by rw[R.get]at hg;exact hg) (fun g z hz=>by rw[R.al]at hz;exact hz) (fun B n hB=>by rw[R.lb]at hB;exact hB)⟩
theorem dn.nx{c:Entry}{N:Nat}{U:Nat->Prop}{e:Env}{h:Hp}{a:Act}{w:World}(n:Nat)(H:dn c N U e h a w):dn c N U { e with nx:=n } h a w:=by
 obtain⟨S,β,γ,lam,ω,F⟩:=H;exact⟨S,β,γ,lam,ω,F.weak (fun t=>.inl rfl) (fun t g hg=>hg) (fun g z hz=>hz) (fun B n hB=>hB)⟩
section
variable {P:Program} {cx:Cx} {c:Entry} {e:Env} {h:Hp} {a:Act} {w:World} {ops:Array Oper} {id:Nat}
omit [Dr]in
theorem mH{n:Nat}(hn:n<=1000)(hd:fA n ops=true)(hk:∀p,uF (bv cx.ann.kinds p .L)=true->p<n):OpsOk n cx ops/\Small ops:=by
 unfold fA at hd;rw[Array.all_eq_true_iff_forall_mem]at hd;have h1:∀(i:Nat)(o:Oper),ops[i]? = some o->(∀t,o.dst=some t->t<n)/\∀t∈fm o,t<1000:=by
  intro i o ho
  have:=hd o (Array.mem_of_getElem? ho)
  simp only[FV,F9,F5]at this;refine⟨fun t ht=>?_,this.2⟩;have h2:=this.1;rw[ht]at h2;simpa using h2
 refine⟨⟨fun i o ho=>(h1 i o ho).1,fun i o ho x hx t hxt=>(h1 i o ho).2 t ?_,hk⟩,⟨fun i o ho t ht=>Gu ((h1 i o ho).1 t ht) hn,fun i o ho=>(h1 i o ho).2⟩⟩;subst hxt;exact HE.2 ⟨_,hx,rfl⟩
theorem vd{ρ:Type}(hT:TOK P cx.T)(hC:bC P cx.own cx.call)(hI:IsoCall cx)(hk:∀p,uF (bv cx.ann.kinds p .L)=true->p<cx.nt){draw:Bool}{k:Env->M ρ}(H:f9 c cx.nt e h a w)(hr:jU cx id ops draw e k h≠.fail){Q:Exit->Act->World->Prop}(hn:∀e' h' a' w',jU cx id ops draw e k h=k e' h'->f9 c cx.nt e' h' a' w'->a'.defers=a.defers->Q .normal a' w')(hp:∀pv h' v w' a',jU cx id ops draw e k h= .pan pv h'->ia c pv h' v w'->a'.defers=a.defers->Q (.panic [{ v,recovered:=false }]) a' w'):
  (Code.region id ops draw).wp P Q a w:=by
 have hN:cx.nt<=1000:=by obtain⟨S,β,γ,lam,ω,F⟩:=H;exact F.tsz.2
 have H0:dn c cx.nt (UD e.nx []) e h a w:=H.wider fun g hg=>.inl hg;unfold jU at hr hn hp;cases hds:fA cx.nt ops with
 |false=>rw[hds]at hr;exact absurd rfl hr
 | true=>
  obtain⟨hO,hS⟩:=mH (cx:=cx) hN hds hk;rw[hds]at hr hn hp;simp only[FW]at hr hn hp;cases draw with
  | false=>
   simp only[F0]at hr hn hp;obtain⟨hfl,hgs⟩:=fk ops (List.range ops.size);refine wp_region (nV hT hC hO (List.range ops.size) [] e h a w List.nodup_range (by simp) H0 ?_ ?_ ?_)
   all_goals
    have hseq:=fB (cx:=cx) (base:=e.nx) hS (ck ops (List.range ops.size)) e e _ h hgs (.refl ops _ e) hr;rw[hfl]at hseq
   ·rcases hseq with⟨_,_,_,_,h2,_⟩|⟨_,_,_,h2⟩<;>rw[h2]<;>simp
   ·intro e' h' a' w' hok hsat hdf;rcases hseq with⟨e2',e'',h'',h1,h2,hR⟩|⟨_,_,_,h2⟩
    ·rw[h2]at hok;cases hok;refine hn _ _ a' w' h1 (dn.nx _ ((hsat.wider (zj ?_)).rel hR)) hdf;intro i hi;simpa using hi
    ·rw[h2]at hok;cases hok
   ·intro pv h' v w' a' hok hps hdf;rcases hseq with⟨e2',e'',h'',h1,h2,hR⟩|⟨_,_,h1,h2⟩
    ·rw[h2]at hok;cases hok
    ·rw[h2]at hok;cases hok;exact hp _ _ v w' a' h1 hps hdf
  | true=>
   simp only[FW]at hr hn hp;generalize nN cx id ops.size=ord at hr hn hp;cases hdo:ij cx ops ord with
   |false=>rw[hdo]at hr;exact absurd rfl hr
   | true=>
    rw[hdo]at hr hn hp;simp only[FW]at hr hn hp;simp only[ij,xq,FV,F9,F5]at hdo;obtain⟨⟨⟨⟨⟨hlen,hmem⟩,hdist⟩,hlt⟩,hbits⟩,hpairs⟩:=hdo;have hlen':ord.length=ops.size:=F6 hlen;obtain⟨hpw,hself⟩:=ki (cx:=cx) (ops:=ops) hpairs;have hpw':ord.Pairwise (vu (dk cx) ops):=hpw;have hO':OpsOk cx.nt (dk cx) ops:=⟨hO.dst,hO.src,hO.kin⟩;obtain⟨hfl,hgs⟩:=fk ops ord;have hseq:=fB (cx:=dk cx) (base:=e.nx) hS (ck ops ord) e e _ h hgs (.refl ops _ e) hr;rw[hfl]at hseq;refine wp_region_draw fun t=>?_;have hsch:Region.schedule (P.follows .mixedOrders) ops t=Region.linearise .any ops t:=by
     simp only[Region.schedule,hT.mix,Bool.true_or,Gm]
    rw[hsch];have hmem':∀i,i∈ord↔i<ops.size:=fun i=>⟨fun hi=>hlt i hi,fun hi=>(ey _ _).1 (hmem i (by simpa using hi))⟩;refine wpAny_sound ops.size t _ a _ (pL (cx:=dk cx) (c:=c) (N:=cx.nt) (base:=e.nx) hT hC.draw hI.draw hO' hS ?_ ?_ ops.size ord (Array.replicate ops.size false) [] e h a w.drew hlen' (by simp) (gn hdist) ?_ (by simp) (by simp) ?_ hpw' ?_ ?_ ?_ ?_)
    ·intro i x hx;rcases Gd x ops.size with h'|h'
     ·exact h'
     ·have hm:(gh ops).getD i 0<2 ^ ops.size:=by
       rw[Gv];cases hi:(gh ops)[i]? with
       |none=>simp;exact Nat.pow_pos (by omega)
       |some m=>exact hbits m (GT hi)
      rw[Nat.testBit_lt_two_pow (Gu hm (Nat.pow_le_pow_right (by omega) h'))]at hx;cases hx
    ·exact fun i hi=>hself i ((hmem' i).2 hi)
    ·intro i;rw[hmem'];constructor
     ·intro hi;refine⟨hi,?_⟩;rw[Gn,Ij,FY hi];rfl
     ·exact fun hi=>hi.1
    ·intro j o ho hj;exfalso;rw[Gn,Ij]at hj;split at hj<;>simp at hj
    ·obtain⟨S,β,γ,lam,ω,F⟩:=H0;exact⟨S,β,γ,lam,ω,F.drew⟩
    ·rcases hseq with⟨_,_,_,_,h2,_⟩|⟨_,_,_,h2⟩<;>rw[h2]<;>simp
    ·intro e0 e' h' a' w' hok heq hsat hdf;rcases hseq with⟨e2',e'',h'',h1,h2,hR⟩|⟨_,_,_,h2⟩
     ·rw[h2]at hok;cases hok;exact hn _ _ a' w' h1 (dn.nx _ ((hsat.eqE heq.symm).rel hR)) hdf
     ·rw[h2]at hok;cases hok
    ·intro pv h' v w' a' hok hps hdf;rcases hseq with⟨e2',e'',h'',h1,h2,hR⟩|⟨_,_,h1,h2⟩
     ·rw[h2]at hok;cases hok
     ·rw[h2]at hok;cases hok;exact hp _ _ v w' a' h1 hps hdf
end
end Go.Av
namespace Go.Av
variable [Dr]
omit [Dr]in
theorem fR{e:Env}:∀(l:List (Nat×Option Nat))(used:List Nat)(vs:List AV),ez e l used=some vs->vs.length=l.length/\
  (∀(i:Nat)(t:Nat)(z:Option Nat),l[i]? = some (t,z)->∃a,vs[i]? = some a/\(e.get t).v= .val a/\∀sz,z=some sz->∃g z0,(e.get t).g=some g/\aA e.al g=some z0/\(z0=none\/z0=some sz)/\g ∉ used)/\
  ∀(i j:Nat)(t t' sz sz':Nat),i<j->l[i]? = some (t,some sz)->l[j]? = some (t',some sz')->(e.get t).g≠(e.get t').g
 |[],used,vs,h=>by
  simp only[ez,FU]at h;subst h;exact⟨rfl,by simp,by simp⟩
 | (t,none):: r,used,vs,h=>by
  simp only[ez]at h;split at h
  ·rename_i a ha;split at h
   ·rename_i vs' hvs;simp only[FU]at h;subst h;obtain⟨h1,h2,h3⟩:=fR r used vs' hvs;refine⟨by simp[h1],fun i t' z hi=>?_,fun i j t1 t2 sz1 sz2 hij hi hj=>?_⟩
    ·cases i with
     |zero=>
      simp only[Ga,FU,GN]at hi;obtain⟨rfl,rfl⟩:=hi;exact⟨a,rfl,ha,fun sz hsz=>by cases hsz⟩
     |succ i=>simpa using h2 i t' z (by simpa using hi)
    ·cases i with
     |zero=>simp at hi
     |succ i=>
      cases j with
      |zero=>omega
      |succ j=>exact h3 i j t1 t2 sz1 sz2 (by omega) (by simpa using hi) (by simpa using hj)
   ·cases h
  ·cases h
 | (t, some sz):: r,used,vs,h=>by
  simp only[ez]at h;split at h
  ·rename_i a g ha hg;split at h
   ·cases h
   ·rename_i z0 hz0;have hcond:o9 z0 (some sz)=true/\dw used g=false/\(match ez e r (g:: used)with|some vs=>some (a:: vs)|none=>none)=some vs:=by
     cases hm:dw used g with
     | true=>
      rw[hm]at h;cases z0 with
      |none=>cases h
      |some n=>
       simp only at h;cases hb:Nat.beq n sz<;>rw[hb]at h<;>cases h
     | false=>
      rw[hm]at h;cases z0 with
      |none=>exact⟨rfl,rfl,h⟩
      |some n=>
       simp only at h;cases hb:Nat.beq n sz with
       |true=>rw[hb]at h;exact⟨hb,rfl,h⟩
       |false=>rw[hb]at h;cases h
    obtain⟨hc1,hc2,h⟩:=hcond;have hc:=And.intro hc1 hc2
    ·split at h
     ·rename_i vs' hvs;simp only[FU]at h;subst h;have hgu:g ∉ used:=fun hm=>by
       rw[(ey _ _).2 hm]at hc;exact Bool.noConfusion hc.2
      have hz:z0=none\/z0=some sz:=by
       cases z0 with
       |none=>exact .inl rfl
       |some n=>exact .inr (by rw[F6 hc.1])
      obtain⟨h1,h2,h3⟩:=fR r (g:: used) vs' hvs;refine⟨by simp[h1],fun i t' z hi=>?_,fun i j t1 t2 sz1 sz2 hij hi hj=>?_⟩
      ·cases i with
       |zero=>
        simp only[Ga,FU,GN]at hi;obtain⟨rfl,rfl⟩:=hi;exact⟨a,rfl,ha,fun sz' hsz=>by cases hsz;exact⟨g,z0,hg,hz0,hz,hgu⟩⟩
       |succ i=>
        obtain⟨a',k1,k2,k3⟩:=h2 i t' z (by simpa using hi);refine⟨a',by simpa using k1,k2,fun sz' hsz=>?_⟩;obtain⟨g',z',m1,m2,m3,m4⟩:=k3 sz' hsz;exact⟨g',z',m1,m2,m3,fun hm=>m4 (by simp[hm])⟩
      ·cases i with
       | zero=>
        cases j with
        |zero=>omega
        |succ j=>
         simp only[Ga,FU,GN]at hi;obtain⟨rfl,_⟩:=hi;obtain⟨a',k1,k2,k3⟩:=h2 j t2 (some sz2) (by simpa using hj);obtain⟨g',z',m1,m2,m3,m4⟩:=k3 sz2 rfl;rw[hg,m1];intro hh;simp only[FU]at hh;exact m4 (by simp[hh])
       |succ i=>
        cases j with
        |zero=>omega
        |succ j=>exact h3 i j t1 t2 sz1 sz2 (by omega) (by simpa using hi) (by simpa using hj)
     ·cases h
  ·cases h
omit [Dr]in
theorem f7(vs:List AV)(r:List (Nat×Ent))(t:Nat):∀(l:List (Nat×Option Nat))(k:Nat),
  (∃(i:Nat)(z:Option Nat),l[i]? = some (t,z)/\bg (bM vs k l++r) t=⟨.val (nth vs (k+i)),z.map fun _=>k+i⟩)\/
  ((∀(i:Nat)(z:Option Nat),l[i]? ≠some (t,z))/\bg (bM vs k l++r) t=bg r t)
 |[],k=>.inr ⟨by simp,rfl⟩
 | (s,z):: l,k=>by
  have hh:bM vs k ((s,z):: l)=(s,⟨.val (nth vs k),z.map fun _=>k⟩):: bM vs (k+1) l:=by cases z<;>rfl
  rw[hh,GH,bu];by_cases hs:s=t
  ·subst hs;rw[FY rfl];exact .inl ⟨0,z,rfl,rfl⟩
  ·rw[if_neg hs];rcases f7 vs r t l (k+1)with⟨i,z',h1,h2⟩|⟨h1,h2⟩
   ·refine .inl ⟨i+1,z',by simpa using h1,?_⟩;rw[h2,show k+1+i=k+(i+1) by omega]
   ·refine .inr ⟨fun i z' hi=>?_,h2⟩;cases i with
    |zero=>simp at hi;exact hs hi.1
    |succ i=>exact h1 i z' (by simpa using hi)
omit [Dr]in
theorem eo:∀(l:List (Nat×Option Nat))(k g:Nat)(y:Option Nat),aA (fH k l) g=some y->∃(i t sz:Nat),l[i]? = some (t,some sz)/\g=k+i/\y=some sz
 |[],k,g,y,h=>by simp[fH,aA]at h
 |(s,none):: l,k,g,y,h=>by
  obtain⟨i,t,sz,h1,h2,h3⟩:=eo l (k+1) g y h;exact⟨i+1,t,sz,by simpa using h1,by omega,h3⟩
 | (s,some n):: l,k,g,y,h=>by
  simp only[fH,bj]at h;split at h
  ·rename_i hk;simp only[FU]at h;exact⟨0,s,n,rfl,by omega,h.symm⟩
  ·obtain⟨i,t,sz,h1,h2,h3⟩:=eo l (k+1) g y h;exact⟨i+1,t,sz,by simpa using h1,by omega,h3⟩
omit [Dr]in
theorem jt(t:Nat):∀(l:List (Nat×Nat×Nat)),(∃B off,(t,B,off)∈l/\bg (l.map fun x=>(x.1,(⟨.loc x.2.1 x.2.2,none⟩:Ent))) t=⟨.loc B off,none⟩)\/bg (l.map fun x=>(x.1,(⟨.loc x.2.1 x.2.2,none⟩:Ent))) t=Ent.none
 |[]=>.inr rfl
 | (s,B,off):: l=>by
  rw[GL,bu];by_cases hs:s=t
  ·subst hs;rw[FY rfl];exact .inl ⟨B,off,by simp,rfl⟩
  ·rw[if_neg hs];rcases jt t l with⟨B',off',h1,h2⟩|h
   ·exact .inl ⟨B',off',by simp[h1],h2⟩
   ·exact .inr h
omit [Dr]in
theorem lT{e:Env}:∀ {l:List (Nat×Nat×Nat)},lS e l=true->∀t B off,(t,B,off)∈l->(e.get t).v= .loc B off
 |[],_,t,B,off,h=>by simp at h
 | (s,B0,off0):: l,h,t,B,off,hm=>by
  simp only[lS,FV]at h;simp only[Gp,GN]at hm;rcases hm with⟨rfl,rfl,rfl⟩|hm
  ·have h1:=h.1;split at h1
   ·rename_i B' off' hv;simp only[FV]at h1;rw[hv,F6 h1.1,F6 h1.2]
   ·cases h1
  ·exact lT h.2 t B off hm
omit [Dr]in
theorem nD{e:Env}:∀ {l:List (Nat×Nat)},qw e l=true->∀B n,aW l B=some n->aW e.lb B=some n
 |[],_,B,n,h=>by simp[aW]at h
 | (B0,n0):: l,h,B,n,hm=>by
  simp only[qw,FV]at h;rw[cF]at hm;split at hm
  ·rename_i hB;subst hB;simp only[FU]at hm;subst hm;have h1:=h.1;split at h1
   ·rename_i m hv;rw[hv,F6 h1]
   ·cases h1
  ·exact nD h.2 B n hm
section
variable {c:Entry} {N:Nat} {e:Env} {h:Hp} {a:Act} {w:World}
open Classical in
theorem pd{ja:JA}{vs:List AV}(H:f9 c N e h a w)(hp:pack ja e=some vs):f9 c N (unpack ja vs) h a w:=by
 obtain⟨S,β,γ,lam,ω,F⟩:=H;unfold pack at hp;cases hlo:(lS e ja.locs&&qw e ja.lbs)with
 |false=>rw[hlo]at hp;cases hp
 | true=>
  rw[hlo]at hp;simp only[FW]at hp;simp only[FV]at hlo;obtain⟨hlen,hval,hdis⟩:=fR ja.vals [] vs hp
  -- the groups carried
  let gOf:Nat->Option Nat:=fun i=>match ja.vals[i]? with|some (t,some _)=>(e.get t).g|_=>none
  have hg1:∀i t sz,ja.vals[i]? = some (t,some sz)->∃g z0,gOf i=some g/\(e.get t).g=some g/\aA e.al g=some z0/\(z0=none\/z0=some sz):=by
   intro i t sz hi;obtain⟨a',_,_,h3⟩:=hval i t (some sz) hi;obtain⟨g,z0,k1,k2,k3,_⟩:=h3 sz rfl;refine⟨g,z0,?_,k1,k2,k3⟩;show (match ja.vals[i]? with|some (t,some _)=>(e.get t).g|_=>none)=some g;rw[hi];exact k1
  have hg2:∀i j g,gOf i=some g->gOf j=some g->i=j:=by
   have hex:∀i g,gOf i=some g->∃t sz,ja.vals[i]? = some (t,some sz)/\(e.get t).g=some g:=by
    intro i g hi;have hi':(match ja.vals[i]? with|some (t,some _)=>(e.get t).g|_=>none)=some g:=hi;split at hi'
    ·rename_i t sz ht;exact⟨t,sz,ht,hi'⟩
    ·cases hi'
   intro i j g hi hj;obtain⟨t,sz,k1,k2⟩:=hex i g hi;obtain⟨t',sz',m1,m2⟩:=hex j g hj;rcases Nat.lt_trichotomy i j with hlt|heq|hlt
   ·exact absurd (k2.trans m2.symm) (hdis i j t t' sz sz' hlt k1 m1)
   ·exact heq
   ·exact absurd (m2.trans k2.symm) (hdis j i t' t sz' sz hlt m1 k1)
  let γ':Nat->Value:=fun i=>match gOf i with|some g=>γ g|none=>undef
  let ω':Nat->Owner:=fun b=>match ω b with
   |.grp g=>if hx:∃i,gOf i=some g then .grp (Classical.choose hx)else .no
   |o=>o
  have hωg:∀b g i,ω b= .grp g->gOf i=some g->ω' b= .grp i:=by
   intro b g i hb hi;show (match ω b with|.grp g=>if hx:∃i,gOf i=some g then Owner.grp (Classical.choose hx)else .no|o=>o)= .grp i;rw[hb];simp only;have hx:∃i,gOf i=some g:=⟨i,hi⟩;rw[dif_pos hx,hg2 _ _ g (HR hx) hi]
  have hωo:∀b,(∀g,ω b≠.grp g)->ω' b=ω b:=by
   intro b hb;show (match ω b with|.grp g=>if hx:∃i,gOf i=some g then Owner.grp (Classical.choose hx)else .no|o=>o)=ω b;cases ho:ω b with
   |grp g=>exact absurd ho (hb g)
   |_=>rfl
  have hωn:∀b,ω' b≠.no->ω b≠.no:=by
   intro b hb ho;refine hb ?_;rw[hωo b (fun g hg=>by rw[ho]at hg;cases hg),ho]
  have hωx:∀b g,ω' b= .grp g->∃g',ω b= .grp g':=by
   intro b g hg;cases ho:ω b with
   |grp g'=>exact⟨g',rfl⟩
   |_=>rw[hωo b (fun g' h'=>by rw[ho]at h';cases h'),ho]at hg;cases hg
  -- the slots
  have hget:∀t,(∃(i:Nat)(z:Option Nat)(a':AV),ja.vals[i]? = some (t,z)/\(e.get t).v= .val a'/\(unpack ja vs).get t=⟨.val a',z.map fun _=>i⟩)\/(∃B off,(e.get t).v= .loc B off/\(unpack ja vs).get t=⟨.loc B off,none⟩)\/(unpack ja vs).get t=Ent.none:=by
   intro t;have hu:(unpack ja vs).get t=bg (bM vs 0 ja.vals++ja.locs.map fun x=>(x.1,(⟨.loc x.2.1 x.2.2,none⟩:Ent))) t:=rfl;rcases f7 vs (ja.locs.map fun x=>(x.1,(⟨.loc x.2.1 x.2.2,none⟩:Ent))) t ja.vals 0 with⟨i,z,h1,h2⟩|⟨h1,h2⟩
   ·obtain⟨a',k1,k2,_⟩:=hval i t z h1;refine .inl ⟨i,z,a',h1,k2,?_⟩;rw[hu,h2,GP];have:nth vs i=a':=by simp[nth,k1]
    rw[this]
   ·rcases jt t ja.locs with⟨B,off,k1,k2⟩|k
    ·exact .inr (.inl ⟨B,off,lT hlo.1 t B off k1,by rw[hu,h2,k2]⟩)
    ·exact .inr (.inr (by rw[hu,h2,k]))
  have hgg:∀t g,((unpack ja vs).get t).g=some g->∃sz,ja.vals[g]? = some (t,some sz):=by
   intro t g hg;rcases hget t with⟨i,z,a',h1,_,h3⟩|⟨_,_,_,h3⟩|h3
   ·rw[h3]at hg;cases z with
    |none=>simp at hg
    |some sz=>simp at hg;subst hg;exact⟨sz,h1⟩
   ·rw[h3]at hg;cases hg
   ·rw[h3]at hg;cases hg
  have hγ:∀t g,((unpack ja vs).get t).g=some g->∃g0 z0,(e.get t).g=some g0/\aA e.al g0=some z0/\γ' g=γ g0:=by
   intro t g hg;obtain⟨sz,h1⟩:=hgg t g hg;obtain⟨g0,z0,k1,k2,k3,_⟩:=hg1 g t sz h1;refine⟨g0,z0,k2,k3,?_⟩;show (match gOf g with|some g=>γ g|none=>undef)=γ g0;rw[k1]
  refine⟨S,β,γ',lam,ω',⟨F.wf,F.gro,F.keep,F.le,F.ext,F.hlen,fun l cs hl hcs=>?_,F.tsz,fun t ht=>?_,fun t g z ht hg hz=>?_,fun B n hB=>?_,fun g z hz=>?_,fun b hb=>⟨(F.mine b (hωn b hb)).1.imp (fun hE=>⟨hE.1,fun g hg=>by obtain⟨g',h'⟩:=hωx b g hg;exact hE.2 g' h'⟩) id,(F.mine b (hωn b hb)).2⟩,fun t g hg=>?_,fun g z hz=>?_⟩⟩
  ·rcases F.heap l cs hl hcs with⟨b,x,h1,h2,h3,h4⟩|⟨b,h1,h3,h4⟩
   ·exact .inl ⟨b,x,h1,h2,by rw[hωo b (fun g hg=>by rw[h3]at hg;cases hg)];exact h3,h4⟩
   ·exact .inr ⟨b,h1,by rw[hωo b (fun g hg=>by rw[h3]at hg;cases hg)];exact h3,h4⟩
  ·have hs:=F.slots t ht;rcases hget t with⟨i,z,a',_,h2,h3⟩|⟨B,off,h2,h3⟩|h3
   ·rw[h3];rw[h2]at hs;exact hs
   ·rw[h3];rw[h2]at hs;exact hs
   ·rw[h3];simp[Ent.none,dA,VR]
  ·obtain⟨g0,z0,k1,k2,k3⟩:=hγ t g hg;rw[k3];exact F.grps t g0 z0 ht k1 k2
  ·obtain⟨k1,k2,k3,b,x,k4,k5,k6,k7,k8⟩:=F.lblk B n (nD hlo.2 B n hB);refine⟨k1,k2,k3,b,x,k4,k5,by rw[hωo b (fun g hg=>by rw[k6]at hg;cases hg)];exact k6,k7,fun i hi=>?_⟩;obtain⟨v,a',m1,m2,m3,m4⟩:=k8 i hi;have hgr:∀g z,((unpack ja vs).get (B+i)).g=some g->aA (unpack ja vs).al g=some z->v=γ' g:=by
    intro g z hg _;obtain⟨g0,z0,p1,p2,p3⟩:=hγ _ g hg;rw[p3];exact m4 g0 z0 p1 p2
   rcases hget (B+i)with⟨j,z,a2,_,h2,h3⟩|⟨B',off,h2,h3⟩|h3
   ·refine⟨v,a2,m1,by rw[h3],?_,hgr⟩;rw[m2]at h2;cases h2;exact m3
   ·rw[m2]at h2;cases h2
   ·exact⟨v,.any,m1,by rw[h3];rfl,by simp[VR],hgr⟩
  ·obtain⟨i,t,sz,h1,h2,h3⟩:=eo ja.vals 0 g z hz;rw[GP]at h2;subst h2;obtain⟨g0,z0,k1,k2,k3,k4⟩:=hg1 g t sz h1;have hγ':γ' g=γ g0:=by
    show (match gOf g with|some g=>γ g|none=>undef)=γ g0;rw[k1]
   rw[hγ'];obtain⟨ad,len,cap,m1,m2,m3,m4⟩:=F.free g0 z0 k3;refine⟨ad,len,cap,m1,m2,m3,m4.imp id ?_⟩;rintro⟨sz',b,off,x,p1,p2,p3,p4,p5,p6⟩;have:sz'=sz:=by
    rcases k4 with k4|k4<;>rw[k4]at p1<;>cases p1;rfl
   subst this;exact⟨sz',b,off,x,h3,p2,p3,p4,hωg b g0 g p5 k1,p6⟩
  ·obtain⟨sz,h1⟩:=hgg t g hg;have:g<ja.vals.length:=by
    rcases Gd g ja.vals.length with h|h
    ·exact h
    ·rw[F8 h]at h1;cases h1
   show g<ja.vals.length*1000;omega
  ·obtain⟨i,t,sz,h1,h2,h3⟩:=eo ja.vals 0 g z hz;have:i<ja.vals.length:=by
    rcases Gd i ja.vals.length with h|h
    ·exact h
    ·rw[F8 h]at h1;cases h1
   show g<ja.vals.length*1000;omega
omit [Dr]in
theorem yK(d:Nat)(h:Hp):ka d h .any= .any:=by cases d<;>rfl
omit [Dr]in
theorem tH(g:AV->AV)(hg:g .any= .any)(vs:List AV)(i:Nat):nth (vs.map g) i=g (nth vs i):=by
 unfold nth;rw[Gv,Gv,GW];cases vs[i]? with
 |none=>simp[hg]
 |some v=>rfl
structure Reval (g:AV->AV) (x y:Ent):Prop where
 gr:y.g=x.g
 v:(∃a,x.v= .val a/\y.v= .val (g a))\/(∃B off,x.v= .loc B off/\y.v= .loc B off)
omit [Dr]in
theorem ee(g:AV->AV)(hg:g .any= .any)(vs:List AV)(r:List (Nat×Ent))(hr:∀t,Reval g (bg r t) (bg r t))(t:Nat):∀(l:List (Nat×Option Nat))(k:Nat),
  Reval g (bg (bM vs k l++r) t) (bg (bM (vs.map g) k l++r) t)
 |[],k=>by simpa [bM]using hr t
 |(s,none):: l,k=>by
  simp only[bM,GH,bg];cases Nat.beq s t with
  |true=>exact⟨rfl,.inl ⟨_,rfl,by simp only[FW];rw[tH g hg]⟩⟩
  |false=>exact ee g hg vs r hr t l (k+1)
 |(s,some z):: l,k=>by
  simp only[bM,GH,bg];cases Nat.beq s t with
  |true=>exact⟨rfl,.inl ⟨_,rfl,by simp only[FW];rw[tH g hg]⟩⟩
  |false=>exact ee g hg vs r hr t l (k+1)
omit [Dr]in
theorem pc(g:AV->AV)(hg:g .any= .any)(ja:JA)(vs:List AV)(t:Nat):Reval g ((unpack ja vs).get t) ((unpack ja (vs.map g)).get t):=by
 refine ee g hg vs _ (fun t=>?_) t ja.vals 0;rcases jt t ja.locs with⟨B,off,_,k2⟩|k
 ·rw[k2];exact⟨rfl,.inr ⟨B,off,rfl,rfl⟩⟩
 ·rw[k];exact⟨rfl,.inl ⟨.any,rfl,by simp[Ent.none,hg]⟩⟩
theorem FR.reval{U:Nat->Prop}{S:am}{β:List a7}{γ:Nat->Value}{lam:Nat->Option Nat}{ω:Nat->Owner}{e2:Env}{h2:Hp}{S2:am}{ω2:Nat->Owner}{g:AV->AV}(F:FR c N U e h a w S β γ lam ω)(F2:FR c N U e h2 a w S2 β γ lam ω2)(hg:∀x v,VR S β x v->VR S2 β (g x) v)(hr:∀t,Reval g (e.get t) (e2.get t))(hal:e2.al=e.al)(hlb:e2.lb=e.lb):FR c N U e2 h2 a w S2 β γ lam ω2:=by
 refine⟨F2.wf,F2.gro,F2.keep,F2.le,F2.ext,F2.hlen,F2.heap,F2.tsz,fun t ht=>?_,fun t k z ht hk hz=>?_,fun B n hB=>?_,fun k z hz=>F2.free k z (by rw[<- hal];exact hz),F2.mine,fun t k hk=>?_,fun k z hz=>F2.used.2 k z (by rw[<- hal];exact hz)⟩
 ·have h1:=F.slots t ht;rcases (hr t).v with⟨x,q1,q2⟩|⟨B,off,q1,q2⟩
  ·rw[q1]at h1;rw[q2];exact hg _ _ h1
  ·rw[q1]at h1;rw[q2];exact h1
 ·rw[(hr t).gr]at hk;rw[hal]at hz;exact F2.grps t k z ht hk hz
 ·rw[hlb]at hB;obtain⟨k1,k2,k3,b,x,k4,k5,k6,k7,k8⟩:=F2.lblk B n hB;obtain⟨_,_,_,b',x',j4,j5,j6,j7,j8⟩:=F.lblk B n hB;rw[k4]at j4;cases j4;cases k5.inj j5;refine⟨k1,k2,k3,b,x,k4,k5,k6,k7,fun i hi=>?_⟩;obtain⟨v,a',m1,m2,m3,m4⟩:=k8 i hi;obtain⟨v',a'',n1,n2,n3,_⟩:=j8 i hi;rw[m1]at n1;cases n1;rcases (hr (B+i)).v with⟨y,q1,q2⟩|⟨B',off,q1,q2⟩
  ·rw[n2]at q1;cases q1;refine⟨v,g a'',m1,q2,hg _ _ n3,fun k z hk hz=>?_⟩;rw[(hr (B+i)).gr]at hk;rw[hal]at hz;exact m4 k z hk hz
  ·rw[n2]at q1;cases q1
 ·rw[(hr t).gr]at hk;exact F2.used.1 t k hk
theorem mJ{ja:JA}{vs:List AV}(H:f9 c N (unpack ja vs) h a w):f9 c N (unpack ja (vs.map (ka 6 h))) (h.map fun _=>[]) a w:=by
 obtain⟨S,β,γ,lam,ω,F⟩:=H;obtain⟨S2,ω2,F2,hf⟩:=F.freeze;have F3:=F.reval F2 (g:=ka 6 h) (fun x v hx=>hf _ _ hx) (pc _ (yK 6 h) ja vs) (e2:=unpack ja (vs.map (ka 6 h))) rfl rfl;exact⟨S2,β,γ,lam,ω2,F3⟩
end
end Go.Av
namespace Go.Av
variable [Dr]
section
variable {P:Program} {cx:Cx} {c:Entry} {e:Env} {h:Hp} {a:Act} {w:World} {ops:Array Oper} {id:Nat}
theorem sF{ρ:Type}(hT:TOK P cx.T)(hC:bC P cx.own cx.call)(hI:IsoCall cx)(hk:∀p,uF (bv cx.ann.kinds p .L)=true->p<cx.nt){draw:Bool}{k:Env->M ρ}(H:f9 c cx.nt e h a w)(hr:jk cx id ops draw e k h≠.fail){Q:Exit->Act->World->Prop}(hn:∀e' h' a' w',jk cx id ops draw e k h=k e' h'->f9 c cx.nt e' h' a' w'->a'.defers=a.defers->Q .normal a' w')(hp:∀pv h' v w' a',jk cx id ops draw e k h= .pan pv h'->ia c pv h' v w'->a'.defers=a.defers->Q (.panic [{ v,recovered:=false }]) a' w'):
  (Code.region id ops draw).wp P Q a w:=vd hT hC hI hk H hr hn hp
end
end Go.Av
namespace Go.Av
variable [Dr]
section
variable {P:Program} {Q:Exit->Act->World->Prop} {b:Code}
def ge(P:Program)(c:Code)(Q:Exit->Act->World->Prop)(a:Act)(w:World):Prop:=
 ∀(b:Frame)(k:List Item)(cs:List Frame),∃e a' w',Q e a' w'/\Arrives P (lone (b.at a (.code c:: .inLoop c:: k)) cs w) b k cs e a' w'
omit [Dr]in
theorem ge.loop{a:Act}{w:World}(h:ge P b Q a w):(Code.loop b).wp P Q a w:=
 fun f k cs=>let ⟨e,a',w',q,r⟩:=h f k cs;⟨e,a',w',q,.of_steps (.one step_loop) r⟩
omit [Dr]in
theorem FP{a:Act}{w:World}(h:b.wp P (Exit.then (ge P b Q) Q) a w):ge P b Q a w:=by
 intro f k cs;obtain⟨e,a₁,w₁,hq,harr⟩:=h f (.inLoop b:: k) cs;cases e with
 |normal=>
  obtain⟨e₂,a₂,w₂,hq₂,harr₂⟩:=hq f k cs;exact⟨e₂,a₂,w₂,hq₂,.of_steps (Steps.trans harr (.one step_inLoop)) harr₂⟩
 |exit id=>exact⟨_,a₁,w₁,hq,.pass (x:=.inLoop b) rfl (fun _ _=>.inl (by simp)) harr⟩
 |goto l=>exact⟨_,a₁,w₁,hq,.pass (x:=.inLoop b) rfl (fun _ _=>.inl (by simp)) harr⟩
 |ret=>exact⟨_,a₁,w₁,hq,.pass (x:=.inLoop b) rfl (fun _ _=>.inl (by simp)) harr⟩
 |panic ch=>exact⟨_,a₁,w₁,hq,.pass (x:=.inLoop b) rfl (fun _ _=>.inl (by simp)) harr⟩
 |outgrown=>exact⟨_,a₁,w₁,hq,.pass (x:=.inLoop b) rfl (fun _ _=>.inl (by simp)) harr⟩
end
section
variable {P:Program} {cx:Cx} {c:Entry} {ρ:Type}
omit [Dr]in
theorem wA{fx:cr ρ}{id:Nat}{code:Code}{e:Env}{kn kr:Env->M ρ}{kx:Nat->Env->M ρ}(hc:∀b,code≠.loop b):
  ev cx fx (.block id code) e kn kx kr=ev cx fx code e kn (fun i e'=>bif Nat.beq i id then kn e' else kx i e') kr:=by
 cases code<;>first|rfl|exact absurd rfl (hc _)
def r9(cx:Cx)(x:Code):Option JA:=match iA x with
 |some t=>jY cx.ann.joins t
 |none=>none
omit [Dr]in
theorem Bi{fx:cr ρ}{x y:Code}{e:Env}{kn kr:Env->M ρ}{kx:Nat->Env->M ρ}:ev cx fx (.seq x y) e kn kx kr=(match r9 cx x with
  |some ja=>jn (fun vs=>ev cx fx y (unpack ja vs) kn kx kr) fun j=>ev cx fx x e (mw ja j) kx kr
  |none=>ev cx fx x e (fun e'=>ev cx fx y e' kn kx kr) kx kr):=by
 unfold r9;simp only[ev];cases iA x with
 |none=>rfl
 |some t=>
  simp only;cases jY cx.ann.joins t<;>rfl
structure Posts (c:Entry) (N:Nat) (r:R ρ) (a:Act) (kn:Env->M ρ) (kx:Nat->Env->M ρ) (kr:Env->M ρ) (Q:Exit->Act->World->Prop):Prop where
 nrm:∀e' h' a' w',r=kn e' h'->f9 c N e' h' a' w'->a'.defers=a.defers->Q .normal a' w'
 ext:∀i e' h' a' w',r=kx i e' h'->f9 c N e' h' a' w'->a'.defers=a.defers->Q (.exit i) a' w'
 ret:∀e' h' a' w',r=kr e' h'->f9 c N e' h' a' w'->a'.defers=a.defers->Q .ret a' w'
 pan:∀pv h' v w' a',r= .pan pv h'->ia c pv h' v w'->a'.defers=a.defers->Q (.panic [{ v,recovered:=false }]) a' w'
theorem pb{ja:JA}{j:List AV->M ρ}{e:Env}{h:Hp}{N:Nat}{a:Act}{w:World}(H:f9 c N e h a w)(hr:mw ja j e h≠.fail):∃vs h',mw ja j e h=j vs h'/\f9 c N (unpack ja vs) h' a w:=by
 unfold mw at hr |-;cases hp:pack ja e with
 |none=>rw[hp]at hr;exact absurd rfl hr
 |some vs=>
  have hs:=pd H hp;simp only;cases ja.fz with
  |false=>exact⟨vs,h,rfl,hs⟩
  |true=>exact⟨_,_,rfl,mJ hs⟩
theorem wB(hT:TOK P cx.T)(hC:bC P cx.own cx.call)(hI:IsoCall cx)(hk:∀p,uF (bv cx.ann.kinds p .L)=true->p<cx.nt)(m:Nat):∀(n:Nat)(code:Code),SizeOf.sizeOf code<n->
  ∀(e:Env)(h:Hp)(a:Act)(w:World)(kn:Env->M ρ)(kx:Nat->Env->M ρ)(kr:Env->M ρ)(Q:Exit->Act->World->Prop),f9 c cx.nt e h a w->ev cx (bZ m) code e kn kx kr h≠.fail->
  Posts c cx.nt (ev cx (bZ m) code e kn kx kr h) a kn kx kr Q->code.wp P Q a w:=by
 intro n
 induction n with
 |zero=>intro code hn;omega
 | succ n ih=>
  intro code hn e h a w kn kx kr Q H hr hp;cases code<;>(try exact absurd rfl hr)
  case skip=>exact wp_skip (hp.nrm e h a w rfl H rfl)
  case exit id=>exact wp_exit (hp.ext id e h a w rfl H rfl)
  case ret=>exact wp_ret (hp.ret e h a w rfl H rfl)
  case region id ops draw=>exact sF hT hC hI hk H hr hp.nrm hp.pan
  case seq x y=>
   have hx:SizeOf.sizeOf x<n:=by simp at hn;omega
   have hy:SizeOf.sizeOf y<n:=by simp at hn;omega
   refine wp_seq ?_;rw[Bi]at hr hp;generalize r9 cx x=oj at hr hp;cases oj with
   |none=>
    simp only at hr hp;refine ih x hx e h a w _ kx kr _ H hr ⟨fun e' h' a' w' hok hs hd=>?_,fun i e' h' a' w' hok hs hd=>hp.ext i e' h' a' w' hok hs hd,fun e' h' a' w' hok hs hd=>hp.ret e' h' a' w' hok hs hd,fun pv h' v w' a' hok hs hd=>hp.pan pv h' v w' a' hok hs hd⟩;rw[hok]at hr hp;exact ih y hy e' h' a' w' kn kx kr Q hs hr ⟨fun e2 h2 a2 w2 k1 k2 k3=>hp.nrm e2 h2 a2 w2 k1 k2 (k3.trans hd),fun i e2 h2 a2 w2 k1 k2 k3=>hp.ext i e2 h2 a2 w2 k1 k2 (k3.trans hd),fun e2 h2 a2 w2 k1 k2 k3=>hp.ret e2 h2 a2 w2 k1 k2 (k3.trans hd),fun pv h2 v w2 a2 k1 k2 k3=>hp.pan pv h2 v w2 a2 k1 k2 (k3.trans hd)⟩
   |some ja=>
    simp only[jn]at hr hp;refine ih x hx e h a w _ kx kr _ H hr ⟨fun e' h' a' w' hok hs hd=>?_,fun i e' h' a' w' hok hs hd=>hp.ext i e' h' a' w' hok hs hd,fun e' h' a' w' hok hs hd=>hp.ret e' h' a' w' hok hs hd,fun pv h' v w' a' hok hs hd=>hp.pan pv h' v w' a' hok hs hd⟩;rw[hok]at hr hp;obtain⟨vs,h3,hj,hs3⟩:=pb hs hr;rw[hj]at hr hp;exact ih y hy (unpack ja vs) h3 a' w' kn kx kr Q hs3 hr ⟨fun e2 h2 a2 w2 k1 k2 k3=>hp.nrm e2 h2 a2 w2 k1 k2 (k3.trans hd),fun i e2 h2 a2 w2 k1 k2 k3=>hp.ext i e2 h2 a2 w2 k1 k2 (k3.trans hd),fun e2 h2 a2 w2 k1 k2 k3=>hp.ret e2 h2 a2 w2 k1 k2 (k3.trans hd),fun pv h2 v w2 a2 k1 k2 k3=>hp.pan pv h2 v w2 a2 k1 k2 (k3.trans hd)⟩
  case cond o x y=>
   have hx:SizeOf.sizeOf x<n:=by simp at hn;omega
   have hy:SizeOf.sizeOf y<n:=by simp at hn;omega
   cases o<;>(try exact absurd rfl hr)
   case const v=>
    simp only[ev]at hr hp
    have hav:∀b,cA v= .bool b->a.eval (.const v)= .bool b:=by
     intro b hb;show v= .bool b;cases v with
     |bool c=>simp only[cA,s5,AV.bool.injEq]at hb;rw[hb]
     |tuple vs=>simp only[cA]at hb;cases hvs:vs.isEmpty<;>rw[hvs]at hb<;>cases hb
     |pointer p=>cases p<;>(simp only[cA,s5]at hb;cases hb)
     |map p=>cases p<;>(simp only[cA,s5]at hb;cases hb)
     | slice p n m=>
      have hs:s5 (.slice p n m)= .sl []\/s5 (.slice p n m)= .any:=by
       cases p with
       |some q=>exact .inr rfl
       | none=>cases n with
        |succ n=>exact .inr rfl
        |zero=>cases m with
         |succ m=>exact .inr rfl
         |zero=>exact .inl rfl
      simp only[cA]at hb;rcases hs with hs|hs<;>rw[hs]at hb<;>cases hb
     |_=>simp only[cA,s5]at hb;cases hb
    cases hq:cA v<;>rw[hq]at hr hp<;>(try exact absurd rfl hr);rename_i b;cases b with
    |true=>exact wp_cond (hav true hq) (ih x hx e h a w kn kx kr Q H hr hp)
    |false=>exact wp_cond (hav false hq) (ih y hy e h a w kn kx kr Q H hr hp)
   rename_i t;simp only[ev]at hr hp;cases ht:decide (t<1000)with
   |false=>rw[ht]at hr;exact absurd rfl hr
   | true=>
    rw[ht]at hr hp;simp only[FW]at hr hp;have htl:t<1000:=by simpa using ht
    have hav:∀b,e.av t= .bool b->a.eval (.tmp t)= .bool b:=by
     intro b hb;obtain⟨S,β,γ,lam,ω,F⟩:=H;have hs:=F.slots t htl;simp only[Env.av,Ent.av]at hb;cases hv:(e.get t).v with
     |val av=>
      rw[hv]at hs hb;simp only at hb;subst hb;simp only[dA,VR]at hs;exact hs
     |loc B off=>rw[hv]at hb;cases hb
    cases hq:e.av t<;>rw[hq]at hr hp<;>(try exact absurd rfl hr);rename_i b;cases b with
    |true=>exact wp_cond (hav true hq) (ih x hx e h a w kn kx kr Q H hr hp)
    |false=>exact wp_cond (hav false hq) (ih y hy e h a w kn kx kr Q H hr hp)
  case block id code=>
   refine wp_block ?_;by_cases hc:∃b,code= .loop b
   ·obtain⟨b,rfl⟩:=hc;have hb:SizeOf.sizeOf b<n:=by simp at hn;omega
    simp only[ev]at hr hp;cases hja:jY cx.ann.loops id with
    |none=>rw[hja]at hr;exact absurd rfl hr
    | some ja=>
     rw[hja]at hr hp;simp only at hr hp;refine ge.loop ?_;obtain⟨vs,h3,hj,hs3⟩:=pb H hr;rw[hj]at hr hp;have key:∀(k:Nat)(vs:List AV)(h:Hp)(a1:Act)(w:World),f9 c cx.nt (unpack ja vs) h a1 w->a1.defers=a.defers->
       bZ k (fun self vs=>ev cx (bZ m) b (unpack ja vs) (mw ja self) (fun i e'=>bif Nat.beq i id then kn e' else kx i e') kr) vs h≠.fail->
       Posts c cx.nt (bZ k (fun self vs=>ev cx (bZ m) b (unpack ja vs) (mw ja self) (fun i e'=>bif Nat.beq i id then kn e' else kx i e') kr) vs h) a kn kx kr Q->ge P b (Exit.inBlock id Q) a1 w:=by
      intro k
      induction k with
      |zero=>intro vs h a1 w _ _ hr _;exact absurd rfl hr
      | succ k ihk=>
       intro vs h a1 w hs hd hr hp;simp only[bZ]at hr hp;refine FP (ih b hb (unpack ja vs) h a1 w _ _ kr _ hs hr ⟨fun e' h' a' w' hok hs' hd'=>?_,fun i e' h' a' w' hok hs' hd'=>?_,fun e' h' a' w' hok hs' hd'=>hp.ret e' h' a' w' hok hs' (hd'.trans hd),fun pv h' v w' a' hok hs' hd'=>hp.pan pv h' v w' a' hok hs' (hd'.trans hd)⟩)
       ·rw[hok]at hr hp;obtain⟨vs',h4,hj',hs4⟩:=pb hs' hr;rw[hj']at hr hp;exact ihk vs' h4 a' w' hs4 (hd'.trans hd) hr hp
       ·cases hi:Nat.beq i id with
        |true=>
         rw[hi]at hok
         have:=F6 hi
         subst this;show Exit.inBlock i Q (.exit i) a' w';simp only[Exit.inBlock,Gm];exact hp.nrm e' h' a' w' hok hs' (hd'.trans hd)
        |false=>
         rw[hi]at hok;have hne:i≠id:=fun hh=>by subst hh;simp at hi
         show Exit.inBlock id Q (.exit i) a' w';simp only[Exit.inBlock,if_neg hne];exact hp.ext i e' h' a' w' hok hs' (hd'.trans hd)
     exact key m vs h3 a w hs3 rfl hr hp
   ·have hc':∀b,code≠.loop b:=fun b hb=>hc ⟨b,hb⟩;rw[wA hc']at hr hp;have hs:SizeOf.sizeOf code<n:=by simp at hn;omega
    refine ih code hs e h a w kn _ kr _ H hr ⟨fun e' h' a' w' hok hs' hd'=>hp.nrm e' h' a' w' hok hs' hd',fun i e' h' a' w' hok hs' hd'=>?_,fun e' h' a' w' hok hs' hd'=>hp.ret e' h' a' w' hok hs' hd',fun pv h' v w' a' hok hs' hd'=>hp.pan pv h' v w' a' hok hs' hd'⟩;cases hi:Nat.beq i id with
    |true=>
     rw[hi]at hok
     have:=F6 hi
     subst this;show Exit.inBlock i Q (.exit i) a' w';simp only[Exit.inBlock,Gm];exact hp.nrm e' h' a' w' hok hs' hd'
    |false=>
     rw[hi]at hok;have hne:i≠id:=fun hh=>by subst hh;simp at hi
     show Exit.inBlock id Q (.exit i) a' w';simp only[Exit.inBlock,if_neg hne];exact hp.ext i e' h' a' w' hok hs' hd'
end
end Go.Av
namespace Go.Av
variable [Dr]
omit [Dr]in
theorem lc:∀(args:List AV)(i t:Nat),bg (py i args) t=if i<=t/\t<i+args.length then⟨.val (nth args (t-i)),none⟩else Ent.none
 |[],i,t=>by
  simp only[py,bg,GM,GX];rw[if_neg (by omega)]
 | a:: as0,i,t=>by
  simp only[py,bu,Ge];by_cases h:i=t
  ·subst h;rw[FY rfl,FY (by omega)];simp[nth]
  ·rw[if_neg h,lc as0 (i+1) t];by_cases h2:i+1<=t/\t<i+1+as0.length
   ·rw[FY h2,FY (by omega)];have:t-i=(t-(i+1))+1:=by omega
    simp[nth,this]
   ·rw[if_neg h2,if_neg (by omega)]
section
variable {P:Program} {cx:Cx}
open Classical in
theorem BO{w:World}{S:am}{β:List a7}{h:Hp}{args:List AV}{vs:List Value}{n:Nat}(hg:kL S β h w)(hw:Wf S w)(hh:bm S β w h)(hv:aP S β args vs)(hn:args.length<=n)(hn2:n<=1000):
  ∃γ lam ω,FR { w,S,β,E:=ba β h,gok:=hg } n (fun g=>g<(ky args).nx*1000) (ky args) h { tmps:=vs.toArray++Array.replicate (n-vs.toArray.size) undef,defers:=[] } w S β γ lam ω:=by
 obtain⟨hlen,ω0,hr⟩:=hh;have hvl:=hv.length;have hget:∀t,(ky args).get t=if t<args.length then⟨.val (nth args t),none⟩else Ent.none:=fun t=>by
  have:=lc args 0 t
  simp only[G4,Iw,GP,Nat.sub_zero]at this;exact this
 let ω:Nat->Owner:=fun b=>if ba β h b then ω0 b else .no;refine⟨fun _=>undef,fun _=>none,ω,⟨hw,Gro.refl _,fun b _ _=>⟨rfl,fun _=>rfl⟩,am.le_refl S,dm.refl β,hlen,fun l cs hl hcs=>?_,⟨?_,hn2⟩,fun t ht=>?_,fun t g z ht hg=>?_,fun B m hB=>?_,fun g z hz=>?_,fun b hb=>?_,fun t g hg=>?_,fun g z hz=>?_⟩⟩
 ·have hown:∀b n,β[l]? = some (b,n)->ω0 b= .heap l->ω b= .heap l:=fun b n h1 h3=>by
   show (if ba β h b then ω0 b else .no)=_;rw[FY ⟨l,cs,_,hl,hcs,h1⟩];exact h3
  rcases hr l cs hl hcs with⟨b,x,h1,h2,h3,h4⟩|⟨b,h1,h3,h4⟩
  ·exact .inl ⟨b,x,h1,h2,hown b _ h1 h3,h4⟩
  ·exact .inr ⟨b,h1,hown b _ h1 h3,h4⟩
 ·simp;omega
 ·rw[hget];split
  ·rename_i hlt;have hx:args[t]? = some (nth args t):=by simp[nth,hlt]
   obtain⟨v,h1,h2⟩:=hv.get hx;have:(vs.toArray++Array.replicate (n-vs.toArray.size) undef).getD t undef=v:=by
    rw[Gn,H6 (by simp;omega)];simp[h1]
   rw[this];exact h2
  ·simp[Ent.none,dA,VR]
 ·rw[hget]at hg;split at hg<;>cases hg
 ·cases hB
 ·cases hz
 ·have hb':ba β h b:=by
   by_cases ho:ba β h b
   ·exact ho
   ·exact absurd (show ω b= .no from if_neg ho) hb
  obtain⟨l,cs,m,h1,h2,h3⟩:=hb';obtain⟨b',x,k1,k2,k3,_⟩:=hr.own h1 h2;rw[h3]at k1;cases k1;have hω:ω b= .heap l:=by
   show (if ba β h b then ω0 b else .no)=_;rw[FY ⟨l,cs,_,h1,h2,h3⟩];exact k3
  exact⟨.inl ⟨⟨l,cs,_,h1,h2,h3⟩,fun g=>by rw[hω];simp⟩,k2⟩
 ·rw[hget]at hg;split at hg<;>cases hg
 ·cases hz
theorem start{w:World}{S:am}{β:List a7}{h:Hp}{args:List AV}{vs:List Value}{n:Nat}(hg:kL S β h w)(hw:Wf S w)(hh:bm S β w h)(hv:aP S β args vs)(hn:args.length<=n)(hn2:n<=1000):
  f9 { w,S,β,E:=ba β h,gok:=hg } n (ky args) h { tmps:=vs.toArray++Array.replicate (n-vs.toArray.size) undef,defers:=[] } w:=⟨S,β,BO hg hw hh hv hn hn2⟩
def eO(tmps:Array Value):ResultVar->Sem Value
 |.tmp t=>pure (tmps.getD t undef)
 |.cell p t=>do loadVar t (<- asAddr (tmps.getD p undef))
omit [Dr]in
theorem me(fn:Func)(tmps:Array Value):results fn tmps=(do let vs <- fn.results.mapM (eO tmps);pure (if h:vs.size=1 then vs[0]else .tuple vs)):=by
 unfold results;congr 1
theorem BM{c:Entry}{N:Nat}{U:Nat->Prop}{e:Env}{h:Hp}{a:Act}{w:World}{S:am}{β:List a7}{γ:Nat->Value}{lam:Nat->Option Nat}{ω:Nat->Owner}(hT:TOK P cx.T)(F:FR c N U e h a w S β γ lam ω){r:ResultVar}{v:AV}(hr:qR cx.T e r=some v):∃u,(eO a.tmps r).run P w= .ok u w/\VR S β v u:=by
 cases r with
 | tmp t=>
  simp only[qR]at hr;cases ht:decide (t<1000)with
  |false=>rw[ht]at hr;cases hr
  | true=>
   rw[ht]at hr;simp only[FW]at hr;have hs:=F.slots t (by simpa using ht);cases hv:(e.get t).v with
   |loc B off=>rw[hv]at hr;cases hr
   |val av=>
    rw[hv]at hr hs;simp only[FU]at hr;subst hr;exact⟨_,by simp only[eO,Sem.run_pure],hs⟩
 | cell p t=>
  simp only[qR]at hr;cases hp:decide (p<1000)with
  |false=>rw[hp]at hr;cases hr
  | true=>
   rw[hp]at hr;simp only[FW]at hr;have hs:=F.slots p (by simpa using hp);cases hv:(e.get p).v with
   | loc B off=>
    rw[hv]at hr hs;cases ht:cx.T t with
    |none=>rw[ht]at hr;cases hr
    | some ti=>
     rw[ht]at hr;simp only at hr;cases hin:gW e B off ti.size with
     |false=>rw[hin]at hr;cases hr
     | true=>
      rw[hin]at hr;simp only[FW]at hr;simp only[dA]at hs;obtain⟨b,hlam,hpv⟩:=hs;obtain⟨b',x,m,hm,hle,hlam',hrow,hms,hcells⟩:=F.locals hin;rw[hlam]at hlam';cases hlam';let f:Nat->Value:=fun i=>(x[off+i]?).getD undef;have hf:∀i,i<ti.size->x[off+i]? = some (f i):=fun i hi=>by
       obtain⟨v,_,hv',_⟩:=hcells i hi;show _=some ((x[off+i]?).getD undef);rw[hv'];rfl
      have hload:=ke hT ht hrow f hf;have hexec:∀v,(loadVar t ⟨b,off,none⟩).run P w= .ok v w->(eO a.tmps (.cell p t)).run P w= .ok v w:=fun v hv'=>by
       simp only[eO];rw[hpv];simpa [asAddr]using hv'
      cases hag:ti.agg with
      |true=>
       rw[hag]at hr;simp only[FW,FU]at hr;subst hr;refine⟨_,hexec _ (hload.1 hag),?_⟩;simp only[VR];refine⟨_,rfl,lF ti.size fun i hi=>?_⟩;obtain⟨v,a',g1,g2,g3,_⟩:=hcells i hi;have:f i=v:=by show (x[off+i]?).getD undef=v;rw[g1];rfl
       rw[this];simp only[Env.av,Ent.av,g2];exact g3
      | false=>
       rw[hag]at hr;simp only[F0]at hr;cases hone:decide (ti.size=1)with
       |false=>rw[hone]at hr;cases hr
       |true=>
        rw[hone]at hr;simp only[FW,FU]at hr;subst hr;have hone':ti.size=1:=by simpa using hone
        obtain⟨v,a',g1,g2,g3,g4⟩:=hcells 0 (by omega);simp only[GX]at g1 g2 g4;have hfv:f 0=v:=by show (x[off+0]?).getD undef=v;rw[GX,g1];rfl
        refine⟨v,hexec _ (hfv▸hload.2 hag hone'),?_⟩;simp only[Env.av,Ent.av,g2];exact g3
   | val av=>
    rw[hv]at hr hs;cases ht:cx.T t with
    |none=>rw[ht]at hr;cases hr
    |some ti=>
     rw[ht]at hr;simp only at hr;obtain⟨v,h1,h2⟩:=tw hT F.wf hr hs;refine⟨v,?_,h2⟩;unfold ak at hr;rw[ht]at hr;cases av<;>simp only[reduceCtorEq]at hr;simp only[dA,VR]at hs;obtain⟨b,off,vs,hpv,_,_⟩:=hs;simp only[eO];rw[hpv]at h1 |-;simpa [Instr.loadAt,Instr.sureAddr,asAddr]using h1
theorem sG{c:Entry}{N:Nat}{U:Nat->Prop}{e:Env}{h:Hp}{a:Act}{w:World}{S:am}{β:List a7}{γ:Nat->Value}{lam:Nat->Option Nat}{ω:Nat->Owner}(hT:TOK P cx.T)(F:FR c N U e h a w S β γ lam ω){fn:Func}{vs:List AV}(hr:dZ cx.T e fn.results.toList=some vs):∃u,(results fn a.tmps).run P w= .ok u w/\VR S β (hY vs) u:=by
 have key:∀(l:List ResultVar)(vs:List AV),dZ cx.T e l=some vs->∃us:List Value,(l.mapM (eO a.tmps)).run P w= .ok us w/\aP S β vs us:=by
  intro l
  induction l with
  |nil=>intro vs h;simp only[dZ,FU]at h;subst h;exact⟨[],by simp,by simp[aP]⟩
  | cons r rs ih=>
   intro vs h;simp only[dZ]at h;cases h1:qR cx.T e r with
   |none=>rw[h1]at h;cases h
   | some v=>
    cases h2:dZ cx.T e rs with
    |none=>rw[h1,h2]at h;cases h
    |some vs'=>
     rw[h1,h2]at h;simp only[FU]at h;subst h;obtain⟨u,k1,k2⟩:=BM hT F h1;obtain⟨us,m1,m2⟩:=ih vs' h2;refine⟨u:: us,?_,by simp only[aP];exact⟨u,us,rfl,k2,m2⟩⟩;rw[List.mapM_cons,Sem.run_bind,k1,Result.andThen_ok,Sem.run_bind,m1,Result.andThen_ok,Sem.run_pure]
 obtain⟨us,k1,k2⟩:=key _ _ hr;have hlen:=k2.length;have hrun:(fn.results.mapM (eO a.tmps)).run P w= .ok us.toArray w:=by
  rw[Ig];rw[map_eq_pure_bind,Sem.run_bind,k1,Result.andThen_ok,Sem.run_pure]
 refine⟨if h:us.toArray.size=1 then us.toArray[0]else .tuple us.toArray,?_,?_⟩
 ·rw[me,Sem.run_bind,hrun,Result.andThen_ok,Sem.run_pure]
 ·unfold hY;split
  ·rename_i v;cases us with
   |nil=>simp at hlen
   |cons u us=>
    cases us with
    |nil=>simp only[aP]at k2;obtain⟨x,xs,hx,hy,_⟩:=k2;simp at hx;simp[hx.1,hy]
    |cons u2 us=>simp at hlen
  ·rename_i hne;rw[dif_neg]
   ·simp only[VR];exact⟨us,rfl,k2⟩
   ·intro h1;have:vs.length=1:=by rw[<- hlen];simpa using h1
    match vs,this with
    |[v],_=>exact hne v rfl
end
end Go.Av
namespace Go.Av
variable [Dr]
omit [Dr]in
theorem qu{n:Nat}{ks:List (Nat×Kind)}(h:iQ n ks=true):∀p,uF (bv ks p .L)=true->p<n:=by
 intro p hp
 induction ks with
 |nil=>simp[bv,uF]at hp
 | cons x ks ih=>
  obtain⟨k,y⟩:=x;unfold iQ at h;simp only[GR,FV]at h;simp only[bv]at hp;cases hk:Nat.beq k p with
  |true=>
   rw[hk]at hp;simp only[FW]at hp
   have:=h.1
   rw[hp]at this;have hk':=F6 hk;subst hk';simpa using this
  |false=>
   rw[hk]at hp;exact ih h.2 hp
section
variable {P:Program} {cx:Cx}
theorem BK{c:Entry}{N:Nat}{U:Nat->Prop}{e:Env}{h:Hp}{a:Act}{w:World}{S:am}{β:List a7}{γ:Nat->Value}{lam:Nat->Option Nat}{ω:Nat->Owner}(F:FR c N U e h a w S β γ lam ω){fn:Func}{sz:Nat}(ho:oV fn e sz=true){u:Value}(hu:(results fn a.tmps).run P w= .ok u w):ol c.w.heap.size S β w h sz u:=by
 unfold oV at ho;split at ho
 ·rename_i t hres;cases ht:decide (t<1000)with
  |false=>rw[ht]at ho;cases ho
  | true=>
   rw[ht]at ho;simp only[Hb]at ho;split at ho
   ·rename_i g hg;split at ho
    ·rename_i z hz;have hgr:=F.grps t g z (by simpa using ht) hg hz;obtain⟨ad,len,cap,h1,h2,h3,h4⟩:=F.free g z hz;have hue:u=a.tmps.getD t undef:=by
      have hr:fn.results= #[.tmp t]:=by apply Hl;simpa using hres
      rw[me,hr]at hu;simp[eO]at hu;simpa using hu.symm
     rw[hue,hgr];refine⟨ad,len,cap,h1,h2,h3,h4.imp id ?_⟩;rintro⟨sz',b,off,x,k1,k2,k3,k4,k5,k6⟩;have hsz:sz'=sz:=by
      rw[k1]at ho;simp only[o9]at ho;exact F6 ho
     subst hsz;refine⟨b,off,x,k2,k3,k4,(F.mine b (by rw[k5];simp)).1.grp k5,fun hb=>?_,k6⟩;obtain⟨l,_,hl,_⟩:=F.hown hb;rw[k5]at hl;cases hl
    ·cases ho
   ·cases ho
 ·cases ho
omit [Dr]in
theorem xE{fn:Func}{own:Option Nat}{e:Env}{h:Hp}(hr:fG cx fn own e h≠.fail):∃rs,dZ cx.T e fn.results.toList=some rs/\(fG cx fn own e h= .ok (hY rs) h\/(own=none/\fG cx fn own e h= .ok (ka 6 h (hY rs)) (h.map fun _=>[])))/\∀sz,own=some sz->oV fn e sz=true:=by
 have key:∀b z:Bool,(bif b then ae (ah ((dZ cx.T e fn.results.toList).map hY)) (bif z then(bif own.isSome then fun _=>M.fail else tj)else M.pure)else M.fail:M AV) h≠.fail->b=true/\∃rs,dZ cx.T e fn.results.toList=some rs/\
   ((bif b then ae (ah ((dZ cx.T e fn.results.toList).map hY)) (bif z then(bif own.isSome then fun _=>M.fail else tj)else M.pure)else M.fail:M AV) h= .ok (hY rs) h\/
    (own=none/\(bif b then ae (ah ((dZ cx.T e fn.results.toList).map hY)) (bif z then(bif own.isSome then fun _=>M.fail else tj)else M.pure)else M.fail:M AV) h= .ok (ka 6 h (hY rs)) (h.map fun _=>[]))):=by
  intro b z hr;cases b with
  |false=>exact absurd rfl hr
  | true=>
   refine⟨rfl,?_⟩;cases hres:dZ cx.T e fn.results.toList with
   |none=>rw[hres]at hr;exact absurd rfl hr
   | some rs=>
    rw[hres]at hr;cases z with
    |false=>exact⟨rs,rfl,.inl rfl⟩
    |true=>
     cases own with
     |none=>exact⟨rs,rfl,.inr ⟨rfl,rfl⟩⟩
     |some sz=>exact absurd rfl hr
 unfold fG at hr |-;cases own with
 |none=>
  obtain⟨_,rs,h1,h2⟩:=key true _ hr;exact⟨rs,h1,h2,fun sz hsz=>by cases hsz⟩
 |some sz=>
  obtain⟨h0,rs,h1,h2⟩:=key _ _ hr;exact⟨rs,h1,h2,fun sz' hsz=>by cases hsz;exact h0⟩
theorem eT(hT:TOK P cx.T)(hC:bC P cx.own cx.call)(hI:IsoCall cx)(m:Nat){f:FuncId}{fn:Func}(hf:P.funcs[f]? = some fn)(hnt:cx.nt=fn.ntmps){own:Option Nat}{args:List AV}{h:Hp}{S:am}{β:List a7}{w:World}{vs:List Value}(hr:bU cx (bZ m) fn own args h≠.fail)(hg:kL S β h w)(hw:Wf S w)(hh:bm S β w h)(hv:aP S β args vs):Calls P f vs.toArray w (cv own S β h w (bU cx (bZ m) fn own args h))/\fn.body.isSome=true:=by
 unfold bU at hr |-;cases hb:fn.body with
 |none=>rw[hb]at hr;exact absurd rfl hr
 | some code=>
  rw[hb]at hr;simp only at hr |-;refine⟨?_,rfl⟩;cases hc:(decide (args.length<=fn.ntmps)&&decide (fn.ntmps<=1000)&&iQ cx.nt cx.ann.kinds)with
  |false=>rw[hc]at hr;exact absurd rfl hr
  | true=>
   rw[hc]at hr;simp only[FW]at hr |-;simp only[FV,F5]at hc;obtain⟨⟨hc1,hc2⟩,hc3⟩:=hc;have H:f9 { w,S,β,E:=ba β h,gok:=hg } cx.nt (ky args) h { tmps:=vs.toArray++Array.replicate (fn.ntmps-vs.toArray.size) undef,defers:=[] } w:=by
    rw[hnt];exact start hg hw hh hv hc1 hc2
   have hret:∀(e':Env)(h':Hp)(a':Act)(w':World),ev cx (bZ m) code (ky args) (fG cx fn own) (fun _ _=>M.fail) (fG cx fn own) h=fG cx fn own e' h'->
     f9 { w,S,β,E:=ba β h,gok:=hg } cx.nt e' h' a' w'->∃v,(results fn a'.tmps).run P w'= .ok v w'/\cv own S β h w (ev cx (bZ m) code (ky args) (fG cx fn own) (fun _ _=>M.fail) (fG cx fn own) h) (.returned v) w':=by
    intro e' h' a' w' hok hs;rw[hok]at hr |-;obtain⟨rs,hres,hret,hown⟩:=xE hr;obtain⟨S',β',γ,lam,ω,F⟩:=hs;obtain⟨u,hu1,hu2⟩:=sG (P:=P) hT F hres;rcases hret with hret|⟨rfl,hret⟩
    ·rw[hret];exact⟨u,hu1,S',β',u,rfl,hu2,F.out,fun sz hsz=>BK F (hown sz hsz) hu1⟩
    ·rw[hret];obtain⟨S2,ω2,F2,hf⟩:=F.freeze;exact⟨u,hu1,S2,β',u,rfl,hf _ _ hu2,F2.out,fun sz hsz=>by cases hsz⟩
   refine calls_of_wp hf hb (wB hT hC hI (qu hc3) m _ code (Ii _) (ky args) h _ w _ _ _ _ H hr ⟨fun e' h' a' w' hok hs hd=>?_,fun i e' h' a' w' hok hs hd=>?_,fun e' h' a' w' hok hs hd=>?_,fun pv h' v w' a' hok hs hd=>?_⟩)
   ·exact⟨hd,hret e' h' a' w' hok hs⟩
   ·rw[hok]at hr;exact absurd rfl hr
   ·exact⟨hd,hret e' h' a' w' hok hs⟩
   ·refine⟨hd,?_⟩;rw[hok];obtain⟨S',β',hout,hvr⟩:=hs;exact⟨S',β',v,rfl,hvr,hout⟩
end
open Classical in
theorem tn{S:am}{β:List a7}{w w':World}{h:Hp}(_hw:Wf S w)(hh:bm S β w h){β0:List a7}{h0:Hp}(hE:∀b,¬ba β0 h0 b){S':am}{β':List a7}{h':Hp}(L:Left (ba β0 h0) S β0 w S' β' w' h'):∃S2,Left (ba β h) S β w S2 β w' h/\(∀a v,VR S' β' a v->VR S2 β (ka 6 h' a) v)/\∀sz v,ol w.heap.size S' β' w' h' sz v->ol w.heap.size S2 β w' h sz v:=by
 obtain⟨hlen,ω,hH⟩:=L.heap;have hnew:∀b,ba β' h' b->w.heap.size<=b:=fun b hb=>(L.owned b hb).resolve_left (hE b);let S2:am:=fun b o=>if ba β' h' b then w'.cell? ⟨b,o,none⟩else S' b o;have hS2n:∀b,¬ba β' h' b->∀o,S2 b o=S' b o:=fun b hb o=>if_neg hb;have hS2y:∀b,ba β' h' b->∀o,S2 b o=w'.cell? ⟨b,o,none⟩:=fun b hb o=>FY hb;have hle:S'.le S2:=by
  intro b o v hv;by_cases hb:ba β' h' b
  ·obtain⟨l,cs,n,h1,h2,h3⟩:=hb;obtain⟨b',x,k1,k2,k3,k5⟩:=hH.own h1 h2;rw[h3]at k1;cases k1;rw[k5]at hv;cases hv
  ·rw[hS2n b hb];exact hv
 have hrow:∀b,b<w.heap.size->w'.heap[b]? = w.heap[b]? /\∀o,S2 b o=S b o:=by
  intro b hb;have hk:=L.keep b hb (hE b);refine⟨hk.1,fun o=>?_⟩;rw[hS2n b (fun ho=>by have:=hnew b ho;omega)];exact hk.2 o
 have hwf:Wf S2 w':=by
  intro b o v hv;by_cases hb:ba β' h' b
  ·rw[hS2y b hb]at hv;exact hv
  ·rw[hS2n b hb]at hv;exact L.wf b o v hv
 obtain⟨hlen0,ω0,hH0⟩:=hh;have hlt0:∀b,ba β h b->b<w.heap.size:=by
  rintro b ⟨l,cs,n,h1,h2,h3⟩;obtain⟨b',x,k1,k2,_⟩:=hH0.own h1 h2;rw[h3]at k1;cases k1;exact k2
 have hle0:S.le S2:=am.le_trans L.le hle;refine⟨S2,⟨hle0,dm.refl β,hwf,L.gro,fun b hb _=>hrow b hb,⟨hlen0,ω0,hH0.rows hle0 (dm.refl β) hlen0 fun l cs hl _=>.inl ⟨hl,fun b hb ho=>⟨ho,(hrow b hb).1,fun o h=>by rw[(hrow b hb).2];exact h⟩⟩⟩,fun b hb=>.inl hb⟩,fun a v hv=>oH hH hle (fun b o x hb hr=>?_) 6 a v hv,fun sz v=>?_⟩
 ·rw[hS2y b hb,hr.cell]
 ·rintro⟨ad,len,cap,k1,k2,k3,k4⟩;refine⟨ad,len,cap,k1,k2,k3,k4.imp id ?_⟩;rintro⟨b,off,x,p1,p2,p3,p4,p5,p6⟩;refine⟨b,off,x,p1,p2,p3,p4,fun hb=>?_,fun o ho=>by rw[hS2n b p5];exact p6 o ho⟩
  have:=hlt0 b hb
  omega
theorem qq{S:am}{β:List a7}{w w':World}{h:Hp}{own:Option Nat}{m:List AV->M AV}{args:List AV}{en:Ending}(hw:Wf S w)(hh:bm S β w h)(hp:cv own S [] [] w (m (di az args) []) en w'):cv own S β h w (eG m args h) en w':=by
 have key:=fun{S':am} {β':List a7} {h':Hp} (L:Left (ba [] []) S [] w S' β' w' h')=>tn hw hh (by rintro b ⟨l,cs,n,h1,_⟩;simp at h1) L;unfold eG;cases hm:m (di az args) []with
 |fail=>rw[hm]at hp;exact hp.elim
 |ok r h'=>
  rw[hm]at hp;obtain⟨S',β',v,h1,h2,h3,h4⟩:=hp;obtain⟨S2,k1,k2,k3⟩:=key h3;exact⟨S2,β,v,h1,k2 r v h2,k1,fun sz hsz=>k3 sz v (h4 sz hsz)⟩
 |pan r h'=>
  rw[hm]at hp;obtain⟨S',β',v,h1,h2,h3⟩:=hp;obtain⟨S2,k1,k2,k3⟩:=key h3;exact⟨S2,β,v,h1,k2 r v h2,k1⟩
structure GoodPg (P:Program) (p:Pg):Prop where
 tok:TOK P p.T
 funcs:∀f fn a,p.funcs f=some (fn,a)->P.funcs[f]? = some fn/\(fn.name== "runtime.NumGoroutine")=false
 other:∀f E,p.other f=some E->∀call,bC P p.own call->∀(args:List AV)(h:Hp)(S:am)(β:List a7)(w:World)(vs:List Value),E call args h≠.fail->kL S β h w->Wf S w->bm S β w h->aP S β args vs->
  Calls P f vs.toArray w (cv (p.own f) S β h w (E call args h))/\(P.funcs[f]?).any (fun fn=>fn.body.isSome&&!(fn.name== "runtime.NumGoroutine"))=true
 nw:∀f,p.nw f=true->∃E,p.other f=some E/\∀call args,rr (E call args)
omit [Dr]in
theorem bm.nil{S:am}{w:World}:bm S [] w []:=⟨rfl,fun _=>.no,fun l cs hl=>by simp at hl⟩
theorem pP{P:Program}{p:Pg}(G:GoodPg P p)(m:Nat){call:FuncId->List AV->M AV}(hC:bC P p.own call)(hI:∀n a,IsoCall (p.cx call n a)):bC P p.own (ff p call (bZ m)):=by
 intro f args h S β w vs hr hg hw hh hv;unfold ff at hr |-;cases ho:p.other f with
 |some E=>rw[ho]at hr;exact G.other f E ho call hC args h S β w vs hr hg hw hh hv
 | none=>
  rw[ho]at hr;simp only at hr |-;cases hf:p.funcs f with
  |none=>rw[hf]at hr;exact absurd rfl hr
  | some x=>
   obtain⟨fn,a⟩:=x;rw[hf]at hr;simp only at hr |-;obtain⟨hf1,hf2⟩:=G.funcs f fn a hf
   have hany:fn.body.isSome=true->(P.funcs[f]?).any (fun fn=>fn.body.isSome&&!(fn.name== "runtime.NumGoroutine"))=true:=by
    intro hb;rw[hf1];simp only[Option.any_some,hb,hf2,GV,H7]
   cases hi:a.iso with
   |false=>
    rw[hi]at hr;simp only[F0]at hr |-;obtain⟨h1,h2⟩:=eT (cx:=p.cx call fn.ntmps a) G.tok hC (hI _ _) m hf1 rfl hr hg hw hh hv;exact⟨h1,hany h2⟩
   | true=>
    rw[hi]at hr;simp only[FW]at hr |-;have hr':bU (p.cx call fn.ntmps a) (bZ m) fn (p.own f) (di az args) []≠.fail:=by
     intro hf;unfold eG at hr;rw[hf]at hr;exact hr rfl
    obtain⟨h1,h2⟩:=eT (cx:=p.cx call fn.ntmps a) G.tok hC (hI _ _) m hf1 rfl hr' ⟨hg.1,fun b _ hb=>by obtain⟨l,_,_,h1,_⟩:=hb;simp at h1,hg.2.2⟩ hw bm.nil (pG hv);exact⟨h1.mono fun en w' hp=>qq hw hh hp,hany h2⟩
omit [Dr]in
theorem rS(p:Pg)(hN:∀f,p.nw f=true->∃E,p.other f=some E/\∀call args,rr (E call args)):∀n k a,IsoCall (p.cx (b8 p n) k a)
 |0,k,a=>⟨fun f args _=>⟨none,fun _=>rfl⟩,fun f args _ h v h' hh=>by cases hh⟩
 | n+1,k,a=>by
  refine⟨?_,fun f args hf=>?_⟩
  case refine_2=>
   obtain⟨E,hE,hn⟩:=hN f hf;have:(p.cx (b8 p (n+1)) k a).call f args=E (b8 p n) args:=by
    show ff p (b8 p n) (bZ n) f args=_;unfold ff;rw[hE]
   rw[this];exact hn _ _
  intro f args hi;have hi':p.iso f=true:=hi;unfold Pg.iso at hi';cases ho:p.other f with
  |some E=>rw[ho]at hi';cases hi'
  | none=>
   rw[ho]at hi';simp only at hi';cases hf:p.funcs f with
   |none=>rw[hf]at hi';cases hi'
   |some x=>
    obtain⟨fn,b⟩:=x;rw[hf]at hi';simp only at hi';refine⟨match bU (p.cx (b8 p n) fn.ntmps b) (bZ n) fn (p.own f) (di az args) []with|.ok r h'=>some (true,ka 6 h' r)|.pan v h'=>some (false,ka 6 h' v)|.fail=>none,fun h=>?_⟩;show ff p (b8 p n) (bZ n) f args h=_;unfold ff;rw[ho];simp only;rw[hf];simp only[hi',FW,eG];cases bU (p.cx (b8 p n) fn.ntmps b) (bZ n) fn (p.own f) (di az args) []<;>rfl
theorem iF{P:Program}{p:Pg}(G:GoodPg P p):∀n,bC P p.own (b8 p n)
 |0=>fun _f _args _h _S _β _w _vs hr=>absurd rfl hr
 |n+1=>pP G n (iF G n) fun k a=>rS p G.nw n k a
end Go.Av
namespace Go.Av
def wW{m:List AV->M AV}{ms:Nat->List AV->M AV}(h:a6 m ms)(args:List AV):aE (eG m args) fun n=>eG (ms n) args:=by
 intro x;obtain⟨h1,h2⟩:=h (di az args) []
 (try dsimp only at h1 h2)
 refine⟨fun hne=>?_,fun n hne=>?_⟩
 ·have hne':m (di az args) []≠.fail:=fun hf=>hne (by simp only[eG,hf]);obtain⟨N,hN⟩:=h1 hne';refine⟨N,fun n hn=>?_⟩
  (try dsimp only)
  simp only[eG,hN n hn]
 ·(try dsimp only at hne |-)
  have hne':ms n (di az args) []≠.fail:=fun hf=>hne (by simp only[eG,hf]);simp only[eG,h2 n hne']
def cN(p:Pg):Prop:=∀f E,p.other f=some E->∀(call:FuncId->List AV->M AV)(calls:Nat->FuncId->List AV->M AV),(∀f,a6 (call f) fun n=>calls n f)->a6 (E call) fun n=>E (calls n)
section
variable {cx:Cx} {call:FuncId->List AV->M AV} {calls:Nat->FuncId->List AV->M AV} {fx:cr AV} {fxs:Nat->cr AV}
theorem rR(hc:∀f,a6 (call f) fun n=>calls n f)(hfx:jg fx fxs)(hfc:pj fx)(hfcs:∀n,pj (fxs n))(fn:Func)(own:Option Nat):
  a6 (bU (cx.wc call) fx fn own) fun n=>bU (cx.wc (calls n)) (fxs n) fn own:=by
 intro args;unfold bU;cases fn.body with
 |none=>exact aE.const _
 | some c=>
  have key:∀b:Bool,aE (bif b then ev (cx.wc call) fx c (ky args) (fG (cx.wc call) fn own) (fun _ _=>M.fail) (fG (cx.wc call) fn own)else M.fail) fun n=>(bif b then ev (cx.wc (calls n)) (fxs n) c (ky args) (fG (cx.wc (calls n)) fn own) (fun _ _=>M.fail) (fG (cx.wc (calls n)) fn own)else M.fail):=by
   intro b;cases b with
   |false=>exact aE.const _
   |true=>
    have hr:a6 (fG (cx.wc call) fn own) fun n=>fG (cx.wc (calls n)) fn own:=a6.const (fG cx fn own);exact Bh _ c (Ii _) call calls fx fxs hc hfx hfc hfcs (ky args) _ (fun n=>fG (cx.wc (calls n)) fn own) _ (fun _ _ _=>M.fail) _ (fun n=>fG (cx.wc (calls n)) fn own) hr (fun i=>a6.const _) hr
  exact key (decide (args.length<=fn.ntmps)&&decide (fn.ntmps<=1000)&&iQ cx.nt cx.ann.kinds)
theorem m7{p:Pg}(hO:cN p)(hc:∀f,a6 (call f) fun n=>calls n f)(hfx:jg fx fxs)(hfc:pj fx)(hfcs:∀n,pj (fxs n))(f:FuncId):a6 (ff p call fx f) fun n=>ff p (calls n) (fxs n) f:=by
 intro args;unfold ff;cases ho:p.other f with
 |some E=>exact hO f E ho call calls hc args
 | none=>
  simp only;cases p.funcs f with
  |none=>exact aE.const _
  |some x=>
   obtain⟨fn,a⟩:=x;simp only;have hb:=rR (cx:=p.cx call fn.ntmps a) hc hfx hfc hfcs fn (p.own f);cases a.iso with
   |true=>exact wW hb args
   |false=>exact hb args
end
theorem jT{p:Pg}(hO:cN p):∀n f args,sX (b8 p n f args) (b8 p (n+1) f args)
 |0,f,args=>fun x hne=>absurd rfl hne
 | n+1,f,args=>by
  have hc:∀f,a6 (b8 p (n+1) f) fun m=>(if m=0 then b8 p n else b8 p (n+1)) f:=by
   intro f args x;refine⟨fun _=>⟨1,fun m hm=>?_⟩,fun m hne=>?_⟩
   ·(try dsimp only)
    rw[if_neg (by omega)]
   ·(try dsimp only at hne |-)
    by_cases h0:m=0
    ·rw[FY h0]at hne |-;exact jT hO n f args x hne
    ·rw[if_neg h0]
  have h:=m7 hO hc (pX n) (oG (n+1)) (fun m=>by
   by_cases h0:m=0
   ·rw[FY h0];exact oG n
   ·rw[if_neg h0];exact oG (n+1)) f args
  intro x hne
  have:=(h x).2 0
  (try dsimp only at this)
  rw[FY rfl,FY rfl]at this;exact this hne
def oD{p:Pg}(hO:cN p){n m:Nat}(h:n<=m)(f:FuncId)(args:List AV):sX (b8 p n f args) (b8 p m f args):=by
 induction m with
 | zero => have:n=0:=by omega
           subst this;exact .refl _
 |succ m ih=>
  by_cases hn:n=m+1
  ·subst hn;exact .refl _
  ·exact (ih (by omega)).trans (jT hO m f args)
open Classical in
noncomputable def af(p:Pg)(f:FuncId)(args:List AV):M AV:=fun h=>if hx:∃n,b8 p n f args h≠.fail then b8 p (Classical.choose hx) f args h else .fail
def gK{p:Pg}(hO:cN p)(f:FuncId):a6 (af p f) fun n=>b8 p n f:=by
 intro args h;refine mY (fun n m hnm hne=>oD hO hnm f args h hne) ?_;unfold af;by_cases hx:∃n,b8 p n f args h≠.fail
 ·left;simp only[dif_pos hx];exact⟨_,HR hx,rfl⟩
 ·right;simp only[dif_neg hx];exact⟨fun n=>Ic fun h=>hx ⟨n,h⟩,trivial⟩
def kM.uniq{α:Type}{a a':R α}{b:Nat->R α}(h:kM a b)(g:kM a' fun n=>b (n+1)):a=a':=by
 by_cases ha:a= .fail
 ·by_cases ha':a'= .fail
  ·rw[ha,ha']
  ·obtain⟨N,hN⟩:=g.1 ha';have h1:=hN N (FZ _)
   (try dsimp only at h1)
   exact (h.2 (N+1) (by rw[h1];exact ha')).symm.trans h1
 ·obtain⟨N,hN⟩:=h.1 ha;have h1:=hN (N+1) (by omega);have h2:=g.2 N
  (try dsimp only at h2)
  exact h1.symm.trans (h2 (by rw[h1];exact ha))
def lj{p:Pg}(hO:cN p)(f:FuncId)(args:List AV):af p f args=ff p (af p) ai f args:=by
 funext h;have h1:=gK hO f args h;have h2:=m7 hO (fun f=>gK hO f) pW wH (fun n=>oG n) f args h;exact h1.uniq h2
def pE[Dr]{P:Program}{p:Pg}(G:GoodPg P p)(hO:cN p):bC P p.own (af p):=by
 intro f args h S β w vs hr hg hw hh hv;obtain⟨N,hN⟩:=(gK hO f args h).1 hr;have h1:=hN N (FZ _)
 (try dsimp only at h1)
 rw[<- h1]at hr |-;exact iF G N f args h S β w vs hr hg hw hh hv
def wg{p:Pg}(hO:cN p){n:Nat}{f:FuncId}{args:List AV}{h:Hp}{r:R AV}(hr:b8 p n f args h=r)(hne:r≠.fail):af p f args h=r:=by
 have:=(gK hO f args h).2 n (by(try dsimp only);rw[hr];exact hne)
 (try dsimp only at this)
 rw[<- this,hr]
end Go.Av
namespace Go.Av
section
variable {ρ:Type}
theorem bR{F:(List AV->M ρ)->List AV->M ρ}(hF:gX F)(vs:List AV):ai F vs=F (ai F) vs:=by
 funext h;exact (eq hF vs h).uniq (hF _ _ (eq hF) vs h)
theorem aD{c:AV}{x y:M ρ}{xs ys:Nat->M ρ}(hx:aE x xs)(hy:aE y ys):aE (aB c x y) fun n=>aB c (xs n) (ys n):=by
 unfold aB;cases c with
 |bool b=>cases b<;>first|exact hx|exact hy
 |_=>exact aE.const _
theorem wY{k:List AV->M ρ}{ks:Nat->List AV->M ρ}{m:(List AV->M ρ)->M ρ}{ms:Nat->(List AV->M ρ)->M ρ}(hk:a6 k ks)(hm:∀j js,a6 j js->aE (m j) fun n=>ms n (js n)):aE (jn k m) fun n=>jn (ks n) (ms n):=
 hm k ks hk
theorem ux{F:(List AV->M ρ)->List AV->M ρ}{Fs:Nat->(List AV->M ρ)->List AV->M ρ}(h1:cM F Fs)(h2:gX F)(h3:∀n,gX (Fs n)):a6 (ai F) fun n=>ai (Fs n):=wH F Fs h1 h2 h3
end
end Go.Av
namespace Go.Av
def aS(m:M AV):M AV:=fun h=>match m []with
 |.ok r h'=>.ok (ka 6 h' r) h
 |.pan v h'=>.pan (ka 6 h' v) h
 |.fail=>.fail
def aC{p:Pg}(hO:cN p){f:FuncId}{fn:Func}{a:Ann}(h1:p.other f=none)(h2:p.funcs f=some (fn,a))(h3:a.iso=true)(args:List AV):
  af p f args=aS (bU (p.cx (af p) fn.ntmps a) ai fn (p.own f) (di az args)):=by
 rw[lj hO];unfold ff;rw[h1];simp only;rw[h2];simp only[h3,FW];rfl
def ic{p:Pg}(hO:cN p){f:FuncId}{fn:Func}{a:Ann}(h1:p.other f=none)(h2:p.funcs f=some (fn,a))(h3:a.iso=false)(args:List AV):
  af p f args=bU (p.cx (af p) fn.ntmps a) ai fn (p.own f) args:=by
 rw[lj hO];unfold ff;rw[h1];simp only;rw[h2];simp only[h3,F0]
def cW{p:Pg}(hO:cN p){f:FuncId}{E:(FuncId->List AV->M AV)->List AV->M AV}(h1:p.other f=some E)(args:List AV):af p f args=E (af p) args:=by
 rw[lj hO];unfold ff;rw[h1]
def gm(T:TT)(t:TypeId):(FuncId->List AV->M AV)->List AV->M AV:=fun _ args=>match args with
 |[.sl es]=>ah (cZ T t (.sl []) (.sl es))
 |_=>M.fail
def fj(T:TT)(t:TypeId):(FuncId->List AV->M AV)->List AV->M AV:=fun _ args=>match args with
 |[.sl es]=>appH T t true (.sl []) (.sl es)
 |_=>M.fail
def xU(t:TypeId)(k:IntKind)(zero:AV):R AV->R AV
 |.ok v h'=>bif bq 4 v then .ok (.tup [.agg (ab v),.int k 0]) h' else .fail
 |.pan (.iface t' (.int k' n)) h'=>bif Nat.beq t' t&&decide (k'=k)then .ok (.tup [zero,.int k n]) h' else .fail
 |_=>.fail
def sQ(t:TypeId)(k:IntKind)(zero:AV):(FuncId->List AV->M AV)->List AV->M AV:=fun call args=>match args with
 |[f]=>fun h=>xU t k zero (b7 call f [] h)
 |_=>M.fail
def qJ{m:M AV}{ms:Nat->M AV}(p:R AV->R AV)(hp:p .fail= .fail)(h:aE m ms):aE (fun x=>p (m x)) fun n=>fun x=>p (ms n x):=by
 intro x;obtain⟨h1,h2⟩:=h x;constructor
 ·intro hne;obtain⟨N,hN⟩:=h1 (fun hh=>hne (by simp only[hh,hp]));exact⟨N,fun n hn=>FX p (hN n hn)⟩
 ·intro n hne;exact FX p (h2 n (fun hh=>hne (by have:=FX p hh;simpa [hp]using this)))
def rJ(T:TT)(t:TypeId)(call:FuncId->List AV->M AV)(calls:Nat->FuncId->List AV->M AV):a6 (gm T t call) fun n=>gm T t (calls n):=a6.const _
def rI(T:TT)(t:TypeId)(call:FuncId->List AV->M AV)(calls:Nat->FuncId->List AV->M AV):a6 (fj T t call) fun n=>fj T t (calls n):=a6.const _
def xT(t:TypeId)(k:IntKind)(zero:AV)(call:FuncId->List AV->M AV)(calls:Nat->FuncId->List AV->M AV)(hc:∀f,a6 (call f) fun n=>calls n f):a6 (sQ t k zero call) fun n=>sQ t k zero (calls n):=by
 have hv:∀f,aE (b7 call f []) fun n=>b7 (calls n) f []:=by
  intro f;unfold b7;split
  ·exact hc _ _
  ·exact aE.const _
 intro args;cases args with
 |nil=>exact aE.const _
 |cons f r=>
  cases r with
  |nil=>exact qJ (xU t k zero) rfl (hv f)
  |cons _ _=>exact aE.const _
def cP{α:Type}{b:Bool}{x:α}{o:Option α}{y:α}(h:(bif b then some x else o)=some y):x=y\/o=some y:=by
 cases b with
 |true=>exact .inl (by simpa using h)
 |false=>exact .inr h
def uk(T:TT)(t:TypeId)(call:FuncId->List AV->M AV)(args:List AV):rr (fj T t call args):=by
 unfold fj;split
 ·rename_i y;intro h v h' hh;unfold appH at hh;split at hh
  ·cases hh
  ·split at hh
   ·split at hh
    ·cases hh
    ·split at hh
     ·cases hh
     ·rename_i bs _;revert hh;generalize (_&&_:Bool)=b1;cases b1 with
      |false=>intro hh;cases hh
      | true=>
       simp only[FW];cases bs.isEmpty with
       |true=>intro hh;cases hh;exact⟨[],by simp⟩
       |false=>
        simp only[F0];generalize decide (_<=140737488355328)=b2;cases b2 with
        |false=>intro hh;cases hh
        |true=>intro hh;cases hh;exact⟨_,rfl⟩
   ·cases hh
 ·intro h v h' hh;cases hh
end Go.Av
namespace Go.Av
variable [Dr]
open Go.RowKit
section
variable {S:am} {β:List a7} {h:Hp} {w w':World}
omit [Dr]in
theorem bm.below(hh:bm S β w h){S':am}(hb:∀b,b<w.heap.size->w'.heap[b]? = w.heap[b]? /\∀o,S' b o=S b o)(hle:S.le S'):bm S' β w' h:=by
 obtain⟨hlen,ω,hr⟩:=hh;exact⟨hlen,ω,hr.rows hle (dm.refl β) hlen fun l cs hl _=>.inl ⟨hl,fun b hlt ho=>⟨ho,(hb b hlt).1,fun o h=>by rw[(hb b hlt).2];exact h⟩⟩⟩
theorem sa(hw:Wf S w)(hh:bm S β w h)(hb:Below w.heap.size w w')(hd:Dr.on->w.drawn<=w'.drawn){S':am}(hS:∀b,b<w.heap.size->∀o,S' b o=S b o)(hnew:∀b o v,w.heap.size<=b->S' b o=some v->w'.cell? ⟨b,o,none⟩=some v):
  Left (ba β h) S β w S' β w' h:=by
 have hle:S.le S':=fun b o v hv=>by rw[hS b (hw.lt hv)];exact hv
 refine⟨hle,dm.refl β,fun b o v hv=>?_,⟨hb.size,hb.os,hb.output,hb.tape,hd⟩,fun b hlt _=>⟨hb.block b hlt,hS b hlt⟩,hh.below (fun b hlt=>⟨hb.block b hlt,hS b hlt⟩) hle,fun b hb=>.inl hb⟩;rcases Gd b w.heap.size with hlt|hge
 ·rw[hS b hlt]at hv;rw[cell_of_heap (hb.block b hlt)];exact hw b o v hv
 ·exact hnew b o v hge hv
theorem cE(hw:Wf S w)(hh:bm S β w h)(hb:Below w.heap.size w w')(hd:Dr.on->w.drawn<=w'.drawn){r:AV}{v:Value}(hv:VR S β r v):cv none S β h w (.ok r h) (.returned v) w':=
 ⟨S,β,v,rfl,hv,sa hw hh hb hd (fun _ _ _=>rfl) (fun b o v hge hv=>by have:=hw.lt hv;omega),fun sz hsz=>by cases hsz⟩
end
end Go.Av
namespace Go.Av
variable [Dr]
def fw:(FuncId->List AV->M AV)->List AV->M AV:=fun _ args=>match args with
 |[.str s,.str t]=>ah (bif decide (s.length<4294967281)then some (.bool (Lib.contains s t))else none)
 |_=>M.fail
def xb{α:Type}(p:α->Bool):List α->Option α
 |[]=>none
 |z:: r=>match xb p r with
  |some y=>some y
  |none=>bif p z then some z else none
end Go.Av
namespace Go.Av
variable [Dr]
open Go.RowKit
def fy:Nat->Nat->List UInt8
 |0,_=>[]
 |f+1,u=>bif decide (u<10)then[UInt8.ofNat (48+u)]else fy f (u / 10)++[UInt8.ofNat (48+u % 10)]
omit [Dr]in
theorem oA:∀(f u:Nat),u<10 ^ (f+1)->fy (f+1) u=Lib.decDigits u
 | f,u,h=>by
  rw[Lib.decDigits];rw[show fy (f+1) u=bif decide (u<10)then[UInt8.ofNat (48+u)]else fy f (u / 10)++[UInt8.ofNat (48+u % 10)]from rfl];by_cases h10:u<10
  ·rw[dif_pos h10,Gk h10];rfl
  ·rw[dif_neg h10,Gr h10];cases f with
   |zero=>omega
   |succ f=>rw[oA f (u / 10) (by rw[Nat.pow_succ]at h;omega)];rfl
def cm(n:Int):List UInt8:=bif decide (n<0)then 45:: fy 20 n.natAbs else fy 20 n.toNat
omit [Dr]in
theorem wX{n:Int}(h0:-9223372036854775808<=n)(h1:n<=9223372036854775807):cm n=Lib.itoa n:=by
 unfold cm Lib.itoa;by_cases h:n<0
 ·rw[Gk h,FY h];simp only[FW];rw[oA 19 n.natAbs (by omega)]
 ·rw[Gr h,if_neg h];simp only[F0];rw[oA 19 n.toNat (by omega)]
def nB:(FuncId->List AV->M AV)->List AV->M AV:=fun _ args=>match args with
 |[.int .i64 n]=>ah (bif decide (-9223372036854775808<=n)&&decide (n<=9223372036854775807)then some (.str (cm n))else none)
 |_=>M.fail
def jQ(t:TypeId)(s:List UInt8):AV:=match Lib.atoiAll s with
 |.ok v=>.tup [.int .i64 v,.nili]
 |.range=>.tup [.int .i64 (Lib.atoiSat s),.iface t .any]
 |_=>.tup [.int .i64 0,.iface t .any]
def mV(t:TypeId):(FuncId->List AV->M AV)->List AV->M AV:=fun _ args=>match args with
 |[.str s]=>ah (bif decide (s.length<=281474976710656)then some (jQ t s)else none)
 |_=>M.fail
end Go.Av
namespace Go.Av
variable [Dr]
omit [Dr]in
theorem bm.grow{S:am}{β:List a7}{w w':World}{h:Hp}(hh:bm S β w h)(hb:∀b,b<w.heap.size->w'.heap[b]? = w.heap[b]?):bm S β w' h:=by
 obtain⟨hlen,ω,hr⟩:=hh;exact⟨hlen,ω,hr.rows (am.le_refl S) (dm.refl β) hlen fun l cs hl _=>.inl ⟨hl,fun b hb' ho=>⟨ho,hb b hb',fun o h=>h⟩⟩⟩
omit [Dr]in
theorem bm.low{S:am}{β:List a7}{w:World}{h:Hp}(hh:bm S β w h){b:Nat}(hb:ba β h b):b<w.heap.size:=by
 obtain⟨_,ω,hr⟩:=hh;obtain⟨l,cs,n,h1,h2,h3⟩:=hb;obtain⟨b',x,k1,k2,_⟩:=hr.own h1 h2;rw[h3]at k1;cases k1;exact k2
omit [Dr]in
theorem Wf.grow{S:am}{w w':World}(hw:Wf S w)(hb:∀b,b<w.heap.size->w'.heap[b]? = w.heap[b]?):Wf S w':=
 fun b o v hv=>by rw[cell_of_heap (hb b (hw.lt hv))];exact hw b o v hv
theorem nF{S S':am}{β β':List a7}{w w2 w' w'':World}{h h':Hp}(hg:Gro w w2)(hold:∀b,b<w.heap.size->w2.heap[b]? = w.heap[b]?)(L:Left (ba β h) S β w2 S' β' w' h')(hg':Gro w' w'')(hsame:∀b,¬(w.heap.size<=b/\b<w2.heap.size)->w''.heap[b]? = w'.heap[b]?)(hw:Wf S w)(hh:bm S β w h):Left (ba β h) S β w S' β' w'' h':=by
 have hs:=hg.size;refine⟨L.le,L.ext,fun b o v hv=>?_,(hg.trans L.gro).trans hg',fun b hb hE=>?_,?_,fun b hb=>?_⟩
 ·by_cases hb:w.heap.size<=b/\b<w2.heap.size
  ·have hE:¬ba β h b:=fun ho=>by have:=hh.low ho;omega
   have:=(L.keep b hb.2 hE).2 o
   rw[this,hw.none hb.1]at hv;cases hv
  ·rw[cell_of_heap (hsame b hb)];exact L.wf b o v hv
 ·have h1:=L.keep b (by omega) hE;exact⟨by rw[hsame b (by omega),h1.1,hold b hb],h1.2⟩
 ·obtain⟨hlen,ω,hr⟩:=L.heap;refine⟨hlen,ω,hr.rowsA (am.le_refl S') (dm.refl β') hlen fun l cs hl hne=>.inl ⟨hl,fun b _ ⟨n,h1⟩ h3=>⟨h3,hsame b fun hb=>?_,fun o h=>h⟩⟩⟩;rcases L.owned b ⟨l,cs,_,hl,hne,h1⟩with ho|ho
  ·have:=hh.low ho;omega
  ·omega
 ·rcases L.owned b hb with ho|ho
  ·exact .inl ho
  ·exact .inr (by omega)
theorem Gro.setCell(w:World)(a:Addr)(v:Value):Gro w (w.setCell a v):=⟨by simp,rfl,rfl,rfl,fun _=>FZ _⟩
omit [Dr]in
theorem aF{w:World}{a:Addr}{v:Value}{b:Nat}(h:b≠a.block):(w.setCell a v).heap[b]? = w.heap[b]?:=by
 simp only[World.setCell,Array.getElem?_modify];rw[if_neg (fun e=>h e.symm)]
end Go.Av
namespace Go.Av
variable [Dr]
omit [Dr]in
theorem pQ(β:List a7)(q:a7):dm β (β++[q]):=fun l b hb=>by
 have:l<β.length:=by
  rcases Gd l β.length with h|h
  ·exact h
  ·rw[F8 h]at hb;simp at hb
 rw[Gb this];exact hb
omit [Dr]in
theorem nu{β:List a7}{h:Hp}(hlen:β.length=h.length){q:a7}{cs:List AV}{b:Nat}(H:ba (β++[q]) (h++[cs]) b):ba β h b\/b=q.1:=by
 obtain⟨l,ds,n,h1,h2,h3⟩:=H;rcases Gd l h.length with hlt|hge
 ·rw[Gb hlt]at h1;rw[Gb (by omega)]at h3;exact .inl ⟨l,ds,n,h1,h2,h3⟩
 ·rw[Gj (by omega)]at h3;rcases GF (l-β.length)with h0|h0
  ·rw[h0]at h3;simp only[Ga,FU]at h3;subst h3;exact .inr rfl
  ·rw[F8 (by simp;omega)]at h3;simp at h3
omit [Dr]in
theorem bm.push{S:am}{β:List a7}{w w':World}{h:Hp}(hh:bm S β w h)(hw:Wf S w)(hold:∀b,b<w.heap.size->w'.heap[b]? = w.heap[b]?){b:Nat}{x:Array Value}{t:TypeId}(hb:w.heap.size<=b)(hrow:w'.heap[b]? = some (.cells x t (0,0))){cs:List AV}(hcs:aP S β cs (x.toList.take cs.length))(htag:∀t',¬cd t' cs):bm S (β++[(b,x.size)]) w' (h++[cs]):=by
 obtain⟨hlen,ω,hr⟩:=hh;have hext:=pQ β (b,x.size);refine⟨by simp[hlen],fun k=>if k=b then .heap h.length else ω k,?_⟩;refine hr.rows (am.le_refl S) hext hlen fun l cs' hl hne=>?_;rcases Gd l h.length with hlt|hge
 ·rw[Gb hlt]at hl;exact .inl ⟨hl,fun k hk ho=>⟨by rw[if_neg (by omega)];exact ho,hold k hk,fun o h=>h⟩⟩
 ·rw[Gj hge]at hl;have hlz:l=h.length:=by
   rcases GF (l-h.length)with h0|h0
   ·omega
   ·rw[F8 (by simp;omega)]at hl;simp at hl
  subst hlz;simp only[Hz,Ga,FU]at hl;subst hl;exact .inr ⟨b,x,by rw[<- hlen];simp,⟨t,hrow⟩,by rw[FY rfl],hcs.mono (am.le_refl S) hext,fun o=>hw.none hb o,fun t' ht'=>absurd ht' (htag t')⟩
theorem Left.trans{E:Nat->Prop}{S S1 S2:am}{β β1 β2:List a7}{w w1 w2:World}{h1 h2:Hp}(L1:Left E S β w S1 β1 w1 h1)(L2:Left (ba β1 h1) S1 β1 w1 S2 β2 w2 h2):Left E S β w S2 β2 w2 h2:=by
 have hs:=L1.size;refine⟨fun b o v hv=>L2.le b o v (L1.le b o v hv),dm.trans L1.ext L2.ext,L2.wf,L1.gro.trans L2.gro,fun b hb hE=>?_,L2.heap,fun b hb=>?_⟩
 ·have a1:=L1.keep b hb hE;have hno:¬ba β1 h1 b:=fun ho=>by
   rcases L1.owned b ho with h|h
   ·exact hE h
   ·omega
  have a2:=L2.keep b (by omega) hno;exact⟨a2.1.trans a1.1,fun o=>(a2.2 o).trans (a1.2 o)⟩
 ·rcases L2.owned b hb with h|h
  ·exact L1.owned b h
  ·exact .inr (by omega)
theorem Left.store{E:Nat->Prop}{S S1:am}{β β1:List a7}{w w1 w2:World}{h1:Hp}(L:Left E S β w S1 β1 w1 h1)(hg:Gro w1 w2)(B:Nat->Prop)(hB:∀b,B b->w.heap.size<=b/\¬ba β1 h1 b/\∀o,S1 b o=none)(hsame:∀b,¬B b->w2.heap[b]? = w1.heap[b]?):Left E S β w S1 β1 w2 h1:=by
 refine⟨L.le,L.ext,fun b o v hv=>?_,L.gro.trans hg,fun b hb hE=>?_,?_,L.owned⟩
 ·by_cases hb:B b
  ·rw[(hB b hb).2.2 o]at hv;cases hv
  ·rw[cell_of_heap (hsame b hb)];exact L.wf b o v hv
 ·have a:=L.keep b hb hE;exact⟨(hsame b fun hb'=>by have:=(hB b hb').1;omega).trans a.1,a.2⟩
 ·obtain⟨hlen,ω,hr⟩:=L.heap;exact⟨hlen,ω,hr.rowsA (am.le_refl S1) (dm.refl β1) hlen fun l cs hl hne=>.inl ⟨hl,fun b _ ⟨n,k1⟩ k3=>⟨k3,hsame b fun hb=>(hB b hb).2.1 ⟨l,cs,n,hl,hne,k1⟩,fun o h=>h⟩⟩⟩
theorem nE{S S':am}{β β':List a7}{w w2 w':World}{h h':Hp}{q:a7}{cs:List AV}(hw:Wf S w)(hh:bm S β w h)(hg:Gro w w2)(hold:∀b,b<w.heap.size->w2.heap[b]? = w.heap[b]?)(hq:w.heap.size<=q.1)(L:Left (ba (β++[q]) (h++[cs])) S (β++[q]) w2 S' β' w' h'):Left (ba β h) S β w S' β' w' h':=by
 have hs:=hg.size;refine⟨L.le,dm.trans (pQ β q) L.ext,L.wf,hg.trans L.gro,fun b hb hE=>?_,L.heap,fun b hb=>?_⟩
 ·have hno:¬ba (β++[q]) (h++[cs]) b:=fun ho=>by
   rcases nu hh.1 ho with h|h
   ·exact hE h
   ·omega
  have a:=L.keep b (by omega) hno;exact⟨a.1.trans (hold b hb),a.2⟩
 ·rcases L.owned b hb with ho|ho
  ·rcases nu hh.1 ho with h|h
   ·exact .inl h
   ·exact .inr (by omega)
  ·exact .inr (by omega)
end Go.Av
namespace Go.Av.Ap
abbrev aJ:=List UInt8
inductive Val where
 |mk (kind n:Int) (names:List aJ) (values:List Val)
instance:Inhabited Val:=⟨.mk 0 0 [] []⟩
inductive Exp where
 |mk (op n:Int) (s m:aJ) (names:List aJ) (args:List Exp)
instance:Inhabited Exp:=⟨.mk 0 0 [] [] [] []⟩
inductive Ty where
 |mk (kind:Int) (fields:List (aJ×Ty))
instance:Inhabited Ty:=⟨.mk 0 []⟩
abbrev dQ:=aJ×Ty
structure Fun where
 name:aJ
 pub:Bool
 params:List dQ
 result:Ty
 effects:Int
 body:Exp
 deriving Inhabited
structure Mod where
 name:aJ
 uses:List aJ
 vars:List dQ
 init:List Exp
 funcs:List Fun
 moves:Bool
 old:List dQ
 forward:List Exp
 back:List Exp
 deriving Inhabited
def Val.kind:Val->Int|.mk k _ _ _=>k
def Val.n:Val->Int|.mk _ n _ _=>n
def Val.names:Val->List aJ|.mk _ _ ns _=>ns
def Val.values:Val->List Val|.mk _ _ _ vs=>vs
def Exp.op:Exp->Int|.mk o _ _ _ _ _=>o
def Exp.n:Exp->Int|.mk _ n _ _ _ _=>n
def Exp.s:Exp->aJ|.mk _ _ s _ _ _=>s
def Exp.m:Exp->aJ|.mk _ _ _ m _ _=>m
def Exp.names:Exp->List aJ|.mk _ _ _ _ ns _=>ns
def Exp.args:Exp->List Exp|.mk _ _ _ _ _ es=>es
def Ty.kind:Ty->Int|.mk k _=>k
def Ty.fields:Ty->List dQ|.mk _ fs=>fs
@[simp] theorem FT(a b c d):(Val.mk a b c d).kind=a:=rfl
@[simp] theorem Val.n_mk(a b c d):(Val.mk a b c d).n=b:=rfl
@[simp] theorem FS(a b c d):(Val.mk a b c d).names=c:=rfl
@[simp] theorem FQ(a b c d):(Val.mk a b c d).values=d:=rfl
def strs(l:List aJ):AV:=.sl (l.map .str)
mutual
def Val.av:Val->AV
 |.mk k n ns vs=>.agg [.int .i64 k,.int .i64 n,strs ns,.sl (fU vs)]
def fU:List Val->List AV
 |[]=>[]
 |v:: vs=>v.av:: fU vs
end
mutual
def Exp.cells:Exp->List AV
 |.mk o n s m ns es=>[.int .i64 o,.int .i64 n,.str s,.str m,strs ns,.sl (eD es)]
def eD:List Exp->List AV
 |[]=>[]
 |e:: es=>.agg e.cells:: eD es
end
def Exp.av(e:Exp):AV:=.agg e.cells
mutual
def Ty.cells:Ty->List AV
 |.mk k fs=>[.int .i64 k,.sl (eE fs)]
def eE:List (aJ×Ty)->List AV
 |[]=>[]
 |f:: fs=>bQ f:: eE fs
def bQ:aJ×Ty->AV
 |(n,t)=>.agg (.str n:: t.cells)
end
def Ty.av(t:Ty):AV:=.agg t.cells
def Fun.av(f:Fun):AV:=.agg ([.str f.name,.bool f.pub,.sl (eE f.params)]++f.result.cells++[.int .i64 f.effects]++f.body.cells)
def lE(l:List Fun):AV:=.sl (l.map Fun.av)
def Mod.av(m:Mod):AV:=.agg [.str m.name,strs m.uses,.sl (eE m.vars),.sl (eD m.init),lE m.funcs,.bool m.moves,.sl (eE m.old),.sl (eD m.forward),.sl (eD m.back)]
def vals(l:List Val):AV:=.sl (fU l)
def ga(l:List Exp):AV:=.sl (eD l)
def cj(l:List dQ):AV:=.sl (eE l)
def yX(l:List Mod):AV:=.sl (l.map Mod.av)
def ints(l:List Int):AV:=.sl (l.map (.int .i64))
structure Vars where
 module:aJ
 values:List Val
 deriving Inhabited
structure Deed where
 effect:Int
 arg:Int
 answer:Int
 deriving DecidableEq,Inhabited
structure Call where
 module:aJ
 func:aJ
 args:List Val
 deriving Inhabited
def Vars.av(v:Vars):AV:=.agg [.str v.module,vals v.values]
def Deed.av(d:Deed):AV:=.agg [.int .i64 d.effect,.int .i64 d.arg,.int .i64 d.answer]
def Call.av(c:Call):AV:=.agg [.str c.module,.str c.func,vals c.args]
def mA(l:List Vars):AV:=.sl (l.map Vars.av)
def deeds(l:List Deed):AV:=.sl (l.map Deed.av)
def calls(l:List Call):AV:=.sl (l.map Call.av)
structure Out where
 err:Int
 value:Val
 deeds:List Deed
 calls:List Call
 state:List Vars
def Out.av(o:Out):AV:=.agg [.int .i64 o.err,.int .i64 o.value.kind,.int .i64 o.value.n,strs o.value.names,vals o.value.values,Ap.deeds o.deeds,Ap.calls o.calls,mA o.state]
theorem ef:(l:List Val)->fU l=l.map Val.av
 |[]=>rfl
 |v:: l=>by simp[fU,ef l]
theorem im:(l:List Exp)->eD l=l.map Exp.av
 |[]=>rfl
 |v:: l=>by simp[eD,im l,Exp.av]
theorem eW:(l:List dQ)->eE l=l.map bQ
 |[]=>rfl
 |v:: l=>by simp[eE,eW l]
def Val.av_eq(v:Val):v.av= .agg [.int .i64 v.kind,.int .i64 v.n,strs v.names,vals v.values]:=by cases v;rfl
def Exp.cells_eq(e:Exp):e.cells=[.int .i64 e.op,.int .i64 e.n,.str e.s,.str e.m,strs e.names,ga e.args]:=by cases e;rfl
def Ty.cells_eq(t:Ty):t.cells=[.int .i64 t.kind,cj t.fields]:=by cases t;simp[Ty.cells,cj,Ty.kind,Ty.fields]
def iK(f:dQ):bQ f= .agg [.str f.1,.int .i64 f.2.kind,cj f.2.fields]:=by obtain⟨n,t⟩:=f;simp[bQ,Ty.cells_eq]
@[simp] theorem kV(v:Val):ab v.av=[.int .i64 v.kind,.int .i64 v.n,strs v.names,vals v.values]:=by rw[v.av_eq];rfl
@[simp] theorem kP(e:Exp):ab e.av=[.int .i64 e.op,.int .i64 e.n,.str e.s,.str e.m,strs e.names,ga e.args]:=by rw[Exp.av,e.cells_eq];rfl
@[simp] theorem kQ(f:dQ):ab (bQ f)=[.str f.1,.int .i64 f.2.kind,cj f.2.fields]:=by rw[iK];rfl
@[simp] theorem mP(t:Ty):ab t.av=[.int .i64 t.kind,cj t.fields]:=by rw[Ty.av,t.cells_eq];rfl
@[simp] theorem kR(f:Fun):ab f.av=[.str f.name,.bool f.pub,cj f.params,.int .i64 f.result.kind,cj f.result.fields,.int .i64 f.effects,.int .i64 f.body.op,.int .i64 f.body.n,.str f.body.s,.str f.body.m,strs f.body.names,ga f.body.args]:=by
 simp[Fun.av,ab,Ty.cells_eq,Exp.cells_eq,cj]
@[simp] theorem kS(m:Mod):ab m.av=[.str m.name,strs m.uses,cj m.vars,ga m.init,lE m.funcs,.bool m.moves,cj m.old,ga m.forward,ga m.back]:=rfl
@[simp] theorem qc(v:Val):AV.agg [.int .i64 v.kind,.int .i64 v.n,strs v.names,vals v.values]=v.av:=(v.av_eq).symm
@[simp] theorem pY(e:Exp):AV.agg [.int .i64 e.op,.int .i64 e.n,.str e.s,.str e.m,strs e.names,ga e.args]=e.av:=by rw[Exp.av,e.cells_eq]
@[simp] theorem tg(t:Ty):AV.agg [.int .i64 t.kind,cj t.fields]=t.av:=by rw[Ty.av,t.cells_eq]
@[simp] theorem pZ(f:dQ):AV.agg [.str f.1,.int .i64 f.2.kind,cj f.2.fields]=bQ f:=(iK f).symm
@[simp] theorem p7(f:Fun):AV.agg [.str f.name,.bool f.pub,cj f.params,.int .i64 f.result.kind,cj f.result.fields,.int .i64 f.effects,.int .i64 f.body.op,.int .i64 f.body.n,.str f.body.s,.str f.body.m,strs f.body.names,ga f.body.args]=f.av:=by
 simp[Fun.av,Ty.cells_eq,Exp.cells_eq,cj]
@[simp] theorem p8(m:Mod):AV.agg [.str m.name,strs m.uses,cj m.vars,ga m.init,lE m.funcs,.bool m.moves,cj m.old,ga m.forward,ga m.back]=m.av:=rfl
theorem c7{α:Type}(g:Nat->Nat->Nat->Nat->Bool->AV)(f:α->AV)(h:∀x,cl g (f x)=f x):(l:List α)->di g (l.map f)=l.map f
 |[]=>rfl
 |x:: l=>by simp[di,h x,c7 g f h l]
@[simp] theorem Ec(g:Nat->Nat->Nat->Nat->Bool->AV)(l:List aJ):cl g (strs l)=strs l:=by
 simp[strs,cl,c7 g AV.str (fun _=>rfl) l]
@[simp] theorem Ea(g:Nat->Nat->Nat->Nat->Bool->AV)(l:List Int):cl g (ints l)=ints l:=by
 simp[ints,cl,c7 g (AV.int .i64) (fun _=>rfl) l]
mutual
theorem Val.cl_av(g:Nat->Nat->Nat->Nat->Bool->AV):(v:Val)->cl g v.av=v.av
 |.mk k n ns vs=>by simp[Val.av,cl,di,pf g vs]
theorem pf(g:Nat->Nat->Nat->Nat->Bool->AV):(l:List Val)->di g (fU l)=fU l
 |[]=>rfl
 |v:: l=>by simp[fU,di,Val.cl_av g v,pf g l]
end
mutual
theorem Exp.cl_cells(g:Nat->Nat->Nat->Nat->Bool->AV):(e:Exp)->di g e.cells=e.cells
 |.mk o n s m ns es=>by simp[Exp.cells,cl,di,kD g es]
theorem kD(g:Nat->Nat->Nat->Nat->Bool->AV):(l:List Exp)->di g (eD l)=eD l
 |[]=>rfl
 |e:: l=>by simp[eD,di,cl,Exp.cl_cells g e,kD g l]
end
mutual
theorem Ty.cl_cells(g:Nat->Nat->Nat->Nat->Bool->AV):(t:Ty)->di g t.cells=t.cells
 |.mk k fs=>by simp[Ty.cells,cl,di,iL g fs]
theorem iL(g:Nat->Nat->Nat->Nat->Bool->AV):(l:List (aJ×Ty))->di g (eE l)=eE l
 |[]=>rfl
 |f:: l=>by simp[eE,di,wI g f,iL g l]
theorem wI(g:Nat->Nat->Nat->Nat->Bool->AV):(f:aJ×Ty)->cl g (bQ f)=bQ f
 |(n,t)=>by simp[bQ,cl,di,Ty.cl_cells g t]
end
@[simp] theorem ow(g:Nat->Nat->Nat->Nat->Bool->AV)(v:Val):cl g v.av=v.av:=v.cl_av g
@[simp] theorem yD(g:Nat->Nat->Nat->Nat->Bool->AV)(l:List Val):cl g (vals l)=vals l:=by simp[vals,cl,pf]
@[simp] theorem A8(g:Nat->Nat->Nat->Nat->Bool->AV)(e:Exp):cl g e.av=e.av:=by simp[Exp.av,cl,Exp.cl_cells]
@[simp] theorem D9(g:Nat->Nat->Nat->Nat->Bool->AV)(l:List Exp):cl g (ga l)=ga l:=by simp[ga,cl,kD]
@[simp] theorem s7(g:Nat->Nat->Nat->Nat->Bool->AV)(t:Ty):cl g t.av=t.av:=by simp[Ty.av,cl,Ty.cl_cells]
@[simp] theorem EP(g:Nat->Nat->Nat->Nat->Bool->AV)(f:dQ):cl g (bQ f)=bQ f:=wI g f
@[simp] theorem yz(g:Nat->Nat->Nat->Nat->Bool->AV)(l:List dQ):cl g (cj l)=cj l:=by simp[cj,cl,iL]
theorem ll(g:Nat->Nat->Nat->Nat->Bool->AV):(a b:List AV)->di g (a++b)=di g a++di g b
 |[],b=>rfl
 |x:: a,b=>by simp[di,ll g a b]
@[simp] theorem wi(g:Nat->Nat->Nat->Nat->Bool->AV)(f:Fun):cl g f.av=f.av:=by
 simp[Fun.av,cl,di,ll,iL,Ty.cl_cells,Exp.cl_cells]
@[simp] theorem yA(g:Nat->Nat->Nat->Nat->Bool->AV)(l:List Fun):cl g (lE l)=lE l:=by simp[lE,cl,c7 g Fun.av (wi g)]
@[simp] theorem A9(g:Nat->Nat->Nat->Nat->Bool->AV)(m:Mod):cl g m.av=m.av:=by
 simp[Mod.av,cl,di,iL,kD,yA]
@[simp] theorem Eb(g:Nat->Nat->Nat->Nat->Bool->AV)(l:List Mod):cl g (yX l)=yX l:=by simp[yX,cl,c7 g Mod.av (A9 g)]
@[simp] theorem EQ(g:Nat->Nat->Nat->Nat->Bool->AV)(k:IntKind)(n:Int):cl g (.int k n)= .int k n:=rfl
@[simp] theorem D8(g:Nat->Nat->Nat->Nat->Bool->AV)(b:Bool):cl g (.bool b)= .bool b:=rfl
@[simp] theorem Bb(g:Nat->Nat->Nat->Nat->Bool->AV)(s:aJ):cl g (.str s)= .str s:=rfl
@[simp] theorem yE(g:Nat->Nat->Nat->Nat->Bool->AV)(v:Vars):cl g v.av=v.av:=by simp[Vars.av,cl,di]
@[simp] theorem yy(g:Nat->Nat->Nat->Nat->Bool->AV)(v:Deed):cl g v.av=v.av:=by simp[Deed.av,cl,di]
@[simp] theorem yx(g:Nat->Nat->Nat->Nat->Bool->AV)(v:Call):cl g v.av=v.av:=by simp[Call.av,cl,di]
@[simp] theorem C1(g:Nat->Nat->Nat->Nat->Bool->AV)(l:List Vars):cl g (mA l)=mA l:=by simp[mA,cl,c7 g Vars.av (yE g)]
@[simp] theorem CY(g:Nat->Nat->Nat->Nat->Bool->AV)(l:List Deed):cl g (deeds l)=deeds l:=by simp[deeds,cl,c7 g Deed.av (yy g)]
@[simp] theorem CX(g:Nat->Nat->Nat->Nat->Bool->AV)(l:List Call):cl g (calls l)=calls l:=by simp[calls,cl,c7 g Call.av (yx g)]
@[simp] theorem ER(g:Nat->Nat->Nat->Nat->Bool->AV)(o:Out):cl g o.av=o.av:=by simp[Out.av,cl,di]
@[simp] theorem jN(v:Vars):ab v.av=[.str v.module,vals v.values]:=rfl
@[simp] theorem jM(v:Deed):ab v.av=[.int .i64 v.effect,.int .i64 v.arg,.int .i64 v.answer]:=rfl
@[simp] theorem jL(v:Call):ab v.av=[.str v.module,.str v.func,vals v.args]:=rfl
@[simp] theorem kT(o:Out):ab o.av=[.int .i64 o.err,.int .i64 o.value.kind,.int .i64 o.value.n,strs o.value.names,vals o.value.values,deeds o.deeds,calls o.calls,mA o.state]:=rfl
@[simp] theorem np(v:Vars):AV.agg [.str v.module,vals v.values]=v.av:=rfl
@[simp] theorem nk(v:Deed):AV.agg [.int .i64 v.effect,.int .i64 v.arg,.int .i64 v.answer]=v.av:=rfl
@[simp] theorem nj(v:Call):AV.agg [.str v.module,.str v.func,vals v.args]=v.av:=rfl
@[simp] theorem p9(o:Out):AV.agg [.int .i64 o.err,.int .i64 o.value.kind,.int .i64 o.value.n,strs o.value.names,vals o.value.values,deeds o.deeds,calls o.calls,mA o.state]=o.av:=rfl
@[simp] theorem Cf(v:Vars):bS v.av=some 2:=rfl
@[simp] theorem Cd(v:Deed):bS v.av=some 3:=rfl
@[simp] theorem Cc(v:Call):bS v.av=some 3:=rfl
@[simp] theorem DI(v:Out):bS v.av=some 8:=rfl
@[simp] theorem nM(v:Vars):bq 2 v.av=true:=by simp[bq,be,vals]
@[simp] theorem nL(v:Deed):bq 3 v.av=true:=by simp[bq,be]
@[simp] theorem nK(v:Call):bq 3 v.av=true:=by simp[bq,be,vals]
@[simp] theorem qG(v:Out):bq 8 v.av=true:=by simp[bq,be,vals,strs,deeds,calls,mA]
def Clean(a:AV):Prop:=∀g,cl g a=a
def Clean.frz{a:AV}(h:Clean a)(d:Nat)(hp:Hp):ka d hp a=a:=by
 cases d with
 |zero=>exact h _
 |succ d=>exact h _
def ca{a:AV}(h:Clean a):aS (M.pure a)=M.pure a:=by
 funext hp;simp only[aS,M.pure,h.frz]
@[simp] theorem gM(b:Bool):aS (M.pure (.bool b))=M.pure (.bool b):=ca fun _=>rfl
@[simp] theorem iO(k:IntKind)(n:Int):aS (M.pure (.int k n))=M.pure (.int k n):=ca fun _=>rfl
@[simp] theorem iP(s:aJ):aS (M.pure (.str s))=M.pure (.str s):=ca fun _=>rfl
@[simp] theorem gw(v:Val):aS (M.pure v.av)=M.pure v.av:=ca fun g=>ow g v
@[simp] theorem BZ(v:List Val):aS (M.pure (vals v))=M.pure (vals v):=ca fun g=>yD g v
@[simp] theorem Dj(v:Exp):aS (M.pure v.av)=M.pure v.av:=ca fun g=>A8 g v
@[simp] theorem Dk(v:Fun):aS (M.pure v.av)=M.pure v.av:=ca fun g=>wi g v
@[simp] theorem DK(v:Val):bS v.av=some 4:=by rw[v.av_eq];rfl
@[simp] theorem DC(e:Exp):bS e.av=some 6:=by rw[Exp.av,e.cells_eq];rfl
@[simp] theorem DD(f:dQ):bS (bQ f)=some 3:=by rw[iK];rfl
@[simp] theorem Eg(t:Ty):bS t.av=some 2:=by rw[Ty.av,t.cells_eq];rfl
@[simp] theorem DF(f:Fun):bS f.av=some 12:=by simp[Fun.av,bS,Ty.cells_eq,Exp.cells_eq]
@[simp] theorem DG(m:Mod):bS m.av=some 9:=rfl
@[simp] theorem iW(v:Val):bq 4 v.av=true:=by simp[bq,be,strs,vals]
@[simp] theorem l3(e:Exp):bq 6 e.av=true:=by simp[bq,be,strs,ga]
@[simp] theorem l4(f:dQ):bq 3 (bQ f)=true:=by simp[bq,be,cj]
@[simp] theorem l5(f:Fun):bq 12 f.av=true:=by simp[bq,be,cj,strs,ga]
@[simp] theorem l6(m:Mod):bq 9 m.av=true:=by simp[bq,be,cj,strs,ga,lE]
@[simp] theorem xo(s:aJ):bq 1 (.str s)=true:=rfl
@[simp] theorem xl(k:IntKind)(n:Int):bq 1 (.int k n)=true:=rfl
def cB{α:Type}{sz:Nat}{f:α->AV}(h:∀x,bq sz (f x)=true)(l:List α):cJ sz (l.map f)=true:=by simp[cJ,h]
@[simp] theorem Ca(l:List aJ):cJ 1 (l.map AV.str)=true:=cB xo l
@[simp] theorem B6(l:List Int):cJ 1 (l.map (AV.int .i64))=true:=cB (xl .i64) l
@[simp] theorem Cb(l:List Val):cJ 4 (fU l)=true:=by rw[ef];exact cB iW l
@[simp] theorem B3(l:List Exp):cJ 6 (eD l)=true:=by rw[im];exact cB l3 l
@[simp] theorem B4(l:List dQ):cJ 3 (eE l)=true:=by rw[eW];exact cB l4 l
@[simp] theorem B5(l:List Fun):cJ 12 (l.map Fun.av)=true:=cB l5 l
@[simp] theorem B7(l:List Mod):cJ 9 (l.map Mod.av)=true:=cB l6 l
def lI{T:TT}{t e:Nat}{ti ei:TI}(ht:T t=some ti)(hk:ti.kind= .slice e)(he:T e=some ei){α:Type}{f:α->AV}(hs:∀x,bS (f x)=some ei.size){l:List α}{i:Nat}{x:α}(h:l[i]? = some x):
  ax T t (.sl (l.map f)) (.int .i64 (i:Int))=some (.ip (ab (f x))):=by
 unfold ax;rw[ht];simp only[hk,he];rw[if_neg (by omega)];have:(l.map f)[(i:Int).toNat]? = some (f x):=by rw[Gw,GW,h];rfl
 rw[this];simp only;rw[FY (hs x)]
def cX{T:TT}{t e:Nat}{ti ei:TI}(ht:T t=some ti)(hk:ti.kind= .slice e)(he:T e=some ei){α:Type}[Inhabited α]{f:α->AV}(hs:∀x,bS (f x)=some ei.size){l:List α}{n:Int}(h0:0<=n)(h:n<(l.length:Int)):
  ax T t (.sl (l.map f)) (.int .i64 n)=some (.ip (ab (f l[n.toNat]!))):=by
 have hlt:n.toNat<l.length:=by omega
 have:=lI ht hk he hs (l:=l) (i:=n.toNat) (x:=l[n.toNat]!) (by rw[List.getElem!_eq_getElem?_getD,Gf hlt];rfl)
 rw[show ((n.toNat:Nat):Int)=n by omega]at this;exact this
def pu{T:TT}{t e:Nat}{ti ei:TI}(ht:T t=some ti)(hk:ti.kind= .slice e)(he:T e=some ei){α:Type}{f:α->AV}(hs:∀x,bq ei.size (f x)=true){a b:List α}(h:(a.length+b.length)*ei.bytes<=140737488355328)(h0:0<ei.bytes):
  cZ T t (.sl (a.map f)) (.sl (b.map f))=some (.sl ((a++b).map f)):=by
 unfold cZ;rw[ht];simp only[hk,he,g7];rw[cB hs,cB hs];simp[h,h0,mq]
end Go.Av.Ap
namespace Go.Av
attribute [simp] aw ay wb ub
@[simp] theorem ap{α:Type}(b:Bool)(x y:M α):aB (.bool b) x y=if b=true then x else y:=by cases b<;>rfl
def gv(b w:Bool)(y:AV):AV:=bif b== w then y else .tup []
@[simp] theorem Fh(y:AV):gv false false y=y:=rfl
@[simp] theorem Fl(y:AV):gv true true y=y:=rfl
@[simp] theorem Fi(y:AV):gv false true y= .tup []:=rfl
@[simp] theorem Fj(y:AV):gv true false y= .tup []:=rfl
@[simp high] theorem oI(b w:Bool)(y:AV):au (.bool b) w 1 (M.pure [y])=M.pure [gv b w y]:=by cases b<;>cases w<;>rfl
@[simp high] theorem uB(b w c w2:Bool)(y:AV):au (gv b w (.bool c)) w2 1 (M.pure [y])=M.pure [gv b w (gv c w2 y)]:=by cases b<;>cases w<;>cases c<;>cases w2<;>rfl
@[simp high] theorem uC(b w c e:Bool):au (.bool b) w 1 (ae (ah (aO (gv b w (.bool c)) (.bool true) (gv b w (gv c false (.bool e))))) fun v=>M.pure [v])=M.pure [gv b w (.bool (c||e))]:=by
 cases b<;>cases w<;>cases c<;>rfl
@[simp high] theorem rZ(b w c e:Bool):au (.bool b) w 1 (ae (ah (aO (gv b w (.bool c)) (gv b w (gv c true (.bool e))) (.bool false))) fun v=>M.pure [v])=M.pure [gv b w (.bool (c&&e))]:=by
 cases b<;>cases w<;>cases c<;>rfl
@[simp high] theorem uS(b c:Bool):aO (.bool b) (gv b true (.bool c)) (.bool false)=some (.bool (b&&c)):=by cases b<;>rfl
@[simp high] theorem xr(b c:Bool):aO (.bool b) (.bool true) (gv b false (.bool c))=some (.bool (b||c)):=by cases b<;>rfl
@[simp] theorem yM(w:Bool)(n:Nat)(m:M (List AV)):au (.bool !w) w n m=M.pure (List.replicate n (.tup [])):=by cases w<;>rfl
@[simp] theorem a8(w:Bool)(n:Nat)(m:M (List AV)):au (.bool w) w n m=m:=by cases w<;>rfl
@[simp] theorem dW(n:Nat)(m:M (List AV)):au (.bool false) true n m=M.pure (List.replicate n (.tup [])):=rfl
@[simp] theorem dX(n:Nat)(m:M (List AV)):au (.bool true) false n m=M.pure (List.replicate n (.tup [])):=rfl
@[simp] theorem eX(w:Bool)(n:Nat)(m:M (List AV)):au (.tup []) w n m=M.pure (List.replicate n (.tup [])):=rfl
@[simp] theorem bK(x y:AV):aO (.bool true) x y=some x:=rfl
@[simp] theorem bH(x y:AV):aO (.bool false) x y=some y:=rfl
@[simp] theorem aH(x:AV)(l:List AV):nth (x:: l) 0=x:=rfl
@[simp] theorem aQ(x:AV)(l:List AV)(n:Nat):nth (x:: l) (n+1)=nth l n:=rfl
@[simp] theorem cQ{α:Type}(k:List AV->M α)(m:(List AV->M α)->M α):jn k m=m k:=rfl
@[simp] theorem e7{α:Type}(a:α):cG (M.pure a)=M.pure a:=rfl
@[simp] theorem bl(b:Bool):iz .not (.bool b)=some (.bool !b):=rfl
@[simp] theorem bD(l:List AV)(i:Nat):cg (.tup l) i=l[i]?:=rfl
@[simp] theorem zZ:True:=trivial
@[simp] theorem BA(l k:Nat):db (.hp l k)=some (.hp l k):=rfl
@[simp] theorem BC(cs:List AV):db (.ip cs)=some (.ip cs):=rfl
@[simp] theorem Al(s:List UInt8):ab (.str s)=[.str s]:=rfl
@[simp] theorem Aj(k:IntKind)(n:Int):ab (.int k n)=[.int k n]:=rfl
@[simp] theorem Ai(cs:List AV):ab (.agg cs)=cs:=rfl
@[simp] theorem yk(T:TT)(t:Nat)(a b:Int):ao T .add t (.int .i64 a) (.int .i64 b)=some (.int .i64 (IntKind.i64.wrap (a+b))):=rfl
@[simp] theorem D7(T:TT)(t:Nat)(a b:Int):ao T .sub t (.int .i64 a) (.int .i64 b)=some (.int .i64 (IntKind.i64.wrap (a-b))):=rfl
@[simp] theorem D5(T:TT)(t:Nat)(a b:Int):ao T .mul t (.int .i64 a) (.int .i64 b)=some (.int .i64 (IntKind.i64.wrap (a*b))):=rfl
@[simp] theorem ym(T:TT)(t:Nat)(a b:Int):ao T .lss t (.int .i64 a) (.int .i64 b)=some (.bool (decide (a<b))):=rfl
@[simp] theorem D4(T:TT)(t:Nat)(a b:Int):ao T .leq t (.int .i64 a) (.int .i64 b)=some (.bool (decide (a<=b))):=rfl
@[simp] theorem D3(T:TT)(t:Nat)(a b:Int):ao T .gtr t (.int .i64 a) (.int .i64 b)=some (.bool (decide (b<a))):=rfl
@[simp] theorem D2(T:TT)(t:Nat)(a b:Int):ao T .geq t (.int .i64 a) (.int .i64 b)=some (.bool (decide (b<=a))):=rfl
@[simp] theorem yl(T:TT)(t:Nat)(a b:Int):ao T .eql t (.int .i64 a) (.int .i64 b)=some (.bool (a== b)):=rfl
@[simp] theorem D6(T:TT)(t:Nat)(a b:Int):ao T .neq t (.int .i64 a) (.int .i64 b)=some (.bool (a != b)):=rfl
@[simp] theorem Eh(T:TT)(t:Nat)(a b:List UInt8):ao T .eql t (.str a) (.str b)=some (.bool (a== b)):=rfl
@[simp] theorem El(T:TT)(t:Nat)(a b:List UInt8):ao T .neq t (.str a) (.str b)=some (.bool !(a== b)):=rfl
@[simp] theorem Ek(T:TT)(t:Nat)(a b:List UInt8):ao T .lss t (.str a) (.str b)=some (.bool (aV a b)):=rfl
@[simp] theorem Ei(T:TT)(t:Nat)(a b:List UInt8):ao T .geq t (.str a) (.str b)=some (.bool !(aV a b)):=rfl
@[simp] theorem cz{n:Nat}{x:AV}(h:bq n x=true):bT n x=M.pure (.agg (ab x)):=by
 unfold bT fJ;rw[h];rfl
@[simp] theorem bN{n:Nat}{x:AV}(h:bq n x=true):aU n [] x=M.pure (.agg (ab x)):=by
 unfold aU fJ;rw[h];rfl
@[simp] theorem B1(b:Bool)(x:AV):fZ b [x]=some x:=by simp[fZ]
@[simp] theorem B2(b:Bool)(a c:Int):fZ b [.int .i64 a,.int .i64 c]=some (.int .i64 (if b=true then max a c else min a c)):=by
 cases b
 ·simp only[fZ,xk,F0];congr 2;simp only[Int.min_def];split<;>split<;>simp_all<;>omega
 ·simp only[fZ,xk,FW];congr 2;simp only[Int.max_def];split<;>split<;>simp_all<;>omega
def bA{x:Int}(h1:-9223372036854775808<=x)(h2:x<=9223372036854775807):IntKind.i64.wrap x=x:=IntWalk.i64_in _ ⟨h1,h2⟩
def xY{n:Nat}(h:n<=4611686018427387904):IntKind.i64.wrap (n:Int)=(n:Int):=IntWalk.i64_in _ (by omega)
def oe{n:Nat}(h:n<=4611686018427387904):IntKind.i64.wrap ((n:Int)+1)=((n+1:Nat):Int):=by
 rw[IntWalk.i64_in _ (by omega)];omega
def vp{n:Nat}(h:n<=4611686018427387904):IntKind.i64.wrap (((n+1:Nat):Int)-1)=(n:Int):=by
 rw[IntWalk.i64_in _ (by omega)];omega
namespace Ap
mutual
def Val.sz:Val->Nat
 |.mk _ _ ns vs=>1+ns.length+bh vs
def bh:List Val->Nat
 |[]=>0
 |v:: vs=>v.sz+bh vs
end
theorem my:{l:List Val} ->{v:Val} ->v∈l->v.sz<=bh l
 |w:: l,v,h=>by
  simp only[bh];rcases Gp.1 h with rfl|h
  ·omega
  ·have:=my h;omega
def Val.sz_pos(v:Val):1<=v.sz:=by cases v;simp[Val.sz];omega
theorem fV:(l:List Val)->l.length<=bh l
 |[]=>by simp
 |v:: l=>by have:=fV l;have:=v.sz_pos;simp only[bh,Ge];omega
def Val.sz_names(v:Val):v.names.length<=v.sz:=by cases v;simp[Val.sz,Val.names];omega
def Val.sz_values(v:Val):bh v.values<v.sz:=by cases v;simp[Val.sz,Val.values];omega
def Val.sz_len(v:Val):v.values.length<v.sz:=Nat.lt_of_le_of_lt (fV _) v.sz_values
def Fz{v x:Val}(h:x∈v.values):x.sz<v.sz:=Nat.lt_of_le_of_lt (my h) v.sz_values
end Ap
end Go.Av
namespace Go.Av
def bE{α:Type}(F:α->Bool):List α->Int->Int
 |[],_=>-1
 |x:: l,i=>if F x=true then i else bE F l (i+1)
theorem qj{α:Type}(F:α->Bool):(l:List α)->(i:Int)->0<=i->(0<=bE F l i↔l.any F=true)
 |[],i,_=>by simp[bE]
 |x:: l,i,h=>by
  simp only[bE];split
  ·rename_i hx;simp[hx,h]
  ·rename_i hx;rw[qj F l (i+1) (by omega)];simp[hx]
def ny{α:Type}(F:α->Bool)(l:List α):decide (0<=bE F l 0)=l.any F:=by
 have:=qj F l 0 (by omega)
 cases h:l.any F with
 |true=>simp[this.2 h]
 |false=>simp only[G6];intro hh;rw[this.1 hh]at h;cases h
@[simp] theorem z1(a b:Nat):((a:Int)== (b:Int))=(a== b):=by rw[GZ];simp;omega
@[simp] theorem yY(a:Nat):((a:Int)== 0)=(a== 0):=by rw[GZ];simp
@[simp] theorem z6(a b:Nat):((a:Int) != (b:Int))=(a != b):=by rw[GZ];simp;omega
end Go.Av
namespace Go.Av
open Ap
@[simp high] theorem A7(x:Val):bT 4 (Val.av x)=M.pure (Val.av x):=by rw[cz (iW x),kV,qc]
@[simp high] theorem yw(x:Val):aU 4 [] (Val.av x)=M.pure (Val.av x):=by rw[bN (iW x),kV,qc]
@[simp high] theorem A1(x:Exp):bT 6 (Exp.av x)=M.pure (Exp.av x):=by rw[cz (l3 x),kP,pY]
@[simp high] theorem yp(x:Exp):aU 6 [] (Exp.av x)=M.pure (Exp.av x):=by rw[bN (l3 x),kP,pY]
@[simp high] theorem A2(x:dQ):bT 3 (bQ x)=M.pure (bQ x):=by rw[cz (l4 x),kQ,pZ]
@[simp high] theorem yq(x:dQ):aU 3 [] (bQ x)=M.pure (bQ x):=by rw[bN (l4 x),kQ,pZ]
@[simp high] theorem A3(x:Fun):bT 12 (Fun.av x)=M.pure (Fun.av x):=by rw[cz (l5 x),kR,p7]
@[simp high] theorem yr(x:Fun):aU 12 [] (Fun.av x)=M.pure (Fun.av x):=by rw[bN (l5 x),kR,p7]
@[simp high] theorem A4(x:Mod):bT 9 (Mod.av x)=M.pure (Mod.av x):=by rw[cz (l6 x),kS,p8]
@[simp high] theorem yt(x:Mod):aU 9 [] (Mod.av x)=M.pure (Mod.av x):=by rw[bN (l6 x),kS,p8]
@[simp high] theorem zR(x:Vars):bT 2 (Vars.av x)=M.pure (Vars.av x):=by rw[cz (nM x),jN,np]
@[simp high] theorem x8(x:Vars):aU 2 [] (Vars.av x)=M.pure (Vars.av x):=by rw[bN (nM x),jN,np]
@[simp high] theorem zQ(x:Deed):bT 3 (Deed.av x)=M.pure (Deed.av x):=by rw[cz (nL x),jM,nk]
@[simp high] theorem x7(x:Deed):aU 3 [] (Deed.av x)=M.pure (Deed.av x):=by rw[bN (nL x),jM,nk]
@[simp high] theorem zP(x:Ap.Call):bT 3 (Ap.Call.av x)=M.pure (Ap.Call.av x):=by rw[cz (nK x),jL,nj]
@[simp high] theorem x6(x:Ap.Call):aU 3 [] (Ap.Call.av x)=M.pure (Ap.Call.av x):=by rw[bN (nK x),jL,nj]
@[simp high] theorem A5(x:Ap.Out):bT 8 (Ap.Out.av x)=M.pure (Ap.Out.av x):=by rw[cz (qG x),kT,p9]
@[simp high] theorem yu(x:Ap.Out):aU 8 [] (Ap.Out.av x)=M.pure (Ap.Out.av x):=by rw[bN (qG x),kT,p9]
@[simp] theorem iV(t:Ty):bq 2 t.av=true:=by simp[bq,be,cj]
@[simp high] theorem BU(x:Ty):bT 2 (Ty.av x)=M.pure (Ty.av x):=by rw[cz (iV x),mP,tg]
@[simp high] theorem zS(x:Ty):aU 2 [] (Ty.av x)=M.pure (Ty.av x):=by rw[bN (iV x),mP,tg]
end Go.Av
namespace Go.Av
@[simp] theorem x9(c:Prop)[Decidable c](a b:Bool):(if c then(M.pure (.bool a):M AV)else M.pure (.bool b))=M.pure (.bool (if c then a else b)):=by split<;>rfl
@[simp] theorem yN(c:Prop)[Decidable c](a b:Int):(if c then(M.pure (.int .i64 a):M AV)else M.pure (.int .i64 b))=M.pure (.int .i64 (if c then a else b)):=by split<;>rfl
def yJ{F:(List AV->M AV)->List AV->M AV}(hF:∀vs,ai F vs=F (ai F) vs)(st:Nat->List AV)(n:Nat)(G:Nat->Bool)(hend:F (ai F) (st n)=M.pure (.bool true))(hstep:∀k,k<n->F (ai F) (st k)=if G k=true then ai F (st (k+1))else M.pure (.bool false)):
  ∀k,k<=n->ai F (st k)=M.pure (.bool ((List.range' k (n-k)).all G)):=by
 have key:∀r k,n-k=r->k<=n->ai F (st k)=M.pure (.bool ((List.range' k r).all G)):=by
  intro r
  induction r with
  |zero=>
   intro k hr hk;obtain rfl:k=n:=by omega
   rw[hF,hend];rfl
  |succ r ih=>
   intro k hr hk;rw[hF,hstep k (by omega),ih (k+1) (by omega) (by omega)];simp only[List.range'_succ,GR];cases G k<;>rfl
 exact fun k hk=>key (n-k) k rfl hk
def rt{α:Type}[Inhabited α](P:α->Bool)(l:List α):(List.range' 0 l.length).all (fun k=>P l[k]!)=l.all P:=by
 rw[GZ];simp only[F9,List.mem_range'_1];constructor
 ·intro h x hx;obtain⟨i,hi,rfl⟩:=List.getElem_of_mem hx
  have:=h i ⟨G4 _,by omega⟩
  rwa [GK l i hi]at this
 ·intro h k hk;have hk':k<l.length:=by omega
  rw[GK l k hk'];exact h _ (Gs hk')
def lh(s:List UInt8):Bool:=s.all fun b=>decide (b.toNat<128)
def dq(cs:List UInt8):List UInt8->Int->Int
 |[],_=>-1
 |b:: s,i=>if cs.contains b=true then i else dq cs s (i+1)
def eP:(FuncId->List AV->M AV)->List AV->M AV:=fun _ args=>match args with
 |[.str s,.str cs]=>ah (bif decide (s.length<4294967281)&&decide (cs.length<1000)&&lh cs then some (.int .i64 (dq cs s 0))else none)
 |_=>M.fail
def strsOf:List AV->Option (List (List UInt8))
 |[]=>some []
 |.str s:: r=>(strsOf r).map (s:: ·)
 |_=>none
def bn(sep:List UInt8):List (List UInt8)->List UInt8
 |[]=>[]
 |[a]=>a
 |a:: b:: l=>a++(sep++bn sep (b:: l))
def nC:(FuncId->List AV->M AV)->List AV->M AV:=fun _ args=>match args with
 |[.sl es,.str sep]=>ah (match strsOf es with
  |some l=>bif decide (l.length<=140737488355328)&&decide ((bn sep l).length<=140737488355328)then some (.str (bn sep l))else none
  |none=>none)
 |_=>M.fail
def dl(b:UInt8):Bool:=(decide (97<=b.toNat)&&decide (b.toNat<=122))||(decide (65<=b.toNat)&&decide (b.toNat<=90))||(decide (48<=b.toNat)&&decide (b.toNat<=57))||decide (b.toNat=95)
def bX(s:List UInt8):Bool:=!s.isEmpty&&s.all dl
def jy:(FuncId->List AV->M AV)->List AV->M AV:=fun _ args=>match args with
 |[.str s]=>ah (bif decide (s.length<4294967281)then some (.bool (bX s))else none)
 |_=>M.fail
def lu:AV:=.tup [.agg [.int .i64 0,.int .i64 0,.sl [],.sl []],.int .i64 34]
def dI(ft:TypeId):R AV->R AV
 |.ok v h=>.ok v h
 |.pan (.iface t (.agg [])) h=>bif Nat.beq t ft then .ok lu []else .fail
 |.pan _ _=>.fail
 |.fail=>.fail
def kd:M AV:=fun h=>match h[0]? with
 |some [AV.str s]=>.ok (.str s) h
 |_=>.fail
def ui(sz:Nat)(v:AV):M AV:=fun h=>bif bq sz v then .ok v h else .fail
def rO:AV->Option AV
 |.str s=>some (.bool s.isEmpty)
 |_=>none
def nP(ft:TypeId)(value has:FuncId)(call:FuncId->List AV->M AV)(t:AV):M AV:=
 ae (call value [.hp 0 0,.int .i64 4]) fun v=>ae (ui 4 v) fun _=>ae kd fun s=>ae (ah (rO s)) fun b=>
  aB b (ae (call has [t,v]) fun r=>aB r (M.pure (.tup [.agg (ab v),.int .i64 0])) (dy (.iface ft (.agg [])))) (dy (.iface ft (.agg [])))
def i8(ft:TypeId)(value has:FuncId)(call:FuncId->List AV->M AV):List AV->M AV:=fun args h=>match args,h with
 |[t,.str s],[]=>bif bq 2 t then dI ft (nP ft value has call t [[AV.str s]])else .fail
 |_,_=>.fail
def md(ft:TypeId)(value has:FuncId):(FuncId->List AV->M AV)->List AV->M AV:=fun call=>eG (i8 ft value has call)
def aE.cond{b:AV}{x y:M AV}{xs ys:Nat->M AV}(hx:aE x xs)(hy:aE y ys):aE (aB b x y) fun n=>aB b (xs n) (ys n):=by
 unfold aB;split
 ·exact hx
 ·exact hy
 ·exact aE.const _
def uW(ft:TypeId)(value has:FuncId)(call:FuncId->List AV->M AV)(calls:Nat->FuncId->List AV->M AV)(hc:∀f,a6 (call f) fun n=>calls n f):a6 (md ft value has call) fun n=>md ft value has (calls n):=by
 have hI:a6 (i8 ft value has call) fun n=>i8 ft value has (calls n):=by
  intro args h;rcases args with _|⟨t,_|⟨x,_|⟨y,r⟩⟩⟩
  ·exact aE.const (fun _=>.fail) h
  ·exact aE.const (fun _=>.fail) h
  ·have hB:aE (nP ft value has call t) fun n=>nP ft value has (calls n) t:=
    aE.bnd (hc value _) fun v=>aE.bnd (aE.const _) fun _=>aE.bnd (aE.const _) fun s=>aE.bnd (aE.const _) fun b=>aE.cond (aE.bnd (hc has _) fun r=>aE.cond (aE.const _) (aE.const _)) (aE.const _)
   cases x
   case str s=>
    cases h with
    |nil=>exact qJ (fun r=>bif bq 2 t then dI ft r else .fail) (by cases bq 2 t<;>rfl) hB [[AV.str s]]
    |cons a b=>exact aE.const (fun _=>.fail) (a:: b)
   all_goals exact aE.const (fun _=>.fail) h
  ·cases x<;>exact aE.const (fun _=>.fail) h
 intro args h;obtain⟨h1,h2⟩:=hI (di az args) []
 (try dsimp only at h1 h2)
 refine⟨fun hne=>?_,fun n hne=>?_⟩
 ·obtain⟨N,hN⟩:=h1 (fun hf=>hne (by show eG _ _ _=_;unfold eG;rw[hf]));refine⟨N,fun n hn=>?_⟩;show eG _ _ _=eG _ _ _;unfold eG;rw[hN n hn]
 ·have:=h2 n (fun hf=>hne (by show eG _ _ _=_;unfold eG;rw[hf]))
  show eG _ _ _=eG _ _ _;unfold eG;rw[this]
end Go.Av
namespace Go.Av.Ap
def vq(l:List Ty):AV:=.sl (l.map Ty.av)
structure Sig where
 name:aJ
 params:List Ty
 result:Ty
 effects:Int
 deriving Inhabited
structure Face where
 module:aJ
 funcs:List Sig
 deriving Inhabited
structure Vsn where
 major:Int
 minor:Int
 patch:Int
 deriving Inhabited,DecidableEq
def Sig.cells(s:Sig):List AV:=[.str s.name,vq s.params,.int .i64 s.result.kind,cj s.result.fields,.int .i64 s.effects]
def Sig.av(s:Sig):AV:=.agg s.cells
def sigs(l:List Sig):AV:=.sl (l.map Sig.av)
def Face.cells(f:Face):List AV:=[.str f.module,sigs f.funcs]
def Face.av(f:Face):AV:=.agg f.cells
def wC(l:List Face):AV:=.sl (l.map Face.av)
def Vsn.av(v:Vsn):AV:=.agg [.int .i64 v.major,.int .i64 v.minor,.int .i64 v.patch]
@[simp] theorem kU(s:Sig):ab s.av=[.str s.name,vq s.params,.int .i64 s.result.kind,cj s.result.fields,.int .i64 s.effects]:=rfl
@[simp] theorem zk(f:Face):ab f.av=[.str f.module,sigs f.funcs]:=rfl
@[simp] theorem Am(v:Vsn):ab v.av=[.int .i64 v.major,.int .i64 v.minor,.int .i64 v.patch]:=rfl
@[simp] theorem qa(s:Sig):AV.agg [.str s.name,vq s.params,.int .i64 s.result.kind,cj s.result.fields,.int .i64 s.effects]=s.av:=rfl
@[simp] theorem BV(f:Face):AV.agg [.str f.module,sigs f.funcs]=f.av:=rfl
@[simp] theorem De(v:Vsn):AV.agg [.int .i64 v.major,.int .i64 v.minor,.int .i64 v.patch]=v.av:=rfl
@[simp] theorem iV(t:Ty):bq 2 t.av=true:=by simp[bq,be,cj]
@[simp] theorem Dq(l:List Ty):cJ 2 (l.map Ty.av)=true:=cB iV l
@[simp] theorem DJ(s:Sig):bS s.av=some 5:=rfl
@[simp] theorem Ce(s:Face):bS s.av=some 2:=rfl
@[simp] theorem DL(s:Vsn):bS s.av=some 3:=rfl
@[simp] theorem l7(s:Sig):bq 5 s.av=true:=by simp[bq,be,cj,vq]
@[simp] theorem uQ(s:Face):bq 2 s.av=true:=by simp[bq,be,sigs]
@[simp] theorem Dp(s:Vsn):bq 3 s.av=true:=rfl
@[simp] theorem B9(l:List Sig):cJ 5 (l.map Sig.av)=true:=cB l7 l
@[simp] theorem BE(l:List Face):cJ 2 (l.map Face.av)=true:=cB uQ l
@[simp] theorem Bc(g:Nat->Nat->Nat->Nat->Bool->AV)(l:List Ty):cl g (vq l)=vq l:=by simp[vq,cl,c7 g Ty.av (s7 g)]
@[simp] theorem wj(g:Nat->Nat->Nat->Nat->Bool->AV)(s:Sig):cl g s.av=s.av:=by unfold Sig.av Sig.cells;simp only[cl,di,Bc,yz]
@[simp] theorem yC(g:Nat->Nat->Nat->Nat->Bool->AV)(l:List Sig):cl g (sigs l)=sigs l:=by simp[sigs,cl,c7 g Sig.av (wj g)]
@[simp] theorem s6(g:Nat->Nat->Nat->Nat->Bool->AV)(s:Face):cl g s.av=s.av:=by unfold Face.av Face.cells;simp only[cl,di,yC]
@[simp] theorem CZ(g:Nat->Nat->Nat->Nat->Bool->AV)(l:List Face):cl g (wC l)=wC l:=by simp[wC,cl,c7 g Face.av (s6 g)]
@[simp] theorem ES(g:Nat->Nat->Nat->Nat->Bool->AV)(s:Vsn):cl g s.av=s.av:=by unfold Vsn.av;simp only[cl,di]
@[simp] theorem Ee(v:Ty):aS (M.pure v.av)=M.pure v.av:=ca fun g=>s7 g v
@[simp] theorem Dl(v:Sig):aS (M.pure v.av)=M.pure v.av:=ca fun g=>wj g v
@[simp] theorem BX(v:Face):aS (M.pure v.av)=M.pure v.av:=ca fun g=>s6 g v
end Go.Av.Ap
namespace Go.Av
open Go.RowKit Go.Sort Go.Proofs
section
variable [Dr]
end
section
variable {α:Type} [Inhabited α]
end
section
variable [Dr] {S:am} {β:List a7} {h:Hp} {w w':World}
end
theorem FO{S:am}{β:List a7}:{ps qs:List AV} ->{vs:List Value} ->aP S β (ps++qs) vs->∃u v,vs=u++v/\aP S β ps u/\aP S β qs v
 |[],_,vs,h=>⟨[],vs,rfl,by simp[aP],h⟩
 |_:: ps,qs,vs,h=>by
  simp only[GH,aP]at h;obtain⟨x,xs,rfl,h1,h2⟩:=h;obtain⟨u,v,rfl,h3,h4⟩:=FO h2;exact⟨x:: u,v,rfl,by simp only[aP];exact⟨x,u,rfl,h1,h3⟩,h4⟩
section
variable [Dr] {α:Type} [Inhabited α] {P:Program}
end
end Go.Av
namespace Go.Av
open Go.RowKit Go.Sort Go.Proofs
section
variable [Dr] {P:Program}
end
end Go.Av
namespace Go.Av.Sb
open Go Go.Shelf Go.RowKit Go.Lib Go.Proofs
variable {P:Program} {ρ:Ren}
theorem pJ(n b0 b1 b2 b3:Nat)(h0:b0<256):(decodeN n b0 b1 b2 b3).1<55296\/(57343<(decodeN n b0 b1 b2 b3).1/\(decodeN n b0 b1 b2 b3).1<=1114111):=by
 unfold decodeN
 repeat' split
 all_goals (simp only;omega)
theorem rL(s:ByteArray)(i:Nat):Lib.validRune ((Utf8.decode s i).1:Int)=true:=by
 have h:=pJ (s.size-i) (s.get! i).toNat (s.get! (i+1)).toNat (s.get! (i+2)).toNat (s.get! (i+3)).toNat (UInt8.toNat_lt _);rw[<- decode_at]at h;simp only[Lib.validRune,F5];omega
theorem wN(s:ByteArray)(j:Nat)(h:j<s.size):s.get! j=s[j]'h:=by
 simp[ByteArray.get!,GK,h];rfl
theorem pK(s:ByteArray)(pos:Nat)(h:pos<s.size)(ha:128<=(s[pos]'h).toNat):∀k,k<(Utf8.decode s pos).2->pos+k<s.size/\128<=(s.get! (pos+k)).toNat:=by
 have h0:128<=(s.get! (pos+0)).toNat:=by rw[GX,wN s pos h];exact ha
 have hn:¬(s.get! (pos+0)).toNat<128:=by omega
 intro k hk;simp only[Utf8.decode,hn,Gl]at hk;have one:k<1->pos+k<s.size/\128<=(s.get! (pos+k)).toNat:=fun h1=>by
  have:k=0:=by omega
  subst this;exact⟨h,h0⟩
 split at hk
 ·rename_i c;simp only[FV,F5,GG]at c;split at hk
  ·match k,hk with
   |0,_=>exact⟨h,h0⟩
   |1,_=>exact⟨c.2.1,by omega⟩
  ·exact one hk
 ·split at hk
  ·rename_i c;simp only[FV,F5,GG]at c;split at hk
   ·match k,hk with
    |0,_=>exact⟨h,h0⟩
    |1,_=>exact⟨c.1.2.1,by omega⟩
    |2,_=>exact⟨c.2.1,by omega⟩
   ·exact one hk
  ·split at hk
   ·rename_i c;simp only[FV,F5,GG]at c;split at hk
    ·match k,hk with
     |0,_=>exact⟨h,h0⟩
     |1,_=>exact⟨c.1.1.2.1,by omega⟩
     |2,_=>exact⟨c.1.2.1,by omega⟩
     |3,_=>exact⟨c.2.1,by omega⟩
    ·exact one hk
   ·exact one hk
theorem indexByte_none{y:UInt8}:∀ {l:List UInt8},y ∉ l->Lib.indexByte l y= -1
 |[],_=>rfl
 |b:: l,h=>by
  rw[Gp,not_or]at h;have hb:(b== y)=false:=by simpa using fun e=>h.1 e.symm
  rw[Lib.indexByte,hb,indexByte_none h.2];rfl
set_option maxHeartbeats 4000000 in
set_option maxRecDepth 1000000 in
theorem lK(L:Lays.n152 P ρ)(s:ByteArray)(r:Int)(w:World)(hr:128<=r)(hv:Lib.validRune r=true)(_hs:s.size<4294967281)(hascii:∀(j:Nat) b,s.data.toList[j]? = some b->b.toNat<128):
  Calls P (ρ.f 152) #[.string s,.int .i32 r] w fun e w'=>e= .returned (.int .i64 (-1))/\Below w.heap.size w w':=by
 have HA:Aside (∀(j:Nat) b,s.data.toList[j]? = some b->b.toNat<128):=hascii;clear hascii;have mixed:=L.mixed;have t3:=L.t3;have a3:=L.a3;have z3:=L.z3;have v3:=L.v3;have t4:=L.t4;have a4:=L.a4;have z4:=L.z4;have v4:=L.v4;have t5:=L.t5;have a5:=L.a5;have z5:=L.z5;have v5:=L.v5;have t9:=L.t9;have a9:=L.a9;have z9:=L.z9;have v9:=L.v9;have t21:=L.t21;have a21:=L.a21;have z21:=L.z21;have v21:=L.v21;have e119:∀args w,(callFunc (ρ.f 119) args).run P w= .ok (.enter (ρ.f 119) args) w:=enters_of L.f119 (by kernel_rfl) rfl;have e137:∀args w,(callFunc (ρ.f 137) args).run P w= .ok (.enter (ρ.f 137) args) w:=enters_of L.f137 (by kernel_rfl) rfl;have hlo:¬r<128:=by omega
 by_cases he:r=65533
 ·subst he
  go_enter L.f152,Body.n152_ntmps ρ
  go_wp2
  go_loopg [5,6] s.size (fun g _ _ wx=>∃i:Nat,i+g=s.size/\wx=w.iter s i)
  case atStart=>exact⟨0,by omega,rfl⟩
  case round=>
   obtain⟨i,hig,rfl⟩:=hrel;cases gk with
   |zero=>
    obtain rfl:i=s.size:=by omega
    have hnx:=run_next_end (P:=P) w s s.size
    go_wp2
    go_ret
    exact⟨rfl,(Below.refl _ _).alloc (FZ _) _⟩
   |succ g=>
    have hi:i<s.size:=by omega
    obtain⟨x,hx⟩:∃x:UInt8,s[i]'hi=x:=⟨_,rfl⟩;have hxl:s.data.toList[i]? = some x:=by rw[<- hx];exact Lib.data_getElem? s i hi
    have hx128:x.toNat<128:=HA.out i x hxl;have hnx:=fun ty=>run_next_ascii (P:=P) w s i ty hi (by rw[hx];exact hx128);rw[hx]at hnx;clear hxl hx;have hne:¬((x.toNat:Int)=65533):=by omega
    go_wp2
    go_roundg g
    case measure=>omega
    case rel=>exact⟨i+1,by omega,rfl⟩
 ·have hvu:Utf8.valid r=true:=by
   simp only[Lib.validRune,F5]at hv;simp only[Utf8.valid,GE,FV,F5];omega
  obtain⟨n2,n4,hlast⟩:=encode_facts r hvu hr;obtain⟨rs,hrs⟩:∃rs,rs=Utf8.encode r:=⟨_,rfl⟩;rw[<- hrs]at n2 n4 hlast;have hVR:Calls P (ρ.f 119) #[.int .i32 r] w fun e w'=>e= .returned (.bool true)/\w'=w:=(Any.utf8_ValidRune { L with } r w).mono fun e w' h=>by
   have h1:=h.1;rw[show Lib.validRune r=true from hv]at h1;exact⟨h1,h.2⟩
  have hcv:∀w,(convert (ρ.t 21) (ρ.t 9) (.int .i32 r)).run P w= .ok (.string rs) w:=fun w=>by
   rw[hrs];exact run_convert_int_string w _ _ _ _ (by rw[t21];rfl) t9
  clear hrs;have h21:(P.underlying (ρ.t 21)).isSome=true:=by rw[t21];rfl
  go_enter L.f152,Body.n152_ntmps ρ
  go_wp2_with (go_at_fn (ρ.f 119);refine hVR.mono ?_;rintro e w' ⟨rfl,hw⟩;rw[hw])
  obtain⟨k,hk⟩:∃k:Nat,rs.size=k+1:=⟨rs.size-1,by omega⟩;have hkz:(rs.size:Int)-1=(k:Int):=by omega
  have hkl:k<rs.size:=by omega
  obtain⟨y,hy⟩:∃y:UInt8,rs[k]'hkl=y:=⟨_,rfl⟩;have hy128:128<=y.toNat:=by
   have:=hlast (by omega)
   have e:rs.size-1=k:=by omega
   simp only[e,hy]at this;exact this
  clear hlast;refine wp_scope_straight ?_
  go_wp2
  go_loopg [9,10,11,12] 1 (fun g s9 _ _ _ wx=>s9= .int .i64 (k:Int)/\wx=w)
  case atStart=>exact⟨rfl,rfl⟩
  case round=>
   obtain⟨rfl,rfl⟩:=hrel;by_cases hks:k<s.size
   ·obtain⟨x,hx⟩:∃x:UInt8,s[k]'hks=x:=⟨_,rfl⟩;have hxl:s.data.toList[k]? = some x:=by rw[<- hx];exact Lib.data_getElem? s k hks
    have hx128:x.toNat<128:=HA.out k x hxl;have hxy:¬((x.toNat:Int)=(y.toNat:Int)):=by omega
    have hkz2:(k:Int)<(s.size:Int):=by omega
    go_wp2
    refine wp_scope_straight ?_
    go_wp2_with (go_at_fn (ρ.f 137);refine (Any.strings_IndexByte { L with } _ _ _).mono ?_;rintro e w' ⟨rfl,hw⟩;rw[hw])
    have u9:=run_underlying L.t9;have hw1:IntKind.i64.wrap ((k:Int)+1)=(k:Int)+1:=by rw[IntKind.wrap_i64];omega
    have hk1:(k:Int)+1<=(s.size:Int):=by omega
    have hk0:(0:Int)<=(k:Int)+1:=by omega
    have htn:((k:Int)+1).toNat=k+1:=by omega
    have hxy':((x.toNat:Int) != (y.toNat:Int))=true:=bne_iff_ne.2 hxy
    go_region_o
    go_wp2
    go_region_with_o (refine (Any.strings_IndexByte { L with } _ _ _).mono ?_;rintro e w' ⟨rfl,rfl⟩)
    have hib:Lib.indexByte (List.take (s.size-(k+1)) (List.drop (k+1) s.data.toList)) y= -1:=indexByte_none fun hm=>by
     obtain⟨j,hj⟩:=List.mem_iff_getElem?.1 (List.mem_of_mem_drop (Hr hm))
     have:=HA.out j y hj
     omega
    rw[hib]
    go_wp2
    dsimp only[Exit.noGoto,Exit.inBlock,Exit.then]
    go_ret
    exact⟨rfl,(Below.refl _ _).drew.drew⟩
   ·have hkz2:¬(k:Int)<(s.size:Int):=by omega
    go_wp2
    go_ret
    exact⟨rfl,Below.refl _ _⟩
theorem below_iterAt{B k:Nat}{a w:World}{s:ByteArray}{p:Nat}(h:Below B a w)(hk:B<=k):Below B a (w.iterAt k s p):=
 ⟨h.os,h.tape,h.output,by show a.heap.size<=(w.heap.setIfInBounds k _).size;rw[Array.size_setIfInBounds];exact h.size,fun j hj=>by
  rw[<- h.block j hj];show (w.heap.setIfInBounds k _)[j]? = _;rw[Hg];rw[if_neg (by omega)]⟩
theorem sn{s chars:List UInt8}{i d:Nat}(h:Lib.NoAny s chars i)(hs:∀k,k<d->∀b,s[i+k]? = some b->chars.contains b=false):Lib.NoAny s chars (i+d):=fun j b hj hb=>by
 by_cases hi:j<i
 ·exact h j b hi hb
 ·exact hs (j-i) (by omega) b (by rw[show i+(j-i)=j by omega];exact hb)
set_option maxHeartbeats 8000000 in
set_option maxRecDepth 1000000 in
theorem lJ(L:Lays.n153 P ρ)(s chars:ByteArray)(w:World)(h2:2<=chars.size)(h8:s.size<=8)(hcs:chars.size<4294967281)(hascii:∀(j:Nat) b,chars.data.toList[j]? = some b->b.toNat<128):
  Calls P (ρ.f 153) #[.string s,.string chars] w fun e w'=>e= .returned (.int .i64 (Lib.indexAny s.data.toList chars.data.toList))/\Below w.heap.size w w':=by
 have HA:Aside (∀(j:Nat) b,chars.data.toList[j]? = some b->b.toNat<128):=hascii;clear hascii;have hemp:chars.toList.isEmpty=false:=by
  rw[Lib.toList_data];cases h:chars.data.toList with
  |nil=>have:=Lib.size_eq chars;rw[h,GM]at this;omega
  |cons _ _=>rfl
 have hn1:((chars.size:Int)== 1)=false:=G9.2 (by omega);have h8z:decide ((8:Int)<(s.size:Int))=false:=Gr (by omega);have t3:=L.t3;have a3:=L.a3;have z3:=L.z3;have v3:=L.v3;have t4:=L.t4;have a4:=L.a4;have z4:=L.z4;have v4:=L.v4;have t5:=L.t5;have a5:=L.a5;have z5:=L.z5;have v5:=L.v5;have t9:=L.t9;have a9:=L.a9;have z9:=L.z9;have v9:=L.v9;have t21:=L.t21;have a21:=L.a21;have z21:=L.z21;have v21:=L.v21;have e152:∀args w,(callFunc (ρ.f 152) args).run P w= .ok (.enter (ρ.f 152) args) w:=enters_of L.f152 (by kernel_rfl) rfl;have e226:∀args w,(callFunc (ρ.f 226) args).run P w= .ok (.enter (ρ.f 226) args) w:=enters_of L.f226 (by kernel_rfl) rfl
 go_enter L.f153,Body.n153_ntmps ρ
 go_wp2_with (go_at_fn (ρ.f 226);refine (Any.strings_shouldUseASCIISet { L with } _ _).mono ?_;rintro e w' ⟨rfl,hw⟩;rw[hw,h8z])
 go_loopg [9,10] s.size (fun g _ _ wx=>∃i:Nat,i+g=s.size/\wx.heap[w.heap.size]? = some (.stringIter s i)/\Below w.heap.size w wx/\Lib.NoAny s.data.toList chars.data.toList i)
 case atStart=>exact⟨0,by omega,World.iter_heap w s 0,(Below.refl _ _).alloc (FZ _) _,Lib.NoAny.zero _ _⟩
 case round=>
  obtain⟨i,hig,hit,hbel,hno⟩:=hrel;have HN:Aside (Lib.NoAny s.data.toList chars.data.toList i):=hno;have HB:Aside (Below w.heap.size w wr):=hbel;have HI:Aside (wr.heap[w.heap.size]? = some (.stringIter s i)):=hit;clear hno hbel hit;by_cases hi:i<s.size
  ·obtain⟨x,hx⟩:∃x:UInt8,s[i]'hi=x:=⟨_,rfl⟩;have hxl:s.data.toList[i]? = some x:=by rw[<- hx];exact Lib.data_getElem? s i hi
   have Hx:Aside (s.data.toList[i]? = some x):=hxl;clear hxl;by_cases hx128:x.toNat<128
   ·have hnx:=fun ty=>run_next_ascii_at (P:=P) wr w.heap.size s i ty HI.out hi (by rw[hx];exact hx128);rw[hx]at hnx;clear hx;have hcon:=Lib.contains_iff_indexByte chars.data.toList x;have hback:((x.toNat:Int)).toNat.toUInt8=x:=by simp
    cases hin:chars.data.toList.contains x
    ·rw[hin]at hcon;have hlt:¬((0:Int)<=Lib.indexByte chars.data.toList x):=of_decide_eq_false hcon.symm;clear hcon
     go_wp2_with (go_at_fn (ρ.f 152);refine (Any.strings_IndexRune_ascii { L with } _ _ _ (by omega) (by omega)).mono ?_;rintro e w' ⟨rfl,hw⟩;rw[hw,hback])
     go_roundg (s.size-(i+1))
     case measure=>omega
     case rel=>exact⟨i+1,by omega,iterAt_heap _ _ _ _ _ HI.out,below_iterAt HB.out (FZ _),HN.out.succ Hx.out hin⟩
    ·rw[hin]at hcon;have hge:(0:Int)<=Lib.indexByte chars.data.toList x:=Hn hcon.symm;clear hcon
     go_wp2_with (go_at_fn (ρ.f 152);refine (Any.strings_IndexRune_ascii { L with } _ _ _ (by omega) (by omega)).mono ?_;rintro e w' ⟨rfl,hw⟩;rw[hw,hback])
     go_ret
     exact⟨by rw[Lib.indexAny_hit HN.out Hx.out hin];rfl,below_iterAt HB.out (FZ _)⟩
   ·have hnx:=fun ty=>run_next_any_at (P:=P) wr w.heap.size s i ty HI.out hi;obtain⟨q1,q2⟩:=decode_high s i hi (by rw[hx];omega);have q3:=rL s i;have q4:=pK s i hi (by rw[hx];omega);generalize Utf8.decode s i=rd at hnx q1 q2 q3 q4;obtain⟨r,d⟩:=rd;dsimp only at hnx q1 q2 q3 q4;have hd:=(q4 (d-1) (by omega)).1;have Q4:Aside (∀k,k<d->i+k<s.size/\128<=(s.get! (i+k)).toNat):=q4;clear q4 hx;have hneg:¬((0:Int)<=-1):=by omega
    go_wp2_with (go_at_fn (ρ.f 152);refine (lK { L with } _ _ _ (by omega) q3 hcs HA.out).mono ?_;rintro e w' ⟨rfl,hw⟩)
    have hI2:=iterAt_heap wr w.heap.size s i (i+d) HI.out;have hlt:w.heap.size<(wr.iterAt w.heap.size s (i+d)).heap.size:=(GC.1 hI2).1
    go_roundg (s.size-(i+d))
    case measure=>omega
    case rel=>
     refine⟨i+d,by omega,(hw.block _ hlt).trans hI2,(below_iterAt HB.out (FZ _)).trans (hw.mono (Nat.le_of_lt hlt)),sn HN.out fun k hk b hb=>?_⟩;obtain⟨g1,g2⟩:=Q4.out k hk;have hbe:b=s.get! (i+k):=by
      rw[Lib.data_getElem? s (i+k) g1]at hb;cases hb;exact (wN s (i+k) g1).symm
     cases hc:chars.data.toList.contains b with
     |false=>rfl
     |true=>
      obtain⟨j,hj⟩:=List.mem_iff_getElem?.1 (HS.1 hc)
      have:=HA.out j b hj
      rw[hbe]at this;omega
  ·have hnx:=run_next_end_at (P:=P) wr w.heap.size s i (h:=hi) (hk:=HI.out)
   go_wp2
   go_ret
   exact⟨by rw[Lib.indexAny_none (by rw[<- Lib.size_eq,show s.size=i by omega];exact HN.out)];rfl,HB.out⟩
theorem oK(L:Lays.n153 P ρ)(h116:(P.info? (ρ.t 116)).map (fun i=>(i.zero,i.size))=some (some (.agg (Array.replicate 256 (.bool false))),256))(s chars:ByteArray)(w:World)(hs:s.size<4294967281)(hcs:chars.size<4294967281)(hac:∀(j:Nat) b,chars.data.toList[j]? = some b->b.toNat<128):
  Calls P (ρ.f 153) #[.string s,.string chars] w fun e w'=>e= .returned (.int .i64 (Lib.indexAny s.data.toList chars.data.toList))/\Below w.heap.size w w':=by
 by_cases h0:chars.size=0
 ·exact (Any.strings_IndexAny_none L s chars w h0).mono fun e w' ⟨h1,h2⟩=>⟨h1,h2▸Below.refl _ _⟩
 by_cases h1:chars.size=1
 ·exact (Any.strings_IndexAny_one L s chars w h1 hac).mono fun e w' ⟨h1,h2⟩=>⟨h1,h2▸Below.refl _ _⟩
 by_cases h8:s.size<=8
 ·exact lJ L s chars w (by omega) h8 hcs hac
 ·refine (Any.strings_IndexAny_long L (zero_of_info h116).1 (zero_of_info h116).2 s chars w (by omega) (by omega) hs hcs hac).mono fun e w' ⟨h1,h2⟩=>⟨h1,?_⟩;rw[h2];exact ((Below.refl _ _).alloc (FZ _) _).alloc (by simp) _
end Go.Av.Sb
namespace Go.Av
variable [Dr]
theorem jR{P:Program}{cx:Cx}{own:Option Nat}(hT:TOK P cx.T)(hC:bC P cx.own cx.call)(hI:IsoCall cx){f:FuncId}{fn:Func}(hf:P.funcs[f]? = some fn)(hnt:cx.nt=fn.ntmps){E:List AV->Hp->R AV}(h0:∀h,E [] h= .ok (.sl []) h)(h1:∀e es h,bU cx (bZ 0) fn own [.sl (e:: es)] h=E (e:: es) h)(h2:∀h,bU cx (bZ 0) fn own [.hn] h= .ok (.sl []) h)(h3:∀l off h,bU cx (bZ 0) fn own [.hs l off 0 1 false] h= .ok (.sl []) h){es:List AV}{h:Hp}{S:am}{β:List a7}{w:World}{vs:List Value}(hr:E es h≠.fail)(hg:kL S β h w)(hw:Wf S w)(hh:bm S β w h)(hv:aP S β [.sl es] vs):Calls P f vs.toArray w (cv own S β h w (E es h))/\fn.body.isSome=true:=by
 cases es with
 |cons e es=>
  rw[<- h1]at hr |-;exact eT hT hC hI 0 hf hnt hr hg hw hh hv
 | nil=>
  rw[h0];simp only[aP]at hv;obtain⟨v,_,rfl,hv,rfl⟩:=hv;have hv0:=hv;simp only[VR]at hv;obtain⟨a,cap,rfl,hc,hn,hq⟩:=hv;cases a with
  |none=>
   have hcap:=hn rfl;subst hcap;have hv2:aP S β [.hn] [.slice none ([]:List AV).length 0]:=by simp[aP,VR]
   have:=eT (own:=own) hT hC hI 0 hf hnt (args:=[.hn]) (h:=h) (by rw[h2];simp) hg hw hh hv2
   rw[h2]at this;exact this
  | some q=>
   obtain⟨hs,_⟩:=hq q rfl;have hX:bm S [(q.block,q.off+cap)] w [[]]:=⟨rfl,fun _=>.no,fun l cs hl hne=>by
    cases l with
    |zero=>simp at hl;exact absurd hl hne
    |succ l=>simp at hl⟩
   have hE:∀b,¬ba [(q.block,q.off+cap)] [[]] b:=by
    rintro b ⟨l,cs,n,k1,k2,_⟩;cases l with
    |zero=>simp at k1;exact k2 k1
    |succ l=>simp at k1
   have hv2:aP S [(q.block,q.off+cap)] [.hs 0 q.off 0 1 false] [.slice (some q) ([]:List AV).length cap]:=by
    simp only[aP,VR];rcases GF cap with h0|h0
    ·subst h0;exact⟨_,_,rfl,.inr ⟨trivial,q,rfl⟩,rfl⟩
    ·have hq':q=⟨q.block,q.off,none⟩:=by
      have:=hs h0
      cases q;simp_all
     exact⟨_,_,rfl,.inl ⟨(q.block,q.off+cap),cap,rfl,(by show q.off+cap≠0;omega),by rw[<- hq'];rfl,G4 _,by simp⟩,rfl⟩
   have:=eT (own:=own) hT hC hI 0 hf hnt (args:=[.hs 0 q.off 0 1 false]) (h:=[[]]) (by rw[h3];simp) ⟨hg.1,fun b _=>hE b,hg.2.2⟩ hw hX hv2
   rw[h3]at this;refine⟨this.1.mono fun en w' hp=>?_,this.2⟩;obtain⟨S',β',v,k1,k2,k3,k4⟩:=hp;obtain⟨S2,j1,j2,j3⟩:=tn hw hh hE k3;exact⟨S2,β,v,k1,j2 (.sl []) v k2,j1,fun sz hsz=>j3 sz v (k4 sz hsz)⟩
end Go.Av
namespace Go.Av
variable [Dr]
open Go.RowKit Go.WideShapes Go.ChangeShapes
theorem Left.below{S S':am}{β β':List a7}{w w':World}{h':Hp}(L:Left (ba [] []) S β w S' β' w' h'):Below w.heap.size w w':=
 ⟨L.gro.os,L.gro.tape,L.gro.out,L.gro.size,fun k hk=>(L.keep k hk (by rintro⟨l,_,_,h1,_⟩;simp at h1)).1⟩
def gV(W:World):am:=fun b o=>W.cell? ⟨b,o,none⟩
omit [Dr]in
theorem yd(W:World):Wf (gV W) W:=fun _ _ _ h=>h
omit [Dr]in
theorem uA{W:World}(h:GOKw W):kL (gV W) [] [] W:=⟨h,fun b _ ho=>by obtain⟨l,_,_,h1,_⟩:=ho;simp at h1,zg h⟩
theorem uI{P:Program}{p:Pg}(G:GoodPg P p)(hO:cN p){f:FuncId}{args:List AV}{vs:List Value}{W:World}(hg:GOKw W)(hv:aP (gV W) [] args vs)(ht:af p f args []= .ok (.bool true) []):Calls P f vs.toArray W fun e W'=>e= .returned (.bool true)/\Below W.heap.size W W':=by
 have h:=(pE G hO f args [] (gV W) [] W vs (by rw[ht];simp) (uA hg) (yd W) ⟨rfl,fun _=>.no,fun l cs hl=>by simp at hl⟩ hv).1;rw[ht]at h;refine h.mono fun e W' hp=>?_;obtain⟨S',β',v,rfl,hv,L,_⟩:=hp;simp only[VR]at hv;subst hv;exact⟨rfl,L.below⟩
section
variable {H:Type} {enc:TypeId×Value->H} {P:Program}
omit [Dr]in
theorem mM{f:Func}{s:ChangeSpec}{apart fresh handsOn again:Bool}{W W':World}{args:Array Value}{v:Value}{ds gs:List (DataW H)}{before pa pv:List MemPlace}(hW:DataW.Whole enc P f.params.toList s.vars apart W args.toList ds gs before)(hres:∀(b:Nat)(sp:Nat->Bool)(hd:Bool),DataW.TrodAll enc P W' b sp hd f.resultTypes.toList (v.resultList f.resultTypes.size) (s.fn H (ds++gs)).results [])(hargs:∀sp:Nat->Bool,(∀p∈before,sp p.block=true)->DataW.TrodAll enc P W' 0 sp true f.params.toList args.toList (s.fn H (ds++gs)).args pa)(hvars:∀sp:Nat->Bool,(∀p∈before,sp p.block=true)->DataW.TrodVars enc P W' sp s.vars (s.fn H (ds++gs)).vars pv)(hps:before=pa++pv)(hb:Below W.heap.size W W')(hok:∀(j:Nat)(t:TypeId)(r:Value),f.resultTypes[j]? = some t->(v.resultList f.resultTypes.size)[j]? = some r->Value.okWide P W' .any 0 t r):
  s.post enc P f apart fresh handsOn again W args v W':=by
 have hlt:∀p∈before,p.block<W.heap.size:=fun p hp=>hW.lt p hp;have hold:∀p∈before,(fun b=>decide (b<W.heap.size)) p.block=true:=fun p hp=>by simpa using hlt p hp
 refine⟨ds,gs,before,[],pa,pv,hW,hres _ _ _,hargs _ hold,hvars _ hold,World.keptBut_mono (fun p hp=>⟨hp,?_⟩) (hb.frame (· ∈before)),fun _=>?_⟩
 ·rw[hps,Gt]at hp;exact Or.inr hp
 ·obtain⟨_,_,_,_,_,hz,hn⟩:=hW;refine⟨hok,_,_,([]++pa)++pv,⟨[]++pa,pv,trodAll_append (hargs _ (fun _ _=>rfl)) (hres _ _ _),hvars _ (fun _ _=>rfl),rfl,?_,?_⟩,?_⟩
  ·intro b off hp;have hin:MemPlace.cell b off∈before:=by rw[hps];simpa using hp
   rw[hb.frozen (hlt _ hin)];exact hz b off hin
  ·intro ha
   have:=hn ha
   rw[hps]at this;simpa using this
  ·intro p hp _;rw[hps];simpa using hp
end
end Go.Av
namespace Go.Av
open Go.RowKit
section
variable {H:Type} {enc:TypeId×Value->H} {P:Program} {w w':World}
theorem hM{base:Nat}{spare:Nat->Bool}{held:Bool}:∀ {ts:List TypeId} {vs:List Value} {ds:List (DataW H)} {ps:List MemPlace},DataW.TrodAll enc P w base spare held ts vs ds ps->(∀p∈ps,w.sameAt w' p)->DataW.TrodAll enc P w' base spare held ts vs ds ps
 |[],[],[],_,h,_=>h
 |_:: _,_:: _,_:: _,_,⟨p,q,⟨n,h1⟩,h2,e⟩,hs=>⟨p,q,⟨n,DataW.trod_carry n _ _ _ h1 (fun x hx=>hs x (by rw[e];exact List.mem_append_left _ hx))⟩,hM h2 (fun x hx=>hs x (by rw[e];exact List.mem_append_right _ hx)),e⟩
theorem oZ(hb:Below w.heap.size w w'){p:MemPlace}(hp:p.block<w.heap.size):w.sameAt w' p:=by
 cases p with
 |cell b off=>
  have:=hb.block b hp
  show w'.cell? ⟨b,off,none⟩=w.cell? ⟨b,off,none⟩;simp only[World.cell?,this]
 |map b=>exact hb.block b hp
theorem rx{T:TypeId->Prop}(K:Kids P T)(hz:∀t e,T t->P.underlying t=some (.slice e)->0<P.cellsOf e){ts:List TypeId}{vs:List Value}{ds:List (DataW H)}{ps:List MemPlace}(hT:∀t∈ts,T t)(h:DataW.TrodAll enc P w 0 (fun _=>true) true ts vs ds ps)(hlt:∀p∈ps,p.block<w.heap.size)(hb:Below w.heap.size w w')(sp:Nat->Bool)(hsp:∀p∈ps,sp p.block=true):DataW.TrodAll enc P w' 0 sp true ts vs ds ps:=
 (hM h fun p hp=>oZ hb (hlt p hp)).respare K hz hT hsp
end
theorem tv{α:Type}(Q:Nat->α->Prop):∀n,(∀i,i<n->∃x,Q i x)->∃l:List α,l.length=n/\∀i x,l[i]? = some x->Q i x
 |0,_=>⟨[],rfl,fun i x h=>by simp at h⟩
 | n+1,h=>by
  obtain⟨l,h1,h2⟩:=tv Q n fun i hi=>h i (by omega);obtain⟨y,hy⟩:=h n (by omega);refine⟨l++[y],by simp[h1],fun i x hx=>?_⟩;by_cases hi:i<n
  ·rw[Gb (by omega)]at hx;exact h2 i x hx
  ·rw[Gj (by omega)]at hx;have hin:i-l.length=0:=by
    rcases GF (i-l.length)with h|h
    ·exact h
    ·rw[F8 (by simp;omega)]at hx;cases hx
   rw[hin]at hx;simp only[Ga,FU]at hx;subst hx;obtain rfl:i=n:=by omega
   exact hy
end Go.Av
namespace Go.Av
open Go.RowKit Go.WideShapes Go.ChangeShapes
section
variable {H:Type} (enc:TypeId×Value->H) (P:Program) (W:World)
def Rd{α:Type}(N:Nat)(t:TypeId)(cells:α->List AV)(Ok:α->Prop):Prop:=∀(base:Nat)(held:Bool)(n:Nat),n<N->∀(cs:List Value)(x:DataW H×List MemPlace),DataW.trod enc P W base (fun _=>true) held n t cs=some x->(∀k∈x.1.weights P t,k<=reachBytes)->∃a:α,aP (gV W) [] (cells a) cs/\Ok a
def yb{α:Type}(N:Nat)(tot:Nat)(o:Nat)(fs:List Field)(cells:α->List AV)(Ok:α->Prop):Prop:=∀(base:Nat)(held:Bool)(n:Nat),n<N->∀(cs:List Value)(xs:List (DataW H×List MemPlace)),cs.length=tot->
 xs.length=fs.length->(∀(i:Nat)(f:Field),fs[i]? = some f->DataW.trod enc P W base (fun _=>true) held n f.type ((cs.drop f.offset).take (P.cellsOf f.type))=xs[i]?)->(∀k∈DataW.weightsEach P (fs.map (·.type)) (xs.map (·.1)),k<=reachBytes)->∃a:α,aP (gV W) [] (cells a) (cs.drop o)/\Ok a
variable {enc P W} {α β:Type} {N:Nat} {t:TypeId}
theorem Rd.zero{cells:α->List AV}{Ok:α->Prop}:Rd enc P W 0 t cells Ok:=fun _ _ n hn=>absurd hn (by omega)
theorem Rd.le{cells:α->List AV}{Ok:α->Prop}(h:Rd enc P W N t cells Ok){M:Nat}(hm:M<=N):Rd enc P W M t cells Ok:=fun b hd n hn=>h b hd n (by omega)
theorem Rd.map{cells:α->List AV}{Ok:α->Prop}(h:Rd enc P W N t cells Ok)(g:α->β){cells':β->List AV}{Ok':β->Prop}(hc:∀a,cells' (g a)=cells a)(ho:∀a,Ok a->Ok' (g a)):Rd enc P W N t cells' Ok':=by
 intro b hd n hn cs x hx hw;obtain⟨a,h1,h2⟩:=h b hd n hn cs x hx hw;exact⟨g a,by rw[hc];exact h1,ho a h2⟩
theorem sB{k:IntKind}(ht:P.underlying t=some (.int k)):Rd enc P W N t (fun n:Int=>[.int k n]) (fun n=>(Lit.int k n).wf=true):=by
 intro b hd n hn cs x hx hw;obtain⟨b,rfl,_,hwf⟩:=DataW.trod_int ht hx;exact⟨b,by simp[aP,VR],hwf⟩
theorem sC(ht:P.underlying t=some .string):Rd enc P W N t (fun s:List UInt8=>[.str s]) (fun s=>s.length<=reachBytes):=by
 intro b hd n hn cs x hx hw;obtain⟨s,rfl,rfl,_⟩:=DataW.trod_string ht hx;exact⟨s.data.toList,by simp[aP,VR],hw _ (by simp[DataW.weights])⟩
def Ad(cells:α->List AV)(ev:α->AV)(sz:Nat):Prop:=∀(a:α)(S:am)(β:List a7)(vs:List Value),aP S β (cells a) vs->vs.length=sz->∃v,VR S β (ev a) v/\v.cells.toList=vs
theorem m6{cells:α->List AV}{ev:α->AV}{sz:Nat}(he:∀a,ev a= .agg (cells a)):Ad cells ev sz:=fun a S β vs h hl=>⟨.agg vs.toArray,by rw[he];simp only[VR];exact⟨vs,rfl,h⟩,by simp[Value.cells]⟩
theorem wq{ev:α->AV}(ho:∀a,be (ev a)=true):Ad (fun a=>[ev a]) ev 1:=fun a S β vs h hl=>by
 simp only[aP]at h;obtain⟨v,_,rfl,h,rfl⟩:=h;exact⟨v,h,by rw[(eQ (ho a) h).1]⟩
theorem gH{e:TypeId}:∀ {l:List (DataW H)} {d:DataW H},d∈l->∀k∈d.weights P e,k∈DataW.weightsAll P e l
 |x:: l,d,hd,k,hk=>by
  simp only[DataW.weightsAll,Gt];rcases Gp.1 hd with rfl|hd
  ·exact .inl hk
  ·exact .inr (gH hd k hk)
theorem mb{e:TypeId}{cells:α->List AV}{Ok:α->Prop}(h:Rd enc P W N e cells Ok)(ht:P.underlying t=some (.slice e)){sz by_:Nat}(hsz:P.cellsOf e=sz)(h0:0<sz)(hby:P.bytesOf e=by_){ev:α->AV}(hev:Ad cells ev sz):
  Rd enc P W N t (fun l:List α=>[.sl (l.map ev)]) (fun l=>l.length*by_<=reachBytes/\∀a∈l,Ok a):=by
 intro base hd n hn cs x hx hw;rcases DataW.trod_slice ht hx with⟨rfl,rfl⟩|⟨a,len,cap,elems,rest,m,rfl,rfl,rfl,hb,hle,hm,hlen,hel,hsp,_⟩
 ·exact⟨[],by simp only[aP,List.map_nil,VR];exact⟨_,_,rfl,⟨none,0,rfl,FZ _,fun _=>rfl,fun q hq=>by cases hq⟩,rfl⟩,by simp,fun a ha=>by cases ha⟩
 obtain⟨hrl,hre⟩:=hsp rfl;rw[hsz]at hel hre;simp only[DataW.weights,ht,Gp,Gt,hby]at hw;have hspot:0<cap->a.spot=none:=by
  intro hc;have:∃y,(W.cells? base (a.add 0) sz).bind (DataW.trod enc P W base (fun _=>true) hd m e)=some y:=by
   by_cases h1:0<len
   ·have:=hel 0 h1
    rw[Gf (by omega)]at this;exact⟨_,by simpa using this⟩
   ·have:=hre 0 (by omega)
    rw[Gf (by omega)]at this;obtain rfl:len=0:=by omega
    exact⟨_,by simpa using this⟩
  obtain⟨y,hy⟩:=this;obtain⟨cs,hcs,_⟩:=Io.1 hy;obtain⟨_,hl,hc⟩:=World.cells?_some hcs;have h2:=hc 0 h0;rw[Gf (by omega)]at h2;have h3:=World.cell?_spot h2;have e:(a.add 0).add 0=a:=by unfold Addr.add;simp
  rwa [e]at h3
 have hx:∀i,i<len->∃y:α,(∃v,VR (gV W) [] (ev y) v/\v.cells.size=sz/\c6 (gV W) a.block (a.off+i*sz) v.cells.toList)/\Ok y:=by
  intro i hi;have h1:=hel i hi;rw[Gf (by omega)]at h1;obtain⟨cs,hcs,htr⟩:=Io.1 h1;obtain⟨y,hy,hok⟩:=h base hd m (by omega) cs _ htr (fun k hk=>hw k (.inr (.inl (gH (HD.2 ⟨_,Gs _,rfl⟩) k hk))));obtain⟨_,hl,hc⟩:=World.cells?_some hcs;obtain⟨v,hv,hvc⟩:=hev y _ _ cs hy hl;refine⟨y,⟨v,hv,by rw[<- GD,hvc,hl],fun j u hj=>?_⟩,hok⟩;rw[hvc]at hj;have hjl:j<sz:=by
   rcases Gd j cs.length with h|h
   ·omega
   ·rw[F8 h]at hj;cases hj
  have h2:=hc j hjl;rw[hj]at h2;unfold gV;have hs:=hspot (by omega);have e:(a.add (i*sz)).add j=⟨a.block,a.off+i*sz+j,none⟩:=by
   obtain⟨b,o,s⟩:=a;simp only at hs;subst hs;rw[add_plain,add_plain]
  rw[<- e];exact h2
 obtain⟨l,hl1,hl2⟩:=tv (fun i y=>(∃v,VR (gV W) [] (ev y) v/\v.cells.size=sz/\c6 (gV W) a.block (a.off+i*sz) v.cells.toList)/\Ok y) len hx;refine⟨l,?_,?_,fun y hy=>?_⟩
 ·simp only[aP,VR,Hy];refine⟨_,_,rfl,⟨some a,cap,by rw[hl1],by omega,(fun e=>by cases e),fun q hq=>?_⟩,rfl⟩;cases hq;refine⟨hspot,sz,.of_get fun i e he=>?_⟩;rw[GW,G0]at he;obtain⟨y,hy,rfl⟩:=he;exact (hl2 i y hy).1
 ·have:=hw _ (.inl rfl)
  simp only[Hy]at this;have h3:=Gc by_ (show l.length<=elems.length+rest.length by omega);omega
 ·obtain⟨i,hi,e⟩:=List.getElem_of_mem hy;exact (hl2 i y (by rw[Gf hi,e])).2
theorem ma{tot:Nat}:yb enc P W N tot tot [] (fun _:Unit=>[]) (fun _=>True):=fun base hd n hn cs xs hl _ _ _=>⟨(),by simp[aP,<- hl],trivial⟩
theorem dE{tot o k:Nat}{f:Field}{fs:List Field}{c1:α->List AV}{Ok1:α->Prop}{c2:β->List AV}{Ok2:β->Prop}(h1:Rd enc P W N f.type c1 Ok1)(ho:f.offset=o)(hk:P.cellsOf f.type=k)(h2:yb enc P W N tot (o+k) fs c2 Ok2):
  yb enc P W N tot o (f:: fs) (fun x:α×β=>c1 x.1++c2 x.2) (fun x=>Ok1 x.1/\Ok2 x.2):=by
 intro base hd n hn cs xs hl hx hf hw
 match xs,hx with
 |x:: xs,hx=>
  have hf0:=hf 0 f rfl;rw[ho,hk]at hf0;simp only[GL,DataW.weightsEach,Gt]at hw;obtain⟨a,ha,oa⟩:=h1 base hd n hn _ x hf0 fun k hk=>hw k (.inl hk);obtain⟨b,hb,ob⟩:=h2 base hd n hn cs xs hl (by simpa using hx) (fun i g hg=>by simpa using hf (i+1) g (by simpa using hg)) fun k hk=>hw k (.inr hk);refine⟨(a,b),?_,oa,ob⟩
  have:=ha.append hb
  rwa [<- List.drop_drop,List.take_append_drop]at this
theorem jF{fs:Array Field}{tot:Nat}{cells:α->List AV}{Ok:α->Prop}(ht:P.underlying t=some (.struct fs))(hc:P.cellsOf t=tot)(h:yb enc P W N tot 0 fs.toList cells Ok):Rd enc P W (N+1) t cells Ok:=by
 intro base hd n hn cs x hx hw;obtain⟨xs,m,rfl,rfl,hl,hxs,hf⟩:=DataW.trod_struct ht hx;simp only[DataW.weights,ht]at hw;obtain⟨a,h1,h2⟩:=h base hd m (by omega) cs xs (by rw[hl,hc]) (by simpa using hxs) (fun i f hi=>hf i f (by simpa using hi)) hw;exact⟨a,by simpa using h1,h2⟩
theorem xA{cells:α->List AV}{Ok:α->Prop}(h:∀N,Rd enc P W N t cells Ok){base:Nat}{held:Bool}{v:Value}{d:DataW H}{p:List MemPlace}(hd:DataW.Trod enc P W base (fun _=>true) held t v d p)(hw:∀k∈d.weights P t,k<=reachBytes):
  ∃a:α,aP (gV W) [] (cells a) v.cells.toList/\Ok a:=by
 obtain⟨n,hn⟩:=hd;exact h (n+1) base held n (by omega) _ _ hn hw
theorem y9{f:α->AV}{Ok:α->Prop}(h:∀N,Rd enc P W N t (fun a=>[f a]) Ok){base:Nat}{held:Bool}{v:Value}{d:DataW H}{p:List MemPlace}(hv:v.cells.toList=[v])(hd:DataW.Trod enc P W base (fun _=>true) held t v d p)(hw:∀k∈d.weights P t,k<=reachBytes):
  ∃a:α,VR (gV W) [] (f a) v/\Ok a:=by
 obtain⟨a,h1,h2⟩:=xA h hd hw;rw[hv]at h1;simp only[aP]at h1;obtain⟨y,ys,e,h1,rfl⟩:=h1;cases e;exact⟨a,h1,h2⟩
theorem yj{r:Reach}{b0:Nat}{f:α->AV}{Ok:α->Prop}(h:∀N,Rd enc P W N t (fun a=>[f a]) Ok)(ht:P.underlying t=some .string){base:Nat}{held:Bool}{v:Value}{d:DataW H}{p:List MemPlace}(hok:Value.okWide P W r b0 t v)(hd:DataW.Trod enc P W base (fun _=>true) held t v d p)(hw:∀k∈d.weights P t,k<=reachBytes):∃a:α,VR (gV W) [] (f a) v/\Ok a:=by
 obtain⟨a,rfl⟩:=okWide_string ht hok;exact y9 h rfl hd hw
theorem lg{fs:Array Field}{r:Reach}{b0:Nat}{f:α->AV}{Ok:α->Prop}{cells:α->List AV}(h:∀N,Rd enc P W N t cells Ok)(hf:∀a,f a= .agg (cells a))(ht:P.underlying t=some (.struct fs)){base:Nat}{held:Bool}{v:Value}{d:DataW H}{p:List MemPlace}(hok:Value.okWide P W r b0 t v)(hd:DataW.Trod enc P W base (fun _=>true) held t v d p)(hw:∀k∈d.weights P t,k<=reachBytes):∃a:α,VR (gV W) [] (f a) v/\Ok a:=by
 obtain⟨cs,rfl,_⟩:=okWide_struct ht hok;obtain⟨a,h1,h2⟩:=xA h hd hw;refine⟨a,?_,h2⟩;rw[hf];simp only[VR];exact⟨cs.toList,by simp,h1⟩
theorem il{ts:List TypeId}{ds:List (DataW H)}(h:(DataW.weightsEach P ts ds).all (· <=reachBytes)=true){j:Nat}{u:TypeId}{d:DataW H}(ht:ts[j]? = some u)(hd:ds[j]? = some d):∀k∈d.weights P u,k<=reachBytes:=fun k hk=>by
 have:=F9.1 h _ (DataW.weights_mem_each ht hd k hk)
 simpa using this
end
end Go.Av
namespace Go.Av.Ap
open Go Go.Av
def Val.limN:Nat->Val->Prop
 |0,_=>True
 |n+1,v=>v.names.length<=140737488355328/\v.values.length<=140737488355328/\∀x∈v.values,x.limN n
def Val.Lim(v:Val):Prop:=∀n,v.limN n
def Exp.limN:Nat->Exp->Prop
 |0,_=>True
 |n+1,v=>v.names.length<=8796093022208/\v.args.length<=140737488355328/\∀x∈v.args,x.limN n
def Exp.Lim(v:Exp):Prop:=∀n,v.limN n
def Ty.limN:Nat->Ty->Prop
 |0,_=>True
 |n+1,v=>v.fields.length<=140737488355328/\∀x∈v.fields,x.2.limN n
def Ty.Lim(v:Ty):Prop:=∀n,v.limN n
def Val.Lim.names{v:Val}(h:v.Lim):v.names.length<=140737488355328:=(h 1).1
def Val.Lim.len{v:Val}(h:v.Lim):v.values.length<=140737488355328:=(h 1).2.1
def Val.Lim.kid{v:Val}(h:v.Lim){x:Val}(hx:x∈v.values):x.Lim:=fun n=>(h (n+1)).2.2 x hx
def Exp.Lim.names{v:Exp}(h:v.Lim):v.names.length<=8796093022208:=(h 1).1
def Exp.Lim.len{v:Exp}(h:v.Lim):v.args.length<=140737488355328:=(h 1).2.1
def Exp.Lim.kid{v:Exp}(h:v.Lim){x:Exp}(hx:x∈v.args):x.Lim:=fun n=>(h (n+1)).2.2 x hx
def Ty.Lim.len{v:Ty}(h:v.Lim):v.fields.length<=140737488355328:=(h 1).1
def Ty.Lim.kid{v:Ty}(h:v.Lim){x:dQ}(hx:x∈v.fields):x.2.Lim:=fun n=>(h (n+1)).2 x hx
structure Fun.Lim (f:Fun):Prop where
 params:f.params.length<=140737488355328
 pty:∀x∈f.params,x.2.Lim
 result:f.result.Lim
 body:f.body.Lim
structure Mod.Lim (m:Mod):Prop where
 uses:m.uses.length<=140737488355328
 vars:m.vars.length<=140737488355328
 vty:∀x∈m.vars,x.2.Lim
 init:m.init.length<=140737488355328
 ies:∀e∈m.init,e.Lim
 funcs:m.funcs.length<=140737488355328
 fns:∀f∈m.funcs,f.Lim
 old:m.old.length<=140737488355328
 oty:∀x∈m.old,x.2.Lim
 forward:m.forward.length<=140737488355328
 fes:∀e∈m.forward,e.Lim
 back:m.back.length<=140737488355328
 bes:∀e∈m.back,e.Lim
def kF(b:UInt8):Bool:=decide (97<=b.toNat)&&decide (b.toNat<=122)
def rM(b:UInt8):Bool:=decide (48<=b.toNat)&&decide (b.toNat<=57)
def kY(b:UInt8):Bool:=kF b||rM b
def kv(s:aJ):Bool:=!(s== [])&&kF (s.headD 0)&&decide (s.length<=20)&&((s.takeWhile kY).length== s.length)
def gP:aJ:=[32,97,110,100,32,98,97,99,107,32,98,111,111,108,32,99,108,111,99,107,32,101,108,115,101,32,102,97,108,115,101,32,102,105,108,101,115,32,102,110,32,102,111,114,119,97,114,100,32,103,101,116,32,105,102,32,105,110,32,105,110,116,32,108,101,116,32,109,111,100,117,108,101,32,109,111,118,101,32,110,101,116,32,110,111,116,32,111,114,32,112,117,98,32,115,101,99,114,101,116,115,32,115,101,116,32,116,104,101,110,32,116,114,117,101,32,117,115,101,32,118,97,114,32]
def fF(s:aJ):Bool:=kv s&&!(Lib.contains gP ([32]++s++[32]))
def vo{s:aJ}(h:kv s=true):s.length<=20:=by
 unfold kv at h;simp only[FV,F5]at h;exact h.1.2
def dt(p f:aJ):Bool:=!(aV f p||f== p)
def fu{α:Type}(Q:α->α->Bool):List α->Bool
 |x:: y:: r=>Q x y&&fu Q (y:: r)
 |_=>true
theorem pz{α:Type}[Inhabited α](Q:α->α->Bool):(l:List α)->(fu Q l=true↔∀k,k+1<l.length->Q l[k]! l[k+1]! = true)
 |[]=>by simp[fu]
 |[x]=>by simp[fu]
 | x:: y:: r=>by
  simp only[fu,FV,pz Q (y:: r)];constructor
  ·rintro⟨h1,h2⟩ k hk;cases k with
   |zero=>simpa using h1
   |succ k=>simpa using h2 k (by simpa using hk)
  ·intro h;refine⟨by simpa using h 0 (by simp),fun k hk=>?_⟩;simpa using h (k+1) (by simpa using hk)
def ye{α:Type}[Inhabited α](P:α->Bool)(Q:α->α->Bool)(l:List α):(List.range' 0 l.length).all (fun k=>P l[k]! && (decide (k=0)||Q l[k-1]! l[k]!))=(l.all P&&fu Q l):=by
 rw[GZ,FV,<- rt P l,pz];simp only[F9,List.mem_range'_1,FV,GE,F5];constructor
 ·intro h;refine⟨fun k hk=>(h k hk).1,fun k hk=>?_⟩
  have:=(h (k+1) ⟨G4 _,by omega⟩).2
  rcases this with h0|h1
  ·omega
  ·simpa using h1
 ·rintro⟨h1,h2⟩ k hk;refine⟨h1 k hk,?_⟩;cases k with
  |zero=>exact .inl rfl
  |succ k=>exact .inr (by simpa using h2 k (by omega))
def bL:Nat->Ty->Bool
 |0,_=>false
 |d+1,t=>decide (0<=t.kind)&&decide (t.kind<3)&&decide (t.fields.length<=8)&&(t.kind== 2||t.fields.length== 0)&&(t.fields.all (fun f=>fF f.1&&bL d f.2)&&fu (fun a b=>dt a.1 b.1) t.fields)
theorem cq(d:Nat)(t:Ty):bL (d+1) t=(decide (0<=t.kind)&&decide (t.kind<3)&&decide (t.fields.length<=8)&&(t.kind== 2||t.fields.length== 0)&&(t.fields.all (fun f=>fF f.1&&bL d f.2)&&fu (fun a b=>dt a.1 b.1) t.fields)):=rfl
abbrev dx(t:Ty):Bool:=bL 4 t
mutual
def AW:Ty->Ty->Bool
 |.mk k fs,a=>a.kind== k&&s4 fs a.fields
def s4:List (aJ×Ty)->List dQ->Bool
 |[],_=>true
 |f:: fs,l=>AX f l&&s4 fs l
def AX:aJ×Ty->List dQ->Bool
 |(n,t),l=>match xb (fun z=>z.1== n) l with
  |some z=>AW t z.2
  |none=>false
end
def yI(a b:Int):Int:=IntKind.i64.wrap (BitVec.ofInt 64 a &&& ~~~ BitVec.ofInt 64 b).toNat
structure Sig.Lim (s:Sig):Prop where
 plen:s.params.length<=140737488355328
 ptys:∀t∈s.params,t.Lim
 result:s.result.Lim
structure Face.Lim (f:Face):Prop where
 len:f.funcs.length<=140737488355328
 sigs:∀s∈f.funcs,s.Lim
@[simp] theorem A6(x:Sig):bT 5 x.av=M.pure x.av:=by rw[cz (l7 x),kU,qa]
@[simp] theorem yv(x:Sig):aU 5 [] x.av=M.pure x.av:=by rw[bN (l7 x),kU,qa]
end Go.Av.Ap
namespace Go.Av.Ap
def vW:List aJ->Bool
 |[]=>true
 |[_]=>true
 |x:: y:: l=>aV x y&&vW (y:: l)
def bk:Nat->Val->Bool
 |0,_=>false
 |d+1,v=>if(v.kind== 0||v.kind== 1)=true then v.names.length== 0&&v.values.length== 0&&(v.kind== 0||v.n== 0||v.n== 1)
  else v.kind== 2&&v.n== 0&&v.names.length== v.values.length&&decide (v.names.length<=8)&&vW v.names&&v.values.all (bk d)
def jG(b:Bool):Val:=.mk 1 (if b then 1 else 0) [] []
def uP(n:Int):Val:=.mk 0 n [] []
def Dn(p:List Mod)(s:aJ):Int:=bE (fun m=>m.name== s) p 0
def Dg(l:List Fun)(s:aJ):Int:=bE (fun f=>f.name== s) l 0
def Dc(l:List dQ)(s:aJ):Int:=bE (fun f=>f.1== s) l 0
structure Ms where
 fuel:Int
 frames:Int
 world:List Int
 deeds:List Deed
 calls:List Call
 state:List (List Val)
inductive Rs (α:Type) where
 |ok (a:α) (m:Ms)
 |er (e:Int) (m:Ms)
def X(α:Type):=Ms->Rs α
def X.ok{α:Type}(a:α):X α:=fun m=>.ok a m
def X.er{α:Type}(e:Int):X α:=fun m=>.er e m
def X.bind{α β:Type}(x:X α)(f:α->X β):X β:=fun m=>match x m with
 |.ok a m'=>f a m'
 |.er e m'=>.er e m'
def X.upd{α:Type}(f:Ms->Ms)(x:X α):X α:=fun m=>x (f m)
def X.get{α:Type}(f:Ms->X α):X α:=fun m=>f m m
def vV(op:Int):Int:=
 if op=0\/op=1\/op=2\/op=17 then 0
 else if op=10\/op=14\/op=16\/op=18 then 1
 else if op=3\/op=4\/op=5\/op=6\/op=7\/op=8\/op=9\/op=12 then 2
 else if op=11 then 3
 else if op=13\/op=15 then -1
 else -2
def zY:List aJ->List Val->aJ->Option Val
 |n:: ns,v:: vs,s=>match zY ns vs s with
  |some x=>some x
  |none=>if n=s then some v else none
 |_,_,_=>none
def dV:List aJ->List Val->aJ->Option Val
 |n:: ns,v:: vs,s=>if n=s then some v else dV ns vs s
 |_,_,_=>none
def wr(n:Int):Int:=IntKind.i64.wrap n
def CV(op:Int)(a b:Val):X Val:=
 if op=7 then(if a.kind=b.kind/\a.kind≠2 then .ok (jG (a.n== b.n))else .er 13)
 else if a.kind=0/\b.kind=0 then
  (if op=3 then .ok (uP (wr (a.n+b.n)))else if op=4 then .ok (uP (wr (a.n-b.n)))else if op=5 then .ok (uP (wr (a.n*b.n)))else .ok (jG (decide (a.n<b.n))))
 else .er 13
mutual
def xd:Val->Nat
 |.mk _ _ _ vs=>tt vs+1
def tt:List Val->Nat
 |[]=>0
 |v:: vs=>max (xd v) (tt vs)
end
abbrev Ev:=Int->List aJ->List Val->Exp->X Val
def boolX(r:X Val):X Bool:=r.bind fun v=>if v.kind=1 then .ok (v.n== 1)else .er 13
def listX(r:Exp->X Val):List Exp->X (List Val)
 |[]=>.ok []
 |e:: es=>(r e).bind fun v=>(listX r es).bind fun vs=>.ok (v:: vs)
def tN(r:Exp->X Val)(e:Exp):X Val:=
 if e.names.length=e.args.length/\vW e.names=true then
  (if e.names.length<=8 then(listX r e.args).bind fun vs=>if xd (.mk 2 0 e.names vs)<=4 then .ok (.mk 2 0 e.names vs)else .er 6 else .er 6)
 else .er 13
def wJ(p:List Mod)(at_:Int)(s:aJ):Option Fun:=
 if at_<0 then none else(let l:=(p[at_.toNat]?.getD default).funcs;let i:=Dg l s;if i<0 then none else l[i.toNat]?)
def ww(p:List Mod)(r:Ev)(at_:Int)(f:Fun)(l:List Val):X Val:=
 .get fun m=>if m.frames<60 then
  .upd (fun m=>{ m with calls:=if f.pub=true then m.calls++[⟨(p[at_.toNat]?.getD default).name,f.name,l⟩]else m.calls,frames:=m.frames+1 })
   ((r at_ (f.params.map (·.1)) l f.body).bind fun v=>.upd (fun m=>{ m with frames:=m.frames-1 }) (.ok v))
 else .er 6
def zO(p:List Mod)(r:Ev)(own:Int)(ns:List aJ)(vs:List Val)(e:Exp):X Val:=
 let at_:=if e.m=[]then own else Dn p e.m
 match wJ p at_ e.s with
 |none=>.er 12
 | some f=>if e.m=[]\/f.pub=true then
   (if e.args.length=f.params.length then(listX (r own ns vs) e.args).bind fun l=>ww p r at_ f l else .er 13)
  else .er 12
def Cw(r:X Val)(e:Exp):X Val:=
 r.bind fun v=>if v.kind=0 then
  (if e.n=1\/e.n=2\/e.n=4\/e.n=8 then
   .get fun m=>.upd (fun m=>{ m with world:=m.world.tail,deeds:=m.deeds++[⟨e.n,v.n,m.world.headD 0⟩] }) (.ok (uP (m.world.headD 0)))
  else .er 14)
 else .er 13
def setSt(st:List (List Val))(i k:Nat)(v:Val):List (List Val):=st.modify i fun l=>l.set k v
def zW(st:List (List Val))(i k:Nat):Val:=(st.getD i []).getD k default
def DV(p:List Mod)(r:Exp->X Val)(own:Int)(e:Exp):X Val:=
 if own<0 then .er 12 else
 let i:=Dc (p[own.toNat]?.getD default).vars e.s
 if i<0 then .er 12 else
 if e.op=18 then(r e.args[0]!).bind fun v=>.upd (fun m=>{ m with state:=setSt m.state own.toNat i.toNat v }) (.ok v)
 else .get fun m=>.ok (zW m.state own.toNat i.toNat)
def xO(p:List Mod)(r:Ev):Ev:=fun own ns vs e=>.get fun m=>
 if m.fuel<=0 then .er 16 else .upd (fun m=>{ m with fuel:=m.fuel-1 }) <|
 let n:=vV e.op
 if n= -2\/(n≠-1/\n≠e.args.length)then .er 13
 else if e.op=0 then .ok (uP e.n)
 else if e.op=1 then(if e.n=0\/e.n=1 then .ok (jG (e.n== 1))else .er 13)
 else if e.op=2 then(match zY ns vs e.s with|some v=>.ok v|none=>.er 12)
 else if e.op=3\/e.op=4\/e.op=5\/e.op=6\/e.op=7 then(r own ns vs e.args[0]!).bind fun a=>(r own ns vs e.args[1]!).bind fun b=>CV e.op a b
 else if e.op=8\/e.op=9 then(boolX (r own ns vs e.args[0]!)).bind fun x=>if x=(e.op== 9)then .ok (jG (e.op== 9))else(boolX (r own ns vs e.args[1]!)).bind fun y=>.ok (jG y)
 else if e.op=10 then(boolX (r own ns vs e.args[0]!)).bind fun x=>.ok (jG !x)
 else if e.op=11 then(boolX (r own ns vs e.args[0]!)).bind fun x=>if x=true then r own ns vs e.args[1]! else r own ns vs e.args[2]!
 else if e.op=12 then(r own ns vs e.args[0]!).bind fun v=>r own (ns++[e.s]) (vs++[v]) e.args[1]!
 else if e.op=13 then tN (r own ns vs) e
 else if e.op=14 then(r own ns vs e.args[0]!).bind fun v=>(match dV v.names v.values e.s with|some x=>if v.kind=2 then .ok x else .er 13|none=>.er 13)
 else if e.op=15 then zO p r own ns vs e
 else if e.op=16 then Cw (r own ns vs e.args[0]!) e
 else DV p (r own ns vs) own e
def zU(p:List Mod):Nat->Ev
 |0=>fun _ _ _ _=>.er 16
 |n+1=>xO p (zU p n)
end Go.Av.Ap
namespace Go.Av.Ap
def Rs.st{α:Type}:Rs α->Ms
 |.ok _ m=>m
 |.er _ m=>m
def Rs.on{α:Type}(f:Ms->Ms):Rs α->Rs α
 |.ok a m=>.ok a (f m)
 |.er e m=>.er e (f m)
def DR{α:Type}(y:X α):X α:=.get fun m=>if m.fuel<=0 then .er 16 else .upd (fun m=>{ m with fuel:=m.fuel-1 }) y
def EM(n a:Int):X Val:=.get fun m=>.upd (fun m=>{ m with world:=m.world.tail,deeds:=m.deeds++[⟨n,a,m.world.headD 0⟩] }) (.ok (uP (m.world.headD 0)))
structure Closed (p:List Mod) (Q:Int->(α:Type)->X α->Prop):Prop where
 ok:∀(o:Int)(α:Type)(a:α),Q o α (.ok a)
 er:∀(o:Int)(α:Type)(e:Int),e≠0->Q o α (.er e)
 bind:∀(o:Int)(α β:Type)(x:X α)(f:α->X β),Q o α x->(∀a,Q o β (f a))->Q o β (x.bind f)
 tick:∀(o:Int)(α:Type)(y:X α),Q o α y->Q o α (DR y)
 act:∀(o n a:Int),Q o Val (EM n a)
 set:∀(o:Int)(k:Nat)(v:Val),¬o<0->Q o Val (.upd (fun m=>{ m with state:=setSt m.state o.toNat k v }) (.ok v))
 get:∀(o:Int)(k:Nat),Q o Val (.get fun m=>.ok (zW m.state o.toNat k))
 enter:∀(o a:Int)(r:Ev)(f:Fun)(l:List Val),¬a<0->a.toNat<p.length->f∈(p[a.toNat]?.getD default).funcs->(∀o ns vs e,Q o Val (r o ns vs e))->Q o Val (ww p r a f l)
def rY{p:List Mod}{a:Int}{s:aJ}{f:Fun}(h:wJ p a s=some f):¬a<0/\a.toNat<p.length/\f∈(p[a.toNat]?.getD default).funcs:=by
 unfold wJ at h;by_cases h1:a<0
 ·simp[h1]at h
 ·rw[if_neg h1]at h;simp only at h;split at h
  ·cases h
  ·have hm:=GT h;refine⟨h1,?_,hm⟩;rcases Gd a.toNat p.length with k|k
   ·exact k
   ·rw[F8 k]at hm;cases hm
def Dm{Q:Int->(α:Type)->X α->Prop}{o:Int}{α:Type}{c:Prop}[Decidable c](x y:X α)(h1:Q o α x)(h2:Q o α y):Q o α (if c then x else y):=by
 split
 ·exact h1
 ·exact h2
section
variable {p:List Mod} {Q:Int->(α:Type)->X α->Prop} (C:Closed p Q)
include C
theorem Closed.boolX{o:Int}{r:X Val}(h:Q o Val r):Q o Bool (boolX r):=by
 refine C.bind _ _ _ _ _ h fun v=>?_;split
 ·exact C.ok _ _ _
 ·exact C.er _ _ _ (by decide)
theorem Closed.listX{o:Int}{r:Exp->X Val}(h:∀e,Q o Val (r e)):∀l,Q o (List Val) (listX r l)
 |[]=>C.ok _ _ _
 |e:: l=>C.bind _ _ _ _ _ (h e) fun _=>C.bind _ _ _ _ _ (Closed.listX h l) fun _=>C.ok _ _ _
theorem Closed.step{r:Ev}(h:∀o ns vs e,Q o Val (r o ns vs e))(o:Int)(ns:List aJ)(vs:List Val)(e:Exp):Q o Val (xO p r o ns vs e):=by
 unfold xO;refine C.tick _ _ _ ?_;have B:=fun{α β:Type} {x:X α} {f:α->X β}=>C.bind o α β x f;have I:=@Dm Q o;have er:=fun(α:Type) n (h:n≠0)=>C.er o α n h;have ok:=fun(α:Type) (a:α)=>C.ok o α a;refine I _ _ (er _ _ (by decide)) (I _ _ (ok _ _) (I _ _ (I _ _ (ok _ _) (er _ _ (by decide))) (I _ _ ?_ (I _ _ ?_ (I _ _ ?_ (I _ _ ?_ (I _ _ ?_ (I _ _ ?_ (I _ _ ?_ (I _ _ ?_ (I _ _ ?_ (I _ _ ?_ ?_))))))))))))
 ·split
  ·exact ok _ _
  ·exact er _ _ (by decide)
 ·refine B (h _ _ _ _) fun a=>B (h _ _ _ _) fun b=>?_;unfold CV;exact I _ _ (I _ _ (ok _ _) (er _ _ (by decide))) (I _ _ (I _ _ (ok _ _) (I _ _ (ok _ _) (I _ _ (ok _ _) (ok _ _)))) (er _ _ (by decide)))
 ·exact B (C.boolX (h _ _ _ _)) fun a=>I _ _ (ok _ _) (B (C.boolX (h _ _ _ _)) fun b=>ok _ _)
 ·exact B (C.boolX (h _ _ _ _)) fun a=>ok _ _
 ·exact B (C.boolX (h _ _ _ _)) fun a=>I _ _ (h _ _ _ _) (h _ _ _ _)
 ·exact B (h _ _ _ _) fun v=>h _ _ _ _
 ·unfold tN;exact I _ _ (I _ _ (B (C.listX (fun e=>h _ _ _ e) _) fun vs=>I _ _ (ok _ _) (er _ _ (by decide))) (er _ _ (by decide))) (er _ _ (by decide))
 ·refine B (h _ _ _ _) fun v=>?_;split
  ·exact I _ _ (ok _ _) (er _ _ (by decide))
  ·exact er _ _ (by decide)
 ·unfold zO;simp only;split
  ·exact er _ _ (by decide)
  ·rename_i f hf;obtain⟨h1,h2,h3⟩:=rY hf;exact I _ _ (I _ _ (B (C.listX (fun e=>h _ _ _ e) _) fun l=>C.enter _ _ _ _ _ h1 h2 h3 h) (er _ _ (by decide))) (er _ _ (by decide))
 ·unfold Cw;exact B (h _ _ _ _) fun v=>I _ _ (I _ _ (C.act _ _ _) (er _ _ (by decide))) (er _ _ (by decide))
 ·unfold DV;split
  ·exact er _ _ (by decide)
  ·rename_i ho;exact I _ _ (er _ _ (by decide)) (I _ _ (B (h _ _ _ _) fun v=>C.set _ _ _ ho) (C.get _ _))
theorem Closed.eval:∀(n:Nat)(o:Int)(ns:List aJ)(vs:List Val)(e:Exp),Q o Val (zU p n o ns vs e)
 |0,_,_,_,_=>C.er _ _ _ (by decide)
 |n+1,o,ns,vs,e=>C.step (fun o ns vs e=>Closed.eval n o ns vs e) o ns vs e
end
end Go.Av.Ap
namespace Go.Av.Ap
end Go.Av.Ap
namespace Go.Av.Ap
open Go Go.Av
mutual
def Fx:Ty->Ty->Option Ty
 |.mk k fs,b=>if k=b.kind then some (.mk k (DU fs b.fields))else none
def DU:List (aJ×Ty)->List dQ->List dQ
 |[],_=>[]
 |f:: fs,l=>(match Fw f l with|some x=>[x]|none=>[])++DU fs l
def Fw:aJ×Ty->List dQ->Option dQ
 |(n,t),l=>match xb (fun z=>z.1== n) l with
  |some z=>(match Fx t z.2 with|some u=>some (n,u)|none=>none)
  |none=>none
end
def eY(l:List aJ)(s:aJ):Int:=bE (fun x=>s== x) l 0
def gq:Nat->Ty->Val->Bool
 |0,_,_=>false
 |d+1,t,v=>t.kind== v.kind&&t.fields.all fun f=>decide (0<=eY v.names f.1)&&gq d f.2 v.values[(eY v.names f.1).toNat]!
def gb(t:Ty)(v:Val):Bool:=dx t&&(bk 4 v&&gq 4 t v)
theorem dP:(a:aJ)->aV a a=false
 |[]=>rfl
 |x:: a=>by simp[aV,dP a]
theorem fp:(a b c:aJ)->aV a b=true->aV b c=true->aV a c=true
 |_,[],c,h,_=>by cases ‹aJ› <;> simp[aV]at h
 |_,_:: _,[],_,h=>by simp[aV]at h
 |[],_:: _,_:: _,_,_=>by simp[aV]
 | x:: a,y:: b,z:: c,h1,h2=>by
  simp only[aV,GE,FV,F5,GG,UInt8.lt_iff_toNat_lt]at h1 h2 |-;rcases h1 with h1|⟨rfl,h1⟩
  ·rcases h2 with h2|⟨rfl,h2⟩
   ·exact .inl (by omega)
   ·exact .inl h1
  ·rcases h2 with h2|⟨rfl,h2⟩
   ·exact .inl h2
   ·exact .inr ⟨rfl,fp a b c h1 h2⟩
theorem g9:(a b:aJ)->aV a b=false->a≠b->aV b a=true
 |[],[],_,h=>absurd rfl h
 |[],_:: _,h,_=>by simp[aV]at h
 |_:: _,[],_,_=>by simp[aV]
 | x:: a,y:: b,h1,h2=>by
  simp only[aV,Hc,G6,GE,FV,F5,GG,UInt8.lt_iff_toNat_lt]at h1 |-;by_cases e:x=y
  ·subst e;refine .inr ⟨rfl,g9 a b ?_ fun e=>h2 (by rw[e])⟩;simpa using h1.2
  ·refine .inl ?_;have:x.toNat≠y.toNat:=fun e'=>e (UInt8.toNat_inj.1 e');omega
def kX(p f:aJ):dt p f=true↔aV p f=true:=by
 unfold dt;rw[GI,Hc];constructor
 ·rintro⟨h1,h2⟩;exact g9 f p h1 (G9.1 h2)
 ·intro h;refine⟨?_,?_⟩
  ·cases hc:aV f p with
   |false=>rfl
   |true=>exact absurd (fp _ _ _ h hc) (by simp[dP])
  ·rw[G9];rintro rfl;rw[dP]at h;cases h
theorem mU{α:Type}{Q:α->α->Bool}{nm:α->aJ}(hQ:∀x y,Q x y=true->aV (nm x) (nm y)=true):(l:List α)->fu Q l=true->l.Pairwise fun x y=>aV (nm x) (nm y)=true
 |[],_=>.nil
 |[x],_=>by simp
 |x:: y:: r,h=>by
  simp only[fu,FV]at h;have ih:=mU hQ (y:: r) h.2;refine .cons (fun z hz=>?_) ih;have h1:=hQ _ _ h.1;rcases Gp.1 hz with rfl|hz
  ·exact h1
  ·exact fp _ _ _ h1 ((H4.1 ih).1 z hz)
end Go.Av.Ap
namespace Go.Av.Ap
open Go Go.Av
section
variable {α:Type} {f:α->AV} {sz:Nat}
end
end Go.Av.Ap
namespace Go.Av.Ap
open Go Go.Av
mutual
def mK:Ty->Val->Prop
 |.mk k fs,v=>v.kind=k/\(fs≠[]->k=2)/\qh fs v
def qh:List (aJ×Ty)->Val->Prop
 |[],_=>True
 |f:: fs,v=>wQ f v/\qh fs v
def wQ:aJ×Ty->Val->Prop
 |(n,t),v=>∃x,dV v.names v.values n=some x/\mK t x
end
theorem jp(v:Val):(fs:List dQ)->(qh fs v↔∀f∈fs,wQ f v)
 |[]=>by simp[qh]
 |f:: fs=>by simp[qh,jp v fs]
def qg(f:dQ)(v:Val):wQ f v↔∃x,dV v.names v.values f.1=some x/\mK f.2 x:=by
 obtain⟨n,t⟩:=f;simp only[wQ]
def wR(t:Ty)(v:Val):mK t v↔v.kind=t.kind/\(t.fields≠[]->t.kind=2)/\∀f∈t.fields,∃x,dV v.names v.values f.1=some x/\mK f.2 x:=by
 cases t with
 |mk k fs=>simp only[mK,jp,qg,Ty.kind,Ty.fields]
theorem m8{s:aJ}{w:Val}:{ns:List aJ} ->{ws:List Val} ->(ns.Pairwise fun x y=>aV x y=true)->{i:Nat} ->ns[i]? = some s->ws[i]? = some w->dV ns ws s=some w
 |n:: ns,x:: ws,hp,0,h1,h2=>by
  simp at h1 h2;subst h1 h2;simp[dV]
 |n:: ns,x:: ws,hp,i+1,h1,h2=>by
  rw[H4]at hp;have h3:=hp.1 s (GT (by simpa using h1));have h4:¬n=s:=fun e=>by rw[e,dP]at h3;cases h3
  simp only[dV,if_neg h4];exact m8 hp.2 (by simpa using h1) (by simpa using h2)
 |[],_,_,i,h1,_=>by simp at h1
 |_:: _,[],_,i,_,h2=>by simp at h2
end Go.Av.Ap
namespace Go.Av.Ap
open Go Go.Av
abbrev vw:=aJ×aJ
def qO(r:vw):AV:=.agg [.str r.1,.str r.2]
def qP(l:List vw):AV:=.sl (l.map qO)
def sE(l:List (List vw)):AV:=.sl (l.map qP)
@[simp] theorem Ak(r:vw):ab (qO r)=[.str r.1,.str r.2]:=rfl
@[simp] theorem Dd(r:vw):AV.agg [.str r.1,.str r.2]=qO r:=rfl
@[simp] theorem xn(r:vw):bq 2 (qO r)=true:=rfl
@[simp] theorem B8(l:List vw):cJ 2 (l.map qO)=true:=cB xn l
@[simp] theorem Ba(g:Nat->Nat->Nat->Nat->Bool->AV)(r:vw):cl g (qO r)=qO r:=rfl
@[simp] theorem yB(g:Nat->Nat->Nat->Nat->Bool->AV)(l:List vw):cl g (qP l)=qP l:=by simp[qP,cl,c7 g qO (Ba g)]
@[simp] theorem C0(g:Nat->Nat->Nat->Nat->Bool->AV)(l:List (List vw)):cl g (sE l)=sE l:=by simp[sE,cl,c7 g qP (yB g)]
section
variable {V:Type}
end
end Go.Av.Ap
namespace Go.Av.Ap
open Go Go.Av
mutual
def BD:Exp->List Exp
 |.mk o n s m ns es=>.mk o n s m ns es:: tG es
def tG:List Exp->List Exp
 |[]=>[]
 |e:: es=>BD e++tG es
end
end Go.Av.Ap
namespace Go.Av
open Go
section
variable {F:Fence} {n:Nat} {P:Program} {w w':World} {ops:Array Oper} {rest:List Oper} {o:Oper} {a:Act} {Q:Exit->Act->World->Prop} {v:Value}
end
end Go.Av
namespace Go.Av.Ap
open Go Go.Av
def Bn{T:TT}{t:Nat}{ti:TI}(ht:T t=some ti)(ha:ti.agg=false){h:Hp}{l k:Nat}{cs:List AV}{v:AV}(h0:h[l]? = some cs)(h1:cs[k]? = some v):eK T t (.hp l k) h= .ok v h:=by
 simp[eK,ht,h0,ha,h1]
def zc{T:TT}{t:Nat}{ti:TI}(ht:T t=some ti){h:Hp}{l k:Nat}{cs:List AV}{v:AV}(h0:h[l]? = some cs)(hv:bq ti.size v=true)(hle:k+ti.size<=cs.length)(hp:0<ti.size):
  fo T t (.hp l k) v h= .ok (.tup []) (h.set l (setCells cs k (ab v))):=by
 simp[fo,ht,h0,hv,hle,hp]
def tY(p:List Mod):List vw:=p.flatMap fun m=>m.funcs.map fun f=>(m.name,f.name)
end Go.Av.Ap
