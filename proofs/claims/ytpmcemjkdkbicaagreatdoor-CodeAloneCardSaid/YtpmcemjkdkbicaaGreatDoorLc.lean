/- The abstract evaluator of the model and plain laws, part 3: its soundness holds for every program whose table of types is the evaluator's. No further condition. -/
import Derived.Test.YtpmcemjkdkbicaaGreatDoorLb
import Derived.KernelRfl
import Derived.Below
import Derived.Lib.IndexMore
import Derived.Lib.Fields
import Derived.Lib.AtoiAll
import Derived.Lib.SplitLaws
import Derived.Shelf.SlSortCmp.WholeK
import Derived.Lib.Bytealg
import Derived.ChangeSame
import Derived.OpenShut
import Derived.ChangeReads
import Derived.ReadAgain
import Derived.Deep.Slices
import Derived.WideShapes
import Derived.SizedLaws
import Derived.IntWalk
import Derived.Sort.MapsRangeIn
import Derived.Maps.OwnIn
import Derived.RangeFuncSeq
set_option linter.defProp false
set_option linter.unusedSimpArgs false
set_option linter.unusedVariables false
namespace Go.Av
variable [Dr]
def aN{α:Type}(m:M α):Prop:=∃o,m=af o
def cp{α:Type}(m:M α):Prop:=∀h,m h= .fail\/∃v,m h= .ok v h
def cK{α:Type}(m:M α):Prop:=∀h v h',m h≠.pan v h'
omit [Dr]in
theorem aN.read{α:Type}{m:M α}(h:aN m):cp m:=by
 obtain⟨o,rfl⟩:=h;intro h;cases o with
 |none=>exact .inl rfl
 |some v=>exact .inr ⟨v,rfl⟩
omit [Dr]in
theorem cp.stay{α:Type}{m:M α}(g:cp m):cK m:=by
 intro h v h' hh;rcases g h with g|⟨x,g⟩<;>rw[g]at hh<;>cases hh
omit [Dr]in
theorem aN.bnd{α β:Type}{m:M α}(h:aN m)(f:α->β):aN (ae m fun v=>M.pure (f v)):=by
 obtain⟨o,rfl⟩:=h;cases o with
 |none=>exact⟨none,rfl⟩
 |some v=>exact⟨some (f v),rfl⟩
omit [Dr]in
theorem cp.bnd{α β:Type}{m:M α}(g:cp m)(f:α->β):cp (ae m fun v=>M.pure (f v)):=by
 intro h;simp only[Av.ae,M.pure];rcases g h with g|⟨x,g⟩<;>rw[g]
 ·exact .inl rfl
 ·exact .inr ⟨_,rfl⟩
omit [Dr]in
theorem cK.bnd{α β:Type}{m:M α}(g:cK m)(f:α->β):cK (ae m fun v=>M.pure (f v)):=by
 intro h v h' hh;simp only[Av.ae,M.pure]at hh;cases hm:m h<;>rw[hm]at hh<;>simp at hh;exact g _ _ _ hm
omit [Dr]in
theorem aN.lft{α:Type}(o:Option α):aN (af o):=⟨o,rfl⟩
omit [Dr]in
theorem aN.pure{α:Type}(a:α):aN (M.pure a):=⟨some a,rfl⟩
omit [Dr]in
theorem aN.fail{α:Type}:aN (M.fail:M α):=⟨none,rfl⟩
def gH{α:Type}(m:M α):Prop:=∀h t v,m h= .ok v h->m (h++t)= .ok v (h++t)
def qF{α:Type}(m:M α):Prop:=∀h v h',m h= .ok v h'->∃t,h'=h++t
omit [Dr]in
theorem aN.app{α:Type}{m:M α}(h:aN m):gH m:=by
 obtain⟨o,rfl⟩:=h;intro h t v hh;cases o with
 |none=>cases hh
 |some x=>cases hh;rfl
omit [Dr]in
theorem aN.nw{α:Type}{m:M α}(h:aN m):qF m:=by
 obtain⟨o,rfl⟩:=h;intro h v h' hh;cases o with
 |none=>cases hh
 |some x=>cases hh;exact⟨[],by simp⟩
omit [Dr]in
theorem gH.bnd{α β:Type}{m:M α}(g:gH m/\cp m)(f:α->β):gH (ae m fun v=>M.pure (f v))/\cp (ae m fun v=>M.pure (f v)):=by
 refine⟨fun h t v hh=>?_,g.2.bnd f⟩;simp only[Av.ae,M.pure]at hh |-;rcases g.2 h with k|⟨x,k⟩
 ·rw[k]at hh;cases hh
 ·rw[k]at hh;cases hh;rw[g.1 h t x k]
omit [Dr]in
theorem qF.bnd{α β:Type}{m:M α}(g:qF m)(f:α->β):qF (ae m fun v=>M.pure (f v)):=by
 intro h v h' hh;simp only[Av.ae,M.pure]at hh;cases hm:m h<;>rw[hm]at hh<;>simp at hh;obtain⟨t,ht⟩:=g _ _ _ hm;exact⟨t,by rw[<- hh.2,ht]⟩
def aX(p:∀ {α:Type},M α->Prop):Act1->Prop
 |.dyn m _=>p m
 |.thr _=>False
 |_=>True
structure IsoPure (cx:Cx):Prop where
 iso:∀f args,cx.iso f=true->aN (cx.call f args)
 nw:∀f args,cx.nw f=true->qF (cx.call f args)
section
variable {cx:Cx} {e:Env} {gid:Nat} {o:Oper}
omit [Dr]in
theorem aX.cond{p:∀ {α:Type},M α->Prop}{b:Bool}{x y:Act1}(h1:b=true->aX p x)(h2:b=false->aX p y):aX p (bif b then x else y):=by
 cases b with
 |true=>exact h1 rfl
 |false=>exact h2 rfl
omit [Dr]in
theorem aX.lft(o:Option AV)(sh:AV->Upd):aX aN (.dyn (af o) sh):=aN.lft o
omit [Dr]in
theorem kO(T:TT)(t:TypeId)(x:AV):cp (cT T t x):=by
 have key:∀x,cp (fun h:Hp=>(match ah T t x with|some v=>R.ok v h|none=>.fail)):=by
  intro x h;cases hq:ah T t x with
  |none=>exact .inl rfl
  |some v=>exact .inr ⟨v,rfl⟩
 cases x with
 | hp l off=>
  intro h;simp only[cT];cases T t with
  |none=>exact .inl rfl
  | some ti=>
   cases h[l]? with
   |none=>exact .inl rfl
   | some cs=>
    simp only;cases ti.agg with
    |true=>
     simp only[CH];split
     ·exact .inr ⟨_,rfl⟩
     ·exact .inl rfl
    |false=>
     simp only[CK];cases cs[off]? with
     |none=>exact .inl rfl
     |some v=>exact .inr ⟨v,rfl⟩
 |_=>exact key _
omit [Dr]in
theorem pk(T:TT)(t:TypeId)(x y:AV):cK (dI T t x y):=by
 intro h v h' hh;unfold dI at hh;split at hh
 ·split at hh
  ·revert hh;generalize (_&&_:Bool)=b1;cases b1<;>simp
  ·cases hh
 ·cases hh
omit [Dr]in
theorem nX(T:TT)(t:TypeId)(x:AV):cK (mT T t x):=fun h v h' hh=>by cases hh
omit [Dr]in
theorem mr(cs:List AV):cK (newH cs):=by
 intro h v h' hh;unfold newH at hh;revert hh;generalize (_||_:Bool)=b1;cases b1<;>simp
omit [Dr]in
theorem sn(t:Nat)(cs:List AV):cK (sk t cs):=by
 intro h v h' hh;unfold sk at hh;split at hh
 ·revert hh;generalize List.any _ _=b1;cases b1<;>simp
 ·cases hh
omit [Dr]in
theorem nd:cK eF:=by
 intro h v h' hh;cases hh
omit [Dr]in
theorem qi(T:TT)(t:TypeId)(x k:AV)(ok:Bool):cp (fw T t x k ok):=by
 intro h;unfold fw;cases ia h x with
 |none=>exact .inl rfl
 |some es=>
  simp only;cases kS T t es k ok with
  |none=>exact .inl rfl
  |some v=>exact .inr ⟨v,rfl⟩
omit [Dr]in
theorem rT{h s:Hp}{x:AV}{es:List AV}(hh:ia h x=some es):ia (h++s) x=some es:=by
 unfold ia at hh |-;cases x with
 | mp l=>
  simp only at hh |-;cases hl:h[l]? with
  |none=>rw[hl]at hh;cases hh
  | some cs=>
   rw[hl]at hh;have hl':(h++s)[l]? = some cs:=by
    rw[D8,CJ (Dw.1 hl).1,hl]
   rw[hl'];exact hh
 |_=>exact hh
omit [Dr]in
theorem se(T:TT)(t:TypeId)(x k:AV)(ok:Bool):gH (fw T t x k ok):=by
 intro h s v hh;unfold fw at hh |-;cases hs:ia h x with
 |none=>rw[hs]at hh;cases hh
 |some es=>
  rw[hs]at hh;rw[rT hs];simp only at hh |-;cases ha:kS T t es k ok with
  |none=>rw[ha]at hh;cases hh
  |some u=>rw[ha]at hh;cases hh;rfl
omit [Dr]in
theorem oU(T:TT)(t:TypeId)(x:AV):cK (nk T t x):=fun h v h' hh=>by cases hh
omit [Dr]in
theorem og(x:AV):cp (kz x):=fun h=>.inl rfl
omit [Dr]in
theorem pR(x:AV):gH (kz x):=fun h s v hh=>by cases hh
omit [Dr]in
theorem mA(T:TT)(t:TypeId)(x k y:AV):cK (lT T t x k y):=by
 intro h v h' hh;unfold lT at hh;split at hh
 ·cases hh
 ·revert hh;cases rO T 20 _ k with
  |false=>intro hh;cases hh
  | true=>
   simp only[CH];intro hh;split at hh
   ·split at hh
    ·split at hh
     ·cases hh
     ·cases hh
    ·cases hh
   ·cases hh
omit [Dr]in
theorem rG(T:TT)(t:TypeId)(z:Bool)(x y:AV):cK (appH T t z x y):=by
 intro h v h' hh;unfold appH at hh;have hc:∀ {b:Bool} {r s:R AV},(∀v h',r≠.pan v h')->(∀v h',s≠.pan v h')->(bif b then r else s)≠.pan v h':=by
  intro b r s h1 h2;cases b
  ·exact h2 _ _
  ·exact h1 _ _
 split at hh
 ·cases hh
 ·split at hh
  ·split at hh
   ·cases hh
   ·split at hh
    ·cases hh
    ·refine hc (fun v h' hh=>?_) (fun v h' hh=>by cases hh) hh;split at hh
     ·revert hh;generalize List.isEmpty _=b1;generalize decide (_<=140737488355328)=b2;cases b1<;>cases b2<;>simp
     ·revert hh;generalize List.isEmpty _=b1;generalize decide (_<=140737488355328)=b2;cases z<;>cases b1<;>cases b2<;>simp
     ·split at hh
      ·cases hh
      ·revert hh;generalize (_&&_:Bool)=b1;generalize List.isEmpty _=b2;cases b1<;>cases b2<;>simp
     ·cases hh
  ·cases hh
omit [Dr]in
theorem rF(T:TT)(t:TypeId)(x y:AV):cK (rE T t x y):=by
 intro h v h' hh;unfold rE at hh;have hc:∀ {b:Bool} {r s:R AV},(∀v h',r≠.pan v h')->(∀v h',s≠.pan v h')->(bif b then r else s)≠.pan v h':=by
  intro b r s h1 h2;cases b
  ·exact h2 _ _
  ·exact h1 _ _
 split at hh
 ·cases hh
 ·split at hh
  ·split at hh
   ·cases hh
   ·refine hc (fun v h' hh=>?_) (fun v h' hh=>by cases hh) hh;split at hh
    ·cases hh
    ·split at hh
     ·cases hh
     ·split at hh
      ·revert hh;generalize List.isEmpty _=b1;generalize decide (_<=140737488355328)=b2;cases b1<;>cases b2<;>simp
      ·split at hh
       ·cases hh
       ·revert hh;generalize (_&&_:Bool)=b1;generalize List.isEmpty _=b2;cases b1<;>cases b2<;>simp
      ·cases hh
  ·cases hh
omit [Dr]in
theorem nS(T:TT)(t n:Nat)(ps:List (Nat×AV)):cK (mR T t n ps):=fun h v h' hh=>by cases hh
omit [Dr]in
theorem qj(T:TT)(t:Nat)(x y:AV):cK (mo T t x y):=by
 intro h v h' hh;unfold mo at hh;split at hh
 ·split at hh
  ·cases hh
  ·split at hh
   ·split at hh
    ·cases hh
    ·revert hh;generalize (_&&_:Bool)=b1;cases b1<;>simp
   ·cases hh
 ·cases hh
omit [Dr]in
theorem mq(told:Bool)(x:Operand):aX aN (eV told e gid x):=by
 unfold eV;split
 ·trivial
 ·exact aX.cond (fun _=>aX.cond (fun _=>trivial) (fun _=>trivial)) (fun _=>trivial)
omit [Dr]in
theorem qh(d:Option Tmp)(t:TypeId)(p:Nat):aX cp (cG cx e d t p)/\(aY cx.ann.hl d=false->aX aN (cG cx e d t p)):=by
 unfold cG;split
 ·split
  ·exact⟨trivial,fun _=>trivial⟩
  ·constructor
   ·exact aX.cond (fun _=>aX.cond (fun _=>trivial) (fun _=>aX.cond (fun _=>trivial) (fun _=>trivial))) (fun _=>trivial)
   ·exact fun _=>aX.cond (fun _=>aX.cond (fun _=>trivial) (fun _=>aX.cond (fun _=>trivial) (fun _=>trivial))) (fun _=>trivial)
 ·cases hm:aY cx.ann.hl d with
  |true=>exact⟨kO _ _ _,fun h=>by cases h⟩
  |false=>exact⟨(aN.lft _).read,fun _=>aN.lft _⟩
omit [Dr]in
theorem sd(T:TT)(t:TypeId)(x:AV):gH (cT T t x):=by
 intro h s v hh;have hk:∀y,(match ah T t y with|some v=>R.ok v h|none=>.fail)=R.ok v h->(match ah T t y with|some v=>R.ok v (h++s)|none=>.fail)=R.ok v (h++s):=by
  intro y hy;cases hq:ah T t y with
  |none=>rw[hq]at hy;cases hy
  |some u=>rw[hq]at hy;cases hy;rfl
 unfold cT at hh |-;cases x with
 | hp l off=>
  simp only at hh |-;cases hT:T t with
  |none=>rw[hT]at hh;cases hh
  | some ti=>
   rw[hT]at hh;cases hl:h[l]? with
   |none=>rw[hl]at hh;cases hh
   | some cs=>
    have hl':(h++s)[l]? = some cs:=by
     rw[D8]
     have:=(Dw.1 hl).1
     rw[CJ this,hl]
    rw[hl]at hh;rw[hl'];simp only at hh |-;cases hag:ti.agg with
    |true=>
     rw[hag]at hh;simp only[CH]at hh |-;split at hh
     ·rename_i hc;cases hh;rw[CJ hc]
     ·cases hh
    |false=>
     rw[hag]at hh;simp only[CK]at hh |-;cases hq:cs[off]? with
     |none=>rw[hq]at hh;cases hh
     |some u=>rw[hq]at hh;cases hh;rfl
 |_=>exact hk _ hh
omit [Dr]in
theorem tN(d:Option Tmp)(t:TypeId)(p:Nat):aX (fun m=>gH m/\cp m) (cG cx e d t p):=by
 unfold cG;split
 ·split
  ·trivial
  ·exact aX.cond (fun _=>aX.cond (fun _=>trivial) (fun _=>aX.cond (fun _=>trivial) (fun _=>trivial))) (fun _=>trivial)
 ·cases hm:aY cx.ann.hl d with
  |true=>exact⟨sd _ _ _,kO _ _ _⟩
  |false=>exact⟨(aN.lft _).app,(aN.lft _).read⟩
omit [Dr]in
theorem tw{A:Act1}(h:aX cK A):aX cK (yu A):=by
 cases A with
 |bad=>trivial
 |stat u=>intro h v h' hh;cases hh
 |dyn m sh=>
  intro x v h' hh;simp only[Av.ae,qV]at hh;cases hm:m x<;>rw[hm]at hh<;>simp at hh;exact h _ _ _ hm
 |thr v=>exact h.elim
omit [Dr]in
theorem pZ(t p i:Nat):aX aN (eH cx e t p i):=by
 unfold eH;split
 ·split
  ·trivial
  ·split
   ·trivial
   ·split
    ·trivial
    ·exact aX.cond (fun _=>trivial) (fun _=>trivial)
 ·exact aN.lft _
omit [Dr]in
theorem qc(t p:Nat)(i:Operand):aX aN (cm cx e t p i):=by
 unfold cm;split
 ·split
  ·split
   ·split
    ·trivial
    ·exact aX.cond (p:=aN) (fun _=>trivial) (fun _=>trivial)
   ·trivial
  ·trivial
 ·exact aN.lft _
omit [Dr]in
theorem qy(t p:Nat)(y:Operand):aX cK (dG cx e gid t p y):=by
 have hl:∀o:Option AV,cK (Av.af o):=fun o=>(aN.lft o).read.stay;unfold dG;split
 ·split
  ·trivial
  ·refine aX.cond (fun _=>aX.cond (fun _=>aX.cond (fun _=>hl _) (fun _=>trivial)) (fun _=>aX.cond (fun _=>hl _) (fun _=>aX.cond (fun _=>?_) (fun _=>trivial)))) (fun _=>trivial);split
   ·split
    ·exact hl _
    ·trivial
   ·exact aX.cond (fun _=>trivial) (fun _=>hl _)
 ·exact pk _ _ _ _
omit [Dr]in
theorem qx(t p:Nat)(y:Operand)(hl:eU (e.get p)=true):aX aN (dG cx e gid t p y):=by
 have hl':∀o:Option AV,aN (Av.af o):=fun o=>aN.lft o;unfold dG;cases hv:(e.get p).v with
 |val a=>simp[eU,hv]at hl
 | loc B off=>
  simp only;split
  ·trivial
  ·refine aX.cond (fun _=>aX.cond (fun _=>aX.cond (fun _=>hl' _) (fun _=>trivial)) (fun _=>aX.cond (fun _=>hl' _) (fun _=>aX.cond (fun _=>?_) (fun _=>trivial)))) (fun _=>trivial);split
   ·split
    ·exact hl' _
    ·trivial
   ·exact aX.cond (fun _=>trivial) (fun _=>hl' _)
omit [Dr]in
theorem gb(s t:Nat):aX cK (dE cx e gid s t)/\(br cx.ann.kinds s .L≠.H->br cx.ann.kinds s .L≠.B->aX aN (dE cx e gid s t)):=by
 unfold dE;split
 ·exact⟨trivial,fun _ _=>trivial⟩
 ·cases hk:br cx.ann.kinds s .L with
  |F=>exact⟨trivial,fun _ _=>trivial⟩
  |H=>exact⟨mr _,fun h=>absurd rfl h⟩
  |B=>exact⟨sn _ _,fun _ h=>absurd rfl h⟩
  |L=>exact⟨aX.cond (fun _=>trivial) (fun _=>trivial),fun _ _=>aX.cond (fun _=>trivial) (fun _=>trivial)⟩
  |S=>exact⟨aX.cond (fun _=>trivial) (fun _=>trivial),fun _ _=>aX.cond (fun _=>trivial) (fun _=>trivial)⟩
omit [Dr]in
theorem l6(s t:Nat)(x:Operand):aX cK (gp cx e s t x)/\(br cx.ann.kinds s .F≠.H->aX aN (gp cx e s t x)):=by
 have hl:∀o:Option AV,cK (Av.af o):=fun o=>(aN.lft o).read.stay;unfold gp;cases hk:br cx.ann.kinds s .F with
 |F=>exact⟨trivial,fun _=>trivial⟩
 |H=>exact⟨mr _,fun h=>absurd rfl h⟩
 |B=>exact⟨trivial,fun _=>trivial⟩
 |L=>
  simp only;split
  ·exact⟨trivial,fun _=>trivial⟩
  ·exact⟨aX.cond (fun _=>hl _) (fun _=>trivial),fun _=>aX.cond (fun _=>aN.lft _) (fun _=>trivial)⟩
 |S=>
  simp only;split
  ·exact⟨trivial,fun _=>trivial⟩
  ·exact⟨aX.cond (fun _=>hl _) (fun _=>trivial),fun _=>aX.cond (fun _=>aN.lft _) (fun _=>trivial)⟩
structure Class (f:Foot) (A:Act1):Prop where
 stay:f.piv=false->aX cK A
 read:f.wh=false->aX cp A
 pure:f.wh=false->f.rh=false->aX aN A
 app:f.wh=false->aX (fun m=>gH m/\cp m) A
 nw:f.nw=true->aX qF A
omit [Dr]in
theorem aX.imp{p q:∀ {α:Type},M α->Prop}(hpq:∀ {α:Type} (m:M α),p m->q m){A:Act1}(h:aX p A):aX q A:=by
 cases A<;>first|trivial|exact hpq _ h|exact h
omit [Dr]in
theorem Class.of_pure{f:Foot}{A:Act1}(h:aX aN A):Class f A:=
 ⟨fun _=>h.imp fun _ g=>g.read.stay,fun _=>h.imp fun _ g=>g.read,fun _ _=>h,fun _=>h.imp fun _ g=>⟨g.app,g.read⟩,fun _=>h.imp fun _ g=>g.nw⟩
omit [Dr]in
theorem gH.nw{α:Type}{m:M α}(h:cp m):qF m:=fun x v h' hh=>by
 rcases h x with g|⟨u,g⟩
 ·rw[g]at hh;cases hh
 ·rw[g]at hh;cases hh;exact⟨[],by simp⟩
omit [Dr]in
theorem Class.of_app{f:Foot}{A:Act1}(_hw:f.wh=false)(hr:f.rh=true)(h:aX (fun m=>gH m/\cp m) A):Class f A:=
 ⟨fun _=>h.imp fun _ g=>g.2.stay,fun _=>h.imp fun _ g=>g.2,fun _ h=>by(rw[hr]at h;cases h),fun _=>h,fun _=>h.imp fun _ g=>gH.nw g.2⟩
omit [Dr]in
theorem lZ(T:TT)(t:TypeId)(x y:AV):cp (nO T t x y):=by
 intro h;unfold nO;cases lV h y with
 |none=>exact .inl rfl
 |some es=>
  simp only;cases dj T t x (.sl es)with
  |none=>exact .inl rfl
  |some v=>exact .inr ⟨v,rfl⟩
omit [Dr]in
theorem uj{h s:Hp}{y:AV}{es:List AV}(hh:lV h y=some es):lV (h++s) y=some es:=by
 unfold lV at hh |-;split at hh
 ·rename_i l off len sz ag;cases hl:h[l]? with
  |none=>rw[hl]at hh;cases hh
  | some cs=>
   rw[hl]at hh;have hl':(h++s)[l]? = some cs:=by
    rw[D8]
    have:=(Dw.1 hl).1
    rw[CJ this,hl]
   simp only[hl'];exact hh
 ·exact hh
 ·exact hh
 ·cases hh
omit [Dr]in
theorem nP(T:TT)(t:TypeId)(x y:AV):gH (nO T t x y):=by
 intro h s v hh;unfold nO at hh |-;cases hs:lV h y with
 |none=>rw[hs]at hh;cases hh
 |some es=>
  rw[hs]at hh;rw[uj hs];simp only at hh |-;cases ha:dj T t x (.sl es)with
  |none=>rw[ha]at hh;cases hh
  |some u=>rw[ha]at hh;cases hh;rfl
omit [Dr]in
theorem Class.of_stay{f:Foot}{A:Act1}(hw:f.wh=true)(hn:f.nw=false)(h:aX cK A):Class f A:=
 ⟨fun _=>h,fun h=>by(rw[hw]at h;cases h),fun h=>by(rw[hw]at h;cases h),fun h=>by(rw[hw]at h;cases h),fun h=>by(rw[hn]at h;cases h)⟩
omit [Dr]in
theorem Class.of_piv{f:Foot}{A:Act1}(hw:f.wh=true)(h:f.piv=true)(hn:f.nw=true->aX qF A):Class f A:=
 ⟨fun h'=>by(rw[h]at h';cases h'),fun h=>by(rw[hw]at h;cases h),fun h=>by(rw[hw]at h;cases h),fun h=>by(rw[hw]at h;cases h),hn⟩
omit [Dr]in
theorem pE(hI:IsoPure cx){c:Call}(ho:o.op= .call c):Class (am cx o) (dF cx e gid o c):=by
 unfold dF;cases hc:c.callee with
 |invoke r m=>exact .of_pure trivial
 | value x=>
  cases x with
  | func f=>
   simp only;cases hfz:aY cx.ann.fz o.dst with
   | true=>
    simp only[CH];cases hq:!(cx.iso f)&&!(cx.nw f)&&(cx.own f).isNone with
    |false=>exact .of_pure trivial
    |true=>
     simp only[CI,Dq]at hq;exact .of_piv (by unfold am;rw[ho];simp only[hc,hq.1.1,CK]) (by unfold am;rw[ho];simp only[hc,hq.1.1,CK]) fun hn=>by unfold am at hn;rw[ho]at hn;simp only[hc,hq.1.1,CK,hq.1.2]at hn;cases hn
   |false=>
   simp only[CK];cases hi:cx.iso f with
   |true=>exact .of_pure (hI.iso f _ hi)
   |false=>exact .of_piv (by unfold am;rw[ho];simp only[hc,hi,CK]) (by unfold am;rw[ho];simp only[hc,hi,CK]) fun hn=>hI.nw f _ (by unfold am at hn;rw[ho]at hn;simpa only[hc,hi,CK]using hn)
  |_=>exact .of_piv (by unfold am;rw[ho];simp only[hc]) (by unfold am;rw[ho];simp only[hc]) fun hn=>by unfold am at hn;rw[ho]at hn;simp[hc]at hn
 | builtin b=>
  cases b<;>simp only<;>(try exact .of_pure trivial)
  case clear=>
   have hw:(am cx o).wh=true/\(am cx o).nw=false:=by unfold am;rw[ho];simp only[hc];exact⟨trivial,trivial⟩
   split
   ·exact .of_stay hw.1 hw.2 (nX _ _ _)
   ·exact .of_pure trivial
  case append=>
   split
   ·cases hu:ey cx.T _ with
    |false=>exact .of_pure trivial
    | true=>
     simp only[DV,CK];cases hha:aY cx.ann.ha o.dst with
     | true=>exact .of_stay (by unfold am;rw[ho];simp only[hc,hha,CH]) (by unfold am;rw[ho];simp only[hc,hha,CH]) (by
       cases aY cx.ann.hb o.dst with
       |true=>simp only[CH];exact rF _ _ _ _
       |false=>exact rG _ _ _ _ _)
     | false=>
      simp only[CK];cases hhl:aY cx.ann.hl o.dst with
      | true=>
       refine .of_app (by unfold am;rw[ho];simp only[hc,hha,CK]) (by unfold am;rw[ho];simp only[hc,hha,hhl,CK]) ?_;simp only[CH];refine aX.cond (fun _=>⟨nP _ _ _ _,lZ _ _ _ _⟩) (fun _=>?_);split
       ·split
        ·trivial
        ·split
         ·trivial
         ·exact aX.cond (fun _=>⟨nP _ _ _ _,lZ _ _ _ _⟩) (fun _=>trivial)
       ·trivial
      | false=>
       refine .of_pure ?_;simp only[CK];refine aX.cond (fun _=>aN.lft _) (fun _=>?_);split
       ·split
        ·trivial
        ·split
         ·trivial
         ·exact aX.cond (fun _=>aN.lft _) (fun _=>trivial)
       ·trivial
   ·exact .of_pure trivial
  case len=>
   split
   ·exact .of_pure (aN.lft _)
   ·exact .of_pure trivial
  case min=>exact .of_pure (aN.lft _)
  case max=>exact .of_pure (aN.lft _)
omit [Dr]in
theorem cY(hI:IsoPure cx)(e:Env)(gid:Nat)(o:Oper):Class (am cx o) (dx cx e gid o):=by
 unfold dx;cases ho:o.op<;>simp only<;>(try exact .of_pure (aN.lft _))<;>(try exact .of_pure trivial)
 case binOp=>exact .of_pure (aX.cond (fun _=>trivial) fun _=>aN.lft _)
 case buildSlice t n ps=>
  cases hha:aY cx.ann.ha o.dst with
  |true=>exact .of_stay (by unfold am;rw[ho];simp only[hha,CH]) (by unfold am;rw[ho];simp only[hha,CH]) (nS _ _ _ _)
  |false=>exact .of_pure (aN.lft _)
 case makeSlice t x y=>
  cases hha:aY cx.ann.ha o.dst with
  |true=>exact .of_stay (by unfold am;rw[ho];simp only[hha,CH]) (by unfold am;rw[ho];simp only[hha,CH]) (qj _ _ _ _)
  |false=>exact .of_pure (aN.lft _)
 case move x=>exact .of_pure (mq _ x)
 case assign x=>exact .of_pure (mq _ x)
 case box t x=>
  cases hd:o.dst with
  |none=>exact .of_pure trivial
  |some s=>
   cases hk:br cx.ann.kinds s .F with
   |H=>exact .of_stay (by unfold am;rw[ho];simp only[hd,hk]) (by unfold am;rw[ho];simp only[hd,hk]) (l6 s t x).1
   |_=>exact .of_pure ((l6 s t x).2 (by rw[hk];simp))
 case alloc t=>
  cases hd:o.dst with
  |none=>exact .of_pure trivial
  |some s=>
   cases hk:br cx.ann.kinds s .L with
   |H=>exact .of_stay (by unfold am;rw[ho];simp only[hd,hk]) (by unfold am;rw[ho];simp only[hd,hk]) (gb s t).1
   |B=>exact .of_stay (by unfold am;rw[ho];simp only[hd,hk]) (by unfold am;rw[ho];simp only[hd,hk]) (gb s t).1
   |_=>exact .of_pure ((gb s t).2 (by rw[hk];simp) (by rw[hk];simp))
 case load t x=>
  cases x with
  |tmp p=>
   have h:=qh (cx:=cx) (e:=e) o.dst t p;simp only;cases hnl:aY cx.ann.nl o.dst&&eU (e.get p)with
   |true=>exact .of_pure trivial
   |false=>
   simp only[CK];cases hz:aY cx.ann.fz o.dst with
   |true=>exact .of_stay (by unfold am;rw[ho];exact hz) (by unfold am;rw[ho]) (tw (h.1.imp fun _ g=>g.stay))
   |false=>exact⟨fun _=>h.1.imp fun _ g=>g.stay,fun _=>h.1,fun _ hr=>h.2 (by unfold am at hr;rw[ho]at hr;exact hr),fun _=>tN o.dst t p,fun hn=>by unfold am at hn;rw[ho]at hn;cases hn⟩
  |_=>exact .of_pure trivial
 case store t x y=>
  cases x with
  | tmp p=>
   cases hd:o.dst with
   |some d=>exact .of_pure trivial
   | none=>
    simp only;cases hlw:dk cx.ann.lw p with
    |false=>exact .of_stay (by unfold am;rw[ho];simp[hlw]) (by unfold am;rw[ho]) (by simp only[Fh,CK];exact qy t p y)
    |true=>
     cases hlo:eU (e.get p)with
     |false=>exact .of_pure trivial
     |true=>exact .of_pure (by simp only[DV,Fg,CK];exact qx t p y hlo)
  |_=>exact .of_pure trivial
 case nilCheck x=>
  cases x with
  |tmp p=>
   simp only;split
   ·exact .of_pure trivial
   ·exact .of_pure (aN.lft _)
  |_=>exact .of_pure trivial
 case fieldAddr t x i=>cases x<;>first|exact .of_pure (pZ _ _ _)|exact .of_pure trivial
 case indexAddr t x i=>cases x<;>first|exact .of_pure (qc _ _ _)|exact .of_pure (aN.lft _)|exact .of_pure trivial
 case slice t x lo hi mx=>
  refine .of_pure (aX.cond (fun _=>?_) fun _=>aN.lft _);unfold iD;split
  ·split
   ·trivial
   ·split
    ·exact aX.cond (fun _=>aN.lft _) fun _=>trivial
    ·trivial
  ·trivial
 case makeMap t r=>exact .of_stay (by unfold am;rw[ho]) (by unfold am;rw[ho]) (aX.cond (fun _=>trivial) fun _=>nd)
 case lookup t x i ok=>exact .of_app (by unfold am;rw[ho]) (by unfold am;rw[ho]) ⟨se _ _ _ _ _,qi _ _ _ _ _⟩
 case mapUpdate t m k x=>exact .of_stay (by unfold am;rw[ho]) (by unfold am;rw[ho]) (by unfold gq;split;exact mA _ _ _ _ _;trivial)
 case insert t m k x=>exact .of_stay (by unfold am;rw[ho]) (by unfold am;rw[ho]) (by unfold gq;split;exact mA _ _ _ _ _;trivial)
 case range t x=>exact .of_stay (by unfold am;rw[ho]) (by unfold am;rw[ho]) (oU _ _ _)
 case entry x=>exact .of_app (by unfold am;rw[ho]) (by unfold am;rw[ho]) ⟨pR _,og _⟩
 case panic x=>
  refine .of_piv ?_ ?_ ?_
  ·unfold am;rw[ho]
  ·unfold am;rw[ho]
  ·intro hn;unfold am at hn;rw[ho]at hn;cases hn
 case call c=>exact pE hI ho
end
end Go.Av
namespace Go.Av
variable [Dr]
structure EqE (e e':Env):Prop where
 get:∀t,e'.get t=e.get t
 al:∀g,aw e'.al g=aw e.al g
 lb:∀B,aQ e'.lb B=aQ e.lb B
 lf:∀B,aH e'.sl B=aH e.sl B
omit [Dr]in
theorem EqE.refl(e:Env):EqE e e:=⟨fun _=>rfl,fun _=>rfl,fun _=>rfl,fun _=>rfl⟩
omit [Dr]in
theorem EqE.symm{e e':Env}(h:EqE e e'):EqE e' e:=⟨fun t=>(h.get t).symm,fun t=>(h.al t).symm,fun t=>(h.lb t).symm,fun t=>(h.lf t).symm⟩
omit [Dr]in
theorem EqE.trans{a b c:Env}(h:EqE a b)(g:EqE b c):EqE a c:=
 ⟨fun t=>(g.get t).trans (h.get t),fun t=>(g.al t).trans (h.al t),fun t=>(g.lb t).trans (h.lb t),fun t=>(g.lf t).trans (h.lf t)⟩
def RE:R Env->R Env->Prop
 |.fail,_=>True
 |.ok e h,r=>∃e',r= .ok e' h/\EqE e e'
 |.pan v h,r=>r= .pan v h
omit [Dr]in
theorem RE.refl(r:R Env):RE r r:=by
 cases r with
 |ok e h=>exact⟨e,rfl,.refl e⟩
 |pan v h=>exact rfl
 |fail=>trivial
omit [Dr]in
theorem RE.trans{a b c:R Env}(h:RE a b)(g:RE b c):RE a c:=by
 cases a with
 |ok e x=>
  obtain⟨e',rfl,h⟩:=h;obtain⟨e2,rfl,g⟩:=g;exact⟨e2,rfl,h.trans g⟩
 |pan v x=>cases h;exact g
 |fail=>trivial
omit [Dr]in
theorem fu(l r:List (Nat×Ent))(t:Nat):bd (l++r) t=if(∃x∈l,x.1=t)then bd l t else bd r t:=by
 induction l with
 |nil=>simp
 | cons x l ih=>
  obtain⟨k,y⟩:=x;rw[Dy,bp,bp];by_cases hk:k=t
  ·subst hk;simp
  ·rw[if_neg hk,if_neg hk,ih];have:(∃x∈(k,y):: l,x.1=t)↔(∃x∈l,x.1=t):=by
    simp only[C8,exists_eq_or_imp];constructor
    ·rintro (h|h)
     ·exact absurd h hk
     ·exact h
    ·exact .inr
   simp only[this]
omit [Dr]in
theorem kU{l:List (Nat×Ent)}(r:List (Nat×Ent)){t:Nat}(h:∀x∈l,x.1≠t):bd (l++r) t=bd r t:=by
 rw[fu,if_neg];rintro⟨x,hx,ht⟩;exact h x hx ht
omit [Dr]in
theorem fv(d:Option Tmp)(x:Ent)(r:List (Nat×Ent))(t:Nat):bd (lJ d x r) t=if d=some t then x else bd r t:=by
 cases d with
 |none=>simp[lJ]
 |some s=>simp only[lJ,bp,CG]
omit [Dr]in
theorem jK{l r s:List (Nat×Ent)}{t:Nat}(h:bd r t=bd s t):bd (l++r) t=bd (l++s) t:=by
 rw[fu,fu,h]
omit [Dr]in
theorem eg(l r:List (Nat×Ent))(B:Nat):aH (l++r) B=(aH l B&&aH r B):=by
 unfold aH;rw[List.all_append]
def hZ(x:Ent)(B:Nat):Bool:=match x.v with
 |.loc C _=>!(Nat.beq C B)
 |.val _=>true
omit [Dr]in
theorem cU(d:Option Tmp)(x:Ent)(r:List (Nat×Ent))(B:Nat):aH (lJ d x r) B=((d.isNone||hZ x B)&&aH r B):=by
 cases d with
 |none=>simp[lJ]
 |some t=>rfl
omit [Dr]in
theorem ix{l:List (Nat×Ent)}{B t C off:Nat}(h:aH l B=true)(ht:(bd l t).v= .loc C off):C≠B:=by
 induction l with
 |nil=>simp[bd,Ent.none]at ht
 | cons x l ih=>
  obtain⟨k,y⟩:=x;rw[bp]at ht;simp only[aH,DZ,CI]at h;split at ht
  ·rw[ht]at h;have h1:=h.1;simp only[Dq]at h1;intro hc;rw[hc,E1]at h1;cases h1
  ·exact ih (by unfold aH;exact h.2) ht
omit [Dr]in
theorem cR(l r:List (Nat×Option Nat))(g:Nat):aw (l++r) g=(match aw l g with|some z=>some z|none=>aw r g):=by
 induction l with
 |nil=>rfl
 |cons x l ih=>
  obtain⟨k,y⟩:=x;rw[Dy,bh,bh];split
  ·rfl
  ·exact ih
omit [Dr]in
theorem jv{l:List (Nat×Option Nat)}{k g:Nat}(h:∀x∈l,x.1=k)(hg:g≠k):aw l g=none:=by
 induction l with
 |nil=>rfl
 | cons x l ih=>
  obtain⟨j,y⟩:=x;rw[bh,if_neg]
  ·exact ih fun x hx=>h x (by simp[hx])
  ·have:=h (j,y) (by simp)
   simp at this;omega
omit [Dr]in
theorem iw(r:List (Nat×Nat))(k B:Nat):aQ (gL r k) B=if k=B then none else aQ r B:=by
 induction r with
 |nil=>simp[gL,aQ]
 | cons x r ih=>
  obtain⟨j,y⟩:=x;simp only[gL];by_cases hj:j=k
  ·subst hj;simp only[E1,CH,ih,cy];split<;>rfl
  ·have:Nat.beq j k=false:=by rw[DL];intro hh;exact hj (CM hh)
   simp only[this,CK,cy,ih];by_cases hg:j=B
   ·subst hg;rw[CJ rfl,if_neg (fun h=>hj h.symm),CJ rfl]
   ·rw[if_neg hg,if_neg hg]
omit [Dr]in
theorem EqE.upd{e e':Env}(h:EqE e e')(d:Option Tmp)(u:Upd):EqE (e.upd d u) (e'.upd d u):=by
 refine⟨fun t=>?_,fun g=>?_,fun B=>?_,fun B=>?_⟩
 ·show bd (lJ d u.ent (u.ls++e'.sl)) t=bd (lJ d u.ent (u.ls++e.sl)) t;rw[fv,fv,jK (h.get t)]
 ·show aw (u.add++cM e'.al u.drop) g=aw (u.add++cM e.al u.drop) g;have:aw (cM e'.al u.drop) g=aw (cM e.al u.drop) g:=by
   cases u.drop with
   |none=>exact h.al g
   |some k=>simp only[cM,f7,h.al g]
  rw[cR,cR,this]
 ·show aQ (gQ (cE e'.lb u.unlb) u.lb) B=aQ (gQ (cE e.lb u.unlb) u.lb) B;have:aQ (cE e'.lb u.unlb) B=aQ (cE e.lb u.unlb) B:=by
   cases u.unlb with
   |none=>exact h.lb B
   |some k=>simp only[cE,iw,h.lb B]
  cases u.lb with
  |none=>exact this
  |some x=>
   obtain⟨k,n⟩:=x;simp only[gQ,cy,this]
 ·show aH (lJ d u.ent (u.ls++e'.sl)) B=aH (lJ d u.ent (u.ls++e.sl)) B;rw[cU,cU,eg,eg,h.lf B]
section
variable {cx:Cx} {ops:Array Oper} {base:Nat}
def cX(ops:Array Oper)(o:Oper):List Nat:=match o.guard with
 |some (j,_)=>(match (ops[j]?).bind (·.dst)with|some t=>[t]|none=>[])
 |none=>[]
omit [Dr]in
theorem dS{i:Nat}{o:Oper}(ho:ops[i]? = some o):bR ops i=cX ops o++fj o:=by
 unfold bR cX;rw[ho];rfl
omit [Dr]in
theorem dK{e e':Env}{i:Nat}{o:Oper}(ho:ops[i]? = some o)(hg:∀t∈cX ops o,e'.get t=e.get t)(A:Agree cx o e e'){h:Hp}(hr:dc cx base ops i e h≠.fail):dc cx base ops i e' h=dc cx base ops i e h:=by
 unfold dc at hr |-;rw[ho]at hr;rw[ho];simp only at hr |-;have key:∀ {A':Act1->Act1} ,(∀h,cw (A' .bad) h= .fail)->cw (A' (dx cx e ((base+i)*1000) o)) h≠.fail->cw (A' (dx cx e' ((base+i)*1000) o)) h=cw (A' (dx cx e ((base+i)*1000) o)) h:=by
  intro A' h1 h2;rw[sw A];intro hb;rw[hb]at h2;exact h2 (h1 h)
 cases hgd:o.guard with
 |none=>
  rw[hgd]at hr;exact key (A':=id) (fun _=>rfl) hr
 | some g=>
  obtain⟨j,want⟩:=g;rw[hgd]at hr;simp only at hr |-;cases hdj:ci ops j with
  |none=>rfl
  | some t=>
   rw[hdj]at hr;simp only at hr |-;cases hpl:cZ cx o with
   |false=>rfl
   | true=>
    rw[hpl]at hr;simp only[CH]at hr |-;have ht:e'.get t=e.get t:=hg t (by unfold cX;rw[hgd];simp only;rw[show (ops[j]?).bind (·.dst)=some t from hdj];simp);have hav:e'.av t=e.av t:=by simp only[Env.av,ht]
    rw[hav];cases hq:e.av t with
    | bool b=>
     rw[hq]at hr;simp only[fY]at hr |-;cases hb:(b== want)with
     |false=>rfl
     |true=>
      rw[hb]at hr;exact key (A':=eA) (fun _=>rfl) hr
    |tup vs=>cases vs<;>rfl
    |_=>rfl
omit [Dr]in
theorem EqE.agree{e e':Env}(h:EqE e e')(o:Oper):Agree cx o e e':=
 ⟨fun t _=>h.get t,fun _=>⟨fun t _=>h.get t,h.lb⟩,fun _=>h.al,fun _ s _ hl=>by rw[h.lf];exact hl⟩
omit [Dr]in
theorem pj{e e':Env}(h:EqE e e')(i:Nat)(x:Hp):RE (stepG cx base ops i e x) (stepG cx base ops i e' x):=by
 unfold stepG;simp only[ae,M.pure];cases hr:dc cx base ops i e x with
 |fail=>trivial
 | _=>
  have ho:∃o,ops[i]? = some o:=by
   cases ho:ops[i]? with
   |none=>unfold dc at hr;rw[ho]at hr;cases hr
   |some o=>exact⟨o,rfl⟩
  obtain⟨o,ho⟩:=ho;rw[dK ho (fun t _=>h.get t) (h.agree o) (by rw[hr];simp),hr]
  first
   |exact⟨_,rfl,h.upd _ _⟩
   |exact rfl
omit [Dr]in
theorem RE.bind{m m':M Env}{x x':Hp}(h:RE (m x) (m' x')){f f':Env->M Env}(hf:∀e e' x,EqE e e'->RE (f e x) (f' e' x)):RE (ae m f x) (ae m' f' x'):=by
 simp only[ae];revert h;generalize m x=r;generalize m' x'=r';intro h;cases r with
 |ok e x=>obtain⟨e',rfl,h⟩:=h;exact hf e e' x h
 |pan v x=>cases h;exact rfl
 |fail=>trivial
omit [Dr]in
theorem iJ:∀(l:List Nat){e e':Env}(_:EqE e e')(x:Hp),RE (aF cx base ops l e x) (aF cx base ops l e' x)
 |[],e,e',h,x=>⟨e',rfl,h⟩
 |i:: l,e,e',h,x=>by
  exact RE.bind (pj h i x) fun e e' x h=>iJ l h x
end
end Go.Av
namespace Go.Av
variable [Dr]
omit [Dr]in
theorem oO{l:List Nat}{t:Nat}(h:t∈l):dk l t=true:=(eh l t).2 h
omit [Dr]in
theorem iz{l:List Nat}{d:Option Nat}(h:aY l d=false):∀t∈l,d≠some t:=by
 intro t ht hd;rw[hd]at h;simp only[aY]at h;rw[oO ht]at h;cases h
omit [Dr]in
theorem jj{a b:Option Nat}(h:clash a b=false):∀t,a=some t->b≠some t:=by
 intro t ha hb;rw[ha,hb]at h;simp[clash]at h
section
variable {cx:Cx} {ops:Array Oper} {base:Nat} {e:Env}
omit [Dr]in
theorem ny{gid:Nat}{f:Foot}{ss:Option Nat}{u:Upd}(h:Shape e gid f ss u):Shape e gid f ss (d5 u):=
 ⟨fun _=>rfl,fun _=>rfl,fun _=>rfl,fun _ x h=>by simp[d5]at h,fun _=>rfl,fun _=>rfl,fun hw C off hh=>h.loc hw C off hh,fun x h=>by simp[d5]at h⟩
omit [Dr]in
theorem qz{p q:Upd->Prop}(hpq:∀u,p u->q (d5 u)){A:Act1}(h:bv p A):bv q (eA A):=by
 cases A with
 |bad=>trivial
 |stat u=>exact hpq _ h
 |dyn m sh=>exact fun v=>hpq _ (h v)
 |thr v=>trivial
omit [Dr]in
theorem un{p:∀ {α:Type},M α->Prop}{A:Act1}(h:aX p A):aX p (eA A):=by
 cases A<;>exact h
omit [Dr]in
theorem kk{i:Nat}{o:Oper}(ho:ops[i]? = some o){h h':Hp}{u:Upd}(hr:dc cx base ops i e h= .ok u h'):Shape e ((base+i)*1000) (am cx o) (bu o) u:=by
 unfold dc at hr;rw[ho]at hr;simp only at hr;cases hgd:o.guard with
 |none=>rw[hgd]at hr;exact gx (gC _ _ _ _) hr
 | some g=>
  obtain⟨j,want⟩:=g;rw[hgd]at hr;simp only at hr;cases hdj:ci ops j with
  |none=>rw[hdj]at hr;cases hr
  | some t=>
   rw[hdj]at hr;simp only at hr;cases hpl:cZ cx o with
   |false=>rw[hpl]at hr;cases hr
   | true=>
    rw[hpl]at hr;simp only[CH]at hr;have h0:∀ {h h':Hp},(M.pure (Upd.ofV (.tup [])):M Upd) h= .ok u h'->Shape e ((base+i)*1000) (am cx o) (bu o) u:=by
     intro h h' hh;cases hh;exact Shape.ofV ..
    generalize e.av t=q at hr;cases q with
    |bool b=>
     simp only[fY]at hr;cases hb:(b== want)with
     |false=>rw[hb]at hr;exact h0 hr
     |true=>rw[hb]at hr;exact gx (qz (fun u=>ny) (gC _ _ _ _)) hr
    |tup vs=>
     cases vs with
     |nil=>exact h0 hr
     |cons v vs=>cases hr
    |_=>cases hr
omit [Dr]in
theorem qG{p:∀ {α:Type},M α->Prop}(h1:∀ {α:Type} (m:M α),aN m->p m)(h2:∀ {α β:Type} (m:M α) (f:α->β),p m->p (ae m fun v=>M.pure (f v))){A:Act1}(h:aX p A):p (cw A):=by
 cases A with
 |bad=>exact h1 _ aN.fail
 |stat u=>exact h1 _ (aN.pure u)
 |dyn m sh=>exact h2 _ _ h
 |thr v=>exact h.elim
omit [Dr]in
theorem fF{p:∀ {α:Type},M α->Prop}(h1:∀ {α:Type} (m:M α),aN m->p m)(h2:∀ {α β:Type} (m:M α) (f:α->β),p m->p (ae m fun v=>M.pure (f v))){i:Nat}{o:Oper}(ho:ops[i]? = some o)(h:aX p (dx cx e ((base+i)*1000) o)):p (dc cx base ops i e):=by
 unfold dc;rw[ho];simp only;cases hgd:o.guard with
 |none=>exact qG h1 h2 h
 | some g=>
  obtain⟨j,want⟩:=g;simp only;cases hdj:ci ops j with
  |none=>exact h1 _ aN.fail
  | some t=>
   simp only;cases hpl:cZ cx o with
   |false=>exact h1 _ aN.fail
   | true=>
    simp only[CH];unfold fY;split
    ·rename_i b _;cases hb:(b== want)with
     |false=>exact h1 _ (aN.pure _)
     |true=>exact qG h1 h2 (un h)
    ·exact h1 _ (aN.pure _)
    ·exact h1 _ aN.fail
structure Small (ops:Array Oper):Prop where
 dst:∀(i:Nat)(o:Oper),ops[i]? = some o->∀t,o.dst=some t->t<1000
 src:∀(i:Nat)(o:Oper),ops[i]? = some o->∀t∈fj o,t<1000
omit [Dr]in
theorem Small.reads(hS:Small ops){i:Nat}{o:Oper}(ho:ops[i]? = some o):∀t∈bR ops i,t<1000:=by
 intro t ht;rw[dS ho,Da]at ht;rcases ht with ht|ht
 ·unfold cX at ht;split at ht
  ·rename_i j _ _;cases hj:ops[j]? with
   |none=>rw[hj]at ht;simp at ht
   |some oj=>
    rw[hj]at ht;simp only[Et]at ht;cases hd:oj.dst with
    |none=>rw[hd]at ht;simp at ht
    |some s=>rw[hd]at ht;simp at ht;rw[ht];exact hS.dst j oj hj s hd
  ·simp at ht
 ·exact hS.src i o ho t ht
omit [Dr]in
theorem je{gid:Nat}{x:Foot}{ss:Option Nat}{u:Upd}{d:Option Tmp}(hsh:Shape e gid x ss u){t:Nat}(h1:d≠some t)(h2:ss≠some t)(h3:t<1000):(e.upd d u).get t=e.get t:=by
 rw[bE,if_neg h1];refine kU _ fun y hy hyt=>?_;rcases hsh.keys y hy with h|h
 ·omega
 ·exact h2 (by rw[h,hyt])
omit [Dr]in
theorem tz{gid:Nat}{x:Foot}{ss:Option Nat}{u:Upd}{d:Option Tmp}(hsh:Shape e gid x ss u)(hw:x.wl=false){t:Nat}(h1:d≠some t):(e.upd d u).get t=e.get t:=by
 rw[bE,if_neg h1,hsh.ls hw];rfl
omit [Dr]in
theorem lY{gid:Nat}{x:Foot}{ss:Option Nat}{u:Upd}{d:Option Tmp}{o:Oper}(hsh:Shape e gid x ss u)(hd:∀t,d=some t->t<1000)(hops:∀t∈fj o,d≠some t/\ss≠some t/\t<1000)(hloc:((am cx o).rl||(am cx o).wl)=true->x.wl=false)(hal:(am cx o).dr=true->x.ad=false/\x.dr=false):Agree cx o e (e.upd d u):=by
 refine⟨fun t ht=>je hsh (hops t ht).1 (hops t ht).2.1 (hops t ht).2.2,fun h=>⟨fun t ht=>tz hsh (hloc h) (fun hh=>Nat.not_lt.2 ht (hd t hh)),fun B=>?_⟩,fun h g=>?_,fun h s _ hl=>?_⟩
 ·show aQ (gQ (cE e.lb u.unlb) u.lb) B=aQ e.lb B;rw[hsh.lb (hloc h),hsh.unlb (hloc h)];rfl
 ·show aw (u.add++cM e.al u.drop) g=aw e.al g;rw[hsh.noad (hal h).1,hsh.nodr (hal h).2];rfl
 ·have hw:=hloc (by rw[h];simp);show aH (lJ d u.ent (u.ls++e.sl)) (aO s)=true;rw[hsh.ls hw,cU,DR,hl,Fi];have:hZ u.ent (aO s)=true:=by
   unfold hZ;split
   ·rename_i C off hv;obtain⟨t,off',ht⟩:=hsh.loc hw C off hv
    have:=ix hl ht
    rw[Dq,DL];intro hh;exact this (CM hh)
   ·rfl
  rw[this,Bool.or_true]
omit [Dr]in
theorem rB{gid:Nat}{x:Foot}{ss:Option Nat}{u:Upd}{d:Option Tmp}{o:Oper}(hsh:Shape e gid x ss u)(hd:∀t,d=some t->t<1000)(hops:∀t∈fj o,d≠some t/\ss≠some t/\t<1000)(hloc:((am cx o).rl||(am cx o).wl)=true->x.wl=false)(hal:(am cx o).dr=true->x.ad=false/\x.dr=false):Agree cx o (e.upd d u) e:=by
 have A:=lY (cx:=cx) hsh hd hops hloc hal;refine⟨fun t ht=>(A.ops t ht).symm,fun h=>⟨fun t ht=>((A.loc h).1 t ht).symm,fun B=>((A.loc h).2 B).symm⟩,fun h g=>(A.al h g).symm,fun _ s _ hl=>?_⟩;have hl':aH (lJ d u.ent (u.ls++e.sl)) (aO s)=true:=hl;rw[cU,eg]at hl';simp only[CI]at hl';exact hl'.2.2
omit [Dr]in
theorem pq{gi gj:Nat}{x y:Foot}{si sj:Option Nat}{u v:Upd}{d f:Option Tmp}(hu:Shape e gi x si u)(hv:Shape e gj y sj v)(hy:y.wl=false)(hf:∀t,f=some t->t<1000)(hdf:∀t,d=some t->f≠some t)(hsf:∀t,si=some t->f≠some t)(hg:gi≠gj)(h1:x.dr=true->y.dr=false/\y.ad=false)(h2:x.ad=true->y.dr=false)(h3:x.ad=true->y.ad=true->x.wl=false):EqE ((e.upd d u).upd f v) ((e.upd f v).upd d u):=by
 have e1:=hv.ls hy;have e2:=hv.lb hy;have e3:=hv.unlb hy;refine⟨fun t=>?_,fun g=>?_,fun B=>?_,fun B=>?_⟩
 ·rw[bE,bE,e1];show (if d=some t then u.ent else bd (u.ls++lJ f v.ent (v.ls++e.sl)) t)=if f=some t then v.ent else bd (lJ d u.ent (u.ls++e.sl)) t;rw[e1,fv,DR];by_cases hft:f=some t
  ·rw[CJ hft,if_neg (fun h=>hdf t h hft),kU,fv,CJ hft];intro z hz hzt;rcases hu.keys z hz with h|h
   ·exact Nat.not_lt.2 h (by rw[hzt];exact hf t hft)
   ·exact hsf z.1 h (by rw[hzt];exact hft)
  ·rw[if_neg hft];split
   ·rfl
   ·exact jK (by rw[fv,if_neg hft])
 ·show aw (u.add++cM (v.add++cM e.al v.drop) u.drop) g=aw (v.add++cM (u.add++cM e.al u.drop) v.drop) g;cases hxd:x.dr with
  |true=>
   obtain⟨h4,h5⟩:=h1 hxd;rw[hv.noad h5,hv.nodr h4];rfl
  | false=>
   rw[hu.nodr hxd];cases hxa:x.ad with
   |false=>rw[hu.noad hxa];rfl
   | true=>
    rw[hv.nodr (h2 hxa)];cases hya:y.ad with
    |false=>rw[hv.noad hya];rfl
    |true=>
     have k1:=hu.add (h3 hxa hya);have k2:=hv.add hy;show aw (u.add++(v.add++e.al)) g=aw (v.add++(u.add++e.al)) g;rw[cR,cR,cR,cR];by_cases hgi:g=gi
     ·rw[jv k2 (by omega)]
     ·rw[jv k1 hgi]
 ·show aQ (gQ (cE (gQ (cE e.lb v.unlb) v.lb) u.unlb) u.lb) B=aQ (gQ (cE (gQ (cE e.lb u.unlb) u.lb) v.unlb) v.lb) B;rw[e2,e3];rfl
 ·show aH (lJ d u.ent (u.ls++lJ f v.ent (v.ls++e.sl))) B=aH (lJ f v.ent (v.ls++lJ d u.ent (u.ls++e.sl))) B;simp only[cU,eg]
  ac_rfl
end
end Go.Av
namespace Go.Av
variable [Dr]
section
variable {cx:Cx} {ops:Array Oper} {base:Nat}
structure Ind (cx:Cx) (ops:Array Oper) (i j:Nat) (a b:Oper):Prop where
 ha:ops[i]? = some a
 hb:ops[j]? = some b
 piv:(am cx a).piv=false
 l1:(am cx a).wl=true->(am cx b).rl=false/\(am cx b).wl=false
 l2:(am cx a).rl=true->(am cx b).wl=false
 h1:(am cx a).wh=true->(am cx b).rh=false/\(am cx b).wh=false
 h2:(am cx a).rh=true->(am cx b).wh=false\/(am cx b).nw=true
 g1:(am cx a).dr=true->(am cx b).dr=false/\(am cx b).ad=false
 g2:(am cx a).ad=true->(am cx b).dr=false
 g3:(am cx a).ad=true->(am cx b).ad=true->(am cx a).wl=false/\(am cx b).wl=false
 r1:∀t∈bR ops j,a.dst≠some t
 r2:∀t∈bR ops i,b.dst≠some t
 s1:∀t∈bR ops j,bu a≠some t
 s2:∀t∈bR ops i,bu b≠some t
 c1:∀t,bu a=some t->b.dst≠some t
 c2:∀t,a.dst=some t->bu b≠some t
 c3:∀t,a.dst=some t->b.dst≠some t
omit [Dr]in
theorem r8{i j:Nat}(h:iu cx ops i j=true):∃a b,Ind cx ops i j a b:=by
 unfold iu at h;split at h
 ·rename_i a b ha hb;refine⟨a,b,?_⟩;simp only[CI,Dq]at h;obtain⟨⟨⟨⟨⟨⟨⟨⟨⟨⟨⟨⟨⟨⟨k1,k2⟩,k3⟩,k4⟩,k5⟩,k6⟩,k7⟩,k8⟩,k9⟩,k10⟩,k11⟩,k12⟩,k13⟩,k14⟩,k15⟩:=h;refine⟨ha,hb,k1,fun q=>?_,fun q=>?_,fun q=>?_,fun q=>?_,fun q=>?_,fun q=>?_,fun q q'=>?_,iz k9,iz k10,iz k11,iz k12,jj k13,jj k14,jj k15⟩
  ·rw[q]at k2;simpa using k2
  ·rw[q]at k3;simpa using k3
  ·rw[q]at k4;simpa using k4
  ·rw[q]at k5;simp only[D4]at k5;cases hb:(am cx b).wh<;>simp_all
  ·rw[q]at k6;simpa using k6
  ·rw[q]at k7;simpa using k7
  ·rw[q,q']at k8;simpa using k8
 ·cases h
omit [Dr]in
theorem swap(hI:IsoPure cx)(hS:Small ops){i j:Nat}(hij:iu cx ops i j=true)(hne:i≠j)(e:Env)(h:Hp):
  RE (ae (stepG cx base ops i e) (stepG cx base ops j) h) (ae (stepG cx base ops j e) (stepG cx base ops i) h):=by
 obtain⟨a,b,I⟩:=r8 hij;have hda:ci ops i=a.dst:=by simp[ci,I.ha]
 have hdb:ci ops j=b.dst:=by simp[ci,I.hb]
 unfold stepG;rw[hda,hdb];simp only[ae,M.pure];cases hri:dc cx base ops i e h with
 |fail=>trivial
 |pan v h'=>exact absurd hri (fF (p:=@cK) (fun _ g=>g.read.stay) (fun _ f g=>g.bnd f) I.ha ((cY hI e _ a).stay I.piv) h v h')
 | ok u h1=>
  simp only;have shu:=kk I.ha hri;have hra:=dS (ops:=ops) I.ha;have hrb:=dS (ops:=ops) I.hb;have hbo:∀t∈fj b,a.dst≠some t/\bu a≠some t/\t<1000:=fun t ht=>⟨I.r1 t (by rw[hrb];simp[ht]),I.s1 t (by rw[hrb];simp[ht]),hS.src j b I.hb t ht⟩;have hao:∀t∈fj a,b.dst≠some t/\bu b≠some t/\t<1000:=fun t ht=>⟨I.r2 t (by rw[hra];simp[ht]),I.s2 t (by rw[hra];simp[ht]),hS.src i a I.ha t ht⟩;have Abwd:Agree cx b (e.upd a.dst u) e:=rB shu (hS.dst i a I.ha) hbo (fun q=>by
   cases hw:(am cx a).wl with
   |false=>rfl
   |true=>obtain⟨q1,q2⟩:=I.l1 hw;rw[q1,q2]at q;cases q) (fun q=>by
   constructor
   ·cases hw:(am cx a).ad with
    |false=>rfl
    |true=>have:=I.g2 hw;rw[this]at q;cases q
   ·cases hw:(am cx a).dr with
    |false=>rfl
    |true=>have:=(I.g1 hw).1;rw[this]at q;cases q)
  have hgb:∀t∈cX ops b,e.get t=(e.upd a.dst u).get t:=fun t ht=>by
   have htr:t∈bR ops j:=by rw[hrb];simp[ht]
   exact (je shu (I.r1 t htr) (I.s1 t htr) (hS.reads I.hb t htr)).symm
  -- the second, after the first
  cases hrj:dc cx base ops j (e.upd a.dst u) h1 with
  |fail=>trivial
  | pan v h2=>
   have hj:=dK (base:=base) I.hb hgb Abwd (h:=h1) (by rw[hrj];simp);rw[hrj]at hj
   -- j leaves: so it may write, and i did not touch the heap
   have hwb:(am cx b).wh=true:=by
    cases hw:(am cx b).wh with
    |true=>rfl
    |false=>exact absurd hj ((fF (p:=@cp) (fun _ g=>g.read) (fun _ f g=>g.bnd f) I.hb ((cY hI e _ b).read hw)).stay _ _ _)
   have hwa:(am cx a).wh=false:=by
    cases hw:(am cx a).wh with
    |false=>rfl
    |true=>have:=(I.h1 hw).2;rw[this]at hwb;cases hwb
   have hh:h1=h:=by
    have hR:cp (dc cx base ops i e):=fF (p:=@cp) (fun _ g=>g.read) (fun _ f g=>g.bnd f) I.ha ((cY hI e _ a).read hwa);rcases hR h with hx|⟨u',hx⟩<;>rw[hri]at hx<;>cases hx;rfl
   subst hh;rw[hj];exact rfl
  | ok v h2=>
   have hj:=dK (base:=base) I.hb hgb Abwd (h:=h1) (by rw[hrj];simp);rw[hrj]at hj;have shv:=kk I.hb hj;have Afwd:Agree cx a e (e.upd b.dst v):=lY shv (hS.dst j b I.hb) hao (fun q=>by
    cases hw:(am cx b).wl with
    |false=>rfl
    | true=>
     exfalso;cases hrl:(am cx a).rl with
     |true=>have:=I.l2 hrl;rw[this]at hw;cases hw
     |false=>
      rw[hrl]at q;have hwl:(am cx a).wl=true:=by simpa using q
      have:=(I.l1 hwl).2
      rw[this]at hw;cases hw) (fun q=>⟨(I.g1 q).2,(I.g1 q).1⟩)
   have hga:∀t∈cX ops a,(e.upd b.dst v).get t=e.get t:=fun t ht=>by
    have htr:t∈bR ops i:=by rw[hra];simp[ht]
    exact je shv (I.r2 t htr) (I.s2 t htr) (hS.reads I.ha t htr)
   have hcomm:EqE ((e.upd a.dst u).upd b.dst v) ((e.upd b.dst v).upd a.dst u):=by
    have hgij:(base+i)*1000≠(base+j)*1000:=by omega
    cases hwb:(am cx b).wl with
    |false=>
     exact pq shu shv hwb (hS.dst j b I.hb) I.c3 I.c1 hgij I.g1 I.g2 (fun q q'=>(I.g3 q q').1)
    | true=>
     have hwa:(am cx a).wl=false:=by
      cases hw:(am cx a).wl with
      |false=>rfl
      |true=>have:=(I.l1 hw).2;rw[this]at hwb;cases hwb
     refine (pq shv shu hwa (hS.dst i a I.ha) (fun t ht hh=>I.c3 t hh ht) (fun t ht hh=>I.c2 t hh ht) (Ne.symm hgij) (fun q=>⟨?_,?_⟩) (fun q=>?_) (fun q q'=>?_)).symm
     ·cases hw:(am cx a).dr with
      |false=>rfl
      |true=>have:=(I.g1 hw).1;rw[this]at q;cases q
     ·cases hw:(am cx a).ad with
      |false=>rfl
      |true=>have:=I.g2 hw;rw[this]at q;cases q
     ·cases hw:(am cx a).dr with
      |false=>rfl
      |true=>have:=(I.g1 hw).2;rw[this]at q;cases q
     ·have:=(I.g3 q' q).2;rw[this]at hwb;cases hwb
   cases hwa:(am cx a).wh with
   | false=>
    have hR:cp (dc cx base ops i e):=fF (p:=@cp) (fun _ g=>g.read) (fun _ f g=>g.bnd f) I.ha ((cY hI e _ a).read hwa);have hh:h1=h:=by
     rcases hR h with hx|⟨u',hx⟩<;>rw[hri]at hx<;>cases hx;rfl
    subst hh;rw[hj];simp only;have hi2:dc cx base ops i e h2= .ok u h2:=by
     cases hra':(am cx a).rh with
     |false=>
      obtain⟨q,hq⟩:aN (dc cx base ops i e):=fF (p:=@aN) (fun _ g=>g) (fun _ f g=>g.bnd f) I.ha ((cY hI e _ a).pure hwa hra');rw[hq]at hri |-;cases q with
      |none=>cases hri
      |some u'=>cases hri;rfl
     | true=>
      rcases I.h2 hra' with hwb|hnw
      case inr=>
       have hNw:qF (dc cx base ops j e):=fF (p:=@qF) (fun _ g=>g.nw) (fun _ f g=>g.bnd f) I.hb ((cY hI e _ b).nw hnw);have hAp:gH (dc cx base ops i e)/\cp (dc cx base ops i e):=fF (p:=fun m=>gH m/\cp m) (fun _ g=>⟨g.app,g.read⟩) (fun _ f g=>gH.bnd g f) I.ha ((cY hI e _ a).app hwa);obtain⟨t,rfl⟩:=hNw _ _ _ hj;exact hAp.1 _ t _ hri
      have hRb:cp (dc cx base ops j e):=fF (p:=@cp) (fun _ g=>g.read) (fun _ f g=>g.bnd f) I.hb ((cY hI e _ b).read hwb);rcases hRb h1 with hx|⟨u',hx⟩<;>rw[hj]at hx<;>cases hx;exact hri
    rw[dK I.ha hga Afwd (by rw[hi2];simp),hi2];exact⟨_,rfl,hcomm⟩
   | true=>
    obtain⟨hrb',hwb⟩:=I.h1 hwa;obtain⟨q,hq⟩:aN (dc cx base ops j e):=fF (p:=@aN) (fun _ g=>g) (fun _ f g=>g.bnd f) I.hb ((cY hI e _ b).pure hwb hrb');rw[hq]at hj |-;cases q with
    |none=>cases hj
    |some u'=>
     cases hj;simp only[af];rw[dK I.ha hga Afwd (by rw[hri];simp),hri];exact⟨_,rfl,hcomm⟩
omit [Dr]in
theorem wW(hI:IsoPure cx)(hS:Small ops){i:Nat}(q:List Nat):∀(p:List Nat),(∀x∈p,iu cx ops x i=true/\x≠i)->∀(e:Env)(h:Hp),RE (aF cx base ops (p++i:: q) e h) (aF cx base ops (i:: (p++q)) e h)
 |[],_,e,h=>RE.refl _
 | x:: p,hp,e,h=>by
  have ih:=fun e h=>wW hI hS q p (fun y hy=>hp y (by simp[hy])) e h;have h1:RE (aF cx base ops (x:: (p++i:: q)) e h) (aF cx base ops (x:: i:: (p++q)) e h):=by
   simp only[aF,ae]at ih |-;cases stepG cx base ops x e h with
   |ok e' h'=>exact ih e' h'
   |pan v h'=>exact rfl
   |fail=>trivial
  refine h1.trans ?_;have e1:aF cx base ops (x:: i:: (p++q)) e=ae (ae (stepG cx base ops x e) (stepG cx base ops i)) (aF cx base ops (p++q)):=by rw[d7];rfl
  have e2:aF cx base ops (i:: x:: (p++q)) e=ae (ae (stepG cx base ops i e) (stepG cx base ops x)) (aF cx base ops (p++q)):=by rw[d7];rfl
  show RE (aF cx base ops (x:: i:: (p++q)) e h) (aF cx base ops (i:: x:: (p++q)) e h);rw[e1,e2];exact RE.bind (swap hI hS (hp x (by simp)).1 (hp x (by simp)).2 e h) fun e e' x h=>iJ _ h x
end
end Go.Av
namespace Go.Av
variable [Dr]
omit [Dr]in
theorem uf{a b:Option (Nat×Bool)}(h:rr a b=true):a=b:=by
 unfold rr at h;split at h
 ·rfl
 ·simp only[CI,Ei]at h;rw[CM h.1,h.2]
 ·cases h
def eB(gs:List (Option (Nat×Bool)×List Nat)):List Nat:=gs.flatMap (·.2)
omit [Dr]in
theorem fg(ops:Array Oper):∀l:List Nat,eB (cj ops l)=l/\∀g∈cj ops l,∀i∈g.2,guardOf ops i=g.1
 |[]=>⟨rfl,by simp[cj]⟩
 | i :: is=>by
  obtain⟨h1,h2⟩:=fg ops is;simp only[cj];cases hg:cj ops is with
  |nil=>
   rw[hg]at h1;have:is=[]:=by simpa [eB]using h1.symm
   subst this;exact⟨rfl,by simp⟩
  | cons x r=>
   obtain⟨g,js⟩:=x;rw[hg]at h1 h2;simp only;cases hs:rr (guardOf ops i) g with
   | true=>
    refine⟨?_,fun y hy=>?_⟩
    ·simp only[CH,eB,El,Dy]at h1 |-;rw[h1]
    ·simp only[CH,C8]at hy;rcases hy with rfl|hy
     ·intro k hk;simp only[C8]at hk;rcases hk with rfl|hk
      ·exact uf hs
      ·exact h2 (g,js) (by simp) k hk
     ·exact h2 y (by simp[hy])
   | false=>
    refine⟨?_,fun y hy=>?_⟩
    ·simp only[CK,eB,El,Dy,DR]at h1 |-;rw[h1]
    ·simp only[CK,C8]at hy;rcases hy with rfl|rfl|hy
     ·intro k hk;simp only[D1]at hk;subst hk;rfl
     ·exact h2 (g,js) (by simp)
     ·exact h2 y (by simp[hy])
omit [Dr]in
theorem oh{ρ:Type}(e:Env)(d:Option Tmp)(A:Act1)(k:Env->M ρ):ib e d A k=ae (cw A) fun u=>k (e.upd d u):=by
 cases A with
 |bad=>rfl
 |stat u=>rfl
 |dyn m sh=>simp only[ib,cw,d7,aL]
 |thr v=>rfl
omit [Dr]in
theorem rI{α β:Type}{m:M α}{f g:α->M β}{h:Hp}(hfg:∀u h',m h= .ok u h'->f u h'=g u h'):ae m f h=ae m g h:=by
 simp only[ae];cases hm:m h with
 |ok u h'=>exact hfg u h' hm
 |pan v h'=>rfl
 |fail=>rfl
section
variable {cx:Cx} {ops:Array Oper} {base:Nat}
omit [Dr]in
theorem rA{i:Nat}{o:Oper}(ho:ops[i]? = some o)(hg:guardOf ops i=none)(e:Env):dc cx base ops i e=cw (dx cx e ((base+i)*1000) o):=by
 have:o.guard=none:=by simpa [guardOf,ho]using hg
 unfold dc;rw[ho];simp only;rw[this]
omit [Dr]in
theorem iX{i j t:Nat}{want:Bool}{o:Oper}(ho:ops[i]? = some o)(hg:guardOf ops i=some (j,want))(hj:ci ops j=some t)(hp:cZ cx o=true)(e:Env):
  dc cx base ops i e=fY (e.av t) want (cw (eA (dx cx e ((base+i)*1000) o))):=by
 have:o.guard=some (j,want):=by simpa [guardOf,ho]using hg
 unfold dc;rw[ho];simp only;rw[this];simp only;rw[hj];simp only;rw[hp];rfl
omit [Dr]in
theorem oZ{ρ:Type}:∀(is:List Nat)(e:Env)(k:Env->M ρ)(_:∀i∈is,guardOf ops i=none),fe cx base ops false is e k=ae (aF cx base ops is e) k
 |[],e,k,_=>rfl
 | i:: is,e,k,hg=>by
  simp only[fe,aF];unfold stepG;cases ho:ops[i]? with
  |none=>unfold dc;rw[ho];rfl
  |some o=>
   simp only;rw[oh,rA ho (hg i (by simp)),d7,d7];have hd:ci ops i=o.dst:=by simp[ci,ho]
   rw[hd];congr 1;funext u;simp only[aL];exact oZ is _ k fun j hj=>hg j (by simp[hj])
structure Turned (ds:List Nat) (e e':Env):Prop where
 get:∀t,t ∉ ds->e'.get t=e.get t
 al:e'.al=e.al
 lb:e'.lb=e.lb
 lf:∀B,aH e.sl B=true->aH e'.sl B=true
 ng:∀t∈ds,(e'.get t).g=none
omit [Dr]in
theorem Turned.step{ds:List Nat}{e e':Env}(H:Turned ds e e'){u:Upd}{d:Option Nat}(hls:u.ls=[])(hadd:u.add=[])(hdrop:u.drop=none)(hlb:u.lb=none)(hunlb:u.unlb=none)(hg:u.ent.g=none)(hloc:∀C off,u.ent.v= .loc C off->∃t off',(e'.get t).v= .loc C off'):Turned (d.toList++ds) e (e'.upd d u):=by
 have hget:∀t,(e'.upd d u).get t=if d=some t then u.ent else e'.get t:=fun t=>by rw[bE,hls];rfl
 refine⟨fun t ht=>?_,?_,?_,fun B hB=>?_,fun t ht=>?_⟩
 ·simp only[Da,not_or,Em]at ht;rw[hget,if_neg ht.1];exact H.get t ht.2
 ·show u.add++cM e'.al u.drop=e.al;rw[hadd,hdrop];exact H.al
 ·show gQ (cE e'.lb u.unlb) u.lb=e.lb;rw[hlb,hunlb];exact H.lb
 ·have h1:=H.lf B hB;show aH (lJ d u.ent (u.ls++e'.sl)) B=true;rw[hls,cU,DR,h1,Fi];have:hZ u.ent B=true:=by
   unfold hZ;split
   ·rename_i C off hv;obtain⟨t,off',ht⟩:=hloc C off hv
    have:=ix h1 ht
    rw[Dq,DL];intro hh;exact this (CM hh)
   ·rfl
  rw[this,Bool.or_true]
 ·rw[hget];split
  ·exact hg
  ·rename_i hd;simp only[Da,Em]at ht;rcases ht with ht|ht
   ·exact absurd ht hd
   ·exact H.ng t ht
omit [Dr]in
theorem Turned.refl(e:Env):Turned [] e e:=⟨fun _ _=>rfl,rfl,rfl,fun _ h=>h,fun t h=>by simp at h⟩
omit [Dr]in
theorem Turned.sub{ds ds':List Nat}{e e':Env}(H:Turned ds e e')(h:∀t,t∈ds↔t∈ds'):Turned ds' e e':=
 ⟨fun t ht=>H.get t fun hh=>ht ((h t).1 hh),H.al,H.lb,H.lf,fun t ht=>H.ng t ((h t).2 ht)⟩
structure GroupOk (cx:Cx) (ops:Array Oper) (j:Nat) (want:Bool) (t:Nat) (is:List Nat):Prop where
 hj:ci ops j=some t
 each:∀i∈is,∃o,ops[i]? = some o/\guardOf ops i=some (j,want)/\cZ cx o=true
 nt:t ∉ bK ops is
omit [Dr]in
theorem fa(i:Nat)(is:List Nat):∀t,t∈bK ops (i:: is)↔ci ops i=some t\/t∈bK ops is:=by
 intro t;unfold bK;simp only[Ex,C8,exists_eq_or_imp]
omit [Dr]in
theorem GroupOk.tail{j:Nat}{want:Bool}{t i:Nat}{is:List Nat}(G:GroupOk cx ops j want t (i:: is)):GroupOk cx ops j want t is:=
 ⟨G.hj,fun k hk=>G.each k (by simp[hk]),fun h=>G.nt ((fa i is t).2 (.inr h))⟩
omit [Dr]in
theorem GroupOk.ne{j:Nat}{want:Bool}{t i:Nat}{is:List Nat}(G:GroupOk cx ops j want t (i:: is)):ci ops i≠some t:=fun h=>G.nt ((fa i is t).2 (.inl h))
omit [Dr]in
theorem fW{A:Act1}{h h':Hp}{u:Upd}(hr:cw (eA A) h= .ok u h'):∃u0,cw A h= .ok u0 h'/\u=d5 u0:=by
 rw[ju]at hr;cases hx:cw A h<;>rw[hx]at hr<;>simp at hr;exact⟨_,by rw[hr.2],hr.1.symm⟩
omit [Dr]in
theorem mB{ρ:Type}{j:Nat}{want:Bool}{t:Nat}:∀(is:List Nat)(e:Env)(k:Env->M ρ)(h:Hp),GroupOk cx ops j want t is->e.av t= .bool want->fe cx base ops true is e k h=ae (aF cx base ops is e) k h
 |[],e,k,h,_,_=>rfl
 |i:: is,e,k,h,G,hc=>by
  obtain⟨o,ho,hg,hp⟩:=G.each i (by simp);have hd:ci ops i=o.dst:=by simp[ci,ho]
  simp only[fe,aF,ho,CH];rw[oh];unfold stepG;rw[iX ho hg G.hj hp,hc,d7,d7];simp only[fY,D5,CH,aL,hd];refine rI fun u h' hu=>?_;obtain⟨u0,hu0,rfl⟩:=fW hu;refine mB is _ k h' G.tail ?_;have:(e.upd o.dst (d5 u0)).get t=e.get t:=by rw[bE,if_neg (by rw[<- hd];exact G.ne)];rfl
  simp only[Env.av,this];exact hc
omit [Dr]in
theorem iR{j:Nat}{want:Bool}{t:Nat}:∀(is:List Nat)(e e':Env)(h h':Hp),GroupOk cx ops j want t is->e.av t= .bool want->aF cx base ops is e h= .ok e' h'->Turned (bK ops is) e e':=by
 have key:∀(is:List Nat)(e0 e e':Env)(ds:List Nat)(h h':Hp),GroupOk cx ops j want t is->e.av t= .bool want->Turned ds e0 e->aF cx base ops is e h= .ok e' h'->Turned (bK ops is++ds) e0 e':=by
  intro is
  induction is with
  |nil=>
   intro e0 e e' ds h h' _ _ H hr;cases hr;exact H
  | cons i is ih=>
   intro e0 e e' ds h h' G hc H hr;obtain⟨o,ho,hg,hp⟩:=G.each i (by simp);have hd:ci ops i=o.dst:=by simp[ci,ho]
   simp only[aF]at hr;unfold stepG at hr;rw[iX ho hg G.hj hp,hc,d7]at hr;simp only[fY,D5,CH,hd,ae]at hr;cases hx:cw (eA (dx cx e ((base+i)*1000) o)) h with
   |fail=>rw[hx]at hr;cases hr
   |pan v hh=>rw[hx]at hr;cases hr
   | ok u hh=>
    rw[hx]at hr;simp only at hr;obtain⟨u0,hu0,rfl⟩:=fW hx;have hsh:=gx (gC cx e ((base+i)*1000) o) hu0;simp only[cZ,CI,Dq]at hp;have H2:=H.step (u:=d5 u0) (d:=o.dst) rfl rfl rfl rfl rfl rfl (hsh.loc hp.1);refine (ih e0 _ e' _ hh h' G.tail ?_ H2 hr).sub fun s=>?_
    ·have:(e.upd o.dst (d5 u0)).get t=e.get t:=by rw[bE,if_neg (by rw[<- hd];exact G.ne)];rfl
     simp only[Env.av,this];exact hc
    ·simp only[Da,fa,Em,hd];constructor
     ·rintro (h|h|h)
      ·exact .inl (.inr h)
      ·exact .inl (.inl h)
      ·exact .inr h
     ·rintro ((h|h)|h)
      ·exact .inr (.inl h)
      ·exact .inl h
      ·exact .inr (.inr h)
 intro is e e' h h' G hc hr;exact (key is e e e' [] h h' G hc (.refl e) hr).sub (by simp)
def Off(c:AV)(want:Bool):Prop:=c= .tup []\/∃b,c= .bool b/\(b== want)=false
omit [Dr]in
theorem Off.look{c:AV}{want:Bool}(h:Off c want)(m:M Upd):fY c want m=M.pure (.ofV (.tup [])):=by
 rcases h with rfl|⟨b,rfl,hb⟩
 ·rfl
 ·simp only[fY,hb,CK]
omit [Dr]in
theorem vP{j:Nat}{want:Bool}{t:Nat}:∀(is:List Nat)(e:Env)(h:Hp),GroupOk cx ops j want t is->Off (e.av t) want->∃e',aF cx base ops is e h= .ok e' h/\Turned (bK ops is) e e'/\∀s∈bK ops is,e'.get s=⟨.val (.tup []),none⟩:=by
 have key:∀(is:List Nat)(e0 e:Env)(ds:List Nat)(h:Hp),GroupOk cx ops j want t is->Off (e.av t) want->Turned ds e0 e->(∀s∈ds,e.get s=⟨.val (.tup []),none⟩)->
   ∃e',aF cx base ops is e h= .ok e' h/\Turned (bK ops is++ds) e0 e'/\∀s∈bK ops is++ds,e'.get s=⟨.val (.tup []),none⟩:=by
  intro is
  induction is with
  |nil=>exact fun e0 e ds h _ _ H hds=>⟨e,rfl,H,hds⟩
  | cons i is ih=>
   intro e0 e ds h G hc H hds;obtain⟨o,ho,hg,hp⟩:=G.each i (by simp);have hd:ci ops i=o.dst:=by simp[ci,ho]
   have hget:∀s,(e.upd o.dst (.ofV (.tup []))).get s=if o.dst=some s then⟨.val (.tup []),none⟩else e.get s:=fun s=>by rw[bE];rfl
   have H2:=H.step (u:=.ofV (.tup [])) (d:=o.dst) rfl rfl rfl rfl rfl rfl (fun C off hh=>by cases hh);have hav:(e.upd o.dst (.ofV (.tup []))).av t=e.av t:=by
    have:(e.upd o.dst (.ofV (.tup []))).get t=e.get t:=by rw[hget,if_neg (by rw[<- hd];exact G.ne)]
    simp only[Env.av,this]
   obtain⟨e',h1,h2,h3⟩:=ih e0 (e.upd o.dst (.ofV (.tup []))) (o.dst.toList++ds) h G.tail (by rw[hav];exact hc) H2 (fun s hs=>by
    rw[hget];split
    ·rfl
    ·rename_i hn;simp only[Da,Em]at hs;rcases hs with hs|hs
     ·exact absurd hs hn
     ·exact hds s hs)
   have hiff:∀s,s∈bK ops is++(o.dst.toList++ds)↔s∈bK ops (i:: is)++ds:=fun s=>by
    simp only[Da,fa,Em,hd];constructor
    ·rintro (h|h|h)
     ·exact .inl (.inr h)
     ·exact .inl (.inl h)
     ·exact .inr h
    ·rintro ((h|h)|h)
     ·exact .inr (.inl h)
     ·exact .inl h
     ·exact .inr (.inr h)
   refine⟨e',?_,h2.sub hiff,fun s hs=>h3 s ((hiff s).2 hs)⟩;simp only[aF];unfold stepG;rw[iX ho hg G.hj hp,hc.look,hd];exact h1
 intro is e h G hc;obtain⟨e',h1,h2,h3⟩:=key is e e [] h G hc (.refl e) (by simp);exact⟨e',h1,h2.sub (by simp),fun s hs=>h3 s (by simp[hs])⟩
end
end Go.Av
namespace Go.Av
variable [Dr]
section
variable {cx:Cx} {ops:Array Oper} {base:Nat}
structure Rel (ops:Array Oper) (L:List Nat) (e2 e:Env):Prop where
 get:∀t,e2.get t=e.get t\/(e2.get t=Ent.none/\t<1000/\∀i∈L,t ∉ bR ops i)
 al:∀g,aw e2.al g=aw e.al g
 lb:∀B,aQ e2.lb B=aQ e.lb B
 lf:∀B,aH e2.sl B=true->aH e.sl B=true
omit [Dr]in
theorem Rel.refl(ops:Array Oper)(L:List Nat)(e:Env):Rel ops L e e:=⟨fun _=>.inl rfl,fun _=>rfl,fun _=>rfl,fun _ h=>h⟩
omit [Dr]in
theorem Rel.sub{L L':List Nat}{e2 e:Env}(H:Rel ops L e2 e)(h:∀i∈L',i∈L):Rel ops L' e2 e:=
 ⟨fun t=>(H.get t).imp id fun⟨h1,h2,h3⟩=>⟨h1,h2,fun i hi=>h3 i (h i hi)⟩,H.al,H.lb,H.lf⟩
omit [Dr]in
theorem Rel.read{L:List Nat}{e2 e:Env}(H:Rel ops L e2 e){i t:Nat}(hi:i∈L)(ht:t∈bR ops i):e.get t=e2.get t:=by
 rcases H.get t with h|⟨_,_,h⟩
 ·exact h.symm
 ·exact absurd ht (h i hi)
omit [Dr]in
theorem Rel.agree{L:List Nat}{e2 e:Env}(H:Rel ops L e2 e){i:Nat}{o:Oper}(hi:i∈L)(ho:ops[i]? = some o):Agree cx o e2 e:=by
 refine⟨fun t ht=>H.read hi (by rw[dS ho];simp[ht]),fun _=>⟨fun t ht=>?_,fun B=>(H.lb B).symm⟩,fun _ g=>(H.al g).symm,fun _ s _ hl=>H.lf _ hl⟩;rcases H.get t with h|⟨_,h,_⟩
 ·exact h.symm
 ·omega
omit [Dr]in
theorem Rel.upd{L:List Nat}{e2 e:Env}(H:Rel ops L e2 e)(d:Option Tmp)(u:Upd):Rel ops L (e2.upd d u) (e.upd d u):=by
 refine⟨fun t=>?_,fun g=>?_,fun B=>?_,fun B hB=>?_⟩
 ·rw[bE,bE];split
  ·exact .inl rfl
  ·rw[fu,fu];split
   ·exact .inl rfl
   ·exact H.get t
 ·show aw (u.add++cM e2.al u.drop) g=aw (u.add++cM e.al u.drop) g;have:aw (cM e2.al u.drop) g=aw (cM e.al u.drop) g:=by
   cases u.drop with
   |none=>exact H.al g
   |some k=>simp only[cM,f7,H.al g]
  rw[cR,cR,this]
 ·show aQ (gQ (cE e2.lb u.unlb) u.lb) B=aQ (gQ (cE e.lb u.unlb) u.lb) B;have:aQ (cE e2.lb u.unlb) B=aQ (cE e.lb u.unlb) B:=by
   cases u.unlb with
   |none=>exact H.lb B
   |some k=>simp only[cE,iw,H.lb B]
  cases u.lb with
  |none=>exact this
  |some x=>
   obtain⟨k,n⟩:=x;simp only[gQ,cy,this]
 ·have hB':aH (lJ d u.ent (u.ls++e2.sl)) B=true:=hB;show aH (lJ d u.ent (u.ls++e.sl)) B=true;rw[cU,eg]at hB' |-;simp only[CI]at hB' |-;exact⟨hB'.1,hB'.2.1,H.lf B hB'.2.2⟩
omit [Dr]in
theorem Rel.run:∀(is:List Nat){L:List Nat}{e2 e:Env}(_:Rel ops L e2 e)(_:∀i∈is,i∈L)(h:Hp),aF cx base ops is e2 h≠.fail->
  (∃e2' e' h',aF cx base ops is e2 h= .ok e2' h'/\aF cx base ops is e h= .ok e' h'/\Rel ops L e2' e')\/∃v h',aF cx base ops is e2 h= .pan v h'/\aF cx base ops is e h= .pan v h'
 |[],L,e2,e,H,_,h,_=>.inl ⟨e2,e,h,rfl,rfl,H⟩
 | i:: is,L,e2,e,H,hL,h,hr=>by
  simp only[aF]at hr |-;unfold stepG at hr |-;simp only[ae,M.pure]at hr |-;cases hx:dc cx base ops i e2 h with
  |fail=>rw[hx]at hr;exact absurd rfl hr
  | _ =>
   have ho:∃o,ops[i]? = some o:=by
    cases ho:ops[i]? with
    |none=>unfold dc at hx;rw[ho]at hx;cases hx
    |some o=>exact⟨o,rfl⟩
   obtain⟨o,ho⟩:=ho;have hi:=hL i (by simp);have hy:dc cx base ops i e h=dc cx base ops i e2 h:=dK ho (fun t ht=>H.read hi (by rw[dS ho];simp[ht])) (H.agree hi ho) (by rw[hx];simp);rw[hy,hx]
   first
    | rw[hx]at hr
      exact Rel.run is (H.upd _ _) (fun k hk=>hL k (by simp[hk])) _ hr
    |exact .inr ⟨_,_,rfl,rfl⟩
omit [Dr]in
theorem kE(e:Env):∀(ds:List Nat)(t:Nat),(forget e ds).get t=if t∈ds then Ent.none else e.get t
 |[],t=>by simp[forget]
 | d:: ds,t=>by
  show bd ((d,Ent.none):: (forget e ds).sl) t=_;rw[bp];by_cases hd:d=t
  ·subst hd;simp
  ·rw[if_neg hd]
   have:=kE e ds t
   simp only[Env.get]at this;rw[this];have hd':¬t=d:=fun h=>hd h.symm;simp[hd',Env.get]
omit [Dr]in
theorem jG(e:Env):∀(ds:List Nat),(forget e ds).al=e.al/\(forget e ds).lb=e.lb/\∀B,aH (forget e ds).sl B=aH e.sl B
 |[]=>⟨rfl,rfl,fun _=>rfl⟩
 |_d:: ds=>jG e ds
omit [Dr]in
theorem jR(e:Env)(f:Nat->AV):∀(outs:List Nat)(pre:List AV)(t:Nat),(dH e (pre++outs.map f) pre.length outs).get t=if t∈outs then⟨.val (f t),none⟩else e.get t
 |[],pre,t=>by simp[dH]
 | d:: ds,pre,t=>by
  show bd ((d,⟨.val (nth (pre++(d:: ds).map f) pre.length),none⟩):: (dH e (pre++(d:: ds).map f) (pre.length+1) ds).sl) t=_;rw[bp];have hn:nth (pre++(d:: ds).map f) pre.length=f d:=by simp[nth]
  by_cases hd:d=t
  ·subst hd;rw[hn];simp
  ·rw[if_neg hd]
   have:=jR e f ds (pre++[f d]) t
   simp only[D3,Dl,Dj,Dk,List.singleton_append]at this;simp only[Env.get,Dp]at this |-;rw[this];have hd':¬t=d:=fun h=>hd h.symm;simp[hd']
omit [Dr]in
theorem iM(e:Env)(vs:List AV):∀(outs:List Nat)(i:Nat),(dH e vs i outs).al=e.al/\(dH e vs i outs).lb=e.lb/\∀B,aH (dH e vs i outs).sl B=aH e.sl B
 |[],_i=>⟨rfl,rfl,fun _=>rfl⟩
 |_d:: ds,i=>iM e vs ds (i+1)
omit [Dr]in
theorem qD(gs:List (Option (Nat×Bool)×List Nat))(t:Nat):qC ops gs t=true↔∃i∈eB gs,t∈bR ops i:=by
 unfold qC eB;simp only[List.any_eq_true,E0,eh];constructor
 ·rintro⟨g,hg,i,hi,ht⟩;exact⟨i,⟨g,hg,hi⟩,ht⟩
 ·rintro⟨i,⟨g,hg,hi⟩,ht⟩;exact⟨g,hg,i,hi,ht⟩
omit [Dr]in
theorem Rel.close{is:List Nat}{gs:List (Option (Nat×Bool)×List Nat)}{e2 e e':Env}(H:Rel ops (is++eB gs) e2 e)(hS:Small ops)(T:Turned (bK ops is) e e'){vs:List AV}{f:Nat->AV}(hvs:vs=(bY ops is gs).map f)(hf:∀t∈bY ops is gs,e'.get t=⟨.val (f t),none⟩\/(f t= .any/\t<1000/\∀i∈eB gs,t ∉ bR ops i)):Rel ops (eB gs) (dH (forget e2 (bK ops is)) vs 0 (bY ops is gs)) e':=by
 have hr:=iM (forget e2 (bK ops is)) vs (bY ops is gs) 0;have hr2:=jG e2 (bK ops is);refine⟨fun t=>?_,fun g=>?_,fun B=>?_,fun B hB=>?_⟩
 ·have hg:=jR (forget e2 (bK ops is)) f (bY ops is gs) [] t;simp only[DR,Dk]at hg;rw[hvs,hg];split
  ·rename_i ht;rcases hf t ht with h|⟨h1,h2,h3⟩
   ·exact .inl h.symm
   ·exact .inr ⟨by rw[h1];rfl,h2,h3⟩
  ·rename_i ht;rw[kE];split
   ·rename_i hd;refine .inr ⟨rfl,?_,fun i hi hti=>ht ?_⟩
    ·unfold bK at hd;simp only[Ex]at hd;obtain⟨i,hi,hd⟩:=hd;unfold ci at hd;cases hoi:ops[i]? with
     |none=>rw[hoi]at hd;simp at hd
     |some o=>rw[hoi]at hd;exact hS.dst i o hoi t hd
    ·unfold bY;rw[Ff];exact⟨hd,(qD gs t).2 ⟨i,hi,hti⟩⟩
   ·rename_i hd;rw[T.get t hd];rcases H.get t with h|⟨h1,h2,h3⟩
    ·exact .inl h
    ·exact .inr ⟨h1,h2,fun i hi=>h3 i (by simp[hi])⟩
 ·rw[hr.1,hr2.1,T.al];exact H.al g
 ·rw[hr.2.1,hr2.2.1,T.lb];exact H.lb B
 ·rw[hr.2.2,hr2.2.2]at hB;exact T.lf B (H.lf B hB)
omit [Dr]in
theorem lv(l m:List Nat):∀e:Env,aF cx base ops (l++m) e=ae (aF cx base ops l e) (aF cx base ops m):=by
 induction l with
 |nil=>intro e;rfl
 |cons i l ih=>
  intro e;show ae (stepG cx base ops i e) (aF cx base ops (l++m))=ae (ae (stepG cx base ops i e) (aF cx base ops l)) (aF cx base ops m);rw[d7];congr 1;funext e';exact ih e'
omit [Dr]in
theorem vp{x:Ent}(h1:gZ x=true)(h2:x.g=none):x=⟨.val x.av,none⟩:=by
 obtain⟨v,g⟩:=x;cases v with
 |val a=>simp only at h2;subst h2;rfl
 |loc B off=>cases h1
omit [Dr]in
theorem fq{ρ:Type}(hS:Small ops):∀(gs:List (Option (Nat×Bool)×List Nat))(e2 e:Env)(k:Env->M ρ)(h:Hp),(∀g∈gs,∀i∈g.2,guardOf ops i=g.1)->Rel ops (eB gs) e2 e->cF cx base ops gs e2 k h≠.fail->
  (∃e2' e' h',cF cx base ops gs e2 k h=k e2' h'/\aF cx base ops (eB gs) e h= .ok e' h'/\Rel ops [] e2' e')\/∃v h',cF cx base ops gs e2 k h= .pan v h'/\aF cx base ops (eB gs) e h= .pan v h'
 |[],e2,e,k,h,_,H,_=>.inl ⟨e2,e,h,rfl,rfl,H⟩
 | (none,is):: gs,e2,e,k,h,hg,H,hr=>by
  have hg0:∀i∈is,guardOf ops i=none:=hg (none,is) (by simp);have hfl:eB ((none,is):: gs)=is++eB gs:=rfl;rw[hfl]at H |-;rw[lv];simp only[cF]at hr |-;rw[oZ is e2 _ hg0]at hr |-;simp only[ae]at hr |-;have hr2:aF cx base ops is e2 h≠.fail:=fun hf=>by rw[hf]at hr;exact hr rfl
  rcases H.run (base:=base) (cx:=cx) is (fun i hi=>by simp[hi]) h hr2 with⟨e2',e',h',h1,h2,H'⟩|⟨v,h',h1,h2⟩
  ·rw[h1]at hr |-;rw[h2];exact fq hS gs e2' e' k h' (fun g hgg=>hg g (by simp[hgg])) (H'.sub fun i hi=>by simp[hi]) hr
  ·rw[h1,h2];exact .inr ⟨v,h',rfl,rfl⟩
 | (some (j,want),is):: gs,e2,e,k,h,hg,H,hr=>by
  have hg0:∀i∈is,guardOf ops i=some (j,want):=hg (some (j,want),is) (by simp);have hfl:eB ((some (j,want),is):: gs)=is++eB gs:=rfl;rw[hfl]at H |-;rw[lv];simp only[cF]at hr |-;cases hdj:ci ops j with
  |none=>rw[hdj]at hr;exact absurd rfl hr
  | some t=>
   rw[hdj]at hr;simp only at hr |-;revert hr;cases hc:((is.all fun i=>match ops[i]? with|some o=>cZ cx o&&o.dst.isSome|none=>false)&&!(dk (bK ops is) t))with
   |false=>intro hr;exact absurd rfl hr
   | true=>
    intro hr;simp only[CH]at hr |-;simp only[CI,Dq,CY]at hc;have G:GroupOk cx ops j want t is:=by
     refine⟨hdj,fun i hi=>?_,fun ht=>?_⟩
     ·have:=hc.1 i hi
      cases hoi:ops[i]? with
      |none=>rw[hoi]at this;cases this
      |some o=>
       rw[hoi]at this;simp only[CI]at this;exact⟨o,rfl,hg0 i hi,this.1⟩
     ·rw[(eh _ _).2 ht]at hc;exact Bool.noConfusion hc.2
    have htr:∀i∈is,t∈bR ops i:=fun i hi=>by
     obtain⟨o,ho,hgi,_⟩:=G.each i hi;rw[dS ho];have:o.guard=some (j,want):=by simpa [guardOf,ho]using hgi
     have:t∈cX ops o:=by
      unfold cX;rw[this];simp only;rw[show (ops[j]?).bind (·.dst)=some t from hdj];simp
     simp[this]
    -- the guard says yes
    cases is with
    | nil=>
     have hrn:∀e,aF cx base ops [] e=M.pure e:=fun _=>rfl;rw[hrn,aL];have ho:bY ops [] gs=[]:=rfl;have hd:bK ops []=[]:=rfl;rw[ho,hd]at hr |-;have hpure:∀ {q:AV} {m:M (List AV)},m h= .ok [] h->au q want ([]:List Nat).length m h≠.fail->au q want ([]:List Nat).length m h= .ok [] h:=by
      intro q m hm hne;cases q with
      |bool b=>
       simp only[au];cases b== want with
       |true=>exact hm
       |false=>rfl
      |tup vs=>
       cases vs with
       |nil=>rfl
       |cons v vs=>exact absurd rfl hne
      |_=>exact absurd rfl hne
     simp only[ae]at hr |-;have hp:=hpure (q:=e2.av t) (m:=fe cx base ops true [] e2 fun e'=>bif ([]:List Nat).all (fun t=>gZ (e'.get t))then M.pure (([]:List Nat).map e'.av)else M.fail) rfl (fun hf=>by rw[hf]at hr;exact hr rfl);rw[hp]at hr |-;exact fq hS gs e2 e k h (fun g hgg=>hg g (by simp[hgg])) (H.sub fun i hi=>by simp[hi]) hr
    |cons i0 is0=>
    have hav:e.av t=e2.av t:=by
     have:=H.read (i:=i0) (by simp) (htr i0 (by simp))
     simp only[Env.av,this]
    generalize hiseq:i0:: is0=is at *;have hoff:Off (e2.av t) want->(au (e2.av t) want (bY ops is gs).length (fe cx base ops true is e2 fun e'=>bif (bY ops is gs).all (fun t=>gZ (e'.get t))then M.pure ((bY ops is gs).map e'.av)else M.fail))=M.pure (List.replicate (bY ops is gs).length (.tup [])):=by
     rintro (hq|⟨b,hq,hb⟩)
     ·rw[hq];rfl
     ·rw[hq];simp only[au,hb,CK]
    have hcase:Off (e2.av t) want\/e2.av t= .bool want:=by
     cases hq:e2.av t with
     |bool b=>
      cases hb:(b== want)with
      |true=>right;simp at hb;rw[hb]
      |false=>exact .inl (.inr ⟨b,rfl,hb⟩)
     |tup vs=>
      cases vs with
      |nil=>exact .inl (.inl rfl)
      |cons v vs=>rw[hq]at hr;exact absurd rfl hr
     |_=>rw[hq]at hr;exact absurd rfl hr
    rcases hcase with ho|hy
    ·rw[hoff ho,aL]at hr |-;obtain⟨e',h1,T,h2⟩:=vP (base:=base) is e h G (by rw[hav];exact ho);simp only[ae];rw[h1];refine fq hS gs _ e' k h (fun g hgg=>hg g (by simp[hgg])) (H.close hS T (f:=fun _=>.tup []) ?_ fun s hs=>.inl ?_) hr
     ·exact (List.map_const' ..).symm
     ·refine h2 s ?_;unfold bY at hs;exact (Ff.1 hs).1
    ·rw[hy]at hr |-;simp only[au,D5,CH,ae]at hr |-;rw[mB is e2 _ h G hy]at hr |-;simp only[ae]at hr |-;have hr2:aF cx base ops is e2 h≠.fail:=fun hf=>by rw[hf]at hr;exact hr rfl
     rcases H.run (base:=base) (cx:=cx) is (fun i hi=>by simp[hi]) h hr2 with⟨e2',e',h',h1,h2,H'⟩|⟨v,h',h1,h2⟩
     ·rw[h1]at hr |-;rw[h2];simp only at hr |-;have T2:=iR is e2 e2' h h' G hy h1;have T:=iR is e e' h h' G (by rw[hav];exact hy) h2;cases hv:(bY ops is gs).all (fun t=>gZ (e2'.get t))with
      |false=>rw[hv]at hr;exact absurd rfl hr
      |true=>
       rw[hv]at hr;simp only[CH,M.pure]at hr |-;refine fq hS gs _ e' k h' (fun g hgg=>hg g (by simp[hgg])) (H.close hS T (f:=e2'.av) rfl fun s hs=>?_) hr;have hsd:s∈bK ops is:=by unfold bY at hs;exact (Ff.1 hs).1
       have hval:=vp (CY.1 hv s hs) (T2.ng s hsd);rcases H'.get s with h3|⟨h3,h4,h5⟩
       ·left;rw[<- h3];exact hval
       ·right;exact⟨by simp only[Env.av,h3];rfl,h4,fun i hi=>h5 i (by simp[hi])⟩
     ·rw[h1,h2];exact .inr ⟨v,h',rfl,rfl⟩
end
end Go.Av
namespace Go.Av
variable [Dr]
omit [Dr]in
theorem fN(acc:List Nat):∀(es:List Edge)(x:Nat),(fh acc es).testBit x=true↔∃e∈es,Region.binds .any e=true/\(e.on=x\/(acc.getD e.on 0).testBit x=true)
 |[],x=>by simp[fh]
 | e :: es,x=>by
  simp only[fh];cases hb:Region.binds .any e with
  | false=>
   simp only[CK,fN acc es x,C8];constructor
   ·rintro⟨e',he,h⟩;exact⟨e',.inr he,h⟩
   ·rintro⟨e',rfl|he,h⟩
    ·rw[hb]at h;exact absurd h.1 (by simp)
    ·exact⟨e',he,h⟩
  | true=>
   simp only[CH,Nat.testBit_or,DF,fN acc es x,C8,Nat.testBit_two_pow,CO];constructor
   ·rintro ((⟨e',he,h⟩|h)|h)
    ·exact⟨e',.inr he,h⟩
    ·exact⟨e,.inl rfl,hb,.inl h⟩
    ·exact⟨e,.inl rfl,hb,.inr h⟩
   ·rintro⟨e',rfl|he,h1,h2⟩
    ·rcases h2 with h2|h2
     ·exact .inl (.inr h2)
     ·exact .inr h2
    ·exact .inl (.inl ⟨e',he,h1,h2⟩)
omit [Dr]in
theorem l5:∀(os:List Oper)(acc:List Nat),∃r:List Nat,pz os acc=acc++r/\r.length=os.length/\∀(k:Nat)(o:Oper),os[k]? = some o->r[k]? = some (fh (acc++r.take k) o.after.toList)
 |[],acc=>⟨[],by simp[pz],rfl,by simp⟩
 | o:: os,acc=>by
  obtain⟨r,h1,h2,h3⟩:=l5 os (acc++[fh acc o.after.toList]);refine⟨fh acc o.after.toList:: r,by simp[pz,h1],by simp[h2],fun k o' ho=>?_⟩;cases k with
  |zero=>simp at ho;subst ho;simp
  |succ k=>
   simp only[E8,DK]at ho |-;rw[h3 k o' ho];simp
section
variable {ops:Array Oper}
def gd(ops:Array Oper):List Nat:=pz ops.toList []
omit [Dr]in
theorem sP{j:Nat}{o:Oper}(ho:ops[j]? = some o):(gd ops).length=ops.size/\(gd ops).getD j 0=fh ((gd ops).take j) o.after.toList:=by
 obtain⟨r,h1,h2,h3⟩:=l5 ops.toList [];have h4:gd ops=r:=by unfold gd;rw[h1];simp
 rw[h4];refine⟨by simp[h2],?_⟩
 have:=h3 j o (by simpa using ho)
 rw[Dh,this];simp
omit [Dr]in
theorem rH{listed:Nat->Prop}(hcl:∀(j:Nat)(o:Oper),ops[j]? = some o->listed j->∀e∈o.after.toList,Region.binds .any e=true->listed e.on):
  ∀(j:Nat)(o:Oper),ops[j]? = some o->(∀e∈o.after.toList,Region.binds .any e=true->listed e.on)->∀x,((gd ops).getD j 0).testBit x=true->listed x:=by
 intro j
 induction j using Nat.strongRecOn with
 | _ j ih=>
  intro o ho hl x hx;obtain⟨hlen,hget⟩:=sP ho;rw[hget,fN]at hx;obtain⟨e,he,hb,hx|hx⟩:=hx
  ·rw[<- hx];exact hl e he hb
  ·by_cases hj:e.on<j
   ·have hjs:j<ops.size:=(Dg.1 ho).1;have hos:ops[e.on]? = some ops[e.on]:=DJ (by omega);have h1:((gd ops).take j).getD e.on 0=(gd ops).getD e.on 0:=by
     rw[Dh,Dh,CQ,CJ hj]
    rw[h1]at hx;exact ih e.on hj _ hos (hcl e.on _ hos (hl e he hb)) x hx
   ·rw[Dh,CQ,if_neg hj]at hx;simp at hx
def sH(cx:Cx)(ops:Array Oper)(i j:Nat):Prop:=((gd ops).getD i 0).testBit j=false/\(((gd ops).getD j 0).testBit i=true\/iu cx ops i j=true)
omit [Dr]in
theorem jM{cx:Cx}:∀ {l:List Nat},fT cx ops (gd ops) l=true->l.Pairwise (sH cx ops)/\∀i∈l,((gd ops).getD i 0).testBit i=false
 |[],_=>⟨.nil,by simp⟩
 |i:: l,h=>by
  simp only[fT,CI,Dq,CY,DF]at h;obtain⟨⟨h1,h2⟩,h3⟩:=h;obtain⟨h4,h5⟩:=jM h3;refine⟨.cons (fun j hj=>h2 j hj) h4,fun k hk=>?_⟩;simp only[C8]at hk;rcases hk with rfl|hk
  ·exact h1
  ·exact h5 k hk
omit [Dr]in
theorem gf:∀ {l:List Nat},distinct l=true->l.Nodup
 |[],_=>.nil
 |i:: l,h=>by
  simp only[distinct,CI,Dq]at h;refine Ev.2 ⟨fun hi=>?_,gf h.2⟩;rw[(eh _ _).2 hi]at h;exact Bool.noConfusion h.1
variable {P:Program} {cx:Cx} {c:Entry} {N base:Nat}
theorem od(hT:TOK P cx.T)(hC:bM P cx.own cx.call)(hI:IsoPure cx)(hO:OpsOk N cx ops)(hS:Small ops)(hbit:∀i x,((gd ops).getD i 0).testBit x=true->x<ops.size)(hself:∀i,i<ops.size->((gd ops).getD i 0).testBit i=false){Q:Exit->Act->World->Prop}:∀(n:Nat)(rest:List Nat)(listed:Array Bool)(D:List Nat)(e:Env)(h:Hp)(a:Act)(w:World),rest.length=n->listed.size=ops.size->rest.Nodup->
  (∀i,i∈rest↔i<ops.size/\listed.getD i true=false)->(∀i∈rest,i ∉ D)->(∀i∈D,i<ops.size)->
  (∀(j:Nat)(o:Oper),ops[j]? = some o->listed.getD j false=true->∀e∈o.after.toList,Region.binds .any e=true->listed.getD e.on false=true)->rest.Pairwise (sH cx ops)->
  cO c N (UD base D) e h a w->aF cx base ops rest e h≠.fail->
  (∀e0 e' h' a' w',aF cx base ops rest e h= .ok e0 h'->EqE e0 e'->cO c N (UR base ops.size) e' h' a' w'->a'.defers=a.defers->Q .normal a' w')->
  (∀pv h' v w' a',aF cx base ops rest e h= .pan pv h'->gP c pv h' v w'->a'.defers=a.defers->Q (.panic [{ v,recovered:=false }]) a' w')->wpAny P .any ops Q n listed a w
 |0,rest,listed,D,e,h,a,w,hlen,hsz,hnd,hmem,hdis,hD,hcl,hpw,H,hr,hn,hp=>by
  have:rest=[]:=C7 hlen;subst this;refine⟨?_,hn e e h a w rfl (.refl e) (H.wider (vX hD)) rfl⟩;refine List.eq_nil_iff_forall_not_mem.2 fun i hi=>?_;obtain⟨h0,o,ho,_⟩:=mem_ready.1 hi
  have:=(hmem i).2 ⟨(Dg.1 ho).1,h0⟩
  simp at this
 | n + 1,rest,listed,D,e,h,a,w,hlen,hsz,hnd,hmem,hdis,hD,hcl,hpw,H,hr,hn,hp=>by
  have hgd:∀i,i<ops.size->listed.getD i true=listed.getD i false:=fun i hi=>by
   rw[C5,C5,DJ (by omega)];rfl
  refine⟨fun hemp=>?_,fun i hi=>?_⟩
  ·exfalso;cases rest with
   |nil=>simp at hlen
   | cons r0 tl=>
    have hr0:=(hmem r0).1 (by simp);have hor:ops[r0]? = some ops[r0]:=DJ hr0.1;have:r0∈Region.ready .any ops listed:=by
     refine mem_ready.2 ⟨hr0.2,_,hor,fun ed hed hb=>?_⟩;have hbt:((gd ops).getD r0 0).testBit ed.on=true:=by
      rw[(sP hor).2,fN];exact⟨ed,by simpa using hed,hb,.inl rfl⟩
     have hlt:=hbit r0 ed.on hbt;cases hl:listed.getD ed.on false with
     |true=>rfl
     | false=>
      have hin:=(hmem ed.on).2 ⟨hlt,by rw[hgd _ hlt];exact hl⟩;simp only[C8]at hin;rcases hin with hin|hin
      ·rw[hin]at hbt;rw[hself r0 hr0.1]at hbt;cases hbt
      ·have:=(List.pairwise_cons.1 hpw).1 ed.on hin
       rw[this.1]at hbt;cases hbt
    rw[hemp]at this;simp at this
  ·obtain⟨h0,o,ho,hall⟩:=mem_ready.1 hi;have hlt:i<ops.size:=(Dg.1 ho).1;have hin:=(hmem i).2 ⟨hlt,h0⟩;obtain⟨p,q,rfl⟩:=List.append_of_mem hin;have hnd':=hnd;rw[List.nodup_append]at hnd';have hni:i ∉ p++q:=by
    intro hm;rw[Da]at hm;rcases hm with hm|hm
    ·exact hnd'.2.2 i hm i (by simp) rfl
    ·exact (Ev.1 hnd'.2.1).1 hm
   have hclo:=rH (ops:=ops) (listed:=fun j=>listed.getD j false=true) (fun j o ho hj ed hed hb=>hcl j o ho hj ed hed hb) i o ho (fun ed hed hb=>hall ed (by simpa using hed) hb);have hfront:∀x∈p,iu cx ops x i=true/\x≠i:=by
    intro x hx;have hpr:=(List.pairwise_append.1 hpw).2.2 x hx i (by simp);refine⟨?_,fun hxi=>hni (by rw[<- hxi];simp[hx])⟩;rcases hpr.2 with h1|h1
    ·have hxl:=hclo x h1;have hxr:=(hmem x).1 (by simp[hx]);rw[hgd x hxr.1]at hxr;rw[hxr.2]at hxl;cases hxl
    ·exact h1
   have hRE:=wW (base:=base) hI hS q p hfront e h;have hr':aF cx base ops (i:: (p++q)) e h≠.fail:=by
    intro hf;rw[hf]at hRE;cases hx:aF cx base ops (p++i:: q) e h with
    |fail=>exact hr hx
    |ok e0 h0=>rw[hx]at hRE;obtain⟨_,h1,_⟩:=hRE;cases h1
    |pan v h0=>rw[hx]at hRE;cases hRE
   simp only[aF,ae]at hr';have hstep:∀ {r:R Env},aF cx base ops (i:: (p++q)) e h=r->aF cx base ops (i:: (p++q)) e h=r:=fun h=>h;simp only[aF,ae]at hRE;refine lB hT hC hO (hdis i hin) H (fun hf=>by rw[hf]at hr';exact hr' rfl) (fun e1 h1 a1 w1 hst hs hdf=>?_) (fun pv h1 v w1 hst hps=>?_)
   ·rw [hst]at hr' hRE;simp only at hr' hRE;refine od hT hC hI hO hS hbit hself n (p++q) (listed.setIfInBounds i true) (i:: D) e1 h1 a1 w1 ?_ (by simp[hsz]) ?_ (fun k=>?_) (fun k hk=>?_) (fun k hk=>?_) (fun k o' ho' hk ed hed hb=>?_) ?_ hs hr' (fun e0 e' h' a' w' hok heq hsat hdf'=>?_) (fun pv h' v w' a' hok hps hdf'=>?_)
    ·simp only[Dl,Dj]at hlen |-;omega
    ·exact hnd.sublist (List.Sublist.append (List.Sublist.refl p) (List.sublist_cons_self i q))
    ·have hset:k≠i->(listed.setIfInBounds i true).getD k true=listed.getD k true:=fun hk=>by
      rw[C5,C5,Ee (Ne.symm hk)]
     constructor
     ·intro hk;have hki:k≠i:=fun h=>hni (h▸hk);rw[hset hki];exact (hmem k).1 (by
       simp only[Da,C8]at hk |-;rcases hk with hk|hk
       ·exact .inl hk
       ·exact .inr (.inr hk))
     ·rintro⟨h1,h2⟩;have hki:k≠i:=by
       rintro rfl;rw[C5,Array.getElem?_setIfInBounds_self]at h2;rw[CJ (by omega)]at h2;simp at h2
      rw[hset hki]at h2
      have:=(hmem k).2 ⟨h1,h2⟩
      simp only[Da,C8]at this |-;rcases this with h|h|h
      ·exact .inl h
      ·exact absurd h hki
      ·exact .inr h
    ·simp only[C8,not_or];refine⟨fun hki=>hni (hki▸hk),hdis k ?_⟩;simp only[Da,C8]at hk |-;rcases hk with hk|hk
     ·exact .inl hk
     ·exact .inr (.inr hk)
    ·simp only[C8]at hk;rcases hk with rfl|hk
     ·exact hlt
     ·exact hD k hk
    ·have hmono:∀x,listed.getD x false=true->(listed.setIfInBounds i true).getD x false=true:=fun x hx=>getD_set_true hx;by_cases hki:k=i
     ·subst hki;rw[ho]at ho';cases ho';exact hmono _ (hall ed (by simpa using hed) hb)
     ·refine hmono _ (hcl k o' ho' ?_ ed hed hb);rw[C5,Ee (Ne.symm hki),<- C5]at hk;exact hk
    ·exact hpw.sublist (List.Sublist.append (List.Sublist.refl p) (List.sublist_cons_self i q))
    ·rw[hok]at hRE;cases hx:aF cx base ops (p++i:: q) e h with
     |fail=>exact absurd hx hr
     |ok ex hx'=>
      rw[hx]at hRE;obtain⟨e0',h2,h3⟩:=hRE;cases h2;exact hn ex e' _ a' w' hx (h3.trans heq) hsat (hdf'.trans hdf)
     |pan v h0=>rw[hx]at hRE;cases hRE
    ·rw[hok]at hRE;cases hx:aF cx base ops (p++i:: q) e h with
     |fail=>exact absurd hx hr
     |ok ex hx'=>rw[hx]at hRE;obtain⟨_,h1,_⟩:=hRE;cases h1
     |pan v0 h0=>
      rw[hx]at hRE;cases hRE;exact hp _ _ v w' a' hx hps (hdf'.trans hdf)
   ·rw[hst]at hRE;cases hx:aF cx base ops (p++i:: q) e h with
    |fail=>exact absurd hx hr
    |ok ex hx'=>rw[hx]at hRE;obtain⟨_,h1,_⟩:=hRE;cases h1
    |pan v0 h0=>
     rw[hx]at hRE;cases hRE;exact hp _ _ v w1 a hx hps rfl
end
end Go.Av
namespace Go.Av
variable [Dr]
structure IsoCall (cx:Cx):Prop where
 iso:∀f args,cx.iso f=true->∃x:Option (Bool×AV),∀h,cx.call f args h=(match x with|none=>.fail|some (true,v)=>.ok v h|some (false,v)=>.pan v h)
 nw:∀f args,cx.nw f=true->qF (cx.call f args)
omit [Dr]in
theorem IsoCall.draw{cx:Cx}(h:IsoCall cx):IsoPure (c8 cx):=by
 refine⟨?_,fun f args hf=>?_⟩
 case refine_2=>
  have hn:=h.nw f args hf;show qF (bif cx.iso f then c7 (cx.call f args)else cx.call f args);cases cx.iso f with
  |false=>exact hn
  |true=>
   intro hp v h' hh;simp only[CH,c7]at hh;cases hq:cx.call f args hp with
   |ok a b=>rw[hq]at hh;cases hh;exact hn _ _ _ hq
   |pan a b=>rw[hq]at hh;cases hh
   |fail=>rw[hq]at hh;cases hh
 intro f args hf;have hf':cx.iso f=true:=hf;obtain⟨x,hx⟩:=h.iso f args hf';refine⟨match x with|some (true,v)=>some v|_=>none,?_⟩;show (bif cx.iso f then c7 (cx.call f args)else cx.call f args)=_;rw[hf'];funext hp;simp only[CH,c7,hx];rcases x with _|⟨b,v⟩
 ·rfl
 ·cases b<;>rfl
theorem bM.draw{P:Program}{cx:Cx}(h:bM P cx.own cx.call):bM P (c8 cx).own (c8 cx).call:=by
 intro f args hp S β w vs hr hg hw hh hv;have hcall:(c8 cx).call f args hp=(bif cx.iso f then c7 (cx.call f args) hp else cx.call f args hp):=by
  show (bif cx.iso f then c7 (cx.call f args)else cx.call f args) hp=_;cases cx.iso f<;>rfl
 rw[hcall]at hr |-
 have key:∀r,r=cx.call f args hp->r≠.fail->Calls P f vs.toArray w (db ((c8 cx).own f) S β hp w r)/\(P.funcs[f]?).any (fun fn=>fn.body.isSome&&!(fn.name== "runtime.NumGoroutine"))=true:=by
  intro r hr1 hr2;subst hr1;exact h f args hp S β w vs hr2 hg hw hh hv
 cases hi:cx.iso f with
 |false=>rw[hi]at hr;exact key _ rfl hr
 |true=>
  rw[hi]at hr;simp only[CH,c7]at hr |-;cases hx:cx.call f args hp with
  |ok v hq=>rw[hx]at hr;exact key _ hx.symm (by simp)
  |pan v hq=>rw[hx]at hr;exact absurd rfl hr
  |fail=>rw[hx]at hr;exact absurd rfl hr
def f0(c:Entry)(N:Nat)(e:Env)(h:Hp)(a:Act)(w:World):Prop:=cO c N (fun g=>g<e.nx*1000) e h a w
theorem cO.rel{c:Entry}{N:Nat}{U:Nat->Prop}{e2 e:Env}{h:Hp}{a:Act}{w:World}{ops:Array Oper}(H:cO c N U e h a w)(R:Rel ops [] e2 e):cO c N U e2 h a w:=by
 obtain⟨S,β,γ,lam,ω,F⟩:=H;refine⟨S,β,γ,lam,ω,F.weak (fun t=>?_) (fun t g hg=>?_) (fun g z hz=>by rw[R.al]at hz;exact hz) (fun B n hB=>by rw[R.lb]at hB;exact hB)⟩
 ·rcases R.get t with h|⟨h1,h2,_⟩
  ·exact .inl (by rw[h])
  ·exact .inr ⟨by rw[h1];rfl,h2⟩
 ·rcases R.get t with h|⟨h1,_⟩
  ·rw[h]at hg;exact hg
  ·rw[h1]at hg;cases hg
theorem cO.eqE{c:Entry}{N:Nat}{U:Nat->Prop}{e2 e:Env}{h:Hp}{a:Act}{w:World}(H:cO c N U e h a w)(R:EqE e e2):cO c N U e2 h a w:=by
 obtain⟨S,β,γ,lam,ω,F⟩:=H;exact⟨S,β,γ,lam,ω,F.weak (fun t=>.inl (by rw[R.get])) (fun t g hg=>by rw[R.get]at hg;exact hg) (fun g z hz=>by rw[R.al]at hz;exact hz) (fun B n hB=>by rw[R.lb]at hB;exact hB)⟩
theorem cO.nx{c:Entry}{N:Nat}{U:Nat->Prop}{e:Env}{h:Hp}{a:Act}{w:World}(n:Nat)(H:cO c N U e h a w):cO c N U { e with nx:=n } h a w:=by
 obtain⟨S,β,γ,lam,ω,F⟩:=H;exact⟨S,β,γ,lam,ω,F.weak (fun t=>.inl rfl) (fun t g hg=>hg) (fun g z hz=>hz) (fun B n hB=>hB)⟩
section
variable {P:Program} {cx:Cx} {c:Entry} {e:Env} {h:Hp} {a:Act} {w:World} {ops:Array Oper} {id:Nat}
omit [Dr]in
theorem lO{n:Nat}(hn:n<=1000)(hd:fp n ops=true)(hk:∀p,sb (br cx.ann.kinds p .L)=true->p<n):OpsOk n cx ops/\Small ops:=by
 unfold fp at hd;rw[Array.all_eq_true_iff_forall_mem]at hd;have h1:∀(i:Nat)(o:Oper),ops[i]? = some o->(∀t,o.dst=some t->t<n)/\∀t∈fj o,t<1000:=by
  intro i o ho
  have:=hd o (Array.mem_of_getElem? ho)
  simp only[CI,CY,CO]at this;refine⟨fun t ht=>?_,this.2⟩;have h2:=this.1;rw[ht]at h2;simpa using h2
 refine⟨⟨fun i o ho=>(h1 i o ho).1,fun i o ho x hx t hxt=>(h1 i o ho).2 t ?_,hk⟩,⟨fun i o ho t ht=>De ((h1 i o ho).1 t ht) hn,fun i o ho=>(h1 i o ho).2⟩⟩;subst hxt;exact Ex.2 ⟨_,hx,rfl⟩
theorem sy{ρ:Type}(hT:TOK P cx.T)(hC:bM P cx.own cx.call)(hI:IsoCall cx)(hk:∀p,sb (br cx.ann.kinds p .L)=true->p<cx.nt){draw:Bool}{k:Env->M ρ}(H:f0 c cx.nt e h a w)(hr:jy cx id ops draw e k h≠.fail){Q:Exit->Act->World->Prop}(hn:∀e' h' a' w',jy cx id ops draw e k h=k e' h'->f0 c cx.nt e' h' a' w'->a'.defers=a.defers->Q .normal a' w')(hp:∀pv h' v w' a',jy cx id ops draw e k h= .pan pv h'->gP c pv h' v w'->a'.defers=a.defers->Q (.panic [{ v,recovered:=false }]) a' w'):
  (Code.region id ops draw).wp P Q a w:=by
 have hN:cx.nt<=1000:=by obtain⟨S,β,γ,lam,ω,F⟩:=H;exact F.tsz.2
 have H0:cO c cx.nt (UD e.nx []) e h a w:=H.wider fun g hg=>.inl hg;unfold jy at hr hn hp;cases hds:fp cx.nt ops with
 |false=>rw[hds]at hr;exact absurd rfl hr
 | true=>
  obtain⟨hO,hS⟩:=lO (cx:=cx) hN hds hk;rw[hds]at hr hn hp;simp only[CH]at hr hn hp;cases draw with
  | false=>
   simp only[CK]at hr hn hp;obtain⟨hfl,hgs⟩:=fg ops (List.range ops.size);refine wp_region (mD hT hC hO (List.range ops.size) [] e h a w List.nodup_range (by simp) H0 ?_ ?_ ?_)
   all_goals
    have hseq:=fq (cx:=cx) (base:=e.nx) hS (cj ops (List.range ops.size)) e e _ h hgs (.refl ops _ e) hr;rw[hfl]at hseq
   ·rcases hseq with⟨_,_,_,_,h2,_⟩|⟨_,_,_,h2⟩<;>rw[h2]<;>simp
   ·intro e' h' a' w' hok hsat hdf;rcases hseq with⟨e2',e'',h'',h1,h2,hR⟩|⟨_,_,_,h2⟩
    ·rw[h2]at hok;cases hok;refine hn _ _ a' w' h1 (cO.nx _ ((hsat.wider (vX ?_)).rel hR)) hdf;intro i hi;simpa using hi
    ·rw[h2]at hok;cases hok
   ·intro pv h' v w' a' hok hps hdf;rcases hseq with⟨e2',e'',h'',h1,h2,hR⟩|⟨_,_,h1,h2⟩
    ·rw[h2]at hok;cases hok
    ·rw[h2]at hok;cases hok;exact hp _ _ v w' a' h1 hps hdf
  | true=>
   simp only[CH]at hr hn hp;generalize mz cx id ops.size=ord at hr hn hp;cases hdo:gV cx ops ord with
   |false=>rw[hdo]at hr;exact absurd rfl hr
   | true=>
    rw[hdo]at hr hn hp;simp only[CH]at hr hn hp;simp only[gV,t6,CI,CY,CO]at hdo;obtain⟨⟨⟨⟨⟨hlen,hmem⟩,hdist⟩,hlt⟩,hbits⟩,hpairs⟩:=hdo;have hlen':ord.length=ops.size:=CM hlen;obtain⟨hpw,hself⟩:=jM (cx:=cx) (ops:=ops) hpairs;have hpw':ord.Pairwise (sH (c8 cx) ops):=hpw;have hO':OpsOk cx.nt (c8 cx) ops:=⟨hO.dst,hO.src,hO.kin⟩;obtain⟨hfl,hgs⟩:=fg ops ord;have hseq:=fq (cx:=c8 cx) (base:=e.nx) hS (cj ops ord) e e _ h hgs (.refl ops _ e) hr;rw[hfl]at hseq;refine wp_region_draw fun t=>?_;have hsch:Region.schedule (P.follows .mixedOrders) ops t=Region.linearise .any ops t:=by
     simp only[Region.schedule,hT.mix,Bool.true_or,Du]
    rw[hsch];have hmem':∀i,i∈ord↔i<ops.size:=fun i=>⟨fun hi=>hlt i hi,fun hi=>(eh _ _).1 (hmem i (by simpa using hi))⟩;refine wpAny_sound ops.size t _ a _ (od (cx:=c8 cx) (c:=c) (N:=cx.nt) (base:=e.nx) hT hC.draw hI.draw hO' hS ?_ ?_ ops.size ord (Array.replicate ops.size false) [] e h a w.drew hlen' (by simp) (gf hdist) ?_ (by simp) (by simp) ?_ hpw' ?_ ?_ ?_ ?_)
    ·intro i x hx;rcases CW x ops.size with h'|h'
     ·exact h'
     ·have hm:(gd ops).getD i 0<2 ^ ops.size:=by
       rw[Dh];cases hi:(gd ops)[i]? with
       |none=>simp;exact Nat.pow_pos (by omega)
       |some m=>exact hbits m (DW hi)
      rw[Nat.testBit_lt_two_pow (De hm (Nat.pow_le_pow_right (by omega) h'))]at hx;cases hx
    ·exact fun i hi=>hself i ((hmem' i).2 hi)
    ·intro i;rw[hmem'];constructor
     ·intro hi;refine⟨hi,?_⟩;rw[C5,E6,CJ hi];rfl
     ·exact fun hi=>hi.1
    ·intro j o ho hj;exfalso;rw[C5,E6]at hj;split at hj<;>simp at hj
    ·obtain⟨S,β,γ,lam,ω,F⟩:=H0;exact⟨S,β,γ,lam,ω,F.drew⟩
    ·rcases hseq with⟨_,_,_,_,h2,_⟩|⟨_,_,_,h2⟩<;>rw[h2]<;>simp
    ·intro e0 e' h' a' w' hok heq hsat hdf;rcases hseq with⟨e2',e'',h'',h1,h2,hR⟩|⟨_,_,_,h2⟩
     ·rw[h2]at hok;cases hok;exact hn _ _ a' w' h1 (cO.nx _ ((hsat.eqE heq.symm).rel hR)) hdf
     ·rw[h2]at hok;cases hok
    ·intro pv h' v w' a' hok hps hdf;rcases hseq with⟨e2',e'',h'',h1,h2,hR⟩|⟨_,_,h1,h2⟩
     ·rw[h2]at hok;cases hok
     ·rw[h2]at hok;cases hok;exact hp _ _ v w' a' h1 hps hdf
end
end Go.Av
namespace Go.Av
variable [Dr]
omit [Dr]in
theorem fS{e:Env}:∀(l:List (Nat×Option Nat))(used:List Nat)(vs:List AV),ej e l used=some vs->vs.length=l.length/\
  (∀(i:Nat)(t:Nat)(z:Option Nat),l[i]? = some (t,z)->∃a,vs[i]? = some a/\(e.get t).v= .val a/\∀sz,z=some sz->∃g z0,(e.get t).g=some g/\aw e.al g=some z0/\(z0=none\/z0=some sz)/\g ∉ used)/\
  ∀(i j:Nat)(t t' sz sz':Nat),i<j->l[i]? = some (t,some sz)->l[j]? = some (t',some sz')->(e.get t).g≠(e.get t').g
 |[],used,vs,h=>by
  simp only[ej,CG]at h;subst h;exact⟨rfl,by simp,by simp⟩
 | (t,none):: r,used,vs,h=>by
  simp only[ej]at h;split at h
  ·rename_i a ha;split at h
   ·rename_i vs' hvs;simp only[CG]at h;subst h;obtain⟨h1,h2,h3⟩:=fS r used vs' hvs;refine⟨by simp[h1],fun i t' z hi=>?_,fun i j t1 t2 sz1 sz2 hij hi hj=>?_⟩
    ·cases i with
     |zero=>
      simp only[C6,CG,Di]at hi;obtain⟨rfl,rfl⟩:=hi;exact⟨a,rfl,ha,fun sz hsz=>by cases hsz⟩
     |succ i=>simpa using h2 i t' z (by simpa using hi)
    ·cases i with
     |zero=>simp at hi
     |succ i=>
      cases j with
      |zero=>omega
      |succ j=>exact h3 i j t1 t2 sz1 sz2 (by omega) (by simpa using hi) (by simpa using hj)
   ·cases h
  ·cases h
 | (t, some sz):: r,used,vs,h=>by
  simp only[ej]at h;split at h
  ·rename_i a g ha hg;split at h
   ·cases h
   ·rename_i z0 hz0;have hcond:nz z0 (some sz)=true/\dk used g=false/\(match ej e r (g:: used)with|some vs=>some (a:: vs)|none=>none)=some vs:=by
     cases hm:dk used g with
     | true=>
      rw[hm]at h;cases z0 with
      |none=>cases h
      |some n=>
       simp only at h;cases hb:Nat.beq n sz<;>rw[hb]at h<;>cases h
     | false=>
      rw[hm]at h;cases z0 with
      |none=>exact⟨rfl,rfl,h⟩
      |some n=>
       simp only at h;cases hb:Nat.beq n sz with
       |true=>rw[hb]at h;exact⟨hb,rfl,h⟩
       |false=>rw[hb]at h;cases h
    obtain⟨hc1,hc2,h⟩:=hcond;have hc:=And.intro hc1 hc2
    ·split at h
     ·rename_i vs' hvs;simp only[CG]at h;subst h;have hgu:g ∉ used:=fun hm=>by
       rw[(eh _ _).2 hm]at hc;exact Bool.noConfusion hc.2
      have hz:z0=none\/z0=some sz:=by
       cases z0 with
       |none=>exact .inl rfl
       |some n=>exact .inr (by rw[CM hc.1])
      obtain⟨h1,h2,h3⟩:=fS r (g:: used) vs' hvs;refine⟨by simp[h1],fun i t' z hi=>?_,fun i j t1 t2 sz1 sz2 hij hi hj=>?_⟩
      ·cases i with
       |zero=>
        simp only[C6,CG,Di]at hi;obtain⟨rfl,rfl⟩:=hi;exact⟨a,rfl,ha,fun sz' hsz=>by cases hsz;exact⟨g,z0,hg,hz0,hz,hgu⟩⟩
       |succ i=>
        obtain⟨a',k1,k2,k3⟩:=h2 i t' z (by simpa using hi);refine⟨a',by simpa using k1,k2,fun sz' hsz=>?_⟩;obtain⟨g',z',m1,m2,m3,m4⟩:=k3 sz' hsz;exact⟨g',z',m1,m2,m3,fun hm=>m4 (by simp[hm])⟩
      ·cases i with
       | zero=>
        cases j with
        |zero=>omega
        |succ j=>
         simp only[C6,CG,Di]at hi;obtain⟨rfl,_⟩:=hi;obtain⟨a',k1,k2,k3⟩:=h2 j t2 (some sz2) (by simpa using hj);obtain⟨g',z',m1,m2,m3,m4⟩:=k3 sz2 rfl;rw[hg,m1];intro hh;simp only[CG]at hh;exact m4 (by simp[hh])
       |succ i=>
        cases j with
        |zero=>omega
        |succ j=>exact h3 i j t1 t2 sz1 sz2 (by omega) (by simpa using hi) (by simpa using hj)
     ·cases h
  ·cases h
omit [Dr]in
theorem fZ(vs:List AV)(r:List (Nat×Ent))(t:Nat):∀(l:List (Nat×Option Nat))(k:Nat),
  (∃(i:Nat)(z:Option Nat),l[i]? = some (t,z)/\bd (bG vs k l++r) t=⟨.val (nth vs (k+i)),z.map fun _=>k+i⟩)\/
  ((∀(i:Nat)(z:Option Nat),l[i]? ≠some (t,z))/\bd (bG vs k l++r) t=bd r t)
 |[],k=>.inr ⟨by simp,rfl⟩
 | (s,z):: l,k=>by
  have hh:bG vs k ((s,z):: l)=(s,⟨.val (nth vs k),z.map fun _=>k⟩):: bG vs (k+1) l:=by cases z<;>rfl
  rw[hh,Dy,bp];by_cases hs:s=t
  ·subst hs;rw[CJ rfl];exact .inl ⟨0,z,rfl,rfl⟩
  ·rw[if_neg hs];rcases fZ vs r t l (k+1)with⟨i,z',h1,h2⟩|⟨h1,h2⟩
   ·refine .inl ⟨i+1,z',by simpa using h1,?_⟩;rw[h2,show k+1+i=k+(i+1) by omega]
   ·refine .inr ⟨fun i z' hi=>?_,h2⟩;cases i with
    |zero=>simp at hi;exact hs hi.1
    |succ i=>exact h1 i z' (by simpa using hi)
omit [Dr]in
theorem eb:∀(l:List (Nat×Option Nat))(k g:Nat)(y:Option Nat),aw (fD k l) g=some y->∃(i t sz:Nat),l[i]? = some (t,some sz)/\g=k+i/\y=some sz
 |[],k,g,y,h=>by simp[fD,aw]at h
 |(s,none):: l,k,g,y,h=>by
  obtain⟨i,t,sz,h1,h2,h3⟩:=eb l (k+1) g y h;exact⟨i+1,t,sz,by simpa using h1,by omega,h3⟩
 | (s,some n):: l,k,g,y,h=>by
  simp only[fD,bh]at h;split at h
  ·rename_i hk;simp only[CG]at h;exact⟨0,s,n,rfl,by omega,h.symm⟩
  ·obtain⟨i,t,sz,h1,h2,h3⟩:=eb l (k+1) g y h;exact⟨i+1,t,sz,by simpa using h1,by omega,h3⟩
omit [Dr]in
theorem jh(t:Nat):∀(l:List (Nat×Nat×Nat)),(∃B off,(t,B,off)∈l/\bd (l.map fun x=>(x.1,(⟨.loc x.2.1 x.2.2,none⟩:Ent))) t=⟨.loc B off,none⟩)\/bd (l.map fun x=>(x.1,(⟨.loc x.2.1 x.2.2,none⟩:Ent))) t=Ent.none
 |[]=>.inr rfl
 | (s,B,off):: l=>by
  rw[Dp,bp];by_cases hs:s=t
  ·subst hs;rw[CJ rfl];exact .inl ⟨B,off,by simp,rfl⟩
  ·rw[if_neg hs];rcases jh t l with⟨B',off',h1,h2⟩|h
   ·exact .inl ⟨B',off',by simp[h1],h2⟩
   ·exact .inr h
omit [Dr]in
theorem kR{e:Env}:∀ {l:List (Nat×Nat×Nat)},kQ e l=true->∀t B off,(t,B,off)∈l->(e.get t).v= .loc B off
 |[],_,t,B,off,h=>by simp at h
 | (s,B0,off0):: l,h,t,B,off,hm=>by
  simp only[kQ,CI]at h;simp only[C8,Di]at hm;rcases hm with⟨rfl,rfl,rfl⟩|hm
  ·have h1:=h.1;split at h1
   ·rename_i B' off' hv;simp only[CI]at h1;rw[hv,CM h1.1,CM h1.2]
   ·cases h1
  ·exact kR h.2 t B off hm
omit [Dr]in
theorem mn{e:Env}:∀ {l:List (Nat×Nat)},oM e l=true->∀B n,aQ l B=some n->aQ e.lb B=some n
 |[],_,B,n,h=>by simp[aQ]at h
 | (B0,n0):: l,h,B,n,hm=>by
  simp only[oM,CI]at h;rw[cy]at hm;split at hm
  ·rename_i hB;subst hB;simp only[CG]at hm;subst hm;have h1:=h.1;split at h1
   ·rename_i m hv;rw[hv,CM h1]
   ·cases h1
  ·exact mn h.2 B n hm
section
variable {c:Entry} {N:Nat} {e:Env} {h:Hp} {a:Act} {w:World}
open Classical in
theorem nC{ja:JA}{vs:List AV}(H:f0 c N e h a w)(hp:pack ja e=some vs):f0 c N (unpack ja vs) h a w:=by
 obtain⟨S,β,γ,lam,ω,F⟩:=H;unfold pack at hp;cases hlo:(kQ e ja.locs&&oM e ja.lbs)with
 |false=>rw[hlo]at hp;cases hp
 | true=>
  rw[hlo]at hp;simp only[CH]at hp;simp only[CI]at hlo;obtain⟨hlen,hval,hdis⟩:=fS ja.vals [] vs hp
  -- the groups carried
  let gOf:Nat->Option Nat:=fun i=>match ja.vals[i]? with|some (t,some _)=>(e.get t).g|_=>none
  have hg1:∀i t sz,ja.vals[i]? = some (t,some sz)->∃g z0,gOf i=some g/\(e.get t).g=some g/\aw e.al g=some z0/\(z0=none\/z0=some sz):=by
   intro i t sz hi;obtain⟨a',_,_,h3⟩:=hval i t (some sz) hi;obtain⟨g,z0,k1,k2,k3,_⟩:=h3 sz rfl;refine⟨g,z0,?_,k1,k2,k3⟩;show (match ja.vals[i]? with|some (t,some _)=>(e.get t).g|_=>none)=some g;rw[hi];exact k1
  have hg2:∀i j g,gOf i=some g->gOf j=some g->i=j:=by
   have hex:∀i g,gOf i=some g->∃t sz,ja.vals[i]? = some (t,some sz)/\(e.get t).g=some g:=by
    intro i g hi;have hi':(match ja.vals[i]? with|some (t,some _)=>(e.get t).g|_=>none)=some g:=hi;split at hi'
    ·rename_i t sz ht;exact⟨t,sz,ht,hi'⟩
    ·cases hi'
   intro i j g hi hj;obtain⟨t,sz,k1,k2⟩:=hex i g hi;obtain⟨t',sz',m1,m2⟩:=hex j g hj;rcases Nat.lt_trichotomy i j with hlt|heq|hlt
   ·exact absurd (k2.trans m2.symm) (hdis i j t t' sz sz' hlt k1 m1)
   ·exact heq
   ·exact absurd (m2.trans k2.symm) (hdis j i t' t sz' sz hlt m1 k1)
  let γ':Nat->Value:=fun i=>match gOf i with|some g=>γ g|none=>undef
  let ω':Nat->Owner:=fun b=>match ω b with
   |.grp g=>if hx:∃i,gOf i=some g then .grp (Classical.choose hx)else .no
   |o=>o
  have hωg:∀b g i,ω b= .grp g->gOf i=some g->ω' b= .grp i:=by
   intro b g i hb hi;show (match ω b with|.grp g=>if hx:∃i,gOf i=some g then Owner.grp (Classical.choose hx)else .no|o=>o)= .grp i;rw[hb];simp only;have hx:∃i,gOf i=some g:=⟨i,hi⟩;rw[dif_pos hx,hg2 _ _ g (EF hx) hi]
  have hωo:∀b,(∀g,ω b≠.grp g)->ω' b=ω b:=by
   intro b hb;show (match ω b with|.grp g=>if hx:∃i,gOf i=some g then Owner.grp (Classical.choose hx)else .no|o=>o)=ω b;cases ho:ω b with
   |grp g=>exact absurd ho (hb g)
   |_=>rfl
  have hωn:∀b,ω' b≠.no->ω b≠.no:=by
   intro b hb ho;refine hb ?_;rw[hωo b (fun g hg=>by rw[ho]at hg;cases hg),ho]
  have hωx:∀b g,ω' b= .grp g->∃g',ω b= .grp g':=by
   intro b g hg;cases ho:ω b with
   |grp g'=>exact⟨g',rfl⟩
   |_=>rw[hωo b (fun g' h'=>by rw[ho]at h';cases h'),ho]at hg;cases hg
  -- the slots
  have hget:∀t,(∃(i:Nat)(z:Option Nat)(a':AV),ja.vals[i]? = some (t,z)/\(e.get t).v= .val a'/\(unpack ja vs).get t=⟨.val a',z.map fun _=>i⟩)\/(∃B off,(e.get t).v= .loc B off/\(unpack ja vs).get t=⟨.loc B off,none⟩)\/(unpack ja vs).get t=Ent.none:=by
   intro t;have hu:(unpack ja vs).get t=bd (bG vs 0 ja.vals++ja.locs.map fun x=>(x.1,(⟨.loc x.2.1 x.2.2,none⟩:Ent))) t:=rfl;rcases fZ vs (ja.locs.map fun x=>(x.1,(⟨.loc x.2.1 x.2.2,none⟩:Ent))) t ja.vals 0 with⟨i,z,h1,h2⟩|⟨h1,h2⟩
   ·obtain⟨a',k1,k2,_⟩:=hval i t z h1;refine .inl ⟨i,z,a',h1,k2,?_⟩;rw[hu,h2,C2];have:nth vs i=a':=by simp[nth,k1]
    rw[this]
   ·rcases jh t ja.locs with⟨B,off,k1,k2⟩|k
    ·exact .inr (.inl ⟨B,off,kR hlo.1 t B off k1,by rw[hu,h2,k2]⟩)
    ·exact .inr (.inr (by rw[hu,h2,k]))
  have hgg:∀t g,((unpack ja vs).get t).g=some g->∃sz,ja.vals[g]? = some (t,some sz):=by
   intro t g hg;rcases hget t with⟨i,z,a',h1,_,h3⟩|⟨_,_,_,h3⟩|h3
   ·rw[h3]at hg;cases z with
    |none=>simp at hg
    |some sz=>simp at hg;subst hg;exact⟨sz,h1⟩
   ·rw[h3]at hg;cases hg
   ·rw[h3]at hg;cases hg
  have hγ:∀t g,((unpack ja vs).get t).g=some g->∃g0 z0,(e.get t).g=some g0/\aw e.al g0=some z0/\γ' g=γ g0:=by
   intro t g hg;obtain⟨sz,h1⟩:=hgg t g hg;obtain⟨g0,z0,k1,k2,k3,_⟩:=hg1 g t sz h1;refine⟨g0,z0,k2,k3,?_⟩;show (match gOf g with|some g=>γ g|none=>undef)=γ g0;rw[k1]
  refine⟨S,β,γ',lam,ω',⟨F.wf,F.gro,F.keep,F.le,F.ext,F.hlen,fun l cs hl hcs=>?_,F.tsz,fun t ht=>?_,fun t g z ht hg hz=>?_,fun B n hB=>?_,fun g z hz=>?_,fun b hb=>⟨(F.mine b (hωn b hb)).1.imp (fun hE=>⟨hE.1,fun g hg=>by obtain⟨g',h'⟩:=hωx b g hg;exact hE.2 g' h'⟩) id,(F.mine b (hωn b hb)).2⟩,fun t g hg=>?_,fun g z hz=>?_⟩⟩
  ·rcases F.heap l cs hl hcs with⟨b,x,h1,h2,h3,h4⟩|⟨b,h1,h3,h4⟩
   ·exact .inl ⟨b,x,h1,h2,by rw[hωo b (fun g hg=>by rw[h3]at hg;cases hg)];exact h3,h4⟩
   ·exact .inr ⟨b,h1,by rw[hωo b (fun g hg=>by rw[h3]at hg;cases hg)];exact h3,h4⟩
  ·have hs:=F.slots t ht;rcases hget t with⟨i,z,a',_,h2,h3⟩|⟨B,off,h2,h3⟩|h3
   ·rw[h3];rw[h2]at hs;exact hs
   ·rw[h3];rw[h2]at hs;exact hs
   ·rw[h3];simp[Ent.none,dn,VR]
  ·obtain⟨g0,z0,k1,k2,k3⟩:=hγ t g hg;rw[k3];exact F.grps t g0 z0 ht k1 k2
  ·obtain⟨k1,k2,k3,b,x,k4,k5,k6,k7,k8⟩:=F.lblk B n (mn hlo.2 B n hB);refine⟨k1,k2,k3,b,x,k4,k5,by rw[hωo b (fun g hg=>by rw[k6]at hg;cases hg)];exact k6,k7,fun i hi=>?_⟩;obtain⟨v,a',m1,m2,m3,m4⟩:=k8 i hi;have hgr:∀g z,((unpack ja vs).get (B+i)).g=some g->aw (unpack ja vs).al g=some z->v=γ' g:=by
    intro g z hg _;obtain⟨g0,z0,p1,p2,p3⟩:=hγ _ g hg;rw[p3];exact m4 g0 z0 p1 p2
   rcases hget (B+i)with⟨j,z,a2,_,h2,h3⟩|⟨B',off,h2,h3⟩|h3
   ·refine⟨v,a2,m1,by rw[h3],?_,hgr⟩;rw[m2]at h2;cases h2;exact m3
   ·rw[m2]at h2;cases h2
   ·exact⟨v,.any,m1,by rw[h3];rfl,by simp[VR],hgr⟩
  ·obtain⟨i,t,sz,h1,h2,h3⟩:=eb ja.vals 0 g z hz;rw[C2]at h2;subst h2;obtain⟨g0,z0,k1,k2,k3,k4⟩:=hg1 g t sz h1;have hγ':γ' g=γ g0:=by
    show (match gOf g with|some g=>γ g|none=>undef)=γ g0;rw[k1]
   rw[hγ'];obtain⟨ad,len,cap,m1,m2,m3,m4⟩:=F.free g0 z0 k3;refine⟨ad,len,cap,m1,m2,m3,m4.imp id ?_⟩;rintro⟨sz',b,off,x,p1,p2,p3,p4,p5,p6⟩;have:sz'=sz:=by
    rcases k4 with k4|k4<;>rw[k4]at p1<;>cases p1;rfl
   subst this;exact⟨sz',b,off,x,h3,p2,p3,p4,hωg b g0 g p5 k1,p6⟩
  ·obtain⟨sz,h1⟩:=hgg t g hg;have:g<ja.vals.length:=by
    rcases CW g ja.vals.length with h|h
    ·exact h
    ·rw[CP h]at h1;cases h1
   show g<ja.vals.length*1000;omega
  ·obtain⟨i,t,sz,h1,h2,h3⟩:=eb ja.vals 0 g z hz;have:i<ja.vals.length:=by
    rcases CW i ja.vals.length with h|h
    ·exact h
    ·rw[CP h]at h1;cases h1
   show g<ja.vals.length*1000;omega
omit [Dr]in
theorem vu(d:Nat)(h:Hp):hM d h .any= .any:=by cases d<;>rfl
omit [Dr]in
theorem rf(g:AV->AV)(hg:g .any= .any)(vs:List AV)(i:Nat):nth (vs.map g) i=g (nth vs i):=by
 unfold nth;rw[Dh,Dh,Dz];cases vs[i]? with
 |none=>simp[hg]
 |some v=>rfl
structure Reval (g:AV->AV) (x y:Ent):Prop where
 gr:y.g=x.g
 v:(∃a,x.v= .val a/\y.v= .val (g a))\/(∃B off,x.v= .loc B off/\y.v= .loc B off)
omit [Dr]in
theorem d6(g:AV->AV)(hg:g .any= .any)(vs:List AV)(r:List (Nat×Ent))(hr:∀t,Reval g (bd r t) (bd r t))(t:Nat):∀(l:List (Nat×Option Nat))(k:Nat),
  Reval g (bd (bG vs k l++r) t) (bd (bG (vs.map g) k l++r) t)
 |[],k=>by simpa [bG]using hr t
 |(s,none):: l,k=>by
  simp only[bG,Dy,bd];cases Nat.beq s t with
  |true=>exact⟨rfl,.inl ⟨_,rfl,by simp only[CH];rw[rf g hg]⟩⟩
  |false=>exact d6 g hg vs r hr t l (k+1)
 |(s,some z):: l,k=>by
  simp only[bG,Dy,bd];cases Nat.beq s t with
  |true=>exact⟨rfl,.inl ⟨_,rfl,by simp only[CH];rw[rf g hg]⟩⟩
  |false=>exact d6 g hg vs r hr t l (k+1)
omit [Dr]in
theorem nB(g:AV->AV)(hg:g .any= .any)(ja:JA)(vs:List AV)(t:Nat):Reval g ((unpack ja vs).get t) ((unpack ja (vs.map g)).get t):=by
 refine d6 g hg vs _ (fun t=>?_) t ja.vals 0;rcases jh t ja.locs with⟨B,off,_,k2⟩|k
 ·rw[k2];exact⟨rfl,.inr ⟨B,off,rfl,rfl⟩⟩
 ·rw[k];exact⟨rfl,.inl ⟨.any,rfl,by simp[Ent.none,hg]⟩⟩
theorem FR.reval{U:Nat->Prop}{S:ar}{β:List ba}{γ:Nat->Value}{lam:Nat->Option Nat}{ω:Nat->Owner}{e2:Env}{h2:Hp}{S2:ar}{ω2:Nat->Owner}{g:AV->AV}(F:FR c N U e h a w S β γ lam ω)(F2:FR c N U e h2 a w S2 β γ lam ω2)(hg:∀x v,VR S β x v->VR S2 β (g x) v)(hr:∀t,Reval g (e.get t) (e2.get t))(hal:e2.al=e.al)(hlb:e2.lb=e.lb):FR c N U e2 h2 a w S2 β γ lam ω2:=by
 refine⟨F2.wf,F2.gro,F2.keep,F2.le,F2.ext,F2.hlen,F2.heap,F2.tsz,fun t ht=>?_,fun t k z ht hk hz=>?_,fun B n hB=>?_,fun k z hz=>F2.free k z (by rw[<- hal];exact hz),F2.mine,fun t k hk=>?_,fun k z hz=>F2.used.2 k z (by rw[<- hal];exact hz)⟩
 ·have h1:=F.slots t ht;rcases (hr t).v with⟨x,q1,q2⟩|⟨B,off,q1,q2⟩
  ·rw[q1]at h1;rw[q2];exact hg _ _ h1
  ·rw[q1]at h1;rw[q2];exact h1
 ·rw[(hr t).gr]at hk;rw[hal]at hz;exact F2.grps t k z ht hk hz
 ·rw[hlb]at hB;obtain⟨k1,k2,k3,b,x,k4,k5,k6,k7,k8⟩:=F2.lblk B n hB;obtain⟨_,_,_,b',x',j4,j5,j6,j7,j8⟩:=F.lblk B n hB;rw[k4]at j4;cases j4;cases k5.inj j5;refine⟨k1,k2,k3,b,x,k4,k5,k6,k7,fun i hi=>?_⟩;obtain⟨v,a',m1,m2,m3,m4⟩:=k8 i hi;obtain⟨v',a'',n1,n2,n3,_⟩:=j8 i hi;rw[m1]at n1;cases n1;rcases (hr (B+i)).v with⟨y,q1,q2⟩|⟨B',off,q1,q2⟩
  ·rw[n2]at q1;cases q1;refine⟨v,g a'',m1,q2,hg _ _ n3,fun k z hk hz=>?_⟩;rw[(hr (B+i)).gr]at hk;rw[hal]at hz;exact m4 k z hk hz
  ·rw[n2]at q1;cases q1
 ·rw[(hr t).gr]at hk;exact F2.used.1 t k hk
theorem lQ{ja:JA}{vs:List AV}(H:f0 c N (unpack ja vs) h a w):f0 c N (unpack ja (vs.map (hM 6 h))) (h.map fun _=>[]) a w:=by
 obtain⟨S,β,γ,lam,ω,F⟩:=H;obtain⟨S2,ω2,F2,hf⟩:=F.freeze;have F3:=F.reval F2 (g:=hM 6 h) (fun x v hx=>hf _ _ hx) (nB _ (vu 6 h) ja vs) (e2:=unpack ja (vs.map (hM 6 h))) rfl rfl;exact⟨S2,β,γ,lam,ω2,F3⟩
end
end Go.Av
namespace Go.Av
variable [Dr]
section
variable {P:Program} {cx:Cx} {c:Entry} {e:Env} {h:Hp} {a:Act} {w:World} {ops:Array Oper} {id:Nat}
theorem qp{ρ:Type}(hT:TOK P cx.T)(hC:bM P cx.own cx.call)(hI:IsoCall cx)(hk:∀p,sb (br cx.ann.kinds p .L)=true->p<cx.nt){draw:Bool}{k:Env->M ρ}(H:f0 c cx.nt e h a w)(hr:i8 cx id ops draw e k h≠.fail){Q:Exit->Act->World->Prop}(hn:∀e' h' a' w',i8 cx id ops draw e k h=k e' h'->f0 c cx.nt e' h' a' w'->a'.defers=a.defers->Q .normal a' w')(hp:∀pv h' v w' a',i8 cx id ops draw e k h= .pan pv h'->gP c pv h' v w'->a'.defers=a.defers->Q (.panic [{ v,recovered:=false }]) a' w'):
  (Code.region id ops draw).wp P Q a w:=sy hT hC hI hk H hr hn hp
end
end Go.Av
namespace Go.Av
variable [Dr]
section
variable {P:Program} {Q:Exit->Act->World->Prop} {b:Code}
def f5(P:Program)(c:Code)(Q:Exit->Act->World->Prop)(a:Act)(w:World):Prop:=
 ∀(b:Frame)(k:List Item)(cs:List Frame),∃e a' w',Q e a' w'/\Arrives P (lone (b.at a (.code c:: .inLoop c:: k)) cs w) b k cs e a' w'
omit [Dr]in
theorem f5.loop{a:Act}{w:World}(h:f5 P b Q a w):(Code.loop b).wp P Q a w:=
 fun f k cs=>let ⟨e,a',w',q,r⟩:=h f k cs;⟨e,a',w',q,.of_steps (.one step_loop) r⟩
omit [Dr]in
theorem Cy{a:Act}{w:World}(h:b.wp P (Exit.then (f5 P b Q) Q) a w):f5 P b Q a w:=by
 intro f k cs;obtain⟨e,a₁,w₁,hq,harr⟩:=h f (.inLoop b:: k) cs;cases e with
 |normal=>
  obtain⟨e₂,a₂,w₂,hq₂,harr₂⟩:=hq f k cs;exact⟨e₂,a₂,w₂,hq₂,.of_steps (Steps.trans harr (.one step_inLoop)) harr₂⟩
 |exit id=>exact⟨_,a₁,w₁,hq,.pass (x:=.inLoop b) rfl (fun _ _=>.inl (by simp)) harr⟩
 |goto l=>exact⟨_,a₁,w₁,hq,.pass (x:=.inLoop b) rfl (fun _ _=>.inl (by simp)) harr⟩
 |ret=>exact⟨_,a₁,w₁,hq,.pass (x:=.inLoop b) rfl (fun _ _=>.inl (by simp)) harr⟩
 |panic ch=>exact⟨_,a₁,w₁,hq,.pass (x:=.inLoop b) rfl (fun _ _=>.inl (by simp)) harr⟩
 |outgrown=>exact⟨_,a₁,w₁,hq,.pass (x:=.inLoop b) rfl (fun _ _=>.inl (by simp)) harr⟩
end
section
variable {P:Program} {cx:Cx} {c:Entry} {ρ:Type}
omit [Dr]in
theorem tg{fx:cI ρ}{id:Nat}{code:Code}{e:Env}{kn kr:Env->M ρ}{kx:Nat->Env->M ρ}(hc:∀b,code≠.loop b):
  ev cx fx (.block id code) e kn kx kr=ev cx fx code e kn (fun i e'=>bif Nat.beq i id then kn e' else kx i e') kr:=by
 cases code<;>first|rfl|exact absurd rfl (hc _)
def qe(cx:Cx)(x:Code):Option JA:=match hY x with
 |some t=>jz cx.ann.joins t
 |none=>none
omit [Dr]in
theorem xP{fx:cI ρ}{x y:Code}{e:Env}{kn kr:Env->M ρ}{kx:Nat->Env->M ρ}:ev cx fx (.seq x y) e kn kx kr=(match qe cx x with
  |some ja=>jn (fun vs=>ev cx fx y (unpack ja vs) kn kx kr) fun j=>ev cx fx x e (lD ja j) kx kr
  |none=>ev cx fx x e (fun e'=>ev cx fx y e' kn kx kr) kx kr):=by
 unfold qe;simp only[ev];cases hY x with
 |none=>rfl
 |some t=>
  simp only;cases jz cx.ann.joins t<;>rfl
structure Posts (c:Entry) (N:Nat) (r:R ρ) (a:Act) (kn:Env->M ρ) (kx:Nat->Env->M ρ) (kr:Env->M ρ) (Q:Exit->Act->World->Prop):Prop where
 nrm:∀e' h' a' w',r=kn e' h'->f0 c N e' h' a' w'->a'.defers=a.defers->Q .normal a' w'
 ext:∀i e' h' a' w',r=kx i e' h'->f0 c N e' h' a' w'->a'.defers=a.defers->Q (.exit i) a' w'
 ret:∀e' h' a' w',r=kr e' h'->f0 c N e' h' a' w'->a'.defers=a.defers->Q .ret a' w'
 pan:∀pv h' v w' a',r= .pan pv h'->gP c pv h' v w'->a'.defers=a.defers->Q (.panic [{ v,recovered:=false }]) a' w'
theorem nA{ja:JA}{j:List AV->M ρ}{e:Env}{h:Hp}{N:Nat}{a:Act}{w:World}(H:f0 c N e h a w)(hr:lD ja j e h≠.fail):∃vs h',lD ja j e h=j vs h'/\f0 c N (unpack ja vs) h' a w:=by
 unfold lD at hr |-;cases hp:pack ja e with
 |none=>rw[hp]at hr;exact absurd rfl hr
 |some vs=>
  have hs:=nC H hp;simp only;cases ja.fz with
  |false=>exact⟨vs,h,rfl,hs⟩
  |true=>exact⟨_,_,rfl,lQ hs⟩
theorem tj(hT:TOK P cx.T)(hC:bM P cx.own cx.call)(hI:IsoCall cx)(hk:∀p,sb (br cx.ann.kinds p .L)=true->p<cx.nt)(m:Nat):∀(n:Nat)(code:Code),SizeOf.sizeOf code<n->
  ∀(e:Env)(h:Hp)(a:Act)(w:World)(kn:Env->M ρ)(kx:Nat->Env->M ρ)(kr:Env->M ρ)(Q:Exit->Act->World->Prop),f0 c cx.nt e h a w->ev cx (cb m) code e kn kx kr h≠.fail->
  Posts c cx.nt (ev cx (cb m) code e kn kx kr h) a kn kx kr Q->code.wp P Q a w:=by
 intro n
 induction n with
 |zero=>intro code hn;omega
 | succ n ih=>
  intro code hn e h a w kn kx kr Q H hr hp;cases code<;>(try exact absurd rfl hr)
  case skip=>exact wp_skip (hp.nrm e h a w rfl H rfl)
  case exit id=>exact wp_exit (hp.ext id e h a w rfl H rfl)
  case ret=>exact wp_ret (hp.ret e h a w rfl H rfl)
  case region id ops draw=>exact qp hT hC hI hk H hr hp.nrm hp.pan
  case seq x y=>
   have hx:SizeOf.sizeOf x<n:=by simp at hn;omega
   have hy:SizeOf.sizeOf y<n:=by simp at hn;omega
   refine wp_seq ?_;rw[xP]at hr hp;generalize qe cx x=oj at hr hp;cases oj with
   |none=>
    simp only at hr hp;refine ih x hx e h a w _ kx kr _ H hr ⟨fun e' h' a' w' hok hs hd=>?_,fun i e' h' a' w' hok hs hd=>hp.ext i e' h' a' w' hok hs hd,fun e' h' a' w' hok hs hd=>hp.ret e' h' a' w' hok hs hd,fun pv h' v w' a' hok hs hd=>hp.pan pv h' v w' a' hok hs hd⟩;rw[hok]at hr hp;exact ih y hy e' h' a' w' kn kx kr Q hs hr ⟨fun e2 h2 a2 w2 k1 k2 k3=>hp.nrm e2 h2 a2 w2 k1 k2 (k3.trans hd),fun i e2 h2 a2 w2 k1 k2 k3=>hp.ext i e2 h2 a2 w2 k1 k2 (k3.trans hd),fun e2 h2 a2 w2 k1 k2 k3=>hp.ret e2 h2 a2 w2 k1 k2 (k3.trans hd),fun pv h2 v w2 a2 k1 k2 k3=>hp.pan pv h2 v w2 a2 k1 k2 (k3.trans hd)⟩
   |some ja=>
    simp only[jn]at hr hp;refine ih x hx e h a w _ kx kr _ H hr ⟨fun e' h' a' w' hok hs hd=>?_,fun i e' h' a' w' hok hs hd=>hp.ext i e' h' a' w' hok hs hd,fun e' h' a' w' hok hs hd=>hp.ret e' h' a' w' hok hs hd,fun pv h' v w' a' hok hs hd=>hp.pan pv h' v w' a' hok hs hd⟩;rw[hok]at hr hp;obtain⟨vs,h3,hj,hs3⟩:=nA hs hr;rw[hj]at hr hp;exact ih y hy (unpack ja vs) h3 a' w' kn kx kr Q hs3 hr ⟨fun e2 h2 a2 w2 k1 k2 k3=>hp.nrm e2 h2 a2 w2 k1 k2 (k3.trans hd),fun i e2 h2 a2 w2 k1 k2 k3=>hp.ext i e2 h2 a2 w2 k1 k2 (k3.trans hd),fun e2 h2 a2 w2 k1 k2 k3=>hp.ret e2 h2 a2 w2 k1 k2 (k3.trans hd),fun pv h2 v w2 a2 k1 k2 k3=>hp.pan pv h2 v w2 a2 k1 k2 (k3.trans hd)⟩
  case cond o x y=>
   have hx:SizeOf.sizeOf x<n:=by simp at hn;omega
   have hy:SizeOf.sizeOf y<n:=by simp at hn;omega
   cases o<;>(try exact absurd rfl hr)
   case const v=>
    simp only[ev]at hr hp
    have hav:∀b,cA v= .bool b->a.eval (.const v)= .bool b:=by
     intro b hb;show v= .bool b;cases v with
     |bool c=>simp only[cA,qN,AV.bool.injEq]at hb;rw[hb]
     |tuple vs=>simp only[cA]at hb;cases hvs:vs.isEmpty<;>rw[hvs]at hb<;>cases hb
     |pointer p=>cases p<;>(simp only[cA,qN]at hb;cases hb)
     |map p=>cases p<;>(simp only[cA,qN]at hb;cases hb)
     | slice p n m=>
      have hs:qN (.slice p n m)= .sl []\/qN (.slice p n m)= .any:=by
       cases p with
       |some q=>exact .inr rfl
       | none=>cases n with
        |succ n=>exact .inr rfl
        |zero=>cases m with
         |succ m=>exact .inr rfl
         |zero=>exact .inl rfl
      simp only[cA]at hb;rcases hs with hs|hs<;>rw[hs]at hb<;>cases hb
     |_=>simp only[cA,qN]at hb;cases hb
    cases hq:cA v<;>rw[hq]at hr hp<;>(try exact absurd rfl hr);rename_i b;cases b with
    |true=>exact wp_cond (hav true hq) (ih x hx e h a w kn kx kr Q H hr hp)
    |false=>exact wp_cond (hav false hq) (ih y hy e h a w kn kx kr Q H hr hp)
   rename_i t;simp only[ev]at hr hp;cases ht:decide (t<1000)with
   |false=>rw[ht]at hr;exact absurd rfl hr
   | true=>
    rw[ht]at hr hp;simp only[CH]at hr hp;have htl:t<1000:=by simpa using ht
    have hav:∀b,e.av t= .bool b->a.eval (.tmp t)= .bool b:=by
     intro b hb;obtain⟨S,β,γ,lam,ω,F⟩:=H;have hs:=F.slots t htl;simp only[Env.av,Ent.av]at hb;cases hv:(e.get t).v with
     |val av=>
      rw[hv]at hs hb;simp only at hb;subst hb;simp only[dn,VR]at hs;exact hs
     |loc B off=>rw[hv]at hb;cases hb
    cases hq:e.av t<;>rw[hq]at hr hp<;>(try exact absurd rfl hr);rename_i b;cases b with
    |true=>exact wp_cond (hav true hq) (ih x hx e h a w kn kx kr Q H hr hp)
    |false=>exact wp_cond (hav false hq) (ih y hy e h a w kn kx kr Q H hr hp)
  case block id code=>
   refine wp_block ?_;by_cases hc:∃b,code= .loop b
   ·obtain⟨b,rfl⟩:=hc;have hb:SizeOf.sizeOf b<n:=by simp at hn;omega
    simp only[ev]at hr hp;cases hja:jz cx.ann.loops id with
    |none=>rw[hja]at hr;exact absurd rfl hr
    | some ja=>
     rw[hja]at hr hp;simp only at hr hp;refine f5.loop ?_;obtain⟨vs,h3,hj,hs3⟩:=nA H hr;rw[hj]at hr hp;have key:∀(k:Nat)(vs:List AV)(h:Hp)(a1:Act)(w:World),f0 c cx.nt (unpack ja vs) h a1 w->a1.defers=a.defers->
       cb k (fun self vs=>ev cx (cb m) b (unpack ja vs) (lD ja self) (fun i e'=>bif Nat.beq i id then kn e' else kx i e') kr) vs h≠.fail->
       Posts c cx.nt (cb k (fun self vs=>ev cx (cb m) b (unpack ja vs) (lD ja self) (fun i e'=>bif Nat.beq i id then kn e' else kx i e') kr) vs h) a kn kx kr Q->f5 P b (Exit.inBlock id Q) a1 w:=by
      intro k
      induction k with
      |zero=>intro vs h a1 w _ _ hr _;exact absurd rfl hr
      | succ k ihk=>
       intro vs h a1 w hs hd hr hp;simp only[cb]at hr hp;refine Cy (ih b hb (unpack ja vs) h a1 w _ _ kr _ hs hr ⟨fun e' h' a' w' hok hs' hd'=>?_,fun i e' h' a' w' hok hs' hd'=>?_,fun e' h' a' w' hok hs' hd'=>hp.ret e' h' a' w' hok hs' (hd'.trans hd),fun pv h' v w' a' hok hs' hd'=>hp.pan pv h' v w' a' hok hs' (hd'.trans hd)⟩)
       ·rw[hok]at hr hp;obtain⟨vs',h4,hj',hs4⟩:=nA hs' hr;rw[hj']at hr hp;exact ihk vs' h4 a' w' hs4 (hd'.trans hd) hr hp
       ·cases hi:Nat.beq i id with
        |true=>
         rw[hi]at hok
         have:=CM hi
         subst this;show Exit.inBlock i Q (.exit i) a' w';simp only[Exit.inBlock,Du];exact hp.nrm e' h' a' w' hok hs' (hd'.trans hd)
        |false=>
         rw[hi]at hok;have hne:i≠id:=fun hh=>by subst hh;simp at hi
         show Exit.inBlock id Q (.exit i) a' w';simp only[Exit.inBlock,if_neg hne];exact hp.ext i e' h' a' w' hok hs' (hd'.trans hd)
     exact key m vs h3 a w hs3 rfl hr hp
   ·have hc':∀b,code≠.loop b:=fun b hb=>hc ⟨b,hb⟩;rw[tg hc']at hr hp;have hs:SizeOf.sizeOf code<n:=by simp at hn;omega
    refine ih code hs e h a w kn _ kr _ H hr ⟨fun e' h' a' w' hok hs' hd'=>hp.nrm e' h' a' w' hok hs' hd',fun i e' h' a' w' hok hs' hd'=>?_,fun e' h' a' w' hok hs' hd'=>hp.ret e' h' a' w' hok hs' hd',fun pv h' v w' a' hok hs' hd'=>hp.pan pv h' v w' a' hok hs' hd'⟩;cases hi:Nat.beq i id with
    |true=>
     rw[hi]at hok
     have:=CM hi
     subst this;show Exit.inBlock i Q (.exit i) a' w';simp only[Exit.inBlock,Du];exact hp.nrm e' h' a' w' hok hs' hd'
    |false=>
     rw[hi]at hok;have hne:i≠id:=fun hh=>by subst hh;simp at hi
     show Exit.inBlock id Q (.exit i) a' w';simp only[Exit.inBlock,if_neg hne];exact hp.ext i e' h' a' w' hok hs' hd'
end
end Go.Av
namespace Go.Av
variable [Dr]
omit [Dr]in
theorem km:∀(args:List AV)(i t:Nat),bd (nQ i args) t=if i<=t/\t<i+args.length then⟨.val (nth args (t-i)),none⟩else Ent.none
 |[],i,t=>by
  simp only[nQ,bd,Dk,DN];rw[if_neg (by omega)]
 | a:: as0,i,t=>by
  simp only[nQ,bp,Dj];by_cases h:i=t
  ·subst h;rw[CJ rfl,CJ (by omega)];simp[nth]
  ·rw[if_neg h,km as0 (i+1) t];by_cases h2:i+1<=t/\t<i+1+as0.length
   ·rw[CJ h2,CJ (by omega)];have:t-i=(t-(i+1))+1:=by omega
    simp[nth,this]
   ·rw[if_neg h2,if_neg (by omega)]
section
variable {P:Program} {cx:Cx}
open Classical in
theorem qw{w:World}{S:ar}{β:List ba}{h:Hp}{args:List AV}{vs:List Value}{n:Nat}(hg:nF S β h w)(hw:Wf S w)(hh:cg S β w h)(hv:aJ S β args vs)(hn:args.length<=n)(hn2:n<=1000):
  ∃γ lam ω,FR { w,S,β,E:=bC β h,gok:=hg } n (fun g=>g<(jW args).nx*1000) (jW args) h { tmps:=vs.toArray++Array.replicate (n-vs.toArray.size) undef,defers:=[] } w S β γ lam ω:=by
 obtain⟨hlen,ω0,hr⟩:=hh;have hvl:=hv.length;have hget:∀t,(jW args).get t=if t<args.length then⟨.val (nth args t),none⟩else Ent.none:=fun t=>by
  have:=km args 0 t
  simp only[C9,true_and,C2,E5]at this;exact this
 let ω:Nat->Owner:=fun b=>if bC β h b then ω0 b else .no;refine⟨fun _=>undef,fun _=>none,ω,⟨hw,Gro.refl _,fun b _ _=>⟨rfl,fun _=>rfl⟩,ar.le_refl S,dy.refl β,hlen,fun l cs hl hcs=>?_,⟨?_,hn2⟩,fun t ht=>?_,fun t g z ht hg=>?_,fun B m hB=>?_,fun g z hz=>?_,fun b hb=>?_,fun t g hg=>?_,fun g z hz=>?_⟩⟩
 ·have hown:∀b n,β[l]? = some (b,n)->ω0 b= .heap l->ω b= .heap l:=fun b n h1 h3=>by
   show (if bC β h b then ω0 b else .no)=_;rw[CJ ⟨l,cs,_,hl,hcs,h1⟩];exact h3
  rcases hr l cs hl hcs with⟨b,x,h1,h2,h3,h4⟩|⟨b,h1,h3,h4⟩
  ·exact .inl ⟨b,x,h1,h2,hown b _ h1 h3,h4⟩
  ·exact .inr ⟨b,h1,hown b _ h1 h3,h4⟩
 ·simp;omega
 ·rw[hget];split
  ·rename_i hlt;have hx:args[t]? = some (nth args t):=by simp[nth,hlt]
   obtain⟨v,h1,h2⟩:=hv.get hx;have:(vs.toArray++Array.replicate (n-vs.toArray.size) undef).getD t undef=v:=by
    rw[C5,EU (by simp;omega)];simp[h1]
   rw[this];exact h2
  ·simp[Ent.none,dn,VR]
 ·rw[hget]at hg;split at hg<;>cases hg
 ·cases hB
 ·cases hz
 ·have hb':bC β h b:=by
   by_cases ho:bC β h b
   ·exact ho
   ·exact absurd (show ω b= .no from if_neg ho) hb
  obtain⟨l,cs,m,h1,h2,h3⟩:=hb';obtain⟨b',x,k1,k2,k3,_⟩:=hr.own h1 h2;rw[h3]at k1;cases k1;have hω:ω b= .heap l:=by
   show (if bC β h b then ω0 b else .no)=_;rw[CJ ⟨l,cs,_,h1,h2,h3⟩];exact k3
  exact⟨.inl ⟨⟨l,cs,_,h1,h2,h3⟩,fun g=>by rw[hω];simp⟩,k2⟩
 ·rw[hget]at hg;split at hg<;>cases hg
 ·cases hz
theorem start{w:World}{S:ar}{β:List ba}{h:Hp}{args:List AV}{vs:List Value}{n:Nat}(hg:nF S β h w)(hw:Wf S w)(hh:cg S β w h)(hv:aJ S β args vs)(hn:args.length<=n)(hn2:n<=1000):
  f0 { w,S,β,E:=bC β h,gok:=hg } n (jW args) h { tmps:=vs.toArray++Array.replicate (n-vs.toArray.size) undef,defers:=[] } w:=⟨S,β,qw hg hw hh hv hn hn2⟩
def eI(tmps:Array Value):ResultVar->Sem Value
 |.tmp t=>pure (tmps.getD t undef)
 |.cell p t=>do loadVar t (<- asAddr (tmps.getD p undef))
omit [Dr]in
theorem lr(fn:Func)(tmps:Array Value):results fn tmps=(do let vs <- fn.results.mapM (eI tmps);pure (if h:vs.size=1 then vs[0]else .tuple vs)):=by
 unfold results;congr 1
theorem yl{c:Entry}{N:Nat}{U:Nat->Prop}{e:Env}{h:Hp}{a:Act}{w:World}{S:ar}{β:List ba}{γ:Nat->Value}{lam:Nat->Option Nat}{ω:Nat->Owner}(hT:TOK P cx.T)(F:FR c N U e h a w S β γ lam ω){r:ResultVar}{v:AV}(hr:oX cx.T e r=some v):∃u,(eI a.tmps r).run P w= .ok u w/\VR S β v u:=by
 cases r with
 | tmp t=>
  simp only[oX]at hr;cases ht:decide (t<1000)with
  |false=>rw[ht]at hr;cases hr
  | true=>
   rw[ht]at hr;simp only[CH]at hr;have hs:=F.slots t (by simpa using ht);cases hv:(e.get t).v with
   |loc B off=>rw[hv]at hr;cases hr
   |val av=>
    rw[hv]at hr hs;simp only[CG]at hr;subst hr;exact⟨_,by simp only[eI,Sem.run_pure],hs⟩
 | cell p t=>
  simp only[oX]at hr;cases hp:decide (p<1000)with
  |false=>rw[hp]at hr;cases hr
  | true=>
   rw[hp]at hr;simp only[CH]at hr;have hs:=F.slots p (by simpa using hp);cases hv:(e.get p).v with
   | loc B off=>
    rw[hv]at hr hs;cases ht:cx.T t with
    |none=>rw[ht]at hr;cases hr
    | some ti=>
     rw[ht]at hr;simp only at hr;cases hin:gI e B off ti.size with
     |false=>rw[hin]at hr;cases hr
     | true=>
      rw[hin]at hr;simp only[CH]at hr;simp only[dn]at hs;obtain⟨b,hlam,hpv⟩:=hs;obtain⟨b',x,m,hm,hle,hlam',hrow,hms,hcells⟩:=F.locals hin;rw[hlam]at hlam';cases hlam';let f:Nat->Value:=fun i=>(x[off+i]?).getD undef;have hf:∀i,i<ti.size->x[off+i]? = some (f i):=fun i hi=>by
       obtain⟨v,_,hv',_⟩:=hcells i hi;show _=some ((x[off+i]?).getD undef);rw[hv'];rfl
      have hload:=jJ hT ht hrow f hf;have hexec:∀v,(loadVar t ⟨b,off,none⟩).run P w= .ok v w->(eI a.tmps (.cell p t)).run P w= .ok v w:=fun v hv'=>by
       simp only[eI];rw[hpv];simpa [asAddr]using hv'
      cases hag:ti.agg with
      |true=>
       rw[hag]at hr;simp only[CH,CG]at hr;subst hr;refine⟨_,hexec _ (hload.1 hag),?_⟩;simp only[VR];refine⟨_,rfl,kF ti.size fun i hi=>?_⟩;obtain⟨v,a',g1,g2,g3,_⟩:=hcells i hi;have:f i=v:=by show (x[off+i]?).getD undef=v;rw[g1];rfl
       rw[this];simp only[Env.av,Ent.av,g2];exact g3
      | false=>
       rw[hag]at hr;simp only[CK]at hr;cases hone:decide (ti.size=1)with
       |false=>rw[hone]at hr;cases hr
       |true=>
        rw[hone]at hr;simp only[CH,CG]at hr;subst hr;have hone':ti.size=1:=by simpa using hone
        obtain⟨v,a',g1,g2,g3,g4⟩:=hcells 0 (by omega);simp only[DN]at g1 g2 g4;have hfv:f 0=v:=by show (x[off+0]?).getD undef=v;rw[DN,g1];rfl
        refine⟨v,hexec _ (hfv▸hload.2 hag hone'),?_⟩;simp only[Env.av,Ent.av,g2];exact g3
   | val av=>
    rw[hv]at hr hs;cases ht:cx.T t with
    |none=>rw[ht]at hr;cases hr
    |some ti=>
     rw[ht]at hr;simp only at hr;obtain⟨v,h1,h2⟩:=q5 hT F.wf hr hs;refine⟨v,?_,h2⟩;unfold ah at hr;rw[ht]at hr;cases av<;>simp only[reduceCtorEq]at hr;simp only[dn,VR]at hs;obtain⟨b,off,vs,hpv,_,_⟩:=hs;simp only[eI];rw[hpv]at h1 |-;simpa [Instr.loadAt,Instr.sureAddr,asAddr]using h1
theorem qq{c:Entry}{N:Nat}{U:Nat->Prop}{e:Env}{h:Hp}{a:Act}{w:World}{S:ar}{β:List ba}{γ:Nat->Value}{lam:Nat->Option Nat}{ω:Nat->Owner}(hT:TOK P cx.T)(F:FR c N U e h a w S β γ lam ω){fn:Func}{vs:List AV}(hr:dT cx.T e fn.results.toList=some vs):∃u,(results fn a.tmps).run P w= .ok u w/\VR S β (gO vs) u:=by
 have key:∀(l:List ResultVar)(vs:List AV),dT cx.T e l=some vs->∃us:List Value,(l.mapM (eI a.tmps)).run P w= .ok us w/\aJ S β vs us:=by
  intro l
  induction l with
  |nil=>intro vs h;simp only[dT,CG]at h;subst h;exact⟨[],by simp,by simp[aJ]⟩
  | cons r rs ih=>
   intro vs h;simp only[dT]at h;cases h1:oX cx.T e r with
   |none=>rw[h1]at h;cases h
   | some v=>
    cases h2:dT cx.T e rs with
    |none=>rw[h1,h2]at h;cases h
    |some vs'=>
     rw[h1,h2]at h;simp only[CG]at h;subst h;obtain⟨u,k1,k2⟩:=yl hT F h1;obtain⟨us,m1,m2⟩:=ih vs' h2;refine⟨u:: us,?_,by simp only[aJ];exact⟨u,us,rfl,k2,m2⟩⟩;rw[List.mapM_cons,Sem.run_bind,k1,Result.andThen_ok,Sem.run_bind,m1,Result.andThen_ok,Sem.run_pure]
 obtain⟨us,k1,k2⟩:=key _ _ hr;have hlen:=k2.length;have hrun:(fn.results.mapM (eI a.tmps)).run P w= .ok us.toArray w:=by
  rw[EY];rw[map_eq_pure_bind,Sem.run_bind,k1,Result.andThen_ok,Sem.run_pure]
 refine⟨if h:us.toArray.size=1 then us.toArray[0]else .tuple us.toArray,?_,?_⟩
 ·rw[lr,Sem.run_bind,hrun,Result.andThen_ok,Sem.run_pure]
 ·unfold gO;split
  ·rename_i v;cases us with
   |nil=>simp at hlen
   |cons u us=>
    cases us with
    |nil=>simp only[aJ]at k2;obtain⟨x,xs,hx,hy,_⟩:=k2;simp at hx;simp[hx.1,hy]
    |cons u2 us=>simp at hlen
  ·rename_i hne;rw[dif_neg]
   ·simp only[VR];exact⟨us,rfl,k2⟩
   ·intro h1;have:vs.length=1:=by rw[<- hlen];simpa using h1
    match vs,this with
    |[v],_=>exact hne v rfl
end
end Go.Av
namespace Go.Av
variable [Dr]
omit [Dr]in
theorem oK{n:Nat}{ks:List (Nat×Kind)}(h:iv n ks=true):∀p,sb (br ks p .L)=true->p<n:=by
 intro p hp
 induction ks with
 |nil=>simp[br,sb]at hp
 | cons x ks ih=>
  obtain⟨k,y⟩:=x;unfold iv at h;simp only[DZ,CI]at h;simp only[br]at hp;cases hk:Nat.beq k p with
  |true=>
   rw[hk]at hp;simp only[CH]at hp
   have:=h.1
   rw[hp]at this;have hk':=CM hk;subst hk';simpa using this
  |false=>
   rw[hk]at hp;exact ih h.2 hp
section
variable {P:Program} {cx:Cx}
theorem yh{c:Entry}{N:Nat}{U:Nat->Prop}{e:Env}{h:Hp}{a:Act}{w:World}{S:ar}{β:List ba}{γ:Nat->Value}{lam:Nat->Option Nat}{ω:Nat->Owner}(F:FR c N U e h a w S β γ lam ω){fn:Func}{sz:Nat}(ho:nh fn e sz=true){u:Value}(hu:(results fn a.tmps).run P w= .ok u w):mL c.w.heap.size S β w h sz u:=by
 unfold nh at ho;split at ho
 ·rename_i t hres;cases ht:decide (t<1000)with
  |false=>rw[ht]at ho;cases ho
  | true=>
   rw[ht]at ho;simp only[D4]at ho;split at ho
   ·rename_i g hg;split at ho
    ·rename_i z hz;have hgr:=F.grps t g z (by simpa using ht) hg hz;obtain⟨ad,len,cap,h1,h2,h3,h4⟩:=F.free g z hz;have hue:u=a.tmps.getD t undef:=by
      have hr:fn.results= #[.tmp t]:=by apply Eg;simpa using hres
      rw[lr,hr]at hu;simp[eI]at hu;simpa using hu.symm
     rw[hue,hgr];refine⟨ad,len,cap,h1,h2,h3,h4.imp id ?_⟩;rintro⟨sz',b,off,x,k1,k2,k3,k4,k5,k6⟩;have hsz:sz'=sz:=by
      rw[k1]at ho;simp only[nz]at ho;exact CM ho
     subst hsz;refine⟨b,off,x,k2,k3,k4,(F.mine b (by rw[k5];simp)).1.grp k5,fun hb=>?_,k6⟩;obtain⟨l,_,hl,_⟩:=F.hown hb;rw[k5]at hl;cases hl
    ·cases ho
   ·cases ho
 ·cases ho
omit [Dr]in
theorem ud{fn:Func}{own:Option Nat}{e:Env}{h:Hp}(hr:fC cx fn own e h≠.fail):∃rs,dT cx.T e fn.results.toList=some rs/\(fC cx fn own e h= .ok (gO rs) h\/(own=none/\fC cx fn own e h= .ok (hM 6 h (gO rs)) (h.map fun _=>[])))/\∀sz,own=some sz->nh fn e sz=true:=by
 have key:∀b z:Bool,(bif b then ae (af ((dT cx.T e fn.results.toList).map gO)) (bif z then(bif own.isSome then fun _=>M.fail else qV)else M.pure)else M.fail:M AV) h≠.fail->b=true/\∃rs,dT cx.T e fn.results.toList=some rs/\
   ((bif b then ae (af ((dT cx.T e fn.results.toList).map gO)) (bif z then(bif own.isSome then fun _=>M.fail else qV)else M.pure)else M.fail:M AV) h= .ok (gO rs) h\/
    (own=none/\(bif b then ae (af ((dT cx.T e fn.results.toList).map gO)) (bif z then(bif own.isSome then fun _=>M.fail else qV)else M.pure)else M.fail:M AV) h= .ok (hM 6 h (gO rs)) (h.map fun _=>[]))):=by
  intro b z hr;cases b with
  |false=>exact absurd rfl hr
  | true=>
   refine⟨rfl,?_⟩;cases hres:dT cx.T e fn.results.toList with
   |none=>rw[hres]at hr;exact absurd rfl hr
   | some rs=>
    rw[hres]at hr;cases z with
    |false=>exact⟨rs,rfl,.inl rfl⟩
    |true=>
     cases own with
     |none=>exact⟨rs,rfl,.inr ⟨rfl,rfl⟩⟩
     |some sz=>exact absurd rfl hr
 unfold fC at hr |-;cases own with
 |none=>
  obtain⟨_,rs,h1,h2⟩:=key true _ hr;exact⟨rs,h1,h2,fun sz hsz=>by cases hsz⟩
 |some sz=>
  obtain⟨h0,rs,h1,h2⟩:=key _ _ hr;exact⟨rs,h1,h2,fun sz' hsz=>by cases hsz;exact h0⟩
theorem eN(hT:TOK P cx.T)(hC:bM P cx.own cx.call)(hI:IsoCall cx)(m:Nat){f:FuncId}{fn:Func}(hf:P.funcs[f]? = some fn)(hnt:cx.nt=fn.ntmps){own:Option Nat}{args:List AV}{h:Hp}{S:ar}{β:List ba}{w:World}{vs:List Value}(hr:b9 cx (cb m) fn own args h≠.fail)(hg:nF S β h w)(hw:Wf S w)(hh:cg S β w h)(hv:aJ S β args vs):Calls P f vs.toArray w (db own S β h w (b9 cx (cb m) fn own args h))/\fn.body.isSome=true:=by
 unfold b9 at hr |-;cases hb:fn.body with
 |none=>rw[hb]at hr;exact absurd rfl hr
 | some code=>
  rw[hb]at hr;simp only at hr |-;refine⟨?_,rfl⟩;cases hc:(decide (args.length<=fn.ntmps)&&decide (fn.ntmps<=1000)&&iv cx.nt cx.ann.kinds)with
  |false=>rw[hc]at hr;exact absurd rfl hr
  | true=>
   rw[hc]at hr;simp only[CH]at hr |-;simp only[CI,CO]at hc;obtain⟨⟨hc1,hc2⟩,hc3⟩:=hc;have H:f0 { w,S,β,E:=bC β h,gok:=hg } cx.nt (jW args) h { tmps:=vs.toArray++Array.replicate (fn.ntmps-vs.toArray.size) undef,defers:=[] } w:=by
    rw[hnt];exact start hg hw hh hv hc1 hc2
   have hret:∀(e':Env)(h':Hp)(a':Act)(w':World),ev cx (cb m) code (jW args) (fC cx fn own) (fun _ _=>M.fail) (fC cx fn own) h=fC cx fn own e' h'->
     f0 { w,S,β,E:=bC β h,gok:=hg } cx.nt e' h' a' w'->∃v,(results fn a'.tmps).run P w'= .ok v w'/\db own S β h w (ev cx (cb m) code (jW args) (fC cx fn own) (fun _ _=>M.fail) (fC cx fn own) h) (.returned v) w':=by
    intro e' h' a' w' hok hs;rw[hok]at hr |-;obtain⟨rs,hres,hret,hown⟩:=ud hr;obtain⟨S',β',γ,lam,ω,F⟩:=hs;obtain⟨u,hu1,hu2⟩:=qq (P:=P) hT F hres;rcases hret with hret|⟨rfl,hret⟩
    ·rw[hret];exact⟨u,hu1,S',β',u,rfl,hu2,F.out,fun sz hsz=>yh F (hown sz hsz) hu1⟩
    ·rw[hret];obtain⟨S2,ω2,F2,hf⟩:=F.freeze;exact⟨u,hu1,S2,β',u,rfl,hf _ _ hu2,F2.out,fun sz hsz=>by cases hsz⟩
   refine calls_of_wp hf hb (tj hT hC hI (oK hc3) m _ code (E3 _) (jW args) h _ w _ _ _ _ H hr ⟨fun e' h' a' w' hok hs hd=>?_,fun i e' h' a' w' hok hs hd=>?_,fun e' h' a' w' hok hs hd=>?_,fun pv h' v w' a' hok hs hd=>?_⟩)
   ·exact⟨hd,hret e' h' a' w' hok hs⟩
   ·rw[hok]at hr;exact absurd rfl hr
   ·exact⟨hd,hret e' h' a' w' hok hs⟩
   ·refine⟨hd,?_⟩;rw[hok];obtain⟨S',β',hout,hvr⟩:=hs;exact⟨S',β',v,rfl,hvr,hout⟩
end
open Classical in
theorem qX{S:ar}{β:List ba}{w w':World}{h:Hp}(_hw:Wf S w)(hh:cg S β w h){β0:List ba}{h0:Hp}(hE:∀b,¬bC β0 h0 b){S':ar}{β':List ba}{h':Hp}(L:Left (bC β0 h0) S β0 w S' β' w' h'):∃S2,Left (bC β h) S β w S2 β w' h/\(∀a v,VR S' β' a v->VR S2 β (hM 6 h' a) v)/\∀sz v,mL w.heap.size S' β' w' h' sz v->mL w.heap.size S2 β w' h sz v:=by
 obtain⟨hlen,ω,hH⟩:=L.heap;have hnew:∀b,bC β' h' b->w.heap.size<=b:=fun b hb=>(L.owned b hb).resolve_left (hE b);let S2:ar:=fun b o=>if bC β' h' b then w'.cell? ⟨b,o,none⟩else S' b o;have hS2n:∀b,¬bC β' h' b->∀o,S2 b o=S' b o:=fun b hb o=>if_neg hb;have hS2y:∀b,bC β' h' b->∀o,S2 b o=w'.cell? ⟨b,o,none⟩:=fun b hb o=>CJ hb;have hle:S'.le S2:=by
  intro b o v hv;by_cases hb:bC β' h' b
  ·obtain⟨l,cs,n,h1,h2,h3⟩:=hb;obtain⟨b',x,k1,k2,k3,k5⟩:=hH.own h1 h2;rw[h3]at k1;cases k1;rw[k5]at hv;cases hv
  ·rw[hS2n b hb];exact hv
 have hrow:∀b,b<w.heap.size->w'.heap[b]? = w.heap[b]? /\∀o,S2 b o=S b o:=by
  intro b hb;have hk:=L.keep b hb (hE b);refine⟨hk.1,fun o=>?_⟩;rw[hS2n b (fun ho=>by have:=hnew b ho;omega)];exact hk.2 o
 have hwf:Wf S2 w':=by
  intro b o v hv;by_cases hb:bC β' h' b
  ·rw[hS2y b hb]at hv;exact hv
  ·rw[hS2n b hb]at hv;exact L.wf b o v hv
 obtain⟨hlen0,ω0,hH0⟩:=hh;have hlt0:∀b,bC β h b->b<w.heap.size:=by
  rintro b ⟨l,cs,n,h1,h2,h3⟩;obtain⟨b',x,k1,k2,_⟩:=hH0.own h1 h2;rw[h3]at k1;cases k1;exact k2
 have hle0:S.le S2:=ar.le_trans L.le hle;refine⟨S2,⟨hle0,dy.refl β,hwf,L.gro,fun b hb _=>hrow b hb,⟨hlen0,ω0,hH0.rows hle0 (dy.refl β) hlen0 fun l cs hl _=>.inl ⟨hl,fun b hb ho=>⟨ho,(hrow b hb).1,fun o h=>by rw[(hrow b hb).2];exact h⟩⟩⟩,fun b hb=>.inl hb⟩,fun a v hv=>m0 hH hle (fun b o x hb hr=>?_) 6 a v hv,fun sz v=>?_⟩
 ·rw[hS2y b hb,hr.cell]
 ·rintro⟨ad,len,cap,k1,k2,k3,k4⟩;refine⟨ad,len,cap,k1,k2,k3,k4.imp id ?_⟩;rintro⟨b,off,x,p1,p2,p3,p4,p5,p6⟩;refine⟨b,off,x,p1,p2,p3,p4,fun hb=>?_,fun o ho=>by rw[hS2n b p5];exact p6 o ho⟩
  have:=hlt0 b hb
  omega
theorem tE{S:ar}{β:List ba}{w w':World}{h:Hp}{own:Option Nat}{m:List AV->M AV}{args:List AV}{en:Ending}(hw:Wf S w)(hh:cg S β w h)(hp:db own S [] [] w (m (da aC args) []) en w'):db own S β h w (kL m args h) en w':=by
 have key:=fun{S':ar} {β':List ba} {h':Hp} (L:Left (bC [] []) S [] w S' β' w' h')=>qX hw hh (by rintro b ⟨l,cs,n,h1,_⟩;simp at h1) L;unfold kL;cases hm:m (da aC args) []with
 |fail=>rw[hm]at hp;exact hp.elim
 |ok r h'=>
  rw[hm]at hp;obtain⟨S',β',v,h1,h2,h3,h4⟩:=hp;obtain⟨S2,k1,k2,k3⟩:=key h3;exact⟨S2,β,v,h1,k2 r v h2,k1,fun sz hsz=>k3 sz v (h4 sz hsz)⟩
 |pan r h'=>
  rw[hm]at hp;obtain⟨S',β',v,h1,h2,h3⟩:=hp;obtain⟨S2,k1,k2,k3⟩:=key h3;exact⟨S2,β,v,h1,k2 r v h2,k1⟩
structure GoodPg (P:Program) (p:Pg):Prop where
 tok:TOK P p.T
 funcs:∀f fn a,p.funcs f=some (fn,a)->P.funcs[f]? = some fn/\(fn.name== "runtime.NumGoroutine")=false
 other:∀f E,p.other f=some E->∀call,bM P p.own call->∀(args:List AV)(h:Hp)(S:ar)(β:List ba)(w:World)(vs:List Value),E call args h≠.fail->nF S β h w->Wf S w->cg S β w h->aJ S β args vs->
  Calls P f vs.toArray w (db (p.own f) S β h w (E call args h))/\(P.funcs[f]?).any (fun fn=>fn.body.isSome&&!(fn.name== "runtime.NumGoroutine"))=true
 nw:∀f,p.nw f=true->∃E,p.other f=some E/\∀call args,qF (E call args)
omit [Dr]in
theorem cg.nil{S:ar}{w:World}:cg S [] w []:=⟨rfl,fun _=>.no,fun l cs hl=>by simp at hl⟩
theorem oi{P:Program}{p:Pg}(G:GoodPg P p)(m:Nat){call:FuncId->List AV->M AV}(hC:bM P p.own call)(hI:∀n a,IsoCall (p.cx call n a)):bM P p.own (fc p call (cb m)):=by
 intro f args h S β w vs hr hg hw hh hv;unfold fc at hr |-;cases ho:p.other f with
 |some E=>rw[ho]at hr;exact G.other f E ho call hC args h S β w vs hr hg hw hh hv
 | none=>
  rw[ho]at hr;simp only at hr |-;cases hf:p.funcs f with
  |none=>rw[hf]at hr;exact absurd rfl hr
  | some x=>
   obtain⟨fn,a⟩:=x;rw[hf]at hr;simp only at hr |-;obtain⟨hf1,hf2⟩:=G.funcs f fn a hf
   have hany:fn.body.isSome=true->(P.funcs[f]?).any (fun fn=>fn.body.isSome&&!(fn.name== "runtime.NumGoroutine"))=true:=by
    intro hb;rw[hf1];simp only[Option.any_some,hb,hf2,Ey,Bool.and_self]
   cases hi:a.iso with
   |false=>
    rw[hi]at hr;simp only[CK]at hr |-;obtain⟨h1,h2⟩:=eN (cx:=p.cx call fn.ntmps a) G.tok hC (hI _ _) m hf1 rfl hr hg hw hh hv;exact⟨h1,hany h2⟩
   | true=>
    rw[hi]at hr;simp only[CH]at hr |-;have hr':b9 (p.cx call fn.ntmps a) (cb m) fn (p.own f) (da aC args) []≠.fail:=by
     intro hf;unfold kL at hr;rw[hf]at hr;exact hr rfl
    obtain⟨h1,h2⟩:=eN (cx:=p.cx call fn.ntmps a) G.tok hC (hI _ _) m hf1 rfl hr' ⟨hg.1,fun b _ hb=>by obtain⟨l,_,_,h1,_⟩:=hb;simp at h1,hg.2.2⟩ hw cg.nil (s4 hv);exact⟨h1.mono fun en w' hp=>tE hw hh hp,hany h2⟩
omit [Dr]in
theorem pU(p:Pg)(hN:∀f,p.nw f=true->∃E,p.other f=some E/\∀call args,qF (E call args)):∀n k a,IsoCall (p.cx (ca p n) k a)
 |0,k,a=>⟨fun f args _=>⟨none,fun _=>rfl⟩,fun f args _ h v h' hh=>by cases hh⟩
 | n+1,k,a=>by
  refine⟨?_,fun f args hf=>?_⟩
  case refine_2=>
   obtain⟨E,hE,hn⟩:=hN f hf;have:(p.cx (ca p (n+1)) k a).call f args=E (ca p n) args:=by
    show fc p (ca p n) (cb n) f args=_;unfold fc;rw[hE]
   rw[this];exact hn _ _
  intro f args hi;have hi':p.iso f=true:=hi;unfold Pg.iso at hi';cases ho:p.other f with
  |some E=>rw[ho]at hi';cases hi'
  | none=>
   rw[ho]at hi';simp only at hi';cases hf:p.funcs f with
   |none=>rw[hf]at hi';cases hi'
   |some x=>
    obtain⟨fn,b⟩:=x;rw[hf]at hi';simp only at hi';refine⟨match b9 (p.cx (ca p n) fn.ntmps b) (cb n) fn (p.own f) (da aC args) []with|.ok r h'=>some (true,hM 6 h' r)|.pan v h'=>some (false,hM 6 h' v)|.fail=>none,fun h=>?_⟩;show fc p (ca p n) (cb n) f args h=_;unfold fc;rw[ho];simp only;rw[hf];simp only[hi',CH,kL];cases b9 (p.cx (ca p n) fn.ntmps b) (cb n) fn (p.own f) (da aC args) []<;>rfl
theorem ic{P:Program}{p:Pg}(G:GoodPg P p):∀n,bM P p.own (ca p n)
 |0=>fun _f _args _h _S _β _w _vs hr=>absurd rfl hr
 |n+1=>oi G n (ic G n) fun k a=>pU p G.nw n k a
end Go.Av
namespace Go.Av
def tC{m:List AV->M AV}{ms:Nat->List AV->M AV}(h:bb m ms)(args:List AV):aR (kL m args) fun n=>kL (ms n) args:=by
 intro x;obtain⟨h1,h2⟩:=h (da aC args) []
 (try dsimp only at h1 h2)
 refine⟨fun hne=>?_,fun n hne=>?_⟩
 ·have hne':m (da aC args) []≠.fail:=fun hf=>hne (by simp only[kL,hf]);obtain⟨N,hN⟩:=h1 hne';refine⟨N,fun n hn=>?_⟩
  (try dsimp only)
  simp only[kL,hN n hn]
 ·(try dsimp only at hne |-)
  have hne':ms n (da aC args) []≠.fail:=fun hf=>hne (by simp only[kL,hf]);simp only[kL,h2 n hne']
def cJ(p:Pg):Prop:=∀f E,p.other f=some E->∀(call:FuncId->List AV->M AV)(calls:Nat->FuncId->List AV->M AV),(∀f,bb (call f) fun n=>calls n f)->bb (E call) fun n=>E (calls n)
section
variable {cx:Cx} {call:FuncId->List AV->M AV} {calls:Nat->FuncId->List AV->M AV} {fx:cI AV} {fxs:Nat->cI AV}
theorem pT(hc:∀f,bb (call f) fun n=>calls n f)(hfx:iT fx fxs)(hfc:nG fx)(hfcs:∀n,nG (fxs n))(fn:Func)(own:Option Nat):
  bb (b9 (cx.wc call) fx fn own) fun n=>b9 (cx.wc (calls n)) (fxs n) fn own:=by
 intro args;unfold b9;cases fn.body with
 |none=>exact aR.const _
 | some c=>
  have key:∀b:Bool,aR (bif b then ev (cx.wc call) fx c (jW args) (fC (cx.wc call) fn own) (fun _ _=>M.fail) (fC (cx.wc call) fn own)else M.fail) fun n=>(bif b then ev (cx.wc (calls n)) (fxs n) c (jW args) (fC (cx.wc (calls n)) fn own) (fun _ _=>M.fail) (fC (cx.wc (calls n)) fn own)else M.fail):=by
   intro b;cases b with
   |false=>exact aR.const _
   |true=>
    have hr:bb (fC (cx.wc call) fn own) fun n=>fC (cx.wc (calls n)) fn own:=bb.const (fC cx fn own);exact xO _ c (E3 _) call calls fx fxs hc hfx hfc hfcs (jW args) _ (fun n=>fC (cx.wc (calls n)) fn own) _ (fun _ _ _=>M.fail) _ (fun n=>fC (cx.wc (calls n)) fn own) hr (fun i=>bb.const _) hr
  exact key (decide (args.length<=fn.ntmps)&&decide (fn.ntmps<=1000)&&iv cx.nt cx.ann.kinds)
theorem mc{p:Pg}(hO:cJ p)(hc:∀f,bb (call f) fun n=>calls n f)(hfx:iT fx fxs)(hfc:nG fx)(hfcs:∀n,nG (fxs n))(f:FuncId):bb (fc p call fx f) fun n=>fc p (calls n) (fxs n) f:=by
 intro args;unfold fc;cases ho:p.other f with
 |some E=>exact hO f E ho call calls hc args
 | none=>
  simp only;cases p.funcs f with
  |none=>exact aR.const _
  |some x=>
   obtain⟨fn,a⟩:=x;simp only;have hb:=pT (cx:=p.cx call fn.ntmps a) hc hfx hfc hfcs fn (p.own f);cases a.iso with
   |true=>exact tC hb args
   |false=>exact hb args
end
theorem jx{p:Pg}(hO:cJ p):∀n f args,qE (ca p n f args) (ca p (n+1) f args)
 |0,f,args=>fun x hne=>absurd rfl hne
 | n+1,f,args=>by
  have hc:∀f,bb (ca p (n+1) f) fun m=>(if m=0 then ca p n else ca p (n+1)) f:=by
   intro f args x;refine⟨fun _=>⟨1,fun m hm=>?_⟩,fun m hne=>?_⟩
   ·(try dsimp only)
    rw[if_neg (by omega)]
   ·(try dsimp only at hne |-)
    by_cases h0:m=0
    ·rw[CJ h0]at hne |-;exact jx hO n f args x hne
    ·rw[if_neg h0]
  have h:=mc hO hc (ot n) (mZ (n+1)) (fun m=>by
   by_cases h0:m=0
   ·rw[CJ h0];exact mZ n
   ·rw[if_neg h0];exact mZ (n+1)) f args
  intro x hne
  have:=(h x).2 0
  (try dsimp only at this)
  rw[CJ rfl,CJ rfl]at this;exact this hne
def mX{p:Pg}(hO:cJ p){n m:Nat}(h:n<=m)(f:FuncId)(args:List AV):qE (ca p n f args) (ca p m f args):=by
 induction m with
 | zero => have:n=0:=by omega
           subst this;exact .refl _
 |succ m ih=>
  by_cases hn:n=m+1
  ·subst hn;exact .refl _
  ·exact (ih (by omega)).trans (jx hO m f args)
open Classical in
noncomputable def aj(p:Pg)(f:FuncId)(args:List AV):M AV:=fun h=>if hx:∃n,ca p n f args h≠.fail then ca p (Classical.choose hx) f args h else .fail
def gy{p:Pg}(hO:cJ p)(f:FuncId):bb (aj p f) fun n=>ca p n f:=by
 intro args h;refine l9 (fun n m hnm hne=>mX hO hnm f args h hne) ?_;unfold aj;by_cases hx:∃n,ca p n f args h≠.fail
 ·left;simp only[dif_pos hx];exact⟨_,EF hx,rfl⟩
 ·right;simp only[dif_neg hx];exact⟨fun n=>EW fun h=>hx ⟨n,h⟩,trivial⟩
def ke.uniq{α:Type}{a a':R α}{b:Nat->R α}(h:ke a b)(g:ke a' fun n=>b (n+1)):a=a':=by
 by_cases ha:a= .fail
 ·by_cases ha':a'= .fail
  ·rw[ha,ha']
  ·obtain⟨N,hN⟩:=g.1 ha';have h1:=hN N (CN _)
   (try dsimp only at h1)
   exact (h.2 (N+1) (by rw[h1];exact ha')).symm.trans h1
 ·obtain⟨N,hN⟩:=h.1 ha;have h1:=hN (N+1) (by omega);have h2:=g.2 N
  (try dsimp only at h2)
  exact h1.symm.trans (h2 (by rw[h1];exact ha))
def ko{p:Pg}(hO:cJ p)(f:FuncId)(args:List AV):aj p f args=fc p (aj p) ai f args:=by
 funext h;have h1:=gy hO f args h;have h2:=mc hO (fun f=>gy hO f) oq tr (fun n=>mZ n) f args h;exact h1.uniq h2
def nV[Dr]{P:Program}{p:Pg}(G:GoodPg P p)(hO:cJ p):bM P p.own (aj p):=by
 intro f args h S β w vs hr hg hw hh hv;obtain⟨N,hN⟩:=(gy hO f args h).1 hr;have h1:=hN N (CN _)
 (try dsimp only at h1)
 rw[<- h1]at hr |-;exact ic G N f args h S β w vs hr hg hw hh hv
def sU{p:Pg}(hO:cJ p){n:Nat}{f:FuncId}{args:List AV}{h:Hp}{r:R AV}(hr:ca p n f args h=r)(hne:r≠.fail):aj p f args h=r:=by
 have:=(gy hO f args h).2 n (by(try dsimp only);rw[hr];exact hne)
 (try dsimp only at this)
 rw[<- this,hr]
end Go.Av
namespace Go.Av
section
variable {ρ:Type}
theorem bH{F:(List AV->M ρ)->List AV->M ρ}(hF:gK F)(vs:List AV):ai F vs=F (ai F) vs:=by
 funext h;exact (ee hF vs h).uniq (hF _ _ (ee hF) vs h)
theorem az{c:AV}{x y:M ρ}{xs ys:Nat->M ρ}(hx:aR x xs)(hy:aR y ys):aR (ax c x y) fun n=>ax c (xs n) (ys n):=by
 unfold ax;cases c with
 |bool b=>cases b<;>first|exact hx|exact hy
 |_=>exact aR.const _
theorem mg{F:(List AV->M ρ)->List AV->M ρ}{Fs:Nat->(List AV->M ρ)->List AV->M ρ}(h1:cv F Fs)(h2:gK F)(h3:∀n,gK (Fs n)):bb (ai F) fun n=>ai (Fs n):=tr F Fs h1 h2 h3
end
end Go.Av
namespace Go.Av
def aV(m:M AV):M AV:=fun h=>match m []with
 |.ok r h'=>.ok (hM 6 h' r) h
 |.pan v h'=>.pan (hM 6 h' v) h
 |.fail=>.fail
def aG{p:Pg}(hO:cJ p){f:FuncId}{fn:Func}{a:Ann}(h1:p.other f=none)(h2:p.funcs f=some (fn,a))(h3:a.iso=true)(args:List AV):
  aj p f args=aV (b9 (p.cx (aj p) fn.ntmps a) ai fn (p.own f) (da aC args)):=by
 rw[ko hO];unfold fc;rw[h1];simp only;rw[h2];simp only[h3,CH];rfl
def dM{p:Pg}(hO:cJ p){f:FuncId}{fn:Func}{a:Ann}(h1:p.other f=none)(h2:p.funcs f=some (fn,a))(h3:a.iso=false)(args:List AV):
  aj p f args=b9 (p.cx (aj p) fn.ntmps a) ai fn (p.own f) args:=by
 rw[ko hO];unfold fc;rw[h1];simp only;rw[h2];simp only[h3,CK]
def jw{p:Pg}(hO:cJ p){f:FuncId}{E:(FuncId->List AV->M AV)->List AV->M AV}(h1:p.other f=some E)(args:List AV):aj p f args=E (aj p) args:=by
 rw[ko hO];unfold fc;rw[h1]
def fI(T:TT)(t:TypeId):(FuncId->List AV->M AV)->List AV->M AV:=fun _ args=>match args with
 |[.sl es]=>af (dj T t (.sl []) (.sl es))
 |_=>M.fail
def pJ(T:TT)(t:TypeId)(call:FuncId->List AV->M AV)(calls:Nat->FuncId->List AV->M AV):bb (fI T t call) fun n=>fI T t (calls n):=bb.const _
def dQ{α:Type}{b:Bool}{x:α}{o:Option α}{y:α}(h:(bif b then some x else o)=some y):x=y\/o=some y:=by
 cases b with
 |true=>exact .inl (by simpa using h)
 |false=>exact .inr h
end Go.Av
namespace Go.Av
variable [Dr]
open Go.RowKit
section
variable {S:ar} {β:List ba} {h:Hp} {w w':World}
omit [Dr]in
theorem cg.below(hh:cg S β w h){S':ar}(hb:∀b,b<w.heap.size->w'.heap[b]? = w.heap[b]? /\∀o,S' b o=S b o)(hle:S.le S'):cg S' β w' h:=by
 obtain⟨hlen,ω,hr⟩:=hh;exact⟨hlen,ω,hr.rows hle (dy.refl β) hlen fun l cs hl _=>.inl ⟨hl,fun b hlt ho=>⟨ho,(hb b hlt).1,fun o h=>by rw[(hb b hlt).2];exact h⟩⟩⟩
theorem kN(hw:Wf S w)(hh:cg S β w h)(hb:Below w.heap.size w w')(hd:Dr.on->w.drawn<=w'.drawn){S':ar}(hS:∀b,b<w.heap.size->∀o,S' b o=S b o)(hnew:∀b o v,w.heap.size<=b->S' b o=some v->w'.cell? ⟨b,o,none⟩=some v):
  Left (bC β h) S β w S' β w' h:=by
 have hle:S.le S':=fun b o v hv=>by rw[hS b (hw.lt hv)];exact hv
 refine⟨hle,dy.refl β,fun b o v hv=>?_,⟨hb.size,hb.os,hb.output,hb.tape,hd⟩,fun b hlt _=>⟨hb.block b hlt,hS b hlt⟩,hh.below (fun b hlt=>⟨hb.block b hlt,hS b hlt⟩) hle,fun b hb=>.inl hb⟩;rcases CW b w.heap.size with hlt|hge
 ·rw[hS b hlt]at hv;rw[cell_of_heap (hb.block b hlt)];exact hw b o v hv
 ·exact hnew b o v hge hv
theorem cS(hw:Wf S w)(hh:cg S β w h)(hb:Below w.heap.size w w')(hd:Dr.on->w.drawn<=w'.drawn){r:AV}{v:Value}(hv:VR S β r v):db none S β h w (.ok r h) (.returned v) w':=
 ⟨S,β,v,rfl,hv,kN hw hh hb hd (fun _ _ _=>rfl) (fun b o v hge hv=>by have:=hw.lt hv;omega),fun sz hsz=>by cases hsz⟩
theorem rP(hw:Wf S w)(hh:cg S β w h)(hb:Below w.heap.size w w')(hd:Dr.on->w.drawn<=w'.drawn){n:Nat}{x:Array Value}(hr:Row w' n x)(hn:w.heap.size<=n){r:AV}{v:Value}(hv:VR (S.withRowTo n x.size x) β r v):db none S β h w (.ok r h) (.returned v) w':=
 ⟨_,β,v,rfl,hv,kN hw hh hb hd (fun b hlt o=>by unfold ar.withRowTo;rw[if_neg (by omega)]) (fun b o v hge hv=>by
  by_cases hbn:b=n
  ·subst hbn;unfold ar.withRowTo at hv;rw[CJ rfl]at hv;split at hv
   ·rw[hr.cell];exact hv
   ·cases hv
  ·unfold ar.withRowTo at hv;rw[if_neg hbn]at hv
   have:=hw.lt hv;omega),fun sz hsz=>by cases hsz⟩
omit [Dr]in
theorem uo(S:ar)(β:List ba)(n:Nat)(l:List ByteArray)(ls:List (List UInt8))(hl:l.map (·.data.toList)=ls):VR (S.withRowTo n (l.map Value.string).toArray.size (l.map Value.string).toArray) β (.sl (ls.map .str)) (.slice (some ⟨n,0,none⟩) l.length l.length):=by
 subst hl;simp only[VR,DY];refine⟨some ⟨n,0,none⟩,l.length,rfl,CN _,(fun h=>by cases h),fun q hq=>?_⟩;simp only[CG]at hq;subst hq;refine⟨fun _=>rfl,1,.of_get fun i e he=>?_⟩;simp only[List.map_map,Dz,Do,Function.comp]at he;obtain⟨s,hs,rfl⟩:=he;refine⟨.string s,by simp only[VR];exact⟨s,rfl,rfl⟩,rfl,fun j v hj=>?_⟩;have hlt:i<l.length:=by
  rcases CW i l.length with h|h
  ·exact h
  ·rw[CP h]at hs;cases hs
 rw[show (Value.string s).cells.toList=[Value.string s]from rfl]at hj;cases j with
 |succ j=>simp at hj
 |zero=>
  simp only[C6,CG]at hj;subst hj;unfold ar.withRowTo;simp[hlt];rw[CV hlt]at hs;simpa using hs
end
end Go.Av
namespace Go.Av
variable [Dr]
def fo:(FuncId->List AV->M AV)->List AV->M AV:=fun _ args=>match args with
 |[.str s,.str t]=>af (bif decide (s.length<4294967281)then some (.bool (Lib.contains s t))else none)
 |_=>M.fail
def r7:List AV->Option Nat
 |[.hp l off]=>bif Nat.beq off 0 then some l else none
 |_=>none
omit [Dr]in
theorem oE{args:List AV}{l:Nat}(h:r7 args=some l):args=[.hp l 0]:=by
 unfold r7 at h;split at h
 ·rename_i l' off;cases ho:Nat.beq off 0 with
  |false=>rw[ho]at h;cases h
  |true=>
   rw[ho]at h;cases h;rw[CM ho]
 ·cases h
def AD(ok:List (Nat×Nat))(l:Nat):List AV->Option (List AV)
 |.nilb t:: x:: r=>bif ok.any (fun p=>Nat.beq p.1 t&&Nat.ble p.2 (r.length+2))then some (.hp l 0:: x:: r)else none
 |.hp l' k:: r=>bif Nat.beq l' l&&Nat.beq k 0 then some (.hp l' k:: r)else none
 |_=>none
omit [Dr]in
theorem uN{ok:List (Nat×Nat)}{l:Nat}{cs cs':List AV}(h:AD ok l cs=some cs'):(∃t x r,cs= .nilb t:: x:: r/\cs'= .hp l 0:: x:: r/\∃n,(t,n)∈ok/\n<=r.length+2)\/(∃r,cs= .hp l 0:: r/\cs'=cs):=by
 unfold AD at h;split at h
 ·rename_i t x r;cases ho:ok.any (fun p=>Nat.beq p.1 t&&Nat.ble p.2 (r.length+2))with
  |false=>rw[ho]at h;cases h
  |true=>
   rw[ho]at h;cases h;obtain⟨p,hp,hq⟩:=List.any_eq_true.1 ho;rw[CI]at hq;refine .inl ⟨t,x,r,rfl,rfl,p.2,?_,Er hq.2⟩;rw[<- CM hq.1];exact hp
 ·rename_i l' k r;cases ho:(Nat.beq l' l&&Nat.beq k 0)with
  |false=>rw[ho]at h;cases h
  |true=>
   rw[ho]at h;cases h;rw[CI]at ho;have h1:=CM ho.1;have h2:=CM ho.2;subst h1 h2;exact .inr ⟨r,rfl,rfl⟩
 ·cases h
def fJ(ok:List (Nat×Nat)):(FuncId->List AV->M AV)->List AV->M AV:=fun _ args h=>match r7 args with
 | some l=>(match h[l]? with
  |some cs=>(match AD ok l cs with
   |some cs'=>.ok (.tup []) (h.set l cs')
   |none=>.fail)
  |none=>.fail)
 |none=>.fail
def sT(e:Nat):AV->Option UInt8
 |.byt t n=>bif Nat.beq t e&&decide (0<=n)&&decide (n<256)then some (UInt8.ofNat n.toNat)else none
 |_=>none
def gR(e:Nat):List AV->Option (List UInt8)
 |[]=>some []
 |x:: r=>match sT e x,gR e r with
  |some b,some l=>some (b:: l)
  |_,_=>none
def stA:List AV->Option (Option (Nat×Nat))
 |.hp _ _:: .hs lb off len sz ag:: _=>bif Nat.beq off 0&&Nat.beq sz 1&&!ag&&Nat.blt 0 len&&Nat.ble len 140737488355328 then some (some (lb,len))else none
 |_:: .hn:: _=>some none
 |_=>none
omit [Dr]in
theorem ul{cs:List AV}{lb len:Nat}(h:stA cs=some (some (lb,len))):∃x r,cs=x:: .hs lb 0 len 1 false:: r/\0<len/\len<=140737488355328:=by
 unfold stA at h;split at h
 ·rename_i l k lb' off len' sz ag r;cases ho:(Nat.beq off 0&&Nat.beq sz 1&&!ag&&Nat.blt 0 len'&&Nat.ble len' 140737488355328)with
  |false=>rw[ho]at h;cases h
  |true=>
   rw[ho]at h;cases h;simp only[CI,Dq]at ho;obtain⟨⟨⟨⟨h1,h2⟩,h3⟩,h4⟩,h5⟩:=ho;have h1:=CM h1;have h2:=CM h2;subst h1 h2 h3;exact⟨_,r,rfl,Er h4,Er h5⟩
 ·cases h
 ·cases h
omit [Dr]in
theorem uk{cs:List AV}(h:stA cs=some none):∃x r,cs=x:: .hn:: r:=by
 unfold stA at h;split at h
 ·rename_i l k lb' off len' sz ag r;cases ho:(Nat.beq off 0&&Nat.beq sz 1&&!ag&&Nat.blt 0 len'&&Nat.ble len' 140737488355328)with
  |false=>rw[ho]at h;cases h
  |true=>rw[ho]at h;cases h
 ·exact⟨_,_,rfl⟩
 ·cases h
def dA(e:Nat):(FuncId->List AV->M AV)->List AV->M AV:=fun _ args h=>match r7 args with
 | some l=>(match h[l]? with
  | some cs=>(match stA cs with
   |some none=>.ok (.str []) h
   | some (some (lb,len))=>(match h[lb]? with
    |some bs=>(match (bif Nat.ble len bs.length then gR e (bs.take len)else none)with
     |some s=>.ok (.str s) (h.set lb [])
     |none=>.fail)
    |none=>.fail)
   |none=>.fail)
  |none=>.fail)
 |none=>.fail
def tK{α:Type}(p:α->Bool):List α->Option α
 |[]=>none
 |z:: r=>match tK p r with
  |some y=>some y
  |none=>bif p z then some z else none
end Go.Av
namespace Go.Av
variable [Dr]
open Go.RowKit
def rR:Nat->Nat->List UInt8
 |0,_=>[]
 |f+1,u=>bif decide (u<10)then[UInt8.ofNat (48+u)]else rR f (u / 10)++[UInt8.ofNat (48+u % 10)]
omit [Dr]in
theorem mU:∀(f u:Nat),u<10 ^ (f+1)->rR (f+1) u=Lib.decDigits u
 | f,u,h=>by
  rw[Lib.decDigits];rw[show rR (f+1) u=bif decide (u<10)then[UInt8.ofNat (48+u)]else rR f (u / 10)++[UInt8.ofNat (48+u % 10)]from rfl];by_cases h10:u<10
  ·rw[dif_pos h10,ER h10];rfl
  ·rw[dif_neg h10,decide_eq_false h10];cases f with
   |zero=>omega
   |succ f=>rw[mU f (u / 10) (by rw[Nat.pow_succ]at h;omega)];rfl
def tG(n:Int):List UInt8:=bif decide (n<0)then 45:: rR 20 n.natAbs else rR 20 n.toNat
omit [Dr]in
theorem tH{n:Int}(h0:-9223372036854775808<=n)(h1:n<=9223372036854775807):tG n=Lib.itoa n:=by
 unfold tG Lib.itoa;by_cases h:n<0
 ·rw[ER h,CJ h];simp only[CH];rw[mU 19 n.natAbs (by omega)]
 ·rw[decide_eq_false h,if_neg h];simp only[CK];rw[mU 19 n.toNat (by omega)]
def qY:(FuncId->List AV->M AV)->List AV->M AV:=fun _ args=>match args with
 |[.int .i64 n]=>af (bif decide (-9223372036854775808<=n)&&decide (n<=9223372036854775807)then some (.str (tG n))else none)
 |_=>M.fail
def qK(t:TypeId)(s:List UInt8):AV:=match Lib.atoiAll s with
 |.ok v=>.tup [.int .i64 v,.nili]
 |.range=>.tup [.int .i64 (Lib.atoiSat s),.iface t .any]
 |_=>.tup [.int .i64 0,.iface t .any]
def qJ(t:TypeId):(FuncId->List AV->M AV)->List AV->M AV:=fun _ args=>match args with
 |[.str s]=>af (bif decide (s.length<=281474976710656)then some (qK t s)else none)
 |_=>M.fail
end Go.Av
namespace Go.Av
def gA:(FuncId->List AV->M AV)->List AV->M AV:=fun _ args=>match args with
 |[.str s,.str [c],.int .i64 sv,.int .i64 n]=>af (bif decide (s.length<4294967281)&&(sv== 0||sv== 1)&&n== -1 then some (.sl ((Lib.splitK [c] sv.toNat (s.count c) s).map .str))else none)
 |_=>M.fail
end Go.Av
namespace Go.Av.Ap
abbrev bz:=List UInt8
inductive Val where
 |mk (kind n:Int) (names:List bz) (values:List Val)
instance:Inhabited Val:=⟨.mk 0 0 [] []⟩
inductive Exp where
 |mk (op n:Int) (s m:bz) (names:List bz) (args:List Exp)
instance:Inhabited Exp:=⟨.mk 0 0 [] [] [] []⟩
inductive Ty where
 |mk (kind:Int) (fields:List (bz×Ty))
instance:Inhabited Ty:=⟨.mk 0 []⟩
abbrev c6:=bz×Ty
structure Fun where
 name:bz
 pub:Bool
 params:List c6
 result:Ty
 effects:Int
 body:Exp
 deriving Inhabited
structure Mod where
 name:bz
 uses:List bz
 vars:List c6
 init:List Exp
 funcs:List Fun
 moves:Bool
 old:List c6
 forward:List Exp
 back:List Exp
 deriving Inhabited
def Val.kind:Val->Int|.mk k _ _ _=>k
def Val.n:Val->Int|.mk _ n _ _=>n
def Val.names:Val->List bz|.mk _ _ ns _=>ns
def Val.values:Val->List Val|.mk _ _ _ vs=>vs
def Exp.op:Exp->Int|.mk o _ _ _ _ _=>o
def Exp.n:Exp->Int|.mk _ n _ _ _ _=>n
def Exp.s:Exp->bz|.mk _ _ s _ _ _=>s
def Exp.m:Exp->bz|.mk _ _ _ m _ _=>m
def Exp.names:Exp->List bz|.mk _ _ _ _ ns _=>ns
def Exp.args:Exp->List Exp|.mk _ _ _ _ _ es=>es
def Ty.kind:Ty->Int|.mk k _=>k
def Ty.fields:Ty->List c6|.mk _ fs=>fs
@[simp] theorem CF(a b c d):(Val.mk a b c d).kind=a:=rfl
@[simp] theorem Val.n_mk(a b c d):(Val.mk a b c d).n=b:=rfl
@[simp] theorem CE(a b c d):(Val.mk a b c d).names=c:=rfl
@[simp] theorem CB(a b c d):(Val.mk a b c d).values=d:=rfl
def strs(l:List bz):AV:=.sl (l.map .str)
mutual
def Val.av:Val->AV
 |.mk k n ns vs=>.agg [.int .i64 k,.int .i64 n,strs ns,.sl (fV vs)]
def fV:List Val->List AV
 |[]=>[]
 |v:: vs=>v.av:: fV vs
end
mutual
def Exp.cells:Exp->List AV
 |.mk o n s m ns es=>[.int .i64 o,.int .i64 n,.str s,.str m,strs ns,.sl (eu es)]
def eu:List Exp->List AV
 |[]=>[]
 |e:: es=>.agg e.cells:: eu es
end
def Exp.av(e:Exp):AV:=.agg e.cells
mutual
def Ty.cells:Ty->List AV
 |.mk k fs=>[.int .i64 k,.sl (ew fs)]
def ew:List (bz×Ty)->List AV
 |[]=>[]
 |f:: fs=>bW f:: ew fs
def bW:bz×Ty->AV
 |(n,t)=>.agg (.str n:: t.cells)
end
def Ty.av(t:Ty):AV:=.agg t.cells
def Fun.av(f:Fun):AV:=.agg ([.str f.name,.bool f.pub,.sl (ew f.params)]++f.result.cells++[.int .i64 f.effects]++f.body.cells)
def ef(l:List Fun):AV:=.sl (l.map Fun.av)
def Mod.av(m:Mod):AV:=.agg [.str m.name,strs m.uses,.sl (ew m.vars),.sl (eu m.init),ef m.funcs,.bool m.moves,.sl (ew m.old),.sl (eu m.forward),.sl (eu m.back)]
def vals(l:List Val):AV:=.sl (fV l)
def bD(l:List Exp):AV:=.sl (eu l)
def a8(l:List c6):AV:=.sl (ew l)
def yc(l:List Mod):AV:=.sl (l.map Mod.av)
def ints(l:List Int):AV:=.sl (l.map (.int .i64))
structure Vars where
 module:bz
 values:List Val
 deriving Inhabited
structure Deed where
 effect:Int
 arg:Int
 answer:Int
 deriving DecidableEq,Inhabited
structure Call where
 module:bz
 func:bz
 args:List Val
 deriving Inhabited
def Vars.av(v:Vars):AV:=.agg [.str v.module,vals v.values]
def Deed.av(d:Deed):AV:=.agg [.int .i64 d.effect,.int .i64 d.arg,.int .i64 d.answer]
def Call.av(c:Call):AV:=.agg [.str c.module,.str c.func,vals c.args]
def lF(l:List Vars):AV:=.sl (l.map Vars.av)
def deeds(l:List Deed):AV:=.sl (l.map Deed.av)
def calls(l:List Call):AV:=.sl (l.map Call.av)
structure Out where
 err:Int
 value:Val
 deeds:List Deed
 calls:List Call
 state:List Vars
def Out.av(o:Out):AV:=.agg [.int .i64 o.err,.int .i64 o.value.kind,.int .i64 o.value.n,strs o.value.names,vals o.value.values,Ap.deeds o.deeds,Ap.calls o.calls,lF o.state]
theorem lE:(l:List Val)->fV l=l.map Val.av
 |[]=>rfl
 |v:: l=>by simp[fV,lE l]
theorem eQ:(l:List Exp)->eu l=l.map Exp.av
 |[]=>rfl
 |v:: l=>by simp[eu,eQ l,Exp.av]
theorem eT:(l:List c6)->ew l=l.map bW
 |[]=>rfl
 |v:: l=>by simp[ew,eT l]
def Val.av_eq(v:Val):v.av= .agg [.int .i64 v.kind,.int .i64 v.n,strs v.names,vals v.values]:=by cases v;rfl
def Exp.cells_eq(e:Exp):e.cells=[.int .i64 e.op,.int .i64 e.n,.str e.s,.str e.m,strs e.names,bD e.args]:=by cases e;rfl
def Ty.cells_eq(t:Ty):t.cells=[.int .i64 t.kind,a8 t.fields]:=by cases t;simp[Ty.cells,a8,Ty.kind,Ty.fields]
def il(f:c6):bW f= .agg [.str f.1,.int .i64 f.2.kind,a8 f.2.fields]:=by obtain⟨n,t⟩:=f;simp[bW,Ty.cells_eq]
@[simp] theorem kj(v:Val):ab v.av=[.int .i64 v.kind,.int .i64 v.n,strs v.names,vals v.values]:=by rw[v.av_eq];rfl
@[simp] theorem bj(e:Exp):ab e.av=[.int .i64 e.op,.int .i64 e.n,.str e.s,.str e.m,strs e.names,bD e.args]:=by rw[Exp.av,e.cells_eq];rfl
@[simp] theorem df(f:c6):ab (bW f)=[.str f.1,.int .i64 f.2.kind,a8 f.2.fields]:=by rw[il];rfl
@[simp] theorem iW(t:Ty):ab t.av=[.int .i64 t.kind,a8 t.fields]:=by rw[Ty.av,t.cells_eq];rfl
@[simp] theorem cP(f:Fun):ab f.av=[.str f.name,.bool f.pub,a8 f.params,.int .i64 f.result.kind,a8 f.result.fields,.int .i64 f.effects,.int .i64 f.body.op,.int .i64 f.body.n,.str f.body.s,.str f.body.m,strs f.body.names,bD f.body.args]:=by
 simp[Fun.av,ab,Ty.cells_eq,Exp.cells_eq,a8]
@[simp] theorem cQ(m:Mod):ab m.av=[.str m.name,strs m.uses,a8 m.vars,bD m.init,ef m.funcs,.bool m.moves,a8 m.old,bD m.forward,bD m.back]:=rfl
@[simp] theorem oz(v:Val):AV.agg [.int .i64 v.kind,.int .i64 v.n,strs v.names,vals v.values]=v.av:=(v.av_eq).symm
@[simp] theorem dB(e:Exp):AV.agg [.int .i64 e.op,.int .i64 e.n,.str e.s,.str e.m,strs e.names,bD e.args]=e.av:=by rw[Exp.av,e.cells_eq]
@[simp] theorem j0(t:Ty):AV.agg [.int .i64 t.kind,a8 t.fields]=t.av:=by rw[Ty.av,t.cells_eq]
@[simp] theorem io(f:c6):AV.agg [.str f.1,.int .i64 f.2.kind,a8 f.2.fields]=bW f:=(il f).symm
@[simp] theorem iq(f:Fun):AV.agg [.str f.name,.bool f.pub,a8 f.params,.int .i64 f.result.kind,a8 f.result.fields,.int .i64 f.effects,.int .i64 f.body.op,.int .i64 f.body.n,.str f.body.s,.str f.body.m,strs f.body.names,bD f.body.args]=f.av:=by
 simp[Fun.av,Ty.cells_eq,Exp.cells_eq,a8]
@[simp] theorem ou(m:Mod):AV.agg [.str m.name,strs m.uses,a8 m.vars,bD m.init,ef m.funcs,.bool m.moves,a8 m.old,bD m.forward,bD m.back]=m.av:=rfl
theorem cD{α:Type}(g:Nat->Nat->Nat->Nat->Bool->AV)(f:α->AV)(h:∀x,cl g (f x)=f x):(l:List α)->da g (l.map f)=l.map f
 |[]=>rfl
 |x:: l=>by simp[da,h x,cD g f h l]
@[simp] theorem AH(g:Nat->Nat->Nat->Nat->Bool->AV)(l:List bz):cl g (strs l)=strs l:=by
 simp[strs,cl,cD g AV.str (fun _=>rfl) l]
@[simp] theorem AF(g:Nat->Nat->Nat->Nat->Bool->AV)(l:List Int):cl g (ints l)=ints l:=by
 simp[ints,cl,cD g (AV.int .i64) (fun _=>rfl) l]
mutual
theorem Val.cl_av(g:Nat->Nat->Nat->Nat->Bool->AV):(v:Val)->cl g v.av=v.av
 |.mk k n ns vs=>by simp[Val.av,cl,da,nD g vs]
theorem nD(g:Nat->Nat->Nat->Nat->Bool->AV):(l:List Val)->da g (fV l)=fV l
 |[]=>rfl
 |v:: l=>by simp[fV,da,Val.cl_av g v,nD g l]
end
mutual
theorem Exp.cl_cells(g:Nat->Nat->Nat->Nat->Bool->AV):(e:Exp)->da g e.cells=e.cells
 |.mk o n s m ns es=>by simp[Exp.cells,cl,da,jZ g es]
theorem jZ(g:Nat->Nat->Nat->Nat->Bool->AV):(l:List Exp)->da g (eu l)=eu l
 |[]=>rfl
 |e:: l=>by simp[eu,da,cl,Exp.cl_cells g e,jZ g l]
end
mutual
theorem Ty.cl_cells(g:Nat->Nat->Nat->Nat->Bool->AV):(t:Ty)->da g t.cells=t.cells
 |.mk k fs=>by simp[Ty.cells,cl,da,im g fs]
theorem im(g:Nat->Nat->Nat->Nat->Bool->AV):(l:List (bz×Ty))->da g (ew l)=ew l
 |[]=>rfl
 |f:: l=>by simp[ew,da,tt g f,im g l]
theorem tt(g:Nat->Nat->Nat->Nat->Bool->AV):(f:bz×Ty)->cl g (bW f)=bW f
 |(n,t)=>by simp[bW,cl,da,Ty.cl_cells g t]
end
@[simp] theorem xI(g:Nat->Nat->Nat->Nat->Bool->AV)(v:Val):cl g v.av=v.av:=v.cl_av g
@[simp] theorem vf(g:Nat->Nat->Nat->Nat->Bool->AV)(l:List Val):cl g (vals l)=vals l:=by simp[vals,cl,nD]
@[simp] theorem xE(g:Nat->Nat->Nat->Nat->Bool->AV)(e:Exp):cl g e.av=e.av:=by simp[Exp.av,cl,Exp.cl_cells]
@[simp] theorem uY(g:Nat->Nat->Nat->Nat->Bool->AV)(l:List Exp):cl g (bD l)=bD l:=by simp[bD,cl,jZ]
@[simp] theorem sZ(g:Nat->Nat->Nat->Nat->Bool->AV)(t:Ty):cl g t.av=t.av:=by simp[Ty.av,cl,Ty.cl_cells]
@[simp] theorem Bf(g:Nat->Nat->Nat->Nat->Bool->AV)(f:c6):cl g (bW f)=bW f:=tt g f
@[simp] theorem mS(g:Nat->Nat->Nat->Nat->Bool->AV)(l:List c6):cl g (a8 l)=a8 l:=by simp[a8,cl,im]
theorem ku(g:Nat->Nat->Nat->Nat->Bool->AV):(a b:List AV)->da g (a++b)=da g a++da g b
 |[],b=>rfl
 |x:: a,b=>by simp[da,ku g a b]
@[simp] theorem sW(g:Nat->Nat->Nat->Nat->Bool->AV)(f:Fun):cl g f.av=f.av:=by
 simp[Fun.av,cl,da,ku,im,Ty.cl_cells,Exp.cl_cells]
@[simp] theorem uZ(g:Nat->Nat->Nat->Nat->Bool->AV)(l:List Fun):cl g (ef l)=ef l:=by simp[ef,cl,cD g Fun.av (sW g)]
@[simp] theorem kq(g:Nat->Nat->Nat->Nat->Bool->AV)(m:Mod):cl g m.av=m.av:=by
 simp[Mod.av,cl,da,im,jZ,uZ]
@[simp] theorem AG(g:Nat->Nat->Nat->Nat->Bool->AV)(l:List Mod):cl g (yc l)=yc l:=by simp[yc,cl,cD g Mod.av (kq g)]
@[simp] theorem sX(g:Nat->Nat->Nat->Nat->Bool->AV)(k:IntKind)(n:Int):cl g (.int k n)= .int k n:=rfl
@[simp] theorem AE(g:Nat->Nat->Nat->Nat->Bool->AV)(b:Bool):cl g (.bool b)= .bool b:=rfl
@[simp] theorem xG(g:Nat->Nat->Nat->Nat->Bool->AV)(s:bz):cl g (.str s)= .str s:=rfl
@[simp] theorem vg(g:Nat->Nat->Nat->Nat->Bool->AV)(v:Vars):cl g v.av=v.av:=by simp[Vars.av,cl,da]
@[simp] theorem uX(g:Nat->Nat->Nat->Nat->Bool->AV)(v:Deed):cl g v.av=v.av:=by simp[Deed.av,cl,da]
@[simp] theorem uW(g:Nat->Nat->Nat->Nat->Bool->AV)(v:Call):cl g v.av=v.av:=by simp[Call.av,cl,da]
@[simp] theorem zJ(g:Nat->Nat->Nat->Nat->Bool->AV)(l:List Vars):cl g (lF l)=lF l:=by simp[lF,cl,cD g Vars.av (vg g)]
@[simp] theorem zG(g:Nat->Nat->Nat->Nat->Bool->AV)(l:List Deed):cl g (deeds l)=deeds l:=by simp[deeds,cl,cD g Deed.av (uX g)]
@[simp] theorem zF(g:Nat->Nat->Nat->Nat->Bool->AV)(l:List Call):cl g (calls l)=calls l:=by simp[calls,cl,cD g Call.av (uW g)]
@[simp] theorem Bg(g:Nat->Nat->Nat->Nat->Bool->AV)(o:Out):cl g o.av=o.av:=by simp[Out.av,cl,da]
@[simp] theorem jt(v:Vars):ab v.av=[.str v.module,vals v.values]:=rfl
@[simp] theorem jr(v:Deed):ab v.av=[.int .i64 v.effect,.int .i64 v.arg,.int .i64 v.answer]:=rfl
@[simp] theorem jq(v:Call):ab v.av=[.str v.module,.str v.func,vals v.args]:=rfl
@[simp] theorem kh(o:Out):ab o.av=[.int .i64 o.err,.int .i64 o.value.kind,.int .i64 o.value.n,strs o.value.names,vals o.value.values,deeds o.deeds,calls o.calls,lF o.state]:=rfl
@[simp] theorem mj(v:Vars):AV.agg [.str v.module,vals v.values]=v.av:=rfl
@[simp] theorem mi(v:Deed):AV.agg [.int .i64 v.effect,.int .i64 v.arg,.int .i64 v.answer]=v.av:=rfl
@[simp] theorem mh(v:Call):AV.agg [.str v.module,.str v.func,vals v.args]=v.av:=rfl
@[simp] theorem ov(o:Out):AV.agg [.int .i64 o.err,.int .i64 o.value.kind,.int .i64 o.value.n,strs o.value.names,vals o.value.values,deeds o.deeds,calls o.calls,lF o.state]=o.av:=rfl
@[simp] theorem yR(v:Vars):bP v.av=some 2:=rfl
@[simp] theorem yP(v:Deed):bP v.av=some 3:=rfl
@[simp] theorem yO(v:Call):bP v.av=some 3:=rfl
@[simp] theorem Ao(v:Out):bP v.av=some 8:=rfl
@[simp] theorem my(v:Vars):bO 2 v.av=true:=by simp[bO,aW,vals]
@[simp] theorem mw(v:Deed):bO 3 v.av=true:=by simp[bO,aW]
@[simp] theorem mu(v:Call):bO 3 v.av=true:=by simp[bO,aW,vals]
@[simp] theorem oS(v:Out):bO 8 v.av=true:=by simp[bO,aW,vals,strs,deeds,calls,lF]
def Clean(a:AV):Prop:=∀g,cl g a=a
def Clean.frz{a:AV}(h:Clean a)(d:Nat)(hp:Hp):hM d hp a=a:=by
 cases d with
 |zero=>exact h _
 |succ d=>exact h _
def ct{a:AV}(h:Clean a):aV (M.pure a)=M.pure a:=by
 funext hp;simp only[aV,M.pure,h.frz]
@[simp] theorem dt(b:Bool):aV (M.pure (.bool b))=M.pure (.bool b):=ct fun _=>rfl
@[simp] theorem tD(k:IntKind)(n:Int):aV (M.pure (.int k n))=M.pure (.int k n):=ct fun _=>rfl
@[simp] theorem zY(s:bz):aV (M.pure (.str s))=M.pure (.str s):=ct fun _=>rfl
@[simp] theorem zZ(v:Val):aV (M.pure v.av)=M.pure v.av:=ct fun g=>xI g v
@[simp] theorem yA(v:List Val):aV (M.pure (vals v))=M.pure (vals v):=ct fun g=>vf g v
@[simp] theorem zV(v:Exp):aV (M.pure v.av)=M.pure v.av:=ct fun g=>xE g v
@[simp] theorem zW(v:Fun):aV (M.pure v.av)=M.pure v.av:=ct fun g=>sW g v
@[simp] theorem Ar(v:Val):bP v.av=some 4:=by rw[v.av_eq];rfl
@[simp] theorem Ak(e:Exp):bP e.av=some 6:=by rw[Exp.av,e.cells_eq];rfl
@[simp] theorem Al(f:c6):bP (bW f)=some 3:=by rw[il];rfl
@[simp] theorem AM(t:Ty):bP t.av=some 2:=by rw[Ty.av,t.cells_eq];rfl
@[simp] theorem Am(f:Fun):bP f.av=some 12:=by simp[Fun.av,bP,Ty.cells_eq,Exp.cells_eq]
@[simp] theorem An(m:Mod):bP m.av=some 9:=rfl
@[simp] theorem lh(v:Val):bO 4 v.av=true:=by simp[bO,aW,strs,vals]
@[simp] theorem gm(e:Exp):bO 6 e.av=true:=by simp[bO,aW,strs,bD]
@[simp] theorem iA(f:c6):bO 3 (bW f)=true:=by simp[bO,aW,a8]
@[simp] theorem gn(f:Fun):bO 12 f.av=true:=by simp[bO,aW,a8,strs,bD]
@[simp] theorem lc(m:Mod):bO 9 m.av=true:=by simp[bO,aW,a8,strs,bD,ef]
@[simp] theorem tX(s:bz):bO 1 (.str s)=true:=rfl
@[simp] theorem tV(k:IntKind)(n:Int):bO 1 (.int k n)=true:=rfl
def bX{α:Type}{sz:Nat}{f:α->AV}(h:∀x,bO sz (f x)=true)(l:List α):bQ sz (l.map f)=true:=by simp[bQ,h]
@[simp] theorem yL(l:List bz):bQ 1 (l.map AV.str)=true:=bX tX l
@[simp] theorem yH(l:List Int):bQ 1 (l.map (AV.int .i64))=true:=bX (tV .i64) l
@[simp] theorem yM(l:List Val):bQ 4 (fV l)=true:=by rw[lE];exact bX lh l
@[simp] theorem yE(l:List Exp):bQ 6 (eu l)=true:=by rw[eQ];exact bX gm l
@[simp] theorem yF(l:List c6):bQ 3 (ew l)=true:=by rw[eT];exact bX iA l
@[simp] theorem yG(l:List Fun):bQ 12 (l.map Fun.av)=true:=bX gn l
@[simp] theorem yI(l:List Mod):bQ 9 (l.map Mod.av)=true:=bX lc l
def kJ{T:TT}{t e:Nat}{ti ei:TI}(ht:T t=some ti)(hk:ti.kind= .slice e)(he:T e=some ei){α:Type}{f:α->AV}(hs:∀x,bP (f x)=some ei.size){l:List α}{i:Nat}{x:α}(h:l[i]? = some x):
  ak T t (.sl (l.map f)) (.int .i64 (i:Int))=some (.ip (ab (f x))):=by
 unfold ak;rw[ht];simp only[hk,he];rw[if_neg (by omega)];have:(l.map f)[(i:Int).toNat]? = some (f x):=by rw[C0,Dz,h];rfl
 rw[this];simp only;rw[CJ (hs x)]
def cr{T:TT}{t e:Nat}{ti ei:TI}(ht:T t=some ti)(hk:ti.kind= .slice e)(he:T e=some ei){α:Type}[Inhabited α]{f:α->AV}(hs:∀x,bP (f x)=some ei.size){l:List α}{n:Int}(h0:0<=n)(h:n<(l.length:Int)):
  ak T t (.sl (l.map f)) (.int .i64 n)=some (.ip (ab (f l[n.toNat]!))):=by
 have hlt:n.toNat<l.length:=by omega
 have:=kJ ht hk he hs (l:=l) (i:=n.toNat) (x:=l[n.toNat]!) (by rw[List.getElem!_eq_getElem?_getD,CV hlt];rfl)
 rw[show ((n.toNat:Nat):Int)=n by omega]at this;exact this
def nN{T:TT}{t e:Nat}{ti ei:TI}(ht:T t=some ti)(hk:ti.kind= .slice e)(he:T e=some ei){α:Type}{f:α->AV}(hs:∀x,bO ei.size (f x)=true){a b:List α}(h:(a.length+b.length)*ei.bytes<=140737488355328)(h0:0<ei.bytes):
  dj T t (.sl (a.map f)) (.sl (b.map f))=some (.sl ((a++b).map f)):=by
 unfold dj;rw[ht];simp only[hk,he,fb];rw[bX hs,bX hs];simp[h,h0,iO]
def yq(l:List Ty):AV:=.sl (l.map Ty.av)
structure Sig where
 name:bz
 params:List Ty
 result:Ty
 effects:Int
 deriving Inhabited
structure Face where
 module:bz
 funcs:List Sig
 deriving Inhabited
structure Vsn where
 major:Int
 minor:Int
 patch:Int
 deriving Inhabited,DecidableEq
def Sig.cells(s:Sig):List AV:=[.str s.name,yq s.params,.int .i64 s.result.kind,a8 s.result.fields,.int .i64 s.effects]
def Sig.av(s:Sig):AV:=.agg s.cells
def sigs(l:List Sig):AV:=.sl (l.map Sig.av)
def Face.cells(f:Face):List AV:=[.str f.module,sigs f.funcs]
def Face.av(f:Face):AV:=.agg f.cells
def tm(l:List Face):AV:=.sl (l.map Face.av)
def Vsn.av(v:Vsn):AV:=.agg [.int .i64 v.major,.int .i64 v.minor,.int .i64 v.patch]
@[simp] theorem ki(s:Sig):ab s.av=[.str s.name,yq s.params,.int .i64 s.result.kind,a8 s.result.fields,.int .i64 s.effects]:=rfl
@[simp] theorem vY(f:Face):ab f.av=[.str f.module,sigs f.funcs]:=rfl
@[simp] theorem xo(v:Vsn):ab v.av=[.int .i64 v.major,.int .i64 v.minor,.int .i64 v.patch]:=rfl
@[simp] theorem ow(s:Sig):AV.agg [.str s.name,yq s.params,.int .i64 s.result.kind,a8 s.result.fields,.int .i64 s.effects]=s.av:=rfl
@[simp] theorem yt(f:Face):AV.agg [.str f.module,sigs f.funcs]=f.av:=rfl
@[simp] theorem zQ(v:Vsn):AV.agg [.int .i64 v.major,.int .i64 v.minor,.int .i64 v.patch]=v.av:=rfl
@[simp] theorem kb(t:Ty):bO 2 t.av=true:=by simp[bO,aW,a8]
@[simp] theorem Ab(l:List Ty):bQ 2 (l.map Ty.av)=true:=bX kb l
@[simp] theorem Aq(s:Sig):bP s.av=some 5:=rfl
@[simp] theorem yQ(s:Face):bP s.av=some 2:=rfl
@[simp] theorem Au(s:Vsn):bP s.av=some 3:=rfl
@[simp] theorem lg(s:Sig):bO 5 s.av=true:=by simp[bO,aW,a8,yq]
@[simp] theorem sr(s:Face):bO 2 s.av=true:=by simp[bO,aW,sigs]
@[simp] theorem Aa(s:Vsn):bO 3 s.av=true:=rfl
@[simp] theorem yK(l:List Sig):bQ 5 (l.map Sig.av)=true:=bX lg l
@[simp] theorem yg(l:List Face):bQ 2 (l.map Face.av)=true:=bX sr l
@[simp] theorem xH(g:Nat->Nat->Nat->Nat->Bool->AV)(l:List Ty):cl g (yq l)=yq l:=by simp[yq,cl,cD g Ty.av (sZ g)]
@[simp] theorem sY(g:Nat->Nat->Nat->Nat->Bool->AV)(s:Sig):cl g s.av=s.av:=by unfold Sig.av Sig.cells;simp only[cl,da,xH,mS]
@[simp] theorem ve(g:Nat->Nat->Nat->Nat->Bool->AV)(l:List Sig):cl g (sigs l)=sigs l:=by simp[sigs,cl,cD g Sig.av (sY g)]
@[simp] theorem qO(g:Nat->Nat->Nat->Nat->Bool->AV)(s:Face):cl g s.av=s.av:=by unfold Face.av Face.cells;simp only[cl,da,ve]
@[simp] theorem zH(g:Nat->Nat->Nat->Nat->Bool->AV)(l:List Face):cl g (tm l)=tm l:=by simp[tm,cl,cD g Face.av (qO g)]
@[simp] theorem Bh(g:Nat->Nat->Nat->Nat->Bool->AV)(s:Vsn):cl g s.av=s.av:=by unfold Vsn.av;simp only[cl,da]
@[simp] theorem AJ(v:Ty):aV (M.pure v.av)=M.pure v.av:=ct fun g=>sZ g v
@[simp] theorem zX(v:Sig):aV (M.pure v.av)=M.pure v.av:=ct fun g=>sY g v
@[simp] theorem yz(v:Face):aV (M.pure v.av)=M.pure v.av:=ct fun g=>qO g v
end Go.Av.Ap
namespace Go.Av
open Go.RowKit Go.Sort Go.Proofs
section
variable [Dr]
end
section
variable {α:Type} [Inhabited α]
end
section
variable [Dr] {S:ar} {β:List ba} {h:Hp} {w w':World}
end
theorem Cz{S:ar}{β:List ba}:{ps qs:List AV} ->{vs:List Value} ->aJ S β (ps++qs) vs->∃u v,vs=u++v/\aJ S β ps u/\aJ S β qs v
 |[],_,vs,h=>⟨[],vs,rfl,by simp[aJ],h⟩
 |_:: ps,qs,vs,h=>by
  simp only[Dy,aJ]at h;obtain⟨x,xs,rfl,h1,h2⟩:=h;obtain⟨u,v,rfl,h3,h4⟩:=Cz h2;exact⟨x:: u,v,rfl,by simp only[aJ];exact⟨x,u,rfl,h1,h3⟩,h4⟩
section
variable [Dr] {α:Type} [Inhabited α] {P:Program}
end
end Go.Av
namespace Go.Av
open Go.RowKit Go.Sort Go.Proofs
section
variable [Dr] {P:Program}
end
end Go.Av
namespace Go.Av
variable [Dr]
section
variable {c:Entry} {N:Nat} {U:Nat->Prop} {e:Env} {h:Hp} {a:Act} {w:World} {S:ar} {β:List ba} {γ:Nat->Value} {lam:Nat->Option Nat} {ω:Nat->Owner}
theorem FR.dead(H:FR c N U e h a w S β γ lam ω){l b:Nat}(hd:∀cs,h[l]? = some cs->cs=[])(hb:ω b= .heap l)(hS:∀o,S b o=none){w':World}(hg:Gro w w')(hsz:w'.heap.size=w.heap.size)(hold:∀k,k≠b->w'.heap[k]? = w.heap[k]?):
  FR c N U e h a w' S β γ lam ω:=by
 have hωb:∀k,ω k≠.heap l->k≠b:=fun k hk=>by rintro rfl;exact hk hb
 have hother:∀k,ω k≠.heap l->w'.heap[k]? = w.heap[k]?:=fun k hk=>hold k (hωb k hk);refine⟨fun k o v hv=>?_,H.gro.trans hg,fun k hk hE=>?_,H.le,H.ext,H.hlen,?_,H.tsz,H.slots,H.grps,?_,?_,fun k hk=>⟨(H.mine k hk).1,by rw[hsz];exact (H.mine k hk).2⟩,H.used⟩
 ·have hkb:k≠b:=by rintro rfl;rw[hS]at hv;cases hv
  rw[cell_of_heap (hold k hkb)];exact H.wf k o v hv
 ·have hkb:k≠b:=by
   rintro rfl
   have:=(H.mine k (by rw[hb];simp)).1.low
   rcases this with h|h
   ·exact hE h
   ·omega
  have:=H.keep k hk hE
  exact⟨by rw[hold k hkb];exact this.1,this.2⟩
 ·refine H.heap.rows (ar.le_refl S) (dy.refl β) H.hlen fun j ds hj hne=>.inl ⟨hj,fun k _ ho=>⟨ho,hother k ?_,fun o h=>h⟩⟩;rw[ho];simp only[EI,Owner.heap.injEq];rintro rfl;exact hne (hd ds hj)
 ·intro B n hB;obtain⟨k1,k2,k3,k,z,k4,k5,k6,k7,k8⟩:=H.lblk B n hB;exact⟨k1,k2,k3,k,z,k4,k5.of_eq (hother k (by rw[k6];simp)),k6,k7,k8⟩
 ·intro g z hg;obtain⟨a',len,cap,g1,g2,g3,g4⟩:=H.free g z hg;refine⟨a',len,cap,g1,g2,g3,g4.imp id ?_⟩;rintro⟨sz,k,off,z',k1,k2,k3,k4,k5,k6⟩;exact⟨sz,k,off,z',k1,k2,k3.of_eq (hother k (by rw[k5];simp)),k4,k5,k6⟩
end
section
variable {S:ar} {β:List ba} {h:Hp} {w:World}
theorem FR.cpost{e:Env}{h':Hp}{a:Act}{N:Nat}{U:Nat->Prop}{w':World}{S':ar}{β':List ba}{γ:Nat->Value}{lam:Nat->Option Nat}{ω:Nat->Owner}{hg:nF S β h w}(F:FR { w,S,β,E:=bC β h,gok:=hg } N U e h' a w' S' β' γ lam ω){r:AV}{v:Value}(hv:VR S' β' r v):
  db none S β h w (.ok r h') (.returned v) w':=⟨S',β',v,rfl,hv,F.out,fun sz hsz=>by cases hsz⟩
theorem pM(hg:nF S β h w)(hw:Wf S w)(hh:cg S β w h){l b n:Nat}{cs cs':List AV}{x y:Array Value}(hl:h[l]? = some cs)(hne:cs≠[])(hb:β[l]? = some (b,n))(hrow:Row w b x)(hys:y.size=x.size)(hcs:aJ S β cs' (y.toList.take cs'.length))(htag:∀t,bI t cs'->bI t cs):db none S β h w (.ok (.tup []) (h.set l cs')) (.returned (.tuple #[])) (w.setRow b y):=by
 obtain⟨γ,lam,ω,F⟩:=qw (args:=[]) (vs:=[]) (n:=0) hg hw hh (by simp[aJ]) (CN _) (by omega);exact (F.turnH hl hne ⟨n,hb⟩ hrow hys hcs htag).cpost (by simp only[VR];exact⟨[],rfl,by simp[aJ]⟩)
theorem pL(hg:nF S β h w)(hw:Wf S w)(hh:cg S β w h){l b n:Nat}{cs:List AV}(hl:h[l]? = some cs)(hne:cs≠[])(hb:β[l]? = some (b,n)){w':World}(hgr:Gro w w')(hsz:w'.heap.size=w.heap.size)(hold:∀k,k≠b->w'.heap[k]? = w.heap[k]?){r:AV}{v:Value}(hv:VR S β r v):db none S β h w (.ok r (h.set l [])) (.returned v) w':=by
 obtain⟨γ,lam,ω,F⟩:=qw (args:=[]) (vs:=[]) (n:=0) hg hw hh (by simp[aJ]) (CN _) (by omega);obtain⟨b',n',k1,k2,k3,k4⟩:=F.heap.own hl hne;rw[hb]at k1;simp only[CG,Di]at k1;obtain⟨rfl,rfl⟩:=k1;refine ((F.killH l).dead (l:=l) (fun cs' h'=>?_) k3 k4 hgr hsz hold).cpost hv;rw[Db]at h';simp only[Du]at h';split at h'
 ·simpa using h'.symm
 ·cases h'
end
end Go.Av
namespace Go.Av
variable [Dr]
theorem nY{P:Program}{cx:Cx}{own:Option Nat}(hT:TOK P cx.T)(hC:bM P cx.own cx.call)(hI:IsoCall cx){f:FuncId}{fn:Func}(hf:P.funcs[f]? = some fn)(hnt:cx.nt=fn.ntmps){E:List AV->Hp->R AV}(h0:∀h,E [] h= .ok (.sl []) h)(h1:∀e es h,b9 cx (cb 0) fn own [.sl (e:: es)] h=E (e:: es) h)(h2:∀h,b9 cx (cb 0) fn own [.hn] h= .ok (.sl []) h)(h3:∀l off h,b9 cx (cb 0) fn own [.hs l off 0 1 false] h= .ok (.sl []) h){es:List AV}{h:Hp}{S:ar}{β:List ba}{w:World}{vs:List Value}(hr:E es h≠.fail)(hg:nF S β h w)(hw:Wf S w)(hh:cg S β w h)(hv:aJ S β [.sl es] vs):Calls P f vs.toArray w (db own S β h w (E es h))/\fn.body.isSome=true:=by
 cases es with
 |cons e es=>
  rw[<- h1]at hr |-;exact eN hT hC hI 0 hf hnt hr hg hw hh hv
 | nil=>
  rw[h0];simp only[aJ]at hv;obtain⟨v,_,rfl,hv,rfl⟩:=hv;have hv0:=hv;simp only[VR]at hv;obtain⟨a,cap,rfl,hc,hn,hq⟩:=hv;cases a with
  |none=>
   have hcap:=hn rfl;subst hcap;have hv2:aJ S β [.hn] [.slice none ([]:List AV).length 0]:=by simp[aJ,VR]
   have:=eN (own:=own) hT hC hI 0 hf hnt (args:=[.hn]) (h:=h) (by rw[h2];simp) hg hw hh hv2
   rw[h2]at this;exact this
  | some q=>
   obtain⟨hs,_⟩:=hq q rfl;have hX:cg S [(q.block,q.off+cap)] w [[]]:=⟨rfl,fun _=>.no,fun l cs hl hne=>by
    cases l with
    |zero=>simp at hl;exact absurd hl hne
    |succ l=>simp at hl⟩
   have hE:∀b,¬bC [(q.block,q.off+cap)] [[]] b:=by
    rintro b ⟨l,cs,n,k1,k2,_⟩;cases l with
    |zero=>simp at k1;exact k2 k1
    |succ l=>simp at k1
   have hv2:aJ S [(q.block,q.off+cap)] [.hs 0 q.off 0 1 false] [.slice (some q) ([]:List AV).length cap]:=by
    simp only[aJ,VR];rcases Ds cap with h0|h0
    ·subst h0;exact⟨_,_,rfl,.inr ⟨trivial,q,rfl⟩,rfl⟩
    ·have hq':q=⟨q.block,q.off,none⟩:=by
      have:=hs h0
      cases q;simp_all
     exact⟨_,_,rfl,.inl ⟨(q.block,q.off+cap),cap,rfl,(by show q.off+cap≠0;omega),by rw[<- hq'];rfl,C9 _,by simp⟩,rfl⟩
   have:=eN (own:=own) hT hC hI 0 hf hnt (args:=[.hs 0 q.off 0 1 false]) (h:=[[]]) (by rw[h3];simp) ⟨hg.1,fun b _=>hE b,hg.2.2⟩ hw hX hv2
   rw[h3]at this;refine⟨this.1.mono fun en w' hp=>?_,this.2⟩;obtain⟨S',β',v,k1,k2,k3,k4⟩:=hp;obtain⟨S2,j1,j2,j3⟩:=qX hw hh hE k3;exact⟨S2,β,v,k1,j2 (.sl []) v k2,j1,fun sz hsz=>j3 sz v (k4 sz hsz)⟩
end Go.Av
namespace Go.Av
variable [Dr]
open Go.RowKit Go.WideShapes Go.ChangeShapes
theorem Left.below{S S':ar}{β β':List ba}{w w':World}{h':Hp}(L:Left (bC [] []) S β w S' β' w' h'):Below w.heap.size w w':=
 ⟨L.gro.os,L.gro.tape,L.gro.out,L.gro.size,fun k hk=>(L.keep k hk (by rintro⟨l,_,_,h1,_⟩;simp at h1)).1⟩
def ga(W:World):ar:=fun b o=>W.cell? ⟨b,o,none⟩
omit [Dr]in
theorem uD(W:World):Wf (ga W) W:=fun _ _ _ h=>h
omit [Dr]in
theorem r5{W:World}(h:GOKw W):nF (ga W) [] [] W:=⟨h,fun b _ ho=>by obtain⟨l,_,_,h1,_⟩:=ho;simp at h1,vU h⟩
theorem sc{P:Program}{p:Pg}(G:GoodPg P p)(hO:cJ p){f:FuncId}{args:List AV}{vs:List Value}{W:World}(hg:GOKw W)(hv:aJ (ga W) [] args vs)(ht:aj p f args []= .ok (.bool true) []):Calls P f vs.toArray W fun e W'=>e= .returned (.bool true)/\Below W.heap.size W W':=by
 have h:=(nV G hO f args [] (ga W) [] W vs (by rw[ht];simp) (r5 hg) (uD W) ⟨rfl,fun _=>.no,fun l cs hl=>by simp at hl⟩ hv).1;rw[ht]at h;refine h.mono fun e W' hp=>?_;obtain⟨S',β',v,rfl,hv,L,_⟩:=hp;simp only[VR]at hv;subst hv;exact⟨rfl,L.below⟩
section
variable {H:Type} {enc:TypeId×Value->H} {P:Program}
omit [Dr]in
theorem lS{f:Func}{s:ChangeSpec}{apart fresh handsOn again:Bool}{W W':World}{args:Array Value}{v:Value}{ds gs:List (DataW H)}{before pa pv:List MemPlace}(hW:DataW.Whole enc P f.params.toList s.vars apart W args.toList ds gs before)(hres:∀(b:Nat)(sp:Nat->Bool)(hd:Bool),DataW.TrodAll enc P W' b sp hd f.resultTypes.toList (v.resultList f.resultTypes.size) (s.fn H (ds++gs)).results [])(hargs:∀sp:Nat->Bool,(∀p∈before,sp p.block=true)->DataW.TrodAll enc P W' 0 sp true f.params.toList args.toList (s.fn H (ds++gs)).args pa)(hvars:∀sp:Nat->Bool,(∀p∈before,sp p.block=true)->DataW.TrodVars enc P W' sp s.vars (s.fn H (ds++gs)).vars pv)(hps:before=pa++pv)(hb:Below W.heap.size W W')(hok:∀(j:Nat)(t:TypeId)(r:Value),f.resultTypes[j]? = some t->(v.resultList f.resultTypes.size)[j]? = some r->Value.okWide P W' .any 0 t r):
  s.post enc P f apart fresh handsOn again W args v W':=by
 have hlt:∀p∈before,p.block<W.heap.size:=fun p hp=>hW.lt p hp;have hold:∀p∈before,(fun b=>decide (b<W.heap.size)) p.block=true:=fun p hp=>by simpa using hlt p hp
 refine⟨ds,gs,before,[],pa,pv,hW,hres _ _ _,hargs _ hold,hvars _ hold,World.keptBut_mono (fun p hp=>⟨hp,?_⟩) (hb.frame (· ∈before)),fun _=>?_⟩
 ·rw[hps,Da]at hp;exact Or.inr hp
 ·obtain⟨_,_,_,_,_,hz,hn⟩:=hW;refine⟨hok,_,_,([]++pa)++pv,⟨[]++pa,pv,trodAll_append (hargs _ (fun _ _=>rfl)) (hres _ _ _),hvars _ (fun _ _=>rfl),rfl,?_,?_⟩,?_⟩
  ·intro b off hp;have hin:MemPlace.cell b off∈before:=by rw[hps];simpa using hp
   rw[hb.frozen (hlt _ hin)];exact hz b off hin
  ·intro ha
   have:=hn ha
   rw[hps]at this;simpa using this
  ·intro p hp _;rw[hps];simpa using hp
end
end Go.Av
namespace Go.Av
open Go.RowKit
section
variable {H:Type} {enc:TypeId×Value->H} {P:Program} {w w':World}
theorem gM{base:Nat}{spare:Nat->Bool}{held:Bool}:∀ {ts:List TypeId} {vs:List Value} {ds:List (DataW H)} {ps:List MemPlace},DataW.TrodAll enc P w base spare held ts vs ds ps->(∀p∈ps,w.sameAt w' p)->DataW.TrodAll enc P w' base spare held ts vs ds ps
 |[],[],[],_,h,_=>h
 |_:: _,_:: _,_:: _,_,⟨p,q,⟨n,h1⟩,h2,e⟩,hs=>⟨p,q,⟨n,DataW.trod_carry n _ _ _ h1 (fun x hx=>hs x (by rw[e];exact EM _ hx))⟩,gM h2 (fun x hx=>hs x (by rw[e];exact EH _ hx)),e⟩
theorem nr(hb:Below w.heap.size w w'){p:MemPlace}(hp:p.block<w.heap.size):w.sameAt w' p:=by
 cases p with
 |cell b off=>
  have:=hb.block b hp
  show w'.cell? ⟨b,off,none⟩=w.cell? ⟨b,off,none⟩;simp only[World.cell?,this]
 |map b=>exact hb.block b hp
theorem py{T:TypeId->Prop}(K:Kids P T)(hz:∀t e,T t->P.underlying t=some (.slice e)->0<P.cellsOf e){ts:List TypeId}{vs:List Value}{ds:List (DataW H)}{ps:List MemPlace}(hT:∀t∈ts,T t)(h:DataW.TrodAll enc P w 0 (fun _=>true) true ts vs ds ps)(hlt:∀p∈ps,p.block<w.heap.size)(hb:Below w.heap.size w w')(sp:Nat->Bool)(hsp:∀p∈ps,sp p.block=true):DataW.TrodAll enc P w' 0 sp true ts vs ds ps:=
 (gM h fun p hp=>nr hb (hlt p hp)).respare K hz hT hsp
end
theorem q4{α:Type}(Q:Nat->α->Prop):∀n,(∀i,i<n->∃x,Q i x)->∃l:List α,l.length=n/\∀i x,l[i]? = some x->Q i x
 |0,_=>⟨[],rfl,fun i x h=>by simp at h⟩
 | n+1,h=>by
  obtain⟨l,h1,h2⟩:=q4 Q n fun i hi=>h i (by omega);obtain⟨y,hy⟩:=h n (by omega);refine⟨l++[y],by simp[h1],fun i x hx=>?_⟩;by_cases hi:i<n
  ·rw[CU (by omega)]at hx;exact h2 i x hx
  ·rw[CZ (by omega)]at hx;have hin:i-l.length=0:=by
    rcases Ds (i-l.length)with h|h
    ·exact h
    ·rw[CP (by simp;omega)]at hx;cases hx
   rw[hin]at hx;simp only[C6,CG]at hx;subst hx;obtain rfl:i=n:=by omega
   exact hy
end Go.Av
namespace Go.Av
open Go.RowKit Go.WideShapes Go.ChangeShapes
section
variable {H:Type} (enc:TypeId×Value->H) (P:Program) (W:World)
def Rd{α:Type}(N:Nat)(t:TypeId)(cells:α->List AV)(Ok:α->Prop):Prop:=∀(base:Nat)(held:Bool)(n:Nat),n<N->∀(cs:List Value)(x:DataW H×List MemPlace),DataW.trod enc P W base (fun _=>true) held n t cs=some x->(∀k∈x.1.weights P t,k<=reachBytes)->∃a:α,aJ (ga W) [] (cells a) cs/\Ok a
def uC{α:Type}(N:Nat)(tot:Nat)(o:Nat)(fs:List Field)(cells:α->List AV)(Ok:α->Prop):Prop:=∀(base:Nat)(held:Bool)(n:Nat),n<N->∀(cs:List Value)(xs:List (DataW H×List MemPlace)),cs.length=tot->
 xs.length=fs.length->(∀(i:Nat)(f:Field),fs[i]? = some f->DataW.trod enc P W base (fun _=>true) held n f.type ((cs.drop f.offset).take (P.cellsOf f.type))=xs[i]?)->(∀k∈DataW.weightsEach P (fs.map (·.type)) (xs.map (·.1)),k<=reachBytes)->∃a:α,aJ (ga W) [] (cells a) (cs.drop o)/\Ok a
variable {enc P W} {α β:Type} {N:Nat} {t:TypeId}
theorem Rd.zero{cells:α->List AV}{Ok:α->Prop}:Rd enc P W 0 t cells Ok:=fun _ _ n hn=>absurd hn (by omega)
theorem Rd.le{cells:α->List AV}{Ok:α->Prop}(h:Rd enc P W N t cells Ok){M:Nat}(hm:M<=N):Rd enc P W M t cells Ok:=fun b hd n hn=>h b hd n (by omega)
theorem Rd.map{cells:α->List AV}{Ok:α->Prop}(h:Rd enc P W N t cells Ok)(g:α->β){cells':β->List AV}{Ok':β->Prop}(hc:∀a,cells' (g a)=cells a)(ho:∀a,Ok a->Ok' (g a)):Rd enc P W N t cells' Ok':=by
 intro b hd n hn cs x hx hw;obtain⟨a,h1,h2⟩:=h b hd n hn cs x hx hw;exact⟨g a,by rw[hc];exact h1,ho a h2⟩
theorem rk(ht:P.underlying t=some .bool):Rd enc P W N t (fun b:Bool=>[.bool b]) (fun _=>True):=by
 intro b hd n hn cs x hx hw;obtain⟨b,rfl,_⟩:=DataW.trod_bool ht hx;exact⟨b,by simp[aJ,VR],trivial⟩
theorem lp{k:IntKind}(ht:P.underlying t=some (.int k)):Rd enc P W N t (fun n:Int=>[.int k n]) (fun n=>(Lit.int k n).wf=true):=by
 intro b hd n hn cs x hx hw;obtain⟨b,rfl,_,hwf⟩:=DataW.trod_int ht hx;exact⟨b,by simp[aJ,VR],hwf⟩
theorem hG(ht:P.underlying t=some .string):Rd enc P W N t (fun s:List UInt8=>[.str s]) (fun s=>s.length<=reachBytes):=by
 intro b hd n hn cs x hx hw;obtain⟨s,rfl,rfl,_⟩:=DataW.trod_string ht hx;exact⟨s.data.toList,by simp[aJ,VR],hw _ (by simp[DataW.weights])⟩
def xf(cells:α->List AV)(ev:α->AV)(sz:Nat):Prop:=∀(a:α)(S:ar)(β:List ba)(vs:List Value),aJ S β (cells a) vs->vs.length=sz->∃v,VR S β (ev a) v/\v.cells.toList=vs
theorem i7{cells:α->List AV}{ev:α->AV}{sz:Nat}(he:∀a,ev a= .agg (cells a)):xf cells ev sz:=fun a S β vs h hl=>⟨.agg vs.toArray,by rw[he];simp only[VR];exact⟨vs,rfl,h⟩,by simp[Value.cells]⟩
theorem tb{ev:α->AV}(ho:∀a,aW (ev a)=true):xf (fun a=>[ev a]) ev 1:=fun a S β vs h hl=>by
 simp only[aJ]at h;obtain⟨v,_,rfl,h,rfl⟩:=h;exact⟨v,h,by rw[(eJ (ho a) h).1]⟩
theorem gw{e:TypeId}:∀ {l:List (DataW H)} {d:DataW H},d∈l->∀k∈d.weights P e,k∈DataW.weightsAll P e l
 |x:: l,d,hd,k,hk=>by
  simp only[DataW.weightsAll,Da];rcases C8.1 hd with rfl|hd
  ·exact .inl hk
  ·exact .inr (gw hd k hk)
theorem iH{e:TypeId}{cells:α->List AV}{Ok:α->Prop}(h:Rd enc P W N e cells Ok)(ht:P.underlying t=some (.slice e)){sz by_:Nat}(hsz:P.cellsOf e=sz)(h0:0<sz)(hby:P.bytesOf e=by_){ev:α->AV}(hev:xf cells ev sz):
  Rd enc P W N t (fun l:List α=>[.sl (l.map ev)]) (fun l=>l.length*by_<=reachBytes/\∀a∈l,Ok a):=by
 intro base hd n hn cs x hx hw;rcases DataW.trod_slice ht hx with⟨rfl,rfl⟩|⟨a,len,cap,elems,rest,m,rfl,rfl,rfl,hb,hle,hm,hlen,hel,hsp,_⟩
 ·exact⟨[],by simp only[aJ,List.map_nil,VR];exact⟨_,_,rfl,⟨none,0,rfl,CN _,fun _=>rfl,fun q hq=>by cases hq⟩,rfl⟩,by simp,fun a ha=>by cases ha⟩
 obtain⟨hrl,hre⟩:=hsp rfl;rw[hsz]at hel hre;simp only[DataW.weights,ht,C8,Da,hby]at hw;have hspot:0<cap->a.spot=none:=by
  intro hc;have:∃y,(W.cells? base (a.add 0) sz).bind (DataW.trod enc P W base (fun _=>true) hd m e)=some y:=by
   by_cases h1:0<len
   ·have:=hel 0 h1
    rw[CV (by omega)]at this;exact⟨_,by simpa using this⟩
   ·have:=hre 0 (by omega)
    rw[CV (by omega)]at this;obtain rfl:len=0:=by omega
    exact⟨_,by simpa using this⟩
  obtain⟨y,hy⟩:=this;obtain⟨cs,hcs,_⟩:=Fa.1 hy;obtain⟨_,hl,hc⟩:=World.cells?_some hcs;have h2:=hc 0 h0;rw[CV (by omega)]at h2;have h3:=World.cell?_spot h2;have e:(a.add 0).add 0=a:=by unfold Addr.add;simp
  rwa [e]at h3
 have hx:∀i,i<len->∃y:α,(∃v,VR (ga W) [] (ev y) v/\v.cells.size=sz/\cW (ga W) a.block (a.off+i*sz) v.cells.toList)/\Ok y:=by
  intro i hi;have h1:=hel i hi;rw[CV (by omega)]at h1;obtain⟨cs,hcs,htr⟩:=Fa.1 h1;obtain⟨y,hy,hok⟩:=h base hd m (by omega) cs _ htr (fun k hk=>hw k (.inr (.inl (gw (D2.2 ⟨_,C3 _,rfl⟩) k hk))));obtain⟨_,hl,hc⟩:=World.cells?_some hcs;obtain⟨v,hv,hvc⟩:=hev y _ _ cs hy hl;refine⟨y,⟨v,hv,by rw[<- Dm,hvc,hl],fun j u hj=>?_⟩,hok⟩;rw[hvc]at hj;have hjl:j<sz:=by
   rcases CW j cs.length with h|h
   ·omega
   ·rw[CP h]at hj;cases hj
  have h2:=hc j hjl;rw[hj]at h2;unfold ga;have hs:=hspot (by omega);have e:(a.add (i*sz)).add j=⟨a.block,a.off+i*sz+j,none⟩:=by
   obtain⟨b,o,s⟩:=a;simp only at hs;subst hs;rw[add_plain,add_plain]
  rw[<- e];exact h2
 obtain⟨l,hl1,hl2⟩:=q4 (fun i y=>(∃v,VR (ga W) [] (ev y) v/\v.cells.size=sz/\cW (ga W) a.block (a.off+i*sz) v.cells.toList)/\Ok y) len hx;refine⟨l,?_,?_,fun y hy=>?_⟩
 ·simp only[aJ,VR,DY];refine⟨_,_,rfl,⟨some a,cap,by rw[hl1],by omega,(fun e=>by cases e),fun q hq=>?_⟩,rfl⟩;cases hq;refine⟨hspot,sz,.of_get fun i e he=>?_⟩;rw[Dz,Do]at he;obtain⟨y,hy,rfl⟩:=he;exact (hl2 i y hy).1
 ·have:=hw _ (.inl rfl)
  simp only[DY]at this;have h3:=CR by_ (show l.length<=elems.length+rest.length by omega);omega
 ·obtain⟨i,hi,e⟩:=List.getElem_of_mem hy;exact (hl2 i y (by rw[CV hi,e])).2
theorem fB{tot:Nat}:uC enc P W N tot tot [] (fun _:Unit=>[]) (fun _=>True):=fun base hd n hn cs xs hl _ _ _=>⟨(),by simp[aJ,<- hl],trivial⟩
theorem aP{tot o k:Nat}{f:Field}{fs:List Field}{c1:α->List AV}{Ok1:α->Prop}{c2:β->List AV}{Ok2:β->Prop}(h1:Rd enc P W N f.type c1 Ok1)(ho:f.offset=o)(hk:P.cellsOf f.type=k)(h2:uC enc P W N tot (o+k) fs c2 Ok2):
  uC enc P W N tot o (f:: fs) (fun x:α×β=>c1 x.1++c2 x.2) (fun x=>Ok1 x.1/\Ok2 x.2):=by
 intro base hd n hn cs xs hl hx hf hw
 match xs,hx with
 |x:: xs,hx=>
  have hf0:=hf 0 f rfl;rw[ho,hk]at hf0;simp only[Dp,DataW.weightsEach,Da]at hw;obtain⟨a,ha,oa⟩:=h1 base hd n hn _ x hf0 fun k hk=>hw k (.inl hk);obtain⟨b,hb,ob⟩:=h2 base hd n hn cs xs hl (by simpa using hx) (fun i g hg=>by simpa using hf (i+1) g (by simpa using hg)) fun k hk=>hw k (.inr hk);refine⟨(a,b),?_,oa,ob⟩
  have:=ha.append hb
  rwa [<- List.drop_drop,List.take_append_drop]at this
theorem eK{fs:Array Field}{tot:Nat}{cells:α->List AV}{Ok:α->Prop}(ht:P.underlying t=some (.struct fs))(hc:P.cellsOf t=tot)(h:uC enc P W N tot 0 fs.toList cells Ok):Rd enc P W (N+1) t cells Ok:=by
 intro base hd n hn cs x hx hw;obtain⟨xs,m,rfl,rfl,hl,hxs,hf⟩:=DataW.trod_struct ht hx;simp only[DataW.weights,ht]at hw;obtain⟨a,h1,h2⟩:=h base hd m (by omega) cs xs (by rw[hl,hc]) (by simpa using hxs) (fun i f hi=>hf i f (by simpa using hi)) hw;exact⟨a,by simpa using h1,h2⟩
theorem ub{cells:α->List AV}{Ok:α->Prop}(h:∀N,Rd enc P W N t cells Ok){base:Nat}{held:Bool}{v:Value}{d:DataW H}{p:List MemPlace}(hd:DataW.Trod enc P W base (fun _=>true) held t v d p)(hw:∀k∈d.weights P t,k<=reachBytes):
  ∃a:α,aJ (ga W) [] (cells a) v.cells.toList/\Ok a:=by
 obtain⟨n,hn⟩:=hd;exact h (n+1) base held n (by omega) _ _ hn hw
theorem rj{f:α->AV}{Ok:α->Prop}(h:∀N,Rd enc P W N t (fun a=>[f a]) Ok){base:Nat}{held:Bool}{v:Value}{d:DataW H}{p:List MemPlace}(hv:v.cells.toList=[v])(hd:DataW.Trod enc P W base (fun _=>true) held t v d p)(hw:∀k∈d.weights P t,k<=reachBytes):
  ∃a:α,VR (ga W) [] (f a) v/\Ok a:=by
 obtain⟨a,h1,h2⟩:=ub h hd hw;rw[hv]at h1;simp only[aJ]at h1;obtain⟨y,ys,e,h1,rfl⟩:=h1;cases e;exact⟨a,h1,h2⟩
theorem uI{r:Reach}{b0:Nat}{f:α->AV}{Ok:α->Prop}(h:∀N,Rd enc P W N t (fun a=>[f a]) Ok)(ht:P.underlying t=some .string){base:Nat}{held:Bool}{v:Value}{d:DataW H}{p:List MemPlace}(hok:Value.okWide P W r b0 t v)(hd:DataW.Trod enc P W base (fun _=>true) held t v d p)(hw:∀k∈d.weights P t,k<=reachBytes):∃a:α,VR (ga W) [] (f a) v/\Ok a:=by
 obtain⟨a,rfl⟩:=okWide_string ht hok;exact rj h rfl hd hw
theorem uH{k:IntKind}{r:Reach}{b0:Nat}{f:α->AV}{Ok:α->Prop}(h:∀N,Rd enc P W N t (fun a=>[f a]) Ok)(ht:P.underlying t=some (.int k)){base:Nat}{held:Bool}{v:Value}{d:DataW H}{p:List MemPlace}(hok:Value.okWide P W r b0 t v)(hd:DataW.Trod enc P W base (fun _=>true) held t v d p)(hw:∀k∈d.weights P t,k<=reachBytes):∃a:α,VR (ga W) [] (f a) v/\Ok a:=by
 obtain⟨a,rfl⟩:=okWide_int ht hok;exact rj h rfl hd hw
theorem px{fs:Array Field}{r:Reach}{b0:Nat}{f:α->AV}{Ok:α->Prop}{cells:α->List AV}(h:∀N,Rd enc P W N t cells Ok)(hf:∀a,f a= .agg (cells a))(ht:P.underlying t=some (.struct fs)){base:Nat}{held:Bool}{v:Value}{d:DataW H}{p:List MemPlace}(hok:Value.okWide P W r b0 t v)(hd:DataW.Trod enc P W base (fun _=>true) held t v d p)(hw:∀k∈d.weights P t,k<=reachBytes):∃a:α,VR (ga W) [] (f a) v/\Ok a:=by
 obtain⟨cs,rfl,_⟩:=okWide_struct ht hok;obtain⟨a,h1,h2⟩:=ub h hd hw;refine⟨a,?_,h2⟩;rw[hf];simp only[VR];exact⟨cs.toList,by simp,h1⟩
theorem gW{ts:List TypeId}{ds:List (DataW H)}(h:(DataW.weightsEach P ts ds).all (· <=reachBytes)=true){j:Nat}{u:TypeId}{d:DataW H}(ht:ts[j]? = some u)(hd:ds[j]? = some d):∀k∈d.weights P u,k<=reachBytes:=fun k hk=>by
 have:=CY.1 h _ (DataW.weights_mem_each ht hd k hk)
 simpa using this
end
end Go.Av
namespace Go.Av
attribute [simp] aL ao sR rJ
@[simp] theorem ay{α:Type}(b:Bool)(x y:M α):ax (.bool b) x y=if b=true then x else y:=by cases b<;>rfl
def gv(b w:Bool)(y:AV):AV:=bif b== w then y else .tup []
@[simp] theorem BL(y:AV):gv false false y=y:=rfl
@[simp] theorem BO(y:AV):gv true true y=y:=rfl
@[simp] theorem BM(y:AV):gv false true y= .tup []:=rfl
@[simp] theorem BN(y:AV):gv true false y= .tup []:=rfl
@[simp high] theorem dC(b w:Bool)(y:AV):au (.bool b) w 1 (M.pure [y])=M.pure [gv b w y]:=by cases b<;>cases w<;>rfl
@[simp high] theorem yw(b w c w2:Bool)(y:AV):au (gv b w (.bool c)) w2 1 (M.pure [y])=M.pure [gv b w (gv c w2 y)]:=by cases b<;>cases w<;>cases c<;>cases w2<;>rfl
@[simp high] theorem yx(b w c e:Bool):au (.bool b) w 1 (ae (af (aE (gv b w (.bool c)) (.bool true) (gv b w (gv c false (.bool e))))) fun v=>M.pure [v])=M.pure [gv b w (.bool (c||e))]:=by
 cases b<;>cases w<;>cases c<;>rfl
@[simp high] theorem xU(b w c e:Bool):au (.bool b) w 1 (ae (af (aE (gv b w (.bool c)) (gv b w (gv c true (.bool e))) (.bool false))) fun v=>M.pure [v])=M.pure [gv b w (.bool (c&&e))]:=by
 cases b<;>cases w<;>cases c<;>rfl
@[simp high] theorem yN(b c:Bool):aE (.bool b) (gv b true (.bool c)) (.bool false)=some (.bool (b&&c)):=by cases b<;>rfl
@[simp high] theorem lk(b c:Bool):aE (.bool b) (.bool true) (gv b false (.bool c))=some (.bool (b||c)):=by cases b<;>rfl
@[simp] theorem vw(w:Bool)(n:Nat)(m:M (List AV)):au (.bool !w) w n m=M.pure (List.replicate n (.tup [])):=by cases w<;>rfl
@[simp] theorem ck(w:Bool)(n:Nat)(m:M (List AV)):au (.bool w) w n m=m:=by cases w<;>rfl
@[simp] theorem yv(n:Nat)(m:M (List AV)):au (.bool false) true n m=M.pure (List.replicate n (.tup [])):=rfl
@[simp] theorem yy(n:Nat)(m:M (List AV)):au (.bool true) false n m=M.pure (List.replicate n (.tup [])):=rfl
@[simp] theorem xV(w:Bool)(n:Nat)(m:M (List AV)):au (.tup []) w n m=M.pure (List.replicate n (.tup [])):=rfl
@[simp] theorem dR(x y:AV):aE (.bool true) x y=some x:=rfl
@[simp] theorem gt(x y:AV):aE (.bool false) x y=some y:=rfl
@[simp] theorem aS(x:AV)(l:List AV):nth (x:: l) 0=x:=rfl
@[simp] theorem be(x:AV)(l:List AV)(n:Nat):nth (x:: l) (n+1)=nth l n:=rfl
@[simp] theorem Bu{α:Type}(k:List AV->M α)(m:(List AV->M α)->M α):jn k m=m k:=rfl
@[simp] theorem g8{α:Type}(a:α):c7 (M.pure a)=M.pure a:=rfl
@[simp] theorem kc(b:Bool):gJ .not (.bool b)=some (.bool !b):=rfl
@[simp] theorem vr(l:List AV)(i:Nat):ec (.tup l) i=l[i]?:=rfl
@[simp] theorem xb:True:=trivial
@[simp] theorem yd(l k:Nat):bZ (.hp l k)=some (.hp l k):=rfl
@[simp] theorem ye(cs:List AV):bZ (.ip cs)=some (.ip cs):=rfl
@[simp] theorem pt(s:List UInt8):ab (.str s)=[.str s]:=rfl
@[simp] theorem xl(k:IntKind)(n:Int):ab (.int k n)=[.int k n]:=rfl
@[simp] theorem xk(cs:List AV):ab (.agg cs)=cs:=rfl
@[simp] theorem cB(T:TT)(t:Nat)(a b:Int):ap T .add t (.int .i64 a) (.int .i64 b)=some (.int .i64 (IntKind.i64.wrap (a+b))):=rfl
@[simp] theorem jY(T:TT)(t:Nat)(a b:Int):ap T .sub t (.int .i64 a) (.int .i64 b)=some (.int .i64 (IntKind.i64.wrap (a-b))):=rfl
@[simp] theorem AC(T:TT)(t:Nat)(a b:Int):ap T .mul t (.int .i64 a) (.int .i64 b)=some (.int .i64 (IntKind.i64.wrap (a*b))):=rfl
@[simp] theorem bn(T:TT)(t:Nat)(a b:Int):ap T .lss t (.int .i64 a) (.int .i64 b)=some (.bool (decide (a<b))):=rfl
@[simp] theorem hQ(T:TT)(t:Nat)(a b:Int):ap T .leq t (.int .i64 a) (.int .i64 b)=some (.bool (decide (a<=b))):=rfl
@[simp] theorem AB(T:TT)(t:Nat)(a b:Int):ap T .gtr t (.int .i64 a) (.int .i64 b)=some (.bool (decide (b<a))):=rfl
@[simp] theorem mQ(T:TT)(t:Nat)(a b:Int):ap T .geq t (.int .i64 a) (.int .i64 b)=some (.bool (decide (b<=a))):=rfl
@[simp] theorem AA(T:TT)(t:Nat)(a b:Int):ap T .eql t (.int .i64 a) (.int .i64 b)=some (.bool (a== b)):=rfl
@[simp] theorem uK(T:TT)(t:Nat)(a b:Int):ap T .neq t (.int .i64 a) (.int .i64 b)=some (.bool (a != b)):=rfl
@[simp] theorem AO(T:TT)(t:Nat)(a b:List UInt8):ap T .eql t (.str a) (.str b)=some (.bool (a== b)):=rfl
@[simp] theorem AR(T:TT)(t:Nat)(a b:List UInt8):ap T .neq t (.str a) (.str b)=some (.bool !(a== b)):=rfl
@[simp] theorem AQ(T:TT)(t:Nat)(a b:List UInt8):ap T .lss t (.str a) (.str b)=some (.bool (cN a b)):=rfl
@[simp] theorem AP(T:TT)(t:Nat)(a b:List UInt8):ap T .geq t (.str a) (.str b)=some (.bool !(cN a b)):=rfl
@[simp] theorem bN{n:Nat}{x:AV}(h:bO n x=true):bo n x=M.pure (.agg (ab x)):=by
 unfold bo fH;rw[h];rfl
@[simp] theorem bA{n:Nat}{x:AV}(h:bO n x=true):aA n [] x=M.pure (.agg (ab x)):=by
 unfold aA fH;rw[h];rfl
@[simp] theorem yC(b:Bool)(x:AV):eC b [x]=some x:=by simp[eC]
@[simp] theorem yD(b:Bool)(a c:Int):eC b [.int .i64 a,.int .i64 c]=some (.int .i64 (if b=true then max a c else min a c)):=by
 cases b
 ·simp only[eC,sg,CK];congr 2;simp only[Int.min_def];split<;>split<;>simp_all<;>omega
 ·simp only[eC,sg,CH];congr 2;simp only[Int.max_def];split<;>split<;>simp_all<;>omega
def bF{x:Int}(h1:-9223372036854775808<=x)(h2:x<=9223372036854775807):IntKind.i64.wrap x=x:=IntWalk.i64_in _ ⟨h1,h2⟩
def uv{n:Nat}(h:n<=4611686018427387904):IntKind.i64.wrap (n:Int)=(n:Int):=IntWalk.i64_in _ (by omega)
def bT{n:Nat}(h:n<=4611686018427387904):IntKind.i64.wrap ((n:Int)+1)=((n+1:Nat):Int):=by
 rw[IntWalk.i64_in _ (by omega)];omega
def gG{n:Nat}(h:n<=4611686018427387904):IntKind.i64.wrap (((n+1:Nat):Int)-1)=(n:Int):=by
 rw[IntWalk.i64_in _ (by omega)];omega
namespace Ap
mutual
def Val.sz:Val->Nat
 |.mk _ _ ns vs=>1+ns.length+ut vs
def ut:List Val->Nat
 |[]=>0
 |v:: vs=>v.sz+ut vs
end
end Ap
end Go.Av
namespace Go.Av
def kG{α:Type}(F:α->Bool):List α->Int->Int
 |[],_=>-1
 |x:: l,i=>if F x=true then i else kG F l (i+1)
@[simp] theorem xc(a b:Nat):((a:Int)== (b:Int))=(a== b):=by rw[Ew];simp;omega
@[simp] theorem vM(a:Nat):((a:Int)== 0)=(a== 0):=by rw[Ew];simp
@[simp] theorem xd(a b:Nat):((a:Int) != (b:Int))=(a != b):=by rw[Ew];simp;omega
end Go.Av
namespace Go.Av
open Ap
@[simp high] theorem xD(x:Val):bo 4 (Val.av x)=M.pure (Val.av x):=by rw[bN (lh x),kj,oz]
@[simp high] theorem uV(x:Val):aA 4 [] (Val.av x)=M.pure (Val.av x):=by rw[bA (lh x),kj,oz]
@[simp high] theorem pG(x:Exp):bo 6 (Exp.av x)=M.pure (Exp.av x):=by rw[bN (gm x),bj,dB]
@[simp high] theorem uP(x:Exp):aA 6 [] (Exp.av x)=M.pure (Exp.av x):=by rw[bA (gm x),bj,dB]
@[simp high] theorem pH(x:c6):bo 3 (bW x)=M.pure (bW x):=by rw[bN (iA x),df,io]
@[simp high] theorem uQ(x:c6):aA 3 [] (bW x)=M.pure (bW x):=by rw[bA (iA x),df,io]
@[simp high] theorem pI(x:Fun):bo 12 (Fun.av x)=M.pure (Fun.av x):=by rw[bN (gn x),cP,iq]
@[simp high] theorem uR(x:Fun):aA 12 [] (Fun.av x)=M.pure (Fun.av x):=by rw[bA (gn x),cP,iq]
@[simp high] theorem xA(x:Mod):bo 9 (Mod.av x)=M.pure (Mod.av x):=by rw[bN (lc x),cQ,ou]
@[simp high] theorem uS(x:Mod):aA 9 [] (Mod.av x)=M.pure (Mod.av x):=by rw[bA (lc x),cQ,ou]
@[simp high] theorem wT(x:Vars):bo 2 (Vars.av x)=M.pure (Vars.av x):=by rw[bN (my x),jt,mj]
@[simp high] theorem uA(x:Vars):aA 2 [] (Vars.av x)=M.pure (Vars.av x):=by rw[bA (my x),jt,mj]
@[simp high] theorem wS(x:Deed):bo 3 (Deed.av x)=M.pure (Deed.av x):=by rw[bN (mw x),jr,mi]
@[simp high] theorem uz(x:Deed):aA 3 [] (Deed.av x)=M.pure (Deed.av x):=by rw[bA (mw x),jr,mi]
@[simp high] theorem wR(x:Ap.Call):bo 3 (Ap.Call.av x)=M.pure (Ap.Call.av x):=by rw[bN (mu x),jq,mh]
@[simp high] theorem uy(x:Ap.Call):aA 3 [] (Ap.Call.av x)=M.pure (Ap.Call.av x):=by rw[bA (mu x),jq,mh]
@[simp high] theorem xB(x:Ap.Out):bo 8 (Ap.Out.av x)=M.pure (Ap.Out.av x):=by rw[bN (oS x),kh,ov]
@[simp high] theorem uT(x:Ap.Out):aA 8 [] (Ap.Out.av x)=M.pure (Ap.Out.av x):=by rw[bA (oS x),kh,ov]
@[simp] theorem kb(t:Ty):bO 2 t.av=true:=by simp[bO,aW,a8]
@[simp high] theorem yr(x:Ty):bo 2 (Ty.av x)=M.pure (Ty.av x):=by rw[bN (kb x),iW,j0]
@[simp high] theorem wU(x:Ty):aA 2 [] (Ty.av x)=M.pure (Ty.av x):=by rw[bA (kb x),iW,j0]
end Go.Av
namespace Go.Av
@[simp] theorem uB(c:Prop)[Decidable c](a b:Bool):(if c then(M.pure (.bool a):M AV)else M.pure (.bool b))=M.pure (.bool (if c then a else b)):=by split<;>rfl
@[simp] theorem vB(c:Prop)[Decidable c](a b:Int):(if c then(M.pure (.int .i64 a):M AV)else M.pure (.int .i64 b))=M.pure (.int .i64 (if c then a else b)):=by split<;>rfl
def vt{F:(List AV->M AV)->List AV->M AV}(hF:∀vs,ai F vs=F (ai F) vs)(st:Nat->List AV)(n:Nat)(G:Nat->Bool)(hend:F (ai F) (st n)=M.pure (.bool true))(hstep:∀k,k<n->F (ai F) (st k)=if G k=true then ai F (st (k+1))else M.pure (.bool false)):
  ∀k,k<=n->ai F (st k)=M.pure (.bool ((List.range' k (n-k)).all G)):=by
 have key:∀r k,n-k=r->k<=n->ai F (st k)=M.pure (.bool ((List.range' k r).all G)):=by
  intro r
  induction r with
  |zero=>
   intro k hr hk;obtain rfl:k=n:=by omega
   rw[hF,hend];rfl
  |succ r ih=>
   intro k hr hk;rw[hF,hstep k (by omega),ih (k+1) (by omega) (by omega)];simp only[E2,DZ];cases G k<;>rfl
 exact fun k hk=>key (n-k) k rfl hk
def pu{α:Type}[Inhabited α](P:α->Bool)(l:List α):(List.range' 0 l.length).all (fun k=>P l[k]!)=l.all P:=by
 rw[Ew];simp only[CY,List.mem_range'_1];constructor
 ·intro h x hx;obtain⟨i,hi,rfl⟩:=List.getElem_of_mem hx
  have:=h i ⟨C9 _,by omega⟩
  rwa [Dc l i hi]at this
 ·intro h k hk;have hk':k<l.length:=by omega
  rw[Dc l k hk'];exact h _ (C3 hk')
end Go.Av
namespace Go.Av.Ap
open Go Go.Av
def Val.limN:Nat->Val->Prop
 |0,_=>True
 |n+1,v=>v.names.length<=140737488355328/\v.values.length<=140737488355328/\∀x∈v.values,x.limN n
def Val.Lim(v:Val):Prop:=∀n,v.limN n
def Exp.limN:Nat->Exp->Prop
 |0,_=>True
 |n+1,v=>v.names.length<=8796093022208/\v.args.length<=140737488355328/\∀x∈v.args,x.limN n
def Exp.Lim(v:Exp):Prop:=∀n,v.limN n
def Ty.limN:Nat->Ty->Prop
 |0,_=>True
 |n+1,v=>v.fields.length<=140737488355328/\∀x∈v.fields,x.2.limN n
def Ty.Lim(v:Ty):Prop:=∀n,v.limN n
def Val.Lim.names{v:Val}(h:v.Lim):v.names.length<=140737488355328:=(h 1).1
def Val.Lim.len{v:Val}(h:v.Lim):v.values.length<=140737488355328:=(h 1).2.1
def Val.Lim.kid{v:Val}(h:v.Lim){x:Val}(hx:x∈v.values):x.Lim:=fun n=>(h (n+1)).2.2 x hx
def Exp.Lim.names{v:Exp}(h:v.Lim):v.names.length<=8796093022208:=(h 1).1
def Exp.Lim.len{v:Exp}(h:v.Lim):v.args.length<=140737488355328:=(h 1).2.1
def Exp.Lim.kid{v:Exp}(h:v.Lim){x:Exp}(hx:x∈v.args):x.Lim:=fun n=>(h (n+1)).2.2 x hx
def Ty.Lim.len{v:Ty}(h:v.Lim):v.fields.length<=140737488355328:=(h 1).1
def Ty.Lim.kid{v:Ty}(h:v.Lim){x:c6}(hx:x∈v.fields):x.2.Lim:=fun n=>(h (n+1)).2 x hx
structure Fun.Lim (f:Fun):Prop where
 params:f.params.length<=140737488355328
 pty:∀x∈f.params,x.2.Lim
 result:f.result.Lim
 body:f.body.Lim
structure Mod.Lim (m:Mod):Prop where
 uses:m.uses.length<=140737488355328
 vars:m.vars.length<=140737488355328
 vty:∀x∈m.vars,x.2.Lim
 init:m.init.length<=140737488355328
 ies:∀e∈m.init,e.Lim
 funcs:m.funcs.length<=140737488355328
 fns:∀f∈m.funcs,f.Lim
 old:m.old.length<=140737488355328
 oty:∀x∈m.old,x.2.Lim
 forward:m.forward.length<=140737488355328
 fes:∀e∈m.forward,e.Lim
 back:m.back.length<=140737488355328
 bes:∀e∈m.back,e.Lim
def ka(b:UInt8):Bool:=decide (97<=b.toNat)&&decide (b.toNat<=122)
def pO(b:UInt8):Bool:=decide (48<=b.toNat)&&decide (b.toNat<=57)
def kl(b:UInt8):Bool:=ka b||pO b
def jU(s:bz):Bool:=!(s== [])&&ka (s.headD 0)&&decide (s.length<=20)&&((s.takeWhile kl).length== s.length)
def gD:bz:=[32,97,110,100,32,98,97,99,107,32,98,111,111,108,32,99,108,111,99,107,32,101,108,115,101,32,102,97,108,115,101,32,102,105,108,101,115,32,102,110,32,102,111,114,119,97,114,100,32,103,101,116,32,105,102,32,105,110,32,105,110,116,32,108,101,116,32,109,111,100,117,108,101,32,109,111,118,101,32,110,101,116,32,110,111,116,32,111,114,32,112,117,98,32,115,101,99,114,101,116,115,32,115,101,116,32,116,104,101,110,32,116,114,117,101,32,117,115,101,32,118,97,114,32]
def bB(s:bz):Bool:=jU s&&!(Lib.contains gD ([32]++s++[32]))
def sD{s:bz}(h:jU s=true):s.length<=20:=by
 unfold jU at h;simp only[CI,CO]at h;exact h.1.2
def dh(p f:bz):Bool:=!(cN f p||f== p)
def iY{α:Type}(Q:α->α->Bool):List α->Bool
 |x:: y:: r=>Q x y&&iY Q (y:: r)
 |_=>true
theorem nR{α:Type}[Inhabited α](Q:α->α->Bool):(l:List α)->(iY Q l=true↔∀k,k+1<l.length->Q l[k]! l[k+1]! = true)
 |[]=>by simp[iY]
 |[x]=>by simp[iY]
 | x:: y:: r=>by
  simp only[iY,CI,nR Q (y:: r)];constructor
  ·rintro⟨h1,h2⟩ k hk;cases k with
   |zero=>simpa using h1
   |succ k=>simpa using h2 k (by simpa using hk)
  ·intro h;refine⟨by simpa using h 0 (by simp),fun k hk=>?_⟩;simpa using h (k+1) (by simpa using hk)
def qH{α:Type}[Inhabited α](P:α->Bool)(Q:α->α->Bool)(l:List α):(List.range' 0 l.length).all (fun k=>P l[k]! && (decide (k=0)||Q l[k-1]! l[k]!))=(l.all P&&iY Q l):=by
 rw[Ew,CI,<- pu P l,nR];simp only[CY,List.mem_range'_1,CI,DF,CO];constructor
 ·intro h;refine⟨fun k hk=>(h k hk).1,fun k hk=>?_⟩
  have:=(h (k+1) ⟨C9 _,by omega⟩).2
  rcases this with h0|h1
  ·omega
  ·simpa using h1
 ·rintro⟨h1,h2⟩ k hk;refine⟨h1 k hk,?_⟩;cases k with
  |zero=>exact .inl rfl
  |succ k=>exact .inr (by simpa using h2 k (by omega))
def cV:Nat->Ty->Bool
 |0,_=>false
 |d+1,t=>decide (0<=t.kind)&&decide (t.kind<3)&&decide (t.fields.length<=8)&&(t.kind== 2||t.fields.length== 0)&&(t.fields.all (fun f=>bB f.1&&cV d f.2)&&iY (fun a b=>dh a.1 b.1) t.fields)
theorem oY(d:Nat)(t:Ty):cV (d+1) t=(decide (0<=t.kind)&&decide (t.kind<3)&&decide (t.fields.length<=8)&&(t.kind== 2||t.fields.length== 0)&&(t.fields.all (fun f=>bB f.1&&cV d f.2)&&iY (fun a b=>dh a.1 b.1) t.fields)):=rfl
abbrev eW(t:Ty):Bool:=cV 4 t
mutual
def xt:Ty->Ty->Bool
 |.mk k fs,a=>a.kind== k&&qL fs a.fields
def qL:List (bz×Ty)->List c6->Bool
 |[],_=>true
 |f:: fs,l=>xu f l&&qL fs l
def xu:bz×Ty->List c6->Bool
 |(n,t),l=>match tK (fun z=>z.1== n) l with
  |some z=>xt t z.2
  |none=>false
end
def gz(a b:Int):Int:=IntKind.i64.wrap (BitVec.ofInt 64 a &&& ~~~ BitVec.ofInt 64 b).toNat
structure Sig.Lim (s:Sig):Prop where
 plen:s.params.length<=140737488355328
 ptys:∀t∈s.params,t.Lim
 result:s.result.Lim
structure Face.Lim (f:Face):Prop where
 len:f.funcs.length<=140737488355328
 sigs:∀s∈f.funcs,s.Lim
@[simp] theorem xC(x:Sig):bo 5 x.av=M.pure x.av:=by rw[bN (lg x),ki,ow]
@[simp] theorem uU(x:Sig):aA 5 [] x.av=M.pure x.av:=by rw[bA (lg x),ki,ow]
structure Ins where
 op:Int
 a:Int
 s:bz
 m:bz
 names:List bz
 deriving Inhabited
def Ins.cells(i:Ins):List AV:=[.int .i64 i.op,.int .i64 i.a,.str i.s,.str i.m,strs i.names]
def Ins.av(i:Ins):AV:=.agg i.cells
structure Cod where
 func:bz
 params:Int
 locals:Int
 code:List Ins
 deriving Inhabited
def r9(l:List Ins):AV:=.sl (l.map Ins.av)
def Cod.av(c:Cod):AV:=.agg [.str c.func,.int .i64 c.params,.int .i64 c.locals,r9 c.code]
def eq(l:List Cod):AV:=.sl (l.map Cod.av)
def bi(op a:Int):Ins:=⟨op,a,[],[],[]⟩
def kM(names:List bz)(s:bz):Nat->Int
 |0=>-1
 |n+1=>if names[n]? = some s then(n:Int)else kM names s n
def q3(names:List bz)(s:bz):Int:=kM names s names.length
def vV(vars:List c6)(s:bz):Int:=kG (fun f=>f.1== s) vars 0
def iK(c:List Ins)(k:Nat)(n:Int):List Ins:=c.set k { c[k]! with a:=n }
def fU(n:Int):Exp:=.mk 1 n [] [] [] []
abbrev eX:=List Ins×Int
def dw(i:Ins)(c:eX):eX:=(c.1++[i],c.2)
def jm(vars:List c6)(e:Exp):Ins:=
 if e.op=3 then bi 4 0 else if e.op=4 then bi 5 0 else if e.op=5 then bi 6 0 else if e.op=6 then bi 7 0 else if e.op=7 then bi 8 0 else if e.op=10 then bi 9 0
 else if e.op=13 then⟨12,0,[],[],e.names⟩else if e.op=14 then⟨13,0,e.s,[],[]⟩else if e.op=15 then⟨14,e.args.length,e.s,e.m,[]⟩else if e.op=16 then bi 15 e.n else bi 17 (vV vars e.s)
def eE(em:Exp->eX->eX)(yes no:Exp)(c:eX):eX:=
 let c1:=dw (bi 11 0) c;let c2:=em yes c1;let c3:=dw (bi 10 0) c2;let c4:eX:=(iK c3.1 c.1.length c3.1.length,c3.2);let c5:=em no c4
 (iK c5.1 c2.1.length c5.1.length,c5.2)
def bm(vars:List c6):Nat->Exp->List bz->eX->eX
 |0,_,_,c=>c
 | n+1,e,names,c=>
  if e.op=0 then dw (bi 0 e.n) c
  else if e.op=1 then dw (bi 1 e.n) c
  else if e.op=2 then dw (bi 2 (q3 names e.s)) c
  else if e.op=17 then dw (bi 16 (vV vars e.s)) c
  else if e.op=8 then eE (fun x=>bm vars n x names) e.args[1]! (fU 0) (bm vars n e.args[0]! names c)
  else if e.op=9 then eE (fun x=>bm vars n x names) (fU 1) e.args[1]! (bm vars n e.args[0]! names c)
  else if e.op=11 then eE (fun x=>bm vars n x names) e.args[1]! e.args[2]! (bm vars n e.args[0]! names c)
  else if e.op=12 then
   let c1:=dw (bi 3 names.length) (bm vars n e.args[0]! names c)
   bm vars n e.args[1]! (names++[e.s]) (c1.1,max c1.2 (names.length+1))
  else dw (jm vars e) (e.args.foldl (fun c x=>bm vars n x names c) c)
def cL(vars:List c6)(f:Fun):Cod:=
 let c:=dw (bi 18 0) (bm vars 12 f.body (f.params.map (·.1)) ([],f.params.length))
 ⟨f.name,f.params.length,c.2,c.1⟩
def dN(e:Exp):Exp×Int:=
 if e.op=0\/e.op=1 then(.mk e.op e.n [] [] [] e.args,0)
 else if e.op=2\/e.op=17 then(.mk e.op 0 e.s [] [] e.args,0)
 else if e.op=18\/e.op=14 then(.mk e.op 0 e.s [] [] e.args,1)
 else if e.op=16 then(.mk e.op e.n [] [] [] e.args,1)
 else if e.op=10 then(.mk e.op 0 [] [] [] e.args,1)
 else if e.op=12 then(.mk e.op 0 e.s [] [] e.args,2)
 else if e.op=11 then(.mk e.op 0 [] [] [] e.args,3)
 else if e.op=13 then(.mk e.op 0 [] [] e.names e.args,e.names.length)
 else if e.op=15 then(.mk e.op 0 e.s e.m [] e.args,-1)
 else(.mk e.op 0 [] [] [] e.args,2)
def nc(l:List bz):Bool:=(l.all bB&&iY dh l)&&decide (l.length<=8)
def dD(e:Exp):Bool:=
 if e.op=0 then decide (0<=e.n)&&decide (e.n<=1099511627776)
 else if e.op=1 then e.n== 0||e.n== 1
 else if e.op=16 then((e.n== 1||e.n== 2)||e.n== 4)||e.n== 8
 else if e.op=2\/e.op=17\/e.op=18\/e.op=14\/e.op=12 then bB e.s
 else if e.op=15 then bB e.s&&(e.m== []||bB e.m)&&decide (e.args.length<=6)
 else if e.op=13 then nc e.names
 else true
def dZ(e:Exp):Bool:=
 decide (0<=e.op)&&decide (e.op<19)&&(decide ((dN e).2<0)||((dN e).2== (e.args.length:Int)))&&((dN e).1.n== e.n)&&((dN e).1.s== e.s)&&((dN e).1.m== e.m)&&(((dN e).1.names.length:Int)== (e.names.length:Int))&&dD e
def bw:Nat->Exp->Bool
 |0,_=>false
 |d+1,e=>dZ e&&e.args.all (bw d)
theorem dv(d:Nat)(e:Exp):bw (d+1) e=(dZ e&&e.args.all (bw d)):=rfl
mutual
def Cl:Ty->Ty->Option Ty
 |.mk k fs,b=>if k=b.kind then some (.mk k (Az fs b.fields))else none
def Az:List (bz×Ty)->List c6->List c6
 |[],_=>[]
 |f:: fs,l=>(match Ck f l with|some x=>[x]|none=>[])++Az fs l
def Ck:bz×Ty->List c6->Option c6
 |(n,t),l=>match tK (fun z=>z.1== n) l with
  |some z=>(match Cl t z.2 with|some u=>some (n,u)|none=>none)
  |none=>none
end
def ff{e:Exp}(h:dZ e=true):(e.op=0/\e.args.length=0)\/(e.op=1/\e.args.length=0/\(e.n=0\/e.n=1))\/(e.op=2/\e.args.length=0)\/((e.op=3\/e.op=4\/e.op=5\/e.op=6\/e.op=7)/\e.args.length=2)\/((e.op=8\/e.op=9)/\e.args.length=2)\/(e.op=10/\e.args.length=1)\/(e.op=11/\e.args.length=3)\/(e.op=12/\e.args.length=2)\/(e.op=13/\e.names.length=e.args.length/\nc e.names=true)\/(e.op=14/\e.args.length=1)\/e.op=15\/(e.op=16/\e.args.length=1/\(e.n=1\/e.n=2\/e.n=4\/e.n=8))\/(e.op=17/\e.args.length=0)\/(e.op=18/\e.args.length=1):=by
 have hb:0<=e.op/\e.op<19:=by
  unfold dZ at h;simp only[CI,CO]at h;exact⟨h.1.1.1.1.1.1.1,h.1.1.1.1.1.1.2⟩
 have ho:e.op=0\/e.op=1\/e.op=2\/e.op=3\/e.op=4\/e.op=5\/e.op=6\/e.op=7\/e.op=8\/e.op=9\/e.op=10\/e.op=11\/e.op=12\/e.op=13\/e.op=14\/e.op=15\/e.op=16\/e.op=17\/e.op=18:=by omega
 rcases ho with o|o|o|o|o|o|o|o|o|o|o|o|o|o|o|o|o|o|o<;>simp[dZ,dN,dD,o,-List.length_eq_zero_iff]at h|- <;> first|omega|grind
def fm:Nat->Nat
 |0=>0
 |n+1=>3+8*fm n
def gu(c:List Ins)(k:Nat)(n:Int):(iK c k n).length=c.length:=by simp[iK]
def cu(i:Ins)(c:eX):(dw i c).1.length=c.1.length+1:=by simp[dw]
def uJ{e:Exp}(h:dZ e=true)(h6:e.op=15->e.args.length<=6):e.args.length<=8:=by
 rcases ff h with h|h|h|h|h|h|h|h|⟨h1,h2,h3⟩|h|h|h|h|h
 all_goals try omega
 simp only[nc,CI,CO]at h3;omega
def zB{e:Exp}(h:dZ e=true)(ho:e.op=15):e.args.length<=6:=by
 simp only[dZ,CI]at h
 have:=h.2
 unfold dD at this;rw[if_neg (by omega),if_neg (by omega),if_neg (by omega),if_neg (by omega),CJ ho]at this;simp only[CI,CO]at this;exact this.2
def sN{e:Exp}(h:dZ e=true):e.args.length<=8:=uJ h (zB h)
theorem ky(vars:List c6)(n:Nat)(t:Int)(names:List bz)(c:eX):bm vars (n+1) (fU t) names c=dw (bi 1 t) c:=rfl
def kd(em:eX->eX)(L:Nat):Prop:=∀c:eX,c.1.length<=(em c).1.length/\(em c).1.length<=c.1.length+L
def gT{em:Exp->eX->eX}{yes no:Exp}{L1 L2:Nat}(h1:kd (em yes) L1)(h2:kd (em no) L2):kd (eE em yes no) (L1+L2+2):=by
 intro c;unfold eE;simp only[gu];have a:=h1 (dw (bi 11 0) c);have e1:=cu (bi 11 0) c;generalize em yes (dw (bi 11 0) c)=c2 at *;have e2:=cu (bi 10 0) c2;have b:=h2 (iK (dw (bi 10 0) c2).1 c.1.length (dw (bi 10 0) c2).1.length,(dw (bi 10 0) c2).2);simp only[gu]at b;omega
theorem kD(em:Exp->eX->eX)(L:Nat):∀(l:List Exp),(∀x∈l,kd (em x) L)->kd (fun c=>l.foldl (fun c x=>em x c) c) (l.length*L)
 |[],_=>fun c=>by simp
 |x:: l,h=>fun c=>by
  have a:=h x (by simp) c;have b:=kD em L l (fun y hy=>h y (by simp[hy])) (em x c);simp only[List.foldl_cons,Dj,En]at b |-;omega
def dU{n:Nat}{e x:Exp}(h:bw (n+1) e=true)(hx:x∈e.args):bw n x=true:=by
 rw[dv,CI,CY]at h;exact h.2 x hx
def dV{n:Nat}{e:Exp}(h:bw n e=true):∃m,n=m+1:=by
 cases n with
 |zero=>simp[bw]at h
 |succ m=>exact⟨m,rfl⟩
def bU{n:Nat}{e:Exp}(h:bw (n+1) e=true){k:Nat}(hk:k<e.args.length):bw n e.args[k]! = true:=by
 rw[Dc e.args k hk];exact dU h (C3 hk)
theorem bc(vars:List c6):∀(n:Nat)(e:Exp),bw n e=true->∀names,kd (bm vars n e names) (fm n)
 |0,e,h,names=>by simp[bw]at h
 | n+1,e,h,names=>by
  have hs:dZ e=true:=by rw[dv,CI]at h;exact h.1
  have hc:=ff hs;have ha:=sN hs;intro c;unfold bm;simp only[fm];have htr:∀t,1<=n->kd (bm vars n (fU t) names) 1:=fun t hn c=>by
   obtain⟨m,rfl⟩:∃m,n=m+1:=⟨n-1,by omega⟩;rw[ky,cu];omega
  split
  ·rw[cu];omega
  split
  ·rw[cu];omega
  split
  ·rw[cu];omega
  split
  ·rw[cu];omega
  split
  ·rename_i ho;have hl:e.args.length=2:=by omega
   obtain⟨m,rfl⟩:=dV (bU h (k:=0) (by omega));have a:=bc vars _ _ (bU h (k:=0) (by omega)) names c;have b:=gT (em:=fun x=>bm vars (m+1) x names) (bc vars _ _ (bU h (k:=1) (by omega)) names) (htr 0 (by omega)) (bm vars (m+1) e.args[0]! names c);simp only[fm]at a b |-;omega
  split
  ·rename_i ho;have hl:e.args.length=2:=by omega
   obtain⟨m,rfl⟩:=dV (bU h (k:=0) (by omega));have a:=bc vars _ _ (bU h (k:=0) (by omega)) names c;have b:=gT (em:=fun x=>bm vars (m+1) x names) (htr 1 (by omega)) (bc vars _ _ (bU h (k:=1) (by omega)) names) (bm vars (m+1) e.args[0]! names c);simp only[fm]at a b |-;omega
  split
  ·rename_i ho;have hl:e.args.length=3:=by omega
   obtain⟨m,rfl⟩:=dV (bU h (k:=0) (by omega));have a:=bc vars _ _ (bU h (k:=0) (by omega)) names c;have b:=gT (em:=fun x=>bm vars (m+1) x names) (bc vars _ _ (bU h (k:=1) (by omega)) names) (bc vars _ _ (bU h (k:=2) (by omega)) names) (bm vars (m+1) e.args[0]! names c);simp only[fm]at a b |-;omega
  split
  ·rename_i ho;have hl:e.args.length=2:=by omega
   obtain⟨m,rfl⟩:=dV (bU h (k:=0) (by omega));have a:=bc vars _ _ (bU h (k:=0) (by omega)) names c;have e1:=cu (bi 3 names.length) (bm vars (m+1) e.args[0]! names c);have b:=bc vars _ _ (bU h (k:=1) (by omega)) (names++[e.s]) ((dw (bi 3 names.length) (bm vars (m+1) e.args[0]! names c)).1,max (dw (bi 3 names.length) (bm vars (m+1) e.args[0]! names c)).2 (names.length+1));simp only[fm]at a b |-;omega
  ·have b:=kD (fun x=>bm vars n x names) (fm n) e.args (fun x hx=>bc vars n x (dU h hx) names) c;rw[cu];have hm:e.args.length*fm n<=8*fm n:=CR _ ha;simp only at b |-;omega
end Go.Av.Ap
namespace Go.Av.Ap
open Go Go.Av
section
variable {α:Type} {f:α->AV} {sz:Nat}
def rowOf(f:α->AV)(l:List α):List AV:=(l.map f).flatMap ab
theorem dl(x:α)(l:List α):rowOf f (x:: l)=ab (f x)++rowOf f l:=by simp[rowOf]
theorem gE(hs:∀x,(ab (f x)).length=sz):(l:List α)->(rowOf f l).length=l.length*sz
 |[]=>by simp[rowOf]
 |x:: l=>by rw[dl,Dl,hs,gE hs l,Dj,En];omega
theorem jQ(hs:∀x,(ab (f x)).length=sz):(l:List α)->(i:Nat)->(h:i<l.length)->((rowOf f l).drop (i*sz)).take sz=ab (f l[i])
 |x:: l,0,_=>by
  rw[dl,Eb,DD,Fe (hs x)];rfl
 |x:: l,i+1,h=>by
  rw[dl,show (i+1)*sz=(ab (f x)).length+i*sz by rw[hs,En];omega,List.drop_append,DI (by omega),E7,DR];simpa using jQ hs l i (by simpa using h)
theorem rX(hs:∀x,(ab (f x)).length=sz)(hag:∀x,f x= .agg (ab (f x)))(hcl:∀x g,cl g (f x)=f x)(hz:0<sz){h:Hp}{q:Nat}{l:List α}(hq:h[q]? = some (rowOf f l))(d:Nat):
  hM (d+1) h (.hs q 0 l.length sz true)= .sl (l.map f):=by
 have hlen:=gE (f:=f) hs l;simp only[hM,cl,hq];have h1:(decide (0+l.length*sz<=(rowOf f l).length)&&decide (0<sz)&&(true||(Nat.beq sz 1&&(rowOf f l).all aW)))=true:=by
  simp[hlen,hz]
 rw[h1,CH];congr 1;apply List.ext_getElem
 ·simp
 ·intro i h2 h3;have hi:i<l.length:=by simpa using h2
  simp only[List.getElem_map,List.getElem_range,C2,CH];rw[jQ hs l i hi,<- hag];cases d with
  |zero=>exact hcl _ _
  |succ d=>exact hcl _ _
end
end Go.Av.Ap
namespace Go.Av.Ap
open Go Go.Av
abbrev ux:=bz×bz
def oV(r:ux):AV:=.agg [.str r.1,.str r.2]
def oW(l:List ux):AV:=.sl (l.map oV)
def qo(l:List (List ux)):AV:=.sl (l.map oW)
@[simp] theorem xn(r:ux):ab (oV r)=[.str r.1,.str r.2]:=rfl
@[simp] theorem zP(r:ux):AV.agg [.str r.1,.str r.2]=oV r:=rfl
@[simp] theorem tW(r:ux):bO 2 (oV r)=true:=rfl
@[simp] theorem yJ(l:List ux):bQ 2 (l.map oV)=true:=bX tW l
@[simp] theorem xF(g:Nat->Nat->Nat->Nat->Bool->AV)(r:ux):cl g (oV r)=oV r:=rfl
@[simp] theorem vd(g:Nat->Nat->Nat->Nat->Bool->AV)(l:List ux):cl g (oW l)=oW l:=by simp[oW,cl,cD g oV (xF g)]
@[simp] theorem zI(g:Nat->Nat->Nat->Nat->Bool->AV)(l:List (List ux)):cl g (qo l)=qo l:=by simp[qo,cl,cD g oW (vd g)]
section
variable {V:Type}
end
end Go.Av.Ap
namespace Go.Av.Ap
open Go Go.Av
mutual
def yf:Exp->List Exp
 |.mk o n s m ns es=>.mk o n s m ns es:: re es
def re:List Exp->List Exp
 |[]=>[]
 |e:: es=>yf e++re es
end
end Go.Av.Ap
namespace Go.Av
open Go
section
variable {F:Fence} {n:Nat} {P:Program} {w w':World} {ops:Array Oper} {rest:List Oper} {o:Oper} {a:Act} {Q:Exit->Act->World->Prop} {v:Value}
end
end Go.Av
