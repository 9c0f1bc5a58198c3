/- The abstract evaluator of the model and plain laws, part 3: its soundness holds for every program whose table of types is the evaluator's. No further condition. -/
import Derived.Test.YtgpmcoffkopjeaaGreatDoorLb
import Derived.KernelRfl
import Derived.Below
import Derived.Lib.IndexMore
import Derived.Lib.Fields
import Derived.Lib.AtoiAll
import Derived.Lib.SplitLaws
import Derived.Shelf.SlSortCmp.WholeK
import Derived.Lib.Bytealg
import Derived.IntWalk
import Derived.ChangeSame
import Derived.OpenShut
set_option linter.defProp false
set_option linter.unusedSimpArgs false
set_option linter.unusedVariables false
namespace Go.Av
variable [Dr]
def aR{α:Type}(m:M α):Prop:=∃o,m=ah o
def ct{α:Type}(m:M α):Prop:=∀h,m h= .fail\/∃v,m h= .ok v h
def cV{α:Type}(m:M α):Prop:=∀h v h',m h≠.pan v h'
omit [Dr]in
theorem aR.read{α:Type}{m:M α}(h:aR m):ct m:=by
 obtain⟨o,rfl⟩:=h;intro h;cases o with
 |none=>exact .inl rfl
 |some v=>exact .inr ⟨v,rfl⟩
omit [Dr]in
theorem ct.stay{α:Type}{m:M α}(g:ct m):cV m:=by
 intro h v h' hh;rcases g h with g|⟨x,g⟩<;>rw[g]at hh<;>cases hh
omit [Dr]in
theorem aR.bnd{α β:Type}{m:M α}(h:aR m)(f:α->β):aR (ae m fun v=>M.pure (f v)):=by
 obtain⟨o,rfl⟩:=h;cases o with
 |none=>exact⟨none,rfl⟩
 |some v=>exact⟨some (f v),rfl⟩
omit [Dr]in
theorem ct.bnd{α β:Type}{m:M α}(g:ct m)(f:α->β):ct (ae m fun v=>M.pure (f v)):=by
 intro h;simp only[Av.ae,M.pure];rcases g h with g|⟨x,g⟩<;>rw[g]
 ·exact .inl rfl
 ·exact .inr ⟨_,rfl⟩
omit [Dr]in
theorem cV.bnd{α β:Type}{m:M α}(g:cV m)(f:α->β):cV (ae m fun v=>M.pure (f v)):=by
 intro h v h' hh;simp only[Av.ae,M.pure]at hh;cases hm:m h<;>rw[hm]at hh<;>simp at hh;exact g _ _ _ hm
omit [Dr]in
theorem aR.lft{α:Type}(o:Option α):aR (ah o):=⟨o,rfl⟩
omit [Dr]in
theorem aR.pure{α:Type}(a:α):aR (M.pure a):=⟨some a,rfl⟩
omit [Dr]in
theorem aR.fail{α:Type}:aR (M.fail:M α):=⟨none,rfl⟩
def ij{α:Type}(m:M α):Prop:=∀h t v,m h= .ok v h->m (h++t)= .ok v (h++t)
def rc{α:Type}(m:M α):Prop:=∀h v h',m h= .ok v h'->∃t,h'=h++t
omit [Dr]in
theorem aR.app{α:Type}{m:M α}(h:aR m):ij m:=by
 obtain⟨o,rfl⟩:=h;intro h t v hh;cases o with
 |none=>cases hh
 |some x=>cases hh;rfl
omit [Dr]in
theorem aR.nw{α:Type}{m:M α}(h:aR m):rc m:=by
 obtain⟨o,rfl⟩:=h;intro h v h' hh;cases o with
 |none=>cases hh
 |some x=>cases hh;exact⟨[],by simp⟩
omit [Dr]in
theorem ij.bnd{α β:Type}{m:M α}(g:ij m/\ct m)(f:α->β):ij (ae m fun v=>M.pure (f v))/\ct (ae m fun v=>M.pure (f v)):=by
 refine⟨fun h t v hh=>?_,g.2.bnd f⟩;simp only[Av.ae,M.pure]at hh |-;rcases g.2 h with k|⟨x,k⟩
 ·rw[k]at hh;cases hh
 ·rw[k]at hh;cases hh;rw[g.1 h t x k]
omit [Dr]in
theorem rc.bnd{α β:Type}{m:M α}(g:rc m)(f:α->β):rc (ae m fun v=>M.pure (f v)):=by
 intro h v h' hh;simp only[Av.ae,M.pure]at hh;cases hm:m h<;>rw[hm]at hh<;>simp at hh;obtain⟨t,ht⟩:=g _ _ _ hm;exact⟨t,by rw[<- hh.2,ht]⟩
def bb(p:∀ {α:Type},M α->Prop):Act1->Prop
 |.dyn m _=>p m
 |.thr _=>False
 |_=>True
structure IsoPure (cx:Cx):Prop where
 iso:∀f args,cx.iso f=true->aR (cx.call f args)
 nw:∀f args,cx.nw f=true->rc (cx.call f args)
section
variable {cx:Cx} {e:Env} {gid:Nat} {o:Oper}
omit [Dr]in
theorem bb.cond{p:∀ {α:Type},M α->Prop}{b:Bool}{x y:Act1}(h1:b=true->bb p x)(h2:b=false->bb p y):bb p (bif b then x else y):=by
 cases b with
 |true=>exact h1 rfl
 |false=>exact h2 rfl
omit [Dr]in
theorem bb.lft(o:Option AV)(sh:AV->Upd):bb aR (.dyn (ah o) sh):=aR.lft o
omit [Dr]in
theorem ml(T:TT)(t:TypeId)(x:AV):ct (cC T t x):=by
 have key:∀x,ct (fun h:Hp=>(match ak T t x with|some v=>R.ok v h|none=>.fail)):=by
  intro x h;cases hq:ak T t x with
  |none=>exact .inl rfl
  |some v=>exact .inr ⟨v,rfl⟩
 cases x with
 | hp l off=>
  intro h;simp only[cC];cases T t with
  |none=>exact .inl rfl
  | some ti=>
   cases h[l]? with
   |none=>exact .inl rfl
   | some cs=>
    simp only;cases ti.agg with
    |true=>
     simp only[DJ];split
     ·exact .inr ⟨_,rfl⟩
     ·exact .inl rfl
    |false=>
     simp only[DO];cases cs[off]? with
     |none=>exact .inl rfl
     |some v=>exact .inr ⟨v,rfl⟩
 |_=>exact key _
omit [Dr]in
theorem q6(T:TT)(t:TypeId)(x y:AV):cV (cQ T t x y):=by
 intro h v h' hh;unfold cQ at hh;split at hh
 ·split at hh
  ·revert hh;generalize (_&&_:Bool)=b1;cases b1<;>simp
  ·cases hh
 ·cases hh
omit [Dr]in
theorem pS(T:TT)(t:TypeId)(x:AV):cV (oP T t x):=fun h v h' hh=>by cases hh
omit [Dr]in
theorem ot(cs:List AV):cV (newH cs):=by
 intro h v h' hh;unfold newH at hh;revert hh;generalize (_||_:Bool)=b1;cases b1<;>simp
omit [Dr]in
theorem uh(t:Nat)(cs:List AV):cV (qI t cs):=by
 intro h v h' hh;unfold qI at hh;split at hh
 ·revert hh;generalize List.any _ _=b1;cases b1<;>simp
 ·cases hh
omit [Dr]in
theorem pb:cV o9:=by
 intro h v h' hh;cases hh
omit [Dr]in
theorem r7(T:TT)(t:TypeId)(x k:AV)(ok:Bool):ct (kP T t x k ok):=by
 intro h;unfold kP;cases kA h x with
 |none=>exact .inl rfl
 |some es=>
  simp only;cases oo T t es k ok with
  |none=>exact .inl rfl
  |some v=>exact .inr ⟨v,rfl⟩
omit [Dr]in
theorem tP{h s:Hp}{x:AV}{es:List AV}(hh:kA h x=some es):kA (h++s) x=some es:=by
 unfold kA at hh |-;cases x with
 | mp l=>
  simp only at hh |-;cases hl:h[l]? with
  |none=>rw[hl]at hh;cases hh
  | some cs=>
   rw[hl]at hh;have hl':(h++s)[l]? = some cs:=by
    rw[Fu,DR (EM.1 hl).1,hl]
   rw[hl'];exact hh
 |_=>exact hh
omit [Dr]in
theorem ue(T:TT)(t:TypeId)(x k:AV)(ok:Bool):ij (kP T t x k ok):=by
 intro h s v hh;unfold kP at hh |-;cases hs:kA h x with
 |none=>rw[hs]at hh;cases hh
 |some es=>
  rw[hs]at hh;rw[tP hs];simp only at hh |-;cases ha:oo T t es k ok with
  |none=>rw[ha]at hh;cases hh
  |some u=>rw[ha]at hh;cases hh;rfl
omit [Dr]in
theorem qN(T:TT)(t:TypeId)(x:AV):cV (pf T t x):=fun h v h' hh=>by cases hh
omit [Dr]in
theorem pX(x:AV):ct (lZ x):=fun h=>.inl rfl
omit [Dr]in
theorem rH(x:AV):ij (lZ x):=fun h s v hh=>by cases hh
omit [Dr]in
theorem oA(T:TT)(t:TypeId)(x k y:AV):cV (v8 T t x k y):=by
 intro h v h' hh;unfold v8 at hh;split at hh
 ·cases hh
 ·revert hh;cases tJ T 20 _ k with
  |false=>intro hh;cases hh
  | true=>
   simp only[DJ];intro hh;split at hh
   ·split at hh
    ·split at hh
     ·cases hh
     ·cases hh
    ·cases hh
   ·cases hh
omit [Dr]in
theorem tw(T:TT)(t:TypeId)(z:Bool)(x y:AV):cV (appH T t z x y):=by
 intro h v h' hh;unfold appH at hh;have hc:∀ {b:Bool} {r s:R AV},(∀v h',r≠.pan v h')->(∀v h',s≠.pan v h')->(bif b then r else s)≠.pan v h':=by
  intro b r s h1 h2;cases b
  ·exact h2 _ _
  ·exact h1 _ _
 split at hh
 ·cases hh
 ·split at hh
  ·split at hh
   ·cases hh
   ·split at hh
    ·cases hh
    ·refine hc (fun v h' hh=>?_) (fun v h' hh=>by cases hh) hh;split at hh
     ·revert hh;generalize List.isEmpty _=b1;generalize decide (_<=140737488355328)=b2;cases b1<;>cases b2<;>simp
     ·revert hh;generalize List.isEmpty _=b1;generalize decide (_<=140737488355328)=b2;cases z<;>cases b1<;>cases b2<;>simp
     ·split at hh
      ·cases hh
      ·revert hh;generalize (_&&_:Bool)=b1;generalize List.isEmpty _=b2;cases b1<;>cases b2<;>simp
     ·cases hh
  ·cases hh
omit [Dr]in
theorem tv(T:TT)(t:TypeId)(x y:AV):cV (lM T t x y):=by
 intro h v h' hh;unfold lM at hh;have hc:∀ {b:Bool} {r s:R AV},(∀v h',r≠.pan v h')->(∀v h',s≠.pan v h')->(bif b then r else s)≠.pan v h':=by
  intro b r s h1 h2;cases b
  ·exact h2 _ _
  ·exact h1 _ _
 split at hh
 ·cases hh
 ·split at hh
  ·split at hh
   ·cases hh
   ·refine hc (fun v h' hh=>?_) (fun v h' hh=>by cases hh) hh;split at hh
    ·cases hh
    ·split at hh
     ·cases hh
     ·split at hh
      ·revert hh;generalize List.isEmpty _=b1;generalize decide (_<=140737488355328)=b2;cases b1<;>cases b2<;>simp
      ·split at hh
       ·cases hh
       ·revert hh;generalize (_&&_:Bool)=b1;generalize List.isEmpty _=b2;cases b1<;>cases b2<;>simp
      ·cases hh
  ·cases hh
omit [Dr]in
theorem pN(T:TT)(t n:Nat)(ps:List (Nat×AV)):cV (oO T t n ps):=fun h v h' hh=>by cases hh
omit [Dr]in
theorem oq(told:Bool)(x:Operand):bb aR (fh told e gid x):=by
 unfold fh;split
 ·trivial
 ·exact bb.cond (fun _=>bb.cond (fun _=>trivial) (fun _=>trivial)) (fun _=>trivial)
omit [Dr]in
theorem r5(d:Option Tmp)(t:TypeId)(p:Nat):bb ct (cO cx e d t p)/\(bi cx.ann.hl d=false->bb aR (cO cx e d t p)):=by
 unfold cO;split
 ·split
  ·exact⟨trivial,fun _=>trivial⟩
  ·constructor
   ·exact bb.cond (fun _=>bb.cond (fun _=>trivial) (fun _=>bb.cond (fun _=>trivial) (fun _=>trivial))) (fun _=>trivial)
   ·exact fun _=>bb.cond (fun _=>bb.cond (fun _=>trivial) (fun _=>bb.cond (fun _=>trivial) (fun _=>trivial))) (fun _=>trivial)
 ·cases hm:bi cx.ann.hl d with
  |true=>exact⟨ml _ _ _,fun h=>by cases h⟩
  |false=>exact⟨(aR.lft _).read,fun _=>aR.lft _⟩
omit [Dr]in
theorem uc(T:TT)(t:TypeId)(x:AV):ij (cC T t x):=by
 intro h s v hh;have hk:∀y,(match ak T t y with|some v=>R.ok v h|none=>.fail)=R.ok v h->(match ak T t y with|some v=>R.ok v (h++s)|none=>.fail)=R.ok v (h++s):=by
  intro y hy;cases hq:ak T t y with
  |none=>rw[hq]at hy;cases hy
  |some u=>rw[hq]at hy;cases hy;rfl
 unfold cC at hh |-;cases x with
 | hp l off=>
  simp only at hh |-;cases hT:T t with
  |none=>rw[hT]at hh;cases hh
  | some ti=>
   rw[hT]at hh;cases hl:h[l]? with
   |none=>rw[hl]at hh;cases hh
   | some cs=>
    have hl':(h++s)[l]? = some cs:=by
     rw[Fu]
     have:=(EM.1 hl).1
     rw[DR this,hl]
    rw[hl]at hh;rw[hl'];simp only at hh |-;cases hag:ti.agg with
    |true=>
     rw[hag]at hh;simp only[DJ]at hh |-;split at hh
     ·rename_i hc;cases hh;rw[DR hc]
     ·cases hh
    |false=>
     rw[hag]at hh;simp only[DO]at hh |-;cases hq:cs[off]? with
     |none=>rw[hq]at hh;cases hh
     |some u=>rw[hq]at hh;cases hh;rfl
 |_=>exact hk _ hh
omit [Dr]in
theorem vU(d:Option Tmp)(t:TypeId)(p:Nat):bb (fun m=>ij m/\ct m) (cO cx e d t p):=by
 unfold cO;split
 ·split
  ·trivial
  ·exact bb.cond (fun _=>bb.cond (fun _=>trivial) (fun _=>bb.cond (fun _=>trivial) (fun _=>trivial))) (fun _=>trivial)
 ·cases hm:bi cx.ann.hl d with
  |true=>exact⟨uc _ _ _,ml _ _ _⟩
  |false=>exact⟨(aR.lft _).app,(aR.lft _).read⟩
omit [Dr]in
theorem vF{A:Act1}(h:bb cV A):bb cV (zR A):=by
 cases A with
 |bad=>trivial
 |stat u=>intro h v h' hh;cases hh
 |dyn m sh=>
  intro x v h' hh;simp only[Av.ae,sT]at hh;cases hm:m x<;>rw[hm]at hh<;>simp at hh;exact h _ _ _ hm
 |thr v=>exact h.elim
omit [Dr]in
theorem rO(t p i:Nat):bb aR (eR cx e t p i):=by
 unfold eR;split
 ·split
  ·trivial
  ·split
   ·trivial
   ·split
    ·trivial
    ·exact bb.cond (fun _=>trivial) (fun _=>trivial)
 ·exact aR.lft _
omit [Dr]in
theorem rS(t p:Nat)(i:Operand):bb aR (cp cx e t p i):=by
 unfold cp;split
 ·split
  ·split
   ·split
    ·trivial
    ·exact bb.cond (p:=aR) (fun _=>trivial) (fun _=>trivial)
   ·trivial
  ·trivial
 ·exact aR.lft _
omit [Dr]in
theorem sx(t p:Nat)(y:Operand):bb cV (dR cx e gid t p y):=by
 have hl:∀o:Option AV,cV (Av.ah o):=fun o=>(aR.lft o).read.stay;unfold dR;split
 ·split
  ·trivial
  ·refine bb.cond (fun _=>bb.cond (fun _=>bb.cond (fun _=>hl _) (fun _=>trivial)) (fun _=>bb.cond (fun _=>hl _) (fun _=>bb.cond (fun _=>?_) (fun _=>trivial)))) (fun _=>trivial);split
   ·split
    ·exact hl _
    ·trivial
   ·exact bb.cond (fun _=>trivial) (fun _=>hl _)
 ·exact q6 _ _ _ _
omit [Dr]in
theorem sw(t p:Nat)(y:Operand)(hl:fg (e.get p)=true):bb aR (dR cx e gid t p y):=by
 have hl':∀o:Option AV,aR (Av.ah o):=fun o=>aR.lft o;unfold dR;cases hv:(e.get p).v with
 |val a=>simp[fg,hv]at hl
 | loc B off=>
  simp only;split
  ·trivial
  ·refine bb.cond (fun _=>bb.cond (fun _=>bb.cond (fun _=>hl' _) (fun _=>trivial)) (fun _=>bb.cond (fun _=>hl' _) (fun _=>bb.cond (fun _=>?_) (fun _=>trivial)))) (fun _=>trivial);split
   ·split
    ·exact hl' _
    ·trivial
   ·exact bb.cond (fun _=>trivial) (fun _=>hl' _)
omit [Dr]in
theorem gI(s t:Nat):bb cV (dO cx e gid s t)/\(bw cx.ann.kinds s .L≠.H->bw cx.ann.kinds s .L≠.B->bb aR (dO cx e gid s t)):=by
 unfold dO;split
 ·exact⟨trivial,fun _ _=>trivial⟩
 ·cases hk:bw cx.ann.kinds s .L with
  |F=>exact⟨trivial,fun _ _=>trivial⟩
  |H=>exact⟨ot _,fun h=>absurd rfl h⟩
  |B=>exact⟨uh _ _,fun _ h=>absurd rfl h⟩
  |L=>exact⟨bb.cond (fun _=>trivial) (fun _=>trivial),fun _ _=>bb.cond (fun _=>trivial) (fun _=>trivial)⟩
  |S=>exact⟨bb.cond (fun _=>trivial) (fun _=>trivial),fun _ _=>bb.cond (fun _=>trivial) (fun _=>trivial)⟩
omit [Dr]in
theorem nG(s t:Nat)(x:Operand):bb cV (gU cx e s t x)/\(bw cx.ann.kinds s .F≠.H->bb aR (gU cx e s t x)):=by
 have hl:∀o:Option AV,cV (Av.ah o):=fun o=>(aR.lft o).read.stay;unfold gU;cases hk:bw cx.ann.kinds s .F with
 |F=>exact⟨trivial,fun _=>trivial⟩
 |H=>exact⟨ot _,fun h=>absurd rfl h⟩
 |B=>exact⟨trivial,fun _=>trivial⟩
 |L=>
  simp only;split
  ·exact⟨trivial,fun _=>trivial⟩
  ·exact⟨bb.cond (fun _=>hl _) (fun _=>trivial),fun _=>bb.cond (fun _=>aR.lft _) (fun _=>trivial)⟩
 |S=>
  simp only;split
  ·exact⟨trivial,fun _=>trivial⟩
  ·exact⟨bb.cond (fun _=>hl _) (fun _=>trivial),fun _=>bb.cond (fun _=>aR.lft _) (fun _=>trivial)⟩
structure Class (f:Foot) (A:Act1):Prop where
 stay:f.piv=false->bb cV A
 read:f.wh=false->bb ct A
 pure:f.wh=false->f.rh=false->bb aR A
 app:f.wh=false->bb (fun m=>ij m/\ct m) A
 nw:f.nw=true->bb rc A
omit [Dr]in
theorem bb.imp{p q:∀ {α:Type},M α->Prop}(hpq:∀ {α:Type} (m:M α),p m->q m){A:Act1}(h:bb p A):bb q A:=by
 cases A<;>first|trivial|exact hpq _ h|exact h
omit [Dr]in
theorem Class.of_pure{f:Foot}{A:Act1}(h:bb aR A):Class f A:=
 ⟨fun _=>h.imp fun _ g=>g.read.stay,fun _=>h.imp fun _ g=>g.read,fun _ _=>h,fun _=>h.imp fun _ g=>⟨g.app,g.read⟩,fun _=>h.imp fun _ g=>g.nw⟩
omit [Dr]in
theorem ij.nw{α:Type}{m:M α}(h:ct m):rc m:=fun x v h' hh=>by
 rcases h x with g|⟨u,g⟩
 ·rw[g]at hh;cases hh
 ·rw[g]at hh;cases hh;exact⟨[],by simp⟩
omit [Dr]in
theorem Class.of_app{f:Foot}{A:Act1}(_hw:f.wh=false)(hr:f.rh=true)(h:bb (fun m=>ij m/\ct m) A):Class f A:=
 ⟨fun _=>h.imp fun _ g=>g.2.stay,fun _=>h.imp fun _ g=>g.2,fun _ h=>by(rw[hr]at h;cases h),fun _=>h,fun _=>h.imp fun _ g=>ij.nw g.2⟩
omit [Dr]in
theorem nB(T:TT)(t:TypeId)(x y:AV):ct (pH T t x y):=by
 intro h;unfold pH;cases nr h y with
 |none=>exact .inl rfl
 |some es=>
  simp only;cases eH T t x (.sl es)with
  |none=>exact .inl rfl
  |some v=>exact .inr ⟨v,rfl⟩
omit [Dr]in
theorem wB{h s:Hp}{y:AV}{es:List AV}(hh:nr h y=some es):nr (h++s) y=some es:=by
 unfold nr at hh |-;split at hh
 ·rename_i l off len sz ag;cases hl:h[l]? with
  |none=>rw[hl]at hh;cases hh
  | some cs=>
   rw[hl]at hh;have hl':(h++s)[l]? = some cs:=by
    rw[Fu]
    have:=(EM.1 hl).1
    rw[DR this,hl]
   simp only[hl'];exact hh
 ·exact hh
 ·exact hh
 ·cases hh
omit [Dr]in
theorem pI(T:TT)(t:TypeId)(x y:AV):ij (pH T t x y):=by
 intro h s v hh;unfold pH at hh |-;cases hs:nr h y with
 |none=>rw[hs]at hh;cases hh
 |some es=>
  rw[hs]at hh;rw[wB hs];simp only at hh |-;cases ha:eH T t x (.sl es)with
  |none=>rw[ha]at hh;cases hh
  |some u=>rw[ha]at hh;cases hh;rfl
omit [Dr]in
theorem Class.of_stay{f:Foot}{A:Act1}(hw:f.wh=true)(hn:f.nw=false)(h:bb cV A):Class f A:=
 ⟨fun _=>h,fun h=>by(rw[hw]at h;cases h),fun h=>by(rw[hw]at h;cases h),fun h=>by(rw[hw]at h;cases h),fun h=>by(rw[hn]at h;cases h)⟩
omit [Dr]in
theorem Class.of_piv{f:Foot}{A:Act1}(hw:f.wh=true)(h:f.piv=true)(hn:f.nw=true->bb rc A):Class f A:=
 ⟨fun h'=>by(rw[h]at h';cases h'),fun h=>by(rw[hw]at h;cases h),fun h=>by(rw[hw]at h;cases h),fun h=>by(rw[hw]at h;cases h),hn⟩
omit [Dr]in
theorem rq(hI:IsoPure cx){c:Call}(ho:o.op= .call c):Class (aj cx o) (dP cx e gid o c):=by
 unfold dP;cases hc:c.callee with
 |invoke r m=>exact .of_pure trivial
 | value x=>
  cases x with
  | func f=>
   simp only;cases hfz:bi cx.ann.fz o.dst with
   | true=>
    simp only[DJ];cases hq:!(cx.iso f)&&!(cx.nw f)&&(cx.own f).isNone with
    |false=>exact .of_pure trivial
    |true=>
     simp only[DK,EH]at hq;exact .of_piv (by unfold aj;rw[ho];simp only[hc,hq.1.1,DO]) (by unfold aj;rw[ho];simp only[hc,hq.1.1,DO]) fun hn=>by unfold aj at hn;rw[ho]at hn;simp only[hc,hq.1.1,DO,hq.1.2]at hn;cases hn
   |false=>
   simp only[DO];cases hi:cx.iso f with
   |true=>exact .of_pure (hI.iso f _ hi)
   |false=>exact .of_piv (by unfold aj;rw[ho];simp only[hc,hi,DO]) (by unfold aj;rw[ho];simp only[hc,hi,DO]) fun hn=>hI.nw f _ (by unfold aj at hn;rw[ho]at hn;simpa only[hc,hi,DO]using hn)
  |_=>exact .of_piv (by unfold aj;rw[ho];simp only[hc]) (by unfold aj;rw[ho];simp only[hc]) fun hn=>by unfold aj at hn;rw[ho]at hn;simp[hc]at hn
 | builtin b=>
  cases b<;>simp only<;>(try exact .of_pure trivial)
  case clear=>
   have hw:(aj cx o).wh=true/\(aj cx o).nw=false:=by unfold aj;rw[ho];simp only[hc];exact⟨trivial,trivial⟩
   split
   ·exact .of_stay hw.1 hw.2 (pS _ _ _)
   ·exact .of_pure trivial
  case append=>
   split
   ·cases hu:eK cx.T _ with
    |false=>exact .of_pure trivial
    | true=>
     simp only[Fg,DO];cases hha:bi cx.ann.ha o.dst with
     | true=>exact .of_stay (by unfold aj;rw[ho];simp only[hc,hha,DJ]) (by unfold aj;rw[ho];simp only[hc,hha,DJ]) (by
       cases bi cx.ann.hb o.dst with
       |true=>simp only[DJ];exact tv _ _ _ _
       |false=>exact tw _ _ _ _ _)
     | false=>
      simp only[DO];cases hhl:bi cx.ann.hl o.dst with
      | true=>
       refine .of_app (by unfold aj;rw[ho];simp only[hc,hha,DO]) (by unfold aj;rw[ho];simp only[hc,hha,hhl,DO]) ?_;simp only[DJ];refine bb.cond (fun _=>⟨pI _ _ _ _,nB _ _ _ _⟩) (fun _=>?_);split
       ·split
        ·trivial
        ·split
         ·trivial
         ·exact bb.cond (fun _=>⟨pI _ _ _ _,nB _ _ _ _⟩) (fun _=>trivial)
       ·trivial
      | false=>
       refine .of_pure ?_;simp only[DO];refine bb.cond (fun _=>aR.lft _) (fun _=>?_);split
       ·split
        ·trivial
        ·split
         ·trivial
         ·exact bb.cond (fun _=>aR.lft _) (fun _=>trivial)
       ·trivial
   ·exact .of_pure trivial
  case len=>
   split
   ·exact .of_pure (aR.lft _)
   ·exact .of_pure trivial
  case min=>exact .of_pure (aR.lft _)
  case max=>exact .of_pure (aR.lft _)
omit [Dr]in
theorem dt(hI:IsoPure cx)(e:Env)(gid:Nat)(o:Oper):Class (aj cx o) (dQ cx e gid o):=by
 unfold dQ;cases ho:o.op<;>simp only<;>(try exact .of_pure (aR.lft _))<;>(try exact .of_pure trivial)
 case binOp=>exact .of_pure (bb.cond (fun _=>trivial) fun _=>aR.lft _)
 case buildSlice t n ps=>
  cases hha:bi cx.ann.ha o.dst with
  |true=>exact .of_stay (by unfold aj;rw[ho];simp only[hha,DJ]) (by unfold aj;rw[ho];simp only[hha,DJ]) (pN _ _ _ _)
  |false=>exact .of_pure (aR.lft _)
 case move x=>exact .of_pure (oq _ x)
 case assign x=>exact .of_pure (oq _ x)
 case box t x=>
  cases hd:o.dst with
  |none=>exact .of_pure trivial
  |some s=>
   cases hk:bw cx.ann.kinds s .F with
   |H=>exact .of_stay (by unfold aj;rw[ho];simp only[hd,hk]) (by unfold aj;rw[ho];simp only[hd,hk]) (nG s t x).1
   |_=>exact .of_pure ((nG s t x).2 (by rw[hk];simp))
 case alloc t=>
  cases hd:o.dst with
  |none=>exact .of_pure trivial
  |some s=>
   cases hk:bw cx.ann.kinds s .L with
   |H=>exact .of_stay (by unfold aj;rw[ho];simp only[hd,hk]) (by unfold aj;rw[ho];simp only[hd,hk]) (gI s t).1
   |B=>exact .of_stay (by unfold aj;rw[ho];simp only[hd,hk]) (by unfold aj;rw[ho];simp only[hd,hk]) (gI s t).1
   |_=>exact .of_pure ((gI s t).2 (by rw[hk];simp) (by rw[hk];simp))
 case load t x=>
  cases x with
  |tmp p=>
   have h:=r5 (cx:=cx) (e:=e) o.dst t p;simp only;cases hnl:bi cx.ann.nl o.dst&&fg (e.get p)with
   |true=>exact .of_pure trivial
   |false=>
   simp only[DO];cases hz:bi cx.ann.fz o.dst with
   |true=>exact .of_stay (by unfold aj;rw[ho];exact hz) (by unfold aj;rw[ho]) (vF (h.1.imp fun _ g=>g.stay))
   |false=>exact⟨fun _=>h.1.imp fun _ g=>g.stay,fun _=>h.1,fun _ hr=>h.2 (by unfold aj at hr;rw[ho]at hr;exact hr),fun _=>vU o.dst t p,fun hn=>by unfold aj at hn;rw[ho]at hn;cases hn⟩
  |_=>exact .of_pure trivial
 case store t x y=>
  cases x with
  | tmp p=>
   cases hd:o.dst with
   |some d=>exact .of_pure trivial
   | none=>
    simp only;cases hlw:dD cx.ann.lw p with
    |false=>exact .of_stay (by unfold aj;rw[ho];simp[hlw]) (by unfold aj;rw[ho]) (by simp only[Bool.false_and,DO];exact sx t p y)
    |true=>
     cases hlo:fg (e.get p)with
     |false=>exact .of_pure trivial
     |true=>exact .of_pure (by simp only[Fg,FF,DO];exact sw t p y hlo)
  |_=>exact .of_pure trivial
 case nilCheck x=>
  cases x with
  |tmp p=>
   simp only;split
   ·exact .of_pure trivial
   ·exact .of_pure (aR.lft _)
  |_=>exact .of_pure trivial
 case fieldAddr t x i=>cases x<;>first|exact .of_pure (rO _ _ _)|exact .of_pure trivial
 case indexAddr t x i=>cases x<;>first|exact .of_pure (rS _ _ _)|exact .of_pure trivial
 case slice t x lo hi mx=>
  refine .of_pure (bb.cond (fun _=>?_) fun _=>aR.lft _);unfold jt;split
  ·split
   ·trivial
   ·split
    ·exact bb.cond (fun _=>aR.lft _) fun _=>trivial
    ·trivial
  ·trivial
 case makeMap t r=>exact .of_stay (by unfold aj;rw[ho]) (by unfold aj;rw[ho]) (bb.cond (fun _=>trivial) fun _=>pb)
 case lookup t x i ok=>exact .of_app (by unfold aj;rw[ho]) (by unfold aj;rw[ho]) ⟨ue _ _ _ _ _,r7 _ _ _ _ _⟩
 case mapUpdate t m k x=>exact .of_stay (by unfold aj;rw[ho]) (by unfold aj;rw[ho]) (by unfold gV;split;exact oA _ _ _ _ _;trivial)
 case insert t m k x=>exact .of_stay (by unfold aj;rw[ho]) (by unfold aj;rw[ho]) (by unfold gV;split;exact oA _ _ _ _ _;trivial)
 case range t x=>exact .of_stay (by unfold aj;rw[ho]) (by unfold aj;rw[ho]) (qN _ _ _)
 case entry x=>exact .of_app (by unfold aj;rw[ho]) (by unfold aj;rw[ho]) ⟨rH _,pX _⟩
 case panic x=>
  refine .of_piv ?_ ?_ ?_
  ·unfold aj;rw[ho]
  ·unfold aj;rw[ho]
  ·intro hn;unfold aj at hn;rw[ho]at hn;cases hn
 case call c=>exact rq hI ho
end
end Go.Av
namespace Go.Av
variable [Dr]
structure EqE (e e':Env):Prop where
 get:∀t,e'.get t=e.get t
 al:∀g,aA e'.al g=aA e.al g
 lb:∀B,aU e'.lb B=aU e.lb B
 lf:∀B,aJ e'.sl B=aJ e.sl B
omit [Dr]in
theorem EqE.refl(e:Env):EqE e e:=⟨fun _=>rfl,fun _=>rfl,fun _=>rfl,fun _=>rfl⟩
omit [Dr]in
theorem EqE.symm{e e':Env}(h:EqE e e'):EqE e' e:=⟨fun t=>(h.get t).symm,fun t=>(h.al t).symm,fun t=>(h.lb t).symm,fun t=>(h.lf t).symm⟩
omit [Dr]in
theorem EqE.trans{a b c:Env}(h:EqE a b)(g:EqE b c):EqE a c:=
 ⟨fun t=>(g.get t).trans (h.get t),fun t=>(g.al t).trans (h.al t),fun t=>(g.lb t).trans (h.lb t),fun t=>(g.lf t).trans (h.lf t)⟩
def RE:R Env->R Env->Prop
 |.fail,_=>True
 |.ok e h,r=>∃e',r= .ok e' h/\EqE e e'
 |.pan v h,r=>r= .pan v h
omit [Dr]in
theorem RE.refl(r:R Env):RE r r:=by
 cases r with
 |ok e h=>exact⟨e,rfl,.refl e⟩
 |pan v h=>exact rfl
 |fail=>trivial
omit [Dr]in
theorem RE.trans{a b c:R Env}(h:RE a b)(g:RE b c):RE a c:=by
 cases a with
 |ok e x=>
  obtain⟨e',rfl,h⟩:=h;obtain⟨e2,rfl,g⟩:=g;exact⟨e2,rfl,h.trans g⟩
 |pan v x=>cases h;exact g
 |fail=>trivial
omit [Dr]in
theorem fQ(l r:List (Nat×Ent))(t:Nat):bg (l++r) t=if(∃x∈l,x.1=t)then bg l t else bg r t:=by
 induction l with
 |nil=>simp
 | cons x l ih=>
  obtain⟨k,y⟩:=x;rw[Ej,bq,bq];by_cases hk:k=t
  ·subst hk;simp
  ·rw[if_neg hk,if_neg hk,ih];have:(∃x∈(k,y):: l,x.1=t)↔(∃x∈l,x.1=t):=by
    simp only[Eh,exists_eq_or_imp];constructor
    ·rintro (h|h)
     ·exact absurd h hk
     ·exact h
    ·exact .inr
   simp only[this]
omit [Dr]in
theorem mr{l:List (Nat×Ent)}(r:List (Nat×Ent)){t:Nat}(h:∀x∈l,x.1≠t):bg (l++r) t=bg r t:=by
 rw[fQ,if_neg];rintro⟨x,hx,ht⟩;exact h x hx ht
omit [Dr]in
theorem fR(d:Option Tmp)(x:Ent)(r:List (Nat×Ent))(t:Nat):bg (m0 d x r) t=if d=some t then x else bg r t:=by
 cases d with
 |none=>simp[m0]
 |some s=>simp only[m0,bq,DI]
omit [Dr]in
theorem kO{l r s:List (Nat×Ent)}{t:Nat}(h:bg r t=bg s t):bg (l++r) t=bg (l++s) t:=by
 rw[fQ,fQ,h]
omit [Dr]in
theorem eA(l r:List (Nat×Ent))(B:Nat):aJ (l++r) B=(aJ l B&&aJ r B):=by
 unfold aJ;rw[List.all_append]
def iY(x:Ent)(B:Nat):Bool:=match x.v with
 |.loc C _=>!(Nat.beq C B)
 |.val _=>true
omit [Dr]in
theorem df(d:Option Tmp)(x:Ent)(r:List (Nat×Ent))(B:Nat):aJ (m0 d x r) B=((d.isNone||iY x B)&&aJ r B):=by
 cases d with
 |none=>simp[m0]
 |some t=>rfl
omit [Dr]in
theorem jo{l:List (Nat×Ent)}{B t C off:Nat}(h:aJ l B=true)(ht:(bg l t).v= .loc C off):C≠B:=by
 induction l with
 |nil=>simp[bg,Ent.none]at ht
 | cons x l ih=>
  obtain⟨k,y⟩:=x;rw[bq]at ht;simp only[aJ,Fh,DK]at h;split at ht
  ·rw[ht]at h;have h1:=h.1;simp only[EH]at h1;intro hc;rw[hc,Gd]at h1;cases h1
  ·exact ih (by unfold aJ;exact h.2) ht
omit [Dr]in
theorem da(l r:List (Nat×Option Nat))(g:Nat):aA (l++r) g=(match aA l g with|some z=>some z|none=>aA r g):=by
 induction l with
 |nil=>rfl
 |cons x l ih=>
  obtain⟨k,y⟩:=x;rw[Ej,bh,bh];split
  ·rfl
  ·exact ih
omit [Dr]in
theorem ku{l:List (Nat×Option Nat)}{k g:Nat}(h:∀x∈l,x.1=k)(hg:g≠k):aA l g=none:=by
 induction l with
 |nil=>rfl
 | cons x l ih=>
  obtain⟨j,y⟩:=x;rw[bh,if_neg]
  ·exact ih fun x hx=>h x (by simp[hx])
  ·have:=h (j,y) (by simp)
   simp at this;omega
omit [Dr]in
theorem jm(r:List (Nat×Nat))(k B:Nat):aU (iu r k) B=if k=B then none else aU r B:=by
 induction r with
 |nil=>simp[iu,aU]
 | cons x r ih=>
  obtain⟨j,y⟩:=x;simp only[iu];by_cases hj:j=k
  ·subst hj;simp only[Gd,DJ,ih,cI];split<;>rfl
  ·have:Nat.beq j k=false:=by rw[EP];intro hh;exact hj (DN hh)
   simp only[this,DO,cI,ih];by_cases hg:j=B
   ·subst hg;rw[DR rfl,if_neg (fun h=>hj h.symm),DR rfl]
   ·rw[if_neg hg,if_neg hg]
omit [Dr]in
theorem EqE.upd{e e':Env}(h:EqE e e')(d:Option Tmp)(u:Upd):EqE (e.upd d u) (e'.upd d u):=by
 refine⟨fun t=>?_,fun g=>?_,fun B=>?_,fun B=>?_⟩
 ·show bg (m0 d u.ent (u.ls++e'.sl)) t=bg (m0 d u.ent (u.ls++e.sl)) t;rw[fR,fR,kO (h.get t)]
 ·show aA (u.add++cW e'.al u.drop) g=aA (u.add++cW e.al u.drop) g;have:aA (cW e'.al u.drop) g=aA (cW e.al u.drop) g:=by
   cases u.drop with
   |none=>exact h.al g
   |some k=>simp only[cW,gH,h.al g]
  rw[da,da,this]
 ·show aU (iz (cL e'.lb u.unlb) u.lb) B=aU (iz (cL e.lb u.unlb) u.lb) B;have:aU (cL e'.lb u.unlb) B=aU (cL e.lb u.unlb) B:=by
   cases u.unlb with
   |none=>exact h.lb B
   |some k=>simp only[cL,jm,h.lb B]
  cases u.lb with
  |none=>exact this
  |some x=>
   obtain⟨k,n⟩:=x;simp only[iz,cI,this]
 ·show aJ (m0 d u.ent (u.ls++e'.sl)) B=aJ (m0 d u.ent (u.ls++e.sl)) B;rw[df,df,eA,eA,h.lf B]
section
variable {cx:Cx} {ops:Array Oper} {base:Nat}
def dp(ops:Array Oper)(o:Oper):List Nat:=match o.guard with
 |some (j,_)=>(match (ops[j]?).bind (·.dst)with|some t=>[t]|none=>[])
 |none=>[]
omit [Dr]in
theorem ea{i:Nat}{o:Oper}(ho:ops[i]? = some o):bV ops i=dp ops o++fH o:=by
 unfold bV dp;rw[ho];rfl
omit [Dr]in
theorem dX{e e':Env}{i:Nat}{o:Oper}(ho:ops[i]? = some o)(hg:∀t∈dp ops o,e'.get t=e.get t)(A:Agree cx o e e'){h:Hp}(hr:dz cx base ops i e h≠.fail):dz cx base ops i e' h=dz cx base ops i e h:=by
 unfold dz at hr |-;rw[ho]at hr;rw[ho];simp only at hr |-;have key:∀ {A':Act1->Act1} ,(∀h,cG (A' .bad) h= .fail)->cG (A' (dQ cx e ((base+i)*1000) o)) h≠.fail->cG (A' (dQ cx e' ((base+i)*1000) o)) h=cG (A' (dQ cx e ((base+i)*1000) o)) h:=by
  intro A' h1 h2;rw[ul A];intro hb;rw[hb]at h2;exact h2 (h1 h)
 cases hgd:o.guard with
 |none=>
  rw[hgd]at hr;exact key (A':=id) (fun _=>rfl) hr
 | some g=>
  obtain⟨j,want⟩:=g;rw[hgd]at hr;simp only at hr |-;cases hdj:cj ops j with
  |none=>rfl
  | some t=>
   rw[hdj]at hr;simp only at hr |-;cases hpl:dv cx o with
   |false=>rfl
   | true=>
    rw[hpl]at hr;simp only[DJ]at hr |-;have ht:e'.get t=e.get t:=hg t (by unfold dp;rw[hgd];simp only;rw[show (ops[j]?).bind (·.dst)=some t from hdj];simp);have hav:e'.av t=e.av t:=by simp only[Env.av,ht]
    rw[hav];cases hq:e.av t with
    | bool b=>
     rw[hq]at hr;simp only[gy]at hr |-;cases hb:(b== want)with
     |false=>rfl
     |true=>
      rw[hb]at hr;exact key (A':=eL) (fun _=>rfl) hr
    |tup vs=>cases vs<;>rfl
    |_=>rfl
omit [Dr]in
theorem EqE.agree{e e':Env}(h:EqE e e')(o:Oper):Agree cx o e e':=
 ⟨fun t _=>h.get t,fun _=>⟨fun t _=>h.get t,h.lb⟩,fun _=>h.al,fun _ s _ hl=>by rw[h.lf];exact hl⟩
omit [Dr]in
theorem q4{e e':Env}(h:EqE e e')(i:Nat)(x:Hp):RE (stepG cx base ops i e x) (stepG cx base ops i e' x):=by
 unfold stepG;simp only[ae,M.pure];cases hr:dz cx base ops i e x with
 |fail=>trivial
 | _=>
  have ho:∃o,ops[i]? = some o:=by
   cases ho:ops[i]? with
   |none=>unfold dz at hr;rw[ho]at hr;cases hr
   |some o=>exact⟨o,rfl⟩
  obtain⟨o,ho⟩:=ho;rw[dX ho (fun t _=>h.get t) (h.agree o) (by rw[hr];simp),hr]
  first
   |exact⟨_,rfl,h.upd _ _⟩
   |exact rfl
omit [Dr]in
theorem RE.bind{m m':M Env}{x x':Hp}(h:RE (m x) (m' x')){f f':Env->M Env}(hf:∀e e' x,EqE e e'->RE (f e x) (f' e' x)):RE (ae m f x) (ae m' f' x'):=by
 simp only[ae];revert h;generalize m x=r;generalize m' x'=r';intro h;cases r with
 |ok e x=>obtain⟨e',rfl,h⟩:=h;exact hf e e' x h
 |pan v x=>cases h;exact rfl
 |fail=>trivial
omit [Dr]in
theorem jy:∀(l:List Nat){e e':Env}(_:EqE e e')(x:Hp),RE (aH cx base ops l e x) (aH cx base ops l e' x)
 |[],e,e',h,x=>⟨e',rfl,h⟩
 |i:: l,e,e',h,x=>by
  exact RE.bind (q4 h i x) fun e e' x h=>jy l h x
end
end Go.Av
namespace Go.Av
variable [Dr]
omit [Dr]in
theorem qH{l:List Nat}{t:Nat}(h:t∈l):dD l t=true:=(eB l t).2 h
omit [Dr]in
theorem jp{l:List Nat}{d:Option Nat}(h:bi l d=false):∀t∈l,d≠some t:=by
 intro t ht hd;rw[hd]at h;simp only[bi]at h;rw[qH ht]at h;cases h
omit [Dr]in
theorem kc{a b:Option Nat}(h:clash a b=false):∀t,a=some t->b≠some t:=by
 intro t ha hb;rw[ha,hb]at h;simp[clash]at h
section
variable {cx:Cx} {ops:Array Oper} {base:Nat} {e:Env}
omit [Dr]in
theorem pp{gid:Nat}{f:Foot}{ss:Option Nat}{u:Upd}(h:Shape e gid f ss u):Shape e gid f ss (ek u):=
 ⟨fun _=>rfl,fun _=>rfl,fun _=>rfl,fun _ x h=>by simp[ek]at h,fun _=>rfl,fun _=>rfl,fun hw C off hh=>h.loc hw C off hh,fun x h=>by simp[ek]at h⟩
omit [Dr]in
theorem sy{p q:Upd->Prop}(hpq:∀u,p u->q (ek u)){A:Act1}(h:bC p A):bC q (eL A):=by
 cases A with
 |bad=>trivial
 |stat u=>exact hpq _ h
 |dyn m sh=>exact fun v=>hpq _ (h v)
 |thr v=>trivial
omit [Dr]in
theorem wG{p:∀ {α:Type},M α->Prop}{A:Act1}(h:bb p A):bb p (eL A):=by
 cases A<;>exact h
omit [Dr]in
theorem lH{i:Nat}{o:Oper}(ho:ops[i]? = some o){h h':Hp}{u:Upd}(hr:dz cx base ops i e h= .ok u h'):Shape e ((base+i)*1000) (aj cx o) (bB o) u:=by
 unfold dz at hr;rw[ho]at hr;simp only at hr;cases hgd:o.guard with
 |none=>rw[hgd]at hr;exact gY (ia _ _ _ _) hr
 | some g=>
  obtain⟨j,want⟩:=g;rw[hgd]at hr;simp only at hr;cases hdj:cj ops j with
  |none=>rw[hdj]at hr;cases hr
  | some t=>
   rw[hdj]at hr;simp only at hr;cases hpl:dv cx o with
   |false=>rw[hpl]at hr;cases hr
   | true=>
    rw[hpl]at hr;simp only[DJ]at hr;have h0:∀ {h h':Hp},(M.pure (Upd.ofV (.tup [])):M Upd) h= .ok u h'->Shape e ((base+i)*1000) (aj cx o) (bB o) u:=by
     intro h h' hh;cases hh;exact Shape.ofV ..
    generalize e.av t=q at hr;cases q with
    |bool b=>
     simp only[gy]at hr;cases hb:(b== want)with
     |false=>rw[hb]at hr;exact h0 hr
     |true=>rw[hb]at hr;exact gY (sy (fun u=>pp) (ia _ _ _ _)) hr
    |tup vs=>
     cases vs with
     |nil=>exact h0 hr
     |cons v vs=>cases hr
    |_=>cases hr
omit [Dr]in
theorem sF{p:∀ {α:Type},M α->Prop}(h1:∀ {α:Type} (m:M α),aR m->p m)(h2:∀ {α β:Type} (m:M α) (f:α->β),p m->p (ae m fun v=>M.pure (f v))){A:Act1}(h:bb p A):p (cG A):=by
 cases A with
 |bad=>exact h1 _ aR.fail
 |stat u=>exact h1 _ (aR.pure u)
 |dyn m sh=>exact h2 _ _ h
 |thr v=>exact h.elim
omit [Dr]in
theorem fZ{p:∀ {α:Type},M α->Prop}(h1:∀ {α:Type} (m:M α),aR m->p m)(h2:∀ {α β:Type} (m:M α) (f:α->β),p m->p (ae m fun v=>M.pure (f v))){i:Nat}{o:Oper}(ho:ops[i]? = some o)(h:bb p (dQ cx e ((base+i)*1000) o)):p (dz cx base ops i e):=by
 unfold dz;rw[ho];simp only;cases hgd:o.guard with
 |none=>exact sF h1 h2 h
 | some g=>
  obtain⟨j,want⟩:=g;simp only;cases hdj:cj ops j with
  |none=>exact h1 _ aR.fail
  | some t=>
   simp only;cases hpl:dv cx o with
   |false=>exact h1 _ aR.fail
   | true=>
    simp only[DJ];unfold gy;split
    ·rename_i b _;cases hb:(b== want)with
     |false=>exact h1 _ (aR.pure _)
     |true=>exact sF h1 h2 (wG h)
    ·exact h1 _ (aR.pure _)
    ·exact h1 _ aR.fail
structure Small (ops:Array Oper):Prop where
 dst:∀(i:Nat)(o:Oper),ops[i]? = some o->∀t,o.dst=some t->t<1000
 src:∀(i:Nat)(o:Oper),ops[i]? = some o->∀t∈fH o,t<1000
omit [Dr]in
theorem Small.reads(hS:Small ops){i:Nat}{o:Oper}(ho:ops[i]? = some o):∀t∈bV ops i,t<1000:=by
 intro t ht;rw[ea ho,Eg]at ht;rcases ht with ht|ht
 ·unfold dp at ht;split at ht
  ·rename_i j _ _;cases hj:ops[j]? with
   |none=>rw[hj]at ht;simp at ht
   |some oj=>
    rw[hj]at ht;simp only[Fx]at ht;cases hd:oj.dst with
    |none=>rw[hd]at ht;simp at ht
    |some s=>rw[hd]at ht;simp at ht;rw[ht];exact hS.dst j oj hj s hd
  ·simp at ht
 ·exact hS.src i o ho t ht
omit [Dr]in
theorem jZ{gid:Nat}{x:Foot}{ss:Option Nat}{u:Upd}{d:Option Tmp}(hsh:Shape e gid x ss u){t:Nat}(h1:d≠some t)(h2:ss≠some t)(h3:t<1000):(e.upd d u).get t=e.get t:=by
 rw[bH,if_neg h1];refine mr _ fun y hy hyt=>?_;rcases hsh.keys y hy with h|h
 ·omega
 ·exact h2 (by rw[h,hyt])
omit [Dr]in
theorem vH{gid:Nat}{x:Foot}{ss:Option Nat}{u:Upd}{d:Option Tmp}(hsh:Shape e gid x ss u)(hw:x.wl=false){t:Nat}(h1:d≠some t):(e.upd d u).get t=e.get t:=by
 rw[bH,if_neg h1,hsh.ls hw];rfl
omit [Dr]in
theorem ny{gid:Nat}{x:Foot}{ss:Option Nat}{u:Upd}{d:Option Tmp}{o:Oper}(hsh:Shape e gid x ss u)(hd:∀t,d=some t->t<1000)(hops:∀t∈fH o,d≠some t/\ss≠some t/\t<1000)(hloc:((aj cx o).rl||(aj cx o).wl)=true->x.wl=false)(hal:(aj cx o).dr=true->x.ad=false/\x.dr=false):Agree cx o e (e.upd d u):=by
 refine⟨fun t ht=>jZ hsh (hops t ht).1 (hops t ht).2.1 (hops t ht).2.2,fun h=>⟨fun t ht=>vH hsh (hloc h) (fun hh=>Nat.not_lt.2 ht (hd t hh)),fun B=>?_⟩,fun h g=>?_,fun h s _ hl=>?_⟩
 ·show aU (iz (cL e.lb u.unlb) u.lb) B=aU e.lb B;rw[hsh.lb (hloc h),hsh.unlb (hloc h)];rfl
 ·show aA (u.add++cW e.al u.drop) g=aA e.al g;rw[hsh.noad (hal h).1,hsh.nodr (hal h).2];rfl
 ·have hw:=hloc (by rw[h];simp);show aJ (m0 d u.ent (u.ls++e.sl)) (aS s)=true;rw[hsh.ls hw,df,En,hl,GE];have:iY u.ent (aS s)=true:=by
   unfold iY;split
   ·rename_i C off hv;obtain⟨t,off',ht⟩:=hsh.loc hw C off hv
    have:=jo hl ht
    rw[EH,EP];intro hh;exact this (DN hh)
   ·rfl
  rw[this,Bool.or_true]
omit [Dr]in
theorem tn{gid:Nat}{x:Foot}{ss:Option Nat}{u:Upd}{d:Option Tmp}{o:Oper}(hsh:Shape e gid x ss u)(hd:∀t,d=some t->t<1000)(hops:∀t∈fH o,d≠some t/\ss≠some t/\t<1000)(hloc:((aj cx o).rl||(aj cx o).wl)=true->x.wl=false)(hal:(aj cx o).dr=true->x.ad=false/\x.dr=false):Agree cx o (e.upd d u) e:=by
 have A:=ny (cx:=cx) hsh hd hops hloc hal;refine⟨fun t ht=>(A.ops t ht).symm,fun h=>⟨fun t ht=>((A.loc h).1 t ht).symm,fun B=>((A.loc h).2 B).symm⟩,fun h g=>(A.al h g).symm,fun _ s _ hl=>?_⟩;have hl':aJ (m0 d u.ent (u.ls++e.sl)) (aS s)=true:=hl;rw[df,eA]at hl';simp only[DK]at hl';exact hl'.2.2
omit [Dr]in
theorem rb{gi gj:Nat}{x y:Foot}{si sj:Option Nat}{u v:Upd}{d f:Option Tmp}(hu:Shape e gi x si u)(hv:Shape e gj y sj v)(hy:y.wl=false)(hf:∀t,f=some t->t<1000)(hdf:∀t,d=some t->f≠some t)(hsf:∀t,si=some t->f≠some t)(hg:gi≠gj)(h1:x.dr=true->y.dr=false/\y.ad=false)(h2:x.ad=true->y.dr=false)(h3:x.ad=true->y.ad=true->x.wl=false):EqE ((e.upd d u).upd f v) ((e.upd f v).upd d u):=by
 have e1:=hv.ls hy;have e2:=hv.lb hy;have e3:=hv.unlb hy;refine⟨fun t=>?_,fun g=>?_,fun B=>?_,fun B=>?_⟩
 ·rw[bH,bH,e1];show (if d=some t then u.ent else bg (u.ls++m0 f v.ent (v.ls++e.sl)) t)=if f=some t then v.ent else bg (m0 d u.ent (u.ls++e.sl)) t;rw[e1,fR,En];by_cases hft:f=some t
  ·rw[DR hft,if_neg (fun h=>hdf t h hft),mr,fR,DR hft];intro z hz hzt;rcases hu.keys z hz with h|h
   ·exact Nat.not_lt.2 h (by rw[hzt];exact hf t hft)
   ·exact hsf z.1 h (by rw[hzt];exact hft)
  ·rw[if_neg hft];split
   ·rfl
   ·exact kO (by rw[fR,if_neg hft])
 ·show aA (u.add++cW (v.add++cW e.al v.drop) u.drop) g=aA (v.add++cW (u.add++cW e.al u.drop) v.drop) g;cases hxd:x.dr with
  |true=>
   obtain⟨h4,h5⟩:=h1 hxd;rw[hv.noad h5,hv.nodr h4];rfl
  | false=>
   rw[hu.nodr hxd];cases hxa:x.ad with
   |false=>rw[hu.noad hxa];rfl
   | true=>
    rw[hv.nodr (h2 hxa)];cases hya:y.ad with
    |false=>rw[hv.noad hya];rfl
    |true=>
     have k1:=hu.add (h3 hxa hya);have k2:=hv.add hy;show aA (u.add++(v.add++e.al)) g=aA (v.add++(u.add++e.al)) g;rw[da,da,da,da];by_cases hgi:g=gi
     ·rw[ku k2 (by omega)]
     ·rw[ku k1 hgi]
 ·show aU (iz (cL (iz (cL e.lb v.unlb) v.lb) u.unlb) u.lb) B=aU (iz (cL (iz (cL e.lb u.unlb) u.lb) v.unlb) v.lb) B;rw[e2,e3];rfl
 ·show aJ (m0 d u.ent (u.ls++m0 f v.ent (v.ls++e.sl))) B=aJ (m0 f v.ent (v.ls++m0 d u.ent (u.ls++e.sl))) B;simp only[df,eA]
  ac_rfl
end
end Go.Av
namespace Go.Av
variable [Dr]
section
variable {cx:Cx} {ops:Array Oper} {base:Nat}
structure Ind (cx:Cx) (ops:Array Oper) (i j:Nat) (a b:Oper):Prop where
 ha:ops[i]? = some a
 hb:ops[j]? = some b
 piv:(aj cx a).piv=false
 l1:(aj cx a).wl=true->(aj cx b).rl=false/\(aj cx b).wl=false
 l2:(aj cx a).rl=true->(aj cx b).wl=false
 h1:(aj cx a).wh=true->(aj cx b).rh=false/\(aj cx b).wh=false
 h2:(aj cx a).rh=true->(aj cx b).wh=false\/(aj cx b).nw=true
 g1:(aj cx a).dr=true->(aj cx b).dr=false/\(aj cx b).ad=false
 g2:(aj cx a).ad=true->(aj cx b).dr=false
 g3:(aj cx a).ad=true->(aj cx b).ad=true->(aj cx a).wl=false/\(aj cx b).wl=false
 r1:∀t∈bV ops j,a.dst≠some t
 r2:∀t∈bV ops i,b.dst≠some t
 s1:∀t∈bV ops j,bB a≠some t
 s2:∀t∈bV ops i,bB b≠some t
 c1:∀t,bB a=some t->b.dst≠some t
 c2:∀t,a.dst=some t->bB b≠some t
 c3:∀t,a.dst=some t->b.dst≠some t
omit [Dr]in
theorem tZ{i j:Nat}(h:jh cx ops i j=true):∃a b,Ind cx ops i j a b:=by
 unfold jh at h;split at h
 ·rename_i a b ha hb;refine⟨a,b,?_⟩;simp only[DK,EH]at h;obtain⟨⟨⟨⟨⟨⟨⟨⟨⟨⟨⟨⟨⟨⟨k1,k2⟩,k3⟩,k4⟩,k5⟩,k6⟩,k7⟩,k8⟩,k9⟩,k10⟩,k11⟩,k12⟩,k13⟩,k14⟩,k15⟩:=h;refine⟨ha,hb,k1,fun q=>?_,fun q=>?_,fun q=>?_,fun q=>?_,fun q=>?_,fun q=>?_,fun q q'=>?_,jp k9,jp k10,jp k11,jp k12,kc k13,kc k14,kc k15⟩
  ·rw[q]at k2;simpa using k2
  ·rw[q]at k3;simpa using k3
  ·rw[q]at k4;simpa using k4
  ·rw[q]at k5;simp only[Fq]at k5;cases hb:(aj cx b).wh<;>simp_all
  ·rw[q]at k6;simpa using k6
  ·rw[q]at k7;simpa using k7
  ·rw[q,q']at k8;simpa using k8
 ·cases h
omit [Dr]in
theorem swap(hI:IsoPure cx)(hS:Small ops){i j:Nat}(hij:jh cx ops i j=true)(hne:i≠j)(e:Env)(h:Hp):
  RE (ae (stepG cx base ops i e) (stepG cx base ops j) h) (ae (stepG cx base ops j e) (stepG cx base ops i) h):=by
 obtain⟨a,b,I⟩:=tZ hij;have hda:cj ops i=a.dst:=by simp[cj,I.ha]
 have hdb:cj ops j=b.dst:=by simp[cj,I.hb]
 unfold stepG;rw[hda,hdb];simp only[ae,M.pure];cases hri:dz cx base ops i e h with
 |fail=>trivial
 |pan v h'=>exact absurd hri (fZ (p:=@cV) (fun _ g=>g.read.stay) (fun _ f g=>g.bnd f) I.ha ((dt hI e _ a).stay I.piv) h v h')
 | ok u h1=>
  simp only;have shu:=lH I.ha hri;have hra:=ea (ops:=ops) I.ha;have hrb:=ea (ops:=ops) I.hb;have hbo:∀t∈fH b,a.dst≠some t/\bB a≠some t/\t<1000:=fun t ht=>⟨I.r1 t (by rw[hrb];simp[ht]),I.s1 t (by rw[hrb];simp[ht]),hS.src j b I.hb t ht⟩;have hao:∀t∈fH a,b.dst≠some t/\bB b≠some t/\t<1000:=fun t ht=>⟨I.r2 t (by rw[hra];simp[ht]),I.s2 t (by rw[hra];simp[ht]),hS.src i a I.ha t ht⟩;have Abwd:Agree cx b (e.upd a.dst u) e:=tn shu (hS.dst i a I.ha) hbo (fun q=>by
   cases hw:(aj cx a).wl with
   |false=>rfl
   |true=>obtain⟨q1,q2⟩:=I.l1 hw;rw[q1,q2]at q;cases q) (fun q=>by
   constructor
   ·cases hw:(aj cx a).ad with
    |false=>rfl
    |true=>have:=I.g2 hw;rw[this]at q;cases q
   ·cases hw:(aj cx a).dr with
    |false=>rfl
    |true=>have:=(I.g1 hw).1;rw[this]at q;cases q)
  have hgb:∀t∈dp ops b,e.get t=(e.upd a.dst u).get t:=fun t ht=>by
   have htr:t∈bV ops j:=by rw[hrb];simp[ht]
   exact (jZ shu (I.r1 t htr) (I.s1 t htr) (hS.reads I.hb t htr)).symm
  -- the second, after the first
  cases hrj:dz cx base ops j (e.upd a.dst u) h1 with
  |fail=>trivial
  | pan v h2=>
   have hj:=dX (base:=base) I.hb hgb Abwd (h:=h1) (by rw[hrj];simp);rw[hrj]at hj
   -- j leaves: so it may write, and i did not touch the heap
   have hwb:(aj cx b).wh=true:=by
    cases hw:(aj cx b).wh with
    |true=>rfl
    |false=>exact absurd hj ((fZ (p:=@ct) (fun _ g=>g.read) (fun _ f g=>g.bnd f) I.hb ((dt hI e _ b).read hw)).stay _ _ _)
   have hwa:(aj cx a).wh=false:=by
    cases hw:(aj cx a).wh with
    |false=>rfl
    |true=>have:=(I.h1 hw).2;rw[this]at hwb;cases hwb
   have hh:h1=h:=by
    have hR:ct (dz cx base ops i e):=fZ (p:=@ct) (fun _ g=>g.read) (fun _ f g=>g.bnd f) I.ha ((dt hI e _ a).read hwa);rcases hR h with hx|⟨u',hx⟩<;>rw[hri]at hx<;>cases hx;rfl
   subst hh;rw[hj];exact rfl
  | ok v h2=>
   have hj:=dX (base:=base) I.hb hgb Abwd (h:=h1) (by rw[hrj];simp);rw[hrj]at hj;have shv:=lH I.hb hj;have Afwd:Agree cx a e (e.upd b.dst v):=ny shv (hS.dst j b I.hb) hao (fun q=>by
    cases hw:(aj cx b).wl with
    |false=>rfl
    | true=>
     exfalso;cases hrl:(aj cx a).rl with
     |true=>have:=I.l2 hrl;rw[this]at hw;cases hw
     |false=>
      rw[hrl]at q;have hwl:(aj cx a).wl=true:=by simpa using q
      have:=(I.l1 hwl).2
      rw[this]at hw;cases hw) (fun q=>⟨(I.g1 q).2,(I.g1 q).1⟩)
   have hga:∀t∈dp ops a,(e.upd b.dst v).get t=e.get t:=fun t ht=>by
    have htr:t∈bV ops i:=by rw[hra];simp[ht]
    exact jZ shv (I.r2 t htr) (I.s2 t htr) (hS.reads I.ha t htr)
   have hcomm:EqE ((e.upd a.dst u).upd b.dst v) ((e.upd b.dst v).upd a.dst u):=by
    have hgij:(base+i)*1000≠(base+j)*1000:=by omega
    cases hwb:(aj cx b).wl with
    |false=>
     exact rb shu shv hwb (hS.dst j b I.hb) I.c3 I.c1 hgij I.g1 I.g2 (fun q q'=>(I.g3 q q').1)
    | true=>
     have hwa:(aj cx a).wl=false:=by
      cases hw:(aj cx a).wl with
      |false=>rfl
      |true=>have:=(I.l1 hw).2;rw[this]at hwb;cases hwb
     refine (rb shv shu hwa (hS.dst i a I.ha) (fun t ht hh=>I.c3 t hh ht) (fun t ht hh=>I.c2 t hh ht) (Ne.symm hgij) (fun q=>⟨?_,?_⟩) (fun q=>?_) (fun q q'=>?_)).symm
     ·cases hw:(aj cx a).dr with
      |false=>rfl
      |true=>have:=(I.g1 hw).1;rw[this]at q;cases q
     ·cases hw:(aj cx a).ad with
      |false=>rfl
      |true=>have:=I.g2 hw;rw[this]at q;cases q
     ·cases hw:(aj cx a).dr with
      |false=>rfl
      |true=>have:=(I.g1 hw).2;rw[this]at q;cases q
     ·have:=(I.g3 q' q).2;rw[this]at hwb;cases hwb
   cases hwa:(aj cx a).wh with
   | false=>
    have hR:ct (dz cx base ops i e):=fZ (p:=@ct) (fun _ g=>g.read) (fun _ f g=>g.bnd f) I.ha ((dt hI e _ a).read hwa);have hh:h1=h:=by
     rcases hR h with hx|⟨u',hx⟩<;>rw[hri]at hx<;>cases hx;rfl
    subst hh;rw[hj];simp only;have hi2:dz cx base ops i e h2= .ok u h2:=by
     cases hra':(aj cx a).rh with
     |false=>
      obtain⟨q,hq⟩:aR (dz cx base ops i e):=fZ (p:=@aR) (fun _ g=>g) (fun _ f g=>g.bnd f) I.ha ((dt hI e _ a).pure hwa hra');rw[hq]at hri |-;cases q with
      |none=>cases hri
      |some u'=>cases hri;rfl
     | true=>
      rcases I.h2 hra' with hwb|hnw
      case inr=>
       have hNw:rc (dz cx base ops j e):=fZ (p:=@rc) (fun _ g=>g.nw) (fun _ f g=>g.bnd f) I.hb ((dt hI e _ b).nw hnw);have hAp:ij (dz cx base ops i e)/\ct (dz cx base ops i e):=fZ (p:=fun m=>ij m/\ct m) (fun _ g=>⟨g.app,g.read⟩) (fun _ f g=>ij.bnd g f) I.ha ((dt hI e _ a).app hwa);obtain⟨t,rfl⟩:=hNw _ _ _ hj;exact hAp.1 _ t _ hri
      have hRb:ct (dz cx base ops j e):=fZ (p:=@ct) (fun _ g=>g.read) (fun _ f g=>g.bnd f) I.hb ((dt hI e _ b).read hwb);rcases hRb h1 with hx|⟨u',hx⟩<;>rw[hj]at hx<;>cases hx;exact hri
    rw[dX I.ha hga Afwd (by rw[hi2];simp),hi2];exact⟨_,rfl,hcomm⟩
   | true=>
    obtain⟨hrb',hwb⟩:=I.h1 hwa;obtain⟨q,hq⟩:aR (dz cx base ops j e):=fZ (p:=@aR) (fun _ g=>g) (fun _ f g=>g.bnd f) I.hb ((dt hI e _ b).pure hwb hrb');rw[hq]at hj |-;cases q with
    |none=>cases hj
    |some u'=>
     cases hj;simp only[ah];rw[dX I.ha hga Afwd (by rw[hri];simp),hri];exact⟨_,rfl,hcomm⟩
omit [Dr]in
theorem yD(hI:IsoPure cx)(hS:Small ops){i:Nat}(q:List Nat):∀(p:List Nat),(∀x∈p,jh cx ops x i=true/\x≠i)->∀(e:Env)(h:Hp),RE (aH cx base ops (p++i:: q) e h) (aH cx base ops (i:: (p++q)) e h)
 |[],_,e,h=>RE.refl _
 | x:: p,hp,e,h=>by
  have ih:=fun e h=>yD hI hS q p (fun y hy=>hp y (by simp[hy])) e h;have h1:RE (aH cx base ops (x:: (p++i:: q)) e h) (aH cx base ops (x:: i:: (p++q)) e h):=by
   simp only[aH,ae]at ih |-;cases stepG cx base ops x e h with
   |ok e' h'=>exact ih e' h'
   |pan v h'=>exact rfl
   |fail=>trivial
  refine h1.trans ?_;have e1:aH cx base ops (x:: i:: (p++q)) e=ae (ae (stepG cx base ops x e) (stepG cx base ops i)) (aH cx base ops (p++q)):=by rw[cv];rfl
  have e2:aH cx base ops (i:: x:: (p++q)) e=ae (ae (stepG cx base ops i e) (stepG cx base ops x)) (aH cx base ops (p++q)):=by rw[cv];rfl
  show RE (aH cx base ops (x:: i:: (p++q)) e h) (aH cx base ops (i:: x:: (p++q)) e h);rw[e1,e2];exact RE.bind (swap hI hS (hp x (by simp)).1 (hp x (by simp)).2 e h) fun e e' x h=>jy _ h x
end
end Go.Av
namespace Go.Av
variable [Dr]
omit [Dr]in
theorem wq{a b:Option (Nat×Bool)}(h:td a b=true):a=b:=by
 unfold td at h;split at h
 ·rfl
 ·simp only[DK,E0]at h;rw[DN h.1,h.2]
 ·cases h
def eN(gs:List (Option (Nat×Bool)×List Nat)):List Nat:=gs.flatMap (·.2)
omit [Dr]in
theorem fE(ops:Array Oper):∀l:List Nat,eN (ck ops l)=l/\∀g∈ck ops l,∀i∈g.2,guardOf ops i=g.1
 |[]=>⟨rfl,by simp[ck]⟩
 | i :: is=>by
  obtain⟨h1,h2⟩:=fE ops is;simp only[ck];cases hg:ck ops is with
  |nil=>
   rw[hg]at h1;have:is=[]:=by simpa [eN]using h1.symm
   subst this;exact⟨rfl,by simp⟩
  | cons x r=>
   obtain⟨g,js⟩:=x;rw[hg]at h1 h2;simp only;cases hs:td (guardOf ops i) g with
   | true=>
    refine⟨?_,fun y hy=>?_⟩
    ·simp only[DJ,eN,EU,Ej]at h1 |-;rw[h1]
    ·simp only[DJ,Eh]at hy;rcases hy with rfl|hy
     ·intro k hk;simp only[Eh]at hk;rcases hk with rfl|hk
      ·exact wq hs
      ·exact h2 (g,js) (by simp) k hk
     ·exact h2 y (by simp[hy])
   | false=>
    refine⟨?_,fun y hy=>?_⟩
    ·simp only[DO,eN,EU,Ej,En]at h1 |-;rw[h1]
    ·simp only[DO,Eh]at hy;rcases hy with rfl|rfl|hy
     ·intro k hk;simp only[Fl]at hk;subst hk;rfl
     ·exact h2 (g,js) (by simp)
     ·exact h2 y (by simp[hy])
omit [Dr]in
theorem pY{ρ:Type}(e:Env)(d:Option Tmp)(A:Act1)(k:Env->M ρ):iZ e d A k=ae (cG A) fun u=>k (e.upd d u):=by
 cases A with
 |bad=>rfl
 |stat u=>rfl
 |dyn m sh=>simp only[iZ,cG,cv,ap]
 |thr v=>rfl
omit [Dr]in
theorem tB{α β:Type}{m:M α}{f g:α->M β}{h:Hp}(hfg:∀u h',m h= .ok u h'->f u h'=g u h'):ae m f h=ae m g h:=by
 simp only[ae];cases hm:m h with
 |ok u h'=>exact hfg u h' hm
 |pan v h'=>rfl
 |fail=>rfl
section
variable {cx:Cx} {ops:Array Oper} {base:Nat}
omit [Dr]in
theorem tm{i:Nat}{o:Oper}(ho:ops[i]? = some o)(hg:guardOf ops i=none)(e:Env):dz cx base ops i e=cG (dQ cx e ((base+i)*1000) o):=by
 have:o.guard=none:=by simpa [guardOf,ho]using hg
 unfold dz;rw[ho];simp only;rw[this]
omit [Dr]in
theorem jP{i j t:Nat}{want:Bool}{o:Oper}(ho:ops[i]? = some o)(hg:guardOf ops i=some (j,want))(hj:cj ops j=some t)(hp:dv cx o=true)(e:Env):
  dz cx base ops i e=gy (e.av t) want (cG (eL (dQ cx e ((base+i)*1000) o))):=by
 have:o.guard=some (j,want):=by simpa [guardOf,ho]using hg
 unfold dz;rw[ho];simp only;rw[this];simp only;rw[hj];simp only;rw[hp];rfl
omit [Dr]in
theorem qS{ρ:Type}:∀(is:List Nat)(e:Env)(k:Env->M ρ)(_:∀i∈is,guardOf ops i=none),fw cx base ops false is e k=ae (aH cx base ops is e) k
 |[],e,k,_=>rfl
 | i:: is,e,k,hg=>by
  simp only[fw,aH];unfold stepG;cases ho:ops[i]? with
  |none=>unfold dz;rw[ho];rfl
  |some o=>
   simp only;rw[pY,tm ho (hg i (by simp)),cv,cv];have hd:cj ops i=o.dst:=by simp[cj,ho]
   rw[hd];congr 1;funext u;simp only[ap];exact qS is _ k fun j hj=>hg j (by simp[hj])
structure Turned (ds:List Nat) (e e':Env):Prop where
 get:∀t,t ∉ ds->e'.get t=e.get t
 al:e'.al=e.al
 lb:e'.lb=e.lb
 lf:∀B,aJ e.sl B=true->aJ e'.sl B=true
 ng:∀t∈ds,(e'.get t).g=none
omit [Dr]in
theorem Turned.step{ds:List Nat}{e e':Env}(H:Turned ds e e'){u:Upd}{d:Option Nat}(hls:u.ls=[])(hadd:u.add=[])(hdrop:u.drop=none)(hlb:u.lb=none)(hunlb:u.unlb=none)(hg:u.ent.g=none)(hloc:∀C off,u.ent.v= .loc C off->∃t off',(e'.get t).v= .loc C off'):Turned (d.toList++ds) e (e'.upd d u):=by
 have hget:∀t,(e'.upd d u).get t=if d=some t then u.ent else e'.get t:=fun t=>by rw[bH,hls];rfl
 refine⟨fun t ht=>?_,?_,?_,fun B hB=>?_,fun t ht=>?_⟩
 ·simp only[Eg,not_or,FE]at ht;rw[hget,if_neg ht.1];exact H.get t ht.2
 ·show u.add++cW e'.al u.drop=e.al;rw[hadd,hdrop];exact H.al
 ·show iz (cL e'.lb u.unlb) u.lb=e.lb;rw[hlb,hunlb];exact H.lb
 ·have h1:=H.lf B hB;show aJ (m0 d u.ent (u.ls++e'.sl)) B=true;rw[hls,df,En,h1,GE];have:iY u.ent B=true:=by
   unfold iY;split
   ·rename_i C off hv;obtain⟨t,off',ht⟩:=hloc C off hv
    have:=jo h1 ht
    rw[EH,EP];intro hh;exact this (DN hh)
   ·rfl
  rw[this,Bool.or_true]
 ·rw[hget];split
  ·exact hg
  ·rename_i hd;simp only[Eg,FE]at ht;rcases ht with ht|ht
   ·exact absurd ht hd
   ·exact H.ng t ht
omit [Dr]in
theorem Turned.refl(e:Env):Turned [] e e:=⟨fun _ _=>rfl,rfl,rfl,fun _ h=>h,fun t h=>by simp at h⟩
omit [Dr]in
theorem Turned.sub{ds ds':List Nat}{e e':Env}(H:Turned ds e e')(h:∀t,t∈ds↔t∈ds'):Turned ds' e e':=
 ⟨fun t ht=>H.get t fun hh=>ht ((h t).1 hh),H.al,H.lb,H.lf,fun t ht=>H.ng t ((h t).2 ht)⟩
structure GroupOk (cx:Cx) (ops:Array Oper) (j:Nat) (want:Bool) (t:Nat) (is:List Nat):Prop where
 hj:cj ops j=some t
 each:∀i∈is,∃o,ops[i]? = some o/\guardOf ops i=some (j,want)/\dv cx o=true
 nt:t ∉ bO ops is
omit [Dr]in
theorem fq(i:Nat)(is:List Nat):∀t,t∈bO ops (i:: is)↔cj ops i=some t\/t∈bO ops is:=by
 intro t;unfold bO;simp only[FT,Eh,exists_eq_or_imp]
omit [Dr]in
theorem GroupOk.tail{j:Nat}{want:Bool}{t i:Nat}{is:List Nat}(G:GroupOk cx ops j want t (i:: is)):GroupOk cx ops j want t is:=
 ⟨G.hj,fun k hk=>G.each k (by simp[hk]),fun h=>G.nt ((fq i is t).2 (.inr h))⟩
omit [Dr]in
theorem GroupOk.ne{j:Nat}{want:Bool}{t i:Nat}{is:List Nat}(G:GroupOk cx ops j want t (i:: is)):cj ops i≠some t:=fun h=>G.nt ((fq i is t).2 (.inl h))
omit [Dr]in
theorem gw{A:Act1}{h h':Hp}{u:Upd}(hr:cG (eL A) h= .ok u h'):∃u0,cG A h= .ok u0 h'/\u=ek u0:=by
 rw[kq]at hr;cases hx:cG A h<;>rw[hx]at hr<;>simp at hr;exact⟨_,by rw[hr.2],hr.1.symm⟩
omit [Dr]in
theorem oB{ρ:Type}{j:Nat}{want:Bool}{t:Nat}:∀(is:List Nat)(e:Env)(k:Env->M ρ)(h:Hp),GroupOk cx ops j want t is->e.av t= .bool want->fw cx base ops true is e k h=ae (aH cx base ops is e) k h
 |[],e,k,h,_,_=>rfl
 |i:: is,e,k,h,G,hc=>by
  obtain⟨o,ho,hg,hp⟩:=G.each i (by simp);have hd:cj ops i=o.dst:=by simp[cj,ho]
  simp only[fw,aH,ho,DJ];rw[pY];unfold stepG;rw[jP ho hg G.hj hp,hc,cv,cv];simp only[gy,FZ,DJ,ap,hd];refine tB fun u h' hu=>?_;obtain⟨u0,hu0,rfl⟩:=gw hu;refine oB is _ k h' G.tail ?_;have:(e.upd o.dst (ek u0)).get t=e.get t:=by rw[bH,if_neg (by rw[<- hd];exact G.ne)];rfl
  simp only[Env.av,this];exact hc
omit [Dr]in
theorem jI{j:Nat}{want:Bool}{t:Nat}:∀(is:List Nat)(e e':Env)(h h':Hp),GroupOk cx ops j want t is->e.av t= .bool want->aH cx base ops is e h= .ok e' h'->Turned (bO ops is) e e':=by
 have key:∀(is:List Nat)(e0 e e':Env)(ds:List Nat)(h h':Hp),GroupOk cx ops j want t is->e.av t= .bool want->Turned ds e0 e->aH cx base ops is e h= .ok e' h'->Turned (bO ops is++ds) e0 e':=by
  intro is
  induction is with
  |nil=>
   intro e0 e e' ds h h' _ _ H hr;cases hr;exact H
  | cons i is ih=>
   intro e0 e e' ds h h' G hc H hr;obtain⟨o,ho,hg,hp⟩:=G.each i (by simp);have hd:cj ops i=o.dst:=by simp[cj,ho]
   simp only[aH]at hr;unfold stepG at hr;rw[jP ho hg G.hj hp,hc,cv]at hr;simp only[gy,FZ,DJ,hd,ae]at hr;cases hx:cG (eL (dQ cx e ((base+i)*1000) o)) h with
   |fail=>rw[hx]at hr;cases hr
   |pan v hh=>rw[hx]at hr;cases hr
   | ok u hh=>
    rw[hx]at hr;simp only at hr;obtain⟨u0,hu0,rfl⟩:=gw hx;have hsh:=gY (ia cx e ((base+i)*1000) o) hu0;simp only[dv,DK,EH]at hp;have H2:=H.step (u:=ek u0) (d:=o.dst) rfl rfl rfl rfl rfl rfl (hsh.loc hp.1);refine (ih e0 _ e' _ hh h' G.tail ?_ H2 hr).sub fun s=>?_
    ·have:(e.upd o.dst (ek u0)).get t=e.get t:=by rw[bH,if_neg (by rw[<- hd];exact G.ne)];rfl
     simp only[Env.av,this];exact hc
    ·simp only[Eg,fq,FE,hd];constructor
     ·rintro (h|h|h)
      ·exact .inl (.inr h)
      ·exact .inl (.inl h)
      ·exact .inr h
     ·rintro ((h|h)|h)
      ·exact .inr (.inl h)
      ·exact .inl h
      ·exact .inr (.inr h)
 intro is e e' h h' G hc hr;exact (key is e e e' [] h h' G hc (.refl e) hr).sub (by simp)
def Off(c:AV)(want:Bool):Prop:=c= .tup []\/∃b,c= .bool b/\(b== want)=false
omit [Dr]in
theorem Off.look{c:AV}{want:Bool}(h:Off c want)(m:M Upd):gy c want m=M.pure (.ofV (.tup [])):=by
 rcases h with rfl|⟨b,rfl,hb⟩
 ·rfl
 ·simp only[gy,hb,DO]
omit [Dr]in
theorem xJ{j:Nat}{want:Bool}{t:Nat}:∀(is:List Nat)(e:Env)(h:Hp),GroupOk cx ops j want t is->Off (e.av t) want->∃e',aH cx base ops is e h= .ok e' h/\Turned (bO ops is) e e'/\∀s∈bO ops is,e'.get s=⟨.val (.tup []),none⟩:=by
 have key:∀(is:List Nat)(e0 e:Env)(ds:List Nat)(h:Hp),GroupOk cx ops j want t is->Off (e.av t) want->Turned ds e0 e->(∀s∈ds,e.get s=⟨.val (.tup []),none⟩)->
   ∃e',aH cx base ops is e h= .ok e' h/\Turned (bO ops is++ds) e0 e'/\∀s∈bO ops is++ds,e'.get s=⟨.val (.tup []),none⟩:=by
  intro is
  induction is with
  |nil=>exact fun e0 e ds h _ _ H hds=>⟨e,rfl,H,hds⟩
  | cons i is ih=>
   intro e0 e ds h G hc H hds;obtain⟨o,ho,hg,hp⟩:=G.each i (by simp);have hd:cj ops i=o.dst:=by simp[cj,ho]
   have hget:∀s,(e.upd o.dst (.ofV (.tup []))).get s=if o.dst=some s then⟨.val (.tup []),none⟩else e.get s:=fun s=>by rw[bH];rfl
   have H2:=H.step (u:=.ofV (.tup [])) (d:=o.dst) rfl rfl rfl rfl rfl rfl (fun C off hh=>by cases hh);have hav:(e.upd o.dst (.ofV (.tup []))).av t=e.av t:=by
    have:(e.upd o.dst (.ofV (.tup []))).get t=e.get t:=by rw[hget,if_neg (by rw[<- hd];exact G.ne)]
    simp only[Env.av,this]
   obtain⟨e',h1,h2,h3⟩:=ih e0 (e.upd o.dst (.ofV (.tup []))) (o.dst.toList++ds) h G.tail (by rw[hav];exact hc) H2 (fun s hs=>by
    rw[hget];split
    ·rfl
    ·rename_i hn;simp only[Eg,FE]at hs;rcases hs with hs|hs
     ·exact absurd hs hn
     ·exact hds s hs)
   have hiff:∀s,s∈bO ops is++(o.dst.toList++ds)↔s∈bO ops (i:: is)++ds:=fun s=>by
    simp only[Eg,fq,FE,hd];constructor
    ·rintro (h|h|h)
     ·exact .inl (.inr h)
     ·exact .inl (.inl h)
     ·exact .inr h
    ·rintro ((h|h)|h)
     ·exact .inr (.inl h)
     ·exact .inl h
     ·exact .inr (.inr h)
   refine⟨e',?_,h2.sub hiff,fun s hs=>h3 s ((hiff s).2 hs)⟩;simp only[aH];unfold stepG;rw[jP ho hg G.hj hp,hc.look,hd];exact h1
 intro is e h G hc;obtain⟨e',h1,h2,h3⟩:=key is e e [] h G hc (.refl e) (by simp);exact⟨e',h1,h2.sub (by simp),fun s hs=>h3 s (by simp[hs])⟩
end
end Go.Av
namespace Go.Av
variable [Dr]
section
variable {cx:Cx} {ops:Array Oper} {base:Nat}
structure Rel (ops:Array Oper) (L:List Nat) (e2 e:Env):Prop where
 get:∀t,e2.get t=e.get t\/(e2.get t=Ent.none/\t<1000/\∀i∈L,t ∉ bV ops i)
 al:∀g,aA e2.al g=aA e.al g
 lb:∀B,aU e2.lb B=aU e.lb B
 lf:∀B,aJ e2.sl B=true->aJ e.sl B=true
omit [Dr]in
theorem Rel.refl(ops:Array Oper)(L:List Nat)(e:Env):Rel ops L e e:=⟨fun _=>.inl rfl,fun _=>rfl,fun _=>rfl,fun _ h=>h⟩
omit [Dr]in
theorem Rel.sub{L L':List Nat}{e2 e:Env}(H:Rel ops L e2 e)(h:∀i∈L',i∈L):Rel ops L' e2 e:=
 ⟨fun t=>(H.get t).imp id fun⟨h1,h2,h3⟩=>⟨h1,h2,fun i hi=>h3 i (h i hi)⟩,H.al,H.lb,H.lf⟩
omit [Dr]in
theorem Rel.read{L:List Nat}{e2 e:Env}(H:Rel ops L e2 e){i t:Nat}(hi:i∈L)(ht:t∈bV ops i):e.get t=e2.get t:=by
 rcases H.get t with h|⟨_,_,h⟩
 ·exact h.symm
 ·exact absurd ht (h i hi)
omit [Dr]in
theorem Rel.agree{L:List Nat}{e2 e:Env}(H:Rel ops L e2 e){i:Nat}{o:Oper}(hi:i∈L)(ho:ops[i]? = some o):Agree cx o e2 e:=by
 refine⟨fun t ht=>H.read hi (by rw[ea ho];simp[ht]),fun _=>⟨fun t ht=>?_,fun B=>(H.lb B).symm⟩,fun _ g=>(H.al g).symm,fun _ s _ hl=>H.lf _ hl⟩;rcases H.get t with h|⟨_,h,_⟩
 ·exact h.symm
 ·omega
omit [Dr]in
theorem Rel.upd{L:List Nat}{e2 e:Env}(H:Rel ops L e2 e)(d:Option Tmp)(u:Upd):Rel ops L (e2.upd d u) (e.upd d u):=by
 refine⟨fun t=>?_,fun g=>?_,fun B=>?_,fun B hB=>?_⟩
 ·rw[bH,bH];split
  ·exact .inl rfl
  ·rw[fQ,fQ];split
   ·exact .inl rfl
   ·exact H.get t
 ·show aA (u.add++cW e2.al u.drop) g=aA (u.add++cW e.al u.drop) g;have:aA (cW e2.al u.drop) g=aA (cW e.al u.drop) g:=by
   cases u.drop with
   |none=>exact H.al g
   |some k=>simp only[cW,gH,H.al g]
  rw[da,da,this]
 ·show aU (iz (cL e2.lb u.unlb) u.lb) B=aU (iz (cL e.lb u.unlb) u.lb) B;have:aU (cL e2.lb u.unlb) B=aU (cL e.lb u.unlb) B:=by
   cases u.unlb with
   |none=>exact H.lb B
   |some k=>simp only[cL,jm,H.lb B]
  cases u.lb with
  |none=>exact this
  |some x=>
   obtain⟨k,n⟩:=x;simp only[iz,cI,this]
 ·have hB':aJ (m0 d u.ent (u.ls++e2.sl)) B=true:=hB;show aJ (m0 d u.ent (u.ls++e.sl)) B=true;rw[df,eA]at hB' |-;simp only[DK]at hB' |-;exact⟨hB'.1,hB'.2.1,H.lf B hB'.2.2⟩
omit [Dr]in
theorem Rel.run:∀(is:List Nat){L:List Nat}{e2 e:Env}(_:Rel ops L e2 e)(_:∀i∈is,i∈L)(h:Hp),aH cx base ops is e2 h≠.fail->
  (∃e2' e' h',aH cx base ops is e2 h= .ok e2' h'/\aH cx base ops is e h= .ok e' h'/\Rel ops L e2' e')\/∃v h',aH cx base ops is e2 h= .pan v h'/\aH cx base ops is e h= .pan v h'
 |[],L,e2,e,H,_,h,_=>.inl ⟨e2,e,h,rfl,rfl,H⟩
 | i:: is,L,e2,e,H,hL,h,hr=>by
  simp only[aH]at hr |-;unfold stepG at hr |-;simp only[ae,M.pure]at hr |-;cases hx:dz cx base ops i e2 h with
  |fail=>rw[hx]at hr;exact absurd rfl hr
  | _ =>
   have ho:∃o,ops[i]? = some o:=by
    cases ho:ops[i]? with
    |none=>unfold dz at hx;rw[ho]at hx;cases hx
    |some o=>exact⟨o,rfl⟩
   obtain⟨o,ho⟩:=ho;have hi:=hL i (by simp);have hy:dz cx base ops i e h=dz cx base ops i e2 h:=dX ho (fun t ht=>H.read hi (by rw[ea ho];simp[ht])) (H.agree hi ho) (by rw[hx];simp);rw[hy,hx]
   first
    | rw[hx]at hr
      exact Rel.run is (H.upd _ _) (fun k hk=>hL k (by simp[hk])) _ hr
    |exact .inr ⟨_,_,rfl,rfl⟩
omit [Dr]in
theorem ma(e:Env):∀(ds:List Nat)(t:Nat),(forget e ds).get t=if t∈ds then Ent.none else e.get t
 |[],t=>by simp[forget]
 | d:: ds,t=>by
  show bg ((d,Ent.none):: (forget e ds).sl) t=_;rw[bq];by_cases hd:d=t
  ·subst hd;simp
  ·rw[if_neg hd]
   have:=ma e ds t
   simp only[Env.get]at this;rw[this];have hd':¬t=d:=fun h=>hd h.symm;simp[hd',Env.get]
omit [Dr]in
theorem kJ(e:Env):∀(ds:List Nat),(forget e ds).al=e.al/\(forget e ds).lb=e.lb/\∀B,aJ (forget e ds).sl B=aJ e.sl B
 |[]=>⟨rfl,rfl,fun _=>rfl⟩
 |_d:: ds=>kJ e ds
omit [Dr]in
theorem kU(e:Env)(f:Nat->AV):∀(outs:List Nat)(pre:List AV)(t:Nat),(dT e (pre++outs.map f) pre.length outs).get t=if t∈outs then⟨.val (f t),none⟩else e.get t
 |[],pre,t=>by simp[dT]
 | d:: ds,pre,t=>by
  show bg ((d,⟨.val (nth (pre++(d:: ds).map f) pre.length),none⟩):: (dT e (pre++(d:: ds).map f) (pre.length+1) ds).sl) t=_;rw[bq];have hn:nth (pre++(d:: ds).map f) pre.length=f d:=by simp[nth]
  by_cases hd:d=t
  ·subst hd;rw[hn];simp
  ·rw[if_neg hd]
   have:=kU e f ds (pre++[f d]) t
   simp only[EO,DX,Ec,Es,List.singleton_append]at this;simp only[Env.get,Ev]at this |-;rw[this];have hd':¬t=d:=fun h=>hd h.symm;simp[hd']
omit [Dr]in
theorem jz(e:Env)(vs:List AV):∀(outs:List Nat)(i:Nat),(dT e vs i outs).al=e.al/\(dT e vs i outs).lb=e.lb/\∀B,aJ (dT e vs i outs).sl B=aJ e.sl B
 |[],_i=>⟨rfl,rfl,fun _=>rfl⟩
 |_d:: ds,i=>jz e vs ds (i+1)
omit [Dr]in
theorem sD(gs:List (Option (Nat×Bool)×List Nat))(t:Nat):sC ops gs t=true↔∃i∈eN gs,t∈bV ops i:=by
 unfold sC eN;simp only[List.any_eq_true,List.mem_flatMap,eB];constructor
 ·rintro⟨g,hg,i,hi,ht⟩;exact⟨i,⟨g,hg,hi⟩,ht⟩
 ·rintro⟨i,⟨g,hg,hi⟩,ht⟩;exact⟨g,hg,i,hi,ht⟩
omit [Dr]in
theorem Rel.close{is:List Nat}{gs:List (Option (Nat×Bool)×List Nat)}{e2 e e':Env}(H:Rel ops (is++eN gs) e2 e)(hS:Small ops)(T:Turned (bO ops is) e e'){vs:List AV}{f:Nat->AV}(hvs:vs=(b6 ops is gs).map f)(hf:∀t∈b6 ops is gs,e'.get t=⟨.val (f t),none⟩\/(f t= .any/\t<1000/\∀i∈eN gs,t ∉ bV ops i)):Rel ops (eN gs) (dT (forget e2 (bO ops is)) vs 0 (b6 ops is gs)) e':=by
 have hr:=jz (forget e2 (bO ops is)) vs (b6 ops is gs) 0;have hr2:=kJ e2 (bO ops is);refine⟨fun t=>?_,fun g=>?_,fun B=>?_,fun B hB=>?_⟩
 ·have hg:=kU (forget e2 (bO ops is)) f (b6 ops is gs) [] t;simp only[En,Es]at hg;rw[hvs,hg];split
  ·rename_i ht;rcases hf t ht with h|⟨h1,h2,h3⟩
   ·exact .inl h.symm
   ·exact .inr ⟨by rw[h1];rfl,h2,h3⟩
  ·rename_i ht;rw[ma];split
   ·rename_i hd;refine .inr ⟨rfl,?_,fun i hi hti=>ht ?_⟩
    ·unfold bO at hd;simp only[FT]at hd;obtain⟨i,hi,hd⟩:=hd;unfold cj at hd;cases hoi:ops[i]? with
     |none=>rw[hoi]at hd;simp at hd
     |some o=>rw[hoi]at hd;exact hS.dst i o hoi t hd
    ·unfold b6;rw[GC];exact⟨hd,(sD gs t).2 ⟨i,hi,hti⟩⟩
   ·rename_i hd;rw[T.get t hd];rcases H.get t with h|⟨h1,h2,h3⟩
    ·exact .inl h
    ·exact .inr ⟨h1,h2,fun i hi=>h3 i (by simp[hi])⟩
 ·rw[hr.1,hr2.1,T.al];exact H.al g
 ·rw[hr.2.1,hr2.2.1,T.lb];exact H.lb B
 ·rw[hr.2.2,hr2.2.2]at hB;exact T.lf B (H.lf B hB)
omit [Dr]in
theorem mN(l m:List Nat):∀e:Env,aH cx base ops (l++m) e=ae (aH cx base ops l e) (aH cx base ops m):=by
 induction l with
 |nil=>intro e;rfl
 |cons i l ih=>
  intro e;show ae (stepG cx base ops i e) (aH cx base ops (l++m))=ae (ae (stepG cx base ops i e) (aH cx base ops l)) (aH cx base ops m);rw[cv];congr 1;funext e';exact ih e'
omit [Dr]in
theorem xr{x:Ent}(h1:iG x=true)(h2:x.g=none):x=⟨.val x.av,none⟩:=by
 obtain⟨v,g⟩:=x;cases v with
 |val a=>simp only at h2;subst h2;rfl
 |loc B off=>cases h1
omit [Dr]in
theorem fO{ρ:Type}(hS:Small ops):∀(gs:List (Option (Nat×Bool)×List Nat))(e2 e:Env)(k:Env->M ρ)(h:Hp),(∀g∈gs,∀i∈g.2,guardOf ops i=g.1)->Rel ops (eN gs) e2 e->cM cx base ops gs e2 k h≠.fail->
  (∃e2' e' h',cM cx base ops gs e2 k h=k e2' h'/\aH cx base ops (eN gs) e h= .ok e' h'/\Rel ops [] e2' e')\/∃v h',cM cx base ops gs e2 k h= .pan v h'/\aH cx base ops (eN gs) e h= .pan v h'
 |[],e2,e,k,h,_,H,_=>.inl ⟨e2,e,h,rfl,rfl,H⟩
 | (none,is):: gs,e2,e,k,h,hg,H,hr=>by
  have hg0:∀i∈is,guardOf ops i=none:=hg (none,is) (by simp);have hfl:eN ((none,is):: gs)=is++eN gs:=rfl;rw[hfl]at H |-;rw[mN];simp only[cM]at hr |-;rw[qS is e2 _ hg0]at hr |-;simp only[ae]at hr |-;have hr2:aH cx base ops is e2 h≠.fail:=fun hf=>by rw[hf]at hr;exact hr rfl
  rcases H.run (base:=base) (cx:=cx) is (fun i hi=>by simp[hi]) h hr2 with⟨e2',e',h',h1,h2,H'⟩|⟨v,h',h1,h2⟩
  ·rw[h1]at hr |-;rw[h2];exact fO hS gs e2' e' k h' (fun g hgg=>hg g (by simp[hgg])) (H'.sub fun i hi=>by simp[hi]) hr
  ·rw[h1,h2];exact .inr ⟨v,h',rfl,rfl⟩
 | (some (j,want),is):: gs,e2,e,k,h,hg,H,hr=>by
  have hg0:∀i∈is,guardOf ops i=some (j,want):=hg (some (j,want),is) (by simp);have hfl:eN ((some (j,want),is):: gs)=is++eN gs:=rfl;rw[hfl]at H |-;rw[mN];simp only[cM]at hr |-;cases hdj:cj ops j with
  |none=>rw[hdj]at hr;exact absurd rfl hr
  | some t=>
   rw[hdj]at hr;simp only at hr |-;revert hr;cases hc:((is.all fun i=>match ops[i]? with|some o=>dv cx o&&o.dst.isSome|none=>false)&&!(dD (bO ops is) t))with
   |false=>intro hr;exact absurd rfl hr
   | true=>
    intro hr;simp only[DJ]at hr |-;simp only[DK,EH,DW]at hc;have G:GroupOk cx ops j want t is:=by
     refine⟨hdj,fun i hi=>?_,fun ht=>?_⟩
     ·have:=hc.1 i hi
      cases hoi:ops[i]? with
      |none=>rw[hoi]at this;cases this
      |some o=>
       rw[hoi]at this;simp only[DK]at this;exact⟨o,rfl,hg0 i hi,this.1⟩
     ·rw[(eB _ _).2 ht]at hc;exact Bool.noConfusion hc.2
    have htr:∀i∈is,t∈bV ops i:=fun i hi=>by
     obtain⟨o,ho,hgi,_⟩:=G.each i hi;rw[ea ho];have:o.guard=some (j,want):=by simpa [guardOf,ho]using hgi
     have:t∈dp ops o:=by
      unfold dp;rw[this];simp only;rw[show (ops[j]?).bind (·.dst)=some t from hdj];simp
     simp[this]
    -- the guard says yes
    cases is with
    | nil=>
     have hrn:∀e,aH cx base ops [] e=M.pure e:=fun _=>rfl;rw[hrn,ap];have ho:b6 ops [] gs=[]:=rfl;have hd:bO ops []=[]:=rfl;rw[ho,hd]at hr |-;have hpure:∀ {q:AV} {m:M (List AV)},m h= .ok [] h->aw q want ([]:List Nat).length m h≠.fail->aw q want ([]:List Nat).length m h= .ok [] h:=by
      intro q m hm hne;cases q with
      |bool b=>
       simp only[aw];cases b== want with
       |true=>exact hm
       |false=>rfl
      |tup vs=>
       cases vs with
       |nil=>rfl
       |cons v vs=>exact absurd rfl hne
      |_=>exact absurd rfl hne
     simp only[ae]at hr |-;have hp:=hpure (q:=e2.av t) (m:=fw cx base ops true [] e2 fun e'=>bif ([]:List Nat).all (fun t=>iG (e'.get t))then M.pure (([]:List Nat).map e'.av)else M.fail) rfl (fun hf=>by rw[hf]at hr;exact hr rfl);rw[hp]at hr |-;exact fO hS gs e2 e k h (fun g hgg=>hg g (by simp[hgg])) (H.sub fun i hi=>by simp[hi]) hr
    |cons i0 is0=>
    have hav:e.av t=e2.av t:=by
     have:=H.read (i:=i0) (by simp) (htr i0 (by simp))
     simp only[Env.av,this]
    generalize hiseq:i0:: is0=is at *;have hoff:Off (e2.av t) want->(aw (e2.av t) want (b6 ops is gs).length (fw cx base ops true is e2 fun e'=>bif (b6 ops is gs).all (fun t=>iG (e'.get t))then M.pure ((b6 ops is gs).map e'.av)else M.fail))=M.pure (List.replicate (b6 ops is gs).length (.tup [])):=by
     rintro (hq|⟨b,hq,hb⟩)
     ·rw[hq];rfl
     ·rw[hq];simp only[aw,hb,DO]
    have hcase:Off (e2.av t) want\/e2.av t= .bool want:=by
     cases hq:e2.av t with
     |bool b=>
      cases hb:(b== want)with
      |true=>right;simp at hb;rw[hb]
      |false=>exact .inl (.inr ⟨b,rfl,hb⟩)
     |tup vs=>
      cases vs with
      |nil=>exact .inl (.inl rfl)
      |cons v vs=>rw[hq]at hr;exact absurd rfl hr
     |_=>rw[hq]at hr;exact absurd rfl hr
    rcases hcase with ho|hy
    ·rw[hoff ho,ap]at hr |-;obtain⟨e',h1,T,h2⟩:=xJ (base:=base) is e h G (by rw[hav];exact ho);simp only[ae];rw[h1];refine fO hS gs _ e' k h (fun g hgg=>hg g (by simp[hgg])) (H.close hS T (f:=fun _=>.tup []) ?_ fun s hs=>.inl ?_) hr
     ·exact (List.map_const' ..).symm
     ·refine h2 s ?_;unfold b6 at hs;exact (GC.1 hs).1
    ·rw[hy]at hr |-;simp only[aw,FZ,DJ,ae]at hr |-;rw[oB is e2 _ h G hy]at hr |-;simp only[ae]at hr |-;have hr2:aH cx base ops is e2 h≠.fail:=fun hf=>by rw[hf]at hr;exact hr rfl
     rcases H.run (base:=base) (cx:=cx) is (fun i hi=>by simp[hi]) h hr2 with⟨e2',e',h',h1,h2,H'⟩|⟨v,h',h1,h2⟩
     ·rw[h1]at hr |-;rw[h2];simp only at hr |-;have T2:=jI is e2 e2' h h' G hy h1;have T:=jI is e e' h h' G (by rw[hav];exact hy) h2;cases hv:(b6 ops is gs).all (fun t=>iG (e2'.get t))with
      |false=>rw[hv]at hr;exact absurd rfl hr
      |true=>
       rw[hv]at hr;simp only[DJ,M.pure]at hr |-;refine fO hS gs _ e' k h' (fun g hgg=>hg g (by simp[hgg])) (H.close hS T (f:=e2'.av) rfl fun s hs=>?_) hr;have hsd:s∈bO ops is:=by unfold b6 at hs;exact (GC.1 hs).1
       have hval:=xr (DW.1 hv s hs) (T2.ng s hsd);rcases H'.get s with h3|⟨h3,h4,h5⟩
       ·left;rw[<- h3];exact hval
       ·right;exact⟨by simp only[Env.av,h3];rfl,h4,fun i hi=>h5 i (by simp[hi])⟩
     ·rw[h1,h2];exact .inr ⟨v,h',rfl,rfl⟩
end
end Go.Av
namespace Go.Av
variable [Dr]
omit [Dr]in
theorem gk(acc:List Nat):∀(es:List Edge)(x:Nat),(fF acc es).testBit x=true↔∃e∈es,Region.binds .any e=true/\(e.on=x\/(acc.getD e.on 0).testBit x=true)
 |[],x=>by simp[fF]
 | e :: es,x=>by
  simp only[fF];cases hb:Region.binds .any e with
  | false=>
   simp only[DO,gk acc es x,Eh];constructor
   ·rintro⟨e',he,h⟩;exact⟨e',.inr he,h⟩
   ·rintro⟨e',rfl|he,h⟩
    ·rw[hb]at h;exact absurd h.1 (by simp)
    ·exact⟨e',he,h⟩
  | true=>
   simp only[DJ,Nat.testBit_or,Ey,gk acc es x,Eh,Nat.testBit_two_pow,DU];constructor
   ·rintro ((⟨e',he,h⟩|h)|h)
    ·exact⟨e',.inr he,h⟩
    ·exact⟨e,.inl rfl,hb,.inl h⟩
    ·exact⟨e,.inl rfl,hb,.inr h⟩
   ·rintro⟨e',rfl|he,h1,h2⟩
    ·rcases h2 with h2|h2
     ·exact .inl (.inr h2)
     ·exact .inr h2
    ·exact .inl (.inl ⟨e',he,h1,h2⟩)
omit [Dr]in
theorem nF:∀(os:List Oper)(acc:List Nat),∃r:List Nat,rk os acc=acc++r/\r.length=os.length/\∀(k:Nat)(o:Oper),os[k]? = some o->r[k]? = some (fF (acc++r.take k) o.after.toList)
 |[],acc=>⟨[],by simp[rk],rfl,by simp⟩
 | o:: os,acc=>by
  obtain⟨r,h1,h2,h3⟩:=nF os (acc++[fF acc o.after.toList]);refine⟨fF acc o.after.toList:: r,by simp[rk,h1],by simp[h2],fun k o' ho=>?_⟩;cases k with
  |zero=>simp at ho;subst ho;simp
  |succ k=>
   simp only[Et,Fy]at ho |-;rw[h3 k o' ho];simp
section
variable {ops:Array Oper}
def gJ(ops:Array Oper):List Nat:=rk ops.toList []
omit [Dr]in
theorem uT{j:Nat}{o:Oper}(ho:ops[j]? = some o):(gJ ops).length=ops.size/\(gJ ops).getD j 0=fF ((gJ ops).take j) o.after.toList:=by
 obtain⟨r,h1,h2,h3⟩:=nF ops.toList [];have h4:gJ ops=r:=by unfold gJ;rw[h1];simp
 rw[h4];refine⟨by simp[h2],?_⟩
 have:=h3 j o (by simpa using ho)
 rw[Er,this];simp
omit [Dr]in
theorem tA{listed:Nat->Prop}(hcl:∀(j:Nat)(o:Oper),ops[j]? = some o->listed j->∀e∈o.after.toList,Region.binds .any e=true->listed e.on):
  ∀(j:Nat)(o:Oper),ops[j]? = some o->(∀e∈o.after.toList,Region.binds .any e=true->listed e.on)->∀x,((gJ ops).getD j 0).testBit x=true->listed x:=by
 intro j
 induction j using Nat.strongRecOn with
 | _ j ih=>
  intro o ho hl x hx;obtain⟨hlen,hget⟩:=uT ho;rw[hget,gk]at hx;obtain⟨e,he,hb,hx|hx⟩:=hx
  ·rw[<- hx];exact hl e he hb
  ·by_cases hj:e.on<j
   ·have hjs:j<ops.size:=(Ef.1 ho).1;have hos:ops[e.on]? = some ops[e.on]:=D9 (by omega);have h1:((gJ ops).take j).getD e.on 0=(gJ ops).getD e.on 0:=by
     rw[Er,Er,DY,DR hj]
    rw[h1]at hx;exact ih e.on hj _ hos (hcl e.on _ hos (hl e he hb)) x hx
   ·rw[Er,DY,if_neg hj]at hx;simp at hx
def uw(cx:Cx)(ops:Array Oper)(i j:Nat):Prop:=((gJ ops).getD i 0).testBit j=false/\(((gJ ops).getD j 0).testBit i=true\/jh cx ops i j=true)
omit [Dr]in
theorem kS{cx:Cx}:∀ {l:List Nat},gp cx ops (gJ ops) l=true->l.Pairwise (uw cx ops)/\∀i∈l,((gJ ops).getD i 0).testBit i=false
 |[],_=>⟨.nil,by simp⟩
 |i:: l,h=>by
  simp only[gp,DK,EH,DW,Ey]at h;obtain⟨⟨h1,h2⟩,h3⟩:=h;obtain⟨h4,h5⟩:=kS h3;refine⟨.cons (fun j hj=>h2 j hj) h4,fun k hk=>?_⟩;simp only[Eh]at hk;rcases hk with rfl|hk
  ·exact h1
  ·exact h5 k hk
omit [Dr]in
theorem gO:∀ {l:List Nat},distinct l=true->l.Nodup
 |[],_=>.nil
 |i:: l,h=>by
  simp only[distinct,DK,EH]at h;refine GA.2 ⟨fun hi=>?_,gO h.2⟩;rw[(eB _ _).2 hi]at h;exact Bool.noConfusion h.1
variable {P:Program} {cx:Cx} {c:Entry} {N base:Nat}
theorem pU(hT:TOK P cx.T)(hC:bR P cx.own cx.call)(hI:IsoPure cx)(hO:OpsOk N cx ops)(hS:Small ops)(hbit:∀i x,((gJ ops).getD i 0).testBit x=true->x<ops.size)(hself:∀i,i<ops.size->((gJ ops).getD i 0).testBit i=false){Q:Exit->Act->World->Prop}:∀(n:Nat)(rest:List Nat)(listed:Array Bool)(D:List Nat)(e:Env)(h:Hp)(a:Act)(w:World),rest.length=n->listed.size=ops.size->rest.Nodup->
  (∀i,i∈rest↔i<ops.size/\listed.getD i true=false)->(∀i∈rest,i ∉ D)->(∀i∈D,i<ops.size)->
  (∀(j:Nat)(o:Oper),ops[j]? = some o->listed.getD j false=true->∀e∈o.after.toList,Region.binds .any e=true->listed.getD e.on false=true)->rest.Pairwise (uw cx ops)->
  cZ c N (UD base D) e h a w->aH cx base ops rest e h≠.fail->
  (∀e0 e' h' a' w',aH cx base ops rest e h= .ok e0 h'->EqE e0 e'->cZ c N (UR base ops.size) e' h' a' w'->a'.defers=a.defers->Q .normal a' w')->
  (∀pv h' v w' a',aH cx base ops rest e h= .pan pv h'->ix c pv h' v w'->a'.defers=a.defers->Q (.panic [{ v,recovered:=false }]) a' w')->wpAny P .any ops Q n listed a w
 |0,rest,listed,D,e,h,a,w,hlen,hsz,hnd,hmem,hdis,hD,hcl,hpw,H,hr,hn,hp=>by
  have:rest=[]:=Ee hlen;subst this;refine⟨?_,hn e e h a w rfl (.refl e) (H.wider (xV hD)) rfl⟩;refine List.eq_nil_iff_forall_not_mem.2 fun i hi=>?_;obtain⟨h0,o,ho,_⟩:=mem_ready.1 hi
  have:=(hmem i).2 ⟨(Ef.1 ho).1,h0⟩
  simp at this
 | n + 1,rest,listed,D,e,h,a,w,hlen,hsz,hnd,hmem,hdis,hD,hcl,hpw,H,hr,hn,hp=>by
  have hgd:∀i,i<ops.size->listed.getD i true=listed.getD i false:=fun i hi=>by
   rw[D8,D8,D9 (by omega)];rfl
  refine⟨fun hemp=>?_,fun i hi=>?_⟩
  ·exfalso;cases rest with
   |nil=>simp at hlen
   | cons r0 tl=>
    have hr0:=(hmem r0).1 (by simp);have hor:ops[r0]? = some ops[r0]:=D9 hr0.1;have:r0∈Region.ready .any ops listed:=by
     refine mem_ready.2 ⟨hr0.2,_,hor,fun ed hed hb=>?_⟩;have hbt:((gJ ops).getD r0 0).testBit ed.on=true:=by
      rw[(uT hor).2,gk];exact⟨ed,by simpa using hed,hb,.inl rfl⟩
     have hlt:=hbit r0 ed.on hbt;cases hl:listed.getD ed.on false with
     |true=>rfl
     | false=>
      have hin:=(hmem ed.on).2 ⟨hlt,by rw[hgd _ hlt];exact hl⟩;simp only[Eh]at hin;rcases hin with hin|hin
      ·rw[hin]at hbt;rw[hself r0 hr0.1]at hbt;cases hbt
      ·have:=(List.pairwise_cons.1 hpw).1 ed.on hin
       rw[this.1]at hbt;cases hbt
    rw[hemp]at this;simp at this
  ·obtain⟨h0,o,ho,hall⟩:=mem_ready.1 hi;have hlt:i<ops.size:=(Ef.1 ho).1;have hin:=(hmem i).2 ⟨hlt,h0⟩;obtain⟨p,q,rfl⟩:=List.append_of_mem hin;have hnd':=hnd;rw[List.nodup_append]at hnd';have hni:i ∉ p++q:=by
    intro hm;rw[Eg]at hm;rcases hm with hm|hm
    ·exact hnd'.2.2 i hm i (by simp) rfl
    ·exact (GA.1 hnd'.2.1).1 hm
   have hclo:=tA (ops:=ops) (listed:=fun j=>listed.getD j false=true) (fun j o ho hj ed hed hb=>hcl j o ho hj ed hed hb) i o ho (fun ed hed hb=>hall ed (by simpa using hed) hb);have hfront:∀x∈p,jh cx ops x i=true/\x≠i:=by
    intro x hx;have hpr:=(List.pairwise_append.1 hpw).2.2 x hx i (by simp);refine⟨?_,fun hxi=>hni (by rw[<- hxi];simp[hx])⟩;rcases hpr.2 with h1|h1
    ·have hxl:=hclo x h1;have hxr:=(hmem x).1 (by simp[hx]);rw[hgd x hxr.1]at hxr;rw[hxr.2]at hxl;cases hxl
    ·exact h1
   have hRE:=yD (base:=base) hI hS q p hfront e h;have hr':aH cx base ops (i:: (p++q)) e h≠.fail:=by
    intro hf;rw[hf]at hRE;cases hx:aH cx base ops (p++i:: q) e h with
    |fail=>exact hr hx
    |ok e0 h0=>rw[hx]at hRE;obtain⟨_,h1,_⟩:=hRE;cases h1
    |pan v h0=>rw[hx]at hRE;cases hRE
   simp only[aH,ae]at hr';have hstep:∀ {r:R Env},aH cx base ops (i:: (p++q)) e h=r->aH cx base ops (i:: (p++q)) e h=r:=fun h=>h;simp only[aH,ae]at hRE;refine mS hT hC hO (hdis i hin) H (fun hf=>by rw[hf]at hr';exact hr' rfl) (fun e1 h1 a1 w1 hst hs hdf=>?_) (fun pv h1 v w1 hst hps=>?_)
   ·rw [hst]at hr' hRE;simp only at hr' hRE;refine pU hT hC hI hO hS hbit hself n (p++q) (listed.setIfInBounds i true) (i:: D) e1 h1 a1 w1 ?_ (by simp[hsz]) ?_ (fun k=>?_) (fun k hk=>?_) (fun k hk=>?_) (fun k o' ho' hk ed hed hb=>?_) ?_ hs hr' (fun e0 e' h' a' w' hok heq hsat hdf'=>?_) (fun pv h' v w' a' hok hps hdf'=>?_)
    ·simp only[DX,Ec]at hlen |-;omega
    ·exact hnd.sublist (List.Sublist.append (List.Sublist.refl p) (List.sublist_cons_self i q))
    ·have hset:k≠i->(listed.setIfInBounds i true).getD k true=listed.getD k true:=fun hk=>by
      rw[D8,D8,Fz (Ne.symm hk)]
     constructor
     ·intro hk;have hki:k≠i:=fun h=>hni (h▸hk);rw[hset hki];exact (hmem k).1 (by
       simp only[Eg,Eh]at hk |-;rcases hk with hk|hk
       ·exact .inl hk
       ·exact .inr (.inr hk))
     ·rintro⟨h1,h2⟩;have hki:k≠i:=by
       rintro rfl;rw[D8,Array.getElem?_setIfInBounds_self]at h2;rw[DR (by omega)]at h2;simp at h2
      rw[hset hki]at h2
      have:=(hmem k).2 ⟨h1,h2⟩
      simp only[Eg,Eh]at this |-;rcases this with h|h|h
      ·exact .inl h
      ·exact absurd h hki
      ·exact .inr h
    ·simp only[Eh,not_or];refine⟨fun hki=>hni (hki▸hk),hdis k ?_⟩;simp only[Eg,Eh]at hk |-;rcases hk with hk|hk
     ·exact .inl hk
     ·exact .inr (.inr hk)
    ·simp only[Eh]at hk;rcases hk with rfl|hk
     ·exact hlt
     ·exact hD k hk
    ·have hmono:∀x,listed.getD x false=true->(listed.setIfInBounds i true).getD x false=true:=fun x hx=>getD_set_true hx;by_cases hki:k=i
     ·subst hki;rw[ho]at ho';cases ho';exact hmono _ (hall ed (by simpa using hed) hb)
     ·refine hmono _ (hcl k o' ho' ?_ ed hed hb);rw[D8,Fz (Ne.symm hki),<- D8]at hk;exact hk
    ·exact hpw.sublist (List.Sublist.append (List.Sublist.refl p) (List.sublist_cons_self i q))
    ·rw[hok]at hRE;cases hx:aH cx base ops (p++i:: q) e h with
     |fail=>exact absurd hx hr
     |ok ex hx'=>
      rw[hx]at hRE;obtain⟨e0',h2,h3⟩:=hRE;cases h2;exact hn ex e' _ a' w' hx (h3.trans heq) hsat (hdf'.trans hdf)
     |pan v h0=>rw[hx]at hRE;cases hRE
    ·rw[hok]at hRE;cases hx:aH cx base ops (p++i:: q) e h with
     |fail=>exact absurd hx hr
     |ok ex hx'=>rw[hx]at hRE;obtain⟨_,h1,_⟩:=hRE;cases h1
     |pan v0 h0=>
      rw[hx]at hRE;cases hRE;exact hp _ _ v w' a' hx hps (hdf'.trans hdf)
   ·rw[hst]at hRE;cases hx:aH cx base ops (p++i:: q) e h with
    |fail=>exact absurd hx hr
    |ok ex hx'=>rw[hx]at hRE;obtain⟨_,h1,_⟩:=hRE;cases h1
    |pan v0 h0=>
     rw[hx]at hRE;cases hRE;exact hp _ _ v w1 a hx hps rfl
end
end Go.Av
namespace Go.Av
variable [Dr]
structure IsoCall (cx:Cx):Prop where
 iso:∀f args,cx.iso f=true->∃x:Option (Bool×AV),∀h,cx.call f args h=(match x with|none=>.fail|some (true,v)=>.ok v h|some (false,v)=>.pan v h)
 nw:∀f args,cx.nw f=true->rc (cx.call f args)
omit [Dr]in
theorem IsoCall.draw{cx:Cx}(h:IsoCall cx):IsoPure (dx cx):=by
 refine⟨?_,fun f args hf=>?_⟩
 case refine_2=>
  have hn:=h.nw f args hf;show rc (bif cx.iso f then cu (cx.call f args)else cx.call f args);cases cx.iso f with
  |false=>exact hn
  |true=>
   intro hp v h' hh;simp only[DJ,cu]at hh;cases hq:cx.call f args hp with
   |ok a b=>rw[hq]at hh;cases hh;exact hn _ _ _ hq
   |pan a b=>rw[hq]at hh;cases hh
   |fail=>rw[hq]at hh;cases hh
 intro f args hf;have hf':cx.iso f=true:=hf;obtain⟨x,hx⟩:=h.iso f args hf';refine⟨match x with|some (true,v)=>some v|_=>none,?_⟩;show (bif cx.iso f then cu (cx.call f args)else cx.call f args)=_;rw[hf'];funext hp;simp only[DJ,cu,hx];rcases x with _|⟨b,v⟩
 ·rfl
 ·cases b<;>rfl
theorem bR.draw{P:Program}{cx:Cx}(h:bR P cx.own cx.call):bR P (dx cx).own (dx cx).call:=by
 intro f args hp S β w vs hr hg hw hh hv;have hcall:(dx cx).call f args hp=(bif cx.iso f then cu (cx.call f args) hp else cx.call f args hp):=by
  show (bif cx.iso f then cu (cx.call f args)else cx.call f args) hp=_;cases cx.iso f<;>rfl
 rw[hcall]at hr |-
 have key:∀r,r=cx.call f args hp->r≠.fail->Calls P f vs.toArray w (cF ((dx cx).own f) S β hp w r)/\(P.funcs[f]?).any (fun fn=>fn.body.isSome&&!(fn.name== "runtime.NumGoroutine"))=true:=by
  intro r hr1 hr2;subst hr1;exact h f args hp S β w vs hr2 hg hw hh hv
 cases hi:cx.iso f with
 |false=>rw[hi]at hr;exact key _ rfl hr
 |true=>
  rw[hi]at hr;simp only[DJ,cu]at hr |-;cases hx:cx.call f args hp with
  |ok v hq=>rw[hx]at hr;exact key _ hx.symm (by simp)
  |pan v hq=>rw[hx]at hr;exact absurd rfl hr
  |fail=>rw[hx]at hr;exact absurd rfl hr
def gB(c:Entry)(N:Nat)(e:Env)(h:Hp)(a:Act)(w:World):Prop:=cZ c N (fun g=>g<e.nx*1000) e h a w
theorem cZ.rel{c:Entry}{N:Nat}{U:Nat->Prop}{e2 e:Env}{h:Hp}{a:Act}{w:World}{ops:Array Oper}(H:cZ c N U e h a w)(R:Rel ops [] e2 e):cZ c N U e2 h a w:=by
 obtain⟨S,β,γ,lam,ω,F⟩:=H;refine⟨S,β,γ,lam,ω,F.weak (fun t=>?_) (fun t g hg=>?_) (fun g z hz=>by rw[R.al]at hz;exact hz) (fun B n hB=>by rw[R.lb]at hB;exact hB)⟩
 ·rcases R.get t with h|⟨h1,h2,_⟩
  ·exact .inl (by rw[h])
  ·exact .inr ⟨by rw[h1];rfl,h2⟩
 ·rcases R.get t with h|⟨h1,_⟩
  ·rw[h]at hg;exact hg
  ·rw[h1]at hg;cases hg
theorem cZ.eqE{c:Entry}{N:Nat}{U:Nat->Prop}{e2 e:Env}{h:Hp}{a:Act}{w:World}(H:cZ c N U e h a w)(R:EqE e e2):cZ c N U e2 h a w:=by
 obtain⟨S,β,γ,lam,ω,F⟩:=H;exact⟨S,β,γ,lam,ω,F.weak (fun t=>.inl (by rw[R.get])) (fun t g hg=>by rw[R.get]at hg;exact hg) (fun g z hz=>by rw[R.al]at hz;exact hz) (fun B n hB=>by rw[R.lb]at hB;exact hB)⟩
theorem cZ.nx{c:Entry}{N:Nat}{U:Nat->Prop}{e:Env}{h:Hp}{a:Act}{w:World}(n:Nat)(H:cZ c N U e h a w):cZ c N U { e with nx:=n } h a w:=by
 obtain⟨S,β,γ,lam,ω,F⟩:=H;exact⟨S,β,γ,lam,ω,F.weak (fun t=>.inl rfl) (fun t g hg=>hg) (fun g z hz=>hz) (fun B n hB=>hB)⟩
section
variable {P:Program} {cx:Cx} {c:Entry} {e:Env} {h:Hp} {a:Act} {w:World} {ops:Array Oper} {id:Nat}
omit [Dr]in
theorem m8{n:Nat}(hn:n<=1000)(hd:fN n ops=true)(hk:∀p,t7 (bw cx.ann.kinds p .L)=true->p<n):OpsOk n cx ops/\Small ops:=by
 unfold fN at hd;rw[Array.all_eq_true_iff_forall_mem]at hd;have h1:∀(i:Nat)(o:Oper),ops[i]? = some o->(∀t,o.dst=some t->t<n)/\∀t∈fH o,t<1000:=by
  intro i o ho
  have:=hd o (Array.mem_of_getElem? ho)
  simp only[DK,DW,DU]at this;refine⟨fun t ht=>?_,this.2⟩;have h2:=this.1;rw[ht]at h2;simpa using h2
 refine⟨⟨fun i o ho=>(h1 i o ho).1,fun i o ho x hx t hxt=>(h1 i o ho).2 t ?_,hk⟩,⟨fun i o ho t ht=>Ei ((h1 i o ho).1 t ht) hn,fun i o ho=>(h1 i o ho).2⟩⟩;subst hxt;exact FT.2 ⟨_,hx,rfl⟩
theorem uo{ρ:Type}(hT:TOK P cx.T)(hC:bR P cx.own cx.call)(hI:IsoCall cx)(hk:∀p,t7 (bw cx.ann.kinds p .L)=true->p<cx.nt){draw:Bool}{k:Env->M ρ}(H:gB c cx.nt e h a w)(hr:kC cx id ops draw e k h≠.fail){Q:Exit->Act->World->Prop}(hn:∀e' h' a' w',kC cx id ops draw e k h=k e' h'->gB c cx.nt e' h' a' w'->a'.defers=a.defers->Q .normal a' w')(hp:∀pv h' v w' a',kC cx id ops draw e k h= .pan pv h'->ix c pv h' v w'->a'.defers=a.defers->Q (.panic [{ v,recovered:=false }]) a' w'):
  (Code.region id ops draw).wp P Q a w:=by
 have hN:cx.nt<=1000:=by obtain⟨S,β,γ,lam,ω,F⟩:=H;exact F.tsz.2
 have H0:cZ c cx.nt (UD e.nx []) e h a w:=H.wider fun g hg=>.inl hg;unfold kC at hr hn hp;cases hds:fN cx.nt ops with
 |false=>rw[hds]at hr;exact absurd rfl hr
 | true=>
  obtain⟨hO,hS⟩:=m8 (cx:=cx) hN hds hk;rw[hds]at hr hn hp;simp only[DJ]at hr hn hp;cases draw with
  | false=>
   simp only[DO]at hr hn hp;obtain⟨hfl,hgs⟩:=fE ops (List.range ops.size);refine wp_region (oD hT hC hO (List.range ops.size) [] e h a w List.nodup_range (by simp) H0 ?_ ?_ ?_)
   all_goals
    have hseq:=fO (cx:=cx) (base:=e.nx) hS (ck ops (List.range ops.size)) e e _ h hgs (.refl ops _ e) hr;rw[hfl]at hseq
   ·rcases hseq with⟨_,_,_,_,h2,_⟩|⟨_,_,_,h2⟩<;>rw[h2]<;>simp
   ·intro e' h' a' w' hok hsat hdf;rcases hseq with⟨e2',e'',h'',h1,h2,hR⟩|⟨_,_,_,h2⟩
    ·rw[h2]at hok;cases hok;refine hn _ _ a' w' h1 (cZ.nx _ ((hsat.wider (xV ?_)).rel hR)) hdf;intro i hi;simpa using hi
    ·rw[h2]at hok;cases hok
   ·intro pv h' v w' a' hok hps hdf;rcases hseq with⟨e2',e'',h'',h1,h2,hR⟩|⟨_,_,h1,h2⟩
    ·rw[h2]at hok;cases hok
    ·rw[h2]at hok;cases hok;exact hp _ _ v w' a' h1 hps hdf
  | true=>
   simp only[DJ]at hr hn hp;generalize oz cx id ops.size=ord at hr hn hp;cases hdo:iD cx ops ord with
   |false=>rw[hdo]at hr;exact absurd rfl hr
   | true=>
    rw[hdo]at hr hn hp;simp only[DJ]at hr hn hp;simp only[iD,v7,DK,DW,DU]at hdo;obtain⟨⟨⟨⟨⟨hlen,hmem⟩,hdist⟩,hlt⟩,hbits⟩,hpairs⟩:=hdo;have hlen':ord.length=ops.size:=DN hlen;obtain⟨hpw,hself⟩:=kS (cx:=cx) (ops:=ops) hpairs;have hpw':ord.Pairwise (uw (dx cx) ops):=hpw;have hO':OpsOk cx.nt (dx cx) ops:=⟨hO.dst,hO.src,hO.kin⟩;obtain⟨hfl,hgs⟩:=fE ops ord;have hseq:=fO (cx:=dx cx) (base:=e.nx) hS (ck ops ord) e e _ h hgs (.refl ops _ e) hr;rw[hfl]at hseq;refine wp_region_draw fun t=>?_;have hsch:Region.schedule (P.follows .mixedOrders) ops t=Region.linearise .any ops t:=by
     simp only[Region.schedule,hT.mix,Bool.true_or,El]
    rw[hsch];have hmem':∀i,i∈ord↔i<ops.size:=fun i=>⟨fun hi=>hlt i hi,fun hi=>(eB _ _).1 (hmem i (by simpa using hi))⟩;refine wpAny_sound ops.size t _ a _ (pU (cx:=dx cx) (c:=c) (N:=cx.nt) (base:=e.nx) hT hC.draw hI.draw hO' hS ?_ ?_ ops.size ord (Array.replicate ops.size false) [] e h a w.drew hlen' (by simp) (gO hdist) ?_ (by simp) (by simp) ?_ hpw' ?_ ?_ ?_ ?_)
    ·intro i x hx;rcases D4 x ops.size with h'|h'
     ·exact h'
     ·have hm:(gJ ops).getD i 0<2 ^ ops.size:=by
       rw[Er];cases hi:(gJ ops)[i]? with
       |none=>simp;exact Nat.pow_pos (by omega)
       |some m=>exact hbits m (Fc hi)
      rw[Nat.testBit_lt_two_pow (Ei hm (Nat.pow_le_pow_right (by omega) h'))]at hx;cases hx
    ·exact fun i hi=>hself i ((hmem' i).2 hi)
    ·intro i;rw[hmem'];constructor
     ·intro hi;refine⟨hi,?_⟩;rw[D8,Gu,DR hi];rfl
     ·exact fun hi=>hi.1
    ·intro j o ho hj;exfalso;rw[D8,Gu]at hj;split at hj<;>simp at hj
    ·obtain⟨S,β,γ,lam,ω,F⟩:=H0;exact⟨S,β,γ,lam,ω,F.drew⟩
    ·rcases hseq with⟨_,_,_,_,h2,_⟩|⟨_,_,_,h2⟩<;>rw[h2]<;>simp
    ·intro e0 e' h' a' w' hok heq hsat hdf;rcases hseq with⟨e2',e'',h'',h1,h2,hR⟩|⟨_,_,_,h2⟩
     ·rw[h2]at hok;cases hok;exact hn _ _ a' w' h1 (cZ.nx _ ((hsat.eqE heq.symm).rel hR)) hdf
     ·rw[h2]at hok;cases hok
    ·intro pv h' v w' a' hok hps hdf;rcases hseq with⟨e2',e'',h'',h1,h2,hR⟩|⟨_,_,h1,h2⟩
     ·rw[h2]at hok;cases hok
     ·rw[h2]at hok;cases hok;exact hp _ _ v w' a' h1 hps hdf
end
end Go.Av
namespace Go.Av
variable [Dr]
omit [Dr]in
theorem gn{e:Env}:∀(l:List (Nat×Option Nat))(used:List Nat)(vs:List AV),eD e l used=some vs->vs.length=l.length/\
  (∀(i:Nat)(t:Nat)(z:Option Nat),l[i]? = some (t,z)->∃a,vs[i]? = some a/\(e.get t).v= .val a/\∀sz,z=some sz->∃g z0,(e.get t).g=some g/\aA e.al g=some z0/\(z0=none\/z0=some sz)/\g ∉ used)/\
  ∀(i j:Nat)(t t' sz sz':Nat),i<j->l[i]? = some (t,some sz)->l[j]? = some (t',some sz')->(e.get t).g≠(e.get t').g
 |[],used,vs,h=>by
  simp only[eD,DI]at h;subst h;exact⟨rfl,by simp,by simp⟩
 | (t,none):: r,used,vs,h=>by
  simp only[eD]at h;split at h
  ·rename_i a ha;split at h
   ·rename_i vs' hvs;simp only[DI]at h;subst h;obtain⟨h1,h2,h3⟩:=gn r used vs' hvs;refine⟨by simp[h1],fun i t' z hi=>?_,fun i j t1 t2 sz1 sz2 hij hi hj=>?_⟩
    ·cases i with
     |zero=>
      simp only[D3,DI,Ew]at hi;obtain⟨rfl,rfl⟩:=hi;exact⟨a,rfl,ha,fun sz hsz=>by cases hsz⟩
     |succ i=>simpa using h2 i t' z (by simpa using hi)
    ·cases i with
     |zero=>simp at hi
     |succ i=>
      cases j with
      |zero=>omega
      |succ j=>exact h3 i j t1 t2 sz1 sz2 (by omega) (by simpa using hi) (by simpa using hj)
   ·cases h
  ·cases h
 | (t, some sz):: r,used,vs,h=>by
  simp only[eD]at h;split at h
  ·rename_i a g ha hg;split at h
   ·cases h
   ·rename_i z0 hz0;have hcond:pq z0 (some sz)=true/\dD used g=false/\(match eD e r (g:: used)with|some vs=>some (a:: vs)|none=>none)=some vs:=by
     cases hm:dD used g with
     | true=>
      rw[hm]at h;cases z0 with
      |none=>cases h
      |some n=>
       simp only at h;cases hb:Nat.beq n sz<;>rw[hb]at h<;>cases h
     | false=>
      rw[hm]at h;cases z0 with
      |none=>exact⟨rfl,rfl,h⟩
      |some n=>
       simp only at h;cases hb:Nat.beq n sz with
       |true=>rw[hb]at h;exact⟨hb,rfl,h⟩
       |false=>rw[hb]at h;cases h
    obtain⟨hc1,hc2,h⟩:=hcond;have hc:=And.intro hc1 hc2
    ·split at h
     ·rename_i vs' hvs;simp only[DI]at h;subst h;have hgu:g ∉ used:=fun hm=>by
       rw[(eB _ _).2 hm]at hc;exact Bool.noConfusion hc.2
      have hz:z0=none\/z0=some sz:=by
       cases z0 with
       |none=>exact .inl rfl
       |some n=>exact .inr (by rw[DN hc.1])
      obtain⟨h1,h2,h3⟩:=gn r (g:: used) vs' hvs;refine⟨by simp[h1],fun i t' z hi=>?_,fun i j t1 t2 sz1 sz2 hij hi hj=>?_⟩
      ·cases i with
       |zero=>
        simp only[D3,DI,Ew]at hi;obtain⟨rfl,rfl⟩:=hi;exact⟨a,rfl,ha,fun sz' hsz=>by cases hsz;exact⟨g,z0,hg,hz0,hz,hgu⟩⟩
       |succ i=>
        obtain⟨a',k1,k2,k3⟩:=h2 i t' z (by simpa using hi);refine⟨a',by simpa using k1,k2,fun sz' hsz=>?_⟩;obtain⟨g',z',m1,m2,m3,m4⟩:=k3 sz' hsz;exact⟨g',z',m1,m2,m3,fun hm=>m4 (by simp[hm])⟩
      ·cases i with
       | zero=>
        cases j with
        |zero=>omega
        |succ j=>
         simp only[D3,DI,Ew]at hi;obtain⟨rfl,_⟩:=hi;obtain⟨a',k1,k2,k3⟩:=h2 j t2 (some sz2) (by simpa using hj);obtain⟨g',z',m1,m2,m3,m4⟩:=k3 sz2 rfl;rw[hg,m1];intro hh;simp only[DI]at hh;exact m4 (by simp[hh])
       |succ i=>
        cases j with
        |zero=>omega
        |succ j=>exact h3 i j t1 t2 sz1 sz2 (by omega) (by simpa using hi) (by simpa using hj)
     ·cases h
  ·cases h
omit [Dr]in
theorem gA(vs:List AV)(r:List (Nat×Ent))(t:Nat):∀(l:List (Nat×Option Nat))(k:Nat),
  (∃(i:Nat)(z:Option Nat),l[i]? = some (t,z)/\bg (bI vs k l++r) t=⟨.val (nth vs (k+i)),z.map fun _=>k+i⟩)\/
  ((∀(i:Nat)(z:Option Nat),l[i]? ≠some (t,z))/\bg (bI vs k l++r) t=bg r t)
 |[],k=>.inr ⟨by simp,rfl⟩
 | (s,z):: l,k=>by
  have hh:bI vs k ((s,z):: l)=(s,⟨.val (nth vs k),z.map fun _=>k⟩):: bI vs (k+1) l:=by cases z<;>rfl
  rw[hh,Ej,bq];by_cases hs:s=t
  ·subst hs;rw[DR rfl];exact .inl ⟨0,z,rfl,rfl⟩
  ·rw[if_neg hs];rcases gA vs r t l (k+1)with⟨i,z',h1,h2⟩|⟨h1,h2⟩
   ·refine .inl ⟨i+1,z',by simpa using h1,?_⟩;rw[h2,show k+1+i=k+(i+1) by omega]
   ·refine .inr ⟨fun i z' hi=>?_,h2⟩;cases i with
    |zero=>simp at hi;exact hs hi.1
    |succ i=>exact h1 i z' (by simpa using hi)
omit [Dr]in
theorem ew:∀(l:List (Nat×Option Nat))(k g:Nat)(y:Option Nat),aA (fW k l) g=some y->∃(i t sz:Nat),l[i]? = some (t,some sz)/\g=k+i/\y=some sz
 |[],k,g,y,h=>by simp[fW,aA]at h
 |(s,none):: l,k,g,y,h=>by
  obtain⟨i,t,sz,h1,h2,h3⟩:=ew l (k+1) g y h;exact⟨i+1,t,sz,by simpa using h1,by omega,h3⟩
 | (s,some n):: l,k,g,y,h=>by
  simp only[fW,bh]at h;split at h
  ·rename_i hk;simp only[DI]at h;exact⟨0,s,n,rfl,by omega,h.symm⟩
  ·obtain⟨i,t,sz,h1,h2,h3⟩:=ew l (k+1) g y h;exact⟨i+1,t,sz,by simpa using h1,by omega,h3⟩
omit [Dr]in
theorem kb(t:Nat):∀(l:List (Nat×Nat×Nat)),(∃B off,(t,B,off)∈l/\bg (l.map fun x=>(x.1,(⟨.loc x.2.1 x.2.2,none⟩:Ent))) t=⟨.loc B off,none⟩)\/bg (l.map fun x=>(x.1,(⟨.loc x.2.1 x.2.2,none⟩:Ent))) t=Ent.none
 |[]=>.inr rfl
 | (s,B,off):: l=>by
  rw[Ev,bq];by_cases hs:s=t
  ·subst hs;rw[DR rfl];exact .inl ⟨B,off,by simp,rfl⟩
  ·rw[if_neg hs];rcases kb t l with⟨B',off',h1,h2⟩|h
   ·exact .inl ⟨B',off',by simp[h1],h2⟩
   ·exact .inr h
omit [Dr]in
theorem mo{e:Env}:∀ {l:List (Nat×Nat×Nat)},mn e l=true->∀t B off,(t,B,off)∈l->(e.get t).v= .loc B off
 |[],_,t,B,off,h=>by simp at h
 | (s,B0,off0):: l,h,t,B,off,hm=>by
  simp only[mn,DK]at h;simp only[Eh,Ew]at hm;rcases hm with⟨rfl,rfl,rfl⟩|hm
  ·have h1:=h.1;split at h1
   ·rename_i B' off' hv;simp only[DK]at h1;rw[hv,DN h1.1,DN h1.2]
   ·cases h1
  ·exact mo h.2 t B off hm
omit [Dr]in
theorem om{e:Env}:∀ {l:List (Nat×Nat)},qF e l=true->∀B n,aU l B=some n->aU e.lb B=some n
 |[],_,B,n,h=>by simp[aU]at h
 | (B0,n0):: l,h,B,n,hm=>by
  simp only[qF,DK]at h;rw[cI]at hm;split at hm
  ·rename_i hB;subst hB;simp only[DI]at hm;subst hm;have h1:=h.1;split at h1
   ·rename_i m hv;rw[hv,DN h1]
   ·cases h1
  ·exact om h.2 B n hm
section
variable {c:Entry} {N:Nat} {e:Env} {h:Hp} {a:Act} {w:World}
open Classical in
theorem px{ja:JA}{vs:List AV}(H:gB c N e h a w)(hp:pack ja e=some vs):gB c N (unpack ja vs) h a w:=by
 obtain⟨S,β,γ,lam,ω,F⟩:=H;unfold pack at hp;cases hlo:(mn e ja.locs&&qF e ja.lbs)with
 |false=>rw[hlo]at hp;cases hp
 | true=>
  rw[hlo]at hp;simp only[DJ]at hp;simp only[DK]at hlo;obtain⟨hlen,hval,hdis⟩:=gn ja.vals [] vs hp
  -- the groups carried
  let gOf:Nat->Option Nat:=fun i=>match ja.vals[i]? with|some (t,some _)=>(e.get t).g|_=>none
  have hg1:∀i t sz,ja.vals[i]? = some (t,some sz)->∃g z0,gOf i=some g/\(e.get t).g=some g/\aA e.al g=some z0/\(z0=none\/z0=some sz):=by
   intro i t sz hi;obtain⟨a',_,_,h3⟩:=hval i t (some sz) hi;obtain⟨g,z0,k1,k2,k3,_⟩:=h3 sz rfl;refine⟨g,z0,?_,k1,k2,k3⟩;show (match ja.vals[i]? with|some (t,some _)=>(e.get t).g|_=>none)=some g;rw[hi];exact k1
  have hg2:∀i j g,gOf i=some g->gOf j=some g->i=j:=by
   have hex:∀i g,gOf i=some g->∃t sz,ja.vals[i]? = some (t,some sz)/\(e.get t).g=some g:=by
    intro i g hi;have hi':(match ja.vals[i]? with|some (t,some _)=>(e.get t).g|_=>none)=some g:=hi;split at hi'
    ·rename_i t sz ht;exact⟨t,sz,ht,hi'⟩
    ·cases hi'
   intro i j g hi hj;obtain⟨t,sz,k1,k2⟩:=hex i g hi;obtain⟨t',sz',m1,m2⟩:=hex j g hj;rcases Nat.lt_trichotomy i j with hlt|heq|hlt
   ·exact absurd (k2.trans m2.symm) (hdis i j t t' sz sz' hlt k1 m1)
   ·exact heq
   ·exact absurd (m2.trans k2.symm) (hdis j i t' t sz' sz hlt m1 k1)
  let γ':Nat->Value:=fun i=>match gOf i with|some g=>γ g|none=>undef
  let ω':Nat->Owner:=fun b=>match ω b with
   |.grp g=>if hx:∃i,gOf i=some g then .grp (Classical.choose hx)else .no
   |o=>o
  have hωg:∀b g i,ω b= .grp g->gOf i=some g->ω' b= .grp i:=by
   intro b g i hb hi;show (match ω b with|.grp g=>if hx:∃i,gOf i=some g then Owner.grp (Classical.choose hx)else .no|o=>o)= .grp i;rw[hb];simp only;have hx:∃i,gOf i=some g:=⟨i,hi⟩;rw[dif_pos hx,hg2 _ _ g (F7 hx) hi]
  have hωo:∀b,(∀g,ω b≠.grp g)->ω' b=ω b:=by
   intro b hb;show (match ω b with|.grp g=>if hx:∃i,gOf i=some g then Owner.grp (Classical.choose hx)else .no|o=>o)=ω b;cases ho:ω b with
   |grp g=>exact absurd ho (hb g)
   |_=>rfl
  have hωn:∀b,ω' b≠.no->ω b≠.no:=by
   intro b hb ho;refine hb ?_;rw[hωo b (fun g hg=>by rw[ho]at hg;cases hg),ho]
  have hωx:∀b g,ω' b= .grp g->∃g',ω b= .grp g':=by
   intro b g hg;cases ho:ω b with
   |grp g'=>exact⟨g',rfl⟩
   |_=>rw[hωo b (fun g' h'=>by rw[ho]at h';cases h'),ho]at hg;cases hg
  -- the slots
  have hget:∀t,(∃(i:Nat)(z:Option Nat)(a':AV),ja.vals[i]? = some (t,z)/\(e.get t).v= .val a'/\(unpack ja vs).get t=⟨.val a',z.map fun _=>i⟩)\/(∃B off,(e.get t).v= .loc B off/\(unpack ja vs).get t=⟨.loc B off,none⟩)\/(unpack ja vs).get t=Ent.none:=by
   intro t;have hu:(unpack ja vs).get t=bg (bI vs 0 ja.vals++ja.locs.map fun x=>(x.1,(⟨.loc x.2.1 x.2.2,none⟩:Ent))) t:=rfl;rcases gA vs (ja.locs.map fun x=>(x.1,(⟨.loc x.2.1 x.2.2,none⟩:Ent))) t ja.vals 0 with⟨i,z,h1,h2⟩|⟨h1,h2⟩
   ·obtain⟨a',k1,k2,_⟩:=hval i t z h1;refine .inl ⟨i,z,a',h1,k2,?_⟩;rw[hu,h2,Em];have:nth vs i=a':=by simp[nth,k1]
    rw[this]
   ·rcases kb t ja.locs with⟨B,off,k1,k2⟩|k
    ·exact .inr (.inl ⟨B,off,mo hlo.1 t B off k1,by rw[hu,h2,k2]⟩)
    ·exact .inr (.inr (by rw[hu,h2,k]))
  have hgg:∀t g,((unpack ja vs).get t).g=some g->∃sz,ja.vals[g]? = some (t,some sz):=by
   intro t g hg;rcases hget t with⟨i,z,a',h1,_,h3⟩|⟨_,_,_,h3⟩|h3
   ·rw[h3]at hg;cases z with
    |none=>simp at hg
    |some sz=>simp at hg;subst hg;exact⟨sz,h1⟩
   ·rw[h3]at hg;cases hg
   ·rw[h3]at hg;cases hg
  have hγ:∀t g,((unpack ja vs).get t).g=some g->∃g0 z0,(e.get t).g=some g0/\aA e.al g0=some z0/\γ' g=γ g0:=by
   intro t g hg;obtain⟨sz,h1⟩:=hgg t g hg;obtain⟨g0,z0,k1,k2,k3,_⟩:=hg1 g t sz h1;refine⟨g0,z0,k2,k3,?_⟩;show (match gOf g with|some g=>γ g|none=>undef)=γ g0;rw[k1]
  refine⟨S,β,γ',lam,ω',⟨F.wf,F.gro,F.keep,F.le,F.ext,F.hlen,fun l cs hl hcs=>?_,F.tsz,fun t ht=>?_,fun t g z ht hg hz=>?_,fun B n hB=>?_,fun g z hz=>?_,fun b hb=>⟨(F.mine b (hωn b hb)).1.imp (fun hE=>⟨hE.1,fun g hg=>by obtain⟨g',h'⟩:=hωx b g hg;exact hE.2 g' h'⟩) id,(F.mine b (hωn b hb)).2⟩,fun t g hg=>?_,fun g z hz=>?_⟩⟩
  ·rcases F.heap l cs hl hcs with⟨b,x,h1,h2,h3,h4⟩|⟨b,h1,h3,h4⟩
   ·exact .inl ⟨b,x,h1,h2,by rw[hωo b (fun g hg=>by rw[h3]at hg;cases hg)];exact h3,h4⟩
   ·exact .inr ⟨b,h1,by rw[hωo b (fun g hg=>by rw[h3]at hg;cases hg)];exact h3,h4⟩
  ·have hs:=F.slots t ht;rcases hget t with⟨i,z,a',_,h2,h3⟩|⟨B,off,h2,h3⟩|h3
   ·rw[h3];rw[h2]at hs;exact hs
   ·rw[h3];rw[h2]at hs;exact hs
   ·rw[h3];simp[Ent.none,dF,VR]
  ·obtain⟨g0,z0,k1,k2,k3⟩:=hγ t g hg;rw[k3];exact F.grps t g0 z0 ht k1 k2
  ·obtain⟨k1,k2,k3,b,x,k4,k5,k6,k7,k8⟩:=F.lblk B n (om hlo.2 B n hB);refine⟨k1,k2,k3,b,x,k4,k5,by rw[hωo b (fun g hg=>by rw[k6]at hg;cases hg)];exact k6,k7,fun i hi=>?_⟩;obtain⟨v,a',m1,m2,m3,m4⟩:=k8 i hi;have hgr:∀g z,((unpack ja vs).get (B+i)).g=some g->aA (unpack ja vs).al g=some z->v=γ' g:=by
    intro g z hg _;obtain⟨g0,z0,p1,p2,p3⟩:=hγ _ g hg;rw[p3];exact m4 g0 z0 p1 p2
   rcases hget (B+i)with⟨j,z,a2,_,h2,h3⟩|⟨B',off,h2,h3⟩|h3
   ·refine⟨v,a2,m1,by rw[h3],?_,hgr⟩;rw[m2]at h2;cases h2;exact m3
   ·rw[m2]at h2;cases h2
   ·exact⟨v,.any,m1,by rw[h3];rfl,by simp[VR],hgr⟩
  ·obtain⟨i,t,sz,h1,h2,h3⟩:=ew ja.vals 0 g z hz;rw[Em]at h2;subst h2;obtain⟨g0,z0,k1,k2,k3,k4⟩:=hg1 g t sz h1;have hγ':γ' g=γ g0:=by
    show (match gOf g with|some g=>γ g|none=>undef)=γ g0;rw[k1]
   rw[hγ'];obtain⟨ad,len,cap,m1,m2,m3,m4⟩:=F.free g0 z0 k3;refine⟨ad,len,cap,m1,m2,m3,m4.imp id ?_⟩;rintro⟨sz',b,off,x,p1,p2,p3,p4,p5,p6⟩;have:sz'=sz:=by
    rcases k4 with k4|k4<;>rw[k4]at p1<;>cases p1;rfl
   subst this;exact⟨sz',b,off,x,h3,p2,p3,p4,hωg b g0 g p5 k1,p6⟩
  ·obtain⟨sz,h1⟩:=hgg t g hg;have:g<ja.vals.length:=by
    rcases D4 g ja.vals.length with h|h
    ·exact h
    ·rw[DV h]at h1;cases h1
   show g<ja.vals.length*1000;omega
  ·obtain⟨i,t,sz,h1,h2,h3⟩:=ew ja.vals 0 g z hz;have:i<ja.vals.length:=by
    rcases D4 i ja.vals.length with h|h
    ·exact h
    ·rw[DV h]at h1;cases h1
   show g<ja.vals.length*1000;omega
omit [Dr]in
theorem xt(d:Nat)(h:Hp):il d h .any= .any:=by cases d<;>rfl
omit [Dr]in
theorem s8(g:AV->AV)(hg:g .any= .any)(vs:List AV)(i:Nat):nth (vs.map g) i=g (nth vs i):=by
 unfold nth;rw[Er,Er,EJ];cases vs[i]? with
 |none=>simp[hg]
 |some v=>rfl
structure Reval (g:AV->AV) (x y:Ent):Prop where
 gr:y.g=x.g
 v:(∃a,x.v= .val a/\y.v= .val (g a))\/(∃B off,x.v= .loc B off/\y.v= .loc B off)
omit [Dr]in
theorem eq(g:AV->AV)(hg:g .any= .any)(vs:List AV)(r:List (Nat×Ent))(hr:∀t,Reval g (bg r t) (bg r t))(t:Nat):∀(l:List (Nat×Option Nat))(k:Nat),
  Reval g (bg (bI vs k l++r) t) (bg (bI (vs.map g) k l++r) t)
 |[],k=>by simpa [bI]using hr t
 |(s,none):: l,k=>by
  simp only[bI,Ej,bg];cases Nat.beq s t with
  |true=>exact⟨rfl,.inl ⟨_,rfl,by simp only[DJ];rw[s8 g hg]⟩⟩
  |false=>exact eq g hg vs r hr t l (k+1)
 |(s,some z):: l,k=>by
  simp only[bI,Ej,bg];cases Nat.beq s t with
  |true=>exact⟨rfl,.inl ⟨_,rfl,by simp only[DJ];rw[s8 g hg]⟩⟩
  |false=>exact eq g hg vs r hr t l (k+1)
omit [Dr]in
theorem pw(g:AV->AV)(hg:g .any= .any)(ja:JA)(vs:List AV)(t:Nat):Reval g ((unpack ja vs).get t) ((unpack ja (vs.map g)).get t):=by
 refine eq g hg vs _ (fun t=>?_) t ja.vals 0;rcases kb t ja.locs with⟨B,off,_,k2⟩|k
 ·rw[k2];exact⟨rfl,.inr ⟨B,off,rfl,rfl⟩⟩
 ·rw[k];exact⟨rfl,.inl ⟨.any,rfl,by simp[Ent.none,hg]⟩⟩
theorem FR.reval{U:Nat->Prop}{S:ao}{β:List a8}{γ:Nat->Value}{lam:Nat->Option Nat}{ω:Nat->Owner}{e2:Env}{h2:Hp}{S2:ao}{ω2:Nat->Owner}{g:AV->AV}(F:FR c N U e h a w S β γ lam ω)(F2:FR c N U e h2 a w S2 β γ lam ω2)(hg:∀x v,VR S β x v->VR S2 β (g x) v)(hr:∀t,Reval g (e.get t) (e2.get t))(hal:e2.al=e.al)(hlb:e2.lb=e.lb):FR c N U e2 h2 a w S2 β γ lam ω2:=by
 refine⟨F2.wf,F2.gro,F2.keep,F2.le,F2.ext,F2.hlen,F2.heap,F2.tsz,fun t ht=>?_,fun t k z ht hk hz=>?_,fun B n hB=>?_,fun k z hz=>F2.free k z (by rw[<- hal];exact hz),F2.mine,fun t k hk=>?_,fun k z hz=>F2.used.2 k z (by rw[<- hal];exact hz)⟩
 ·have h1:=F.slots t ht;rcases (hr t).v with⟨x,q1,q2⟩|⟨B,off,q1,q2⟩
  ·rw[q1]at h1;rw[q2];exact hg _ _ h1
  ·rw[q1]at h1;rw[q2];exact h1
 ·rw[(hr t).gr]at hk;rw[hal]at hz;exact F2.grps t k z ht hk hz
 ·rw[hlb]at hB;obtain⟨k1,k2,k3,b,x,k4,k5,k6,k7,k8⟩:=F2.lblk B n hB;obtain⟨_,_,_,b',x',j4,j5,j6,j7,j8⟩:=F.lblk B n hB;rw[k4]at j4;cases j4;cases k5.inj j5;refine⟨k1,k2,k3,b,x,k4,k5,k6,k7,fun i hi=>?_⟩;obtain⟨v,a',m1,m2,m3,m4⟩:=k8 i hi;obtain⟨v',a'',n1,n2,n3,_⟩:=j8 i hi;rw[m1]at n1;cases n1;rcases (hr (B+i)).v with⟨y,q1,q2⟩|⟨B',off,q1,q2⟩
  ·rw[n2]at q1;cases q1;refine⟨v,g a'',m1,q2,hg _ _ n3,fun k z hk hz=>?_⟩;rw[(hr (B+i)).gr]at hk;rw[hal]at hz;exact m4 k z hk hz
  ·rw[n2]at q1;cases q1
 ·rw[(hr t).gr]at hk;exact F2.used.1 t k hk
theorem nc{ja:JA}{vs:List AV}(H:gB c N (unpack ja vs) h a w):gB c N (unpack ja (vs.map (il 6 h))) (h.map fun _=>[]) a w:=by
 obtain⟨S,β,γ,lam,ω,F⟩:=H;obtain⟨S2,ω2,F2,hf⟩:=F.freeze;have F3:=F.reval F2 (g:=il 6 h) (fun x v hx=>hf _ _ hx) (pw _ (xt 6 h) ja vs) (e2:=unpack ja (vs.map (il 6 h))) rfl rfl;exact⟨S2,β,γ,lam,ω2,F3⟩
end
end Go.Av
namespace Go.Av
variable [Dr]
section
variable {P:Program} {cx:Cx} {c:Entry} {e:Env} {h:Hp} {a:Act} {w:World} {ops:Array Oper} {id:Nat}
theorem sf{ρ:Type}(hT:TOK P cx.T)(hC:bR P cx.own cx.call)(hI:IsoCall cx)(hk:∀p,t7 (bw cx.ann.kinds p .L)=true->p<cx.nt){draw:Bool}{k:Env->M ρ}(H:gB c cx.nt e h a w)(hr:jU cx id ops draw e k h≠.fail){Q:Exit->Act->World->Prop}(hn:∀e' h' a' w',jU cx id ops draw e k h=k e' h'->gB c cx.nt e' h' a' w'->a'.defers=a.defers->Q .normal a' w')(hp:∀pv h' v w' a',jU cx id ops draw e k h= .pan pv h'->ix c pv h' v w'->a'.defers=a.defers->Q (.panic [{ v,recovered:=false }]) a' w'):
  (Code.region id ops draw).wp P Q a w:=uo hT hC hI hk H hr hn hp
end
end Go.Av
namespace Go.Av
variable [Dr]
section
variable {P:Program} {Q:Exit->Act->World->Prop} {b:Code}
def gG(P:Program)(c:Code)(Q:Exit->Act->World->Prop)(a:Act)(w:World):Prop:=
 ∀(b:Frame)(k:List Item)(cs:List Frame),∃e a' w',Q e a' w'/\Arrives P (lone (b.at a (.code c:: .inLoop c:: k)) cs w) b k cs e a' w'
omit [Dr]in
theorem gG.loop{a:Act}{w:World}(h:gG P b Q a w):(Code.loop b).wp P Q a w:=
 fun f k cs=>let ⟨e,a',w',q,r⟩:=h f k cs;⟨e,a',w',q,.of_steps (.one step_loop) r⟩
omit [Dr]in
theorem gG.round{a:Act}{w:World}(h:b.wp P (Exit.then (gG P b Q) Q) a w):gG P b Q a w:=by
 intro f k cs;obtain⟨e,a₁,w₁,hq,harr⟩:=h f (.inLoop b:: k) cs;cases e with
 |normal=>
  obtain⟨e₂,a₂,w₂,hq₂,harr₂⟩:=hq f k cs;exact⟨e₂,a₂,w₂,hq₂,.of_steps (Steps.trans harr (.one step_inLoop)) harr₂⟩
 |exit id=>exact⟨_,a₁,w₁,hq,.pass (x:=.inLoop b) rfl (fun _ _=>.inl (by simp)) harr⟩
 |goto l=>exact⟨_,a₁,w₁,hq,.pass (x:=.inLoop b) rfl (fun _ _=>.inl (by simp)) harr⟩
 |ret=>exact⟨_,a₁,w₁,hq,.pass (x:=.inLoop b) rfl (fun _ _=>.inl (by simp)) harr⟩
 |panic ch=>exact⟨_,a₁,w₁,hq,.pass (x:=.inLoop b) rfl (fun _ _=>.inl (by simp)) harr⟩
 |outgrown=>exact⟨_,a₁,w₁,hq,.pass (x:=.inLoop b) rfl (fun _ _=>.inl (by simp)) harr⟩
end
section
variable {P:Program} {cx:Cx} {c:Entry} {ρ:Type}
omit [Dr]in
theorem vq{fx:cd ρ}{id:Nat}{code:Code}{e:Env}{kn kr:Env->M ρ}{kx:Nat->Env->M ρ}(hc:∀b,code≠.loop b):
  ev cx fx (.block id code) e kn kx kr=ev cx fx code e kn (fun i e'=>bif Nat.beq i id then kn e' else kx i e') kr:=by
 cases code<;>first|rfl|exact absurd rfl (hc _)
def rU(cx:Cx)(x:Code):Option JA:=match iV x with
 |some t=>kD cx.ann.joins t
 |none=>none
omit [Dr]in
theorem zn{fx:cd ρ}{x y:Code}{e:Env}{kn kr:Env->M ρ}{kx:Nat->Env->M ρ}:ev cx fx (.seq x y) e kn kx kr=(match rU cx x with
  |some ja=>jn (fun vs=>ev cx fx y (unpack ja vs) kn kx kr) fun j=>ev cx fx x e (mU ja j) kx kr
  |none=>ev cx fx x e (fun e'=>ev cx fx y e' kn kx kr) kx kr):=by
 unfold rU;simp only[ev];cases iV x with
 |none=>rfl
 |some t=>
  simp only;cases kD cx.ann.joins t<;>rfl
structure Posts (c:Entry) (N:Nat) (r:R ρ) (a:Act) (kn:Env->M ρ) (kx:Nat->Env->M ρ) (kr:Env->M ρ) (Q:Exit->Act->World->Prop):Prop where
 nrm:∀e' h' a' w',r=kn e' h'->gB c N e' h' a' w'->a'.defers=a.defers->Q .normal a' w'
 ext:∀i e' h' a' w',r=kx i e' h'->gB c N e' h' a' w'->a'.defers=a.defers->Q (.exit i) a' w'
 ret:∀e' h' a' w',r=kr e' h'->gB c N e' h' a' w'->a'.defers=a.defers->Q .ret a' w'
 pan:∀pv h' v w' a',r= .pan pv h'->ix c pv h' v w'->a'.defers=a.defers->Q (.panic [{ v,recovered:=false }]) a' w'
theorem pt{ja:JA}{j:List AV->M ρ}{e:Env}{h:Hp}{N:Nat}{a:Act}{w:World}(H:gB c N e h a w)(hr:mU ja j e h≠.fail):∃vs h',mU ja j e h=j vs h'/\gB c N (unpack ja vs) h' a w:=by
 unfold mU at hr |-;cases hp:pack ja e with
 |none=>rw[hp]at hr;exact absurd rfl hr
 |some vs=>
  have hs:=px H hp;simp only;cases ja.fz with
  |false=>exact⟨vs,h,rfl,hs⟩
  |true=>exact⟨_,_,rfl,nc hs⟩
theorem vt(hT:TOK P cx.T)(hC:bR P cx.own cx.call)(hI:IsoCall cx)(hk:∀p,t7 (bw cx.ann.kinds p .L)=true->p<cx.nt)(m:Nat):∀(n:Nat)(code:Code),SizeOf.sizeOf code<n->
  ∀(e:Env)(h:Hp)(a:Act)(w:World)(kn:Env->M ρ)(kx:Nat->Env->M ρ)(kr:Env->M ρ)(Q:Exit->Act->World->Prop),gB c cx.nt e h a w->ev cx (bZ m) code e kn kx kr h≠.fail->
  Posts c cx.nt (ev cx (bZ m) code e kn kx kr h) a kn kx kr Q->code.wp P Q a w:=by
 intro n
 induction n with
 |zero=>intro code hn;omega
 | succ n ih=>
  intro code hn e h a w kn kx kr Q H hr hp;cases code<;>(try exact absurd rfl hr)
  case skip=>exact wp_skip (hp.nrm e h a w rfl H rfl)
  case exit id=>exact wp_exit (hp.ext id e h a w rfl H rfl)
  case ret=>exact wp_ret (hp.ret e h a w rfl H rfl)
  case region id ops draw=>exact sf hT hC hI hk H hr hp.nrm hp.pan
  case seq x y=>
   have hx:SizeOf.sizeOf x<n:=by simp at hn;omega
   have hy:SizeOf.sizeOf y<n:=by simp at hn;omega
   refine wp_seq ?_;rw[zn]at hr hp;generalize rU cx x=oj at hr hp;cases oj with
   |none=>
    simp only at hr hp;refine ih x hx e h a w _ kx kr _ H hr ⟨fun e' h' a' w' hok hs hd=>?_,fun i e' h' a' w' hok hs hd=>hp.ext i e' h' a' w' hok hs hd,fun e' h' a' w' hok hs hd=>hp.ret e' h' a' w' hok hs hd,fun pv h' v w' a' hok hs hd=>hp.pan pv h' v w' a' hok hs hd⟩;rw[hok]at hr hp;exact ih y hy e' h' a' w' kn kx kr Q hs hr ⟨fun e2 h2 a2 w2 k1 k2 k3=>hp.nrm e2 h2 a2 w2 k1 k2 (k3.trans hd),fun i e2 h2 a2 w2 k1 k2 k3=>hp.ext i e2 h2 a2 w2 k1 k2 (k3.trans hd),fun e2 h2 a2 w2 k1 k2 k3=>hp.ret e2 h2 a2 w2 k1 k2 (k3.trans hd),fun pv h2 v w2 a2 k1 k2 k3=>hp.pan pv h2 v w2 a2 k1 k2 (k3.trans hd)⟩
   |some ja=>
    simp only[jn]at hr hp;refine ih x hx e h a w _ kx kr _ H hr ⟨fun e' h' a' w' hok hs hd=>?_,fun i e' h' a' w' hok hs hd=>hp.ext i e' h' a' w' hok hs hd,fun e' h' a' w' hok hs hd=>hp.ret e' h' a' w' hok hs hd,fun pv h' v w' a' hok hs hd=>hp.pan pv h' v w' a' hok hs hd⟩;rw[hok]at hr hp;obtain⟨vs,h3,hj,hs3⟩:=pt hs hr;rw[hj]at hr hp;exact ih y hy (unpack ja vs) h3 a' w' kn kx kr Q hs3 hr ⟨fun e2 h2 a2 w2 k1 k2 k3=>hp.nrm e2 h2 a2 w2 k1 k2 (k3.trans hd),fun i e2 h2 a2 w2 k1 k2 k3=>hp.ext i e2 h2 a2 w2 k1 k2 (k3.trans hd),fun e2 h2 a2 w2 k1 k2 k3=>hp.ret e2 h2 a2 w2 k1 k2 (k3.trans hd),fun pv h2 v w2 a2 k1 k2 k3=>hp.pan pv h2 v w2 a2 k1 k2 (k3.trans hd)⟩
  case cond o x y=>
   have hx:SizeOf.sizeOf x<n:=by simp at hn;omega
   have hy:SizeOf.sizeOf y<n:=by simp at hn;omega
   cases o<;>(try exact absurd rfl hr)
   case const v=>
    simp only[ev]at hr hp
    have hav:∀b,cA v= .bool b->a.eval (.const v)= .bool b:=by
     intro b hb;show v= .bool b;cases v with
     |bool c=>simp only[cA,sM,AV.bool.injEq]at hb;rw[hb]
     |tuple vs=>simp only[cA]at hb;cases hvs:vs.isEmpty<;>rw[hvs]at hb<;>cases hb
     |pointer p=>cases p<;>(simp only[cA,sM]at hb;cases hb)
     |map p=>cases p<;>(simp only[cA,sM]at hb;cases hb)
     | slice p n m=>
      have hs:sM (.slice p n m)= .sl []\/sM (.slice p n m)= .any:=by
       cases p with
       |some q=>exact .inr rfl
       | none=>cases n with
        |succ n=>exact .inr rfl
        |zero=>cases m with
         |succ m=>exact .inr rfl
         |zero=>exact .inl rfl
      simp only[cA]at hb;rcases hs with hs|hs<;>rw[hs]at hb<;>cases hb
     |_=>simp only[cA,sM]at hb;cases hb
    cases hq:cA v<;>rw[hq]at hr hp<;>(try exact absurd rfl hr);rename_i b;cases b with
    |true=>exact wp_cond (hav true hq) (ih x hx e h a w kn kx kr Q H hr hp)
    |false=>exact wp_cond (hav false hq) (ih y hy e h a w kn kx kr Q H hr hp)
   rename_i t;simp only[ev]at hr hp;cases ht:decide (t<1000)with
   |false=>rw[ht]at hr;exact absurd rfl hr
   | true=>
    rw[ht]at hr hp;simp only[DJ]at hr hp;have htl:t<1000:=by simpa using ht
    have hav:∀b,e.av t= .bool b->a.eval (.tmp t)= .bool b:=by
     intro b hb;obtain⟨S,β,γ,lam,ω,F⟩:=H;have hs:=F.slots t htl;simp only[Env.av,Ent.av]at hb;cases hv:(e.get t).v with
     |val av=>
      rw[hv]at hs hb;simp only at hb;subst hb;simp only[dF,VR]at hs;exact hs
     |loc B off=>rw[hv]at hb;cases hb
    cases hq:e.av t<;>rw[hq]at hr hp<;>(try exact absurd rfl hr);rename_i b;cases b with
    |true=>exact wp_cond (hav true hq) (ih x hx e h a w kn kx kr Q H hr hp)
    |false=>exact wp_cond (hav false hq) (ih y hy e h a w kn kx kr Q H hr hp)
  case block id code=>
   refine wp_block ?_;by_cases hc:∃b,code= .loop b
   ·obtain⟨b,rfl⟩:=hc;have hb:SizeOf.sizeOf b<n:=by simp at hn;omega
    simp only[ev]at hr hp;cases hja:kD cx.ann.loops id with
    |none=>rw[hja]at hr;exact absurd rfl hr
    | some ja=>
     rw[hja]at hr hp;simp only at hr hp;refine gG.loop ?_;obtain⟨vs,h3,hj,hs3⟩:=pt H hr;rw[hj]at hr hp;have key:∀(k:Nat)(vs:List AV)(h:Hp)(a1:Act)(w:World),gB c cx.nt (unpack ja vs) h a1 w->a1.defers=a.defers->
       bZ k (fun self vs=>ev cx (bZ m) b (unpack ja vs) (mU ja self) (fun i e'=>bif Nat.beq i id then kn e' else kx i e') kr) vs h≠.fail->
       Posts c cx.nt (bZ k (fun self vs=>ev cx (bZ m) b (unpack ja vs) (mU ja self) (fun i e'=>bif Nat.beq i id then kn e' else kx i e') kr) vs h) a kn kx kr Q->gG P b (Exit.inBlock id Q) a1 w:=by
      intro k
      induction k with
      |zero=>intro vs h a1 w _ _ hr _;exact absurd rfl hr
      | succ k ihk=>
       intro vs h a1 w hs hd hr hp;simp only[bZ]at hr hp;refine gG.round (ih b hb (unpack ja vs) h a1 w _ _ kr _ hs hr ⟨fun e' h' a' w' hok hs' hd'=>?_,fun i e' h' a' w' hok hs' hd'=>?_,fun e' h' a' w' hok hs' hd'=>hp.ret e' h' a' w' hok hs' (hd'.trans hd),fun pv h' v w' a' hok hs' hd'=>hp.pan pv h' v w' a' hok hs' (hd'.trans hd)⟩)
       ·rw[hok]at hr hp;obtain⟨vs',h4,hj',hs4⟩:=pt hs' hr;rw[hj']at hr hp;exact ihk vs' h4 a' w' hs4 (hd'.trans hd) hr hp
       ·cases hi:Nat.beq i id with
        |true=>
         rw[hi]at hok
         have:=DN hi
         subst this;show Exit.inBlock i Q (.exit i) a' w';simp only[Exit.inBlock,El];exact hp.nrm e' h' a' w' hok hs' (hd'.trans hd)
        |false=>
         rw[hi]at hok;have hne:i≠id:=fun hh=>by subst hh;simp at hi
         show Exit.inBlock id Q (.exit i) a' w';simp only[Exit.inBlock,if_neg hne];exact hp.ext i e' h' a' w' hok hs' (hd'.trans hd)
     exact key m vs h3 a w hs3 rfl hr hp
   ·have hc':∀b,code≠.loop b:=fun b hb=>hc ⟨b,hb⟩;rw[vq hc']at hr hp;have hs:SizeOf.sizeOf code<n:=by simp at hn;omega
    refine ih code hs e h a w kn _ kr _ H hr ⟨fun e' h' a' w' hok hs' hd'=>hp.nrm e' h' a' w' hok hs' hd',fun i e' h' a' w' hok hs' hd'=>?_,fun e' h' a' w' hok hs' hd'=>hp.ret e' h' a' w' hok hs' hd',fun pv h' v w' a' hok hs' hd'=>hp.pan pv h' v w' a' hok hs' hd'⟩;cases hi:Nat.beq i id with
    |true=>
     rw[hi]at hok
     have:=DN hi
     subst this;show Exit.inBlock i Q (.exit i) a' w';simp only[Exit.inBlock,El];exact hp.nrm e' h' a' w' hok hs' hd'
    |false=>
     rw[hi]at hok;have hne:i≠id:=fun hh=>by subst hh;simp at hi
     show Exit.inBlock id Q (.exit i) a' w';simp only[Exit.inBlock,if_neg hne];exact hp.ext i e' h' a' w' hok hs' hd'
end
end Go.Av
namespace Go.Av
variable [Dr]
omit [Dr]in
theorem lN:∀(args:List AV)(i t:Nat),bg (pJ i args) t=if i<=t/\t<i+args.length then⟨.val (nth args (t-i)),none⟩else Ent.none
 |[],i,t=>by
  simp only[pJ,bg,Es,EQ];rw[if_neg (by omega)]
 | a:: as0,i,t=>by
  simp only[pJ,bq,Ec];by_cases h:i=t
  ·subst h;rw[DR rfl,DR (by omega)];simp[nth]
  ·rw[if_neg h,lN as0 (i+1) t];by_cases h2:i+1<=t/\t<i+1+as0.length
   ·rw[DR h2,DR (by omega)];have:t-i=(t-(i+1))+1:=by omega
    simp[nth,this]
   ·rw[if_neg h2,if_neg (by omega)]
section
variable {P:Program} {cx:Cx}
open Classical in
theorem su{w:World}{S:ao}{β:List a8}{h:Hp}{args:List AV}{vs:List Value}{n:Nat}(hg:lq β h w)(hw:Wf S w)(hh:bS S β w h)(hv:aE S β args vs)(hn:args.length<=n)(hn2:n<=1000):
  ∃γ lam ω,FR { w,S,β,E:=bu β h,gok:=hg } n (fun g=>g<(kX args).nx*1000) (kX args) h { tmps:=vs.toArray++Array.replicate (n-vs.toArray.size) undef,defers:=[] } w S β γ lam ω:=by
 obtain⟨hlen,ω0,hr⟩:=hh;have hvl:=hv.length;have hget:∀t,(kX args).get t=if t<args.length then⟨.val (nth args t),none⟩else Ent.none:=fun t=>by
  have:=lN args 0 t
  simp only[ER,true_and,Em,Ge]at this;exact this
 let ω:Nat->Owner:=fun b=>if bu β h b then ω0 b else .no;refine⟨fun _=>undef,fun _=>none,ω,⟨hw,Gro.refl _,fun b _ _=>⟨rfl,fun _=>rfl⟩,ao.le_refl S,dU.refl β,hlen,fun l cs hl hcs=>?_,⟨?_,hn2⟩,fun t ht=>?_,fun t g z ht hg=>?_,fun B m hB=>?_,fun g z hz=>?_,fun b hb=>?_,fun t g hg=>?_,fun g z hz=>?_⟩⟩
 ·have hown:∀b n,β[l]? = some (b,n)->ω0 b= .heap l->ω b= .heap l:=fun b n h1 h3=>by
   show (if bu β h b then ω0 b else .no)=_;rw[DR ⟨l,cs,_,hl,hcs,h1⟩];exact h3
  rcases hr l cs hl hcs with⟨b,x,h1,h2,h3,h4⟩|⟨b,h1,h3,h4⟩
  ·exact .inl ⟨b,x,h1,h2,hown b _ h1 h3,h4⟩
  ·exact .inr ⟨b,h1,hown b _ h1 h3,h4⟩
 ·simp;omega
 ·rw[hget];split
  ·rename_i hlt;have hx:args[t]? = some (nth args t):=by simp[nth,hlt]
   obtain⟨v,h1,h2⟩:=hv.get hx;have:(vs.toArray++Array.replicate (n-vs.toArray.size) undef).getD t undef=v:=by
    rw[D8,E1 (by simp;omega)];simp[h1]
   rw[this];exact h2
  ·simp[Ent.none,dF,VR]
 ·rw[hget]at hg;split at hg<;>cases hg
 ·cases hB
 ·cases hz
 ·have hb':bu β h b:=by
   by_cases ho:bu β h b
   ·exact ho
   ·exact absurd (show ω b= .no from if_neg ho) hb
  obtain⟨l,cs,m,h1,h2,h3⟩:=hb';obtain⟨b',x,k1,k2,k3,_⟩:=hr.own h1 h2;rw[h3]at k1;cases k1;have hω:ω b= .heap l:=by
   show (if bu β h b then ω0 b else .no)=_;rw[DR ⟨l,cs,_,h1,h2,h3⟩];exact k3
  exact⟨.inl ⟨⟨l,cs,_,h1,h2,h3⟩,fun g=>by rw[hω];simp⟩,k2⟩
 ·rw[hget]at hg;split at hg<;>cases hg
 ·cases hz
theorem start{w:World}{S:ao}{β:List a8}{h:Hp}{args:List AV}{vs:List Value}{n:Nat}(hg:lq β h w)(hw:Wf S w)(hh:bS S β w h)(hv:aE S β args vs)(hn:args.length<=n)(hn2:n<=1000):
  gB { w,S,β,E:=bu β h,gok:=hg } n (kX args) h { tmps:=vs.toArray++Array.replicate (n-vs.toArray.size) undef,defers:=[] } w:=⟨S,β,su hg hw hh hv hn hn2⟩
def eS(tmps:Array Value):ResultVar->Sem Value
 |.tmp t=>pure (tmps.getD t undef)
 |.cell p t=>do loadVar t (<- asAddr (tmps.getD p undef))
omit [Dr]in
theorem mL(fn:Func)(tmps:Array Value):results fn tmps=(do let vs <- fn.results.mapM (eS tmps);pure (if h:vs.size=1 then vs[0]else .tuple vs)):=by
 unfold results;congr 1
theorem zL{c:Entry}{N:Nat}{U:Nat->Prop}{e:Env}{h:Hp}{a:Act}{w:World}{S:ao}{β:List a8}{γ:Nat->Value}{lam:Nat->Option Nat}{ω:Nat->Owner}(hT:TOK P cx.T)(F:FR c N U e h a w S β γ lam ω){r:ResultVar}{v:AV}(hr:qQ cx.T e r=some v):∃u,(eS a.tmps r).run P w= .ok u w/\VR S β v u:=by
 cases r with
 | tmp t=>
  simp only[qQ]at hr;cases ht:decide (t<1000)with
  |false=>rw[ht]at hr;cases hr
  | true=>
   rw[ht]at hr;simp only[DJ]at hr;have hs:=F.slots t (by simpa using ht);cases hv:(e.get t).v with
   |loc B off=>rw[hv]at hr;cases hr
   |val av=>
    rw[hv]at hr hs;simp only[DI]at hr;subst hr;exact⟨_,by simp only[eS,Sem.run_pure],hs⟩
 | cell p t=>
  simp only[qQ]at hr;cases hp:decide (p<1000)with
  |false=>rw[hp]at hr;cases hr
  | true=>
   rw[hp]at hr;simp only[DJ]at hr;have hs:=F.slots p (by simpa using hp);cases hv:(e.get p).v with
   | loc B off=>
    rw[hv]at hr hs;cases ht:cx.T t with
    |none=>rw[ht]at hr;cases hr
    | some ti=>
     rw[ht]at hr;simp only at hr;cases hin:im e B off ti.size with
     |false=>rw[hin]at hr;cases hr
     | true=>
      rw[hin]at hr;simp only[DJ]at hr;simp only[dF]at hs;obtain⟨b,hlam,hpv⟩:=hs;obtain⟨b',x,m,hm,hle,hlam',hrow,hms,hcells⟩:=F.locals hin;rw[hlam]at hlam';cases hlam';let f:Nat->Value:=fun i=>(x[off+i]?).getD undef;have hf:∀i,i<ti.size->x[off+i]? = some (f i):=fun i hi=>by
       obtain⟨v,_,hv',_⟩:=hcells i hi;show _=some ((x[off+i]?).getD undef);rw[hv'];rfl
      have hload:=kN hT ht hrow f hf;have hexec:∀v,(loadVar t ⟨b,off,none⟩).run P w= .ok v w->(eS a.tmps (.cell p t)).run P w= .ok v w:=fun v hv'=>by
       simp only[eS];rw[hpv];simpa [asAddr]using hv'
      cases hag:ti.agg with
      |true=>
       rw[hag]at hr;simp only[DJ,DI]at hr;subst hr;refine⟨_,hexec _ (hload.1 hag),?_⟩;simp only[VR];refine⟨_,rfl,mb ti.size fun i hi=>?_⟩;obtain⟨v,a',g1,g2,g3,_⟩:=hcells i hi;have:f i=v:=by show (x[off+i]?).getD undef=v;rw[g1];rfl
       rw[this];simp only[Env.av,Ent.av,g2];exact g3
      | false=>
       rw[hag]at hr;simp only[DO]at hr;cases hone:decide (ti.size=1)with
       |false=>rw[hone]at hr;cases hr
       |true=>
        rw[hone]at hr;simp only[DJ,DI]at hr;subst hr;have hone':ti.size=1:=by simpa using hone
        obtain⟨v,a',g1,g2,g3,g4⟩:=hcells 0 (by omega);simp only[EQ]at g1 g2 g4;have hfv:f 0=v:=by show (x[off+0]?).getD undef=v;rw[EQ,g1];rfl
        refine⟨v,hexec _ (hfv▸hload.2 hag hone'),?_⟩;simp only[Env.av,Ent.av,g2];exact g3
   | val av=>
    rw[hv]at hr hs;cases ht:cx.T t with
    |none=>rw[ht]at hr;cases hr
    |some ti=>
     rw[ht]at hr;simp only at hr;obtain⟨v,h1,h2⟩:=sX hT F.wf hr hs;refine⟨v,?_,h2⟩;unfold ak at hr;rw[ht]at hr;cases av<;>simp only[reduceCtorEq]at hr;simp only[dF,VR]at hs;obtain⟨b,off,vs,hpv,_,_⟩:=hs;simp only[eS];rw[hpv]at h1 |-;simpa [Instr.loadAt,Instr.sureAddr,asAddr]using h1
theorem sg{c:Entry}{N:Nat}{U:Nat->Prop}{e:Env}{h:Hp}{a:Act}{w:World}{S:ao}{β:List a8}{γ:Nat->Value}{lam:Nat->Option Nat}{ω:Nat->Owner}(hT:TOK P cx.T)(F:FR c N U e h a w S β γ lam ω){fn:Func}{vs:List AV}(hr:eb cx.T e fn.results.toList=some vs):∃u,(results fn a.tmps).run P w= .ok u w/\VR S β (iw vs) u:=by
 have key:∀(l:List ResultVar)(vs:List AV),eb cx.T e l=some vs->∃us:List Value,(l.mapM (eS a.tmps)).run P w= .ok us w/\aE S β vs us:=by
  intro l
  induction l with
  |nil=>intro vs h;simp only[eb,DI]at h;subst h;exact⟨[],by simp,by simp[aE]⟩
  | cons r rs ih=>
   intro vs h;simp only[eb]at h;cases h1:qQ cx.T e r with
   |none=>rw[h1]at h;cases h
   | some v=>
    cases h2:eb cx.T e rs with
    |none=>rw[h1,h2]at h;cases h
    |some vs'=>
     rw[h1,h2]at h;simp only[DI]at h;subst h;obtain⟨u,k1,k2⟩:=zL hT F h1;obtain⟨us,m1,m2⟩:=ih vs' h2;refine⟨u:: us,?_,by simp only[aE];exact⟨u,us,rfl,k2,m2⟩⟩;rw[List.mapM_cons,Sem.run_bind,k1,Result.andThen_ok,Sem.run_bind,m1,Result.andThen_ok,Sem.run_pure]
 obtain⟨us,k1,k2⟩:=key _ _ hr;have hlen:=k2.length;have hrun:(fn.results.mapM (eS a.tmps)).run P w= .ok us.toArray w:=by
  rw[Gp];rw[map_eq_pure_bind,Sem.run_bind,k1,Result.andThen_ok,Sem.run_pure]
 refine⟨if h:us.toArray.size=1 then us.toArray[0]else .tuple us.toArray,?_,?_⟩
 ·rw[mL,Sem.run_bind,hrun,Result.andThen_ok,Sem.run_pure]
 ·unfold iw;split
  ·rename_i v;cases us with
   |nil=>simp at hlen
   |cons u us=>
    cases us with
    |nil=>simp only[aE]at k2;obtain⟨x,xs,hx,hy,_⟩:=k2;simp at hx;simp[hx.1,hy]
    |cons u2 us=>simp at hlen
  ·rename_i hne;rw[dif_neg]
   ·simp only[VR];exact⟨us,rfl,k2⟩
   ·intro h1;have:vs.length=1:=by rw[<- hlen];simpa using h1
    match vs,this with
    |[v],_=>exact hne v rfl
end
end Go.Av
namespace Go.Av
variable [Dr]
omit [Dr]in
theorem qB{n:Nat}{ks:List (Nat×Kind)}(h:jk n ks=true):∀p,t7 (bw ks p .L)=true->p<n:=by
 intro p hp
 induction ks with
 |nil=>simp[bw,t7]at hp
 | cons x ks ih=>
  obtain⟨k,y⟩:=x;unfold jk at h;simp only[Fh,DK]at h;simp only[bw]at hp;cases hk:Nat.beq k p with
  |true=>
   rw[hk]at hp;simp only[DJ]at hp
   have:=h.1
   rw[hp]at this;have hk':=DN hk;subst hk';simpa using this
  |false=>
   rw[hk]at hp;exact ih h.2 hp
section
variable {P:Program} {cx:Cx}
theorem zI{c:Entry}{N:Nat}{U:Nat->Prop}{e:Env}{h:Hp}{a:Act}{w:World}{S:ao}{β:List a8}{γ:Nat->Value}{lam:Nat->Option Nat}{ω:Nat->Owner}(F:FR c N U e h a w S β γ lam ω){fn:Func}{sz:Nat}(ho:pd fn e sz=true){u:Value}(hu:(results fn a.tmps).run P w= .ok u w):oJ c.w.heap.size S β w h sz u:=by
 unfold pd at ho;split at ho
 ·rename_i t hres;cases ht:decide (t<1000)with
  |false=>rw[ht]at ho;cases ho
  | true=>
   rw[ht]at ho;simp only[Fq]at ho;split at ho
   ·rename_i g hg;split at ho
    ·rename_i z hz;have hgr:=F.grps t g z (by simpa using ht) hg hz;obtain⟨ad,len,cap,h1,h2,h3,h4⟩:=F.free g z hz;have hue:u=a.tmps.getD t undef:=by
      have hr:fn.results= #[.tmp t]:=by apply Fi;simpa using hres
      rw[mL,hr]at hu;simp[eS]at hu;simpa using hu.symm
     rw[hue,hgr];refine⟨ad,len,cap,h1,h2,h3,h4.imp id ?_⟩;rintro⟨sz',b,off,x,k1,k2,k3,k4,k5,k6⟩;have hsz:sz'=sz:=by
      rw[k1]at ho;simp only[pq]at ho;exact DN ho
     subst hsz;refine⟨b,off,x,k2,k3,k4,(F.mine b (by rw[k5];simp)).1.grp k5,fun hb=>?_,k6⟩;obtain⟨l,_,hl,_⟩:=F.hown hb;rw[k5]at hl;cases hl
    ·cases ho
   ·cases ho
 ·cases ho
omit [Dr]in
theorem wn{fn:Func}{own:Option Nat}{e:Env}{h:Hp}(hr:fU cx fn own e h≠.fail):∃rs,eb cx.T e fn.results.toList=some rs/\(fU cx fn own e h= .ok (iw rs) h\/(own=none/\fU cx fn own e h= .ok (il 6 h (iw rs)) (h.map fun _=>[])))/\∀sz,own=some sz->pd fn e sz=true:=by
 have key:∀b z:Bool,(bif b then ae (ah ((eb cx.T e fn.results.toList).map iw)) (bif z then(bif own.isSome then fun _=>M.fail else sT)else M.pure)else M.fail:M AV) h≠.fail->b=true/\∃rs,eb cx.T e fn.results.toList=some rs/\
   ((bif b then ae (ah ((eb cx.T e fn.results.toList).map iw)) (bif z then(bif own.isSome then fun _=>M.fail else sT)else M.pure)else M.fail:M AV) h= .ok (iw rs) h\/
    (own=none/\(bif b then ae (ah ((eb cx.T e fn.results.toList).map iw)) (bif z then(bif own.isSome then fun _=>M.fail else sT)else M.pure)else M.fail:M AV) h= .ok (il 6 h (iw rs)) (h.map fun _=>[]))):=by
  intro b z hr;cases b with
  |false=>exact absurd rfl hr
  | true=>
   refine⟨rfl,?_⟩;cases hres:eb cx.T e fn.results.toList with
   |none=>rw[hres]at hr;exact absurd rfl hr
   | some rs=>
    rw[hres]at hr;cases z with
    |false=>exact⟨rs,rfl,.inl rfl⟩
    |true=>
     cases own with
     |none=>exact⟨rs,rfl,.inr ⟨rfl,rfl⟩⟩
     |some sz=>exact absurd rfl hr
 unfold fU at hr |-;cases own with
 |none=>
  obtain⟨_,rs,h1,h2⟩:=key true _ hr;exact⟨rs,h1,h2,fun sz hsz=>by cases hsz⟩
 |some sz=>
  obtain⟨h0,rs,h1,h2⟩:=key _ _ hr;exact⟨rs,h1,h2,fun sz' hsz=>by cases hsz;exact h0⟩
theorem e8(hT:TOK P cx.T)(hC:bR P cx.own cx.call)(hI:IsoCall cx)(m:Nat){f:FuncId}{fn:Func}(hf:P.funcs[f]? = some fn)(hnt:cx.nt=fn.ntmps){own:Option Nat}{args:List AV}{h:Hp}{S:ao}{β:List a8}{w:World}{vs:List Value}(hr:bD cx (bZ m) fn own args h≠.fail)(hg:lq β h w)(hw:Wf S w)(hh:bS S β w h)(hv:aE S β args vs):Calls P f vs.toArray w (cF own S β h w (bD cx (bZ m) fn own args h))/\fn.body.isSome=true:=by
 unfold bD at hr |-;cases hb:fn.body with
 |none=>rw[hb]at hr;exact absurd rfl hr
 | some code=>
  rw[hb]at hr;simp only at hr |-;refine⟨?_,rfl⟩;cases hc:(decide (args.length<=fn.ntmps)&&decide (fn.ntmps<=1000)&&jk cx.nt cx.ann.kinds)with
  |false=>rw[hc]at hr;exact absurd rfl hr
  | true=>
   rw[hc]at hr;simp only[DJ]at hr |-;simp only[DK,DU]at hc;obtain⟨⟨hc1,hc2⟩,hc3⟩:=hc;have H:gB { w,S,β,E:=bu β h,gok:=hg } cx.nt (kX args) h { tmps:=vs.toArray++Array.replicate (fn.ntmps-vs.toArray.size) undef,defers:=[] } w:=by
    rw[hnt];exact start hg hw hh hv hc1 hc2
   have hret:∀(e':Env)(h':Hp)(a':Act)(w':World),ev cx (bZ m) code (kX args) (fU cx fn own) (fun _ _=>M.fail) (fU cx fn own) h=fU cx fn own e' h'->
     gB { w,S,β,E:=bu β h,gok:=hg } cx.nt e' h' a' w'->∃v,(results fn a'.tmps).run P w'= .ok v w'/\cF own S β h w (ev cx (bZ m) code (kX args) (fU cx fn own) (fun _ _=>M.fail) (fU cx fn own) h) (.returned v) w':=by
    intro e' h' a' w' hok hs;rw[hok]at hr |-;obtain⟨rs,hres,hret,hown⟩:=wn hr;obtain⟨S',β',γ,lam,ω,F⟩:=hs;obtain⟨u,hu1,hu2⟩:=sg (P:=P) hT F hres;rcases hret with hret|⟨rfl,hret⟩
    ·rw[hret];exact⟨u,hu1,S',β',u,rfl,hu2,F.out,fun sz hsz=>zI F (hown sz hsz) hu1⟩
    ·rw[hret];obtain⟨S2,ω2,F2,hf⟩:=F.freeze;exact⟨u,hu1,S2,β',u,rfl,hf _ _ hu2,F2.out,fun sz hsz=>by cases hsz⟩
   refine calls_of_wp hf hb (vt hT hC hI (qB hc3) m _ code (Gs _) (kX args) h _ w _ _ _ _ H hr ⟨fun e' h' a' w' hok hs hd=>?_,fun i e' h' a' w' hok hs hd=>?_,fun e' h' a' w' hok hs hd=>?_,fun pv h' v w' a' hok hs hd=>?_⟩)
   ·exact⟨hd,hret e' h' a' w' hok hs⟩
   ·rw[hok]at hr;exact absurd rfl hr
   ·exact⟨hd,hret e' h' a' w' hok hs⟩
   ·refine⟨hd,?_⟩;rw[hok];obtain⟨S',β',hout,hvr⟩:=hs;exact⟨S',β',v,rfl,hvr,hout⟩
end
open Classical in
theorem sU{S:ao}{β:List a8}{w w':World}{h:Hp}(_hw:Wf S w)(hh:bS S β w h){β0:List a8}{h0:Hp}(hE:∀b,¬bu β0 h0 b){S':ao}{β':List a8}{h':Hp}(L:Left (bu β0 h0) S β0 w S' β' w' h'):∃S2,Left (bu β h) S β w S2 β w' h/\(∀a v,VR S' β' a v->VR S2 β (il 6 h' a) v)/\∀sz v,oJ w.heap.size S' β' w' h' sz v->oJ w.heap.size S2 β w' h sz v:=by
 obtain⟨hlen,ω,hH⟩:=L.heap;have hnew:∀b,bu β' h' b->w.heap.size<=b:=fun b hb=>(L.owned b hb).resolve_left (hE b);let S2:ao:=fun b o=>if bu β' h' b then w'.cell? ⟨b,o,none⟩else S' b o;have hS2n:∀b,¬bu β' h' b->∀o,S2 b o=S' b o:=fun b hb o=>if_neg hb;have hS2y:∀b,bu β' h' b->∀o,S2 b o=w'.cell? ⟨b,o,none⟩:=fun b hb o=>DR hb;have hle:S'.le S2:=by
  intro b o v hv;by_cases hb:bu β' h' b
  ·obtain⟨l,cs,n,h1,h2,h3⟩:=hb;obtain⟨b',x,k1,k2,k3,k5⟩:=hH.own h1 h2;rw[h3]at k1;cases k1;rw[k5]at hv;cases hv
  ·rw[hS2n b hb];exact hv
 have hrow:∀b,b<w.heap.size->w'.heap[b]? = w.heap[b]? /\∀o,S2 b o=S b o:=by
  intro b hb;have hk:=L.keep b hb (hE b);refine⟨hk.1,fun o=>?_⟩;rw[hS2n b (fun ho=>by have:=hnew b ho;omega)];exact hk.2 o
 have hwf:Wf S2 w':=by
  intro b o v hv;by_cases hb:bu β' h' b
  ·rw[hS2y b hb]at hv;exact hv
  ·rw[hS2n b hb]at hv;exact L.wf b o v hv
 obtain⟨hlen0,ω0,hH0⟩:=hh;have hlt0:∀b,bu β h b->b<w.heap.size:=by
  rintro b ⟨l,cs,n,h1,h2,h3⟩;obtain⟨b',x,k1,k2,_⟩:=hH0.own h1 h2;rw[h3]at k1;cases k1;exact k2
 have hle0:S.le S2:=ao.le_trans L.le hle;refine⟨S2,⟨hle0,dU.refl β,hwf,L.gro,fun b hb _=>hrow b hb,⟨hlen0,ω0,hH0.rows hle0 (dU.refl β) hlen0 fun l cs hl _=>.inl ⟨hl,fun b hb ho=>⟨ho,(hrow b hb).1,fun o h=>by rw[(hrow b hb).2];exact h⟩⟩⟩,fun b hb=>.inl hb⟩,fun a v hv=>oX hH hle (fun b o x hb hr=>?_) 6 a v hv,fun sz v=>?_⟩
 ·rw[hS2y b hb,hr.cell]
 ·rintro⟨ad,len,cap,k1,k2,k3,k4⟩;refine⟨ad,len,cap,k1,k2,k3,k4.imp id ?_⟩;rintro⟨b,off,x,p1,p2,p3,p4,p5,p6⟩;refine⟨b,off,x,p1,p2,p3,p4,fun hb=>?_,fun o ho=>by rw[hS2n b p5];exact p6 o ho⟩
  have:=hlt0 b hb
  omega
theorem vO{S:ao}{β:List a8}{w w':World}{h:Hp}{own:Option Nat}{m:List AV->M AV}{args:List AV}{en:Ending}(hw:Wf S w)(hh:bS S β w h)(hp:cF own S [] [] w (m (dJ ax args) []) en w'):cF own S β h w (mh m args h) en w':=by
 have key:=fun{S':ao} {β':List a8} {h':Hp} (L:Left (bu [] []) S [] w S' β' w' h')=>sU hw hh (by rintro b ⟨l,cs,n,h1,_⟩;simp at h1) L;unfold mh;cases hm:m (dJ ax args) []with
 |fail=>rw[hm]at hp;exact hp.elim
 |ok r h'=>
  rw[hm]at hp;obtain⟨S',β',v,h1,h2,h3,h4⟩:=hp;obtain⟨S2,k1,k2,k3⟩:=key h3;exact⟨S2,β,v,h1,k2 r v h2,k1,fun sz hsz=>k3 sz v (h4 sz hsz)⟩
 |pan r h'=>
  rw[hm]at hp;obtain⟨S',β',v,h1,h2,h3⟩:=hp;obtain⟨S2,k1,k2,k3⟩:=key h3;exact⟨S2,β,v,h1,k2 r v h2,k1⟩
structure GoodPg (P:Program) (p:Pg):Prop where
 tok:TOK P p.T
 funcs:∀f fn a,p.funcs f=some (fn,a)->P.funcs[f]? = some fn/\(fn.name== "runtime.NumGoroutine")=false
 other:∀f E,p.other f=some E->∀call,bR P p.own call->∀(args:List AV)(h:Hp)(S:ao)(β:List a8)(w:World)(vs:List Value),E call args h≠.fail->lq β h w->Wf S w->bS S β w h->aE S β args vs->
  Calls P f vs.toArray w (cF (p.own f) S β h w (E call args h))/\(P.funcs[f]?).any (fun fn=>fn.body.isSome&&!(fn.name== "runtime.NumGoroutine"))=true
 nw:∀f,p.nw f=true->∃E,p.other f=some E/\∀call args,rc (E call args)
omit [Dr]in
theorem bS.nil{S:ao}{w:World}:bS S [] w []:=⟨rfl,fun _=>.no,fun l cs hl=>by simp at hl⟩
theorem pZ{P:Program}{p:Pg}(G:GoodPg P p)(m:Nat){call:FuncId->List AV->M AV}(hC:bR P p.own call)(hI:∀n a,IsoCall (p.cx call n a)):bR P p.own (fv p call (bZ m)):=by
 intro f args h S β w vs hr hg hw hh hv;unfold fv at hr |-;cases ho:p.other f with
 |some E=>rw[ho]at hr;exact G.other f E ho call hC args h S β w vs hr hg hw hh hv
 | none=>
  rw[ho]at hr;simp only at hr |-;cases hf:p.funcs f with
  |none=>rw[hf]at hr;exact absurd rfl hr
  | some x=>
   obtain⟨fn,a⟩:=x;rw[hf]at hr;simp only at hr |-;obtain⟨hf1,hf2⟩:=G.funcs f fn a hf
   have hany:fn.body.isSome=true->(P.funcs[f]?).any (fun fn=>fn.body.isSome&&!(fn.name== "runtime.NumGoroutine"))=true:=by
    intro hb;rw[hf1];simp only[Option.any_some,hb,hf2,Bool.not_false,FW]
   cases hi:a.iso with
   |false=>
    rw[hi]at hr;simp only[DO]at hr |-;obtain⟨h1,h2⟩:=e8 (cx:=p.cx call fn.ntmps a) G.tok hC (hI _ _) m hf1 rfl hr hg hw hh hv;exact⟨h1,hany h2⟩
   | true=>
    rw[hi]at hr;simp only[DJ]at hr |-;have hr':bD (p.cx call fn.ntmps a) (bZ m) fn (p.own f) (dJ ax args) []≠.fail:=by
     intro hf;unfold mh at hr;rw[hf]at hr;exact hr rfl
    obtain⟨h1,h2⟩:=e8 (cx:=p.cx call fn.ntmps a) G.tok hC (hI _ _) m hf1 rfl hr' ⟨hg.1,fun b _ hb=>by obtain⟨l,_,_,h1,_⟩:=hb;simp at h1⟩ hw bS.nil (u9 hv);exact⟨h1.mono fun en w' hp=>vO hw hh hp,hany h2⟩
omit [Dr]in
theorem rK(p:Pg)(hN:∀f,p.nw f=true->∃E,p.other f=some E/\∀call args,rc (E call args)):∀n k a,IsoCall (p.cx (b9 p n) k a)
 |0,k,a=>⟨fun f args _=>⟨none,fun _=>rfl⟩,fun f args _ h v h' hh=>by cases hh⟩
 | n+1,k,a=>by
  refine⟨?_,fun f args hf=>?_⟩
  case refine_2=>
   obtain⟨E,hE,hn⟩:=hN f hf;have:(p.cx (b9 p (n+1)) k a).call f args=E (b9 p n) args:=by
    show fv p (b9 p n) (bZ n) f args=_;unfold fv;rw[hE]
   rw[this];exact hn _ _
  intro f args hi;have hi':p.iso f=true:=hi;unfold Pg.iso at hi';cases ho:p.other f with
  |some E=>rw[ho]at hi';cases hi'
  | none=>
   rw[ho]at hi';simp only at hi';cases hf:p.funcs f with
   |none=>rw[hf]at hi';cases hi'
   |some x=>
    obtain⟨fn,b⟩:=x;rw[hf]at hi';simp only at hi';refine⟨match bD (p.cx (b9 p n) fn.ntmps b) (bZ n) fn (p.own f) (dJ ax args) []with|.ok r h'=>some (true,il 6 h' r)|.pan v h'=>some (false,il 6 h' v)|.fail=>none,fun h=>?_⟩;show fv p (b9 p n) (bZ n) f args h=_;unfold fv;rw[ho];simp only;rw[hf];simp only[hi',DJ,mh];cases bD (p.cx (b9 p n) fn.ntmps b) (bZ n) fn (p.own f) (dJ ax args) []<;>rfl
theorem i6{P:Program}{p:Pg}(G:GoodPg P p):∀n,bR P p.own (b9 p n)
 |0=>fun _f _args _h _S _β _w _vs hr=>absurd rfl hr
 |n+1=>pZ G n (i6 G n) fun k a=>rK p G.nw n k a
end Go.Av
namespace Go.Av
def vL{m:List AV->M AV}{ms:Nat->List AV->M AV}(h:bc m ms)(args:List AV):aL (mh m args) fun n=>mh (ms n) args:=by
 intro x;obtain⟨h1,h2⟩:=h (dJ ax args) []
 (try dsimp only at h1 h2)
 refine⟨fun hne=>?_,fun n hne=>?_⟩
 ·have hne':m (dJ ax args) []≠.fail:=fun hf=>hne (by simp only[mh,hf]);obtain⟨N,hN⟩:=h1 hne';refine⟨N,fun n hn=>?_⟩
  (try dsimp only)
  simp only[mh,hN n hn]
 ·(try dsimp only at hne |-)
  have hne':ms n (dJ ax args) []≠.fail:=fun hf=>hne (by simp only[mh,hf]);simp only[mh,h2 n hne']
def ci(p:Pg):Prop:=∀f E,p.other f=some E->∀(call:FuncId->List AV->M AV)(calls:Nat->FuncId->List AV->M AV),(∀f,bc (call f) fun n=>calls n f)->bc (E call) fun n=>E (calls n)
section
variable {cx:Cx} {call:FuncId->List AV->M AV} {calls:Nat->FuncId->List AV->M AV} {fx:cd AV} {fxs:Nat->cd AV}
theorem rJ(hc:∀f,bc (call f) fun n=>calls n f)(hfx:jM fx fxs)(hfc:pB fx)(hfcs:∀n,pB (fxs n))(fn:Func)(own:Option Nat):
  bc (bD (cx.wc call) fx fn own) fun n=>bD (cx.wc (calls n)) (fxs n) fn own:=by
 intro args;unfold bD;cases fn.body with
 |none=>exact aL.const _
 | some c=>
  have key:∀b:Bool,aL (bif b then ev (cx.wc call) fx c (kX args) (fU (cx.wc call) fn own) (fun _ _=>M.fail) (fU (cx.wc call) fn own)else M.fail) fun n=>(bif b then ev (cx.wc (calls n)) (fxs n) c (kX args) (fU (cx.wc (calls n)) fn own) (fun _ _=>M.fail) (fU (cx.wc (calls n)) fn own)else M.fail):=by
   intro b;cases b with
   |false=>exact aL.const _
   |true=>
    have hr:bc (fU (cx.wc call) fn own) fun n=>fU (cx.wc (calls n)) fn own:=bc.const (fU cx fn own);exact zm _ c (Gs _) call calls fx fxs hc hfx hfc hfcs (kX args) _ (fun n=>fU (cx.wc (calls n)) fn own) _ (fun _ _ _=>M.fail) _ (fun n=>fU (cx.wc (calls n)) fn own) hr (fun i=>bc.const _) hr
  exact key (decide (args.length<=fn.ntmps)&&decide (fn.ntmps<=1000)&&jk cx.nt cx.ann.kinds)
theorem nR{p:Pg}(hO:ci p)(hc:∀f,bc (call f) fun n=>calls n f)(hfx:jM fx fxs)(hfc:pB fx)(hfcs:∀n,pB (fxs n))(f:FuncId):bc (fv p call fx f) fun n=>fv p (calls n) (fxs n) f:=by
 intro args;unfold fv;cases ho:p.other f with
 |some E=>exact hO f E ho call calls hc args
 | none=>
  simp only;cases p.funcs f with
  |none=>exact aL.const _
  |some x=>
   obtain⟨fn,a⟩:=x;simp only;have hb:=rJ (cx:=p.cx call fn.ntmps a) hc hfx hfc hfcs fn (p.own f);cases a.iso with
   |true=>exact vL hb args
   |false=>exact hb args
end
theorem kB{p:Pg}(hO:ci p):∀n f args,sE (b9 p n f args) (b9 p (n+1) f args)
 |0,f,args=>fun x hne=>absurd rfl hne
 | n+1,f,args=>by
  have hc:∀f,bc (b9 p (n+1) f) fun m=>(if m=0 then b9 p n else b9 p (n+1)) f:=by
   intro f args x;refine⟨fun _=>⟨1,fun m hm=>?_⟩,fun m hne=>?_⟩
   ·(try dsimp only)
    rw[if_neg (by omega)]
   ·(try dsimp only at hne |-)
    by_cases h0:m=0
    ·rw[DR h0]at hne |-;exact kB hO n f args x hne
    ·rw[if_neg h0]
  have h:=nR hO hc (qe n) (oV (n+1)) (fun m=>by
   by_cases h0:m=0
   ·rw[DR h0];exact oV n
   ·rw[if_neg h0];exact oV (n+1)) f args
  intro x hne
  have:=(h x).2 0
  (try dsimp only at this)
  rw[DR rfl,DR rfl]at this;exact this hne
def oT{p:Pg}(hO:ci p){n m:Nat}(h:n<=m)(f:FuncId)(args:List AV):sE (b9 p n f args) (b9 p m f args):=by
 induction m with
 | zero => have:n=0:=by omega
           subst this;exact .refl _
 |succ m ih=>
  by_cases hn:n=m+1
  ·subst hn;exact .refl _
  ·exact (ih (by omega)).trans (kB hO m f args)
open Classical in
noncomputable def af(p:Pg)(f:FuncId)(args:List AV):M AV:=fun h=>if hx:∃n,b9 p n f args h≠.fail then b9 p (Classical.choose hx) f args h else .fail
def gZ{p:Pg}(hO:ci p)(f:FuncId):bc (af p f) fun n=>b9 p n f:=by
 intro args h;refine nK (fun n m hnm hne=>oT hO hnm f args h hne) ?_;unfold af;by_cases hx:∃n,b9 p n f args h≠.fail
 ·left;simp only[dif_pos hx];exact⟨_,F7 hx,rfl⟩
 ·right;simp only[dif_neg hx];exact⟨fun n=>Gm fun h=>hx ⟨n,h⟩,trivial⟩
def lr.uniq{α:Type}{a a':R α}{b:Nat->R α}(h:lr a b)(g:lr a' fun n=>b (n+1)):a=a':=by
 by_cases ha:a= .fail
 ·by_cases ha':a'= .fail
  ·rw[ha,ha']
  ·obtain⟨N,hN⟩:=g.1 ha';have h1:=hN N (DT _)
   (try dsimp only at h1)
   exact (h.2 (N+1) (by rw[h1];exact ha')).symm.trans h1
 ·obtain⟨N,hN⟩:=h.1 ha;have h1:=hN (N+1) (by omega);have h2:=g.2 N
  (try dsimp only at h2)
  exact h1.symm.trans (h2 (by rw[h1];exact ha))
def lP{p:Pg}(hO:ci p)(f:FuncId)(args:List AV):af p f args=fv p (af p) ai f args:=by
 funext h;have h1:=gZ hO f args h;have h2:=nR hO (fun f=>gZ hO f) qd vA (fun n=>oV n) f args h;exact h1.uniq h2
def gK[Dr]{P:Program}{p:Pg}(G:GoodPg P p)(hO:ci p):bR P p.own (af p):=by
 intro f args h S β w vs hr hg hw hh hv;obtain⟨N,hN⟩:=(gZ hO f args h).1 hr;have h1:=hN N (DT _)
 (try dsimp only at h1)
 rw[<- h1]at hr |-;exact i6 G N f args h S β w vs hr hg hw hh hv
def u5{p:Pg}(hO:ci p){n:Nat}{f:FuncId}{args:List AV}{h:Hp}{r:R AV}(hr:b9 p n f args h=r)(hne:r≠.fail):af p f args h=r:=by
 have:=(gZ hO f args h).2 n (by(try dsimp only);rw[hr];exact hne)
 (try dsimp only at this)
 rw[<- this,hr]
end Go.Av
namespace Go.Av
section
variable {ρ:Type}
theorem bU{F:(List AV->M ρ)->List AV->M ρ}(hF:ir F)(vs:List AV):ai F vs=F (ai F) vs:=by
 funext h;exact (ez hF vs h).uniq (hF _ _ (ez hF) vs h)
theorem aP{c:AV}{x y:M ρ}{xs ys:Nat->M ρ}(hx:aL x xs)(hy:aL y ys):aL (aQ c x y) fun n=>aQ c (xs n) (ys n):=by
 unfold aQ;cases c with
 |bool b=>cases b<;>first|exact hx|exact hy
 |_=>exact aL.const _
theorem nW{F:(List AV->M ρ)->List AV->M ρ}{Fs:Nat->(List AV->M ρ)->List AV->M ρ}(h1:cU F Fs)(h2:ir F)(h3:∀n,ir (Fs n)):bc (ai F) fun n=>ai (Fs n):=vA F Fs h1 h2 h3
end
end Go.Av
namespace Go.Av
def aK(m:M AV):M AV:=fun h=>match m []with
 |.ok r h'=>.ok (il 6 h' r) h
 |.pan v h'=>.pan (il 6 h' v) h
 |.fail=>.fail
def ay{p:Pg}(hO:ci p){f:FuncId}{fn:Func}{a:Ann}(h1:p.other f=none)(h2:p.funcs f=some (fn,a))(h3:a.iso=true)(args:List AV):
  af p f args=aK (bD (p.cx (af p) fn.ntmps a) ai fn (p.own f) (dJ ax args)):=by
 rw[lP hO];unfold fv;rw[h1];simp only;rw[h2];simp only[h3,DJ];rfl
def cq{p:Pg}(hO:ci p){f:FuncId}{fn:Func}{a:Ann}(h1:p.other f=none)(h2:p.funcs f=some (fn,a))(h3:a.iso=false)(args:List AV):
  af p f args=bD (p.cx (af p) fn.ntmps a) ai fn (p.own f) args:=by
 rw[lP hO];unfold fv;rw[h1];simp only;rw[h2];simp only[h3,DO]
def cH{p:Pg}(hO:ci p){f:FuncId}{E:(FuncId->List AV->M AV)->List AV->M AV}(h1:p.other f=some E)(args:List AV):af p f args=E (af p) args:=by
 rw[lP hO];unfold fv;rw[h1]
def cB(T:TT)(t:TypeId):(FuncId->List AV->M AV)->List AV->M AV:=fun _ args=>match args with
 |[.sl es]=>appH T t true (.sl []) (.sl es)
 |_=>M.fail
def lT(T:TT)(t:TypeId)(call:FuncId->List AV->M AV)(calls:Nat->FuncId->List AV->M AV):bc (cB T t call) fun n=>cB T t (calls n):=bc.const _
def cD{α:Type}{b:Bool}{x:α}{o:Option α}{y:α}(h:(bif b then some x else o)=some y):x=y\/o=some y:=by
 cases b with
 |true=>exact .inl (by simpa using h)
 |false=>exact .inr h
def nO(T:TT)(t:TypeId)(call:FuncId->List AV->M AV)(args:List AV):rc (cB T t call args):=by
 unfold cB;split
 ·rename_i y;intro h v h' hh;unfold appH at hh;split at hh
  ·cases hh
  ·split at hh
   ·split at hh
    ·cases hh
    ·split at hh
     ·cases hh
     ·rename_i bs _;revert hh;generalize (_&&_:Bool)=b1;cases b1 with
      |false=>intro hh;cases hh
      | true=>
       simp only[DJ];cases bs.isEmpty with
       |true=>intro hh;cases hh;exact⟨[],by simp⟩
       |false=>
        simp only[DO];generalize decide (_<=140737488355328)=b2;cases b2 with
        |false=>intro hh;cases hh
        |true=>intro hh;cases hh;exact⟨_,rfl⟩
   ·cases hh
 ·intro h v h' hh;cases hh
end Go.Av
namespace Go.Av
variable [Dr]
open Go.RowKit
section
variable {S:ao} {β:List a8} {h:Hp} {w w':World}
omit [Dr]in
theorem bS.below(hh:bS S β w h){S':ao}(hb:∀b,b<w.heap.size->w'.heap[b]? = w.heap[b]? /\∀o,S' b o=S b o)(hle:S.le S'):bS S' β w' h:=by
 obtain⟨hlen,ω,hr⟩:=hh;exact⟨hlen,ω,hr.rows hle (dU.refl β) hlen fun l cs hl _=>.inl ⟨hl,fun b hlt ho=>⟨ho,(hb b hlt).1,fun o h=>by rw[(hb b hlt).2];exact h⟩⟩⟩
theorem rV(hw:Wf S w)(hh:bS S β w h)(hb:Below w.heap.size w w')(hd:Dr.on->w.drawn<=w'.drawn){S':ao}(hS:∀b,b<w.heap.size->∀o,S' b o=S b o)(hnew:∀b o v,w.heap.size<=b->S' b o=some v->w'.cell? ⟨b,o,none⟩=some v):
  Left (bu β h) S β w S' β w' h:=by
 have hle:S.le S':=fun b o v hv=>by rw[hS b (hw.lt hv)];exact hv
 refine⟨hle,dU.refl β,fun b o v hv=>?_,⟨hb.size,hb.os,hb.output,hb.tape,hd⟩,fun b hlt _=>⟨hb.block b hlt,hS b hlt⟩,hh.below (fun b hlt=>⟨hb.block b hlt,hS b hlt⟩) hle,fun b hb=>.inl hb⟩;rcases D4 b w.heap.size with hlt|hge
 ·rw[hS b hlt]at hv;rw[cell_of_heap (hb.block b hlt)];exact hw b o v hv
 ·exact hnew b o v hge hv
theorem bN(hw:Wf S w)(hh:bS S β w h)(hb:Below w.heap.size w w')(hd:Dr.on->w.drawn<=w'.drawn){r:AV}{v:Value}(hv:VR S β r v):cF none S β h w (.ok r h) (.returned v) w':=
 ⟨S,β,v,rfl,hv,rV hw hh hb hd (fun _ _ _=>rfl) (fun b o v hge hv=>by have:=hw.lt hv;omega),fun sz hsz=>by cases hsz⟩
end
end Go.Av
namespace Go.Av
variable [Dr]
def fL:(FuncId->List AV->M AV)->List AV->M AV:=fun _ args=>match args with
 |[.str s,.str t]=>ah (bif decide (s.length<4294967281)then some (.bool (Lib.contains s t))else none)
 |_=>M.fail
def tY:List AV->Option Nat
 |[.hp l off]=>bif Nat.beq off 0 then some l else none
 |_=>none
omit [Dr]in
theorem qt{args:List AV}{l:Nat}(h:tY args=some l):args=[.hp l 0]:=by
 unfold tY at h;split at h
 ·rename_i l' off;cases ho:Nat.beq off 0 with
  |false=>rw[ho]at h;cases h
  |true=>
   rw[ho]at h;cases h;rw[DN ho]
 ·cases h
def AU(ok:List (Nat×Nat))(l:Nat):List AV->Option (List AV)
 |.nilb t:: x:: r=>bif ok.any (fun p=>Nat.beq p.1 t&&Nat.ble p.2 (r.length+2))then some (.hp l 0:: x:: r)else none
 |.hp l' k:: r=>bif Nat.beq l' l&&Nat.beq k 0 then some (.hp l' k:: r)else none
 |_=>none
omit [Dr]in
theorem w7{ok:List (Nat×Nat)}{l:Nat}{cs cs':List AV}(h:AU ok l cs=some cs'):(∃t x r,cs= .nilb t:: x:: r/\cs'= .hp l 0:: x:: r/\∃n,(t,n)∈ok/\n<=r.length+2)\/(∃r,cs= .hp l 0:: r/\cs'=cs):=by
 unfold AU at h;split at h
 ·rename_i t x r;cases ho:ok.any (fun p=>Nat.beq p.1 t&&Nat.ble p.2 (r.length+2))with
  |false=>rw[ho]at h;cases h
  |true=>
   rw[ho]at h;cases h;obtain⟨p,hp,hq⟩:=List.any_eq_true.1 ho;rw[DK]at hq;refine .inl ⟨t,x,r,rfl,rfl,p.2,?_,FL hq.2⟩;rw[<- DN hq.1];exact hp
 ·rename_i l' k r;cases ho:(Nat.beq l' l&&Nat.beq k 0)with
  |false=>rw[ho]at h;cases h
  |true=>
   rw[ho]at h;cases h;rw[DK]at ho;have h1:=DN ho.1;have h2:=DN ho.2;subst h1 h2;exact .inr ⟨r,rfl,rfl⟩
 ·cases h
def e9(ok:List (Nat×Nat)):(FuncId->List AV->M AV)->List AV->M AV:=fun _ args h=>match tY args with
 | some l=>(match h[l]? with
  |some cs=>(match AU ok l cs with
   |some cs'=>.ok (.tup []) (h.set l cs')
   |none=>.fail)
  |none=>.fail)
 |none=>.fail
def nI(e:Nat):AV->Option UInt8
 |.byt t n=>bif Nat.beq t e&&decide (0<=n)&&decide (n<256)then some (UInt8.ofNat n.toNat)else none
 |_=>none
def fD(e:Nat):List AV->Option (List UInt8)
 |[]=>some []
 |x:: r=>match nI e x,fD e r with
  |some b,some l=>some (b:: l)
  |_,_=>none
def stA:List AV->Option (Option (Nat×Nat))
 |.hp _ _:: .hs lb off len sz ag:: _=>bif Nat.beq off 0&&Nat.beq sz 1&&!ag&&Nat.blt 0 len&&Nat.ble len 140737488355328 then some (some (lb,len))else none
 |_:: .hn:: _=>some none
 |_=>none
omit [Dr]in
theorem wD{cs:List AV}{lb len:Nat}(h:stA cs=some (some (lb,len))):∃x r,cs=x:: .hs lb 0 len 1 false:: r/\0<len/\len<=140737488355328:=by
 unfold stA at h;split at h
 ·rename_i l k lb' off len' sz ag r;cases ho:(Nat.beq off 0&&Nat.beq sz 1&&!ag&&Nat.blt 0 len'&&Nat.ble len' 140737488355328)with
  |false=>rw[ho]at h;cases h
  |true=>
   rw[ho]at h;cases h;simp only[DK,EH]at ho;obtain⟨⟨⟨⟨h1,h2⟩,h3⟩,h4⟩,h5⟩:=ho;have h1:=DN h1;have h2:=DN h2;subst h1 h2 h3;exact⟨_,r,rfl,FL h4,FL h5⟩
 ·cases h
 ·cases h
omit [Dr]in
theorem wC{cs:List AV}(h:stA cs=some none):∃x r,cs=x:: .hn:: r:=by
 unfold stA at h;split at h
 ·rename_i l k lb' off len' sz ag r;cases ho:(Nat.beq off 0&&Nat.beq sz 1&&!ag&&Nat.blt 0 len'&&Nat.ble len' 140737488355328)with
  |false=>rw[ho]at h;cases h
  |true=>rw[ho]at h;cases h
 ·exact⟨_,_,rfl⟩
 ·cases h
def dc(e:Nat):(FuncId->List AV->M AV)->List AV->M AV:=fun _ args h=>match tY args with
 | some l=>(match h[l]? with
  | some cs=>(match stA cs with
   |some none=>.ok (.str []) h
   | some (some (lb,len))=>(match h[lb]? with
    |some bs=>(match (bif Nat.ble len bs.length then fD e (bs.take len)else none)with
     |some s=>.ok (.str s) (h.set lb [])
     |none=>.fail)
    |none=>.fail)
   |none=>.fail)
  |none=>.fail)
 |none=>.fail
def qf:AV->Option (List UInt8×Int×List AV)
 |.agg [.str n,.int .i64 k,.sl fs]=>some (n,k,fs)
 |_=>none
def dZ:List AV->Option (List (List UInt8×Int×List AV))
 |[]=>some []
 |x:: r=>match qf x,dZ r with
  |some z,some l=>some (z:: l)
  |_,_=>none
def cX{α:Type}(p:α->Bool):List α->Option α
 |[]=>none
 |z:: r=>match cX p r with
  |some y=>some y
  |none=>bif p z then some z else none
def r6(l:List (List UInt8×Int×List AV))(name:List UInt8):AV:=match cX (fun z=>z.1== name) l with
 |some z=>.tup [.agg [.int .i64 z.2.1,.sl z.2.2],.bool true]
 |none=>.tup [.agg [.int .i64 0,.sl []],.bool false]
def hM:(FuncId->List AV->M AV)->List AV->M AV:=fun _ args=>match args with
 |[.sl es,.str name]=>(match dZ es with
  |some l=>ah (bif decide (l.length<=1000000000)then some (r6 l name)else none)
  |none=>M.fail)
 |_=>M.fail
omit [Dr]in
theorem nf{α:Type}(p:α->Bool)(l:List α):cX p l=l.reverse.find? p:=by
 induction l with
 |nil=>rfl
 |cons z r ih=>
  simp only[cX,ih,List.reverse_cons,List.find?_append];cases r.reverse.find? p with
  |some y=>rfl
  |none=>cases h:p z<;>simp[h]
end Go.Av
namespace Go.Av
variable [Dr]
open Go.RowKit
def fM:Nat->Nat->List UInt8
 |0,_=>[]
 |f+1,u=>bif decide (u<10)then[UInt8.ofNat (48+u)]else fM f (u / 10)++[UInt8.ofNat (48+u % 10)]
omit [Dr]in
theorem oQ:∀(f u:Nat),u<10 ^ (f+1)->fM (f+1) u=Lib.decDigits u
 | f,u,h=>by
  rw[Lib.decDigits];rw[show fM (f+1) u=bif decide (u<10)then[UInt8.ofNat (48+u)]else fM f (u / 10)++[UInt8.ofNat (48+u % 10)]from rfl];by_cases h10:u<10
  ·rw[dif_pos h10,EV h10];rfl
  ·rw[dif_neg h10,Fo h10];cases f with
   |zero=>omega
   |succ f=>rw[oQ f (u / 10) (by rw[Nat.pow_succ]at h;omega)];rfl
def bA(n:Int):List UInt8:=bif decide (n<0)then 45:: fM 20 n.natAbs else fM 20 n.toNat
omit [Dr]in
theorem vP{n:Int}(h0:-9223372036854775808<=n)(h1:n<=9223372036854775807):bA n=Lib.itoa n:=by
 unfold bA Lib.itoa;by_cases h:n<0
 ·rw[EV h,DR h];simp only[DJ];rw[oQ 19 n.natAbs (by omega)]
 ·rw[Fo h,if_neg h];simp only[DO];rw[oQ 19 n.toNat (by omega)]
def og:(FuncId->List AV->M AV)->List AV->M AV:=fun _ args=>match args with
 |[.int .i64 n]=>ah (bif decide (-9223372036854775808<=n)&&decide (n<=9223372036854775807)then some (.str (bA n))else none)
 |_=>M.fail
def kw(t:TypeId)(s:List UInt8):AV:=match Lib.atoiAll s with
 |.ok v=>.tup [.int .i64 v,.nili]
 |.range=>.tup [.int .i64 (Lib.atoiSat s),.iface t .any]
 |_=>.tup [.int .i64 0,.iface t .any]
def nD(t:TypeId):(FuncId->List AV->M AV)->List AV->M AV:=fun _ args=>match args with
 |[.str s]=>ah (bif decide (s.length<=281474976710656)then some (kw t s)else none)
 |_=>M.fail
end Go.Av
namespace Go.Av
open Go.RowKit Go.Sort Go.Proofs
section
variable [Dr]
theorem Left.grew(hd:Dr.on){S S':ao}{β β':List a8}{w w':World}{h':Hp}(L:Left (bu [] []) S β w S' β' w' h'):∃q os,w'=grow (w.drewN q) os:=by
 have hg:=L.gro;have hd:=hg.cnt hd;have hk:∀b,b<w.heap.size->w'.heap[b]? = w.heap[b]?:=fun b hb=>(L.keep b hb (by rintro⟨l,_,_,h1,_⟩;simp at h1)).1;refine⟨w'.drawn-w.drawn,w'.heap.extract w.heap.size w'.heap.size,?_⟩;have e1:w.heap++w'.heap.extract w.heap.size w'.heap.size=w'.heap:=by
  apply Gi;intro i;by_cases hi:i<w.heap.size
  ·rw[E1 hi,hk i hi]
  ·rw[Array.getElem?_append_right (by omega),Array.getElem?_extract];split
   ·rw[show w.heap.size+(i-w.heap.size)=i by omega]
   ·rw[Ep (by omega)]
 have e2:w.drawn+(w'.drawn-w.drawn)=w'.drawn:=by omega
 obtain⟨h1,h2,h3,h4,h5⟩:=w';obtain⟨g1,g2,g3,g4,g5⟩:=w;have a1:=hg.os;have a2:=hg.out;have a3:=hg.tape;simp only at a1 a2 a3 e1 e2;unfold grow World.drewN;simp only[e1,e2,a1,a2,a3]
end
theorem kG{α β:Type}(f:α->List β)(k:Nat)(hk:∀x,(f x).length=k)(hp:0<k):∀(l:List α)(t:Nat),(l.map f).flatten[t]? = (l[t / k]?).bind fun x=>(f x)[t % k]?
 |[],t=>by simp
 | x:: l,t=>by
  simp only[Ev,FU];by_cases h:t<k
  ·rw[DZ (by rw[hk];exact h),Nat.div_eq_of_lt h,FX h];simp
  ·rw[D6 (by rw[hk];omega),hk,kG f k hk hp l (t-k)];rw[Nat.div_eq_sub_div hp (by omega:k<=t),Nat.mod_eq_sub_mod (by omega:k<=t)];simp
theorem kH{α β:Type}(f:α->List β)(k:Nat)(hk:∀x,(f x).length=k):∀(l:List α),(l.map f).flatten.length=l.length*k
 |[]=>by simp
 |x:: l=>by simp only[Ev,FU,DX,hk,kH f k hk l,Ec,Fj];omega
section
variable {α:Type} [Inhabited α]
theorem l8(enc:α->List Value)(k:Nat)(hk:∀x,(enc x).length=k)(hp:0<k)(d:Array α):(flatK enc k d).toList=(d.toList.map enc).flatten:=by
 apply Ft;intro t;rw[kG enc k hk hp];by_cases ht:t<d.size*k
 ·have hd:t / k<d.size:=by rw[Nat.div_lt_iff_lt_mul hp];exact ht
  have hm:t % k<k:=Nat.mod_lt _ hp;have h1:=get_flatK enc k d t ht;rw[EB (flatK enc k d) t (by rw[size_flatK];exact ht),EB d _ hd,EB (enc _) _ (by rw[hk];exact hm)]at h1;rw[D5 (by simpa using ht),Array.getElem_toList,h1,D7,D9 hd];simp only[Fx];rw[D5 (by rw[hk];exact hm)]
 ·rw[DV (by simp only[EC,size_flatK];omega),DV (by simp only[EC];rw[Nat.le_div_iff_mul_le hp];omega)];rfl
theorem nk(F x:Array Value)(off:Nat)(hf:off+F.size<=x.size):putCells id off F x=(x.toList.take off++F.toList++x.toList.drop (off+F.size)).toArray:=by
 apply Gi;intro t;unfold putCells;simp only[Array.getElem?_mapIdx,EF];by_cases h1:t<off
 ·rw[DZ (by simp;omega),DZ (by simp;omega),DY,DR h1,D7,D9 (by omega)];simp only[EI];rw[if_neg (by omega)]
 ·by_cases h2:t<off+F.size
  ·rw[DZ (by simp;omega),D6 (by simp;omega)];have e:(x.toList.take off).length=off:=by simp;omega
   rw[e,D9 (by omega:t<x.size),D7,D9 (by omega:t-off<F.size)];simp only[EI,id];rw[DR ⟨by omega,h2⟩,EB F _ (by omega)]
  ·have e:(x.toList.take off++F.toList).length=off+F.size:=by simp;omega
   rw[D6 (by rw[e];omega),e,Ez,D7,show off+F.size+(t-(off+F.size))=t by omega];cases x[t]? with
   |none=>rfl
   |some y=>simp only[EI];rw[if_neg (by omega)]
theorem wA{w:World}{b:Nat}{x:Array Value}(hr:Row w b x)(enc:α->List Value)(k off n:Nat)(d:Array α)(os:Array Obj)(hf:off+d.size*k<=x.size):
  Row (sortWorldK enc k w b off n d os) b (x.toList.take off++(flatK enc k d).toList++x.toList.drop (off+(flatK enc k d).size)).toArray:=by
 have hlt:=hr.lt;obtain⟨e,he⟩:=hr;refine⟨e,?_⟩;rw[<- nk (flatK enc k d) x off (by rw[size_flatK];exact hf)];show ((w.heap.modify b (onCells (putCells id off (flatK enc k d))))++os)[b]? = _;rw[E1 (by simpa using hlt),FK,DR rfl,he];rfl
theorem mQ{w:World}{b b':Nat}(enc:α->List Value)(k off n:Nat)(d:Array α)(os:Array Obj)(hlt:b'<w.heap.size)(hb:b'≠b):(sortWorldK enc k w b off n d os).heap[b']? = w.heap[b']?:=by
 show ((w.heap.modify b (onCells (putCells id off (flatK enc k d))))++os)[b']? = _;rw[E1 (by simpa using hlt),FK,if_neg (fun h=>hb h.symm)]
theorem wz[Dr]{w:World}{b:Nat}(enc:α->List Value)(k off n:Nat)(d:Array α)(os:Array Obj):Gro w (sortWorldK enc k w b off n d os):=by
 refine⟨?_,rfl,rfl,rfl,fun _=>?_⟩
 ·show _<=((w.heap.modify b (onCells (putCells id off (flatK enc k d))))++os).size;simp
 ·show w.drawn<=w.drawn+n;omega
end
section
variable [Dr] {S:ao} {β:List a8} {h:Hp} {w w':World}
theorem vR(hw:Wf S w)(hh:bS S β w h){l b nb off:Nat}{cs acs:List AV}{vs:List Value}(hcs:h[l]? = some cs)(hne:cs≠[])(hb:β[l]? = some (b,nb))(hb0:nb≠0)(hvs:aE S β acs vs)(hle:off+acs.length<=cs.length)(hoc:cs.all aV=true)(hoa:acs.all aV=true)(hg:Gro w w')(hr:∀x,Row w b x->cs.length<=x.size->Row w' b (x.toList.take off++vs++x.toList.drop (off+vs.length)).toArray)(ho:∀b',b'<w.heap.size->b'≠b->w'.heap[b']? = w.heap[b']?):
  Left (bu β h) S β w S β w' (h.set l (setCells cs off acs)):=by
 obtain⟨hlen,ω,hH⟩:=hh;obtain⟨z,j1,j2,j3,j4,j5⟩:=dw.cells hH hcs hne hb hb0;rw[hb]at j1;cases j1;have hvl:=hvs.length;have hzs:cs.length<=z.size:=by
  have:=j4.length
  simp at this;omega
 have hrow:=hr z j2 hzs;have hll:l<h.length:=by
  rcases D4 l h.length with k|k
  ·exact k
  ·rw[DV k]at hcs;cases hcs
 have hown:∀b',bu β (h.set l (setCells cs off acs)) b'->bu β h b':=by
  rintro b' ⟨l',cs',n,k1,k2,k3⟩;by_cases hl:l'=l
  ·subst hl;exact⟨l',cs,n,hcs,hne,k3⟩
  ·rw[List.getElem?_set_ne (fun e=>hl e.symm)]at k1;exact⟨l',cs',n,k1,k2,k3⟩
 refine⟨ao.le_refl S,dU.refl β,fun b' o v hv=>?_,hg,fun b' hb' hE=>?_,⟨by simpa using hlen,ω,dw.rows hH (ao.le_refl S) (dU.refl β) hlen fun l' cs' hl' hne'=>?_⟩,fun b' hb'=>.inl (hown b' hb')⟩
 ·have hne2:b'≠b:=by rintro rfl;rw[j5]at hv;cases hv
  rw[cell_of_heap (ho b' (hw.lt hv) hne2)];exact hw b' o v hv
 ·have hne2:b'≠b:=by rintro rfl;exact hE ⟨l,cs,_,hcs,hne,hb⟩
  exact⟨ho b' hb' hne2,fun _=>rfl⟩
 ·by_cases hl:l'=l
  ·subst hl;rw[List.getElem?_set_self hll]at hl';cases hl';refine .inr ⟨b,_,?_,hrow,j3,?_,j5,fun t ht=>?_⟩
   ·rw[hb];simp;omega
   ·rw[dB _ _ _ (by omega)];have hsp:aE S β (setCells cs off acs) (((z.toList.take cs.length).take off++vs++(z.toList.take cs.length).drop (off+vs.length))):=by
     unfold setCells;rw[hvl];exact ((j4.take off).append hvs).append (j4.drop _)
    have heq:(z.toList.take off++vs++z.toList.drop (off+vs.length)).take cs.length=
      (z.toList.take cs.length).take off++vs++(z.toList.take cs.length).drop (off+vs.length):=by
     rw[E2,E2];have e1:(z.toList.take off).length=off:=by simp;omega
     rw[E5,E5];have e2:min cs.length off=off:=by omega
     have e3:min off cs.length=off:=by omega
     rw[e2,e3,e1];have e4:vs.take (cs.length-off)=vs:=ES (by omega);rw[e4];congr 1;rw[GD,DX,e1];congr 2;omega
    show aE S β _ (List.take _ _);rw[show (z.toList.take off++vs++z.toList.drop (off+vs.length)).toArray.toList=(z.toList.take off++vs++z.toList.drop (off+vs.length))from rfl,heq];exact hsp
   ·rcases ht.setCells with g|g
    ·exact absurd g (fS hoc t)
    ·exact absurd g (fS hoa t)
  ·rw[List.getElem?_set_ne (fun e=>hl e.symm)]at hl';refine .inl ⟨hl',fun b2 hlt hω=>⟨hω,ho b2 hlt ?_,fun o=>id⟩⟩;rintro rfl;rw[j3]at hω;cases hω;exact hl rfl
end
theorem DC{S:ao}{β:List a8}:{ps qs:List AV} ->{vs:List Value} ->aE S β (ps++qs) vs->∃u v,vs=u++v/\aE S β ps u/\aE S β qs v
 |[],_,vs,h=>⟨[],vs,rfl,by simp[aE],h⟩
 |_:: ps,qs,vs,h=>by
  simp only[Ej,aE]at h;obtain⟨x,xs,rfl,h1,h2⟩:=h;obtain⟨u,v,rfl,h3,h4⟩:=DC h2;exact⟨x:: u,v,rfl,by simp only[aE];exact⟨x,u,rfl,h1,h3⟩,h4⟩
section
variable [Dr] {α:Type} [Inhabited α] {P:Program}
end
end Go.Av
namespace Go.Av
open Go.RowKit Go.Sort Go.Proofs
def de{α:Type}(k:Nat)(l:List α)(i:Nat):List α:=(l.drop (i*k)).take k
def nL{α:Type}{k n:Nat}{l:List α}(h:l.length=n*k){i:Nat}(hi:i<n):(de k l i).length=k:=by
 have:i*k+k<=n*k:=by rw[<- Fj];exact D1 _ hi
 simp only[de,ED,F0,h];omega
theorem lR{α:Type}{k:Nat}:(n:Nat)->{l:List α} ->l.length=n*k->((List.range n).map fun i=>de k l i).flatten=l
 |0,l,h=>by simp at h;simp[h]
 | n+1,l,h=>by
  rw[List.range_succ_eq_map,Ev,List.map_map,FU];have e:((fun i=>de k l i) ∘ Nat.succ)=fun i=>de k (l.drop k) i:=by
   funext i;simp only[Function.comp,de,FJ,Fj];congr 2;omega
  rw[e,lR n (l:=l.drop k) (by rw[F0,h,Fj];omega)];simp[de,Fp]
def aE.chunk{S:ao}{β:List a8}{cs:List AV}{vs:List Value}(h:aE S β cs vs)(k i:Nat):aE S β (de k cs i) (de k vs i):=(h.drop (i*k)).take k
def mj:List AV->Option (List UInt8)
 |.str s:: _=>some s
 |_=>none
def tK(x y:List UInt8):Int:=if aN x y=true then -1 else if aN y x=true then 1 else 0
def AW(keys:List (List UInt8))(n:Nat)(i j:Nat):Int:=tK keys[i % n]! keys[j % n]!
def gz(keys:List (List UInt8)):List Nat:=(pdq (ltOf (AW keys keys.length)) (Array.range keys.length) 0 (Array.range keys.length).size (Lib.bitLen (Array.range keys.length).size) true true).toList
def qA:List (List AV)->Option (List (List UInt8))
 |[]=>some []
 | c:: r=>match mj c with
  |none=>none
  |some s=>match qA r with
   |none=>none
   |some l=>some (s:: l)
theorem oh:{cs:List (List AV)} ->{ks:List (List UInt8)} ->qA cs=some ks->ks.length=cs.length/\∀(i:Nat)(c:List AV),cs[i]? = some c->mj c=some ks[i]!
 |[],ks,h=>by
  cases h;exact⟨rfl,fun i c hc=>by simp at hc⟩
 | c:: r,ks,h=>by
  unfold qA at h;cases hc:mj c with
  |none=>rw[hc]at h;cases h
  | some s=>
   rw[hc]at h;simp only at h;cases hr:qA r with
   |none=>rw[hr]at h;cases h
   |some l=>
    rw[hr]at h;cases h;obtain⟨h1,h2⟩:=oh hr;refine⟨by simp[h1],fun i d hd=>?_⟩;cases i with
    |zero=>simp at hd;subst hd;simpa using hc
    |succ i=>simpa using h2 i d (by simpa using hd)
def keysOf(k n:Nat)(row:List AV):Option (List (List UInt8)):=qA ((List.range n).map fun i=>de k row i)
def fc(k g:Nat):(FuncId->List AV->M AV)->List AV->M AV:=fun _ args h=>match args with
 |[.sl [],.fn (.func g') [] []]=>bif Nat.beq g' g then .ok (.tup []) h else .fail
 |[.hn,.fn (.func g') [] []]=>bif Nat.beq g' g then .ok (.tup []) h else .fail
 | [.hs l off len sz _,.fn (.func g') [] []]=>match h[l]? with
  |none=>.fail
  |some cs=>match keysOf k len ((cs.drop off).take (len*k))with
   |none=>.fail
   | some keys=>bif Nat.beq g' g&&Nat.beq sz k&&decide (0<len)&&decide (0<k)&&decide (off+len*k<=cs.length)&&decide (keys.length=len)&&decide (len<4611686018427387904)&&decide ((gz keys).length=len)&&cs.all aV
     then .ok (.tup []) (h.set l (setCells cs off ((gz keys).map fun i=>de k ((cs.drop off).take (len*k)) (i % len)).flatten))else .fail
 |_=>.fail
def d7:(FuncId->List AV->M AV)->List AV->M AV:=fun _ args=>match args with
 |[.str s,.int .u8 n]=>M.pure (.int .i64 (Lib.indexByte s n.toNat.toUInt8))
 |_=>M.fail
section
variable [Dr] {P:Program}
omit [Dr]in
theorem ua{S:ao}{β:List a8}{c:List AV}{s:List UInt8}{vs:List Value}(h:mj c=some s)(hv:aE S β c vs):∃(x:ByteArray)(r:List Value),vs= .string x:: r/\x.data.toList=s:=by
 unfold mj at h;split at h
 ·cases h;simp only[aE,VR]at hv;obtain⟨v,r,rfl,⟨x,rfl,hx⟩,_⟩:=hv;exact⟨x,r,rfl,hx⟩
 ·cases h
omit [Dr]in
theorem nA{k i:Nat}{l:List AV}{p:AV->Bool}(h:l.all p=true):(de k l i).all p=true:=by
 rw[DW]at h|-;exact fun x hx=>h x (Gc (Fb hx))
theorem vI{f k g:Nat}(call:FuncId->List AV->M AV)
  (hcal:∀(w:World)(blk off cap:Nat)(keys:List (List UInt8))(ev:Nat->List Value),0<keys.length->(∀i,(ev i).length=k)->(∀i,∀v∈ev i,v.oneCell'=true)->(∀i,∃(x:ByteArray)(r:List Value),ev i= .string x:: r/\x.data.toList=keys[i % keys.length]!)->
   GOKw w->gN<=blk->HoldsK ev k w blk off (Array.range keys.length)->blk<w.heap.size->keys.length<4611686018427387904->
   Calls P f #[.slice (some ⟨blk,off,none⟩) keys.length cap,.func (.func g) #[] #[]] w fun e w'=>e= .returned (.tuple #[])/\∃n os,w'=sortWorldK ev k w blk off n (gz keys).toArray os)
  {l off len sz g':Nat} {ag:Bool} {h:Hp} {S:ao} {β:List a8} {w:World} {vs:List Value} (hr:fc k g call [.hs l off len sz ag,.fn (.func g') [] []] h≠.fail) (hg:lq β h w) (hw:Wf S w) (hh:bS S β w h)
  (hv:aE S β [.hs l off len sz ag,.fn (.func g') [] []] vs):Calls P f vs.toArray w (cF none S β h w (fc k g call [.hs l off len sz ag,.fn (.func g') [] []] h)):=by
 unfold fc at hr |-;simp only at hr |-;cases hl:h[l]? with
 |none=>rw[hl]at hr;exact absurd rfl hr
 | some cs=>
  rw[hl]at hr;simp only at hr |-;generalize hrow:(cs.drop off).take (len*k)=row at hr |-;cases hd:keysOf k len row with
  |none=>rw[hd]at hr;exact absurd rfl hr
  | some keys=>
   rw[hd]at hr;simp only at hr |-;cases hc:(Nat.beq g' g&&Nat.beq sz k&&decide (0<len)&&decide (0<k)&&decide (off+len*k<=cs.length)&&decide (keys.length=len)&&decide (len<4611686018427387904)&&decide ((gz keys).length=len)&&cs.all aV)with
   |false=>rw[hc]at hr;exact absurd rfl hr
   | true=>
    simp only[DK,DU]at hc;obtain⟨⟨⟨⟨⟨⟨⟨⟨c1,c2⟩,c3⟩,hpos⟩,c4⟩,c5⟩,c6⟩,c7⟩,c8⟩:=hc;obtain rfl:=DN c1;obtain rfl:=DN c2;simp only[DJ];have hlk:0<len*sz:=FO c3 hpos;have hne:cs≠[]:=by rintro rfl;simp at c4;omega
    simp only[aE]at hv;obtain⟨v1,r1,rfl,hv1,v2,r2,rfl,hv2,rfl⟩:=hv;obtain⟨⟨b,nb⟩,cap,hb,hb0,rfl,k1,k2⟩:=hv1.hs_pos c3;simp only[VR,aE]at hv2;obtain⟨y1,y2,rfl,rfl,rfl⟩:=hv2;have hh':=hh;obtain⟨hlen,ω,hH⟩:=hh;obtain⟨z,j1,j2,j3,j4,j5⟩:=dw.cells hH hl hne hb hb0;rw[hb]at j1;cases j1;have hzs:cs.length<=z.size:=by
     have:=j4.length
     simp at this;omega
    have hown:bu β h b:=⟨l,cs,_,hl,hne,hb⟩;have hgb:gN<=b:=by
     rcases D4 b gN with k|k
     ·exact absurd hown (hg.2 b k)
     ·exact k
    have hrl:row.length=len*sz:=by rw[<- hrow,ED,F0];omega
    have hvx:=(j4.drop off).take (len*sz);rw[hrow]at hvx;generalize hvr:(((z.toList.take cs.length).drop off).take (len*sz))=vr at hvx;have hvl:vr.length=len*sz:=by rw[hvx.length,hrl]
    have hro:row.all aV=true:=by
     rw[DW]at c8 |-;rw[<- hrow];exact fun x hx=>c8 x (Gc (Fb hx))
    have hmod:∀i,i % len<len:=fun i=>Nat.mod_lt _ c3;obtain⟨hk1,hk2⟩:=oh hd;let ev:Nat->List Value:=fun i=>de sz vr (i % len);have hev:∀i,(ev i).length=sz:=fun i=>nL hvl (hmod i);have hea:∀i,(de sz row (i % len)).length=sz:=fun i=>nL hrl (hmod i);have hre:∀i,aE S β (de sz row (i % len)) (ev i):=fun i=>hvx.chunk sz (i % len);have hrange:(List.range len).map ev=(List.range len).map fun i=>de sz vr i:=FP fun i hi=>by
     show de sz vr (i % len)=_;rw[FX (List.mem_range.1 hi)]
    have hflat:(flatK ev sz (Array.range keys.length)).toList=vr:=by
     rw[l8 ev sz hev hpos,Array.toList_range,c5,hrange,lR len hvl]
    have hsz:(flatK ev sz (Array.range keys.length)).size=len*sz:=by rw[size_flatK];simp[c5]
    have hholds:HoldsK ev sz w b off (Array.range keys.length):=by
     intro j hj;rw[hsz]at hj;have e1:(flatK ev sz (Array.range keys.length))[j]! = z[off+j]'(by omega):=by
      have h1:(flatK ev sz (Array.range keys.length)).toList[j]? = z.toList[off+j]?:=by
       rw[hflat,<- hvr,DY,DR hj,Ez,DY,DR (by omega)]
      rw[D7,D7,D9 (by omega),D9 (by omega)]at h1;rw[EB _ j (by omega)];exact Option.some.inj h1
     rw[e1];refine⟨by rw[j2.cell,D9 (by omega)];rfl,?_⟩;obtain⟨e,he⟩:=j2;simp[World.frozen?,he]
    have hkey:∀i,∃(x:ByteArray)(r:List Value),ev i= .string x:: r/\x.data.toList=keys[i % keys.length]!:=fun i=>by
     refine ua ?_ (hre i);rw[c5];exact hk2 (i % len) _ (by rw[EJ,List.getElem?_range (hmod i)];rfl)
    have hone:∀i,∀v∈ev i,v.oneCell'=true:=fun i=>vZ (hre i) (nA hro);have hcall:=hcal w b off cap keys ev (by omega) hev hone hkey hg.1 hgb hholds j2.lt (by omega);rw[c5]at hcall;refine hcall.mono ?_;rintro e w' ⟨rfl,n,os,rfl⟩;have hfl2:=l8 ev sz hev hpos (gz keys).toArray;have hs2:(flatK ev sz (gz keys).toArray).size=len*sz:=by rw[size_flatK];simp[c7]
    have hal:((gz keys).map fun i=>de sz row (i % len)).flatten.length=len*sz:=by rw[kH (fun i=>de sz row (i % len)) sz hea,c7]
    have hvv:∀p:List Nat,aE S β (p.map fun i=>de sz row (i % len)).flatten (p.map ev).flatten:=by
     intro p
     induction p with
     |nil=>simp[aE]
     |cons i p ih=>simp only[Ev,FU];exact (hre i).append ih
    have hok:((gz keys).map fun i=>de sz row (i % len)).flatten.all aV=true:=by
     rw[List.all_flatten,List.all_map];exact DW.2 fun i _=>nA hro
    refine⟨S,β,_,rfl,by simp only[VR,aE];exact⟨[],rfl,rfl⟩,vR (vs:=(flatK ev sz (gz keys).toArray).toList) hw hh' hl hne hb hb0 (by rw[hfl2];exact hvv _) (by rw[hal];exact c4) c8 hok (wz ev sz off n _ os) (fun x hx hle=>?_) (fun b' hlt hne2=>mQ ev sz off n _ os hlt hne2),fun _ hsz=>by cases hsz⟩
    have:=wA hx ev sz off n (gz keys).toArray os (by simp only[Ff,c7];omega)
    exact this
end
end Go.Av
namespace Go.Av.Ap
abbrev bj:=List UInt8
inductive Val where
 |mk (kind n:Int) (names:List bj) (values:List Val)
instance:Inhabited Val:=⟨.mk 0 0 [] []⟩
inductive Exp where
 |mk (op n:Int) (s m:bj) (names:List bj) (args:List Exp)
instance:Inhabited Exp:=⟨.mk 0 0 [] [] [] []⟩
inductive Ty where
 |mk (kind:Int) (fields:List (bj×Ty))
instance:Inhabited Ty:=⟨.mk 0 []⟩
abbrev dV:=bj×Ty
structure Fun where
 name:bj
 pub:Bool
 params:List dV
 result:Ty
 effects:Int
 body:Exp
 deriving Inhabited
structure Mod where
 name:bj
 uses:List bj
 vars:List dV
 init:List Exp
 funcs:List Fun
 moves:Bool
 old:List dV
 forward:List Exp
 back:List Exp
 deriving Inhabited
def Val.kind:Val->Int|.mk k _ _ _=>k
def Val.n:Val->Int|.mk _ n _ _=>n
def Val.names:Val->List bj|.mk _ _ ns _=>ns
def Val.values:Val->List Val|.mk _ _ _ vs=>vs
def Exp.op:Exp->Int|.mk o _ _ _ _ _=>o
def Exp.n:Exp->Int|.mk _ n _ _ _ _=>n
def Exp.s:Exp->bj|.mk _ _ s _ _ _=>s
def Exp.m:Exp->bj|.mk _ _ _ m _ _=>m
def Exp.names:Exp->List bj|.mk _ _ _ _ ns _=>ns
def Exp.args:Exp->List Exp|.mk _ _ _ _ _ es=>es
def Ty.kind:Ty->Int|.mk k _=>k
def Ty.fields:Ty->List dV|.mk _ fs=>fs
@[simp] theorem DG(a b c d):(Val.mk a b c d).kind=a:=rfl
@[simp] theorem Val.n_mk(a b c d):(Val.mk a b c d).n=b:=rfl
@[simp] theorem DF(a b c d):(Val.mk a b c d).names=c:=rfl
@[simp] theorem DD(a b c d):(Val.mk a b c d).values=d:=rfl
def strs(l:List bj):AV:=.sl (l.map .str)
mutual
def Val.av:Val->AV
 |.mk k n ns vs=>.agg [.int .i64 k,.int .i64 n,strs ns,.sl (gu vs)]
def gu:List Val->List AV
 |[]=>[]
 |v:: vs=>v.av:: gu vs
end
mutual
def Exp.cells:Exp->List AV
 |.mk o n s m ns es=>[.int .i64 o,.int .i64 n,.str s,.str m,strs ns,.sl (eI es)]
def eI:List Exp->List AV
 |[]=>[]
 |e:: es=>.agg e.cells:: eI es
end
def Exp.av(e:Exp):AV:=.agg e.cells
mutual
def Ty.cells:Ty->List AV
 |.mk k fs=>[.int .i64 k,.sl (dy fs)]
def dy:List (bj×Ty)->List AV
 |[]=>[]
 |f:: fs=>a6 f:: dy fs
def a6:bj×Ty->AV
 |(n,t)=>.agg (.str n:: t.cells)
end
def Ty.av(t:Ty):AV:=.agg t.cells
def Fun.av(f:Fun):AV:=.agg ([.str f.name,.bool f.pub,.sl (dy f.params)]++f.result.cells++[.int .i64 f.effects]++f.body.cells)
def qp(l:List Fun):AV:=.sl (l.map Fun.av)
def Mod.av(m:Mod):AV:=.agg [.str m.name,strs m.uses,.sl (dy m.vars),.sl (eI m.init),qp m.funcs,.bool m.moves,.sl (dy m.old),.sl (eI m.forward),.sl (eI m.back)]
def vals(l:List Val):AV:=.sl (gu l)
def gD(l:List Exp):AV:=.sl (eI l)
def bm(l:List dV):AV:=.sl (dy l)
def zA(l:List Mod):AV:=.sl (l.map Mod.av)
def ints(l:List Int):AV:=.sl (l.map (.int .i64))
structure Vars where
 module:bj
 values:List Val
 deriving Inhabited
structure Deed where
 effect:Int
 arg:Int
 answer:Int
 deriving DecidableEq,Inhabited
structure Call where
 module:bj
 func:bj
 args:List Val
 deriving Inhabited
def Vars.av(v:Vars):AV:=.agg [.str v.module,vals v.values]
def Deed.av(d:Deed):AV:=.agg [.int .i64 d.effect,.int .i64 d.arg,.int .i64 d.answer]
def Call.av(c:Call):AV:=.agg [.str c.module,.str c.func,vals c.args]
def mX(l:List Vars):AV:=.sl (l.map Vars.av)
def deeds(l:List Deed):AV:=.sl (l.map Deed.av)
def calls(l:List Call):AV:=.sl (l.map Call.av)
structure Out where
 err:Int
 value:Val
 deeds:List Deed
 calls:List Call
 state:List Vars
def Out.av(o:Out):AV:=.agg [.int .i64 o.err,.int .i64 o.value.kind,.int .i64 o.value.n,strs o.value.names,vals o.value.values,Ap.deeds o.deeds,Ap.calls o.calls,mX o.state]
theorem mW:(l:List Val)->gu l=l.map Val.av
 |[]=>rfl
 |v:: l=>by simp[gu,mW l]
theorem iE:(l:List Exp)->eI l=l.map Exp.av
 |[]=>rfl
 |v:: l=>by simp[eI,iE l,Exp.av]
theorem cN:(l:List dV)->dy l=l.map a6
 |[]=>rfl
 |v:: l=>by simp[dy,cN l]
def Val.av_eq(v:Val):v.av= .agg [.int .i64 v.kind,.int .i64 v.n,strs v.names,vals v.values]:=by cases v;rfl
def Exp.cells_eq(e:Exp):e.cells=[.int .i64 e.op,.int .i64 e.n,.str e.s,.str e.m,strs e.names,gD e.args]:=by cases e;rfl
def Ty.cells_eq(t:Ty):t.cells=[.int .i64 t.kind,bm t.fields]:=by cases t;simp[Ty.cells,bm,Ty.kind,Ty.fields]
def dL(f:dV):a6 f= .agg [.str f.1,.int .i64 f.2.kind,bm f.2.fields]:=by obtain⟨n,t⟩:=f;simp[a6,Ty.cells_eq]
@[simp] theorem lG(v:Val):ab v.av=[.int .i64 v.kind,.int .i64 v.n,strs v.names,vals v.values]:=by rw[v.av_eq];rfl
@[simp] theorem lC(e:Exp):ab e.av=[.int .i64 e.op,.int .i64 e.n,.str e.s,.str e.m,strs e.names,gD e.args]:=by rw[Exp.av,e.cells_eq];rfl
@[simp] theorem dC(f:dV):ab (a6 f)=[.str f.1,.int .i64 f.2.kind,bm f.2.fields]:=by rw[dL];rfl
@[simp] theorem cb(t:Ty):ab t.av=[.int .i64 t.kind,bm t.fields]:=by rw[Ty.av,t.cells_eq];rfl
@[simp] theorem lD(f:Fun):ab f.av=[.str f.name,.bool f.pub,bm f.params,.int .i64 f.result.kind,bm f.result.fields,.int .i64 f.effects,.int .i64 f.body.op,.int .i64 f.body.n,.str f.body.s,.str f.body.m,strs f.body.names,gD f.body.args]:=by
 simp[Fun.av,ab,Ty.cells_eq,Exp.cells_eq,bm]
@[simp] theorem lE(m:Mod):ab m.av=[.str m.name,strs m.uses,bm m.vars,gD m.init,qp m.funcs,.bool m.moves,bm m.old,gD m.forward,gD m.back]:=rfl
@[simp] theorem ql(v:Val):AV.agg [.int .i64 v.kind,.int .i64 v.n,strs v.names,vals v.values]=v.av:=(v.av_eq).symm
@[simp] theorem qh(e:Exp):AV.agg [.int .i64 e.op,.int .i64 e.n,.str e.s,.str e.m,strs e.names,gD e.args]=e.av:=by rw[Exp.av,e.cells_eq]
@[simp] theorem er(t:Ty):AV.agg [.int .i64 t.kind,bm t.fields]=t.av:=by rw[Ty.av,t.cells_eq]
@[simp] theorem je(f:dV):AV.agg [.str f.1,.int .i64 f.2.kind,bm f.2.fields]=a6 f:=(dL f).symm
@[simp] theorem qi(f:Fun):AV.agg [.str f.name,.bool f.pub,bm f.params,.int .i64 f.result.kind,bm f.result.fields,.int .i64 f.effects,.int .i64 f.body.op,.int .i64 f.body.n,.str f.body.s,.str f.body.m,strs f.body.names,gD f.body.args]=f.av:=by
 simp[Fun.av,Ty.cells_eq,Exp.cells_eq,bm]
@[simp] theorem qj(m:Mod):AV.agg [.str m.name,strs m.uses,bm m.vars,gD m.init,qp m.funcs,.bool m.moves,bm m.old,gD m.forward,gD m.back]=m.av:=rfl
theorem dm{α:Type}(g:Nat->Nat->Nat->Nat->Bool->AV)(f:α->AV)(h:∀x,cl g (f x)=f x):(l:List α)->dJ g (l.map f)=l.map f
 |[]=>rfl
 |x:: l=>by simp[dJ,h x,dm g f h l]
@[simp] theorem BU(g:Nat->Nat->Nat->Nat->Bool->AV)(l:List bj):cl g (strs l)=strs l:=by
 simp[strs,cl,dm g AV.str (fun _=>rfl) l]
@[simp] theorem BR(g:Nat->Nat->Nat->Nat->Bool->AV)(l:List Int):cl g (ints l)=ints l:=by
 simp[ints,cl,dm g (AV.int .i64) (fun _=>rfl) l]
mutual
theorem Val.cl_av(g:Nat->Nat->Nat->Nat->Bool->AV):(v:Val)->cl g v.av=v.av
 |.mk k n ns vs=>by simp[Val.av,cl,dJ,py g vs]
theorem py(g:Nat->Nat->Nat->Nat->Bool->AV):(l:List Val)->dJ g (gu l)=gu l
 |[]=>rfl
 |v:: l=>by simp[gu,dJ,Val.cl_av g v,py g l]
end
mutual
theorem Exp.cl_cells(g:Nat->Nat->Nat->Nat->Bool->AV):(e:Exp)->dJ g e.cells=e.cells
 |.mk o n s m ns es=>by simp[Exp.cells,cl,dJ,lh g es]
theorem lh(g:Nat->Nat->Nat->Nat->Bool->AV):(l:List Exp)->dJ g (eI l)=eI l
 |[]=>rfl
 |e:: l=>by simp[eI,dJ,cl,Exp.cl_cells g e,lh g l]
end
mutual
theorem Ty.cl_cells(g:Nat->Nat->Nat->Nat->Bool->AV):(t:Ty)->dJ g t.cells=t.cells
 |.mk k fs=>by simp[Ty.cells,cl,dJ,jd g fs]
theorem jd(g:Nat->Nat->Nat->Nat->Bool->AV):(l:List (bj×Ty))->dJ g (dy l)=dy l
 |[]=>rfl
 |f:: l=>by simp[dy,dJ,vD g f,jd g l]
theorem vD(g:Nat->Nat->Nat->Nat->Bool->AV):(f:bj×Ty)->cl g (a6 f)=a6 f
 |(n,t)=>by simp[a6,cl,dJ,Ty.cl_cells g t]
end
@[simp] theorem zi(g:Nat->Nat->Nat->Nat->Bool->AV)(v:Val):cl g v.av=v.av:=v.cl_av g
@[simp] theorem xo(g:Nat->Nat->Nat->Nat->Bool->AV)(l:List Val):cl g (vals l)=vals l:=by simp[vals,cl,py]
@[simp] theorem zb(g:Nat->Nat->Nat->Nat->Bool->AV)(e:Exp):cl g e.av=e.av:=by simp[Exp.av,cl,Exp.cl_cells]
@[simp] theorem BQ(g:Nat->Nat->Nat->Nat->Bool->AV)(l:List Exp):cl g (gD l)=gD l:=by simp[gD,cl,lh]
@[simp] theorem nN(g:Nat->Nat->Nat->Nat->Bool->AV)(t:Ty):cl g t.av=t.av:=by simp[Ty.av,cl,Ty.cl_cells]
@[simp] theorem zc(g:Nat->Nat->Nat->Nat->Bool->AV)(f:dV):cl g (a6 f)=a6 f:=vD g f
@[simp] theorem xj(g:Nat->Nat->Nat->Nat->Bool->AV)(l:List dV):cl g (bm l)=bm l:=by simp[bm,cl,jd]
theorem lU(g:Nat->Nat->Nat->Nat->Bool->AV):(a b:List AV)->dJ g (a++b)=dJ g a++dJ g b
 |[],b=>rfl
 |x:: a,b=>by simp[dJ,lU g a b]
@[simp] theorem u7(g:Nat->Nat->Nat->Nat->Bool->AV)(f:Fun):cl g f.av=f.av:=by
 simp[Fun.av,cl,dJ,lU,jd,Ty.cl_cells,Exp.cl_cells]
@[simp] theorem xk(g:Nat->Nat->Nat->Nat->Bool->AV)(l:List Fun):cl g (qp l)=qp l:=by simp[qp,cl,dm g Fun.av (u7 g)]
@[simp] theorem ze(g:Nat->Nat->Nat->Nat->Bool->AV)(m:Mod):cl g m.av=m.av:=by
 simp[Mod.av,cl,dJ,jd,lh,xk]
@[simp] theorem BS(g:Nat->Nat->Nat->Nat->Bool->AV)(l:List Mod):cl g (zA l)=zA l:=by simp[zA,cl,dm g Mod.av (ze g)]
@[simp] theorem zd(g:Nat->Nat->Nat->Nat->Bool->AV)(k:IntKind)(n:Int):cl g (.int k n)= .int k n:=rfl
@[simp] theorem BP(g:Nat->Nat->Nat->Nat->Bool->AV)(b:Bool):cl g (.bool b)= .bool b:=rfl
@[simp] theorem zg(g:Nat->Nat->Nat->Nat->Bool->AV)(s:bj):cl g (.str s)= .str s:=rfl
@[simp] theorem xp(g:Nat->Nat->Nat->Nat->Bool->AV)(v:Vars):cl g v.av=v.av:=by simp[Vars.av,cl,dJ]
@[simp] theorem xi(g:Nat->Nat->Nat->Nat->Bool->AV)(v:Deed):cl g v.av=v.av:=by simp[Deed.av,cl,dJ]
@[simp] theorem xg(g:Nat->Nat->Nat->Nat->Bool->AV)(v:Call):cl g v.av=v.av:=by simp[Call.av,cl,dJ]
@[simp] theorem A2(g:Nat->Nat->Nat->Nat->Bool->AV)(l:List Vars):cl g (mX l)=mX l:=by simp[mX,cl,dm g Vars.av (xp g)]
@[simp] theorem AZ(g:Nat->Nat->Nat->Nat->Bool->AV)(l:List Deed):cl g (deeds l)=deeds l:=by simp[deeds,cl,dm g Deed.av (xi g)]
@[simp] theorem AY(g:Nat->Nat->Nat->Nat->Bool->AV)(l:List Call):cl g (calls l)=calls l:=by simp[calls,cl,dm g Call.av (xg g)]
@[simp] theorem Cw(g:Nat->Nat->Nat->Nat->Bool->AV)(o:Out):cl g o.av=o.av:=by simp[Out.av,cl,dJ]
@[simp] theorem kp(v:Vars):ab v.av=[.str v.module,vals v.values]:=rfl
@[simp] theorem km(v:Deed):ab v.av=[.int .i64 v.effect,.int .i64 v.arg,.int .i64 v.answer]:=rfl
@[simp] theorem kl(v:Call):ab v.av=[.str v.module,.str v.func,vals v.args]:=rfl
@[simp] theorem lF(o:Out):ab o.av=[.int .i64 o.err,.int .i64 o.value.kind,.int .i64 o.value.n,strs o.value.names,vals o.value.values,deeds o.deeds,calls o.calls,mX o.state]:=rfl
@[simp] theorem nZ(v:Vars):AV.agg [.str v.module,vals v.values]=v.av:=rfl
@[simp] theorem nY(v:Deed):AV.agg [.int .i64 v.effect,.int .i64 v.arg,.int .i64 v.answer]=v.av:=rfl
@[simp] theorem nX(v:Call):AV.agg [.str v.module,.str v.func,vals v.args]=v.av:=rfl
@[simp] theorem qk(o:Out):AV.agg [.int .i64 o.err,.int .i64 o.value.kind,.int .i64 o.value.n,strs o.value.names,vals o.value.values,deeds o.deeds,calls o.calls,mX o.state]=o.av:=rfl
@[simp] theorem Ah(v:Vars):bY v.av=some 2:=rfl
@[simp] theorem Af(v:Deed):bY v.av=some 3:=rfl
@[simp] theorem Ae(v:Call):bY v.av=some 3:=rfl
@[simp] theorem BE(v:Out):bY v.av=some 8:=rfl
@[simp] theorem ow(v:Vars):bQ 2 v.av=true:=by simp[bQ,aV,vals]
@[simp] theorem ov(v:Deed):bQ 3 v.av=true:=by simp[bQ,aV]
@[simp] theorem ou(v:Call):bQ 3 v.av=true:=by simp[bQ,aV,vals]
@[simp] theorem qM(v:Out):bQ 8 v.av=true:=by simp[bQ,aV,vals,strs,deeds,calls,mX]
def Clean(a:AV):Prop:=∀g,cl g a=a
def Clean.frz{a:AV}(h:Clean a)(d:Nat)(hp:Hp):il d hp a=a:=by
 cases d with
 |zero=>exact h _
 |succ d=>exact h _
def b4{a:AV}(h:Clean a):aK (M.pure a)=M.pure a:=by
 funext hp;simp only[aK,M.pure,h.frz]
@[simp] theorem fP(b:Bool):aK (M.pure (.bool b))=M.pure (.bool b):=b4 fun _=>rfl
@[simp] theorem vM(k:IntKind)(n:Int):aK (M.pure (.int k n))=M.pure (.int k n):=b4 fun _=>rfl
@[simp] theorem jj(s:bj):aK (M.pure (.str s))=M.pure (.str s):=b4 fun _=>rfl
@[simp] theorem Bj(v:Val):aK (M.pure v.av)=M.pure v.av:=b4 fun g=>zi g v
@[simp] theorem zV(v:List Val):aK (M.pure (vals v))=M.pure (vals v):=b4 fun g=>xo g v
@[simp] theorem Bg(v:Exp):aK (M.pure v.av)=M.pure v.av:=b4 fun g=>zb g v
@[simp] theorem Bh(v:Fun):aK (M.pure v.av)=M.pure v.av:=b4 fun g=>u7 g v
@[simp] theorem BG(v:Val):bY v.av=some 4:=by rw[v.av_eq];rfl
@[simp] theorem BA(e:Exp):bY e.av=some 6:=by rw[Exp.av,e.cells_eq];rfl
@[simp] theorem BB(f:dV):bY (a6 f)=some 3:=by rw[dL];rfl
@[simp] theorem BX(t:Ty):bY t.av=some 2:=by rw[Ty.av,t.cells_eq];rfl
@[simp] theorem BC(f:Fun):bY f.av=some 12:=by simp[Fun.av,bY,Ty.cells_eq,Exp.cells_eq]
@[simp] theorem BD(m:Mod):bY m.av=some 9:=rfl
@[simp] theorem mF(v:Val):bQ 4 v.av=true:=by simp[bQ,aV,strs,vals]
@[simp] theorem mB(e:Exp):bQ 6 e.av=true:=by simp[bQ,aV,strs,gD]
@[simp] theorem jq(f:dV):bQ 3 (a6 f)=true:=by simp[bQ,aV,bm]
@[simp] theorem mC(f:Fun):bQ 12 f.av=true:=by simp[bQ,aV,bm,strs,gD]
@[simp] theorem mD(m:Mod):bQ 9 m.av=true:=by simp[bQ,aV,bm,strs,gD,qp]
@[simp] theorem vY(s:bj):bQ 1 (.str s)=true:=rfl
@[simp] theorem vW(k:IntKind)(n:Int):bQ 1 (.int k n)=true:=rfl
def cn{α:Type}{sz:Nat}{f:α->AV}(h:∀x,bQ sz (f x)=true)(l:List α):cm sz (l.map f)=true:=by simp[cm,h]
@[simp] theorem Ac(l:List bj):cm 1 (l.map AV.str)=true:=cn vY l
@[simp] theorem z7(l:List Int):cm 1 (l.map (AV.int .i64))=true:=cn (vW .i64) l
@[simp] theorem Ad(l:List Val):cm 4 (gu l)=true:=by rw[mW];exact cn mF l
@[simp] theorem zY(l:List Exp):cm 6 (eI l)=true:=by rw[iE];exact cn mB l
@[simp] theorem zZ(l:List dV):cm 3 (dy l)=true:=by rw[cN];exact cn jq l
@[simp] theorem z6(l:List Fun):cm 12 (l.map Fun.av)=true:=cn mC l
@[simp] theorem z8(l:List Mod):cm 9 (l.map Mod.av)=true:=cn mD l
def mf{T:TT}{t e:Nat}{ti ei:TI}(ht:T t=some ti)(hk:ti.kind= .slice e)(he:T e=some ei){α:Type}{f:α->AV}(hs:∀x,bY (f x)=some ei.size){l:List α}{i:Nat}{x:α}(h:l[i]? = some x):
  az T t (.sl (l.map f)) (.int .i64 (i:Int))=some (.ip (ab (f x))):=by
 unfold az;rw[ht];simp only[hk,he];rw[if_neg (by omega)];have:(l.map f)[(i:Int).toNat]? = some (f x):=by rw[Eb,EJ,h];rfl
 rw[this];simp only;rw[DR (hs x)]
def ff{T:TT}{t e:Nat}{ti ei:TI}(ht:T t=some ti)(hk:ti.kind= .slice e)(he:T e=some ei){α:Type}[Inhabited α]{f:α->AV}(hs:∀x,bY (f x)=some ei.size){l:List α}{n:Int}(h0:0<=n)(h:n<(l.length:Int)):
  az T t (.sl (l.map f)) (.int .i64 n)=some (.ip (ab (f l[n.toNat]!))):=by
 have hlt:n.toNat<l.length:=by omega
 have:=mf ht hk he hs (l:=l) (i:=n.toNat) (x:=l[n.toNat]!) (by rw[List.getElem!_eq_getElem?_getD,D5 hlt];rfl)
 rw[show ((n.toNat:Nat):Int)=n by omega]at this;exact this
def lL{T:TT}{t e:Nat}{ti ei:TI}(ht:T t=some ti)(hk:ti.kind= .slice e)(he:T e=some ei){α:Type}{f:α->AV}(hs:∀x,bQ ei.size (f x)=true){a b:List α}(h:(a.length+b.length)*ei.bytes<=140737488355328)(h0:0<ei.bytes):
  eH T t (.sl (a.map f)) (.sl (b.map f))=some (.sl ((a++b).map f)):=by
 unfold eH;rw[ht];simp only[hk,he,fu];rw[cn hs,cn hs];simp[h,h0,jF]
def iR(l:List Ty):AV:=.sl (l.map Ty.av)
structure Sig where
 name:bj
 params:List Ty
 result:Ty
 effects:Int
 deriving Inhabited
structure Face where
 module:bj
 funcs:List Sig
 deriving Inhabited
structure Vsn where
 major:Int
 minor:Int
 patch:Int
 deriving Inhabited,DecidableEq
def Sig.cells(s:Sig):List AV:=[.str s.name,iR s.params,.int .i64 s.result.kind,bm s.result.fields,.int .i64 s.effects]
def Sig.av(s:Sig):AV:=.agg s.cells
def sigs(l:List Sig):AV:=.sl (l.map Sig.av)
def Face.cells(f:Face):List AV:=[.str f.module,sigs f.funcs]
def Face.av(f:Face):AV:=.agg f.cells
def vu(l:List Face):AV:=.sl (l.map Face.av)
def Vsn.av(v:Vsn):AV:=.agg [.int .i64 v.major,.int .i64 v.minor,.int .i64 v.patch]
@[simp] theorem iy(s:Sig):ab s.av=[.str s.name,iR s.params,.int .i64 s.result.kind,bm s.result.fields,.int .i64 s.effects]:=rfl
@[simp] theorem ko(f:Face):ab f.av=[.str f.module,sigs f.funcs]:=rfl
@[simp] theorem yP(v:Vsn):ab v.av=[.int .i64 v.major,.int .i64 v.minor,.int .i64 v.patch]:=rfl
@[simp] theorem jf(s:Sig):AV.agg [.str s.name,iR s.params,.int .i64 s.result.kind,bm s.result.fields,.int .i64 s.effects]=s.av:=rfl
@[simp] theorem jY(f:Face):AV.agg [.str f.module,sigs f.funcs]=f.av:=rfl
@[simp] theorem A9(v:Vsn):AV.agg [.int .i64 v.major,.int .i64 v.minor,.int .i64 v.patch]=v.av:=rfl
@[simp] theorem jr(t:Ty):bQ 2 t.av=true:=by simp[bQ,aV,bm]
@[simp] theorem Bo(l:List Ty):cm 2 (l.map Ty.av)=true:=cn jr l
@[simp] theorem BF(s:Sig):bY s.av=some 5:=rfl
@[simp] theorem Ag(s:Face):bY s.av=some 2:=rfl
@[simp] theorem BH(s:Vsn):bY s.av=some 3:=rfl
@[simp] theorem mE(s:Sig):bQ 5 s.av=true:=by simp[bQ,aV,bm,iR]
@[simp] theorem uk(s:Face):bQ 2 s.av=true:=by simp[bQ,aV,sigs]
@[simp] theorem Bn(s:Vsn):bQ 3 s.av=true:=rfl
@[simp] theorem Ab(l:List Sig):cm 5 (l.map Sig.av)=true:=cn mE l
@[simp] theorem zE(l:List Face):cm 2 (l.map Face.av)=true:=cn uk l
@[simp] theorem zh(g:Nat->Nat->Nat->Nat->Bool->AV)(l:List Ty):cl g (iR l)=iR l:=by simp[iR,cl,dm g Ty.av (nN g)]
@[simp] theorem ry(g:Nat->Nat->Nat->Nat->Bool->AV)(s:Sig):cl g s.av=s.av:=by unfold Sig.av Sig.cells;simp only[cl,dJ,zh,xj]
@[simp] theorem xn(g:Nat->Nat->Nat->Nat->Bool->AV)(l:List Sig):cl g (sigs l)=sigs l:=by simp[sigs,cl,dm g Sig.av (ry g)]
@[simp] theorem g7(g:Nat->Nat->Nat->Nat->Bool->AV)(s:Face):cl g s.av=s.av:=by unfold Face.av Face.cells;simp only[cl,dJ,xn]
@[simp] theorem A0(g:Nat->Nat->Nat->Nat->Bool->AV)(l:List Face):cl g (vu l)=vu l:=by simp[vu,cl,dm g Face.av (g7 g)]
@[simp] theorem Cy(g:Nat->Nat->Nat->Nat->Bool->AV)(s:Vsn):cl g s.av=s.av:=by unfold Vsn.av;simp only[cl,dJ]
@[simp] theorem BW(v:Ty):aK (M.pure v.av)=M.pure v.av:=b4 fun g=>nN g v
@[simp] theorem Bi(v:Sig):aK (M.pure v.av)=M.pure v.av:=b4 fun g=>ry g v
@[simp] theorem zU(v:Face):aK (M.pure v.av)=M.pure v.av:=b4 fun g=>g7 g v
end Go.Av.Ap
namespace Go.Av
open Go.Av.Ap
def BJ:Nat->AV->Bool
 |0,_=>false
 |d+1,.agg [.int .i64 _,.sl fs]=>decide (fs.length<=100)&&fs.all fun f=>match f with
  |.agg [.str _,.int .i64 k,.sl gs]=>BJ d (.agg [.int .i64 k,.sl gs])
  |_=>false
 |_,_=>false
def lg:(FuncId->List AV->M AV)->List AV->M AV:=fun _ args=>match args with
 |[v]=>ah (bif BJ 5 v then some v else none)
 |_=>M.fail
def xD:Nat->Ty->Prop
 |0,_=>False
 |d+1,t=>t.fields.length<=100/\∀f∈t.fields,xD d f.2
theorem l4{α β:Type}{f:β->α}{P:β->Prop}:(l:List α)->(∀a∈l,∃b,a=f b/\P b)->∃m:List β,l=m.map f/\∀b∈m,P b
 |[],_=>⟨[],rfl,by simp⟩
 |a:: l,h=>by
  obtain⟨b,rfl,hb⟩:=h a E6;obtain⟨m,rfl,hm⟩:=l4 l fun a ha=>h a (Fw _ ha);exact⟨b:: m,rfl,fun c hc=>by rcases Eh.1 hc with rfl|hc;exact hb;exact hm c hc⟩
theorem ra:∀(d:Nat)(v:AV),BJ d v=true->∃t:Ty,v=t.av/\xD d t
 |0,_,h=>by cases h
 | d + 1,v,h=>by
  unfold BJ at h;split at h
  ·cases h
  ·rename_i k fs e;obtain rfl:=Nat.succ.inj e;simp only[DK,DU,DW]at h;have key:∀a∈fs,∃f:dV,a=a6 f/\xD d f.2:=by
    intro a ha;have h2:=h.2 a ha;split at h2
    ·rename_i n k' gs;obtain⟨t,h3,h4⟩:=ra d _ h2;refine⟨(n,t),?_,h4⟩;rw[dL];have h5:t.av= .agg [.int .i64 t.kind,bm t.fields]:=by cases t;rfl
     rw[h5]at h3;simp only[AV.agg.injEq,FS,Gt]at h3;rw[<- h3.1,<- h3.2]
    ·cases h2
   obtain⟨m,rfl,hm⟩:=l4 fs key;refine⟨.mk k m,?_,?_,hm⟩
   ·show _=AV.agg [.int .i64 k,.sl (dy m)];rw[cN]
   ·have:=h.1
    rw[EX]at this;exact this
  ·cases h
end Go.Av
namespace Go.Av
variable [Dr]
section
variable {c:Entry} {N:Nat} {U:Nat->Prop} {e:Env} {h:Hp} {a:Act} {w:World} {S:ao} {β:List a8} {γ:Nat->Value} {lam:Nat->Option Nat} {ω:Nat->Owner}
theorem FR.dead(H:FR c N U e h a w S β γ lam ω){l b:Nat}(hd:∀cs,h[l]? = some cs->cs=[])(hb:ω b= .heap l)(hS:∀o,S b o=none){w':World}(hg:Gro w w')(hsz:w'.heap.size=w.heap.size)(hold:∀k,k≠b->w'.heap[k]? = w.heap[k]?):
  FR c N U e h a w' S β γ lam ω:=by
 have hωb:∀k,ω k≠.heap l->k≠b:=fun k hk=>by rintro rfl;exact hk hb
 have hother:∀k,ω k≠.heap l->w'.heap[k]? = w.heap[k]?:=fun k hk=>hold k (hωb k hk);refine⟨fun k o v hv=>?_,H.gro.trans hg,fun k hk hE=>?_,H.le,H.ext,H.hlen,?_,H.tsz,H.slots,H.grps,?_,?_,fun k hk=>⟨(H.mine k hk).1,by rw[hsz];exact (H.mine k hk).2⟩,H.used⟩
 ·have hkb:k≠b:=by rintro rfl;rw[hS]at hv;cases hv
  rw[cell_of_heap (hold k hkb)];exact H.wf k o v hv
 ·have hkb:k≠b:=by
   rintro rfl
   have:=(H.mine k (by rw[hb];simp)).1.low
   rcases this with h|h
   ·exact hE h
   ·omega
  have:=H.keep k hk hE
  exact⟨by rw[hold k hkb];exact this.1,this.2⟩
 ·refine H.heap.rows (ao.le_refl S) (dU.refl β) H.hlen fun j ds hj hne=>.inl ⟨hj,fun k _ ho=>⟨ho,hother k ?_,fun o h=>h⟩⟩;rw[ho];simp only[F9,Owner.heap.injEq];rintro rfl;exact hne (hd ds hj)
 ·intro B n hB;obtain⟨k1,k2,k3,k,z,k4,k5,k6,k7,k8⟩:=H.lblk B n hB;exact⟨k1,k2,k3,k,z,k4,k5.of_eq (hother k (by rw[k6];simp)),k6,k7,k8⟩
 ·intro g z hg;obtain⟨a',len,cap,g1,g2,g3,g4⟩:=H.free g z hg;refine⟨a',len,cap,g1,g2,g3,g4.imp id ?_⟩;rintro⟨sz,k,off,z',k1,k2,k3,k4,k5,k6⟩;exact⟨sz,k,off,z',k1,k2,k3.of_eq (hother k (by rw[k5];simp)),k4,k5,k6⟩
end
section
variable {S:ao} {β:List a8} {h:Hp} {w:World}
theorem FR.cpost{e:Env}{h':Hp}{a:Act}{N:Nat}{U:Nat->Prop}{w':World}{S':ao}{β':List a8}{γ:Nat->Value}{lam:Nat->Option Nat}{ω:Nat->Owner}{hg:lq β h w}(F:FR { w,S,β,E:=bu β h,gok:=hg } N U e h' a w' S' β' γ lam ω){r:AV}{v:Value}(hv:VR S' β' r v):
  cF none S β h w (.ok r h') (.returned v) w':=⟨S',β',v,rfl,hv,F.out,fun sz hsz=>by cases hsz⟩
theorem rD(hg:lq β h w)(hw:Wf S w)(hh:bS S β w h){l b n:Nat}{cs cs':List AV}{x y:Array Value}(hl:h[l]? = some cs)(hne:cs≠[])(hb:β[l]? = some (b,n))(hrow:Row w b x)(hys:y.size=x.size)(hcs:aE S β cs' (y.toList.take cs'.length))(htag:∀t,bL t cs'->bL t cs):cF none S β h w (.ok (.tup []) (h.set l cs')) (.returned (.tuple #[])) (w.setRow b y):=by
 obtain⟨γ,lam,ω,F⟩:=su (args:=[]) (vs:=[]) (n:=0) hg hw hh (by simp[aE]) (DT _) (by omega);exact (F.turnH hl hne ⟨n,hb⟩ hrow hys hcs htag).cpost (by simp only[VR];exact⟨[],rfl,by simp[aE]⟩)
theorem rC(hg:lq β h w)(hw:Wf S w)(hh:bS S β w h){l b n:Nat}{cs:List AV}(hl:h[l]? = some cs)(hne:cs≠[])(hb:β[l]? = some (b,n)){w':World}(hgr:Gro w w')(hsz:w'.heap.size=w.heap.size)(hold:∀k,k≠b->w'.heap[k]? = w.heap[k]?){r:AV}{v:Value}(hv:VR S β r v):cF none S β h w (.ok r (h.set l [])) (.returned v) w':=by
 obtain⟨γ,lam,ω,F⟩:=su (args:=[]) (vs:=[]) (n:=0) hg hw hh (by simp[aE]) (DT _) (by omega);obtain⟨b',n',k1,k2,k3,k4⟩:=F.heap.own hl hne;rw[hb]at k1;simp only[DI,Ew]at k1;obtain⟨rfl,rfl⟩:=k1;refine ((F.killH l).dead (l:=l) (fun cs' h'=>?_) k3 k4 hgr hsz hold).cpost hv;rw[Ea]at h';simp only[El]at h';split at h'
 ·simpa using h'.symm
 ·cases h'
end
end Go.Av
namespace Go.Av
variable [Dr]
theorem kz{P:Program}{cx:Cx}{own:Option Nat}(hT:TOK P cx.T)(hC:bR P cx.own cx.call)(hI:IsoCall cx){f:FuncId}{fn:Func}(hf:P.funcs[f]? = some fn)(hnt:cx.nt=fn.ntmps){E:List AV->Hp->R AV}(h0:∀h,E [] h= .ok (.sl []) h)(h1:∀e es h,bD cx (bZ 0) fn own [.sl (e:: es)] h=E (e:: es) h)(h2:∀h,bD cx (bZ 0) fn own [.hn] h= .ok (.sl []) h)(h3:∀l off h,bD cx (bZ 0) fn own [.hs l off 0 1 false] h= .ok (.sl []) h){es:List AV}{h:Hp}{S:ao}{β:List a8}{w:World}{vs:List Value}(hr:E es h≠.fail)(hg:lq β h w)(hw:Wf S w)(hh:bS S β w h)(hv:aE S β [.sl es] vs):Calls P f vs.toArray w (cF own S β h w (E es h))/\fn.body.isSome=true:=by
 cases es with
 |cons e es=>
  rw[<- h1]at hr |-;exact e8 hT hC hI 0 hf hnt hr hg hw hh hv
 | nil=>
  rw[h0];simp only[aE]at hv;obtain⟨v,_,rfl,hv,rfl⟩:=hv;have hv0:=hv;simp only[VR]at hv;obtain⟨a,cap,rfl,hc,hn,hq⟩:=hv;cases a with
  |none=>
   have hcap:=hn rfl;subst hcap;have hv2:aE S β [.hn] [.slice none ([]:List AV).length 0]:=by simp[aE,VR]
   have:=e8 (own:=own) hT hC hI 0 hf hnt (args:=[.hn]) (h:=h) (by rw[h2];simp) hg hw hh hv2
   rw[h2]at this;exact this
  | some q=>
   obtain⟨hs,_⟩:=hq q rfl;have hX:bS S [(q.block,q.off+cap)] w [[]]:=⟨rfl,fun _=>.no,fun l cs hl hne=>by
    cases l with
    |zero=>simp at hl;exact absurd hl hne
    |succ l=>simp at hl⟩
   have hE:∀b,¬bu [(q.block,q.off+cap)] [[]] b:=by
    rintro b ⟨l,cs,n,k1,k2,_⟩;cases l with
    |zero=>simp at k1;exact k2 k1
    |succ l=>simp at k1
   have hv2:aE S [(q.block,q.off+cap)] [.hs 0 q.off 0 1 false] [.slice (some q) ([]:List AV).length cap]:=by
    simp only[aE,VR];rcases EA cap with h0|h0
    ·subst h0;exact⟨_,_,rfl,.inr ⟨trivial,q,rfl⟩,rfl⟩
    ·have hq':q=⟨q.block,q.off,none⟩:=by
      have:=hs h0
      cases q;simp_all
     exact⟨_,_,rfl,.inl ⟨(q.block,q.off+cap),cap,rfl,(by show q.off+cap≠0;omega),by rw[<- hq'];rfl,ER _,by simp⟩,rfl⟩
   have:=e8 (own:=own) hT hC hI 0 hf hnt (args:=[.hs 0 q.off 0 1 false]) (h:=[[]]) (by rw[h3];simp) ⟨hg.1,fun b _=>hE b⟩ hw hX hv2
   rw[h3]at this;refine⟨this.1.mono fun en w' hp=>?_,this.2⟩;obtain⟨S',β',v,k1,k2,k3,k4⟩:=hp;obtain⟨S2,j1,j2,j3⟩:=sU hw hh hE k3;exact⟨S2,β,v,k1,j2 (.sl []) v k2,j1,fun sz hsz=>j3 sz v (k4 sz hsz)⟩
end Go.Av
namespace Go.Av
attribute [simp] ap am uW tC
@[simp] theorem ar{α:Type}(b:Bool)(x y:M α):aQ (.bool b) x y=if b=true then x else y:=by cases b<;>rfl
def gv(b w:Bool)(y:AV):AV:=bif b== w then y else .tup []
@[simp] theorem CS(y:AV):gv false false y=y:=rfl
@[simp] theorem CW(y:AV):gv true true y=y:=rfl
@[simp] theorem CU(y:AV):gv false true y= .tup []:=rfl
@[simp] theorem CV(y:AV):gv true false y= .tup []:=rfl
@[simp high] theorem bl(b w:Bool)(y:AV):aw (.bool b) w 1 (M.pure [y])=M.pure [gv b w y]:=by cases b<;>cases w<;>rfl
@[simp high] theorem zS(b w c w2:Bool)(y:AV):aw (gv b w (.bool c)) w2 1 (M.pure [y])=M.pure [gv b w (gv c w2 y)]:=by cases b<;>cases w<;>cases c<;>cases w2<;>rfl
@[simp high] theorem zT(b w c e:Bool):aw (.bool b) w 1 (ae (ah (aO (gv b w (.bool c)) (.bool true) (gv b w (gv c false (.bool e))))) fun v=>M.pure [v])=M.pure [gv b w (.bool (c||e))]:=by
 cases b<;>cases w<;>cases c<;>rfl
@[simp high] theorem zp(b w c e:Bool):aw (.bool b) w 1 (ae (ah (aO (gv b w (.bool c)) (gv b w (gv c true (.bool e))) (.bool false))) fun v=>M.pure [v])=M.pure [gv b w (.bool (c&&e))]:=by
 cases b<;>cases w<;>cases c<;>rfl
@[simp high] theorem eX(b c:Bool):aO (.bool b) (gv b true (.bool c)) (.bool false)=some (.bool (b&&c)):=by cases b<;>rfl
@[simp high] theorem fj(b c:Bool):aO (.bool b) (.bool true) (gv b false (.bool c))=some (.bool (b||c)):=by cases b<;>rfl
@[simp] theorem xu(w:Bool)(n:Nat)(m:M (List AV)):aw (.bool !w) w n m=M.pure (List.replicate n (.tup [])):=by cases w<;>rfl
@[simp] theorem ba(w:Bool)(n:Nat)(m:M (List AV)):aw (.bool w) w n m=m:=by cases w<;>rfl
@[simp] theorem dn(n:Nat)(m:M (List AV)):aw (.bool false) true n m=M.pure (List.replicate n (.tup [])):=rfl
@[simp] theorem g9(n:Nat)(m:M (List AV)):aw (.bool true) false n m=M.pure (List.replicate n (.tup [])):=rfl
@[simp] theorem mc(w:Bool)(n:Nat)(m:M (List AV)):aw (.tup []) w n m=M.pure (List.replicate n (.tup [])):=rfl
@[simp] theorem aW(x y:AV):aO (.bool true) x y=some x:=rfl
@[simp] theorem bX(x y:AV):aO (.bool false) x y=some y:=rfl
@[simp] theorem aB(x:AV)(l:List AV):nth (x:: l) 0=x:=rfl
@[simp] theorem aT(x:AV)(l:List AV)(n:Nat):nth (x:: l) (n+1)=nth l n:=rfl
@[simp] theorem CJ{α:Type}(k:List AV->M α)(m:(List AV->M α)->M α):jn k m=m k:=rfl
@[simp] theorem iK{α:Type}(a:α):cu (M.pure a)=M.pure a:=rfl
@[simp] theorem fB(b:Bool):jL .not (.bool b)=some (.bool !b):=rfl
@[simp] theorem bK(l:List AV)(i:Nat):aZ (.tup l) i=l[i]?:=rfl
@[simp] theorem yF:True:=trivial
@[simp] theorem zB(l k:Nat):bE (.hp l k)=some (.hp l k):=rfl
@[simp] theorem zC(cs:List AV):bE (.ip cs)=some (.ip cs):=rfl
@[simp] theorem yO(s:List UInt8):ab (.str s)=[.str s]:=rfl
@[simp] theorem yM(k:IntKind)(n:Int):ab (.int k n)=[.int k n]:=rfl
@[simp] theorem fY(cs:List AV):ab (.agg cs)=cs:=rfl
@[simp] theorem ga(T:TT)(t:Nat)(a b:Int):au T .add t (.int .i64 a) (.int .i64 b)=some (.int .i64 (IntKind.i64.wrap (a+b))):=rfl
@[simp] theorem sK(T:TT)(t:Nat)(a b:Int):au T .sub t (.int .i64 a) (.int .i64 b)=some (.int .i64 (IntKind.i64.wrap (a-b))):=rfl
@[simp] theorem BN(T:TT)(t:Nat)(a b:Int):au T .mul t (.int .i64 a) (.int .i64 b)=some (.int .i64 (IntKind.i64.wrap (a*b))):=rfl
@[simp] theorem bp(T:TT)(t:Nat)(a b:Int):au T .lss t (.int .i64 a) (.int .i64 b)=some (.bool (decide (a<b))):=rfl
@[simp] theorem dl(T:TT)(t:Nat)(a b:Int):au T .leq t (.int .i64 a) (.int .i64 b)=some (.bool (decide (a<=b))):=rfl
@[simp] theorem BM(T:TT)(t:Nat)(a b:Int):au T .gtr t (.int .i64 a) (.int .i64 b)=some (.bool (decide (b<a))):=rfl
@[simp] theorem BL(T:TT)(t:Nat)(a b:Int):au T .geq t (.int .i64 a) (.int .i64 b)=some (.bool (decide (b<=a))):=rfl
@[simp] theorem sJ(T:TT)(t:Nat)(a b:Int):au T .eql t (.int .i64 a) (.int .i64 b)=some (.bool (a== b)):=rfl
@[simp] theorem BO(T:TT)(t:Nat)(a b:Int):au T .neq t (.int .i64 a) (.int .i64 b)=some (.bool (a != b)):=rfl
@[simp] theorem BZ(T:TT)(t:Nat)(a b:List UInt8):au T .eql t (.str a) (.str b)=some (.bool (a== b)):=rfl
@[simp] theorem B8(T:TT)(t:Nat)(a b:List UInt8):au T .neq t (.str a) (.str b)=some (.bool !(a== b)):=rfl
@[simp] theorem B7(T:TT)(t:Nat)(a b:List UInt8):au T .lss t (.str a) (.str b)=some (.bool (aN a b)):=rfl
@[simp] theorem B4(T:TT)(t:Nat)(a b:List UInt8):au T .geq t (.str a) (.str b)=some (.bool !(aN a b)):=rfl
@[simp] theorem cy{n:Nat}{x:AV}(h:bQ n x=true):bo n x=M.pure (.agg (ab x)):=by
 unfold bo gd;rw[h];rfl
@[simp] theorem bv{n:Nat}{x:AV}(h:bQ n x=true):aG n [] x=M.pure (.agg (ab x)):=by
 unfold aG gd;rw[h];rfl
@[simp] theorem zW(b:Bool)(x:AV):eO b [x]=some x:=by simp[eO]
@[simp] theorem zX(b:Bool)(a c:Int):eO b [.int .i64 a,.int .i64 c]=some (.int .i64 (if b=true then max a c else min a c)):=by
 cases b
 ·simp only[eO,ug,DO];congr 2;simp only[Int.min_def];split<;>split<;>simp_all<;>omega
 ·simp only[eO,ug,DJ];congr 2;simp only[Int.max_def];split<;>split<;>simp_all<;>omega
def eV{x:Int}(h1:-9223372036854775808<=x)(h2:x<=9223372036854775807):IntKind.i64.wrap x=x:=IntWalk.i64_in _ ⟨h1,h2⟩
def wM{n:Nat}(h:n<=4611686018427387904):IntKind.i64.wrap (n:Int)=(n:Int):=IntWalk.i64_in _ (by omega)
def b5{n:Nat}(h:n<=4611686018427387904):IntKind.i64.wrap ((n:Int)+1)=((n+1:Nat):Int):=by
 rw[IntWalk.i64_in _ (by omega)];omega
def kj{n:Nat}(h:n<=4611686018427387904):IntKind.i64.wrap (((n+1:Nat):Int)-1)=(n:Int):=by
 rw[IntWalk.i64_in _ (by omega)];omega
namespace Ap
mutual
def Val.sz:Val->Nat
 |.mk _ _ ns vs=>1+ns.length+wK vs
def wK:List Val->Nat
 |[]=>0
 |v:: vs=>v.sz+wK vs
end
end Ap
end Go.Av
namespace Go.Av
def fe{α:Type}(F:α->Bool):List α->Int->Int
 |[],_=>-1
 |x:: l,i=>if F x=true then i else fe F l (i+1)
theorem qu{α:Type}(F:α->Bool):(l:List α)->(i:Int)->0<=i->(0<=fe F l i↔l.any F=true)
 |[],i,_=>by simp[fe]
 |x:: l,i,h=>by
  simp only[fe];split
  ·rename_i hx;simp[hx,h]
  ·rename_i hx;rw[qu F l (i+1) (by omega)];simp[hx]
def od{α:Type}(F:α->Bool)(l:List α):decide (0<=fe F l 0)=l.any F:=by
 have:=qu F l 0 (by omega)
 cases h:l.any F with
 |true=>simp[this.2 h]
 |false=>simp only[Eu];intro hh;rw[this.1 hh]at h;cases h
@[simp] theorem yG(a b:Nat):((a:Int)== (b:Int))=(a== b):=by rw[FB];simp;omega
@[simp] theorem xF(a:Nat):((a:Int)== 0)=(a== 0):=by rw[FB];simp
@[simp] theorem yH(a b:Nat):((a:Int) != (b:Int))=(a != b):=by rw[FB];simp;omega
def pE{α β:Type}(F:α->β->Bool):List α->List β->Bool
 |x:: l,y:: r=>F x y&&pE F l r
 |[],[]=>true
 |_,_=>false
theorem kv{α β:Type}(F:α->β->Bool):(a:List α)->(b:List β)->a.length≠b.length->pE F a b=false
 |[],[],h=>absurd rfl h
 |[],_:: _,_=>rfl
 |_:: _,[],_=>rfl
 |x:: a,y:: b,h=>by
  have:=kv F a b (by simpa using h)
  simp[pE,this]
end Go.Av
namespace Go.Av
open Ap
@[simp high] theorem za(x:Val):bo 4 (Val.av x)=M.pure (Val.av x):=by rw[cy (mF x),lG,ql]
@[simp high] theorem xf(x:Val):aG 4 [] (Val.av x)=M.pure (Val.av x):=by rw[bv (mF x),lG,ql]
@[simp high] theorem y6(x:Exp):bo 6 (Exp.av x)=M.pure (Exp.av x):=by rw[cy (mB x),lC,qh]
@[simp high] theorem w9(x:Exp):aG 6 [] (Exp.av x)=M.pure (Exp.av x):=by rw[bv (mB x),lC,qh]
@[simp high] theorem lQ(x:dV):bo 3 (a6 x)=M.pure (a6 x):=by rw[cy (jq x),dC,je]
@[simp high] theorem xa(x:dV):aG 3 [] (a6 x)=M.pure (a6 x):=by rw[bv (jq x),dC,je]
@[simp high] theorem y7(x:Fun):bo 12 (Fun.av x)=M.pure (Fun.av x):=by rw[cy (mC x),lD,qi]
@[simp high] theorem xb(x:Fun):aG 12 [] (Fun.av x)=M.pure (Fun.av x):=by rw[bv (mC x),lD,qi]
@[simp high] theorem y8(x:Mod):bo 9 (Mod.av x)=M.pure (Mod.av x):=by rw[cy (mD x),lE,qj]
@[simp high] theorem xc(x:Mod):aG 9 [] (Mod.av x)=M.pure (Mod.av x):=by rw[bv (mD x),lE,qj]
@[simp high] theorem yB(x:Vars):bo 2 (Vars.av x)=M.pure (Vars.av x):=by rw[cy (ow x),kp,nZ]
@[simp high] theorem wR(x:Vars):aG 2 [] (Vars.av x)=M.pure (Vars.av x):=by rw[bv (ow x),kp,nZ]
@[simp high] theorem yA(x:Deed):bo 3 (Deed.av x)=M.pure (Deed.av x):=by rw[cy (ov x),km,nY]
@[simp high] theorem wQ(x:Deed):aG 3 [] (Deed.av x)=M.pure (Deed.av x):=by rw[bv (ov x),km,nY]
@[simp high] theorem yz(x:Ap.Call):bo 3 (Ap.Call.av x)=M.pure (Ap.Call.av x):=by rw[cy (ou x),kl,nX]
@[simp high] theorem wP(x:Ap.Call):aG 3 [] (Ap.Call.av x)=M.pure (Ap.Call.av x):=by rw[bv (ou x),kl,nX]
@[simp high] theorem y9(x:Ap.Out):bo 8 (Ap.Out.av x)=M.pure (Ap.Out.av x):=by rw[cy (qM x),lF,qk]
@[simp high] theorem xd(x:Ap.Out):aG 8 [] (Ap.Out.av x)=M.pure (Ap.Out.av x):=by rw[bv (qM x),lF,qk]
@[simp] theorem jr(t:Ty):bQ 2 t.av=true:=by simp[bQ,aV,bm]
@[simp high] theorem jR(x:Ty):bo 2 (Ty.av x)=M.pure (Ty.av x):=by rw[cy (jr x),cb,er]
@[simp high] theorem ey(x:Ty):aG 2 [] (Ty.av x)=M.pure (Ty.av x):=by rw[bv (jr x),cb,er]
end Go.Av
namespace Go.Av
@[simp] theorem wS(c:Prop)[Decidable c](a b:Bool):(if c then(M.pure (.bool a):M AV)else M.pure (.bool b))=M.pure (.bool (if c then a else b)):=by split<;>rfl
@[simp] theorem xv(c:Prop)[Decidable c](a b:Int):(if c then(M.pure (.int .i64 a):M AV)else M.pure (.int .i64 b))=M.pure (.int .i64 (if c then a else b)):=by split<;>rfl
def lj{F:(List AV->M AV)->List AV->M AV}(hF:∀vs,ai F vs=F (ai F) vs)(st:Nat->List AV)(n:Nat)(G:Nat->Bool)(hend:F (ai F) (st n)=M.pure (.bool true))(hstep:∀k,k<n->F (ai F) (st k)=if G k=true then ai F (st (k+1))else M.pure (.bool false)):
  ∀k,k<=n->ai F (st k)=M.pure (.bool ((List.range' k (n-k)).all G)):=by
 have key:∀r k,n-k=r->k<=n->ai F (st k)=M.pure (.bool ((List.range' k r).all G)):=by
  intro r
  induction r with
  |zero=>
   intro k hr hk;obtain rfl:k=n:=by omega
   rw[hF,hend];rfl
  |succ r ih=>
   intro k hr hk;rw[hF,hstep k (by omega),ih (k+1) (by omega) (by omega)];simp only[Gr,Fh];cases G k<;>rfl
 exact fun k hk=>key (n-k) k rfl hk
def re{α:Type}[Inhabited α](P:α->Bool)(l:List α):(List.range' 0 l.length).all (fun k=>P l[k]!)=l.all P:=by
 rw[FB];simp only[DW,Gl];constructor
 ·intro h x hx;obtain⟨i,hi,rfl⟩:=List.getElem_of_mem hx
  have:=h i ⟨ER _,by omega⟩
  rwa [EB l i hi]at this
 ·intro h k hk;have hk':k<l.length:=by omega
  rw[EB l k hk'];exact h _ (Ed hk')
theorem lI{α β:Type}[Inhabited α][Inhabited β](P:α->β->Bool):(a:List α)->(b:List β)->a.length=b.length->(List.range' 0 a.length).all (fun k=>P a[k]! b[k]!)=pE P a b
 |[],[],_=>rfl
 | x:: a,y:: b,h=>by
  have ih:=lI P a b (by simpa using h);simp only[Ec,Gr,Fh,pE];congr 1;rw[<- ih];rw[FB];simp only[DW,Gl];constructor
  ·intro h k hk
   have:=h (k+1) (by omega)
   simpa using this
  ·intro h k hk;obtain⟨j,rfl⟩:∃j,k=j+1:=⟨k-1,by omega⟩;simpa using h j (by omega)
 |[],_:: _,h=>by simp at h
 |_:: _,[],h=>by simp at h
end Go.Av
namespace Go.Av.Ap
open Go Go.Av
def Val.limN:Nat->Val->Prop
 |0,_=>True
 |n+1,v=>v.names.length<=140737488355328/\v.values.length<=140737488355328/\∀x∈v.values,x.limN n
def Val.Lim(v:Val):Prop:=∀n,v.limN n
def Exp.limN:Nat->Exp->Prop
 |0,_=>True
 |n+1,v=>v.names.length<=8796093022208/\v.args.length<=140737488355328/\∀x∈v.args,x.limN n
def Exp.Lim(v:Exp):Prop:=∀n,v.limN n
def Ty.limN:Nat->Ty->Prop
 |0,_=>True
 |n+1,v=>v.fields.length<=140737488355328/\∀x∈v.fields,x.2.limN n
def Ty.Lim(v:Ty):Prop:=∀n,v.limN n
def Val.Lim.names{v:Val}(h:v.Lim):v.names.length<=140737488355328:=(h 1).1
def Val.Lim.len{v:Val}(h:v.Lim):v.values.length<=140737488355328:=(h 1).2.1
def Val.Lim.kid{v:Val}(h:v.Lim){x:Val}(hx:x∈v.values):x.Lim:=fun n=>(h (n+1)).2.2 x hx
def Exp.Lim.names{v:Exp}(h:v.Lim):v.names.length<=8796093022208:=(h 1).1
def Exp.Lim.len{v:Exp}(h:v.Lim):v.args.length<=140737488355328:=(h 1).2.1
def Exp.Lim.kid{v:Exp}(h:v.Lim){x:Exp}(hx:x∈v.args):x.Lim:=fun n=>(h (n+1)).2.2 x hx
def Ty.Lim.len{v:Ty}(h:v.Lim):v.fields.length<=140737488355328:=(h 1).1
def Ty.Lim.kid{v:Ty}(h:v.Lim){x:dV}(hx:x∈v.fields):x.2.Lim:=fun n=>(h (n+1)).2 x hx
structure Fun.Lim (f:Fun):Prop where
 params:f.params.length<=140737488355328
 pty:∀x∈f.params,x.2.Lim
 result:f.result.Lim
 body:f.body.Lim
structure Mod.Lim (m:Mod):Prop where
 uses:m.uses.length<=140737488355328
 vars:m.vars.length<=140737488355328
 vty:∀x∈m.vars,x.2.Lim
 init:m.init.length<=140737488355328
 ies:∀e∈m.init,e.Lim
 funcs:m.funcs.length<=140737488355328
 fns:∀f∈m.funcs,f.Lim
 old:m.old.length<=140737488355328
 oty:∀x∈m.old,x.2.Lim
 forward:m.forward.length<=140737488355328
 fes:∀e∈m.forward,e.Lim
 back:m.back.length<=140737488355328
 bes:∀e∈m.back,e.Lim
end Go.Av.Ap
namespace Go.Av.Ap
open Go Go.Av
section
variable {α:Type} {f:α->AV} {sz:Nat}
def rowOf(f:α->AV)(l:List α):List AV:=(l.map f).flatMap ab
theorem iN(x:α)(l:List α):rowOf f (x:: l)=ab (f x)++rowOf f l:=by simp[rowOf]
theorem ie(hs:∀x,(ab (f x)).length=sz):(l:List α)->(rowOf f l).length=l.length*sz
 |[]=>by simp[rowOf]
 |x:: l=>by rw[iN,DX,hs,ie hs l,Ec,Fj];omega
theorem fA(hs:∀x,(ab (f x)).length=sz):(l:List α)->(i:Nat)->(h:i<l.length)->((rowOf f l).drop (i*sz)).take sz=ab (f l[i])
 |x:: l,0,_=>by
  rw[iN,FH,Fa,Gz (hs x)];rfl
 |x:: l,i+1,h=>by
  rw[iN,show (i+1)*sz=(ab (f x)).length+i*sz by rw[hs,Fj];omega,List.drop_append,ET (by omega),Gv,En];simpa using fA hs l i (by simpa using h)
theorem np{cs xs:List AV}{off:Nat}(h:(cs.drop off).take xs.length=xs):setCells cs off xs=cs:=by
 unfold setCells
 conv=>lhs;rw[<- h]
 rw[EO];have:cs.take off++((cs.drop off).take xs.length++cs.drop (off+((cs.drop off).take xs.length).length))=cs:=by
  rw[h,<- FJ]
  conv=>lhs;rw[show xs++List.drop xs.length (List.drop off cs)=(cs.drop off).take xs.length++List.drop xs.length (List.drop off cs) by rw[h]]
  rw[Fp,Fp]
 exact this
theorem tT(hs:∀x,(ab (f x)).length=sz)(hag:∀x,f x= .agg (ab (f x)))(hcl:∀x g,cl g (f x)=f x)(hz:0<sz){h:Hp}{q:Nat}{l:List α}(hq:h[q]? = some (rowOf f l))(d:Nat):
  il (d+1) h (.hs q 0 l.length sz true)= .sl (l.map f):=by
 have hlen:=ie (f:=f) hs l;simp only[il,cl,hq];have h1:(decide (0+l.length*sz<=(rowOf f l).length)&&decide (0<sz)&&(true||(Nat.beq sz 1&&(rowOf f l).all aV)))=true:=by
  simp[hlen,hz]
 rw[h1,DJ];congr 1;apply List.ext_getElem
 ·simp
 ·intro i h2 h3;have hi:i<l.length:=by simpa using h2
  simp only[List.getElem_map,List.getElem_range,Em,DJ];rw[fA hs l i hi,<- hag];cases d with
  |zero=>exact hcl _ _
  |succ d=>exact hcl _ _
theorem rA{T:TT}{t e:Nat}{ti ei:TI}(ht:T t=some ti)(hk:ti.kind= .slice e)(he:T e=some ei)(h4:ei.size=sz)(hag:ei.agg=true)(hb:0<ei.bytes)(hz:0<sz)(hok:∀x,bQ sz (f x)=true)(call:FuncId->List AV->M AV)(l:List α)(hc:l.length*ei.bytes<=140737488355328)(h:Hp):
  cB T t call [.sl (l.map f)] h=if l=[]then .ok (.sl []) h else .ok (.hs h.length 0 l.length sz true) (h++[rowOf f l]):=by
 have h1:cm sz (l.map f)=true:=cn hok l;cases l with
 |nil=>simp[cB,appH,ht,hk,he,fu,hb,h4,jF,cm,hz]
 |cons v l=>
  have hne:((v:: l).map f).isEmpty=false:=rfl;unfold cB appH;simp only[ht,hk,he,fu,h4,h1,hb,hz,jF,Ex,FW,DJ,hne,DO,EX,hag];rw[EV hc];simp[rowOf]
end
def ud{T:TT}{t:Nat}{ti:TI}{q off:Nat}{cs:List AV}{h:Hp}(ht:T t=some ti)(hag:ti.agg=true)(hq:h[q]? = some cs)(hle:off+ti.size<=cs.length):cC T t (.hp q off) h= .ok (.agg ((cs.drop off).take ti.size)) h:=by
 simp only[cC,ht,hq,hag,DJ];rw[DR hle]
def q5{T:TT}{t:Nat}{ti:TI}{q off:Nat}{cs:List AV}{v:AV}{h:Hp}(ht:T t=some ti)(hq:h[q]? = some cs)(hok:bQ ti.size v=true)(hle:off+ti.size<=cs.length)(h0:0<ti.size)(hsame:(cs.drop off).take (ab v).length=ab v):
  cQ T t (.hp q off) v h= .ok (.tup []) h:=by
 simp only[cQ,ht,hq,hok,EV hle,EV h0,FW,DJ];rw[np hsame];congr 1;obtain⟨hlt,hk⟩:=EM.1 hq;rw[<- hk];exact List.set_getElem_self hlt
end Go.Av.Ap
namespace Go.Av.Ap
open Go Go.Av
def ll(b:UInt8):Bool:=decide (97<=b.toNat)&&decide (b.toNat<=122)
def rF(b:UInt8):Bool:=decide (48<=b.toNat)&&decide (b.toNat<=57)
def lJ(b:UInt8):Bool:=ll b||rF b
def kW(s:bj):Bool:=!(s== [])&&ll (s.headD 0)&&decide (s.length<=20)&&((s.takeWhile lJ).length== s.length)
def ic:bj:=[32,97,110,100,32,98,97,99,107,32,98,111,111,108,32,99,108,111,99,107,32,101,108,115,101,32,102,97,108,115,101,32,102,105,108,101,115,32,102,110,32,102,111,114,119,97,114,100,32,103,101,116,32,105,102,32,105,110,32,105,110,116,32,108,101,116,32,109,111,100,117,108,101,32,109,111,118,101,32,110,101,116,32,110,111,116,32,111,114,32,112,117,98,32,115,101,99,114,101,116,115,32,115,101,116,32,116,104,101,110,32,116,114,117,101,32,117,115,101,32,118,97,114,32]
def dN(s:bj):Bool:=kW s&&!(Lib.contains ic ([32]++s++[32]))
def oG{s:bj}(h:kW s=true):s.length<=20:=by
 unfold kW at h;simp only[DK,DU]at h;exact h.1.2
def fC(p f:bj):Bool:=!(aN f p||f== p)
def iA{α:Type}(Q:α->α->Bool):List α->Bool
 |x:: y:: r=>Q x y&&iA Q (y:: r)
 |_=>true
theorem pK{α:Type}[Inhabited α](Q:α->α->Bool):(l:List α)->(iA Q l=true↔∀k,k+1<l.length->Q l[k]! l[k+1]! = true)
 |[]=>by simp[iA]
 |[x]=>by simp[iA]
 | x:: y:: r=>by
  simp only[iA,DK,pK Q (y:: r)];constructor
  ·rintro⟨h1,h2⟩ k hk;cases k with
   |zero=>simpa using h1
   |succ k=>simpa using h2 k (by simpa using hk)
  ·intro h;refine⟨by simpa using h 0 (by simp),fun k hk=>?_⟩;simpa using h (k+1) (by simpa using hk)
def sG{α:Type}[Inhabited α](P:α->Bool)(Q:α->α->Bool)(l:List α):(List.range' 0 l.length).all (fun k=>P l[k]! && (decide (k=0)||Q l[k-1]! l[k]!))=(l.all P&&iA Q l):=by
 rw[FB,DK,<- re P l,pK];simp only[DW,Gl,DK,Ey,DU];constructor
 ·intro h;refine⟨fun k hk=>(h k hk).1,fun k hk=>?_⟩
  have:=(h (k+1) ⟨ER _,by omega⟩).2
  rcases this with h0|h1
  ·omega
  ·simpa using h1
 ·rintro⟨h1,h2⟩ k hk;refine⟨h1 k hk,?_⟩;cases k with
  |zero=>exact .inl rfl
  |succ k=>exact .inr (by simpa using h2 k (by omega))
def bP:Nat->Ty->Bool
 |0,_=>false
 |d+1,t=>decide (0<=t.kind)&&decide (t.kind<3)&&decide (t.fields.length<=8)&&(t.kind== 2||t.fields.length== 0)&&(t.fields.all (fun f=>dN f.1&&bP d f.2)&&iA (fun a b=>fC a.1 b.1) t.fields)
theorem dh(d:Nat)(t:Ty):bP (d+1) t=(decide (0<=t.kind)&&decide (t.kind<3)&&decide (t.fields.length<=8)&&(t.kind== 2||t.fields.length== 0)&&(t.fields.all (fun f=>dN f.1&&bP d f.2)&&iA (fun a b=>fC a.1 b.1) t.fields)):=rfl
abbrev ec(t:Ty):Bool:=bP 4 t
mutual
def oN:Ty->Ty->Bool
 |.mk k fs,a=>a.kind== k&&kZ fs a.fields
def kZ:List (bj×Ty)->List dV->Bool
 |[],_=>true
 |f:: fs,l=>rm f l&&kZ fs l
def rm:bj×Ty->List dV->Bool
 |(n,t),l=>match cX (fun z=>z.1== n) l with
  |some z=>oN t z.2
  |none=>false
end
def jQ(a b:Ty):Bool:=oN b a
theorem ky:(fs:List dV)->(l:List dV)->kZ fs l=fs.all fun f=>rm f l
 |[],_=>rfl
 |f:: fs,l=>by simp[kZ,ky fs l]
def tz(a b:Ty):jQ a b=(a.kind== b.kind&&b.fields.all fun f=>match cX (fun z=>z.1== f.1) a.fields with|some z=>jQ z.2 f.2|none=>false):=by
 cases b with
 |mk k fs=>
  show oN (.mk k fs) a=_;simp only[oN,ky,Ty.kind,Ty.fields];congr 2;funext f;obtain⟨n,t⟩:=f;simp only[rm,jQ]
def sB(a b:Ty):Bool:=ec a&&ec b&&jQ a b
def eP(a b:Int):Int:=IntKind.i64.wrap (BitVec.ofInt 64 a &&& ~~~ BitVec.ofInt 64 b).toNat
def BI(a b:Sig):Bool:=pE sB b.params a.params&&sB a.result b.result&&(eP a.effects b.effects== 0)
def di(s:Sig):Bool:=dN s.name&&decide (s.params.length<=6)&&(eP s.effects 15== 0)&&ec s.result&&s.params.all ec
def cP(f:Face):Bool:=dN f.module&&decide (f.funcs.length<=30)&&(f.funcs.all di&&iA (fun a b=>aN a.name b.name) f.funcs)
structure Sig.Lim (s:Sig):Prop where
 plen:s.params.length<=140737488355328
 ptys:∀t∈s.params,t.Lim
 result:s.result.Lim
structure Face.Lim (f:Face):Prop where
 len:f.funcs.length<=140737488355328
 sigs:∀s∈f.funcs,s.Lim
@[simp] theorem ru(x:Sig):bo 5 x.av=M.pure x.av:=by rw[cy (mE x),iy,jf]
@[simp] theorem xe(x:Sig):aG 5 [] x.av=M.pure x.av:=by rw[bv (mE x),iy,jf]
end Go.Av.Ap
namespace Go.Av
variable [Dr]
open Go.RowKit Go.WideShapes Go.ChangeShapes
theorem Left.below{S S':ao}{β β':List a8}{w w':World}{h':Hp}(L:Left (bu [] []) S β w S' β' w' h'):Below w.heap.size w w':=
 ⟨L.gro.os,L.gro.tape,L.gro.out,L.gro.size,fun k hk=>(L.keep k hk (by rintro⟨l,_,_,h1,_⟩;simp at h1)).1⟩
def gC(W:World):ao:=fun b o=>W.cell? ⟨b,o,none⟩
omit [Dr]in
theorem wV(W:World):Wf (gC W) W:=fun _ _ _ h=>h
omit [Dr]in
theorem tX{W:World}(h:GOKw W):lq [] [] W:=⟨h,fun b _ ho=>by obtain⟨l,_,_,h1,_⟩:=ho;simp at h1⟩
theorem ub{P:Program}{p:Pg}(G:GoodPg P p)(hO:ci p){f:FuncId}{args:List AV}{vs:List Value}{W:World}(hg:GOKw W)(hv:aE (gC W) [] args vs)(ht:af p f args []= .ok (.bool true) []):Calls P f vs.toArray W fun e W'=>e= .returned (.bool true)/\Below W.heap.size W W':=by
 have h:=(gK G hO f args [] (gC W) [] W vs (by rw[ht];simp) (tX hg) (wV W) ⟨rfl,fun _=>.no,fun l cs hl=>by simp at hl⟩ hv).1;rw[ht]at h;refine h.mono fun e W' hp=>?_;obtain⟨S',β',v,rfl,hv,L,_⟩:=hp;simp only[VR]at hv;subst hv;exact⟨rfl,L.below⟩
section
variable {H:Type} {enc:TypeId×Value->H} {P:Program}
omit [Dr]in
theorem nj{f:Func}{s:ChangeSpec}{apart fresh handsOn again:Bool}{W W':World}{args:Array Value}{v:Value}{ds gs:List (DataW H)}{before pa pv:List MemPlace}(hW:DataW.Whole enc P f.params.toList s.vars apart W args.toList ds gs before)(hres:∀(b:Nat)(sp:Nat->Bool)(hd:Bool),DataW.TrodAll enc P W' b sp hd f.resultTypes.toList (v.resultList f.resultTypes.size) (s.fn H (ds++gs)).results [])(hargs:∀sp:Nat->Bool,(∀p∈before,sp p.block=true)->DataW.TrodAll enc P W' 0 sp true f.params.toList args.toList (s.fn H (ds++gs)).args pa)(hvars:∀sp:Nat->Bool,(∀p∈before,sp p.block=true)->DataW.TrodVars enc P W' sp s.vars (s.fn H (ds++gs)).vars pv)(hps:before=pa++pv)(hb:Below W.heap.size W W')(hok:∀(j:Nat)(t:TypeId)(r:Value),f.resultTypes[j]? = some t->(v.resultList f.resultTypes.size)[j]? = some r->Value.okWide P W' .any 0 t r):
  s.post enc P f apart fresh handsOn again W args v W':=by
 have hlt:∀p∈before,p.block<W.heap.size:=fun p hp=>hW.lt p hp;have hold:∀p∈before,(fun b=>decide (b<W.heap.size)) p.block=true:=fun p hp=>by simpa using hlt p hp
 refine⟨ds,gs,before,[],pa,pv,hW,hres _ _ _,hargs _ hold,hvars _ hold,World.keptBut_mono (fun p hp=>⟨hp,?_⟩) (hb.frame (· ∈before)),fun _=>?_⟩
 ·rw[hps,Eg]at hp;exact Or.inr hp
 ·obtain⟨_,_,_,_,_,hz,hn⟩:=hW;refine⟨hok,_,_,([]++pa)++pv,⟨[]++pa,pv,trodAll_append (hargs _ (fun _ _=>rfl)) (hres _ _ _),hvars _ (fun _ _=>rfl),rfl,?_,?_⟩,?_⟩
  ·intro b off hp;have hin:MemPlace.cell b off∈before:=by rw[hps];simpa using hp
   rw[hb.frozen (hlt _ hin)];exact hz b off hin
  ·intro ha
   have:=hn ha
   rw[hps]at this;simpa using this
  ·intro p hp _;rw[hps];simpa using hp
end
end Go.Av
namespace Go.Av.Ap
open Go Go.Av
theorem fk:(a:bj)->aN a a=false
 |[]=>rfl
 |x:: a=>by simp[aN,fk a]
theorem fJ:(a b c:bj)->aN a b=true->aN b c=true->aN a c=true
 |_,[],c,h,_=>by cases ‹bj› <;> simp[aN]at h
 |_,_:: _,[],_,h=>by simp[aN]at h
 |[],_:: _,_:: _,_,_=>by simp[aN]
 | x:: a,y:: b,z:: c,h1,h2=>by
  simp only[aN,Ey,DK,DU,E0,UInt8.lt_iff_toNat_lt]at h1 h2 |-;rcases h1 with h1|⟨rfl,h1⟩
  ·rcases h2 with h2|⟨rfl,h2⟩
   ·exact .inl (by omega)
   ·exact .inl h1
  ·rcases h2 with h2|⟨rfl,h2⟩
   ·exact .inl h2
   ·exact .inr ⟨rfl,fJ a b c h1 h2⟩
theorem fI:(a b:bj)->aN a b=false->a≠b->aN b a=true
 |[],[],_,h=>absurd rfl h
 |[],_:: _,h,_=>by simp[aN]at h
 |_:: _,[],_,_=>by simp[aN]
 | x:: a,y:: b,h1,h2=>by
  simp only[aN,Fv,Eu,Ey,DK,DU,E0,UInt8.lt_iff_toNat_lt]at h1 |-;by_cases e:x=y
  ·subst e;refine .inr ⟨rfl,fI a b ?_ fun e=>h2 (by rw[e])⟩;simpa using h1.2
  ·refine .inl ?_;have:x.toNat≠y.toNat:=fun e'=>e (UInt8.toNat_inj.1 e');omega
theorem p7(a b:Int):(eP a b== 0)=true↔BitVec.ofInt 64 a &&& ~~~ BitVec.ofInt 64 b=0#64:=by
 unfold eP;generalize BitVec.ofInt 64 a &&& ~~~ BitVec.ofInt 64 b=v;have hv:=v.isLt;rw[E0];constructor
 ·intro h;apply BitVec.eq_of_toNat_eq;show v.toNat=0;have e:IntKind.i64.wrap (v.toNat:Int)=if decide ((v.toNat:Int) % 18446744073709551616 >= 9223372036854775808)=true then(v.toNat:Int) % 18446744073709551616-18446744073709551616 else(v.toNat:Int) % 18446744073709551616:=rfl;rw[e]at h;split at h<;>omega
 ·intro h;rw[h];rfl
end Go.Av.Ap
