/- The abstract evaluator of the model and plain laws, part 3: its soundness holds for every program whose table of types is the evaluator's. No further condition. -/
import Derived.Test.YteemeakjlfnapaaGreatDoorLb
import Derived.KernelRfl
import Derived.Below
import Derived.Lib.IndexMore
import Derived.Lib.Fields
import Derived.Lib.AtoiAll
import Derived.Lib.SplitLaws
import Derived.Shelf.SlSortCmp.WholeK
import Derived.Lib.Bytealg
import Derived.IntWalk
set_option linter.defProp false
set_option linter.unusedSimpArgs false
set_option linter.unusedVariables false
namespace Go.Av
variable [Dr]
def aR{α:Type}(m:M α):Prop:=∃o,m=ah o
def cF{α:Type}(m:M α):Prop:=∀h,m h= .fail\/∃v,m h= .ok v h
def da{α:Type}(m:M α):Prop:=∀h v h',m h≠.pan v h'
omit [Dr]in
theorem aR.read{α:Type}{m:M α}(h:aR m):cF m:=by
 obtain⟨o,rfl⟩:=h;intro h;cases o with
 |none=>exact .inl rfl
 |some v=>exact .inr ⟨v,rfl⟩
omit [Dr]in
theorem cF.stay{α:Type}{m:M α}(g:cF m):da m:=by
 intro h v h' hh;rcases g h with g|⟨x,g⟩<;>rw[g]at hh<;>cases hh
omit [Dr]in
theorem aR.bnd{α β:Type}{m:M α}(h:aR m)(f:α->β):aR (af m fun v=>M.pure (f v)):=by
 obtain⟨o,rfl⟩:=h;cases o with
 |none=>exact⟨none,rfl⟩
 |some v=>exact⟨some (f v),rfl⟩
omit [Dr]in
theorem cF.bnd{α β:Type}{m:M α}(g:cF m)(f:α->β):cF (af m fun v=>M.pure (f v)):=by
 intro h;simp only[Av.af,M.pure];rcases g h with g|⟨x,g⟩<;>rw[g]
 ·exact .inl rfl
 ·exact .inr ⟨_,rfl⟩
omit [Dr]in
theorem da.bnd{α β:Type}{m:M α}(g:da m)(f:α->β):da (af m fun v=>M.pure (f v)):=by
 intro h v h' hh;simp only[Av.af,M.pure]at hh;cases hm:m h<;>rw[hm]at hh<;>simp at hh;exact g _ _ _ hm
omit [Dr]in
theorem aR.lft{α:Type}(o:Option α):aR (ah o):=⟨o,rfl⟩
omit [Dr]in
theorem aR.pure{α:Type}(a:α):aR (M.pure a):=⟨some a,rfl⟩
omit [Dr]in
theorem aR.fail{α:Type}:aR (M.fail:M α):=⟨none,rfl⟩
def iv{α:Type}(m:M α):Prop:=∀h t v,m h= .ok v h->m (h++t)= .ok v (h++t)
def rr{α:Type}(m:M α):Prop:=∀h v h',m h= .ok v h'->∃t,h'=h++t
omit [Dr]in
theorem aR.app{α:Type}{m:M α}(h:aR m):iv m:=by
 obtain⟨o,rfl⟩:=h;intro h t v hh;cases o with
 |none=>cases hh
 |some x=>cases hh;rfl
omit [Dr]in
theorem aR.nw{α:Type}{m:M α}(h:aR m):rr m:=by
 obtain⟨o,rfl⟩:=h;intro h v h' hh;cases o with
 |none=>cases hh
 |some x=>cases hh;exact⟨[],by simp⟩
omit [Dr]in
theorem iv.bnd{α β:Type}{m:M α}(g:iv m/\cF m)(f:α->β):iv (af m fun v=>M.pure (f v))/\cF (af m fun v=>M.pure (f v)):=by
 refine⟨fun h t v hh=>?_,g.2.bnd f⟩;simp only[Av.af,M.pure]at hh |-;rcases g.2 h with k|⟨x,k⟩
 ·rw[k]at hh;cases hh
 ·rw[k]at hh;cases hh;rw[g.1 h t x k]
omit [Dr]in
theorem rr.bnd{α β:Type}{m:M α}(g:rr m)(f:α->β):rr (af m fun v=>M.pure (f v)):=by
 intro h v h' hh;simp only[Av.af,M.pure]at hh;cases hm:m h<;>rw[hm]at hh<;>simp at hh;obtain⟨t,ht⟩:=g _ _ _ hm;exact⟨t,by rw[<- hh.2,ht]⟩
def a7(p:∀ {α:Type},M α->Prop):Act1->Prop
 |.dyn m _=>p m
 |.thr _=>False
 |_=>True
structure IsoPure (cx:Cx):Prop where
 iso:∀f args,cx.iso f=true->aR (cx.call f args)
 nw:∀f args,cx.nw f=true->rr (cx.call f args)
section
variable {cx:Cx} {e:Env} {gid:Nat} {o:Oper}
omit [Dr]in
theorem a7.cond{p:∀ {α:Type},M α->Prop}{b:Bool}{x y:Act1}(h1:b=true->a7 p x)(h2:b=false->a7 p y):a7 p (bif b then x else y):=by
 cases b with
 |true=>exact h1 rfl
 |false=>exact h2 rfl
omit [Dr]in
theorem a7.lft(o:Option AV)(sh:AV->Upd):a7 aR (.dyn (ah o) sh):=aR.lft o
omit [Dr]in
theorem mh(T:TT)(t:TypeId)(x:AV):cF (fI T t x):=by
 have key:∀x,cF (fun h:Hp=>(match aj T t x with|some v=>R.ok v h|none=>.fail)):=by
  intro x h;cases hq:aj T t x with
  |none=>exact .inl rfl
  |some v=>exact .inr ⟨v,rfl⟩
 cases x with
 | hp l off=>
  intro h;simp only[fI];cases T t with
  |none=>exact .inl rfl
  | some ti=>
   cases h[l]? with
   |none=>exact .inl rfl
   | some cs=>
    simp only;cases ti.agg with
    |true=>
     simp only[El];split
     ·exact .inr ⟨_,rfl⟩
     ·exact .inl rfl
    |false=>
     simp only[Ep];cases cs[off]? with
     |none=>exact .inl rfl
     |some v=>exact .inr ⟨v,rfl⟩
 |_=>exact key _
omit [Dr]in
theorem rk(T:TT)(t:TypeId)(x y:AV):da (fB T t x y):=by
 intro h v h' hh;unfold fB at hh;split at hh
 ·split at hh
  ·revert hh;generalize (_&&_:Bool)=b1;cases b1<;>simp
  ·cases hh
 ·cases hh
omit [Dr]in
theorem qb(T:TT)(t:TypeId)(x:AV):da (oT T t x):=fun h v h' hh=>by cases hh
omit [Dr]in
theorem oh(cs:List AV):da (newH cs):=by
 intro h v h' hh;unfold newH at hh;revert hh;generalize (_||_:Bool)=b1;cases b1<;>simp
omit [Dr]in
theorem ux(t:Nat)(cs:List AV):da (uw t cs):=by
 intro h v h' hh;unfold uw at hh;split at hh
 ·revert hh;generalize List.any _ _=b1;cases b1<;>simp
 ·cases hh
omit [Dr]in
theorem pf:da fb:=by
 intro h v h' hh;cases hh
omit [Dr]in
theorem sw(T:TT)(t:TypeId)(x k:AV)(ok:Bool):cF (fV T t x k ok):=by
 intro h;unfold fV;cases jb h x with
 |none=>exact .inl rfl
 |some es=>
  simp only;cases mm T t es k ok with
  |none=>exact .inl rfl
  |some v=>exact .inr ⟨v,rfl⟩
omit [Dr]in
theorem t8{h s:Hp}{x:AV}{es:List AV}(hh:jb h x=some es):jb (h++s) x=some es:=by
 unfold jb at hh |-;cases x with
 | mp l=>
  simp only at hh |-;cases hl:h[l]? with
  |none=>rw[hl]at hh;cases hh
  | some cs=>
   rw[hl]at hh;have hl':(h++s)[l]? = some cs:=by
    rw[F8,Es (E6.1 hl).1,hl]
   rw[hl'];exact hh
 |_=>exact hh
omit [Dr]in
theorem ut(T:TT)(t:TypeId)(x k:AV)(ok:Bool):iv (fV T t x k ok):=by
 intro h s v hh;unfold fV at hh |-;cases hs:jb h x with
 |none=>rw[hs]at hh;cases hh
 |some es=>
  rw[hs]at hh;rw[t8 hs];simp only at hh |-;cases ha:mm T t es k ok with
  |none=>rw[ha]at hh;cases hh
  |some u=>rw[ha]at hh;cases hh;rfl
omit [Dr]in
theorem qW(T:TT)(t:TypeId)(x:AV):da (pr T t x):=fun h v h' hh=>by cases hh
omit [Dr]in
theorem qf(x:AV):cF (lM x):=fun h=>.inl rfl
omit [Dr]in
theorem rZ(x:AV):iv (lM x):=fun h s v hh=>by cases hh
omit [Dr]in
theorem ou(T:TT)(t:TypeId)(x k y:AV):da (nf T t x k y):=by
 intro h v h' hh;unfold nf at hh;split at hh
 ·cases hh
 ·revert hh;cases tV T 20 _ k with
  |false=>intro hh;cases hh
  | true=>
   simp only[El];intro hh;split at hh
   ·split at hh
    ·split at hh
     ·cases hh
     ·cases hh
    ·cases hh
   ·cases hh
omit [Dr]in
theorem tN(T:TT)(t:TypeId)(z:Bool)(x y:AV):da (appH T t z x y):=by
 intro h v h' hh;unfold appH at hh;have hc:∀ {b:Bool} {r s:R AV},(∀v h',r≠.pan v h')->(∀v h',s≠.pan v h')->(bif b then r else s)≠.pan v h':=by
  intro b r s h1 h2;cases b
  ·exact h2 _ _
  ·exact h1 _ _
 split at hh
 ·cases hh
 ·split at hh
  ·split at hh
   ·cases hh
   ·split at hh
    ·cases hh
    ·refine hc (fun v h' hh=>?_) (fun v h' hh=>by cases hh) hh;split at hh
     ·revert hh;generalize List.isEmpty _=b1;generalize decide (_<=140737488355328)=b2;cases b1<;>cases b2<;>simp
     ·revert hh;generalize List.isEmpty _=b1;generalize decide (_<=140737488355328)=b2;cases z<;>cases b1<;>cases b2<;>simp
     ·split at hh
      ·cases hh
      ·revert hh;generalize (_&&_:Bool)=b1;generalize List.isEmpty _=b2;cases b1<;>cases b2<;>simp
     ·cases hh
  ·cases hh
omit [Dr]in
theorem tM(T:TT)(t:TypeId)(x y:AV):da (tL T t x y):=by
 intro h v h' hh;unfold tL at hh;have hc:∀ {b:Bool} {r s:R AV},(∀v h',r≠.pan v h')->(∀v h',s≠.pan v h')->(bif b then r else s)≠.pan v h':=by
  intro b r s h1 h2;cases b
  ·exact h2 _ _
  ·exact h1 _ _
 split at hh
 ·cases hh
 ·split at hh
  ·split at hh
   ·cases hh
   ·refine hc (fun v h' hh=>?_) (fun v h' hh=>by cases hh) hh;split at hh
    ·cases hh
    ·split at hh
     ·cases hh
     ·split at hh
      ·revert hh;generalize List.isEmpty _=b1;generalize decide (_<=140737488355328)=b2;cases b1<;>cases b2<;>simp
      ·split at hh
       ·cases hh
       ·revert hh;generalize (_&&_:Bool)=b1;generalize List.isEmpty _=b2;cases b1<;>cases b2<;>simp
      ·cases hh
  ·cases hh
omit [Dr]in
theorem pZ(T:TT)(t n:Nat)(ps:List (Nat×AV)):da (oR T t n ps):=fun h v h' hh=>by cases hh
omit [Dr]in
theorem og(told:Bool)(x:Operand):a7 aR (fA told e gid x):=by
 unfold fA;split
 ·trivial
 ·exact a7.cond (fun _=>a7.cond (fun _=>trivial) (fun _=>trivial)) (fun _=>trivial)
omit [Dr]in
theorem sr(d:Option Tmp)(t:TypeId)(p:Nat):a7 cF (cU cx e d t p)/\(bg cx.ann.hl d=false->a7 aR (cU cx e d t p)):=by
 unfold cU;split
 ·split
  ·exact⟨trivial,fun _=>trivial⟩
  ·constructor
   ·exact a7.cond (fun _=>a7.cond (fun _=>trivial) (fun _=>a7.cond (fun _=>trivial) (fun _=>trivial))) (fun _=>trivial)
   ·exact fun _=>a7.cond (fun _=>a7.cond (fun _=>trivial) (fun _=>a7.cond (fun _=>trivial) (fun _=>trivial))) (fun _=>trivial)
 ·cases hm:bg cx.ann.hl d with
  |true=>exact⟨mh _ _ _,fun h=>by cases h⟩
  |false=>exact⟨(aR.lft _).read,fun _=>aR.lft _⟩
omit [Dr]in
theorem uq(T:TT)(t:TypeId)(x:AV):iv (fI T t x):=by
 intro h s v hh;have hk:∀y,(match aj T t y with|some v=>R.ok v h|none=>.fail)=R.ok v h->(match aj T t y with|some v=>R.ok v (h++s)|none=>.fail)=R.ok v (h++s):=by
  intro y hy;cases hq:aj T t y with
  |none=>rw[hq]at hy;cases hy
  |some u=>rw[hq]at hy;cases hy;rfl
 unfold fI at hh |-;cases x with
 | hp l off=>
  simp only at hh |-;cases hT:T t with
  |none=>rw[hT]at hh;cases hh
  | some ti=>
   rw[hT]at hh;cases hl:h[l]? with
   |none=>rw[hl]at hh;cases hh
   | some cs=>
    have hl':(h++s)[l]? = some cs:=by
     rw[F8]
     have:=(E6.1 hl).1
     rw[Es this,hl]
    rw[hl]at hh;rw[hl'];simp only at hh |-;cases hag:ti.agg with
    |true=>
     rw[hag]at hh;simp only[El]at hh |-;split at hh
     ·rename_i hc;cases hh;rw[Es hc]
     ·cases hh
    |false=>
     rw[hag]at hh;simp only[Ep]at hh |-;cases hq:cs[off]? with
     |none=>rw[hq]at hh;cases hh
     |some u=>rw[hq]at hh;cases hh;rfl
 |_=>exact hk _ hh
omit [Dr]in
theorem wL(d:Option Tmp)(t:TypeId)(p:Nat):a7 (fun m=>iv m/\cF m) (cU cx e d t p):=by
 unfold cU;split
 ·split
  ·trivial
  ·exact a7.cond (fun _=>a7.cond (fun _=>trivial) (fun _=>a7.cond (fun _=>trivial) (fun _=>trivial))) (fun _=>trivial)
 ·cases hm:bg cx.ann.hl d with
  |true=>exact⟨uq _ _ _,mh _ _ _⟩
  |false=>exact⟨(aR.lft _).app,(aR.lft _).read⟩
omit [Dr]in
theorem wx{A:Act1}(h:a7 da A):a7 da (Be A):=by
 cases A with
 |bad=>trivial
 |stat u=>intro h v h' hh;cases hh
 |dyn m sh=>
  intro x v h' hh;simp only[Av.af,s9]at hh;cases hm:m x<;>rw[hm]at hh<;>simp at hh;exact h _ _ _ hm
 |thr v=>exact h.elim
omit [Dr]in
theorem sc(t p i:Nat):a7 aR (fe cx e t p i):=by
 unfold fe;split
 ·split
  ·trivial
  ·split
   ·trivial
   ·split
    ·trivial
    ·exact a7.cond (fun _=>trivial) (fun _=>trivial)
 ·exact aR.lft _
omit [Dr]in
theorem sg(t p:Nat)(i:Operand):a7 aR (cv cx e t p i):=by
 unfold cv;split
 ·split
  ·split
   ·split
    ·trivial
    ·exact a7.cond (p:=aR) (fun _=>trivial) (fun _=>trivial)
   ·trivial
  ·trivial
 ·exact aR.lft _
omit [Dr]in
theorem sR(t p:Nat)(y:Operand):a7 da (d9 cx e gid t p y):=by
 have hl:∀o:Option AV,da (Av.ah o):=fun o=>(aR.lft o).read.stay;unfold d9;split
 ·split
  ·trivial
  ·refine a7.cond (fun _=>a7.cond (fun _=>a7.cond (fun _=>hl _) (fun _=>trivial)) (fun _=>a7.cond (fun _=>hl _) (fun _=>a7.cond (fun _=>?_) (fun _=>trivial)))) (fun _=>trivial);split
   ·split
    ·exact hl _
    ·trivial
   ·exact a7.cond (fun _=>trivial) (fun _=>hl _)
 ·exact rk _ _ _ _
omit [Dr]in
theorem sQ(t p:Nat)(y:Operand)(hl:fv (e.get p)=true):a7 aR (d9 cx e gid t p y):=by
 have hl':∀o:Option AV,aR (Av.ah o):=fun o=>aR.lft o;unfold d9;cases hv:(e.get p).v with
 |val a=>simp[fv,hv]at hl
 | loc B off=>
  simp only;split
  ·trivial
  ·refine a7.cond (fun _=>a7.cond (fun _=>a7.cond (fun _=>hl' _) (fun _=>trivial)) (fun _=>a7.cond (fun _=>hl' _) (fun _=>a7.cond (fun _=>?_) (fun _=>trivial)))) (fun _=>trivial);split
   ·split
    ·exact hl' _
    ·trivial
   ·exact a7.cond (fun _=>trivial) (fun _=>hl' _)
omit [Dr]in
theorem gL(s t:Nat):a7 da (dZ cx e gid s t)/\(bu cx.ann.kinds s .L≠.H->bu cx.ann.kinds s .L≠.B->a7 aR (dZ cx e gid s t)):=by
 unfold dZ;split
 ·exact⟨trivial,fun _ _=>trivial⟩
 ·cases hk:bu cx.ann.kinds s .L with
  |F=>exact⟨trivial,fun _ _=>trivial⟩
  |H=>exact⟨oh _,fun h=>absurd rfl h⟩
  |B=>exact⟨ux _ _,fun _ h=>absurd rfl h⟩
  |L=>exact⟨a7.cond (fun _=>trivial) (fun _=>trivial),fun _ _=>a7.cond (fun _=>trivial) (fun _=>trivial)⟩
  |S=>exact⟨a7.cond (fun _=>trivial) (fun _=>trivial),fun _ _=>a7.cond (fun _=>trivial) (fun _=>trivial)⟩
omit [Dr]in
theorem nA(s t:Nat)(x:Operand):a7 da (g8 cx e s t x)/\(bu cx.ann.kinds s .F≠.H->a7 aR (g8 cx e s t x)):=by
 have hl:∀o:Option AV,da (Av.ah o):=fun o=>(aR.lft o).read.stay;unfold g8;cases hk:bu cx.ann.kinds s .F with
 |F=>exact⟨trivial,fun _=>trivial⟩
 |H=>exact⟨oh _,fun h=>absurd rfl h⟩
 |B=>exact⟨trivial,fun _=>trivial⟩
 |L=>
  simp only;split
  ·exact⟨trivial,fun _=>trivial⟩
  ·exact⟨a7.cond (fun _=>hl _) (fun _=>trivial),fun _=>a7.cond (fun _=>aR.lft _) (fun _=>trivial)⟩
 |S=>
  simp only;split
  ·exact⟨trivial,fun _=>trivial⟩
  ·exact⟨a7.cond (fun _=>hl _) (fun _=>trivial),fun _=>a7.cond (fun _=>aR.lft _) (fun _=>trivial)⟩
structure Class (f:Foot) (A:Act1):Prop where
 stay:f.piv=false->a7 da A
 read:f.wh=false->a7 cF A
 pure:f.wh=false->f.rh=false->a7 aR A
 app:f.wh=false->a7 (fun m=>iv m/\cF m) A
 nw:f.nw=true->a7 rr A
omit [Dr]in
theorem a7.imp{p q:∀ {α:Type},M α->Prop}(hpq:∀ {α:Type} (m:M α),p m->q m){A:Act1}(h:a7 p A):a7 q A:=by
 cases A<;>first|trivial|exact hpq _ h|exact h
omit [Dr]in
theorem Class.of_pure{f:Foot}{A:Act1}(h:a7 aR A):Class f A:=
 ⟨fun _=>h.imp fun _ g=>g.read.stay,fun _=>h.imp fun _ g=>g.read,fun _ _=>h,fun _=>h.imp fun _ g=>⟨g.app,g.read⟩,fun _=>h.imp fun _ g=>g.nw⟩
omit [Dr]in
theorem iv.nw{α:Type}{m:M α}(h:cF m):rr m:=fun x v h' hh=>by
 rcases h x with g|⟨u,g⟩
 ·rw[g]at hh;cases hh
 ·rw[g]at hh;cases hh;exact⟨[],by simp⟩
omit [Dr]in
theorem Class.of_app{f:Foot}{A:Act1}(_hw:f.wh=false)(hr:f.rh=true)(h:a7 (fun m=>iv m/\cF m) A):Class f A:=
 ⟨fun _=>h.imp fun _ g=>g.2.stay,fun _=>h.imp fun _ g=>g.2,fun _ h=>by(rw[hr]at h;cases h),fun _=>h,fun _=>h.imp fun _ g=>iv.nw g.2⟩
omit [Dr]in
theorem nr(T:TT)(t:TypeId)(x y:AV):cF (pS T t x y):=by
 intro h;unfold pS;cases ni h y with
 |none=>exact .inl rfl
 |some es=>
  simp only;cases eh T t x (.sl es)with
  |none=>exact .inl rfl
  |some v=>exact .inr ⟨v,rfl⟩
omit [Dr]in
theorem xn{h s:Hp}{y:AV}{es:List AV}(hh:ni h y=some es):ni (h++s) y=some es:=by
 unfold ni at hh |-;split at hh
 ·rename_i l off len sz ag;cases hl:h[l]? with
  |none=>rw[hl]at hh;cases hh
  | some cs=>
   rw[hl]at hh;have hl':(h++s)[l]? = some cs:=by
    rw[F8]
    have:=(E6.1 hl).1
    rw[Es this,hl]
   simp only[hl'];exact hh
 ·exact hh
 ·exact hh
 ·cases hh
omit [Dr]in
theorem pT(T:TT)(t:TypeId)(x y:AV):iv (pS T t x y):=by
 intro h s v hh;unfold pS at hh |-;cases hs:ni h y with
 |none=>rw[hs]at hh;cases hh
 |some es=>
  rw[hs]at hh;rw[xn hs];simp only at hh |-;cases ha:eh T t x (.sl es)with
  |none=>rw[ha]at hh;cases hh
  |some u=>rw[ha]at hh;cases hh;rfl
omit [Dr]in
theorem Class.of_stay{f:Foot}{A:Act1}(hw:f.wh=true)(hn:f.nw=false)(h:a7 da A):Class f A:=
 ⟨fun _=>h,fun h=>by(rw[hw]at h;cases h),fun h=>by(rw[hw]at h;cases h),fun h=>by(rw[hw]at h;cases h),fun h=>by(rw[hn]at h;cases h)⟩
omit [Dr]in
theorem Class.of_piv{f:Foot}{A:Act1}(hw:f.wh=true)(h:f.piv=true)(hn:f.nw=true->a7 rr A):Class f A:=
 ⟨fun h'=>by(rw[h]at h';cases h'),fun h=>by(rw[hw]at h;cases h),fun h=>by(rw[hw]at h;cases h),fun h=>by(rw[hw]at h;cases h),hn⟩
omit [Dr]in
theorem rM(hI:IsoPure cx){c:Call}(ho:o.op= .call c):Class (am cx o) (d7 cx e gid o c):=by
 unfold d7;cases hc:c.callee with
 |invoke r m=>exact .of_pure trivial
 | value x=>
  cases x with
  | func f=>
   simp only;cases hfz:bg cx.ann.fz o.dst with
   | true=>
    simp only[El];cases hq:!(cx.iso f)&&!(cx.nw f)&&(cx.own f).isNone with
    |false=>exact .of_pure trivial
    |true=>
     simp only[Em,E8]at hq;exact .of_piv (by unfold am;rw[ho];simp only[hc,hq.1.1,Ep]) (by unfold am;rw[ho];simp only[hc,hq.1.1,Ep]) fun hn=>by unfold am at hn;rw[ho]at hn;simp only[hc,hq.1.1,Ep,hq.1.2]at hn;cases hn
   |false=>
   simp only[Ep];cases hi:cx.iso f with
   |true=>exact .of_pure (hI.iso f _ hi)
   |false=>exact .of_piv (by unfold am;rw[ho];simp only[hc,hi,Ep]) (by unfold am;rw[ho];simp only[hc,hi,Ep]) fun hn=>hI.nw f _ (by unfold am at hn;rw[ho]at hn;simpa only[hc,hi,Ep]using hn)
  |_=>exact .of_piv (by unfold am;rw[ho];simp only[hc]) (by unfold am;rw[ho];simp only[hc]) fun hn=>by unfold am at hn;rw[ho]at hn;simp[hc]at hn
 | builtin b=>
  cases b<;>simp only<;>(try exact .of_pure trivial)
  case clear=>
   have hw:(am cx o).wh=true/\(am cx o).nw=false:=by unfold am;rw[ho];simp only[hc];exact⟨trivial,trivial⟩
   split
   ·exact .of_stay hw.1 hw.2 (qb _ _ _)
   ·exact .of_pure trivial
  case append=>
   split
   ·cases hu:eY cx.T _ with
    |false=>exact .of_pure trivial
    | true=>
     simp only[FT,Ep];cases hha:bg cx.ann.ha o.dst with
     | true=>exact .of_stay (by unfold am;rw[ho];simp only[hc,hha,El]) (by unfold am;rw[ho];simp only[hc,hha,El]) (by
       cases bg cx.ann.hb o.dst with
       |true=>simp only[El];exact tM _ _ _ _
       |false=>exact tN _ _ _ _ _)
     | false=>
      simp only[Ep];cases hhl:bg cx.ann.hl o.dst with
      | true=>
       refine .of_app (by unfold am;rw[ho];simp only[hc,hha,Ep]) (by unfold am;rw[ho];simp only[hc,hha,hhl,Ep]) ?_;simp only[El];refine a7.cond (fun _=>⟨pT _ _ _ _,nr _ _ _ _⟩) (fun _=>?_);split
       ·split
        ·trivial
        ·split
         ·trivial
         ·exact a7.cond (fun _=>⟨pT _ _ _ _,nr _ _ _ _⟩) (fun _=>trivial)
       ·trivial
      | false=>
       refine .of_pure ?_;simp only[Ep];refine a7.cond (fun _=>aR.lft _) (fun _=>?_);split
       ·split
        ·trivial
        ·split
         ·trivial
         ·exact a7.cond (fun _=>aR.lft _) (fun _=>trivial)
       ·trivial
   ·exact .of_pure trivial
  case len=>
   split
   ·exact .of_pure (aR.lft _)
   ·exact .of_pure trivial
  case min=>exact .of_pure (aR.lft _)
  case max=>exact .of_pure (aR.lft _)
omit [Dr]in
theorem dy(hI:IsoPure cx)(e:Env)(gid:Nat)(o:Oper):Class (am cx o) (d8 cx e gid o):=by
 unfold d8;cases ho:o.op<;>simp only<;>(try exact .of_pure (aR.lft _))<;>(try exact .of_pure trivial)
 case binOp=>exact .of_pure (a7.cond (fun _=>trivial) fun _=>aR.lft _)
 case buildSlice t n ps=>
  cases hha:bg cx.ann.ha o.dst with
  |true=>exact .of_stay (by unfold am;rw[ho];simp only[hha,El]) (by unfold am;rw[ho];simp only[hha,El]) (pZ _ _ _ _)
  |false=>exact .of_pure (aR.lft _)
 case move x=>exact .of_pure (og _ x)
 case assign x=>exact .of_pure (og _ x)
 case box t x=>
  cases hd:o.dst with
  |none=>exact .of_pure trivial
  |some s=>
   cases hk:bu cx.ann.kinds s .F with
   |H=>exact .of_stay (by unfold am;rw[ho];simp only[hd,hk]) (by unfold am;rw[ho];simp only[hd,hk]) (nA s t x).1
   |_=>exact .of_pure ((nA s t x).2 (by rw[hk];simp))
 case alloc t=>
  cases hd:o.dst with
  |none=>exact .of_pure trivial
  |some s=>
   cases hk:bu cx.ann.kinds s .L with
   |H=>exact .of_stay (by unfold am;rw[ho];simp only[hd,hk]) (by unfold am;rw[ho];simp only[hd,hk]) (gL s t).1
   |B=>exact .of_stay (by unfold am;rw[ho];simp only[hd,hk]) (by unfold am;rw[ho];simp only[hd,hk]) (gL s t).1
   |_=>exact .of_pure ((gL s t).2 (by rw[hk];simp) (by rw[hk];simp))
 case load t x=>
  cases x with
  |tmp p=>
   have h:=sr (cx:=cx) (e:=e) o.dst t p;simp only;cases hnl:bg cx.ann.nl o.dst&&fv (e.get p)with
   |true=>exact .of_pure trivial
   |false=>
   simp only[Ep];cases hz:bg cx.ann.fz o.dst with
   |true=>exact .of_stay (by unfold am;rw[ho];exact hz) (by unfold am;rw[ho]) (wx (h.1.imp fun _ g=>g.stay))
   |false=>exact⟨fun _=>h.1.imp fun _ g=>g.stay,fun _=>h.1,fun _ hr=>h.2 (by unfold am at hr;rw[ho]at hr;exact hr),fun _=>wL o.dst t p,fun hn=>by unfold am at hn;rw[ho]at hn;cases hn⟩
  |_=>exact .of_pure trivial
 case store t x y=>
  cases x with
  | tmp p=>
   cases hd:o.dst with
   |some d=>exact .of_pure trivial
   | none=>
    simp only;cases hlw:dL cx.ann.lw p with
    |false=>exact .of_stay (by unfold am;rw[ho];simp[hlw]) (by unfold am;rw[ho]) (by simp only[G0,Ep];exact sR t p y)
    |true=>
     cases hlo:fv (e.get p)with
     |false=>exact .of_pure trivial
     |true=>exact .of_pure (by simp only[FT,GY,Ep];exact sQ t p y hlo)
  |_=>exact .of_pure trivial
 case nilCheck x=>
  cases x with
  |tmp p=>
   simp only;split
   ·exact .of_pure trivial
   ·exact .of_pure (aR.lft _)
  |_=>exact .of_pure trivial
 case fieldAddr t x i=>cases x<;>first|exact .of_pure (sc _ _ _)|exact .of_pure trivial
 case indexAddr t x i=>cases x<;>first|exact .of_pure (sg _ _ _)|exact .of_pure trivial
 case slice t x lo hi mx=>
  refine .of_pure (a7.cond (fun _=>?_) fun _=>aR.lft _);unfold jw;split
  ·split
   ·trivial
   ·split
    ·exact a7.cond (fun _=>aR.lft _) fun _=>trivial
    ·trivial
  ·trivial
 case makeMap t r=>exact .of_stay (by unfold am;rw[ho]) (by unfold am;rw[ho]) (a7.cond (fun _=>trivial) fun _=>pf)
 case lookup t x i ok=>exact .of_app (by unfold am;rw[ho]) (by unfold am;rw[ho]) ⟨ut _ _ _ _ _,sw _ _ _ _ _⟩
 case mapUpdate t m k x=>exact .of_stay (by unfold am;rw[ho]) (by unfold am;rw[ho]) (by unfold g9;split;exact ou _ _ _ _ _;trivial)
 case insert t m k x=>exact .of_stay (by unfold am;rw[ho]) (by unfold am;rw[ho]) (by unfold g9;split;exact ou _ _ _ _ _;trivial)
 case range t x=>exact .of_stay (by unfold am;rw[ho]) (by unfold am;rw[ho]) (qW _ _ _)
 case entry x=>exact .of_app (by unfold am;rw[ho]) (by unfold am;rw[ho]) ⟨rZ _,qf _⟩
 case panic x=>
  refine .of_piv ?_ ?_ ?_
  ·unfold am;rw[ho]
  ·unfold am;rw[ho]
  ·intro hn;unfold am at hn;rw[ho]at hn;cases hn
 case call c=>exact rM hI ho
end
end Go.Av
namespace Go.Av
variable [Dr]
structure EqE (e e':Env):Prop where
 get:∀t,e'.get t=e.get t
 al:∀g,aB e'.al g=aB e.al g
 lb:∀B,aW e'.lb B=aW e.lb B
 lf:∀B,aK e'.sl B=aK e.sl B
omit [Dr]in
theorem EqE.refl(e:Env):EqE e e:=⟨fun _=>rfl,fun _=>rfl,fun _=>rfl,fun _=>rfl⟩
omit [Dr]in
theorem EqE.symm{e e':Env}(h:EqE e e'):EqE e' e:=⟨fun t=>(h.get t).symm,fun t=>(h.al t).symm,fun t=>(h.lb t).symm,fun t=>(h.lf t).symm⟩
omit [Dr]in
theorem EqE.trans{a b c:Env}(h:EqE a b)(g:EqE b c):EqE a c:=
 ⟨fun t=>(g.get t).trans (h.get t),fun t=>(g.al t).trans (h.al t),fun t=>(g.lb t).trans (h.lb t),fun t=>(g.lf t).trans (h.lf t)⟩
def RE:R Env->R Env->Prop
 |.fail,_=>True
 |.ok e h,r=>∃e',r= .ok e' h/\EqE e e'
 |.pan v h,r=>r= .pan v h
omit [Dr]in
theorem RE.refl(r:R Env):RE r r:=by
 cases r with
 |ok e h=>exact⟨e,rfl,.refl e⟩
 |pan v h=>exact rfl
 |fail=>trivial
omit [Dr]in
theorem RE.trans{a b c:R Env}(h:RE a b)(g:RE b c):RE a c:=by
 cases a with
 |ok e x=>
  obtain⟨e',rfl,h⟩:=h;obtain⟨e2,rfl,g⟩:=g;exact⟨e2,rfl,h.trans g⟩
 |pan v x=>cases h;exact g
 |fail=>trivial
omit [Dr]in
theorem fT(l r:List (Nat×Ent))(t:Nat):bc (l++r) t=if(∃x∈l,x.1=t)then bc l t else bc r t:=by
 induction l with
 |nil=>simp
 | cons x l ih=>
  obtain⟨k,y⟩:=x;rw[EZ,bn,bn];by_cases hk:k=t
  ·subst hk;simp
  ·rw[if_neg hk,if_neg hk,ih];have:(∃x∈(k,y):: l,x.1=t)↔(∃x∈l,x.1=t):=by
    simp only[EB,exists_eq_or_imp];constructor
    ·rintro (h|h)
     ·exact absurd h hk
     ·exact h
    ·exact .inr
   simp only[this]
omit [Dr]in
theorem mo{l:List (Nat×Ent)}(r:List (Nat×Ent)){t:Nat}(h:∀x∈l,x.1≠t):bc (l++r) t=bc r t:=by
 rw[fT,if_neg];rintro⟨x,hx,ht⟩;exact h x hx ht
omit [Dr]in
theorem fU(d:Option Tmp)(x:Ent)(r:List (Nat×Ent))(t:Nat):bc (mW d x r) t=if d=some t then x else bc r t:=by
 cases d with
 |none=>simp[mW]
 |some s=>simp only[mW,bn,Ek]
omit [Dr]in
theorem kO{l r s:List (Nat×Ent)}{t:Nat}(h:bc r t=bc s t):bc (l++r) t=bc (l++s) t:=by
 rw[fT,fT,h]
omit [Dr]in
theorem eP(l r:List (Nat×Ent))(B:Nat):aK (l++r) B=(aK l B&&aK r B):=by
 unfold aK;rw[List.all_append]
def i8(x:Ent)(B:Nat):Bool:=match x.v with
 |.loc C _=>!(Nat.beq C B)
 |.val _=>true
omit [Dr]in
theorem dm(d:Option Tmp)(x:Ent)(r:List (Nat×Ent))(B:Nat):aK (mW d x r) B=((d.isNone||i8 x B)&&aK r B):=by
 cases d with
 |none=>simp[mW]
 |some t=>rfl
omit [Dr]in
theorem jq{l:List (Nat×Ent)}{B t C off:Nat}(h:aK l B=true)(ht:(bc l t).v= .loc C off):C≠B:=by
 induction l with
 |nil=>simp[bc,Ent.none]at ht
 | cons x l ih=>
  obtain⟨k,y⟩:=x;rw[bn]at ht;simp only[aK,FE,Em]at h;split at ht
  ·rw[ht]at h;have h1:=h.1;simp only[E8]at h1;intro hc;rw[hc,Hd]at h1;cases h1
  ·exact ih (by unfold aK;exact h.2) ht
omit [Dr]in
theorem dh(l r:List (Nat×Option Nat))(g:Nat):aB (l++r) g=(match aB l g with|some z=>some z|none=>aB r g):=by
 induction l with
 |nil=>rfl
 |cons x l ih=>
  obtain⟨k,y⟩:=x;rw[EZ,be,be];split
  ·rfl
  ·exact ih
omit [Dr]in
theorem kv{l:List (Nat×Option Nat)}{k g:Nat}(h:∀x∈l,x.1=k)(hg:g≠k):aB l g=none:=by
 induction l with
 |nil=>rfl
 | cons x l ih=>
  obtain⟨j,y⟩:=x;rw[be,if_neg]
  ·exact ih fun x hx=>h x (by simp[hx])
  ·have:=h (j,y) (by simp)
   simp at this;omega
omit [Dr]in
theorem jp(r:List (Nat×Nat))(k B:Nat):aW (iz r k) B=if k=B then none else aW r B:=by
 induction r with
 |nil=>simp[iz,aW]
 | cons x r ih=>
  obtain⟨j,y⟩:=x;simp only[iz];by_cases hj:j=k
  ·subst hj;simp only[Hd,El,ih,cP];split<;>rfl
  ·have:Nat.beq j k=false:=by rw[Fz];intro hh;exact hj (Eo hh)
   simp only[this,Ep,cP,ih];by_cases hg:j=B
   ·subst hg;rw[Es rfl,if_neg (fun h=>hj h.symm),Es rfl]
   ·rw[if_neg hg,if_neg hg]
omit [Dr]in
theorem EqE.upd{e e':Env}(h:EqE e e')(d:Option Tmp)(u:Upd):EqE (e.upd d u) (e'.upd d u):=by
 refine⟨fun t=>?_,fun g=>?_,fun B=>?_,fun B=>?_⟩
 ·show bc (mW d u.ent (u.ls++e'.sl)) t=bc (mW d u.ent (u.ls++e.sl)) t;rw[fU,fU,kO (h.get t)]
 ·show aB (u.add++db e'.al u.drop) g=aB (u.add++db e.al u.drop) g;have:aB (db e'.al u.drop) g=aB (db e.al u.drop) g:=by
   cases u.drop with
   |none=>exact h.al g
   |some k=>simp only[db,gK,h.al g]
  rw[dh,dh,this]
 ·show aW (iG (cR e'.lb u.unlb) u.lb) B=aW (iG (cR e.lb u.unlb) u.lb) B;have:aW (cR e'.lb u.unlb) B=aW (cR e.lb u.unlb) B:=by
   cases u.unlb with
   |none=>exact h.lb B
   |some k=>simp only[cR,jp,h.lb B]
  cases u.lb with
  |none=>exact this
  |some x=>
   obtain⟨k,n⟩:=x;simp only[iG,cP,this]
 ·show aK (mW d u.ent (u.ls++e'.sl)) B=aK (mW d u.ent (u.ls++e.sl)) B;rw[dm,dm,eP,eP,h.lf B]
section
variable {cx:Cx} {ops:Array Oper} {base:Nat}
def dw(ops:Array Oper)(o:Oper):List Nat:=match o.guard with
 |some (j,_)=>(match (ops[j]?).bind (·.dst)with|some t=>[t]|none=>[])
 |none=>[]
omit [Dr]in
theorem eA{i:Nat}{o:Oper}(ho:ops[i]? = some o):bX ops i=dw ops o++fN o:=by
 unfold bX dw;rw[ho];rfl
omit [Dr]in
theorem eg{e e':Env}{i:Nat}{o:Oper}(ho:ops[i]? = some o)(hg:∀t∈dw ops o,e'.get t=e.get t)(A:Agree cx o e e'){h:Hp}(hr:dF cx base ops i e h≠.fail):dF cx base ops i e' h=dF cx base ops i e h:=by
 unfold dF at hr |-;rw[ho]at hr;rw[ho];simp only at hr |-;have key:∀ {A':Act1->Act1} ,(∀h,cN (A' .bad) h= .fail)->cN (A' (d8 cx e ((base+i)*1000) o)) h≠.fail->cN (A' (d8 cx e' ((base+i)*1000) o)) h=cN (A' (d8 cx e ((base+i)*1000) o)) h:=by
  intro A' h1 h2;rw[uA A];intro hb;rw[hb]at h2;exact h2 (h1 h)
 cases hgd:o.guard with
 |none=>
  rw[hgd]at hr;exact key (A':=id) (fun _=>rfl) hr
 | some g=>
  obtain⟨j,want⟩:=g;rw[hgd]at hr;simp only at hr |-;cases hdj:ct ops j with
  |none=>rfl
  | some t=>
   rw[hdj]at hr;simp only at hr |-;cases hpl:dz cx o with
   |false=>rfl
   | true=>
    rw[hpl]at hr;simp only[El]at hr |-;have ht:e'.get t=e.get t:=hg t (by unfold dw;rw[hgd];simp only;rw[show (ops[j]?).bind (·.dst)=some t from hdj];simp);have hav:e'.av t=e.av t:=by simp only[Env.av,ht]
    rw[hav];cases hq:e.av t with
    | bool b=>
     rw[hq]at hr;simp only[gB]at hr |-;cases hb:(b== want)with
     |false=>rfl
     |true=>
      rw[hb]at hr;exact key (A':=eZ) (fun _=>rfl) hr
    |tup vs=>cases vs<;>rfl
    |_=>rfl
omit [Dr]in
theorem EqE.agree{e e':Env}(h:EqE e e')(o:Oper):Agree cx o e e':=
 ⟨fun t _=>h.get t,fun _=>⟨fun t _=>h.get t,h.lb⟩,fun _=>h.al,fun _ s _ hl=>by rw[h.lf];exact hl⟩
omit [Dr]in
theorem rj{e e':Env}(h:EqE e e')(i:Nat)(x:Hp):RE (stepG cx base ops i e x) (stepG cx base ops i e' x):=by
 unfold stepG;simp only[af,M.pure];cases hr:dF cx base ops i e x with
 |fail=>trivial
 | _=>
  have ho:∃o,ops[i]? = some o:=by
   cases ho:ops[i]? with
   |none=>unfold dF at hr;rw[ho]at hr;cases hr
   |some o=>exact⟨o,rfl⟩
  obtain⟨o,ho⟩:=ho;rw[eg ho (fun t _=>h.get t) (h.agree o) (by rw[hr];simp),hr]
  first
   |exact⟨_,rfl,h.upd _ _⟩
   |exact rfl
omit [Dr]in
theorem RE.bind{m m':M Env}{x x':Hp}(h:RE (m x) (m' x')){f f':Env->M Env}(hf:∀e e' x,EqE e e'->RE (f e x) (f' e' x)):RE (af m f x) (af m' f' x'):=by
 simp only[af];revert h;generalize m x=r;generalize m' x'=r';intro h;cases r with
 |ok e x=>obtain⟨e',rfl,h⟩:=h;exact hf e e' x h
 |pan v x=>cases h;exact rfl
 |fail=>trivial
omit [Dr]in
theorem jG:∀(l:List Nat){e e':Env}(_:EqE e e')(x:Hp),RE (aI cx base ops l e x) (aI cx base ops l e' x)
 |[],e,e',h,x=>⟨e',rfl,h⟩
 |i:: l,e,e',h,x=>by
  exact RE.bind (rj h i x) fun e e' x h=>jG l h x
end
end Go.Av
namespace Go.Av
variable [Dr]
omit [Dr]in
theorem qR{l:List Nat}{t:Nat}(h:t∈l):dL l t=true:=(eQ l t).2 h
omit [Dr]in
theorem jt{l:List Nat}{d:Option Nat}(h:bg l d=false):∀t∈l,d≠some t:=by
 intro t ht hd;rw[hd]at h;simp only[bg]at h;rw[qR ht]at h;cases h
omit [Dr]in
theorem kg{a b:Option Nat}(h:clash a b=false):∀t,a=some t->b≠some t:=by
 intro t ha hb;rw[ha,hb]at h;simp[clash]at h
section
variable {cx:Cx} {ops:Array Oper} {base:Nat} {e:Env}
omit [Dr]in
theorem pC{gid:Nat}{f:Foot}{ss:Option Nat}{u:Upd}(h:Shape e gid f ss u):Shape e gid f ss (eF u):=
 ⟨fun _=>rfl,fun _=>rfl,fun _=>rfl,fun _ x h=>by simp[eF]at h,fun _=>rfl,fun _=>rfl,fun hw C off hh=>h.loc hw C off hh,fun x h=>by simp[eF]at h⟩
omit [Dr]in
theorem sS{p q:Upd->Prop}(hpq:∀u,p u->q (eF u)){A:Act1}(h:bw p A):bw q (eZ A):=by
 cases A with
 |bad=>trivial
 |stat u=>exact hpq _ h
 |dyn m sh=>exact fun v=>hpq _ (h v)
 |thr v=>trivial
omit [Dr]in
theorem xt{p:∀ {α:Type},M α->Prop}{A:Act1}(h:a7 p A):a7 p (eZ A):=by
 cases A<;>exact h
omit [Dr]in
theorem lz{i:Nat}{o:Oper}(ho:ops[i]? = some o){h h':Hp}{u:Upd}(hr:dF cx base ops i e h= .ok u h'):Shape e ((base+i)*1000) (am cx o) (bv o) u:=by
 unfold dF at hr;rw[ho]at hr;simp only at hr;cases hgd:o.guard with
 |none=>rw[hgd]at hr;exact hP (io _ _ _ _) hr
 | some g=>
  obtain⟨j,want⟩:=g;rw[hgd]at hr;simp only at hr;cases hdj:ct ops j with
  |none=>rw[hdj]at hr;cases hr
  | some t=>
   rw[hdj]at hr;simp only at hr;cases hpl:dz cx o with
   |false=>rw[hpl]at hr;cases hr
   | true=>
    rw[hpl]at hr;simp only[El]at hr;have h0:∀ {h h':Hp},(M.pure (Upd.ofV (.tup [])):M Upd) h= .ok u h'->Shape e ((base+i)*1000) (am cx o) (bv o) u:=by
     intro h h' hh;cases hh;exact Shape.ofV ..
    generalize e.av t=q at hr;cases q with
    |bool b=>
     simp only[gB]at hr;cases hb:(b== want)with
     |false=>rw[hb]at hr;exact h0 hr
     |true=>rw[hb]at hr;exact hP (sS (fun u=>pC) (io _ _ _ _)) hr
    |tup vs=>
     cases vs with
     |nil=>exact h0 hr
     |cons v vs=>cases hr
    |_=>cases hr
omit [Dr]in
theorem sY{p:∀ {α:Type},M α->Prop}(h1:∀ {α:Type} (m:M α),aR m->p m)(h2:∀ {α β:Type} (m:M α) (f:α->β),p m->p (af m fun v=>M.pure (f v))){A:Act1}(h:a7 p A):p (cN A):=by
 cases A with
 |bad=>exact h1 _ aR.fail
 |stat u=>exact h1 _ (aR.pure u)
 |dyn m sh=>exact h2 _ _ h
 |thr v=>exact h.elim
omit [Dr]in
theorem f8{p:∀ {α:Type},M α->Prop}(h1:∀ {α:Type} (m:M α),aR m->p m)(h2:∀ {α β:Type} (m:M α) (f:α->β),p m->p (af m fun v=>M.pure (f v))){i:Nat}{o:Oper}(ho:ops[i]? = some o)(h:a7 p (d8 cx e ((base+i)*1000) o)):p (dF cx base ops i e):=by
 unfold dF;rw[ho];simp only;cases hgd:o.guard with
 |none=>exact sY h1 h2 h
 | some g=>
  obtain⟨j,want⟩:=g;simp only;cases hdj:ct ops j with
  |none=>exact h1 _ aR.fail
  | some t=>
   simp only;cases hpl:dz cx o with
   |false=>exact h1 _ aR.fail
   | true=>
    simp only[El];unfold gB;split
    ·rename_i b _;cases hb:(b== want)with
     |false=>exact h1 _ (aR.pure _)
     |true=>exact sY h1 h2 (xt h)
    ·exact h1 _ (aR.pure _)
    ·exact h1 _ aR.fail
structure Small (ops:Array Oper):Prop where
 dst:∀(i:Nat)(o:Oper),ops[i]? = some o->∀t,o.dst=some t->t<1000
 src:∀(i:Nat)(o:Oper),ops[i]? = some o->∀t∈fN o,t<1000
omit [Dr]in
theorem Small.reads(hS:Small ops){i:Nat}{o:Oper}(ho:ops[i]? = some o):∀t∈bX ops i,t<1000:=by
 intro t ht;rw[eA ho,ER]at ht;rcases ht with ht|ht
 ·unfold dw at ht;split at ht
  ·rename_i j _ _;cases hj:ops[j]? with
   |none=>rw[hj]at ht;simp at ht
   |some oj=>
    rw[hj]at ht;simp only[FX]at ht;cases hd:oj.dst with
    |none=>rw[hd]at ht;simp at ht
    |some s=>rw[hd]at ht;simp at ht;rw[ht];exact hS.dst j oj hj s hd
  ·simp at ht
 ·exact hS.src i o ho t ht
omit [Dr]in
theorem ka{gid:Nat}{x:Foot}{ss:Option Nat}{u:Upd}{d:Option Tmp}(hsh:Shape e gid x ss u){t:Nat}(h1:d≠some t)(h2:ss≠some t)(h3:t<1000):(e.upd d u).get t=e.get t:=by
 rw[bC,if_neg h1];refine mo _ fun y hy hyt=>?_;rcases hsh.keys y hy with h|h
 ·omega
 ·exact h2 (by rw[h,hyt])
omit [Dr]in
theorem wz{gid:Nat}{x:Foot}{ss:Option Nat}{u:Upd}{d:Option Tmp}(hsh:Shape e gid x ss u)(hw:x.wl=false){t:Nat}(h1:d≠some t):(e.upd d u).get t=e.get t:=by
 rw[bC,if_neg h1,hsh.ls hw];rfl
omit [Dr]in
theorem nn{gid:Nat}{x:Foot}{ss:Option Nat}{u:Upd}{d:Option Tmp}{o:Oper}(hsh:Shape e gid x ss u)(hd:∀t,d=some t->t<1000)(hops:∀t∈fN o,d≠some t/\ss≠some t/\t<1000)(hloc:((am cx o).rl||(am cx o).wl)=true->x.wl=false)(hal:(am cx o).dr=true->x.ad=false/\x.dr=false):Agree cx o e (e.upd d u):=by
 refine⟨fun t ht=>ka hsh (hops t ht).1 (hops t ht).2.1 (hops t ht).2.2,fun h=>⟨fun t ht=>wz hsh (hloc h) (fun hh=>Nat.not_lt.2 ht (hd t hh)),fun B=>?_⟩,fun h g=>?_,fun h s _ hl=>?_⟩
 ·show aW (iG (cR e.lb u.unlb) u.lb) B=aW e.lb B;rw[hsh.lb (hloc h),hsh.unlb (hloc h)];rfl
 ·show aB (u.add++db e.al u.drop) g=aB e.al g;rw[hsh.noad (hal h).1,hsh.nodr (hal h).2];rfl
 ·have hw:=hloc (by rw[h];simp);show aK (mW d u.ent (u.ls++e.sl)) (aS s)=true;rw[hsh.ls hw,dm,Fi,hl,GK];have:i8 u.ent (aS s)=true:=by
   unfold i8;split
   ·rename_i C off hv;obtain⟨t,off',ht⟩:=hsh.loc hw C off hv
    have:=jq hl ht
    rw[E8,Fz];intro hh;exact this (Eo hh)
   ·rfl
  rw[this,Bool.or_true]
omit [Dr]in
theorem tJ{gid:Nat}{x:Foot}{ss:Option Nat}{u:Upd}{d:Option Tmp}{o:Oper}(hsh:Shape e gid x ss u)(hd:∀t,d=some t->t<1000)(hops:∀t∈fN o,d≠some t/\ss≠some t/\t<1000)(hloc:((am cx o).rl||(am cx o).wl)=true->x.wl=false)(hal:(am cx o).dr=true->x.ad=false/\x.dr=false):Agree cx o (e.upd d u) e:=by
 have A:=nn (cx:=cx) hsh hd hops hloc hal;refine⟨fun t ht=>(A.ops t ht).symm,fun h=>⟨fun t ht=>((A.loc h).1 t ht).symm,fun B=>((A.loc h).2 B).symm⟩,fun h g=>(A.al h g).symm,fun _ s _ hl=>?_⟩;have hl':aK (mW d u.ent (u.ls++e.sl)) (aS s)=true:=hl;rw[dm,eP]at hl';simp only[Em]at hl';exact hl'.2.2
omit [Dr]in
theorem rq{gi gj:Nat}{x y:Foot}{si sj:Option Nat}{u v:Upd}{d f:Option Tmp}(hu:Shape e gi x si u)(hv:Shape e gj y sj v)(hy:y.wl=false)(hf:∀t,f=some t->t<1000)(hdf:∀t,d=some t->f≠some t)(hsf:∀t,si=some t->f≠some t)(hg:gi≠gj)(h1:x.dr=true->y.dr=false/\y.ad=false)(h2:x.ad=true->y.dr=false)(h3:x.ad=true->y.ad=true->x.wl=false):EqE ((e.upd d u).upd f v) ((e.upd f v).upd d u):=by
 have e1:=hv.ls hy;have e2:=hv.lb hy;have e3:=hv.unlb hy;refine⟨fun t=>?_,fun g=>?_,fun B=>?_,fun B=>?_⟩
 ·rw[bC,bC,e1];show (if d=some t then u.ent else bc (u.ls++mW f v.ent (v.ls++e.sl)) t)=if f=some t then v.ent else bc (mW d u.ent (u.ls++e.sl)) t;rw[e1,fU,Fi];by_cases hft:f=some t
  ·rw[Es hft,if_neg (fun h=>hdf t h hft),mo,fU,Es hft];intro z hz hzt;rcases hu.keys z hz with h|h
   ·exact Nat.not_lt.2 h (by rw[hzt];exact hf t hft)
   ·exact hsf z.1 h (by rw[hzt];exact hft)
  ·rw[if_neg hft];split
   ·rfl
   ·exact kO (by rw[fU,if_neg hft])
 ·show aB (u.add++db (v.add++db e.al v.drop) u.drop) g=aB (v.add++db (u.add++db e.al u.drop) v.drop) g;cases hxd:x.dr with
  |true=>
   obtain⟨h4,h5⟩:=h1 hxd;rw[hv.noad h5,hv.nodr h4];rfl
  | false=>
   rw[hu.nodr hxd];cases hxa:x.ad with
   |false=>rw[hu.noad hxa];rfl
   | true=>
    rw[hv.nodr (h2 hxa)];cases hya:y.ad with
    |false=>rw[hv.noad hya];rfl
    |true=>
     have k1:=hu.add (h3 hxa hya);have k2:=hv.add hy;show aB (u.add++(v.add++e.al)) g=aB (v.add++(u.add++e.al)) g;rw[dh,dh,dh,dh];by_cases hgi:g=gi
     ·rw[kv k2 (by omega)]
     ·rw[kv k1 hgi]
 ·show aW (iG (cR (iG (cR e.lb v.unlb) v.lb) u.unlb) u.lb) B=aW (iG (cR (iG (cR e.lb u.unlb) u.lb) v.unlb) v.lb) B;rw[e2,e3];rfl
 ·show aK (mW d u.ent (u.ls++mW f v.ent (v.ls++e.sl))) B=aK (mW f v.ent (v.ls++mW d u.ent (u.ls++e.sl))) B;simp only[dm,eP]
  ac_rfl
end
end Go.Av
namespace Go.Av
variable [Dr]
section
variable {cx:Cx} {ops:Array Oper} {base:Nat}
structure Ind (cx:Cx) (ops:Array Oper) (i j:Nat) (a b:Oper):Prop where
 ha:ops[i]? = some a
 hb:ops[j]? = some b
 piv:(am cx a).piv=false
 l1:(am cx a).wl=true->(am cx b).rl=false/\(am cx b).wl=false
 l2:(am cx a).rl=true->(am cx b).wl=false
 h1:(am cx a).wh=true->(am cx b).rh=false/\(am cx b).wh=false
 h2:(am cx a).rh=true->(am cx b).wh=false\/(am cx b).nw=true
 g1:(am cx a).dr=true->(am cx b).dr=false/\(am cx b).ad=false
 g2:(am cx a).ad=true->(am cx b).dr=false
 g3:(am cx a).ad=true->(am cx b).ad=true->(am cx a).wl=false/\(am cx b).wl=false
 r1:∀t∈bX ops j,a.dst≠some t
 r2:∀t∈bX ops i,b.dst≠some t
 s1:∀t∈bX ops j,bv a≠some t
 s2:∀t∈bX ops i,bv b≠some t
 c1:∀t,bv a=some t->b.dst≠some t
 c2:∀t,a.dst=some t->bv b≠some t
 c3:∀t,a.dst=some t->b.dst≠some t
omit [Dr]in
theorem uk{i j:Nat}(h:jk cx ops i j=true):∃a b,Ind cx ops i j a b:=by
 unfold jk at h;split at h
 ·rename_i a b ha hb;refine⟨a,b,?_⟩;simp only[Em,E8]at h;obtain⟨⟨⟨⟨⟨⟨⟨⟨⟨⟨⟨⟨⟨⟨k1,k2⟩,k3⟩,k4⟩,k5⟩,k6⟩,k7⟩,k8⟩,k9⟩,k10⟩,k11⟩,k12⟩,k13⟩,k14⟩,k15⟩:=h;refine⟨ha,hb,k1,fun q=>?_,fun q=>?_,fun q=>?_,fun q=>?_,fun q=>?_,fun q=>?_,fun q q'=>?_,jt k9,jt k10,jt k11,jt k12,kg k13,kg k14,kg k15⟩
  ·rw[q]at k2;simpa using k2
  ·rw[q]at k3;simpa using k3
  ·rw[q]at k4;simpa using k4
  ·rw[q]at k5;simp only[FA]at k5;cases hb:(am cx b).wh<;>simp_all
  ·rw[q]at k6;simpa using k6
  ·rw[q]at k7;simpa using k7
  ·rw[q,q']at k8;simpa using k8
 ·cases h
omit [Dr]in
theorem swap(hI:IsoPure cx)(hS:Small ops){i j:Nat}(hij:jk cx ops i j=true)(hne:i≠j)(e:Env)(h:Hp):
  RE (af (stepG cx base ops i e) (stepG cx base ops j) h) (af (stepG cx base ops j e) (stepG cx base ops i) h):=by
 obtain⟨a,b,I⟩:=uk hij;have hda:ct ops i=a.dst:=by simp[ct,I.ha]
 have hdb:ct ops j=b.dst:=by simp[ct,I.hb]
 unfold stepG;rw[hda,hdb];simp only[af,M.pure];cases hri:dF cx base ops i e h with
 |fail=>trivial
 |pan v h'=>exact absurd hri (f8 (p:=@da) (fun _ g=>g.read.stay) (fun _ f g=>g.bnd f) I.ha ((dy hI e _ a).stay I.piv) h v h')
 | ok u h1=>
  simp only;have shu:=lz I.ha hri;have hra:=eA (ops:=ops) I.ha;have hrb:=eA (ops:=ops) I.hb;have hbo:∀t∈fN b,a.dst≠some t/\bv a≠some t/\t<1000:=fun t ht=>⟨I.r1 t (by rw[hrb];simp[ht]),I.s1 t (by rw[hrb];simp[ht]),hS.src j b I.hb t ht⟩;have hao:∀t∈fN a,b.dst≠some t/\bv b≠some t/\t<1000:=fun t ht=>⟨I.r2 t (by rw[hra];simp[ht]),I.s2 t (by rw[hra];simp[ht]),hS.src i a I.ha t ht⟩;have Abwd:Agree cx b (e.upd a.dst u) e:=tJ shu (hS.dst i a I.ha) hbo (fun q=>by
   cases hw:(am cx a).wl with
   |false=>rfl
   |true=>obtain⟨q1,q2⟩:=I.l1 hw;rw[q1,q2]at q;cases q) (fun q=>by
   constructor
   ·cases hw:(am cx a).ad with
    |false=>rfl
    |true=>have:=I.g2 hw;rw[this]at q;cases q
   ·cases hw:(am cx a).dr with
    |false=>rfl
    |true=>have:=(I.g1 hw).1;rw[this]at q;cases q)
  have hgb:∀t∈dw ops b,e.get t=(e.upd a.dst u).get t:=fun t ht=>by
   have htr:t∈bX ops j:=by rw[hrb];simp[ht]
   exact (ka shu (I.r1 t htr) (I.s1 t htr) (hS.reads I.hb t htr)).symm
  -- the second, after the first
  cases hrj:dF cx base ops j (e.upd a.dst u) h1 with
  |fail=>trivial
  | pan v h2=>
   have hj:=eg (base:=base) I.hb hgb Abwd (h:=h1) (by rw[hrj];simp);rw[hrj]at hj
   -- j leaves: so it may write, and i did not touch the heap
   have hwb:(am cx b).wh=true:=by
    cases hw:(am cx b).wh with
    |true=>rfl
    |false=>exact absurd hj ((f8 (p:=@cF) (fun _ g=>g.read) (fun _ f g=>g.bnd f) I.hb ((dy hI e _ b).read hw)).stay _ _ _)
   have hwa:(am cx a).wh=false:=by
    cases hw:(am cx a).wh with
    |false=>rfl
    |true=>have:=(I.h1 hw).2;rw[this]at hwb;cases hwb
   have hh:h1=h:=by
    have hR:cF (dF cx base ops i e):=f8 (p:=@cF) (fun _ g=>g.read) (fun _ f g=>g.bnd f) I.ha ((dy hI e _ a).read hwa);rcases hR h with hx|⟨u',hx⟩<;>rw[hri]at hx<;>cases hx;rfl
   subst hh;rw[hj];exact rfl
  | ok v h2=>
   have hj:=eg (base:=base) I.hb hgb Abwd (h:=h1) (by rw[hrj];simp);rw[hrj]at hj;have shv:=lz I.hb hj;have Afwd:Agree cx a e (e.upd b.dst v):=nn shv (hS.dst j b I.hb) hao (fun q=>by
    cases hw:(am cx b).wl with
    |false=>rfl
    | true=>
     exfalso;cases hrl:(am cx a).rl with
     |true=>have:=I.l2 hrl;rw[this]at hw;cases hw
     |false=>
      rw[hrl]at q;have hwl:(am cx a).wl=true:=by simpa using q
      have:=(I.l1 hwl).2
      rw[this]at hw;cases hw) (fun q=>⟨(I.g1 q).2,(I.g1 q).1⟩)
   have hga:∀t∈dw ops a,(e.upd b.dst v).get t=e.get t:=fun t ht=>by
    have htr:t∈bX ops i:=by rw[hra];simp[ht]
    exact ka shv (I.r2 t htr) (I.s2 t htr) (hS.reads I.ha t htr)
   have hcomm:EqE ((e.upd a.dst u).upd b.dst v) ((e.upd b.dst v).upd a.dst u):=by
    have hgij:(base+i)*1000≠(base+j)*1000:=by omega
    cases hwb:(am cx b).wl with
    |false=>
     exact rq shu shv hwb (hS.dst j b I.hb) I.c3 I.c1 hgij I.g1 I.g2 (fun q q'=>(I.g3 q q').1)
    | true=>
     have hwa:(am cx a).wl=false:=by
      cases hw:(am cx a).wl with
      |false=>rfl
      |true=>have:=(I.l1 hw).2;rw[this]at hwb;cases hwb
     refine (rq shv shu hwa (hS.dst i a I.ha) (fun t ht hh=>I.c3 t hh ht) (fun t ht hh=>I.c2 t hh ht) (Hs hgij) (fun q=>⟨?_,?_⟩) (fun q=>?_) (fun q q'=>?_)).symm
     ·cases hw:(am cx a).dr with
      |false=>rfl
      |true=>have:=(I.g1 hw).1;rw[this]at q;cases q
     ·cases hw:(am cx a).ad with
      |false=>rfl
      |true=>have:=I.g2 hw;rw[this]at q;cases q
     ·cases hw:(am cx a).dr with
      |false=>rfl
      |true=>have:=(I.g1 hw).2;rw[this]at q;cases q
     ·have:=(I.g3 q' q).2;rw[this]at hwb;cases hwb
   cases hwa:(am cx a).wh with
   | false=>
    have hR:cF (dF cx base ops i e):=f8 (p:=@cF) (fun _ g=>g.read) (fun _ f g=>g.bnd f) I.ha ((dy hI e _ a).read hwa);have hh:h1=h:=by
     rcases hR h with hx|⟨u',hx⟩<;>rw[hri]at hx<;>cases hx;rfl
    subst hh;rw[hj];simp only;have hi2:dF cx base ops i e h2= .ok u h2:=by
     cases hra':(am cx a).rh with
     |false=>
      obtain⟨q,hq⟩:aR (dF cx base ops i e):=f8 (p:=@aR) (fun _ g=>g) (fun _ f g=>g.bnd f) I.ha ((dy hI e _ a).pure hwa hra');rw[hq]at hri |-;cases q with
      |none=>cases hri
      |some u'=>cases hri;rfl
     | true=>
      rcases I.h2 hra' with hwb|hnw
      case inr=>
       have hNw:rr (dF cx base ops j e):=f8 (p:=@rr) (fun _ g=>g.nw) (fun _ f g=>g.bnd f) I.hb ((dy hI e _ b).nw hnw);have hAp:iv (dF cx base ops i e)/\cF (dF cx base ops i e):=f8 (p:=fun m=>iv m/\cF m) (fun _ g=>⟨g.app,g.read⟩) (fun _ f g=>iv.bnd g f) I.ha ((dy hI e _ a).app hwa);obtain⟨t,rfl⟩:=hNw _ _ _ hj;exact hAp.1 _ t _ hri
      have hRb:cF (dF cx base ops j e):=f8 (p:=@cF) (fun _ g=>g.read) (fun _ f g=>g.bnd f) I.hb ((dy hI e _ b).read hwb);rcases hRb h1 with hx|⟨u',hx⟩<;>rw[hj]at hx<;>cases hx;exact hri
    rw[eg I.ha hga Afwd (by rw[hi2];simp),hi2];exact⟨_,rfl,hcomm⟩
   | true=>
    obtain⟨hrb',hwb⟩:=I.h1 hwa;obtain⟨q,hq⟩:aR (dF cx base ops j e):=f8 (p:=@aR) (fun _ g=>g) (fun _ f g=>g.bnd f) I.hb ((dy hI e _ b).pure hwb hrb');rw[hq]at hj |-;cases q with
    |none=>cases hj
    |some u'=>
     cases hj;simp only[ah];rw[eg I.ha hga Afwd (by rw[hri];simp),hri];exact⟨_,rfl,hcomm⟩
omit [Dr]in
theorem zk(hI:IsoPure cx)(hS:Small ops){i:Nat}(q:List Nat):∀(p:List Nat),(∀x∈p,jk cx ops x i=true/\x≠i)->∀(e:Env)(h:Hp),RE (aI cx base ops (p++i:: q) e h) (aI cx base ops (i:: (p++q)) e h)
 |[],_,e,h=>RE.refl _
 | x:: p,hp,e,h=>by
  have ih:=fun e h=>zk hI hS q p (fun y hy=>hp y (by simp[hy])) e h;have h1:RE (aI cx base ops (x:: (p++i:: q)) e h) (aI cx base ops (x:: i:: (p++q)) e h):=by
   simp only[aI,af]at ih |-;cases stepG cx base ops x e h with
   |ok e' h'=>exact ih e' h'
   |pan v h'=>exact rfl
   |fail=>trivial
  refine h1.trans ?_;have e1:aI cx base ops (x:: i:: (p++q)) e=af (af (stepG cx base ops x e) (stepG cx base ops i)) (aI cx base ops (p++q)):=by rw[eI];rfl
  have e2:aI cx base ops (i:: x:: (p++q)) e=af (af (stepG cx base ops i e) (stepG cx base ops x)) (aI cx base ops (p++q)):=by rw[eI];rfl
  show RE (aI cx base ops (x:: i:: (p++q)) e h) (aI cx base ops (i:: x:: (p++q)) e h);rw[e1,e2];exact RE.bind (swap hI hS (hp x (by simp)).1 (hp x (by simp)).2 e h) fun e e' x h=>jG _ h x
end
end Go.Av
namespace Go.Av
variable [Dr]
omit [Dr]in
theorem xd{a b:Option (Nat×Bool)}(h:tB a b=true):a=b:=by
 unfold tB at h;split at h
 ·rfl
 ·simp only[Em,Fw]at h;rw[Eo h.1,h.2]
 ·cases h
def fa(gs:List (Option (Nat×Bool)×List Nat)):List Nat:=gs.flatMap (·.2)
omit [Dr]in
theorem fJ(ops:Array Oper):∀l:List Nat,fa (cu ops l)=l/\∀g∈cu ops l,∀i∈g.2,guardOf ops i=g.1
 |[]=>⟨rfl,by simp[cu]⟩
 | i :: is=>by
  obtain⟨h1,h2⟩:=fJ ops is;simp only[cu];cases hg:cu ops is with
  |nil=>
   rw[hg]at h1;have:is=[]:=by simpa [fa]using h1.symm
   subst this;exact⟨rfl,by simp⟩
  | cons x r=>
   obtain⟨g,js⟩:=x;rw[hg]at h1 h2;simp only;cases hs:tB (guardOf ops i) g with
   | true=>
    refine⟨?_,fun y hy=>?_⟩
    ·simp only[El,fa,Gh,EZ]at h1 |-;rw[h1]
    ·simp only[El,EB]at hy;rcases hy with rfl|hy
     ·intro k hk;simp only[EB]at hk;rcases hk with rfl|hk
      ·exact xd hs
      ·exact h2 (g,js) (by simp) k hk
     ·exact h2 y (by simp[hy])
   | false=>
    refine⟨?_,fun y hy=>?_⟩
    ·simp only[Ep,fa,Gh,EZ,Fi]at h1 |-;rw[h1]
    ·simp only[Ep,EB]at hy;rcases hy with rfl|rfl|hy
     ·intro k hk;simp only[Gz]at hk;subst hk;rfl
     ·exact h2 (g,js) (by simp)
     ·exact h2 y (by simp[hy])
omit [Dr]in
theorem qg{ρ:Type}(e:Env)(d:Option Tmp)(A:Act1)(k:Env->M ρ):jc e d A k=af (cN A) fun u=>k (e.upd d u):=by
 cases A with
 |bad=>rfl
 |stat u=>rfl
 |dyn m sh=>simp only[jc,cN,eI,aT]
 |thr v=>rfl
omit [Dr]in
theorem tP{α β:Type}{m:M α}{f g:α->M β}{h:Hp}(hfg:∀u h',m h= .ok u h'->f u h'=g u h'):af m f h=af m g h:=by
 simp only[af];cases hm:m h with
 |ok u h'=>exact hfg u h' hm
 |pan v h'=>rfl
 |fail=>rfl
section
variable {cx:Cx} {ops:Array Oper} {base:Nat}
omit [Dr]in
theorem tI{i:Nat}{o:Oper}(ho:ops[i]? = some o)(hg:guardOf ops i=none)(e:Env):dF cx base ops i e=cN (d8 cx e ((base+i)*1000) o):=by
 have:o.guard=none:=by simpa [guardOf,ho]using hg
 unfold dF;rw[ho];simp only;rw[this]
omit [Dr]in
theorem jQ{i j t:Nat}{want:Bool}{o:Oper}(ho:ops[i]? = some o)(hg:guardOf ops i=some (j,want))(hj:ct ops j=some t)(hp:dz cx o=true)(e:Env):
  dF cx base ops i e=gB (e.av t) want (cN (eZ (d8 cx e ((base+i)*1000) o))):=by
 have:o.guard=some (j,want):=by simpa [guardOf,ho]using hg
 unfold dF;rw[ho];simp only;rw[this];simp only;rw[hj];simp only;rw[hp];rfl
omit [Dr]in
theorem q6{ρ:Type}:∀(is:List Nat)(e:Env)(k:Env->M ρ)(_:∀i∈is,guardOf ops i=none),fH cx base ops false is e k=af (aI cx base ops is e) k
 |[],e,k,_=>rfl
 | i:: is,e,k,hg=>by
  simp only[fH,aI];unfold stepG;cases ho:ops[i]? with
  |none=>unfold dF;rw[ho];rfl
  |some o=>
   simp only;rw[qg,tI ho (hg i (by simp)),eI,eI];have hd:ct ops i=o.dst:=by simp[ct,ho]
   rw[hd];congr 1;funext u;simp only[aT];exact q6 is _ k fun j hj=>hg j (by simp[hj])
structure Turned (ds:List Nat) (e e':Env):Prop where
 get:∀t,t ∉ ds->e'.get t=e.get t
 al:e'.al=e.al
 lb:e'.lb=e.lb
 lf:∀B,aK e.sl B=true->aK e'.sl B=true
 ng:∀t∈ds,(e'.get t).g=none
omit [Dr]in
theorem Turned.step{ds:List Nat}{e e':Env}(H:Turned ds e e'){u:Upd}{d:Option Nat}(hls:u.ls=[])(hadd:u.add=[])(hdrop:u.drop=none)(hlb:u.lb=none)(hunlb:u.unlb=none)(hg:u.ent.g=none)(hloc:∀C off,u.ent.v= .loc C off->∃t off',(e'.get t).v= .loc C off'):Turned (d.toList++ds) e (e'.upd d u):=by
 have hget:∀t,(e'.upd d u).get t=if d=some t then u.ent else e'.get t:=fun t=>by rw[bC,hls];rfl
 refine⟨fun t ht=>?_,?_,?_,fun B hB=>?_,fun t ht=>?_⟩
 ·simp only[ER,not_or,Gi]at ht;rw[hget,if_neg ht.1];exact H.get t ht.2
 ·show u.add++db e'.al u.drop=e.al;rw[hadd,hdrop];exact H.al
 ·show iG (cR e'.lb u.unlb) u.lb=e.lb;rw[hlb,hunlb];exact H.lb
 ·have h1:=H.lf B hB;show aK (mW d u.ent (u.ls++e'.sl)) B=true;rw[hls,dm,Fi,h1,GK];have:i8 u.ent B=true:=by
   unfold i8;split
   ·rename_i C off hv;obtain⟨t,off',ht⟩:=hloc C off hv
    have:=jq h1 ht
    rw[E8,Fz];intro hh;exact this (Eo hh)
   ·rfl
  rw[this,Bool.or_true]
 ·rw[hget];split
  ·exact hg
  ·rename_i hd;simp only[ER,Gi]at ht;rcases ht with ht|ht
   ·exact absurd ht hd
   ·exact H.ng t ht
omit [Dr]in
theorem Turned.refl(e:Env):Turned [] e e:=⟨fun _ _=>rfl,rfl,rfl,fun _ h=>h,fun t h=>by simp at h⟩
omit [Dr]in
theorem Turned.sub{ds ds':List Nat}{e e':Env}(H:Turned ds e e')(h:∀t,t∈ds↔t∈ds'):Turned ds' e e':=
 ⟨fun t ht=>H.get t fun hh=>ht ((h t).1 hh),H.al,H.lb,H.lf,fun t ht=>H.ng t ((h t).2 ht)⟩
structure GroupOk (cx:Cx) (ops:Array Oper) (j:Nat) (want:Bool) (t:Nat) (is:List Nat):Prop where
 hj:ct ops j=some t
 each:∀i∈is,∃o,ops[i]? = some o/\guardOf ops i=some (j,want)/\dz cx o=true
 nt:t ∉ bJ ops is
omit [Dr]in
theorem fG(i:Nat)(is:List Nat):∀t,t∈bJ ops (i:: is)↔ct ops i=some t\/t∈bJ ops is:=by
 intro t;unfold bJ;simp only[GC,EB,exists_eq_or_imp]
omit [Dr]in
theorem GroupOk.tail{j:Nat}{want:Bool}{t i:Nat}{is:List Nat}(G:GroupOk cx ops j want t (i:: is)):GroupOk cx ops j want t is:=
 ⟨G.hj,fun k hk=>G.each k (by simp[hk]),fun h=>G.nt ((fG i is t).2 (.inr h))⟩
omit [Dr]in
theorem GroupOk.ne{j:Nat}{want:Bool}{t i:Nat}{is:List Nat}(G:GroupOk cx ops j want t (i:: is)):ct ops i≠some t:=fun h=>G.nt ((fG i is t).2 (.inl h))
omit [Dr]in
theorem gz{A:Act1}{h h':Hp}{u:Upd}(hr:cN (eZ A) h= .ok u h'):∃u0,cN A h= .ok u0 h'/\u=eF u0:=by
 rw[ku]at hr;cases hx:cN A h<;>rw[hx]at hr<;>simp at hr;exact⟨_,by rw[hr.2],hr.1.symm⟩
omit [Dr]in
theorem ov{ρ:Type}{j:Nat}{want:Bool}{t:Nat}:∀(is:List Nat)(e:Env)(k:Env->M ρ)(h:Hp),GroupOk cx ops j want t is->e.av t= .bool want->fH cx base ops true is e k h=af (aI cx base ops is e) k h
 |[],e,k,h,_,_=>rfl
 |i:: is,e,k,h,G,hc=>by
  obtain⟨o,ho,hg,hp⟩:=G.each i (by simp);have hd:ct ops i=o.dst:=by simp[ct,ho]
  simp only[fH,aI,ho,El];rw[qg];unfold stepG;rw[jQ ho hg G.hj hp,hc,eI,eI];simp only[gB,Gc,El,aT,hd];refine tP fun u h' hu=>?_;obtain⟨u0,hu0,rfl⟩:=gz hu;refine ov is _ k h' G.tail ?_;have:(e.upd o.dst (eF u0)).get t=e.get t:=by rw[bC,if_neg (by rw[<- hd];exact G.ne)];rfl
  simp only[Env.av,this];exact hc
omit [Dr]in
theorem jL{j:Nat}{want:Bool}{t:Nat}:∀(is:List Nat)(e e':Env)(h h':Hp),GroupOk cx ops j want t is->e.av t= .bool want->aI cx base ops is e h= .ok e' h'->Turned (bJ ops is) e e':=by
 have key:∀(is:List Nat)(e0 e e':Env)(ds:List Nat)(h h':Hp),GroupOk cx ops j want t is->e.av t= .bool want->Turned ds e0 e->aI cx base ops is e h= .ok e' h'->Turned (bJ ops is++ds) e0 e':=by
  intro is
  induction is with
  |nil=>
   intro e0 e e' ds h h' _ _ H hr;cases hr;exact H
  | cons i is ih=>
   intro e0 e e' ds h h' G hc H hr;obtain⟨o,ho,hg,hp⟩:=G.each i (by simp);have hd:ct ops i=o.dst:=by simp[ct,ho]
   simp only[aI]at hr;unfold stepG at hr;rw[jQ ho hg G.hj hp,hc,eI]at hr;simp only[gB,Gc,El,hd,af]at hr;cases hx:cN (eZ (d8 cx e ((base+i)*1000) o)) h with
   |fail=>rw[hx]at hr;cases hr
   |pan v hh=>rw[hx]at hr;cases hr
   | ok u hh=>
    rw[hx]at hr;simp only at hr;obtain⟨u0,hu0,rfl⟩:=gz hx;have hsh:=hP (io cx e ((base+i)*1000) o) hu0;simp only[dz,Em,E8]at hp;have H2:=H.step (u:=eF u0) (d:=o.dst) rfl rfl rfl rfl rfl rfl (hsh.loc hp.1);refine (ih e0 _ e' _ hh h' G.tail ?_ H2 hr).sub fun s=>?_
    ·have:(e.upd o.dst (eF u0)).get t=e.get t:=by rw[bC,if_neg (by rw[<- hd];exact G.ne)];rfl
     simp only[Env.av,this];exact hc
    ·simp only[ER,fG,Gi,hd];constructor
     ·rintro (h|h|h)
      ·exact .inl (.inr h)
      ·exact .inl (.inl h)
      ·exact .inr h
     ·rintro ((h|h)|h)
      ·exact .inr (.inl h)
      ·exact .inl h
      ·exact .inr (.inr h)
 intro is e e' h h' G hc hr;exact (key is e e e' [] h h' G hc (.refl e) hr).sub (by simp)
def Off(c:AV)(want:Bool):Prop:=c= .tup []\/∃b,c= .bool b/\(b== want)=false
omit [Dr]in
theorem Off.look{c:AV}{want:Bool}(h:Off c want)(m:M Upd):gB c want m=M.pure (.ofV (.tup [])):=by
 rcases h with rfl|⟨b,rfl,hb⟩
 ·rfl
 ·simp only[gB,hb,Ep]
omit [Dr]in
theorem yE{j:Nat}{want:Bool}{t:Nat}:∀(is:List Nat)(e:Env)(h:Hp),GroupOk cx ops j want t is->Off (e.av t) want->∃e',aI cx base ops is e h= .ok e' h/\Turned (bJ ops is) e e'/\∀s∈bJ ops is,e'.get s=⟨.val (.tup []),none⟩:=by
 have key:∀(is:List Nat)(e0 e:Env)(ds:List Nat)(h:Hp),GroupOk cx ops j want t is->Off (e.av t) want->Turned ds e0 e->(∀s∈ds,e.get s=⟨.val (.tup []),none⟩)->
   ∃e',aI cx base ops is e h= .ok e' h/\Turned (bJ ops is++ds) e0 e'/\∀s∈bJ ops is++ds,e'.get s=⟨.val (.tup []),none⟩:=by
  intro is
  induction is with
  |nil=>exact fun e0 e ds h _ _ H hds=>⟨e,rfl,H,hds⟩
  | cons i is ih=>
   intro e0 e ds h G hc H hds;obtain⟨o,ho,hg,hp⟩:=G.each i (by simp);have hd:ct ops i=o.dst:=by simp[ct,ho]
   have hget:∀s,(e.upd o.dst (.ofV (.tup []))).get s=if o.dst=some s then⟨.val (.tup []),none⟩else e.get s:=fun s=>by rw[bC];rfl
   have H2:=H.step (u:=.ofV (.tup [])) (d:=o.dst) rfl rfl rfl rfl rfl rfl (fun C off hh=>by cases hh);have hav:(e.upd o.dst (.ofV (.tup []))).av t=e.av t:=by
    have:(e.upd o.dst (.ofV (.tup []))).get t=e.get t:=by rw[hget,if_neg (by rw[<- hd];exact G.ne)]
    simp only[Env.av,this]
   obtain⟨e',h1,h2,h3⟩:=ih e0 (e.upd o.dst (.ofV (.tup []))) (o.dst.toList++ds) h G.tail (by rw[hav];exact hc) H2 (fun s hs=>by
    rw[hget];split
    ·rfl
    ·rename_i hn;simp only[ER,Gi]at hs;rcases hs with hs|hs
     ·exact absurd hs hn
     ·exact hds s hs)
   have hiff:∀s,s∈bJ ops is++(o.dst.toList++ds)↔s∈bJ ops (i:: is)++ds:=fun s=>by
    simp only[ER,fG,Gi,hd];constructor
    ·rintro (h|h|h)
     ·exact .inl (.inr h)
     ·exact .inl (.inl h)
     ·exact .inr h
    ·rintro ((h|h)|h)
     ·exact .inr (.inl h)
     ·exact .inl h
     ·exact .inr (.inr h)
   refine⟨e',?_,h2.sub hiff,fun s hs=>h3 s ((hiff s).2 hs)⟩;simp only[aI];unfold stepG;rw[jQ ho hg G.hj hp,hc.look,hd];exact h1
 intro is e h G hc;obtain⟨e',h1,h2,h3⟩:=key is e e [] h G hc (.refl e) (by simp);exact⟨e',h1,h2.sub (by simp),fun s hs=>h3 s (by simp[hs])⟩
end
end Go.Av
namespace Go.Av
variable [Dr]
section
variable {cx:Cx} {ops:Array Oper} {base:Nat}
structure Rel (ops:Array Oper) (L:List Nat) (e2 e:Env):Prop where
 get:∀t,e2.get t=e.get t\/(e2.get t=Ent.none/\t<1000/\∀i∈L,t ∉ bX ops i)
 al:∀g,aB e2.al g=aB e.al g
 lb:∀B,aW e2.lb B=aW e.lb B
 lf:∀B,aK e2.sl B=true->aK e.sl B=true
omit [Dr]in
theorem Rel.refl(ops:Array Oper)(L:List Nat)(e:Env):Rel ops L e e:=⟨fun _=>.inl rfl,fun _=>rfl,fun _=>rfl,fun _ h=>h⟩
omit [Dr]in
theorem Rel.sub{L L':List Nat}{e2 e:Env}(H:Rel ops L e2 e)(h:∀i∈L',i∈L):Rel ops L' e2 e:=
 ⟨fun t=>(H.get t).imp id fun⟨h1,h2,h3⟩=>⟨h1,h2,fun i hi=>h3 i (h i hi)⟩,H.al,H.lb,H.lf⟩
omit [Dr]in
theorem Rel.read{L:List Nat}{e2 e:Env}(H:Rel ops L e2 e){i t:Nat}(hi:i∈L)(ht:t∈bX ops i):e.get t=e2.get t:=by
 rcases H.get t with h|⟨_,_,h⟩
 ·exact h.symm
 ·exact absurd ht (h i hi)
omit [Dr]in
theorem Rel.agree{L:List Nat}{e2 e:Env}(H:Rel ops L e2 e){i:Nat}{o:Oper}(hi:i∈L)(ho:ops[i]? = some o):Agree cx o e2 e:=by
 refine⟨fun t ht=>H.read hi (by rw[eA ho];simp[ht]),fun _=>⟨fun t ht=>?_,fun B=>(H.lb B).symm⟩,fun _ g=>(H.al g).symm,fun _ s _ hl=>H.lf _ hl⟩;rcases H.get t with h|⟨_,h,_⟩
 ·exact h.symm
 ·omega
omit [Dr]in
theorem Rel.upd{L:List Nat}{e2 e:Env}(H:Rel ops L e2 e)(d:Option Tmp)(u:Upd):Rel ops L (e2.upd d u) (e.upd d u):=by
 refine⟨fun t=>?_,fun g=>?_,fun B=>?_,fun B hB=>?_⟩
 ·rw[bC,bC];split
  ·exact .inl rfl
  ·rw[fT,fT];split
   ·exact .inl rfl
   ·exact H.get t
 ·show aB (u.add++db e2.al u.drop) g=aB (u.add++db e.al u.drop) g;have:aB (db e2.al u.drop) g=aB (db e.al u.drop) g:=by
   cases u.drop with
   |none=>exact H.al g
   |some k=>simp only[db,gK,H.al g]
  rw[dh,dh,this]
 ·show aW (iG (cR e2.lb u.unlb) u.lb) B=aW (iG (cR e.lb u.unlb) u.lb) B;have:aW (cR e2.lb u.unlb) B=aW (cR e.lb u.unlb) B:=by
   cases u.unlb with
   |none=>exact H.lb B
   |some k=>simp only[cR,jp,H.lb B]
  cases u.lb with
  |none=>exact this
  |some x=>
   obtain⟨k,n⟩:=x;simp only[iG,cP,this]
 ·have hB':aK (mW d u.ent (u.ls++e2.sl)) B=true:=hB;show aK (mW d u.ent (u.ls++e.sl)) B=true;rw[dm,eP]at hB' |-;simp only[Em]at hB' |-;exact⟨hB'.1,hB'.2.1,H.lf B hB'.2.2⟩
omit [Dr]in
theorem Rel.run:∀(is:List Nat){L:List Nat}{e2 e:Env}(_:Rel ops L e2 e)(_:∀i∈is,i∈L)(h:Hp),aI cx base ops is e2 h≠.fail->
  (∃e2' e' h',aI cx base ops is e2 h= .ok e2' h'/\aI cx base ops is e h= .ok e' h'/\Rel ops L e2' e')\/∃v h',aI cx base ops is e2 h= .pan v h'/\aI cx base ops is e h= .pan v h'
 |[],L,e2,e,H,_,h,_=>.inl ⟨e2,e,h,rfl,rfl,H⟩
 | i:: is,L,e2,e,H,hL,h,hr=>by
  simp only[aI]at hr |-;unfold stepG at hr |-;simp only[af,M.pure]at hr |-;cases hx:dF cx base ops i e2 h with
  |fail=>rw[hx]at hr;exact absurd rfl hr
  | _ =>
   have ho:∃o,ops[i]? = some o:=by
    cases ho:ops[i]? with
    |none=>unfold dF at hx;rw[ho]at hx;cases hx
    |some o=>exact⟨o,rfl⟩
   obtain⟨o,ho⟩:=ho;have hi:=hL i (by simp);have hy:dF cx base ops i e h=dF cx base ops i e2 h:=eg ho (fun t ht=>H.read hi (by rw[eA ho];simp[ht])) (H.agree hi ho) (by rw[hx];simp);rw[hy,hx]
   first
    | rw[hx]at hr
      exact Rel.run is (H.upd _ _) (fun k hk=>hL k (by simp[hk])) _ hr
    |exact .inr ⟨_,_,rfl,rfl⟩
omit [Dr]in
theorem lW(e:Env):∀(ds:List Nat)(t:Nat),(forget e ds).get t=if t∈ds then Ent.none else e.get t
 |[],t=>by simp[forget]
 | d:: ds,t=>by
  show bc ((d,Ent.none):: (forget e ds).sl) t=_;rw[bn];by_cases hd:d=t
  ·subst hd;simp
  ·rw[if_neg hd]
   have:=lW e ds t
   simp only[Env.get]at this;rw[this];have hd':¬t=d:=fun h=>hd h.symm;simp[hd',Env.get]
omit [Dr]in
theorem kL(e:Env):∀(ds:List Nat),(forget e ds).al=e.al/\(forget e ds).lb=e.lb/\∀B,aK (forget e ds).sl B=aK e.sl B
 |[]=>⟨rfl,rfl,fun _=>rfl⟩
 |_d:: ds=>kL e ds
omit [Dr]in
theorem kV(e:Env)(f:Nat->AV):∀(outs:List Nat)(pre:List AV)(t:Nat),(ea e (pre++outs.map f) pre.length outs).get t=if t∈outs then⟨.val (f t),none⟩else e.get t
 |[],pre,t=>by simp[ea]
 | d:: ds,pre,t=>by
  show bc ((d,⟨.val (nth (pre++(d:: ds).map f) pre.length),none⟩):: (ea e (pre++(d:: ds).map f) (pre.length+1) ds).sl) t=_;rw[bn];have hn:nth (pre++(d:: ds).map f) pre.length=f d:=by simp[nth]
  by_cases hd:d=t
  ·subst hd;rw[hn];simp
  ·rw[if_neg hd]
   have:=kV e f ds (pre++[f d]) t
   simp only[FG,EV,EG,EH,List.singleton_append]at this;simp only[Env.get,EN]at this |-;rw[this];have hd':¬t=d:=fun h=>hd h.symm;simp[hd']
omit [Dr]in
theorem jH(e:Env)(vs:List AV):∀(outs:List Nat)(i:Nat),(ea e vs i outs).al=e.al/\(ea e vs i outs).lb=e.lb/\∀B,aK (ea e vs i outs).sl B=aK e.sl B
 |[],_i=>⟨rfl,rfl,fun _=>rfl⟩
 |_d:: ds,i=>jH e vs ds (i+1)
omit [Dr]in
theorem sW(gs:List (Option (Nat×Bool)×List Nat))(t:Nat):sV ops gs t=true↔∃i∈fa gs,t∈bX ops i:=by
 unfold sV fa;simp only[List.any_eq_true,List.mem_flatMap,eQ];constructor
 ·rintro⟨g,hg,i,hi,ht⟩;exact⟨i,⟨g,hg,hi⟩,ht⟩
 ·rintro⟨i,⟨g,hg,hi⟩,ht⟩;exact⟨g,hg,i,hi,ht⟩
omit [Dr]in
theorem Rel.close{is:List Nat}{gs:List (Option (Nat×Bool)×List Nat)}{e2 e e':Env}(H:Rel ops (is++fa gs) e2 e)(hS:Small ops)(T:Turned (bJ ops is) e e'){vs:List AV}{f:Nat->AV}(hvs:vs=(cm ops is gs).map f)(hf:∀t∈cm ops is gs,e'.get t=⟨.val (f t),none⟩\/(f t= .any/\t<1000/\∀i∈fa gs,t ∉ bX ops i)):Rel ops (fa gs) (ea (forget e2 (bJ ops is)) vs 0 (cm ops is gs)) e':=by
 have hr:=jH (forget e2 (bJ ops is)) vs (cm ops is gs) 0;have hr2:=kL e2 (bJ ops is);refine⟨fun t=>?_,fun g=>?_,fun B=>?_,fun B hB=>?_⟩
 ·have hg:=kV (forget e2 (bJ ops is)) f (cm ops is gs) [] t;simp only[Fi,EH]at hg;rw[hvs,hg];split
  ·rename_i ht;rcases hf t ht with h|⟨h1,h2,h3⟩
   ·exact .inl h.symm
   ·exact .inr ⟨by rw[h1];rfl,h2,h3⟩
  ·rename_i ht;rw[lW];split
   ·rename_i hd;refine .inr ⟨rfl,?_,fun i hi hti=>ht ?_⟩
    ·unfold bJ at hd;simp only[GC]at hd;obtain⟨i,hi,hd⟩:=hd;unfold ct at hd;cases hoi:ops[i]? with
     |none=>rw[hoi]at hd;simp at hd
     |some o=>rw[hoi]at hd;exact hS.dst i o hoi t hd
    ·unfold cm;rw[F5];exact⟨hd,(sW gs t).2 ⟨i,hi,hti⟩⟩
   ·rename_i hd;rw[T.get t hd];rcases H.get t with h|⟨h1,h2,h3⟩
    ·exact .inl h
    ·exact .inr ⟨h1,h2,fun i hi=>h3 i (by simp[hi])⟩
 ·rw[hr.1,hr2.1,T.al];exact H.al g
 ·rw[hr.2.1,hr2.2.1,T.lb];exact H.lb B
 ·rw[hr.2.2,hr2.2.2]at hB;exact T.lf B (H.lf B hB)
omit [Dr]in
theorem mJ(l m:List Nat):∀e:Env,aI cx base ops (l++m) e=af (aI cx base ops l e) (aI cx base ops m):=by
 induction l with
 |nil=>intro e;rfl
 |cons i l ih=>
  intro e;show af (stepG cx base ops i e) (aI cx base ops (l++m))=af (af (stepG cx base ops i e) (aI cx base ops l)) (aI cx base ops m);rw[eI];congr 1;funext e';exact ih e'
omit [Dr]in
theorem yh{x:Ent}(h1:iO x=true)(h2:x.g=none):x=⟨.val x.av,none⟩:=by
 obtain⟨v,g⟩:=x;cases v with
 |val a=>simp only at h2;subst h2;rfl
 |loc B off=>cases h1
omit [Dr]in
theorem fS{ρ:Type}(hS:Small ops):∀(gs:List (Option (Nat×Bool)×List Nat))(e2 e:Env)(k:Env->M ρ)(h:Hp),(∀g∈gs,∀i∈g.2,guardOf ops i=g.1)->Rel ops (fa gs) e2 e->cS cx base ops gs e2 k h≠.fail->
  (∃e2' e' h',cS cx base ops gs e2 k h=k e2' h'/\aI cx base ops (fa gs) e h= .ok e' h'/\Rel ops [] e2' e')\/∃v h',cS cx base ops gs e2 k h= .pan v h'/\aI cx base ops (fa gs) e h= .pan v h'
 |[],e2,e,k,h,_,H,_=>.inl ⟨e2,e,h,rfl,rfl,H⟩
 | (none,is):: gs,e2,e,k,h,hg,H,hr=>by
  have hg0:∀i∈is,guardOf ops i=none:=hg (none,is) (by simp);have hfl:fa ((none,is):: gs)=is++fa gs:=rfl;rw[hfl]at H |-;rw[mJ];simp only[cS]at hr |-;rw[q6 is e2 _ hg0]at hr |-;simp only[af]at hr |-;have hr2:aI cx base ops is e2 h≠.fail:=fun hf=>by rw[hf]at hr;exact hr rfl
  rcases H.run (base:=base) (cx:=cx) is (fun i hi=>by simp[hi]) h hr2 with⟨e2',e',h',h1,h2,H'⟩|⟨v,h',h1,h2⟩
  ·rw[h1]at hr |-;rw[h2];exact fS hS gs e2' e' k h' (fun g hgg=>hg g (by simp[hgg])) (H'.sub fun i hi=>by simp[hi]) hr
  ·rw[h1,h2];exact .inr ⟨v,h',rfl,rfl⟩
 | (some (j,want),is):: gs,e2,e,k,h,hg,H,hr=>by
  have hg0:∀i∈is,guardOf ops i=some (j,want):=hg (some (j,want),is) (by simp);have hfl:fa ((some (j,want),is):: gs)=is++fa gs:=rfl;rw[hfl]at H |-;rw[mJ];simp only[cS]at hr |-;cases hdj:ct ops j with
  |none=>rw[hdj]at hr;exact absurd rfl hr
  | some t=>
   rw[hdj]at hr;simp only at hr |-;revert hr;cases hc:((is.all fun i=>match ops[i]? with|some o=>dz cx o&&o.dst.isSome|none=>false)&&!(dL (bJ ops is) t))with
   |false=>intro hr;exact absurd rfl hr
   | true=>
    intro hr;simp only[El]at hr |-;simp only[Em,E8,Et]at hc;have G:GroupOk cx ops j want t is:=by
     refine⟨hdj,fun i hi=>?_,fun ht=>?_⟩
     ·have:=hc.1 i hi
      cases hoi:ops[i]? with
      |none=>rw[hoi]at this;cases this
      |some o=>
       rw[hoi]at this;simp only[Em]at this;exact⟨o,rfl,hg0 i hi,this.1⟩
     ·rw[(eQ _ _).2 ht]at hc;exact Bool.noConfusion hc.2
    have htr:∀i∈is,t∈bX ops i:=fun i hi=>by
     obtain⟨o,ho,hgi,_⟩:=G.each i hi;rw[eA ho];have:o.guard=some (j,want):=by simpa [guardOf,ho]using hgi
     have:t∈dw ops o:=by
      unfold dw;rw[this];simp only;rw[show (ops[j]?).bind (·.dst)=some t from hdj];simp
     simp[this]
    -- the guard says yes
    cases is with
    | nil=>
     have hrn:∀e,aI cx base ops [] e=M.pure e:=fun _=>rfl;rw[hrn,aT];have ho:cm ops [] gs=[]:=rfl;have hd:bJ ops []=[]:=rfl;rw[ho,hd]at hr |-;have hpure:∀ {q:AV} {m:M (List AV)},m h= .ok [] h->ao q want ([]:List Nat).length m h≠.fail->ao q want ([]:List Nat).length m h= .ok [] h:=by
      intro q m hm hne;cases q with
      |bool b=>
       simp only[ao];cases b== want with
       |true=>exact hm
       |false=>rfl
      |tup vs=>
       cases vs with
       |nil=>rfl
       |cons v vs=>exact absurd rfl hne
      |_=>exact absurd rfl hne
     simp only[af]at hr |-;have hp:=hpure (q:=e2.av t) (m:=fH cx base ops true [] e2 fun e'=>bif ([]:List Nat).all (fun t=>iO (e'.get t))then M.pure (([]:List Nat).map e'.av)else M.fail) rfl (fun hf=>by rw[hf]at hr;exact hr rfl);rw[hp]at hr |-;exact fS hS gs e2 e k h (fun g hgg=>hg g (by simp[hgg])) (H.sub fun i hi=>by simp[hi]) hr
    |cons i0 is0=>
    have hav:e.av t=e2.av t:=by
     have:=H.read (i:=i0) (by simp) (htr i0 (by simp))
     simp only[Env.av,this]
    generalize hiseq:i0:: is0=is at *;have hoff:Off (e2.av t) want->(ao (e2.av t) want (cm ops is gs).length (fH cx base ops true is e2 fun e'=>bif (cm ops is gs).all (fun t=>iO (e'.get t))then M.pure ((cm ops is gs).map e'.av)else M.fail))=M.pure (List.replicate (cm ops is gs).length (.tup [])):=by
     rintro (hq|⟨b,hq,hb⟩)
     ·rw[hq];rfl
     ·rw[hq];simp only[ao,hb,Ep]
    have hcase:Off (e2.av t) want\/e2.av t= .bool want:=by
     cases hq:e2.av t with
     |bool b=>
      cases hb:(b== want)with
      |true=>right;simp at hb;rw[hb]
      |false=>exact .inl (.inr ⟨b,rfl,hb⟩)
     |tup vs=>
      cases vs with
      |nil=>exact .inl (.inl rfl)
      |cons v vs=>rw[hq]at hr;exact absurd rfl hr
     |_=>rw[hq]at hr;exact absurd rfl hr
    rcases hcase with ho|hy
    ·rw[hoff ho,aT]at hr |-;obtain⟨e',h1,T,h2⟩:=yE (base:=base) is e h G (by rw[hav];exact ho);simp only[af];rw[h1];refine fS hS gs _ e' k h (fun g hgg=>hg g (by simp[hgg])) (H.close hS T (f:=fun _=>.tup []) ?_ fun s hs=>.inl ?_) hr
     ·exact (List.map_const' ..).symm
     ·refine h2 s ?_;unfold cm at hs;exact (F5.1 hs).1
    ·rw[hy]at hr |-;simp only[ao,Gc,El,af]at hr |-;rw[ov is e2 _ h G hy]at hr |-;simp only[af]at hr |-;have hr2:aI cx base ops is e2 h≠.fail:=fun hf=>by rw[hf]at hr;exact hr rfl
     rcases H.run (base:=base) (cx:=cx) is (fun i hi=>by simp[hi]) h hr2 with⟨e2',e',h',h1,h2,H'⟩|⟨v,h',h1,h2⟩
     ·rw[h1]at hr |-;rw[h2];simp only at hr |-;have T2:=jL is e2 e2' h h' G hy h1;have T:=jL is e e' h h' G (by rw[hav];exact hy) h2;cases hv:(cm ops is gs).all (fun t=>iO (e2'.get t))with
      |false=>rw[hv]at hr;exact absurd rfl hr
      |true=>
       rw[hv]at hr;simp only[El,M.pure]at hr |-;refine fS hS gs _ e' k h' (fun g hgg=>hg g (by simp[hgg])) (H.close hS T (f:=e2'.av) rfl fun s hs=>?_) hr;have hsd:s∈bJ ops is:=by unfold cm at hs;exact (F5.1 hs).1
       have hval:=yh (Et.1 hv s hs) (T2.ng s hsd);rcases H'.get s with h3|⟨h3,h4,h5⟩
       ·left;rw[<- h3];exact hval
       ·right;exact⟨by simp only[Env.av,h3];rfl,h4,fun i hi=>h5 i (by simp[hi])⟩
     ·rw[h1,h2];exact .inr ⟨v,h',rfl,rfl⟩
end
end Go.Av
namespace Go.Av
variable [Dr]
omit [Dr]in
theorem gh(acc:List Nat):∀(es:List Edge)(x:Nat),(fK acc es).testBit x=true↔∃e∈es,Region.binds .any e=true/\(e.on=x\/(acc.getD e.on 0).testBit x=true)
 |[],x=>by simp[fK]
 | e :: es,x=>by
  simp only[fK];cases hb:Region.binds .any e with
  | false=>
   simp only[Ep,gh acc es x,EB];constructor
   ·rintro⟨e',he,h⟩;exact⟨e',.inr he,h⟩
   ·rintro⟨e',rfl|he,h⟩
    ·rw[hb]at h;exact absurd h.1 (by simp)
    ·exact⟨e',he,h⟩
  | true=>
   simp only[El,Nat.testBit_or,Ft,gh acc es x,EB,Nat.testBit_two_pow,Ew];constructor
   ·rintro ((⟨e',he,h⟩|h)|h)
    ·exact⟨e',.inr he,h⟩
    ·exact⟨e,.inl rfl,hb,.inl h⟩
    ·exact⟨e,.inl rfl,hb,.inr h⟩
   ·rintro⟨e',rfl|he,h1,h2⟩
    ·rcases h2 with h2|h2
     ·exact .inl (.inr h2)
     ·exact .inr h2
    ·exact .inl (.inl ⟨e',he,h1,h2⟩)
omit [Dr]in
theorem ny:∀(os:List Oper)(acc:List Nat),∃r:List Nat,rG os acc=acc++r/\r.length=os.length/\∀(k:Nat)(o:Oper),os[k]? = some o->r[k]? = some (fK (acc++r.take k) o.after.toList)
 |[],acc=>⟨[],by simp[rG],rfl,by simp⟩
 | o:: os,acc=>by
  obtain⟨r,h1,h2,h3⟩:=ny os (acc++[fK acc o.after.toList]);refine⟨fK acc o.after.toList:: r,by simp[rG,h1],by simp[h2],fun k o' ho=>?_⟩;cases k with
  |zero=>simp at ho;subst ho;simp
  |succ k=>
   simp only[Hl,EX]at ho |-;rw[h3 k o' ho];simp
section
variable {ops:Array Oper}
def gM(ops:Array Oper):List Nat:=rG ops.toList []
omit [Dr]in
theorem vK{j:Nat}{o:Oper}(ho:ops[j]? = some o):(gM ops).length=ops.size/\(gM ops).getD j 0=fK ((gM ops).take j) o.after.toList:=by
 obtain⟨r,h1,h2,h3⟩:=ny ops.toList [];have h4:gM ops=r:=by unfold gM;rw[h1];simp
 rw[h4];refine⟨by simp[h2],?_⟩
 have:=h3 j o (by simpa using ho)
 rw[E3,this];simp
omit [Dr]in
theorem tO{listed:Nat->Prop}(hcl:∀(j:Nat)(o:Oper),ops[j]? = some o->listed j->∀e∈o.after.toList,Region.binds .any e=true->listed e.on):
  ∀(j:Nat)(o:Oper),ops[j]? = some o->(∀e∈o.after.toList,Region.binds .any e=true->listed e.on)->∀x,((gM ops).getD j 0).testBit x=true->listed x:=by
 intro j
 induction j using Nat.strongRecOn with
 | _ j ih=>
  intro o ho hl x hx;obtain⟨hlen,hget⟩:=vK ho;rw[hget,gh]at hx;obtain⟨e,he,hb,hx|hx⟩:=hx
  ·rw[<- hx];exact hl e he hb
  ·by_cases hj:e.on<j
   ·have hjs:j<ops.size:=(EQ.1 ho).1;have hos:ops[e.on]? = some ops[e.on]:=EO (by omega);have h1:((gM ops).take j).getD e.on 0=(gM ops).getD e.on 0:=by
     rw[E3,E3,Ev,Es hj]
    rw[h1]at hx;exact ih e.on hj _ hos (hcl e.on _ hos (hl e he hb)) x hx
   ·rw[E3,Ev,if_neg hj]at hx;simp at hx
def uQ(cx:Cx)(ops:Array Oper)(i j:Nat):Prop:=((gM ops).getD i 0).testBit j=false/\(((gM ops).getD j 0).testBit i=true\/jk cx ops i j=true)
omit [Dr]in
theorem kR{cx:Cx}:∀ {l:List Nat},gt cx ops (gM ops) l=true->l.Pairwise (uQ cx ops)/\∀i∈l,((gM ops).getD i 0).testBit i=false
 |[],_=>⟨.nil,by simp⟩
 |i:: l,h=>by
  simp only[gt,Em,E8,Et,Ft]at h;obtain⟨⟨h1,h2⟩,h3⟩:=h;obtain⟨h4,h5⟩:=kR h3;refine⟨.cons (fun j hj=>h2 j hj) h4,fun k hk=>?_⟩;simp only[EB]at hk;rcases hk with rfl|hk
  ·exact h1
  ·exact h5 k hk
omit [Dr]in
theorem gR:∀ {l:List Nat},distinct l=true->l.Nodup
 |[],_=>.nil
 |i:: l,h=>by
  simp only[distinct,Em,E8]at h;refine FQ.2 ⟨fun hi=>?_,gR h.2⟩;rw[(eQ _ _).2 hi]at h;exact Bool.noConfusion h.1
variable {P:Program} {cx:Cx} {c:Entry} {N base:Nat}
theorem qd(hT:TOK P cx.T)(hC:bN P cx.own cx.call)(hI:IsoPure cx)(hO:OpsOk N cx ops)(hS:Small ops)(hbit:∀i x,((gM ops).getD i 0).testBit x=true->x<ops.size)(hself:∀i,i<ops.size->((gM ops).getD i 0).testBit i=false){Q:Exit->Act->World->Prop}:∀(n:Nat)(rest:List Nat)(listed:Array Bool)(D:List Nat)(e:Env)(h:Hp)(a:Act)(w:World),rest.length=n->listed.size=ops.size->rest.Nodup->
  (∀i,i∈rest↔i<ops.size/\listed.getD i true=false)->(∀i∈rest,i ∉ D)->(∀i∈D,i<ops.size)->
  (∀(j:Nat)(o:Oper),ops[j]? = some o->listed.getD j false=true->∀e∈o.after.toList,Region.binds .any e=true->listed.getD e.on false=true)->rest.Pairwise (uQ cx ops)->
  de c N (UD base D) e h a w->aI cx base ops rest e h≠.fail->
  (∀e0 e' h' a' w',aI cx base ops rest e h= .ok e0 h'->EqE e0 e'->de c N (UR base ops.size) e' h' a' w'->a'.defers=a.defers->Q .normal a' w')->
  (∀pv h' v w' a',aI cx base ops rest e h= .pan pv h'->iE c pv h' v w'->a'.defers=a.defers->Q (.panic [{ v,recovered:=false }]) a' w')->wpAny P .any ops Q n listed a w
 |0,rest,listed,D,e,h,a,w,hlen,hsz,hnd,hmem,hdis,hD,hcl,hpw,H,hr,hn,hp=>by
  have:rest=[]:=EK hlen;subst this;refine⟨?_,hn e e h a w rfl (.refl e) (H.wider (yQ hD)) rfl⟩;refine List.eq_nil_iff_forall_not_mem.2 fun i hi=>?_;obtain⟨h0,o,ho,_⟩:=mem_ready.1 hi
  have:=(hmem i).2 ⟨(EQ.1 ho).1,h0⟩
  simp at this
 | n + 1,rest,listed,D,e,h,a,w,hlen,hsz,hnd,hmem,hdis,hD,hcl,hpw,H,hr,hn,hp=>by
  have hgd:∀i,i<ops.size->listed.getD i true=listed.getD i false:=fun i hi=>by
   rw[EM,EM,EO (by omega)];rfl
  refine⟨fun hemp=>?_,fun i hi=>?_⟩
  ·exfalso;cases rest with
   |nil=>simp at hlen
   | cons r0 tl=>
    have hr0:=(hmem r0).1 (by simp);have hor:ops[r0]? = some ops[r0]:=EO hr0.1;have:r0∈Region.ready .any ops listed:=by
     refine mem_ready.2 ⟨hr0.2,_,hor,fun ed hed hb=>?_⟩;have hbt:((gM ops).getD r0 0).testBit ed.on=true:=by
      rw[(vK hor).2,gh];exact⟨ed,by simpa using hed,hb,.inl rfl⟩
     have hlt:=hbit r0 ed.on hbt;cases hl:listed.getD ed.on false with
     |true=>rfl
     | false=>
      have hin:=(hmem ed.on).2 ⟨hlt,by rw[hgd _ hlt];exact hl⟩;simp only[EB]at hin;rcases hin with hin|hin
      ·rw[hin]at hbt;rw[hself r0 hr0.1]at hbt;cases hbt
      ·have:=(FB.1 hpw).1 ed.on hin
       rw[this.1]at hbt;cases hbt
    rw[hemp]at this;simp at this
  ·obtain⟨h0,o,ho,hall⟩:=mem_ready.1 hi;have hlt:i<ops.size:=(EQ.1 ho).1;have hin:=(hmem i).2 ⟨hlt,h0⟩;obtain⟨p,q,rfl⟩:=List.append_of_mem hin;have hnd':=hnd;rw[List.nodup_append]at hnd';have hni:i ∉ p++q:=by
    intro hm;rw[ER]at hm;rcases hm with hm|hm
    ·exact hnd'.2.2 i hm i (by simp) rfl
    ·exact (FQ.1 hnd'.2.1).1 hm
   have hclo:=tO (ops:=ops) (listed:=fun j=>listed.getD j false=true) (fun j o ho hj ed hed hb=>hcl j o ho hj ed hed hb) i o ho (fun ed hed hb=>hall ed (by simpa using hed) hb);have hfront:∀x∈p,jk cx ops x i=true/\x≠i:=by
    intro x hx;have hpr:=(List.pairwise_append.1 hpw).2.2 x hx i (by simp);refine⟨?_,fun hxi=>hni (by rw[<- hxi];simp[hx])⟩;rcases hpr.2 with h1|h1
    ·have hxl:=hclo x h1;have hxr:=(hmem x).1 (by simp[hx]);rw[hgd x hxr.1]at hxr;rw[hxr.2]at hxl;cases hxl
    ·exact h1
   have hRE:=zk (base:=base) hI hS q p hfront e h;have hr':aI cx base ops (i:: (p++q)) e h≠.fail:=by
    intro hf;rw[hf]at hRE;cases hx:aI cx base ops (p++i:: q) e h with
    |fail=>exact hr hx
    |ok e0 h0=>rw[hx]at hRE;obtain⟨_,h1,_⟩:=hRE;cases h1
    |pan v h0=>rw[hx]at hRE;cases hRE
   simp only[aI,af]at hr';have hstep:∀ {r:R Env},aI cx base ops (i:: (p++q)) e h=r->aI cx base ops (i:: (p++q)) e h=r:=fun h=>h;simp only[aI,af]at hRE;refine mO hT hC hO (hdis i hin) H (fun hf=>by rw[hf]at hr';exact hr' rfl) (fun e1 h1 a1 w1 hst hs hdf=>?_) (fun pv h1 v w1 hst hps=>?_)
   ·rw [hst]at hr' hRE;simp only at hr' hRE;refine qd hT hC hI hO hS hbit hself n (p++q) (listed.setIfInBounds i true) (i:: D) e1 h1 a1 w1 ?_ (by simp[hsz]) ?_ (fun k=>?_) (fun k hk=>?_) (fun k hk=>?_) (fun k o' ho' hk ed hed hb=>?_) ?_ hs hr' (fun e0 e' h' a' w' hok heq hsat hdf'=>?_) (fun pv h' v w' a' hok hps hdf'=>?_)
    ·simp only[EV,EG]at hlen |-;omega
    ·exact hnd.sublist (GX (G8 p) (GJ i q))
    ·have hset:k≠i->(listed.setIfInBounds i true).getD k true=listed.getD k true:=fun hk=>by
      rw[EM,EM,Gd (Hs hk)]
     constructor
     ·intro hk;have hki:k≠i:=fun h=>hni (h▸hk);rw[hset hki];exact (hmem k).1 (by
       simp only[ER,EB]at hk |-;rcases hk with hk|hk
       ·exact .inl hk
       ·exact .inr (.inr hk))
     ·rintro⟨h1,h2⟩;have hki:k≠i:=by
       rintro rfl;rw[EM,Array.getElem?_setIfInBounds_self]at h2;rw[Es (by omega)]at h2;simp at h2
      rw[hset hki]at h2
      have:=(hmem k).2 ⟨h1,h2⟩
      simp only[ER,EB]at this |-;rcases this with h|h|h
      ·exact .inl h
      ·exact absurd h hki
      ·exact .inr h
    ·simp only[EB,not_or];refine⟨fun hki=>hni (hki▸hk),hdis k ?_⟩;simp only[ER,EB]at hk |-;rcases hk with hk|hk
     ·exact .inl hk
     ·exact .inr (.inr hk)
    ·simp only[EB]at hk;rcases hk with rfl|hk
     ·exact hlt
     ·exact hD k hk
    ·have hmono:∀x,listed.getD x false=true->(listed.setIfInBounds i true).getD x false=true:=fun x hx=>getD_set_true hx;by_cases hki:k=i
     ·subst hki;rw[ho]at ho';cases ho';exact hmono _ (hall ed (by simpa using hed) hb)
     ·refine hmono _ (hcl k o' ho' ?_ ed hed hb);rw[EM,Gd (Hs hki),<- EM]at hk;exact hk
    ·exact hpw.sublist (GX (G8 p) (GJ i q))
    ·rw[hok]at hRE;cases hx:aI cx base ops (p++i:: q) e h with
     |fail=>exact absurd hx hr
     |ok ex hx'=>
      rw[hx]at hRE;obtain⟨e0',h2,h3⟩:=hRE;cases h2;exact hn ex e' _ a' w' hx (h3.trans heq) hsat (hdf'.trans hdf)
     |pan v h0=>rw[hx]at hRE;cases hRE
    ·rw[hok]at hRE;cases hx:aI cx base ops (p++i:: q) e h with
     |fail=>exact absurd hx hr
     |ok ex hx'=>rw[hx]at hRE;obtain⟨_,h1,_⟩:=hRE;cases h1
     |pan v0 h0=>
      rw[hx]at hRE;cases hRE;exact hp _ _ v w' a' hx hps (hdf'.trans hdf)
   ·rw[hst]at hRE;cases hx:aI cx base ops (p++i:: q) e h with
    |fail=>exact absurd hx hr
    |ok ex hx'=>rw[hx]at hRE;obtain⟨_,h1,_⟩:=hRE;cases h1
    |pan v0 h0=>
     rw[hx]at hRE;cases hRE;exact hp _ _ v w1 a hx hps rfl
end
end Go.Av
namespace Go.Av
variable [Dr]
structure IsoCall (cx:Cx):Prop where
 iso:∀f args,cx.iso f=true->∃x:Option (Bool×AV),∀h,cx.call f args h=(match x with|none=>.fail|some (true,v)=>.ok v h|some (false,v)=>.pan v h)
 nw:∀f args,cx.nw f=true->rr (cx.call f args)
omit [Dr]in
theorem IsoCall.draw{cx:Cx}(h:IsoCall cx):IsoPure (dE cx):=by
 refine⟨?_,fun f args hf=>?_⟩
 case refine_2=>
  have hn:=h.nw f args hf;show rr (bif cx.iso f then cK (cx.call f args)else cx.call f args);cases cx.iso f with
  |false=>exact hn
  |true=>
   intro hp v h' hh;simp only[El,cK]at hh;cases hq:cx.call f args hp with
   |ok a b=>rw[hq]at hh;cases hh;exact hn _ _ _ hq
   |pan a b=>rw[hq]at hh;cases hh
   |fail=>rw[hq]at hh;cases hh
 intro f args hf;have hf':cx.iso f=true:=hf;obtain⟨x,hx⟩:=h.iso f args hf';refine⟨match x with|some (true,v)=>some v|_=>none,?_⟩;show (bif cx.iso f then cK (cx.call f args)else cx.call f args)=_;rw[hf'];funext hp;simp only[El,cK,hx];rcases x with _|⟨b,v⟩
 ·rfl
 ·cases b<;>rfl
theorem bN.draw{P:Program}{cx:Cx}(h:bN P cx.own cx.call):bN P (dE cx).own (dE cx).call:=by
 intro f args hp S β w vs hr hg hw hh hv;have hcall:(dE cx).call f args hp=(bif cx.iso f then cK (cx.call f args) hp else cx.call f args hp):=by
  show (bif cx.iso f then cK (cx.call f args)else cx.call f args) hp=_;cases cx.iso f<;>rfl
 rw[hcall]at hr |-
 have key:∀r,r=cx.call f args hp->r≠.fail->Calls P f vs.toArray w (cM ((dE cx).own f) S β hp w r)/\(P.funcs[f]?).any (fun fn=>fn.body.isSome&&!(fn.name== "runtime.NumGoroutine"))=true:=by
  intro r hr1 hr2;subst hr1;exact h f args hp S β w vs hr2 hg hw hh hv
 cases hi:cx.iso f with
 |false=>rw[hi]at hr;exact key _ rfl hr
 |true=>
  rw[hi]at hr;simp only[El,cK]at hr |-;cases hx:cx.call f args hp with
  |ok v hq=>rw[hx]at hr;exact key _ hx.symm (by simp)
  |pan v hq=>rw[hx]at hr;exact absurd rfl hr
  |fail=>rw[hx]at hr;exact absurd rfl hr
def gF(c:Entry)(N:Nat)(e:Env)(h:Hp)(a:Act)(w:World):Prop:=de c N (fun g=>g<e.nx*1000) e h a w
theorem de.rel{c:Entry}{N:Nat}{U:Nat->Prop}{e2 e:Env}{h:Hp}{a:Act}{w:World}{ops:Array Oper}(H:de c N U e h a w)(R:Rel ops [] e2 e):de c N U e2 h a w:=by
 obtain⟨S,β,γ,lam,ω,F⟩:=H;refine⟨S,β,γ,lam,ω,F.weak (fun t=>?_) (fun t g hg=>?_) (fun g z hz=>by rw[R.al]at hz;exact hz) (fun B n hB=>by rw[R.lb]at hB;exact hB)⟩
 ·rcases R.get t with h|⟨h1,h2,_⟩
  ·exact .inl (by rw[h])
  ·exact .inr ⟨by rw[h1];rfl,h2⟩
 ·rcases R.get t with h|⟨h1,_⟩
  ·rw[h]at hg;exact hg
  ·rw[h1]at hg;cases hg
theorem de.eqE{c:Entry}{N:Nat}{U:Nat->Prop}{e2 e:Env}{h:Hp}{a:Act}{w:World}(H:de c N U e h a w)(R:EqE e e2):de c N U e2 h a w:=by
 obtain⟨S,β,γ,lam,ω,F⟩:=H;exact⟨S,β,γ,lam,ω,F.weak (fun t=>.inl (by rw[R.get])) (fun t g hg=>by rw[R.get]at hg;exact hg) (fun g z hz=>by rw[R.al]at hz;exact hz) (fun B n hB=>by rw[R.lb]at hB;exact hB)⟩
theorem de.nx{c:Entry}{N:Nat}{U:Nat->Prop}{e:Env}{h:Hp}{a:Act}{w:World}(n:Nat)(H:de c N U e h a w):de c N U { e with nx:=n } h a w:=by
 obtain⟨S,β,γ,lam,ω,F⟩:=H;exact⟨S,β,γ,lam,ω,F.weak (fun t=>.inl rfl) (fun t g hg=>hg) (fun g z hz=>hz) (fun B n hB=>hB)⟩
section
variable {P:Program} {cx:Cx} {c:Entry} {e:Env} {h:Hp} {a:Act} {w:World} {ops:Array Oper} {id:Nat}
omit [Dr]in
theorem m5{n:Nat}(hn:n<=1000)(hd:fQ n ops=true)(hk:∀p,um (bu cx.ann.kinds p .L)=true->p<n):OpsOk n cx ops/\Small ops:=by
 unfold fQ at hd;rw[Array.all_eq_true_iff_forall_mem]at hd;have h1:∀(i:Nat)(o:Oper),ops[i]? = some o->(∀t,o.dst=some t->t<n)/\∀t∈fN o,t<1000:=by
  intro i o ho
  have:=hd o (Array.mem_of_getElem? ho)
  simp only[Em,Et,Ew]at this;refine⟨fun t ht=>?_,this.2⟩;have h2:=this.1;rw[ht]at h2;simpa using h2
 refine⟨⟨fun i o ho=>(h1 i o ho).1,fun i o ho x hx t hxt=>(h1 i o ho).2 t ?_,hk⟩,⟨fun i o ho t ht=>EW ((h1 i o ho).1 t ht) hn,fun i o ho=>(h1 i o ho).2⟩⟩;subst hxt;exact GC.2 ⟨_,hx,rfl⟩
theorem uC{ρ:Type}(hT:TOK P cx.T)(hC:bN P cx.own cx.call)(hI:IsoCall cx)(hk:∀p,um (bu cx.ann.kinds p .L)=true->p<cx.nt){draw:Bool}{k:Env->M ρ}(H:gF c cx.nt e h a w)(hr:kE cx id ops draw e k h≠.fail){Q:Exit->Act->World->Prop}(hn:∀e' h' a' w',kE cx id ops draw e k h=k e' h'->gF c cx.nt e' h' a' w'->a'.defers=a.defers->Q .normal a' w')(hp:∀pv h' v w' a',kE cx id ops draw e k h= .pan pv h'->iE c pv h' v w'->a'.defers=a.defers->Q (.panic [{ v,recovered:=false }]) a' w'):
  (Code.region id ops draw).wp P Q a w:=by
 have hN:cx.nt<=1000:=by obtain⟨S,β,γ,lam,ω,F⟩:=H;exact F.tsz.2
 have H0:de c cx.nt (UD e.nx []) e h a w:=H.wider fun g hg=>.inl hg;unfold kE at hr hn hp;cases hds:fQ cx.nt ops with
 |false=>rw[hds]at hr;exact absurd rfl hr
 | true=>
  obtain⟨hO,hS⟩:=m5 (cx:=cx) hN hds hk;rw[hds]at hr hn hp;simp only[El]at hr hn hp;cases draw with
  | false=>
   simp only[Ep]at hr hn hp;obtain⟨hfl,hgs⟩:=fJ ops (List.range ops.size);refine wp_region (oz hT hC hO (List.range ops.size) [] e h a w List.nodup_range (by simp) H0 ?_ ?_ ?_)
   all_goals
    have hseq:=fS (cx:=cx) (base:=e.nx) hS (cu ops (List.range ops.size)) e e _ h hgs (.refl ops _ e) hr;rw[hfl]at hseq
   ·rcases hseq with⟨_,_,_,_,h2,_⟩|⟨_,_,_,h2⟩<;>rw[h2]<;>simp
   ·intro e' h' a' w' hok hsat hdf;rcases hseq with⟨e2',e'',h'',h1,h2,hR⟩|⟨_,_,_,h2⟩
    ·rw[h2]at hok;cases hok;refine hn _ _ a' w' h1 (de.nx _ ((hsat.wider (yQ ?_)).rel hR)) hdf;intro i hi;simpa using hi
    ·rw[h2]at hok;cases hok
   ·intro pv h' v w' a' hok hps hdf;rcases hseq with⟨e2',e'',h'',h1,h2,hR⟩|⟨_,_,h1,h2⟩
    ·rw[h2]at hok;cases hok
    ·rw[h2]at hok;cases hok;exact hp _ _ v w' a' h1 hps hdf
  | true=>
   simp only[El]at hr hn hp;generalize oq cx id ops.size=ord at hr hn hp;cases hdo:iL cx ops ord with
   |false=>rw[hdo]at hr;exact absurd rfl hr
   | true=>
    rw[hdo]at hr hn hp;simp only[El]at hr hn hp;simp only[iL,wW,Em,Et,Ew]at hdo;obtain⟨⟨⟨⟨⟨hlen,hmem⟩,hdist⟩,hlt⟩,hbits⟩,hpairs⟩:=hdo;have hlen':ord.length=ops.size:=Eo hlen;obtain⟨hpw,hself⟩:=kR (cx:=cx) (ops:=ops) hpairs;have hpw':ord.Pairwise (uQ (dE cx) ops):=hpw;have hO':OpsOk cx.nt (dE cx) ops:=⟨hO.dst,hO.src,hO.kin⟩;obtain⟨hfl,hgs⟩:=fJ ops ord;have hseq:=fS (cx:=dE cx) (base:=e.nx) hS (cu ops ord) e e _ h hgs (.refl ops _ e) hr;rw[hfl]at hseq;refine wp_region_draw fun t=>?_;have hsch:Region.schedule (P.follows .mixedOrders) ops t=Region.linearise .any ops t:=by
     simp only[Region.schedule,hT.mix,Bool.true_or,E4]
    rw[hsch];have hmem':∀i,i∈ord↔i<ops.size:=fun i=>⟨fun hi=>hlt i hi,fun hi=>(eQ _ _).1 (hmem i (by simpa using hi))⟩;refine wpAny_sound ops.size t _ a _ (qd (cx:=dE cx) (c:=c) (N:=cx.nt) (base:=e.nx) hT hC.draw hI.draw hO' hS ?_ ?_ ops.size ord (Array.replicate ops.size false) [] e h a w.drew hlen' (by simp) (gR hdist) ?_ (by simp) (by simp) ?_ hpw' ?_ ?_ ?_ ?_)
    ·intro i x hx;rcases EC x ops.size with h'|h'
     ·exact h'
     ·have hm:(gM ops).getD i 0<2 ^ ops.size:=by
       rw[E3];cases hi:(gM ops)[i]? with
       |none=>simp;exact Nat.pow_pos (by omega)
       |some m=>exact hbits m (FC hi)
      rw[Nat.testBit_lt_two_pow (EW hm (Nat.pow_le_pow_right (by omega) h'))]at hx;cases hx
    ·exact fun i hi=>hself i ((hmem' i).2 hi)
    ·intro i;rw[hmem'];constructor
     ·intro hi;refine⟨hi,?_⟩;rw[EM,Hh,Es hi];rfl
     ·exact fun hi=>hi.1
    ·intro j o ho hj;exfalso;rw[EM,Hh]at hj;split at hj<;>simp at hj
    ·obtain⟨S,β,γ,lam,ω,F⟩:=H0;exact⟨S,β,γ,lam,ω,F.drew⟩
    ·rcases hseq with⟨_,_,_,_,h2,_⟩|⟨_,_,_,h2⟩<;>rw[h2]<;>simp
    ·intro e0 e' h' a' w' hok heq hsat hdf;rcases hseq with⟨e2',e'',h'',h1,h2,hR⟩|⟨_,_,_,h2⟩
     ·rw[h2]at hok;cases hok;exact hn _ _ a' w' h1 (de.nx _ ((hsat.eqE heq.symm).rel hR)) hdf
     ·rw[h2]at hok;cases hok
    ·intro pv h' v w' a' hok hps hdf;rcases hseq with⟨e2',e'',h'',h1,h2,hR⟩|⟨_,_,h1,h2⟩
     ·rw[h2]at hok;cases hok
     ·rw[h2]at hok;cases hok;exact hp _ _ v w' a' h1 hps hdf
end
end Go.Av
namespace Go.Av
variable [Dr]
omit [Dr]in
theorem gq{e:Env}:∀(l:List (Nat×Option Nat))(used:List Nat)(vs:List AV),eS e l used=some vs->vs.length=l.length/\
  (∀(i:Nat)(t:Nat)(z:Option Nat),l[i]? = some (t,z)->∃a,vs[i]? = some a/\(e.get t).v= .val a/\∀sz,z=some sz->∃g z0,(e.get t).g=some g/\aB e.al g=some z0/\(z0=none\/z0=some sz)/\g ∉ used)/\
  ∀(i j:Nat)(t t' sz sz':Nat),i<j->l[i]? = some (t,some sz)->l[j]? = some (t',some sz')->(e.get t).g≠(e.get t').g
 |[],used,vs,h=>by
  simp only[eS,Ek]at h;subst h;exact⟨rfl,by simp,by simp⟩
 | (t,none):: r,used,vs,h=>by
  simp only[eS]at h;split at h
  ·rename_i a ha;split at h
   ·rename_i vs' hvs;simp only[Ek]at h;subst h;obtain⟨h1,h2,h3⟩:=gq r used vs' hvs;refine⟨by simp[h1],fun i t' z hi=>?_,fun i j t1 t2 sz1 sz2 hij hi hj=>?_⟩
    ·cases i with
     |zero=>
      simp only[EP,Ek,E7]at hi;obtain⟨rfl,rfl⟩:=hi;exact⟨a,rfl,ha,fun sz hsz=>by cases hsz⟩
     |succ i=>simpa using h2 i t' z (by simpa using hi)
    ·cases i with
     |zero=>simp at hi
     |succ i=>
      cases j with
      |zero=>omega
      |succ j=>exact h3 i j t1 t2 sz1 sz2 (by omega) (by simpa using hi) (by simpa using hj)
   ·cases h
  ·cases h
 | (t, some sz):: r,used,vs,h=>by
  simp only[eS]at h;split at h
  ·rename_i a g ha hg;split at h
   ·cases h
   ·rename_i z0 hz0;have hcond:pE z0 (some sz)=true/\dL used g=false/\(match eS e r (g:: used)with|some vs=>some (a:: vs)|none=>none)=some vs:=by
     cases hm:dL used g with
     | true=>
      rw[hm]at h;cases z0 with
      |none=>cases h
      |some n=>
       simp only at h;cases hb:Nat.beq n sz<;>rw[hb]at h<;>cases h
     | false=>
      rw[hm]at h;cases z0 with
      |none=>exact⟨rfl,rfl,h⟩
      |some n=>
       simp only at h;cases hb:Nat.beq n sz with
       |true=>rw[hb]at h;exact⟨hb,rfl,h⟩
       |false=>rw[hb]at h;cases h
    obtain⟨hc1,hc2,h⟩:=hcond;have hc:=And.intro hc1 hc2
    ·split at h
     ·rename_i vs' hvs;simp only[Ek]at h;subst h;have hgu:g ∉ used:=fun hm=>by
       rw[(eQ _ _).2 hm]at hc;exact Bool.noConfusion hc.2
      have hz:z0=none\/z0=some sz:=by
       cases z0 with
       |none=>exact .inl rfl
       |some n=>exact .inr (by rw[Eo hc.1])
      obtain⟨h1,h2,h3⟩:=gq r (g:: used) vs' hvs;refine⟨by simp[h1],fun i t' z hi=>?_,fun i j t1 t2 sz1 sz2 hij hi hj=>?_⟩
      ·cases i with
       |zero=>
        simp only[EP,Ek,E7]at hi;obtain⟨rfl,rfl⟩:=hi;exact⟨a,rfl,ha,fun sz' hsz=>by cases hsz;exact⟨g,z0,hg,hz0,hz,hgu⟩⟩
       |succ i=>
        obtain⟨a',k1,k2,k3⟩:=h2 i t' z (by simpa using hi);refine⟨a',by simpa using k1,k2,fun sz' hsz=>?_⟩;obtain⟨g',z',m1,m2,m3,m4⟩:=k3 sz' hsz;exact⟨g',z',m1,m2,m3,fun hm=>m4 (by simp[hm])⟩
      ·cases i with
       | zero=>
        cases j with
        |zero=>omega
        |succ j=>
         simp only[EP,Ek,E7]at hi;obtain⟨rfl,_⟩:=hi;obtain⟨a',k1,k2,k3⟩:=h2 j t2 (some sz2) (by simpa using hj);obtain⟨g',z',m1,m2,m3,m4⟩:=k3 sz2 rfl;rw[hg,m1];intro hh;simp only[Ek]at hh;exact m4 (by simp[hh])
       |succ i=>
        cases j with
        |zero=>omega
        |succ j=>exact h3 i j t1 t2 sz1 sz2 (by omega) (by simpa using hi) (by simpa using hj)
     ·cases h
  ·cases h
omit [Dr]in
theorem gE(vs:List AV)(r:List (Nat×Ent))(t:Nat):∀(l:List (Nat×Option Nat))(k:Nat),
  (∃(i:Nat)(z:Option Nat),l[i]? = some (t,z)/\bc (bF vs k l++r) t=⟨.val (nth vs (k+i)),z.map fun _=>k+i⟩)\/
  ((∀(i:Nat)(z:Option Nat),l[i]? ≠some (t,z))/\bc (bF vs k l++r) t=bc r t)
 |[],k=>.inr ⟨by simp,rfl⟩
 | (s,z):: l,k=>by
  have hh:bF vs k ((s,z):: l)=(s,⟨.val (nth vs k),z.map fun _=>k⟩):: bF vs (k+1) l:=by cases z<;>rfl
  rw[hh,EZ,bn];by_cases hs:s=t
  ·subst hs;rw[Es rfl];exact .inl ⟨0,z,rfl,rfl⟩
  ·rw[if_neg hs];rcases gE vs r t l (k+1)with⟨i,z',h1,h2⟩|⟨h1,h2⟩
   ·refine .inl ⟨i+1,z',by simpa using h1,?_⟩;rw[h2,show k+1+i=k+(i+1) by omega]
   ·refine .inr ⟨fun i z' hi=>?_,h2⟩;cases i with
    |zero=>simp at hi;exact hs hi.1
    |succ i=>exact h1 i z' (by simpa using hi)
omit [Dr]in
theorem eK:∀(l:List (Nat×Option Nat))(k g:Nat)(y:Option Nat),aB (f5 k l) g=some y->∃(i t sz:Nat),l[i]? = some (t,some sz)/\g=k+i/\y=some sz
 |[],k,g,y,h=>by simp[f5,aB]at h
 |(s,none):: l,k,g,y,h=>by
  obtain⟨i,t,sz,h1,h2,h3⟩:=eK l (k+1) g y h;exact⟨i+1,t,sz,by simpa using h1,by omega,h3⟩
 | (s,some n):: l,k,g,y,h=>by
  simp only[f5,be]at h;split at h
  ·rename_i hk;simp only[Ek]at h;exact⟨0,s,n,rfl,by omega,h.symm⟩
  ·obtain⟨i,t,sz,h1,h2,h3⟩:=eK l (k+1) g y h;exact⟨i+1,t,sz,by simpa using h1,by omega,h3⟩
omit [Dr]in
theorem kf(t:Nat):∀(l:List (Nat×Nat×Nat)),(∃B off,(t,B,off)∈l/\bc (l.map fun x=>(x.1,(⟨.loc x.2.1 x.2.2,none⟩:Ent))) t=⟨.loc B off,none⟩)\/bc (l.map fun x=>(x.1,(⟨.loc x.2.1 x.2.2,none⟩:Ent))) t=Ent.none
 |[]=>.inr rfl
 | (s,B,off):: l=>by
  rw[EN,bn];by_cases hs:s=t
  ·subst hs;rw[Es rfl];exact .inl ⟨B,off,by simp,rfl⟩
  ·rw[if_neg hs];rcases kf t l with⟨B',off',h1,h2⟩|h
   ·exact .inl ⟨B',off',by simp[h1],h2⟩
   ·exact .inr h
omit [Dr]in
theorem ml{e:Env}:∀ {l:List (Nat×Nat×Nat)},mj e l=true->∀t B off,(t,B,off)∈l->(e.get t).v= .loc B off
 |[],_,t,B,off,h=>by simp at h
 | (s,B0,off0):: l,h,t,B,off,hm=>by
  simp only[mj,Em]at h;simp only[EB,E7]at hm;rcases hm with⟨rfl,rfl,rfl⟩|hm
  ·have h1:=h.1;split at h1
   ·rename_i B' off' hv;simp only[Em]at h1;rw[hv,Eo h1.1,Eo h1.2]
   ·cases h1
  ·exact ml h.2 t B off hm
omit [Dr]in
theorem nZ{e:Env}:∀ {l:List (Nat×Nat)},qN e l=true->∀B n,aW l B=some n->aW e.lb B=some n
 |[],_,B,n,h=>by simp[aW]at h
 | (B0,n0):: l,h,B,n,hm=>by
  simp only[qN,Em]at h;rw[cP]at hm;split at hm
  ·rename_i hB;subst hB;simp only[Ek]at hm;subst hm;have h1:=h.1;split at h1
   ·rename_i m hv;rw[hv,Eo h1]
   ·cases h1
  ·exact nZ h.2 B n hm
section
variable {c:Entry} {N:Nat} {e:Env} {h:Hp} {a:Act} {w:World}
open Classical in
theorem pI{ja:JA}{vs:List AV}(H:gF c N e h a w)(hp:pack ja e=some vs):gF c N (unpack ja vs) h a w:=by
 obtain⟨S,β,γ,lam,ω,F⟩:=H;unfold pack at hp;cases hlo:(mj e ja.locs&&qN e ja.lbs)with
 |false=>rw[hlo]at hp;cases hp
 | true=>
  rw[hlo]at hp;simp only[El]at hp;simp only[Em]at hlo;obtain⟨hlen,hval,hdis⟩:=gq ja.vals [] vs hp
  -- the groups carried
  let gOf:Nat->Option Nat:=fun i=>match ja.vals[i]? with|some (t,some _)=>(e.get t).g|_=>none
  have hg1:∀i t sz,ja.vals[i]? = some (t,some sz)->∃g z0,gOf i=some g/\(e.get t).g=some g/\aB e.al g=some z0/\(z0=none\/z0=some sz):=by
   intro i t sz hi;obtain⟨a',_,_,h3⟩:=hval i t (some sz) hi;obtain⟨g,z0,k1,k2,k3,_⟩:=h3 sz rfl;refine⟨g,z0,?_,k1,k2,k3⟩;show (match ja.vals[i]? with|some (t,some _)=>(e.get t).g|_=>none)=some g;rw[hi];exact k1
  have hg2:∀i j g,gOf i=some g->gOf j=some g->i=j:=by
   have hex:∀i g,gOf i=some g->∃t sz,ja.vals[i]? = some (t,some sz)/\(e.get t).g=some g:=by
    intro i g hi;have hi':(match ja.vals[i]? with|some (t,some _)=>(e.get t).g|_=>none)=some g:=hi;split at hi'
    ·rename_i t sz ht;exact⟨t,sz,ht,hi'⟩
    ·cases hi'
   intro i j g hi hj;obtain⟨t,sz,k1,k2⟩:=hex i g hi;obtain⟨t',sz',m1,m2⟩:=hex j g hj;rcases Nat.lt_trichotomy i j with hlt|heq|hlt
   ·exact absurd (k2.trans m2.symm) (hdis i j t t' sz sz' hlt k1 m1)
   ·exact heq
   ·exact absurd (m2.trans k2.symm) (hdis j i t' t sz' sz hlt m1 k1)
  let γ':Nat->Value:=fun i=>match gOf i with|some g=>γ g|none=>undef
  let ω':Nat->Owner:=fun b=>match ω b with
   |.grp g=>if hx:∃i,gOf i=some g then .grp (Classical.choose hx)else .no
   |o=>o
  have hωg:∀b g i,ω b= .grp g->gOf i=some g->ω' b= .grp i:=by
   intro b g i hb hi;show (match ω b with|.grp g=>if hx:∃i,gOf i=some g then Owner.grp (Classical.choose hx)else .no|o=>o)= .grp i;rw[hb];simp only;have hx:∃i,gOf i=some g:=⟨i,hi⟩;rw[dif_pos hx,hg2 _ _ g (GO hx) hi]
  have hωo:∀b,(∀g,ω b≠.grp g)->ω' b=ω b:=by
   intro b hb;show (match ω b with|.grp g=>if hx:∃i,gOf i=some g then Owner.grp (Classical.choose hx)else .no|o=>o)=ω b;cases ho:ω b with
   |grp g=>exact absurd ho (hb g)
   |_=>rfl
  have hωn:∀b,ω' b≠.no->ω b≠.no:=by
   intro b hb ho;refine hb ?_;rw[hωo b (fun g hg=>by rw[ho]at hg;cases hg),ho]
  have hωx:∀b g,ω' b= .grp g->∃g',ω b= .grp g':=by
   intro b g hg;cases ho:ω b with
   |grp g'=>exact⟨g',rfl⟩
   |_=>rw[hωo b (fun g' h'=>by rw[ho]at h';cases h'),ho]at hg;cases hg
  -- the slots
  have hget:∀t,(∃(i:Nat)(z:Option Nat)(a':AV),ja.vals[i]? = some (t,z)/\(e.get t).v= .val a'/\(unpack ja vs).get t=⟨.val a',z.map fun _=>i⟩)\/(∃B off,(e.get t).v= .loc B off/\(unpack ja vs).get t=⟨.loc B off,none⟩)\/(unpack ja vs).get t=Ent.none:=by
   intro t;have hu:(unpack ja vs).get t=bc (bF vs 0 ja.vals++ja.locs.map fun x=>(x.1,(⟨.loc x.2.1 x.2.2,none⟩:Ent))) t:=rfl;rcases gE vs (ja.locs.map fun x=>(x.1,(⟨.loc x.2.1 x.2.2,none⟩:Ent))) t ja.vals 0 with⟨i,z,h1,h2⟩|⟨h1,h2⟩
   ·obtain⟨a',k1,k2,_⟩:=hval i t z h1;refine .inl ⟨i,z,a',h1,k2,?_⟩;rw[hu,h2,ED];have:nth vs i=a':=by simp[nth,k1]
    rw[this]
   ·rcases kf t ja.locs with⟨B,off,k1,k2⟩|k
    ·exact .inr (.inl ⟨B,off,ml hlo.1 t B off k1,by rw[hu,h2,k2]⟩)
    ·exact .inr (.inr (by rw[hu,h2,k]))
  have hgg:∀t g,((unpack ja vs).get t).g=some g->∃sz,ja.vals[g]? = some (t,some sz):=by
   intro t g hg;rcases hget t with⟨i,z,a',h1,_,h3⟩|⟨_,_,_,h3⟩|h3
   ·rw[h3]at hg;cases z with
    |none=>simp at hg
    |some sz=>simp at hg;subst hg;exact⟨sz,h1⟩
   ·rw[h3]at hg;cases hg
   ·rw[h3]at hg;cases hg
  have hγ:∀t g,((unpack ja vs).get t).g=some g->∃g0 z0,(e.get t).g=some g0/\aB e.al g0=some z0/\γ' g=γ g0:=by
   intro t g hg;obtain⟨sz,h1⟩:=hgg t g hg;obtain⟨g0,z0,k1,k2,k3,_⟩:=hg1 g t sz h1;refine⟨g0,z0,k2,k3,?_⟩;show (match gOf g with|some g=>γ g|none=>undef)=γ g0;rw[k1]
  refine⟨S,β,γ',lam,ω',⟨F.wf,F.gro,F.keep,F.le,F.ext,F.hlen,fun l cs hl hcs=>?_,F.tsz,fun t ht=>?_,fun t g z ht hg hz=>?_,fun B n hB=>?_,fun g z hz=>?_,fun b hb=>⟨(F.mine b (hωn b hb)).1.imp (fun hE=>⟨hE.1,fun g hg=>by obtain⟨g',h'⟩:=hωx b g hg;exact hE.2 g' h'⟩) id,(F.mine b (hωn b hb)).2⟩,fun t g hg=>?_,fun g z hz=>?_⟩⟩
  ·rcases F.heap l cs hl hcs with⟨b,x,h1,h2,h3,h4⟩|⟨b,h1,h3,h4⟩
   ·exact .inl ⟨b,x,h1,h2,by rw[hωo b (fun g hg=>by rw[h3]at hg;cases hg)];exact h3,h4⟩
   ·exact .inr ⟨b,h1,by rw[hωo b (fun g hg=>by rw[h3]at hg;cases hg)];exact h3,h4⟩
  ·have hs:=F.slots t ht;rcases hget t with⟨i,z,a',_,h2,h3⟩|⟨B,off,h2,h3⟩|h3
   ·rw[h3];rw[h2]at hs;exact hs
   ·rw[h3];rw[h2]at hs;exact hs
   ·rw[h3];simp[Ent.none,dP,VR]
  ·obtain⟨g0,z0,k1,k2,k3⟩:=hγ t g hg;rw[k3];exact F.grps t g0 z0 ht k1 k2
  ·obtain⟨k1,k2,k3,b,x,k4,k5,k6,k7,k8⟩:=F.lblk B n (nZ hlo.2 B n hB);refine⟨k1,k2,k3,b,x,k4,k5,by rw[hωo b (fun g hg=>by rw[k6]at hg;cases hg)];exact k6,k7,fun i hi=>?_⟩;obtain⟨v,a',m1,m2,m3,m4⟩:=k8 i hi;have hgr:∀g z,((unpack ja vs).get (B+i)).g=some g->aB (unpack ja vs).al g=some z->v=γ' g:=by
    intro g z hg _;obtain⟨g0,z0,p1,p2,p3⟩:=hγ _ g hg;rw[p3];exact m4 g0 z0 p1 p2
   rcases hget (B+i)with⟨j,z,a2,_,h2,h3⟩|⟨B',off,h2,h3⟩|h3
   ·refine⟨v,a2,m1,by rw[h3],?_,hgr⟩;rw[m2]at h2;cases h2;exact m3
   ·rw[m2]at h2;cases h2
   ·exact⟨v,.any,m1,by rw[h3];rfl,by simp[VR],hgr⟩
  ·obtain⟨i,t,sz,h1,h2,h3⟩:=eK ja.vals 0 g z hz;rw[ED]at h2;subst h2;obtain⟨g0,z0,k1,k2,k3,k4⟩:=hg1 g t sz h1;have hγ':γ' g=γ g0:=by
    show (match gOf g with|some g=>γ g|none=>undef)=γ g0;rw[k1]
   rw[hγ'];obtain⟨ad,len,cap,m1,m2,m3,m4⟩:=F.free g0 z0 k3;refine⟨ad,len,cap,m1,m2,m3,m4.imp id ?_⟩;rintro⟨sz',b,off,x,p1,p2,p3,p4,p5,p6⟩;have:sz'=sz:=by
    rcases k4 with k4|k4<;>rw[k4]at p1<;>cases p1;rfl
   subst this;exact⟨sz',b,off,x,h3,p2,p3,p4,hωg b g0 g p5 k1,p6⟩
  ·obtain⟨sz,h1⟩:=hgg t g hg;have:g<ja.vals.length:=by
    rcases EC g ja.vals.length with h|h
    ·exact h
    ·rw[Eu h]at h1;cases h1
   show g<ja.vals.length*1000;omega
  ·obtain⟨i,t,sz,h1,h2,h3⟩:=eK ja.vals 0 g z hz;have:i<ja.vals.length:=by
    rcases EC i ja.vals.length with h|h
    ·exact h
    ·rw[Eu h]at h1;cases h1
   show g<ja.vals.length*1000;omega
omit [Dr]in
theorem yk(d:Nat)(h:Hp):gH d h .any= .any:=by cases d<;>rfl
omit [Dr]in
theorem tr(g:AV->AV)(hg:g .any= .any)(vs:List AV)(i:Nat):nth (vs.map g) i=g (nth vs i):=by
 unfold nth;rw[E3,E3,Fj];cases vs[i]? with
 |none=>simp[hg]
 |some v=>rfl
structure Reval (g:AV->AV) (x y:Ent):Prop where
 gr:y.g=x.g
 v:(∃a,x.v= .val a/\y.v= .val (g a))\/(∃B off,x.v= .loc B off/\y.v= .loc B off)
omit [Dr]in
theorem eG(g:AV->AV)(hg:g .any= .any)(vs:List AV)(r:List (Nat×Ent))(hr:∀t,Reval g (bc r t) (bc r t))(t:Nat):∀(l:List (Nat×Option Nat))(k:Nat),
  Reval g (bc (bF vs k l++r) t) (bc (bF (vs.map g) k l++r) t)
 |[],k=>by simpa [bF]using hr t
 |(s,none):: l,k=>by
  simp only[bF,EZ,bc];cases Nat.beq s t with
  |true=>exact⟨rfl,.inl ⟨_,rfl,by simp only[El];rw[tr g hg]⟩⟩
  |false=>exact eG g hg vs r hr t l (k+1)
 |(s,some z):: l,k=>by
  simp only[bF,EZ,bc];cases Nat.beq s t with
  |true=>exact⟨rfl,.inl ⟨_,rfl,by simp only[El];rw[tr g hg]⟩⟩
  |false=>exact eG g hg vs r hr t l (k+1)
omit [Dr]in
theorem pH(g:AV->AV)(hg:g .any= .any)(ja:JA)(vs:List AV)(t:Nat):Reval g ((unpack ja vs).get t) ((unpack ja (vs.map g)).get t):=by
 refine eG g hg vs _ (fun t=>?_) t ja.vals 0;rcases kf t ja.locs with⟨B,off,_,k2⟩|k
 ·rw[k2];exact⟨rfl,.inr ⟨B,off,rfl,rfl⟩⟩
 ·rw[k];exact⟨rfl,.inl ⟨.any,rfl,by simp[Ent.none,hg]⟩⟩
theorem FR.reval{U:Nat->Prop}{S:ar}{β:List a6}{γ:Nat->Value}{lam:Nat->Option Nat}{ω:Nat->Owner}{e2:Env}{h2:Hp}{S2:ar}{ω2:Nat->Owner}{g:AV->AV}(F:FR c N U e h a w S β γ lam ω)(F2:FR c N U e h2 a w S2 β γ lam ω2)(hg:∀x v,VR S β x v->VR S2 β (g x) v)(hr:∀t,Reval g (e.get t) (e2.get t))(hal:e2.al=e.al)(hlb:e2.lb=e.lb):FR c N U e2 h2 a w S2 β γ lam ω2:=by
 refine⟨F2.wf,F2.gro,F2.keep,F2.le,F2.ext,F2.hlen,F2.heap,F2.tsz,fun t ht=>?_,fun t k z ht hk hz=>?_,fun B n hB=>?_,fun k z hz=>F2.free k z (by rw[<- hal];exact hz),F2.mine,fun t k hk=>?_,fun k z hz=>F2.used.2 k z (by rw[<- hal];exact hz)⟩
 ·have h1:=F.slots t ht;rcases (hr t).v with⟨x,q1,q2⟩|⟨B,off,q1,q2⟩
  ·rw[q1]at h1;rw[q2];exact hg _ _ h1
  ·rw[q1]at h1;rw[q2];exact h1
 ·rw[(hr t).gr]at hk;rw[hal]at hz;exact F2.grps t k z ht hk hz
 ·rw[hlb]at hB;obtain⟨k1,k2,k3,b,x,k4,k5,k6,k7,k8⟩:=F2.lblk B n hB;obtain⟨_,_,_,b',x',j4,j5,j6,j7,j8⟩:=F.lblk B n hB;rw[k4]at j4;cases j4;cases k5.inj j5;refine⟨k1,k2,k3,b,x,k4,k5,k6,k7,fun i hi=>?_⟩;obtain⟨v,a',m1,m2,m3,m4⟩:=k8 i hi;obtain⟨v',a'',n1,n2,n3,_⟩:=j8 i hi;rw[m1]at n1;cases n1;rcases (hr (B+i)).v with⟨y,q1,q2⟩|⟨B',off,q1,q2⟩
  ·rw[n2]at q1;cases q1;refine⟨v,g a'',m1,q2,hg _ _ n3,fun k z hk hz=>?_⟩;rw[(hr (B+i)).gr]at hk;rw[hal]at hz;exact m4 k z hk hz
  ·rw[n2]at q1;cases q1
 ·rw[(hr t).gr]at hk;exact F2.used.1 t k hk
theorem m7{ja:JA}{vs:List AV}(H:gF c N (unpack ja vs) h a w):gF c N (unpack ja (vs.map (gH 6 h))) (h.map fun _=>[]) a w:=by
 obtain⟨S,β,γ,lam,ω,F⟩:=H;obtain⟨S2,ω2,F2,hf⟩:=F.freeze;have F3:=F.reval F2 (g:=gH 6 h) (fun x v hx=>hf _ _ hx) (pH _ (yk 6 h) ja vs) (e2:=unpack ja (vs.map (gH 6 h))) rfl rfl;exact⟨S2,β,γ,lam,ω2,F3⟩
end
end Go.Av
namespace Go.Av
variable [Dr]
section
variable {P:Program} {cx:Cx} {c:Entry} {e:Env} {h:Hp} {a:Act} {w:World} {ops:Array Oper} {id:Nat}
theorem sF{ρ:Type}(hT:TOK P cx.T)(hC:bN P cx.own cx.call)(hI:IsoCall cx)(hk:∀p,um (bu cx.ann.kinds p .L)=true->p<cx.nt){draw:Bool}{k:Env->M ρ}(H:gF c cx.nt e h a w)(hr:jW cx id ops draw e k h≠.fail){Q:Exit->Act->World->Prop}(hn:∀e' h' a' w',jW cx id ops draw e k h=k e' h'->gF c cx.nt e' h' a' w'->a'.defers=a.defers->Q .normal a' w')(hp:∀pv h' v w' a',jW cx id ops draw e k h= .pan pv h'->iE c pv h' v w'->a'.defers=a.defers->Q (.panic [{ v,recovered:=false }]) a' w'):
  (Code.region id ops draw).wp P Q a w:=uC hT hC hI hk H hr hn hp
end
end Go.Av
namespace Go.Av
variable [Dr]
section
variable {P:Program} {Q:Exit->Act->World->Prop} {b:Code}
def gJ(P:Program)(c:Code)(Q:Exit->Act->World->Prop)(a:Act)(w:World):Prop:=
 ∀(b:Frame)(k:List Item)(cs:List Frame),∃e a' w',Q e a' w'/\Arrives P (lone (b.at a (.code c:: .inLoop c:: k)) cs w) b k cs e a' w'
omit [Dr]in
theorem gJ.loop{a:Act}{w:World}(h:gJ P b Q a w):(Code.loop b).wp P Q a w:=
 fun f k cs=>let ⟨e,a',w',q,r⟩:=h f k cs;⟨e,a',w',q,.of_steps (.one step_loop) r⟩
omit [Dr]in
theorem gJ.round{a:Act}{w:World}(h:b.wp P (Exit.then (gJ P b Q) Q) a w):gJ P b Q a w:=by
 intro f k cs;obtain⟨e,a₁,w₁,hq,harr⟩:=h f (.inLoop b:: k) cs;cases e with
 |normal=>
  obtain⟨e₂,a₂,w₂,hq₂,harr₂⟩:=hq f k cs;exact⟨e₂,a₂,w₂,hq₂,.of_steps (Steps.trans harr (.one step_inLoop)) harr₂⟩
 |exit id=>exact⟨_,a₁,w₁,hq,.pass (x:=.inLoop b) rfl (fun _ _=>.inl (by simp)) harr⟩
 |goto l=>exact⟨_,a₁,w₁,hq,.pass (x:=.inLoop b) rfl (fun _ _=>.inl (by simp)) harr⟩
 |ret=>exact⟨_,a₁,w₁,hq,.pass (x:=.inLoop b) rfl (fun _ _=>.inl (by simp)) harr⟩
 |panic ch=>exact⟨_,a₁,w₁,hq,.pass (x:=.inLoop b) rfl (fun _ _=>.inl (by simp)) harr⟩
 |outgrown=>exact⟨_,a₁,w₁,hq,.pass (x:=.inLoop b) rfl (fun _ _=>.inl (by simp)) harr⟩
end
section
variable {P:Program} {cx:Cx} {c:Entry} {ρ:Type}
omit [Dr]in
theorem wi{fx:bU ρ}{id:Nat}{code:Code}{e:Env}{kn kr:Env->M ρ}{kx:Nat->Env->M ρ}(hc:∀b,code≠.loop b):
  ev cx fx (.block id code) e kn kx kr=ev cx fx code e kn (fun i e'=>bif Nat.beq i id then kn e' else kx i e') kr:=by
 cases code<;>first|rfl|exact absurd rfl (hc _)
def sk(cx:Cx)(x:Code):Option JA:=match i7 x with
 |some t=>kF cx.ann.joins t
 |none=>none
omit [Dr]in
theorem Ax{fx:bU ρ}{x y:Code}{e:Env}{kn kr:Env->M ρ}{kx:Nat->Env->M ρ}:ev cx fx (.seq x y) e kn kx kr=(match sk cx x with
  |some ja=>jn (fun vs=>ev cx fx y (unpack ja vs) kn kx kr) fun j=>ev cx fx x e (mQ ja j) kx kr
  |none=>ev cx fx x e (fun e'=>ev cx fx y e' kn kx kr) kx kr):=by
 unfold sk;simp only[ev];cases i7 x with
 |none=>rfl
 |some t=>
  simp only;cases kF cx.ann.joins t<;>rfl
structure Posts (c:Entry) (N:Nat) (r:R ρ) (a:Act) (kn:Env->M ρ) (kx:Nat->Env->M ρ) (kr:Env->M ρ) (Q:Exit->Act->World->Prop):Prop where
 nrm:∀e' h' a' w',r=kn e' h'->gF c N e' h' a' w'->a'.defers=a.defers->Q .normal a' w'
 ext:∀i e' h' a' w',r=kx i e' h'->gF c N e' h' a' w'->a'.defers=a.defers->Q (.exit i) a' w'
 ret:∀e' h' a' w',r=kr e' h'->gF c N e' h' a' w'->a'.defers=a.defers->Q .ret a' w'
 pan:∀pv h' v w' a',r= .pan pv h'->iE c pv h' v w'->a'.defers=a.defers->Q (.panic [{ v,recovered:=false }]) a' w'
theorem pG{ja:JA}{j:List AV->M ρ}{e:Env}{h:Hp}{N:Nat}{a:Act}{w:World}(H:gF c N e h a w)(hr:mQ ja j e h≠.fail):∃vs h',mQ ja j e h=j vs h'/\gF c N (unpack ja vs) h' a w:=by
 unfold mQ at hr |-;cases hp:pack ja e with
 |none=>rw[hp]at hr;exact absurd rfl hr
 |some vs=>
  have hs:=pI H hp;simp only;cases ja.fz with
  |false=>exact⟨vs,h,rfl,hs⟩
  |true=>exact⟨_,_,rfl,m7 hs⟩
theorem wj(hT:TOK P cx.T)(hC:bN P cx.own cx.call)(hI:IsoCall cx)(hk:∀p,um (bu cx.ann.kinds p .L)=true->p<cx.nt)(m:Nat):∀(n:Nat)(code:Code),SizeOf.sizeOf code<n->
  ∀(e:Env)(h:Hp)(a:Act)(w:World)(kn:Env->M ρ)(kx:Nat->Env->M ρ)(kr:Env->M ρ)(Q:Exit->Act->World->Prop),gF c cx.nt e h a w->ev cx (cb m) code e kn kx kr h≠.fail->
  Posts c cx.nt (ev cx (cb m) code e kn kx kr h) a kn kx kr Q->code.wp P Q a w:=by
 intro n
 induction n with
 |zero=>intro code hn;omega
 | succ n ih=>
  intro code hn e h a w kn kx kr Q H hr hp;cases code<;>(try exact absurd rfl hr)
  case skip=>exact wp_skip (hp.nrm e h a w rfl H rfl)
  case exit id=>exact wp_exit (hp.ext id e h a w rfl H rfl)
  case ret=>exact wp_ret (hp.ret e h a w rfl H rfl)
  case region id ops draw=>exact sF hT hC hI hk H hr hp.nrm hp.pan
  case seq x y=>
   have hx:SizeOf.sizeOf x<n:=by simp at hn;omega
   have hy:SizeOf.sizeOf y<n:=by simp at hn;omega
   refine wp_seq ?_;rw[Ax]at hr hp;generalize sk cx x=oj at hr hp;cases oj with
   |none=>
    simp only at hr hp;refine ih x hx e h a w _ kx kr _ H hr ⟨fun e' h' a' w' hok hs hd=>?_,fun i e' h' a' w' hok hs hd=>hp.ext i e' h' a' w' hok hs hd,fun e' h' a' w' hok hs hd=>hp.ret e' h' a' w' hok hs hd,fun pv h' v w' a' hok hs hd=>hp.pan pv h' v w' a' hok hs hd⟩;rw[hok]at hr hp;exact ih y hy e' h' a' w' kn kx kr Q hs hr ⟨fun e2 h2 a2 w2 k1 k2 k3=>hp.nrm e2 h2 a2 w2 k1 k2 (k3.trans hd),fun i e2 h2 a2 w2 k1 k2 k3=>hp.ext i e2 h2 a2 w2 k1 k2 (k3.trans hd),fun e2 h2 a2 w2 k1 k2 k3=>hp.ret e2 h2 a2 w2 k1 k2 (k3.trans hd),fun pv h2 v w2 a2 k1 k2 k3=>hp.pan pv h2 v w2 a2 k1 k2 (k3.trans hd)⟩
   |some ja=>
    simp only[jn]at hr hp;refine ih x hx e h a w _ kx kr _ H hr ⟨fun e' h' a' w' hok hs hd=>?_,fun i e' h' a' w' hok hs hd=>hp.ext i e' h' a' w' hok hs hd,fun e' h' a' w' hok hs hd=>hp.ret e' h' a' w' hok hs hd,fun pv h' v w' a' hok hs hd=>hp.pan pv h' v w' a' hok hs hd⟩;rw[hok]at hr hp;obtain⟨vs,h3,hj,hs3⟩:=pG hs hr;rw[hj]at hr hp;exact ih y hy (unpack ja vs) h3 a' w' kn kx kr Q hs3 hr ⟨fun e2 h2 a2 w2 k1 k2 k3=>hp.nrm e2 h2 a2 w2 k1 k2 (k3.trans hd),fun i e2 h2 a2 w2 k1 k2 k3=>hp.ext i e2 h2 a2 w2 k1 k2 (k3.trans hd),fun e2 h2 a2 w2 k1 k2 k3=>hp.ret e2 h2 a2 w2 k1 k2 (k3.trans hd),fun pv h2 v w2 a2 k1 k2 k3=>hp.pan pv h2 v w2 a2 k1 k2 (k3.trans hd)⟩
  case cond o x y=>
   have hx:SizeOf.sizeOf x<n:=by simp at hn;omega
   have hy:SizeOf.sizeOf y<n:=by simp at hn;omega
   cases o<;>(try exact absurd rfl hr)
   case const v=>
    simp only[ev]at hr hp
    have hav:∀b,cA v= .bool b->a.eval (.const v)= .bool b:=by
     intro b hb;show v= .bool b;cases v with
     |bool c=>simp only[cA,s4,AV.bool.injEq]at hb;rw[hb]
     |tuple vs=>simp only[cA]at hb;cases hvs:vs.isEmpty<;>rw[hvs]at hb<;>cases hb
     |pointer p=>cases p<;>(simp only[cA,s4]at hb;cases hb)
     |map p=>cases p<;>(simp only[cA,s4]at hb;cases hb)
     | slice p n m=>
      have hs:s4 (.slice p n m)= .sl []\/s4 (.slice p n m)= .any:=by
       cases p with
       |some q=>exact .inr rfl
       | none=>cases n with
        |succ n=>exact .inr rfl
        |zero=>cases m with
         |succ m=>exact .inr rfl
         |zero=>exact .inl rfl
      simp only[cA]at hb;rcases hs with hs|hs<;>rw[hs]at hb<;>cases hb
     |_=>simp only[cA,s4]at hb;cases hb
    cases hq:cA v<;>rw[hq]at hr hp<;>(try exact absurd rfl hr);rename_i b;cases b with
    |true=>exact wp_cond (hav true hq) (ih x hx e h a w kn kx kr Q H hr hp)
    |false=>exact wp_cond (hav false hq) (ih y hy e h a w kn kx kr Q H hr hp)
   rename_i t;simp only[ev]at hr hp;cases ht:decide (t<1000)with
   |false=>rw[ht]at hr;exact absurd rfl hr
   | true=>
    rw[ht]at hr hp;simp only[El]at hr hp;have htl:t<1000:=by simpa using ht
    have hav:∀b,e.av t= .bool b->a.eval (.tmp t)= .bool b:=by
     intro b hb;obtain⟨S,β,γ,lam,ω,F⟩:=H;have hs:=F.slots t htl;simp only[Env.av,Ent.av]at hb;cases hv:(e.get t).v with
     |val av=>
      rw[hv]at hs hb;simp only at hb;subst hb;simp only[dP,VR]at hs;exact hs
     |loc B off=>rw[hv]at hb;cases hb
    cases hq:e.av t<;>rw[hq]at hr hp<;>(try exact absurd rfl hr);rename_i b;cases b with
    |true=>exact wp_cond (hav true hq) (ih x hx e h a w kn kx kr Q H hr hp)
    |false=>exact wp_cond (hav false hq) (ih y hy e h a w kn kx kr Q H hr hp)
  case block id code=>
   refine wp_block ?_;by_cases hc:∃b,code= .loop b
   ·obtain⟨b,rfl⟩:=hc;have hb:SizeOf.sizeOf b<n:=by simp at hn;omega
    simp only[ev]at hr hp;cases hja:kF cx.ann.loops id with
    |none=>rw[hja]at hr;exact absurd rfl hr
    | some ja=>
     rw[hja]at hr hp;simp only at hr hp;refine gJ.loop ?_;obtain⟨vs,h3,hj,hs3⟩:=pG H hr;rw[hj]at hr hp;have key:∀(k:Nat)(vs:List AV)(h:Hp)(a1:Act)(w:World),gF c cx.nt (unpack ja vs) h a1 w->a1.defers=a.defers->
       cb k (fun self vs=>ev cx (cb m) b (unpack ja vs) (mQ ja self) (fun i e'=>bif Nat.beq i id then kn e' else kx i e') kr) vs h≠.fail->
       Posts c cx.nt (cb k (fun self vs=>ev cx (cb m) b (unpack ja vs) (mQ ja self) (fun i e'=>bif Nat.beq i id then kn e' else kx i e') kr) vs h) a kn kx kr Q->gJ P b (Exit.inBlock id Q) a1 w:=by
      intro k
      induction k with
      |zero=>intro vs h a1 w _ _ hr _;exact absurd rfl hr
      | succ k ihk=>
       intro vs h a1 w hs hd hr hp;simp only[cb]at hr hp;refine gJ.round (ih b hb (unpack ja vs) h a1 w _ _ kr _ hs hr ⟨fun e' h' a' w' hok hs' hd'=>?_,fun i e' h' a' w' hok hs' hd'=>?_,fun e' h' a' w' hok hs' hd'=>hp.ret e' h' a' w' hok hs' (hd'.trans hd),fun pv h' v w' a' hok hs' hd'=>hp.pan pv h' v w' a' hok hs' (hd'.trans hd)⟩)
       ·rw[hok]at hr hp;obtain⟨vs',h4,hj',hs4⟩:=pG hs' hr;rw[hj']at hr hp;exact ihk vs' h4 a' w' hs4 (hd'.trans hd) hr hp
       ·cases hi:Nat.beq i id with
        |true=>
         rw[hi]at hok
         have:=Eo hi
         subst this;show Exit.inBlock i Q (.exit i) a' w';simp only[Exit.inBlock,E4];exact hp.nrm e' h' a' w' hok hs' (hd'.trans hd)
        |false=>
         rw[hi]at hok;have hne:i≠id:=fun hh=>by subst hh;simp at hi
         show Exit.inBlock id Q (.exit i) a' w';simp only[Exit.inBlock,if_neg hne];exact hp.ext i e' h' a' w' hok hs' (hd'.trans hd)
     exact key m vs h3 a w hs3 rfl hr hp
   ·have hc':∀b,code≠.loop b:=fun b hb=>hc ⟨b,hb⟩;rw[wi hc']at hr hp;have hs:SizeOf.sizeOf code<n:=by simp at hn;omega
    refine ih code hs e h a w kn _ kr _ H hr ⟨fun e' h' a' w' hok hs' hd'=>hp.nrm e' h' a' w' hok hs' hd',fun i e' h' a' w' hok hs' hd'=>?_,fun e' h' a' w' hok hs' hd'=>hp.ret e' h' a' w' hok hs' hd',fun pv h' v w' a' hok hs' hd'=>hp.pan pv h' v w' a' hok hs' hd'⟩;cases hi:Nat.beq i id with
    |true=>
     rw[hi]at hok
     have:=Eo hi
     subst this;show Exit.inBlock i Q (.exit i) a' w';simp only[Exit.inBlock,E4];exact hp.nrm e' h' a' w' hok hs' hd'
    |false=>
     rw[hi]at hok;have hne:i≠id:=fun hh=>by subst hh;simp at hi
     show Exit.inBlock id Q (.exit i) a' w';simp only[Exit.inBlock,if_neg hne];exact hp.ext i e' h' a' w' hok hs' hd'
end
end Go.Av
namespace Go.Av
variable [Dr]
omit [Dr]in
theorem lC:∀(args:List AV)(i t:Nat),bc (pU i args) t=if i<=t/\t<i+args.length then⟨.val (nth args (t-i)),none⟩else Ent.none
 |[],i,t=>by
  simp only[pU,bc,EH,FD];rw[if_neg (by omega)]
 | a:: as0,i,t=>by
  simp only[pU,bn,EG];by_cases h:i=t
  ·subst h;rw[Es rfl,Es (by omega)];simp[nth]
  ·rw[if_neg h,lC as0 (i+1) t];by_cases h2:i+1<=t/\t<i+1+as0.length
   ·rw[Es h2,Es (by omega)];have:t-i=(t-(i+1))+1:=by omega
    simp[nth,this]
   ·rw[if_neg h2,if_neg (by omega)]
section
variable {P:Program} {cx:Cx}
open Classical in
theorem sP{w:World}{S:ar}{β:List a6}{h:Hp}{args:List AV}{vs:List Value}{n:Nat}(hg:mU β h w)(hw:Wf S w)(hh:bO S β w h)(hv:aH S β args vs)(hn:args.length<=n)(hn2:n<=1000):
  ∃γ lam ω,FR { w,S,β,E:=bo β h,gok:=hg } n (fun g=>g<(kZ args).nx*1000) (kZ args) h { tmps:=vs.toArray++Array.replicate (n-vs.toArray.size) undef,defers:=[] } w S β γ lam ω:=by
 obtain⟨hlen,ω0,hr⟩:=hh;have hvl:=hv.length;have hget:∀t,(kZ args).get t=if t<args.length then⟨.val (nth args t),none⟩else Ent.none:=fun t=>by
  have:=lC args 0 t
  simp only[ES,true_and,ED,GA]at this;exact this
 let ω:Nat->Owner:=fun b=>if bo β h b then ω0 b else .no;refine⟨fun _=>undef,fun _=>none,ω,⟨hw,Gro.refl _,fun b _ _=>⟨rfl,fun _=>rfl⟩,ar.le_refl S,eb.refl β,hlen,fun l cs hl hcs=>?_,⟨?_,hn2⟩,fun t ht=>?_,fun t g z ht hg=>?_,fun B m hB=>?_,fun g z hz=>?_,fun b hb=>?_,fun t g hg=>?_,fun g z hz=>?_⟩⟩
 ·have hown:∀b n,β[l]? = some (b,n)->ω0 b= .heap l->ω b= .heap l:=fun b n h1 h3=>by
   show (if bo β h b then ω0 b else .no)=_;rw[Es ⟨l,cs,_,hl,hcs,h1⟩];exact h3
  rcases hr l cs hl hcs with⟨b,x,h1,h2,h3,h4⟩|⟨b,h1,h3,h4⟩
  ·exact .inl ⟨b,x,h1,h2,hown b _ h1 h3,h4⟩
  ·exact .inr ⟨b,h1,hown b _ h1 h3,h4⟩
 ·simp;omega
 ·rw[hget];split
  ·rename_i hlt;have hx:args[t]? = some (nth args t):=by simp[nth,hlt]
   obtain⟨v,h1,h2⟩:=hv.get hx;have:(vs.toArray++Array.replicate (n-vs.toArray.size) undef).getD t undef=v:=by
    rw[EM,FM (by simp;omega)];simp[h1]
   rw[this];exact h2
  ·simp[Ent.none,dP,VR]
 ·rw[hget]at hg;split at hg<;>cases hg
 ·cases hB
 ·cases hz
 ·have hb':bo β h b:=by
   by_cases ho:bo β h b
   ·exact ho
   ·exact absurd (show ω b= .no from if_neg ho) hb
  obtain⟨l,cs,m,h1,h2,h3⟩:=hb';obtain⟨b',x,k1,k2,k3,_⟩:=hr.own h1 h2;rw[h3]at k1;cases k1;have hω:ω b= .heap l:=by
   show (if bo β h b then ω0 b else .no)=_;rw[Es ⟨l,cs,_,h1,h2,h3⟩];exact k3
  exact⟨.inl ⟨⟨l,cs,_,h1,h2,h3⟩,fun g=>by rw[hω];simp⟩,k2⟩
 ·rw[hget]at hg;split at hg<;>cases hg
 ·cases hz
theorem start{w:World}{S:ar}{β:List a6}{h:Hp}{args:List AV}{vs:List Value}{n:Nat}(hg:mU β h w)(hw:Wf S w)(hh:bO S β w h)(hv:aH S β args vs)(hn:args.length<=n)(hn2:n<=1000):
  gF { w,S,β,E:=bo β h,gok:=hg } n (kZ args) h { tmps:=vs.toArray++Array.replicate (n-vs.toArray.size) undef,defers:=[] } w:=⟨S,β,sP hg hw hh hv hn hn2⟩
def ff(tmps:Array Value):ResultVar->Sem Value
 |.tmp t=>pure (tmps.getD t undef)
 |.cell p t=>do loadVar t (<- asAddr (tmps.getD p undef))
omit [Dr]in
theorem mI(fn:Func)(tmps:Array Value):results fn tmps=(do let vs <- fn.results.mapM (ff tmps);pure (if h:vs.size=1 then vs[0]else .tuple vs)):=by
 unfold results;congr 1
theorem A7{c:Entry}{N:Nat}{U:Nat->Prop}{e:Env}{h:Hp}{a:Act}{w:World}{S:ar}{β:List a6}{γ:Nat->Value}{lam:Nat->Option Nat}{ω:Nat->Owner}(hT:TOK P cx.T)(F:FR c N U e h a w S β γ lam ω){r:ResultVar}{v:AV}(hr:qZ cx.T e r=some v):∃u,(ff a.tmps r).run P w= .ok u w/\VR S β v u:=by
 cases r with
 | tmp t=>
  simp only[qZ]at hr;cases ht:decide (t<1000)with
  |false=>rw[ht]at hr;cases hr
  | true=>
   rw[ht]at hr;simp only[El]at hr;have hs:=F.slots t (by simpa using ht);cases hv:(e.get t).v with
   |loc B off=>rw[hv]at hr;cases hr
   |val av=>
    rw[hv]at hr hs;simp only[Ek]at hr;subst hr;exact⟨_,by simp only[ff,Sem.run_pure],hs⟩
 | cell p t=>
  simp only[qZ]at hr;cases hp:decide (p<1000)with
  |false=>rw[hp]at hr;cases hr
  | true=>
   rw[hp]at hr;simp only[El]at hr;have hs:=F.slots p (by simpa using hp);cases hv:(e.get p).v with
   | loc B off=>
    rw[hv]at hr hs;cases ht:cx.T t with
    |none=>rw[ht]at hr;cases hr
    | some ti=>
     rw[ht]at hr;simp only at hr;cases hin:iw e B off ti.size with
     |false=>rw[hin]at hr;cases hr
     | true=>
      rw[hin]at hr;simp only[El]at hr;simp only[dP]at hs;obtain⟨b,hlam,hpv⟩:=hs;obtain⟨b',x,m,hm,hle,hlam',hrow,hms,hcells⟩:=F.locals hin;rw[hlam]at hlam';cases hlam';let f:Nat->Value:=fun i=>(x[off+i]?).getD undef;have hf:∀i,i<ti.size->x[off+i]? = some (f i):=fun i hi=>by
       obtain⟨v,_,hv',_⟩:=hcells i hi;show _=some ((x[off+i]?).getD undef);rw[hv'];rfl
      have hload:=kN hT ht hrow f hf;have hexec:∀v,(loadVar t ⟨b,off,none⟩).run P w= .ok v w->(ff a.tmps (.cell p t)).run P w= .ok v w:=fun v hv'=>by
       simp only[ff];rw[hpv];simpa [asAddr]using hv'
      cases hag:ti.agg with
      |true=>
       rw[hag]at hr;simp only[El,Ek]at hr;subst hr;refine⟨_,hexec _ (hload.1 hag),?_⟩;simp only[VR];refine⟨_,rfl,lX ti.size fun i hi=>?_⟩;obtain⟨v,a',g1,g2,g3,_⟩:=hcells i hi;have:f i=v:=by show (x[off+i]?).getD undef=v;rw[g1];rfl
       rw[this];simp only[Env.av,Ent.av,g2];exact g3
      | false=>
       rw[hag]at hr;simp only[Ep]at hr;cases hone:decide (ti.size=1)with
       |false=>rw[hone]at hr;cases hr
       |true=>
        rw[hone]at hr;simp only[El,Ek]at hr;subst hr;have hone':ti.size=1:=by simpa using hone
        obtain⟨v,a',g1,g2,g3,g4⟩:=hcells 0 (by omega);simp only[FD]at g1 g2 g4;have hfv:f 0=v:=by show (x[off+0]?).getD undef=v;rw[FD,g1];rfl
        refine⟨v,hexec _ (hfv▸hload.2 hag hone'),?_⟩;simp only[Env.av,Ent.av,g2];exact g3
   | val av=>
    rw[hv]at hr hs;cases ht:cx.T t with
    |none=>rw[ht]at hr;cases hr
    |some ti=>
     rw[ht]at hr;simp only at hr;obtain⟨v,h1,h2⟩:=tg hT F.wf hr hs;refine⟨v,?_,h2⟩;unfold aj at hr;rw[ht]at hr;cases av<;>simp only[reduceCtorEq]at hr;simp only[dP,VR]at hs;obtain⟨b,off,vs,hpv,_,_⟩:=hs;simp only[ff];rw[hpv]at h1 |-;simpa [Instr.loadAt,Instr.sureAddr,asAddr]using h1
theorem sG{c:Entry}{N:Nat}{U:Nat->Prop}{e:Env}{h:Hp}{a:Act}{w:World}{S:ar}{β:List a6}{γ:Nat->Value}{lam:Nat->Option Nat}{ω:Nat->Owner}(hT:TOK P cx.T)(F:FR c N U e h a w S β γ lam ω){fn:Func}{vs:List AV}(hr:eB cx.T e fn.results.toList=some vs):∃u,(results fn a.tmps).run P w= .ok u w/\VR S β (iD vs) u:=by
 have key:∀(l:List ResultVar)(vs:List AV),eB cx.T e l=some vs->∃us:List Value,(l.mapM (ff a.tmps)).run P w= .ok us w/\aH S β vs us:=by
  intro l
  induction l with
  |nil=>intro vs h;simp only[eB,Ek]at h;subst h;exact⟨[],by simp,by simp[aH]⟩
  | cons r rs ih=>
   intro vs h;simp only[eB]at h;cases h1:qZ cx.T e r with
   |none=>rw[h1]at h;cases h
   | some v=>
    cases h2:eB cx.T e rs with
    |none=>rw[h1,h2]at h;cases h
    |some vs'=>
     rw[h1,h2]at h;simp only[Ek]at h;subst h;obtain⟨u,k1,k2⟩:=A7 hT F h1;obtain⟨us,m1,m2⟩:=ih vs' h2;refine⟨u:: us,?_,by simp only[aH];exact⟨u,us,rfl,k2,m2⟩⟩;rw[List.mapM_cons,Sem.run_bind,k1,Result.andThen_ok,Sem.run_bind,m1,Result.andThen_ok,Sem.run_pure]
 obtain⟨us,k1,k2⟩:=key _ _ hr;have hlen:=k2.length;have hrun:(fn.results.mapM (ff a.tmps)).run P w= .ok us.toArray w:=by
  rw[Hc];rw[map_eq_pure_bind,Sem.run_bind,k1,Result.andThen_ok,Sem.run_pure]
 refine⟨if h:us.toArray.size=1 then us.toArray[0]else .tuple us.toArray,?_,?_⟩
 ·rw[mI,Sem.run_bind,hrun,Result.andThen_ok,Sem.run_pure]
 ·unfold iD;split
  ·rename_i v;cases us with
   |nil=>simp at hlen
   |cons u us=>
    cases us with
    |nil=>simp only[aH]at k2;obtain⟨x,xs,hx,hy,_⟩:=k2;simp at hx;simp[hx.1,hy]
    |cons u2 us=>simp at hlen
  ·rename_i hne;rw[dif_neg]
   ·simp only[VR];exact⟨us,rfl,k2⟩
   ·intro h1;have:vs.length=1:=by rw[<- hlen];simpa using h1
    match vs,this with
    |[v],_=>exact hne v rfl
end
end Go.Av
namespace Go.Av
variable [Dr]
omit [Dr]in
theorem qJ{n:Nat}{ks:List (Nat×Kind)}(h:jm n ks=true):∀p,um (bu ks p .L)=true->p<n:=by
 intro p hp
 induction ks with
 |nil=>simp[bu,um]at hp
 | cons x ks ih=>
  obtain⟨k,y⟩:=x;unfold jm at h;simp only[FE,Em]at h;simp only[bu]at hp;cases hk:Nat.beq k p with
  |true=>
   rw[hk]at hp;simp only[El]at hp
   have:=h.1
   rw[hp]at this;have hk':=Eo hk;subst hk';simpa using this
  |false=>
   rw[hk]at hp;exact ih h.2 hp
section
variable {P:Program} {cx:Cx}
theorem A3{c:Entry}{N:Nat}{U:Nat->Prop}{e:Env}{h:Hp}{a:Act}{w:World}{S:ar}{β:List a6}{γ:Nat->Value}{lam:Nat->Option Nat}{ω:Nat->Owner}(F:FR c N U e h a w S β γ lam ω){fn:Func}{sz:Nat}(ho:pn fn e sz=true){u:Value}(hu:(results fn a.tmps).run P w= .ok u w):oI c.w.heap.size S β w h sz u:=by
 unfold pn at ho;split at ho
 ·rename_i t hres;cases ht:decide (t<1000)with
  |false=>rw[ht]at ho;cases ho
  | true=>
   rw[ht]at ho;simp only[FA]at ho;split at ho
   ·rename_i g hg;split at ho
    ·rename_i z hz;have hgr:=F.grps t g z (by simpa using ht) hg hz;obtain⟨ad,len,cap,h1,h2,h3,h4⟩:=F.free g z hz;have hue:u=a.tmps.getD t undef:=by
      have hr:fn.results= #[.tmp t]:=by apply FY;simpa using hres
      rw[mI,hr]at hu;simp[ff]at hu;simpa using hu.symm
     rw[hue,hgr];refine⟨ad,len,cap,h1,h2,h3,h4.imp id ?_⟩;rintro⟨sz',b,off,x,k1,k2,k3,k4,k5,k6⟩;have hsz:sz'=sz:=by
      rw[k1]at ho;simp only[pE]at ho;exact Eo ho
     subst hsz;refine⟨b,off,x,k2,k3,k4,(F.mine b (by rw[k5];simp)).1.grp k5,fun hb=>?_,k6⟩;obtain⟨l,_,hl,_⟩:=F.hown hb;rw[k5]at hl;cases hl
    ·cases ho
   ·cases ho
 ·cases ho
omit [Dr]in
theorem xb{fn:Func}{own:Option Nat}{e:Env}{h:Hp}(hr:fZ cx fn own e h≠.fail):∃rs,eB cx.T e fn.results.toList=some rs/\(fZ cx fn own e h= .ok (iD rs) h\/(own=none/\fZ cx fn own e h= .ok (gH 6 h (iD rs)) (h.map fun _=>[])))/\∀sz,own=some sz->pn fn e sz=true:=by
 have key:∀b z:Bool,(bif b then af (ah ((eB cx.T e fn.results.toList).map iD)) (bif z then(bif own.isSome then fun _=>M.fail else s9)else M.pure)else M.fail:M AV) h≠.fail->b=true/\∃rs,eB cx.T e fn.results.toList=some rs/\
   ((bif b then af (ah ((eB cx.T e fn.results.toList).map iD)) (bif z then(bif own.isSome then fun _=>M.fail else s9)else M.pure)else M.fail:M AV) h= .ok (iD rs) h\/
    (own=none/\(bif b then af (ah ((eB cx.T e fn.results.toList).map iD)) (bif z then(bif own.isSome then fun _=>M.fail else s9)else M.pure)else M.fail:M AV) h= .ok (gH 6 h (iD rs)) (h.map fun _=>[]))):=by
  intro b z hr;cases b with
  |false=>exact absurd rfl hr
  | true=>
   refine⟨rfl,?_⟩;cases hres:eB cx.T e fn.results.toList with
   |none=>rw[hres]at hr;exact absurd rfl hr
   | some rs=>
    rw[hres]at hr;cases z with
    |false=>exact⟨rs,rfl,.inl rfl⟩
    |true=>
     cases own with
     |none=>exact⟨rs,rfl,.inr ⟨rfl,rfl⟩⟩
     |some sz=>exact absurd rfl hr
 unfold fZ at hr |-;cases own with
 |none=>
  obtain⟨_,rs,h1,h2⟩:=key true _ hr;exact⟨rs,h1,h2,fun sz hsz=>by cases hsz⟩
 |some sz=>
  obtain⟨h0,rs,h1,h2⟩:=key _ _ hr;exact⟨rs,h1,h2,fun sz' hsz=>by cases hsz;exact h0⟩
theorem fl(hT:TOK P cx.T)(hC:bN P cx.own cx.call)(hI:IsoCall cx)(m:Nat){f:FuncId}{fn:Func}(hf:P.funcs[f]? = some fn)(hnt:cx.nt=fn.ntmps){own:Option Nat}{args:List AV}{h:Hp}{S:ar}{β:List a6}{w:World}{vs:List Value}(hr:bB cx (cb m) fn own args h≠.fail)(hg:mU β h w)(hw:Wf S w)(hh:bO S β w h)(hv:aH S β args vs):Calls P f vs.toArray w (cM own S β h w (bB cx (cb m) fn own args h))/\fn.body.isSome=true:=by
 unfold bB at hr |-;cases hb:fn.body with
 |none=>rw[hb]at hr;exact absurd rfl hr
 | some code=>
  rw[hb]at hr;simp only at hr |-;refine⟨?_,rfl⟩;cases hc:(decide (args.length<=fn.ntmps)&&decide (fn.ntmps<=1000)&&jm cx.nt cx.ann.kinds)with
  |false=>rw[hc]at hr;exact absurd rfl hr
  | true=>
   rw[hc]at hr;simp only[El]at hr |-;simp only[Em,Ew]at hc;obtain⟨⟨hc1,hc2⟩,hc3⟩:=hc;have H:gF { w,S,β,E:=bo β h,gok:=hg } cx.nt (kZ args) h { tmps:=vs.toArray++Array.replicate (fn.ntmps-vs.toArray.size) undef,defers:=[] } w:=by
    rw[hnt];exact start hg hw hh hv hc1 hc2
   have hret:∀(e':Env)(h':Hp)(a':Act)(w':World),ev cx (cb m) code (kZ args) (fZ cx fn own) (fun _ _=>M.fail) (fZ cx fn own) h=fZ cx fn own e' h'->
     gF { w,S,β,E:=bo β h,gok:=hg } cx.nt e' h' a' w'->∃v,(results fn a'.tmps).run P w'= .ok v w'/\cM own S β h w (ev cx (cb m) code (kZ args) (fZ cx fn own) (fun _ _=>M.fail) (fZ cx fn own) h) (.returned v) w':=by
    intro e' h' a' w' hok hs;rw[hok]at hr |-;obtain⟨rs,hres,hret,hown⟩:=xb hr;obtain⟨S',β',γ,lam,ω,F⟩:=hs;obtain⟨u,hu1,hu2⟩:=sG (P:=P) hT F hres;rcases hret with hret|⟨rfl,hret⟩
    ·rw[hret];exact⟨u,hu1,S',β',u,rfl,hu2,F.out,fun sz hsz=>A3 F (hown sz hsz) hu1⟩
    ·rw[hret];obtain⟨S2,ω2,F2,hf⟩:=F.freeze;exact⟨u,hu1,S2,β',u,rfl,hf _ _ hu2,F2.out,fun sz hsz=>by cases hsz⟩
   refine calls_of_wp hf hb (wj hT hC hI (qJ hc3) m _ code (Hf _) (kZ args) h _ w _ _ _ _ H hr ⟨fun e' h' a' w' hok hs hd=>?_,fun i e' h' a' w' hok hs hd=>?_,fun e' h' a' w' hok hs hd=>?_,fun pv h' v w' a' hok hs hd=>?_⟩)
   ·exact⟨hd,hret e' h' a' w' hok hs⟩
   ·rw[hok]at hr;exact absurd rfl hr
   ·exact⟨hd,hret e' h' a' w' hok hs⟩
   ·refine⟨hd,?_⟩;rw[hok];obtain⟨S',β',hout,hvr⟩:=hs;exact⟨S',β',v,rfl,hvr,hout⟩
end
open Classical in
theorem tb{S:ar}{β:List a6}{w w':World}{h:Hp}(_hw:Wf S w)(hh:bO S β w h){β0:List a6}{h0:Hp}(hE:∀b,¬bo β0 h0 b){S':ar}{β':List a6}{h':Hp}(L:Left (bo β0 h0) S β0 w S' β' w' h'):∃S2,Left (bo β h) S β w S2 β w' h/\(∀a v,VR S' β' a v->VR S2 β (gH 6 h' a) v)/\∀sz v,oI w.heap.size S' β' w' h' sz v->oI w.heap.size S2 β w' h sz v:=by
 obtain⟨hlen,ω,hH⟩:=L.heap;have hnew:∀b,bo β' h' b->w.heap.size<=b:=fun b hb=>(L.owned b hb).resolve_left (hE b);let S2:ar:=fun b o=>if bo β' h' b then w'.cell? ⟨b,o,none⟩else S' b o;have hS2n:∀b,¬bo β' h' b->∀o,S2 b o=S' b o:=fun b hb o=>if_neg hb;have hS2y:∀b,bo β' h' b->∀o,S2 b o=w'.cell? ⟨b,o,none⟩:=fun b hb o=>Es hb;have hle:S'.le S2:=by
  intro b o v hv;by_cases hb:bo β' h' b
  ·obtain⟨l,cs,n,h1,h2,h3⟩:=hb;obtain⟨b',x,k1,k2,k3,k5⟩:=hH.own h1 h2;rw[h3]at k1;cases k1;rw[k5]at hv;cases hv
  ·rw[hS2n b hb];exact hv
 have hrow:∀b,b<w.heap.size->w'.heap[b]? = w.heap[b]? /\∀o,S2 b o=S b o:=by
  intro b hb;have hk:=L.keep b hb (hE b);refine⟨hk.1,fun o=>?_⟩;rw[hS2n b (fun ho=>by have:=hnew b ho;omega)];exact hk.2 o
 have hwf:Wf S2 w':=by
  intro b o v hv;by_cases hb:bo β' h' b
  ·rw[hS2y b hb]at hv;exact hv
  ·rw[hS2n b hb]at hv;exact L.wf b o v hv
 obtain⟨hlen0,ω0,hH0⟩:=hh;have hlt0:∀b,bo β h b->b<w.heap.size:=by
  rintro b ⟨l,cs,n,h1,h2,h3⟩;obtain⟨b',x,k1,k2,_⟩:=hH0.own h1 h2;rw[h3]at k1;cases k1;exact k2
 have hle0:S.le S2:=ar.le_trans L.le hle;refine⟨S2,⟨hle0,eb.refl β,hwf,L.gro,fun b hb _=>hrow b hb,⟨hlen0,ω0,hH0.rows hle0 (eb.refl β) hlen0 fun l cs hl _=>.inl ⟨hl,fun b hb ho=>⟨ho,(hrow b hb).1,fun o h=>by rw[(hrow b hb).2];exact h⟩⟩⟩,fun b hb=>.inl hb⟩,fun a v hv=>o5 hH hle (fun b o x hb hr=>?_) 6 a v hv,fun sz v=>?_⟩
 ·rw[hS2y b hb,hr.cell]
 ·rintro⟨ad,len,cap,k1,k2,k3,k4⟩;refine⟨ad,len,cap,k1,k2,k3,k4.imp id ?_⟩;rintro⟨b,off,x,p1,p2,p3,p4,p5,p6⟩;refine⟨b,off,x,p1,p2,p3,p4,fun hb=>?_,fun o ho=>by rw[hS2n b p5];exact p6 o ho⟩
  have:=hlt0 b hb
  omega
theorem wE{S:ar}{β:List a6}{w w':World}{h:Hp}{own:Option Nat}{m:List AV->M AV}{args:List AV}{en:Ending}(hw:Wf S w)(hh:bO S β w h)(hp:cM own S [] [] w (m (dD ax args) []) en w'):cM own S β h w (md m args h) en w':=by
 have key:=fun{S':ar} {β':List a6} {h':Hp} (L:Left (bo [] []) S [] w S' β' w' h')=>tb hw hh (by rintro b ⟨l,cs,n,h1,_⟩;simp at h1) L;unfold md;cases hm:m (dD ax args) []with
 |fail=>rw[hm]at hp;exact hp.elim
 |ok r h'=>
  rw[hm]at hp;obtain⟨S',β',v,h1,h2,h3,h4⟩:=hp;obtain⟨S2,k1,k2,k3⟩:=key h3;exact⟨S2,β,v,h1,k2 r v h2,k1,fun sz hsz=>k3 sz v (h4 sz hsz)⟩
 |pan r h'=>
  rw[hm]at hp;obtain⟨S',β',v,h1,h2,h3⟩:=hp;obtain⟨S2,k1,k2,k3⟩:=key h3;exact⟨S2,β,v,h1,k2 r v h2,k1⟩
structure GoodPg (P:Program) (p:Pg):Prop where
 tok:TOK P p.T
 funcs:∀f fn a,p.funcs f=some (fn,a)->P.funcs[f]? = some fn/\(fn.name== "runtime.NumGoroutine")=false
 other:∀f E,p.other f=some E->∀call,bN P p.own call->∀(args:List AV)(h:Hp)(S:ar)(β:List a6)(w:World)(vs:List Value),E call args h≠.fail->mU β h w->Wf S w->bO S β w h->aH S β args vs->
  Calls P f vs.toArray w (cM (p.own f) S β h w (E call args h))/\(P.funcs[f]?).any (fun fn=>fn.body.isSome&&!(fn.name== "runtime.NumGoroutine"))=true
 nw:∀f,p.nw f=true->∃E,p.other f=some E/\∀call args,rr (E call args)
omit [Dr]in
theorem bO.nil{S:ar}{w:World}:bO S [] w []:=⟨rfl,fun _=>.no,fun l cs hl=>by simp at hl⟩
theorem qh{P:Program}{p:Pg}(G:GoodPg P p)(m:Nat){call:FuncId->List AV->M AV}(hC:bN P p.own call)(hI:∀n a,IsoCall (p.cx call n a)):bN P p.own (fR p call (cb m)):=by
 intro f args h S β w vs hr hg hw hh hv;unfold fR at hr |-;cases ho:p.other f with
 |some E=>rw[ho]at hr;exact G.other f E ho call hC args h S β w vs hr hg hw hh hv
 | none=>
  rw[ho]at hr;simp only at hr |-;cases hf:p.funcs f with
  |none=>rw[hf]at hr;exact absurd rfl hr
  | some x=>
   obtain⟨fn,a⟩:=x;rw[hf]at hr;simp only at hr |-;obtain⟨hf1,hf2⟩:=G.funcs f fn a hf
   have hany:fn.body.isSome=true->(P.funcs[f]?).any (fun fn=>fn.body.isSome&&!(fn.name== "runtime.NumGoroutine"))=true:=by
    intro hb;rw[hf1];simp only[Option.any_some,hb,hf2,G1,G6]
   cases hi:a.iso with
   |false=>
    rw[hi]at hr;simp only[Ep]at hr |-;obtain⟨h1,h2⟩:=fl (cx:=p.cx call fn.ntmps a) G.tok hC (hI _ _) m hf1 rfl hr hg hw hh hv;exact⟨h1,hany h2⟩
   | true=>
    rw[hi]at hr;simp only[El]at hr |-;have hr':bB (p.cx call fn.ntmps a) (cb m) fn (p.own f) (dD ax args) []≠.fail:=by
     intro hf;unfold md at hr;rw[hf]at hr;exact hr rfl
    obtain⟨h1,h2⟩:=fl (cx:=p.cx call fn.ntmps a) G.tok hC (hI _ _) m hf1 rfl hr' ⟨hg.1,fun b _ hb=>by obtain⟨l,_,_,h1,_⟩:=hb;simp at h1⟩ hw bO.nil (vW hv);exact⟨h1.mono fun en w' hp=>wE hw hh hp,hany h2⟩
omit [Dr]in
theorem r8(p:Pg)(hN:∀f,p.nw f=true->∃E,p.other f=some E/\∀call args,rr (E call args)):∀n k a,IsoCall (p.cx (cp p n) k a)
 |0,k,a=>⟨fun f args _=>⟨none,fun _=>rfl⟩,fun f args _ h v h' hh=>by cases hh⟩
 | n+1,k,a=>by
  refine⟨?_,fun f args hf=>?_⟩
  case refine_2=>
   obtain⟨E,hE,hn⟩:=hN f hf;have:(p.cx (cp p (n+1)) k a).call f args=E (cp p n) args:=by
    show fR p (cp p n) (cb n) f args=_;unfold fR;rw[hE]
   rw[this];exact hn _ _
  intro f args hi;have hi':p.iso f=true:=hi;unfold Pg.iso at hi';cases ho:p.other f with
  |some E=>rw[ho]at hi';cases hi'
  | none=>
   rw[ho]at hi';simp only at hi';cases hf:p.funcs f with
   |none=>rw[hf]at hi';cases hi'
   |some x=>
    obtain⟨fn,b⟩:=x;rw[hf]at hi';simp only at hi';refine⟨match bB (p.cx (cp p n) fn.ntmps b) (cb n) fn (p.own f) (dD ax args) []with|.ok r h'=>some (true,gH 6 h' r)|.pan v h'=>some (false,gH 6 h' v)|.fail=>none,fun h=>?_⟩;show fR p (cp p n) (cb n) f args h=_;unfold fR;rw[ho];simp only;rw[hf];simp only[hi',El,md];cases bB (p.cx (cp p n) fn.ntmps b) (cb n) fn (p.own f) (dD ax args) []<;>rfl
theorem jd{P:Program}{p:Pg}(G:GoodPg P p):∀n,bN P p.own (cp p n)
 |0=>fun _f _args _h _S _β _w _vs hr=>absurd rfl hr
 |n+1=>qh G n (jd G n) fun k a=>r8 p G.nw n k a
end Go.Av
namespace Go.Av
def wD{m:List AV->M AV}{ms:Nat->List AV->M AV}(h:bh m ms)(args:List AV):aF (md m args) fun n=>md (ms n) args:=by
 intro x;obtain⟨h1,h2⟩:=h (dD ax args) []
 (try dsimp only at h1 h2)
 refine⟨fun hne=>?_,fun n hne=>?_⟩
 ·have hne':m (dD ax args) []≠.fail:=fun hf=>hne (by simp only[md,hf]);obtain⟨N,hN⟩:=h1 hne';refine⟨N,fun n hn=>?_⟩
  (try dsimp only)
  simp only[md,hN n hn]
 ·(try dsimp only at hne |-)
  have hne':ms n (dD ax args) []≠.fail:=fun hf=>hne (by simp only[md,hf]);simp only[md,h2 n hne']
def cH(p:Pg):Prop:=∀f E,p.other f=some E->∀(call:FuncId->List AV->M AV)(calls:Nat->FuncId->List AV->M AV),(∀f,bh (call f) fun n=>calls n f)->bh (E call) fun n=>E (calls n)
section
variable {cx:Cx} {call:FuncId->List AV->M AV} {calls:Nat->FuncId->List AV->M AV} {fx:bU AV} {fxs:Nat->bU AV}
theorem r7(hc:∀f,bh (call f) fun n=>calls n f)(hfx:jO fx fxs)(hfc:pL fx)(hfcs:∀n,pL (fxs n))(fn:Func)(own:Option Nat):
  bh (bB (cx.wc call) fx fn own) fun n=>bB (cx.wc (calls n)) (fxs n) fn own:=by
 intro args;unfold bB;cases fn.body with
 |none=>exact aF.const _
 | some c=>
  have key:∀b:Bool,aF (bif b then ev (cx.wc call) fx c (kZ args) (fZ (cx.wc call) fn own) (fun _ _=>M.fail) (fZ (cx.wc call) fn own)else M.fail) fun n=>(bif b then ev (cx.wc (calls n)) (fxs n) c (kZ args) (fZ (cx.wc (calls n)) fn own) (fun _ _=>M.fail) (fZ (cx.wc (calls n)) fn own)else M.fail):=by
   intro b;cases b with
   |false=>exact aF.const _
   |true=>
    have hr:bh (fZ (cx.wc call) fn own) fun n=>fZ (cx.wc (calls n)) fn own:=bh.const (fZ cx fn own);exact Aw _ c (Hf _) call calls fx fxs hc hfx hfc hfcs (kZ args) _ (fun n=>fZ (cx.wc (calls n)) fn own) _ (fun _ _ _=>M.fail) _ (fun n=>fZ (cx.wc (calls n)) fn own) hr (fun i=>bh.const _) hr
  exact key (decide (args.length<=fn.ntmps)&&decide (fn.ntmps<=1000)&&jm cx.nt cx.ann.kinds)
theorem nK{p:Pg}(hO:cH p)(hc:∀f,bh (call f) fun n=>calls n f)(hfx:jO fx fxs)(hfc:pL fx)(hfcs:∀n,pL (fxs n))(f:FuncId):bh (fR p call fx f) fun n=>fR p (calls n) (fxs n) f:=by
 intro args;unfold fR;cases ho:p.other f with
 |some E=>exact hO f E ho call calls hc args
 | none=>
  simp only;cases p.funcs f with
  |none=>exact aF.const _
  |some x=>
   obtain⟨fn,a⟩:=x;simp only;have hb:=r7 (cx:=p.cx call fn.ntmps a) hc hfx hfc hfcs fn (p.own f);cases a.iso with
   |true=>exact wD hb args
   |false=>exact hb args
end
theorem kD{p:Pg}(hO:cH p):∀n f args,sX (cp p n f args) (cp p (n+1) f args)
 |0,f,args=>fun x hne=>absurd rfl hne
 | n+1,f,args=>by
  have hc:∀f,bh (cp p (n+1) f) fun m=>(if m=0 then cp p n else cp p (n+1)) f:=by
   intro f args x;refine⟨fun _=>⟨1,fun m hm=>?_⟩,fun m hne=>?_⟩
   ·(try dsimp only)
    rw[if_neg (by omega)]
   ·(try dsimp only at hne |-)
    by_cases h0:m=0
    ·rw[Es h0]at hne |-;exact kD hO n f args x hne
    ·rw[if_neg h0]
  have h:=nK hO hc (qp n) (o3 (n+1)) (fun m=>by
   by_cases h0:m=0
   ·rw[Es h0];exact o3 n
   ·rw[if_neg h0];exact o3 (n+1)) f args
  intro x hne
  have:=(h x).2 0
  (try dsimp only at this)
  rw[Es rfl,Es rfl]at this;exact this hne
def oY{p:Pg}(hO:cH p){n m:Nat}(h:n<=m)(f:FuncId)(args:List AV):sX (cp p n f args) (cp p m f args):=by
 induction m with
 | zero => have:n=0:=by omega
           subst this;exact .refl _
 |succ m ih=>
  by_cases hn:n=m+1
  ·subst hn;exact .refl _
  ·exact (ih (by omega)).trans (kD hO m f args)
open Classical in
noncomputable def ai(p:Pg)(f:FuncId)(args:List AV):M AV:=fun h=>if hx:∃n,cp p n f args h≠.fail then cp p (Classical.choose hx) f args h else .fail
def ia{p:Pg}(hO:cH p)(f:FuncId):bh (ai p f) fun n=>cp p n f:=by
 intro args h;refine nD (fun n m hnm hne=>oY hO hnm f args h hne) ?_;unfold ai;by_cases hx:∃n,cp p n f args h≠.fail
 ·left;simp only[dif_pos hx];exact⟨_,GO hx,rfl⟩
 ·right;simp only[dif_neg hx];exact⟨fun n=>Ha fun h=>hx ⟨n,h⟩,trivial⟩
def lq.uniq{α:Type}{a a':R α}{b:Nat->R α}(h:lq a b)(g:lq a' fun n=>b (n+1)):a=a':=by
 by_cases ha:a= .fail
 ·by_cases ha':a'= .fail
  ·rw[ha,ha']
  ·obtain⟨N,hN⟩:=g.1 ha';have h1:=hN N (En _)
   (try dsimp only at h1)
   exact (h.2 (N+1) (by rw[h1];exact ha')).symm.trans h1
 ·obtain⟨N,hN⟩:=h.1 ha;have h1:=hN (N+1) (by omega);have h2:=g.2 N
  (try dsimp only at h2)
  exact h1.symm.trans (h2 (by rw[h1];exact ha))
def p9{p:Pg}(hO:cH p)(f:FuncId)(args:List AV):ai p f args=fR p (ai p) ak f args:=by
 funext h;have h1:=ia hO f args h;have h2:=nK hO (fun f=>ia hO f) qo wv (fun n=>o3 n) f args h;exact h1.uniq h2
def gO[Dr]{P:Program}{p:Pg}(G:GoodPg P p)(hO:cH p):bN P p.own (ai p):=by
 intro f args h S β w vs hr hg hw hh hv;obtain⟨N,hN⟩:=(ia hO f args h).1 hr;have h1:=hN N (En _)
 (try dsimp only at h1)
 rw[<- h1]at hr |-;exact jd G N f args h S β w vs hr hg hw hh hv
def vT{p:Pg}(hO:cH p){n:Nat}{f:FuncId}{args:List AV}{h:Hp}{r:R AV}(hr:cp p n f args h=r)(hne:r≠.fail):ai p f args h=r:=by
 have:=(ia hO f args h).2 n (by(try dsimp only);rw[hr];exact hne)
 (try dsimp only at this)
 rw[<- this,hr]
end Go.Av
namespace Go.Av
section
variable {ρ:Type}
theorem bd{F:(List AV->M ρ)->List AV->M ρ}(hF:ix F)(vs:List AV):ak F vs=F (ak F) vs:=by
 funext h;exact (eL hF vs h).uniq (hF _ _ (eL hF) vs h)
theorem ay{c:AV}{x y:M ρ}{xs ys:Nat->M ρ}(hx:aF x xs)(hy:aF y ys):aF (aD c x y) fun n=>aD c (xs n) (ys n):=by
 unfold aD;cases c with
 |bool b=>cases b<;>first|exact hx|exact hy
 |_=>exact aF.const _
theorem uc{F:(List AV->M ρ)->List AV->M ρ}{Fs:Nat->(List AV->M ρ)->List AV->M ρ}(h1:bS F Fs)(h2:ix F)(h3:∀n,ix (Fs n)):bh (ak F) fun n=>ak (Fs n):=wv F Fs h1 h2 h3
end
end Go.Av
namespace Go.Av
def aE(m:M AV):M AV:=fun h=>match m []with
 |.ok r h'=>.ok (gH 6 h' r) h
 |.pan v h'=>.pan (gH 6 h' v) h
 |.fail=>.fail
def aw{p:Pg}(hO:cH p){f:FuncId}{fn:Func}{a:Ann}(h1:p.other f=none)(h2:p.funcs f=some (fn,a))(h3:a.iso=true)(args:List AV):
  ai p f args=aE (bB (p.cx (ai p) fn.ntmps a) ak fn (p.own f) (dD ax args)):=by
 rw[p9 hO];unfold fR;rw[h1];simp only;rw[h2];simp only[h3,El];rfl
def dS{p:Pg}(hO:cH p){f:FuncId}{E:(FuncId->List AV->M AV)->List AV->M AV}(h1:p.other f=some E)(args:List AV):ai p f args=E (ai p) args:=by
 rw[p9 hO];unfold fR;rw[h1]
def cB(T:TT)(t:TypeId):(FuncId->List AV->M AV)->List AV->M AV:=fun _ args=>match args with
 |[.sl es]=>appH T t true (.sl []) (.sl es)
 |_=>M.fail
def lG(T:TT)(t:TypeId)(call:FuncId->List AV->M AV)(calls:Nat->FuncId->List AV->M AV):bh (cB T t call) fun n=>cB T t (calls n):=bh.const _
def cX{α:Type}{b:Bool}{x:α}{o:Option α}{y:α}(h:(bif b then some x else o)=some y):x=y\/o=some y:=by
 cases b with
 |true=>exact .inl (by simpa using h)
 |false=>exact .inr h
def nH(T:TT)(t:TypeId)(call:FuncId->List AV->M AV)(args:List AV):rr (cB T t call args):=by
 unfold cB;split
 ·rename_i y;intro h v h' hh;unfold appH at hh;split at hh
  ·cases hh
  ·split at hh
   ·split at hh
    ·cases hh
    ·split at hh
     ·cases hh
     ·rename_i bs _;revert hh;generalize (_&&_:Bool)=b1;cases b1 with
      |false=>intro hh;cases hh
      | true=>
       simp only[El];cases bs.isEmpty with
       |true=>intro hh;cases hh;exact⟨[],by simp⟩
       |false=>
        simp only[Ep];generalize decide (_<=140737488355328)=b2;cases b2 with
        |false=>intro hh;cases hh
        |true=>intro hh;cases hh;exact⟨_,rfl⟩
   ·cases hh
 ·intro h v h' hh;cases hh
end Go.Av
namespace Go.Av
variable [Dr]
open Go.RowKit
section
variable {S:ar} {β:List a6} {h:Hp} {w w':World}
omit [Dr]in
theorem bO.below(hh:bO S β w h){S':ar}(hb:∀b,b<w.heap.size->w'.heap[b]? = w.heap[b]? /\∀o,S' b o=S b o)(hle:S.le S'):bO S' β w' h:=by
 obtain⟨hlen,ω,hr⟩:=hh;exact⟨hlen,ω,hr.rows hle (eb.refl β) hlen fun l cs hl _=>.inl ⟨hl,fun b hlt ho=>⟨ho,(hb b hlt).1,fun o h=>by rw[(hb b hlt).2];exact h⟩⟩⟩
theorem mg(hw:Wf S w)(hh:bO S β w h)(hb:Below w.heap.size w w')(hd:Dr.on->w.drawn<=w'.drawn){S':ar}(hS:∀b,b<w.heap.size->∀o,S' b o=S b o)(hnew:∀b o v,w.heap.size<=b->S' b o=some v->w'.cell? ⟨b,o,none⟩=some v):
  Left (bo β h) S β w S' β w' h:=by
 have hle:S.le S':=fun b o v hv=>by rw[hS b (hw.lt hv)];exact hv
 refine⟨hle,eb.refl β,fun b o v hv=>?_,⟨hb.size,hb.os,hb.output,hb.tape,hd⟩,fun b hlt _=>⟨hb.block b hlt,hS b hlt⟩,hh.below (fun b hlt=>⟨hb.block b hlt,hS b hlt⟩) hle,fun b hb=>.inl hb⟩;rcases EC b w.heap.size with hlt|hge
 ·rw[hS b hlt]at hv;rw[cell_of_heap (hb.block b hlt)];exact hw b o v hv
 ·exact hnew b o v hge hv
theorem dl(hw:Wf S w)(hh:bO S β w h)(hb:Below w.heap.size w w')(hd:Dr.on->w.drawn<=w'.drawn){r:AV}{v:Value}(hv:VR S β r v):cM none S β h w (.ok r h) (.returned v) w':=
 ⟨S,β,v,rfl,hv,mg hw hh hb hd (fun _ _ _=>rfl) (fun b o v hge hv=>by have:=hw.lt hv;omega),fun sz hsz=>by cases hsz⟩
theorem tW(hw:Wf S w)(hh:bO S β w h)(hb:Below w.heap.size w w')(hd:Dr.on->w.drawn<=w'.drawn){n:Nat}{x:Array Value}(hr:Row w' n x)(hn:w.heap.size<=n){r:AV}{v:Value}(hv:VR (S.withRowTo n x.size x) β r v):cM none S β h w (.ok r h) (.returned v) w':=
 ⟨_,β,v,rfl,hv,mg hw hh hb hd (fun b hlt o=>by unfold ar.withRowTo;rw[if_neg (by omega)]) (fun b o v hge hv=>by
  by_cases hbn:b=n
  ·subst hbn;unfold ar.withRowTo at hv;rw[Es rfl]at hv;split at hv
   ·rw[hr.cell];exact hv
   ·cases hv
  ·unfold ar.withRowTo at hv;rw[if_neg hbn]at hv
   have:=hw.lt hv;omega),fun sz hsz=>by cases hsz⟩
omit [Dr]in
theorem xu(S:ar)(β:List a6)(n:Nat)(l:List ByteArray)(ls:List (List UInt8))(hl:l.map (·.data.toList)=ls):VR (S.withRowTo n (l.map Value.string).toArray.size (l.map Value.string).toArray) β (.sl (ls.map .str)) (.slice (some ⟨n,0,none⟩) l.length l.length):=by
 subst hl;simp only[VR,ET];refine⟨some ⟨n,0,none⟩,l.length,rfl,En _,(fun h=>by cases h),fun q hq=>?_⟩;simp only[Ek]at hq;subst hq;refine⟨fun _=>rfl,1,.of_get fun i e he=>?_⟩;simp only[FP,Fj,Fl,Function.comp]at he;obtain⟨s,hs,rfl⟩:=he;refine⟨.string s,by simp only[VR];exact⟨s,rfl,rfl⟩,rfl,fun j v hj=>?_⟩;have hlt:i<l.length:=by
  rcases EC i l.length with h|h
  ·exact h
  ·rw[Eu h]at hs;cases hs
 rw[show (Value.string s).cells.toList=[Value.string s]from rfl]at hj;cases j with
 |succ j=>simp at hj
 |zero=>
  simp only[EP,Ek]at hj;subst hj;unfold ar.withRowTo;simp[hlt];rw[Ex hlt]at hs;simpa using hs
end
end Go.Av
namespace Go.Av
variable [Dr]
def fP:(FuncId->List AV->M AV)->List AV->M AV:=fun _ args=>match args with
 |[.str s,.str t]=>ah (bif decide (s.length<4294967281)then some (.bool (Lib.contains s t))else none)
 |_=>M.fail
def lj:(FuncId->List AV->M AV)->List AV->M AV:=fun _ args=>match args with
 |[.str s]=>ah (bif decide (s.length<4294967281)&&s.all (fun b=>decide (b.toNat<128))then some (.sl ((Lib.fields s).map .str))else none)
 |_=>M.fail
def uj:List AV->Option Nat
 |[.hp l off]=>bif Nat.beq off 0 then some l else none
 |_=>none
omit [Dr]in
theorem qz{args:List AV}{l:Nat}(h:uj args=some l):args=[.hp l 0]:=by
 unfold uj at h;split at h
 ·rename_i l' off;cases ho:Nat.beq off 0 with
  |false=>rw[ho]at h;cases h
  |true=>
   rw[ho]at h;cases h;rw[Eo ho]
 ·cases h
def C5(ok:List (Nat×Nat))(l:Nat):List AV->Option (List AV)
 |.nilb t:: x:: r=>bif ok.any (fun p=>Nat.beq p.1 t&&Nat.ble p.2 (r.length+2))then some (.hp l 0:: x:: r)else none
 |.hp l' k:: r=>bif Nat.beq l' l&&Nat.beq k 0 then some (.hp l' k:: r)else none
 |_=>none
omit [Dr]in
theorem xP{ok:List (Nat×Nat)}{l:Nat}{cs cs':List AV}(h:C5 ok l cs=some cs'):(∃t x r,cs= .nilb t:: x:: r/\cs'= .hp l 0:: x:: r/\∃n,(t,n)∈ok/\n<=r.length+2)\/(∃r,cs= .hp l 0:: r/\cs'=cs):=by
 unfold C5 at h;split at h
 ·rename_i t x r;cases ho:ok.any (fun p=>Nat.beq p.1 t&&Nat.ble p.2 (r.length+2))with
  |false=>rw[ho]at h;cases h
  |true=>
   rw[ho]at h;cases h;obtain⟨p,hp,hq⟩:=List.any_eq_true.1 ho;rw[Em]at hq;refine .inl ⟨t,x,r,rfl,rfl,p.2,?_,Gm hq.2⟩;rw[<- Eo hq.1];exact hp
 ·rename_i l' k r;cases ho:(Nat.beq l' l&&Nat.beq k 0)with
  |false=>rw[ho]at h;cases h
  |true=>
   rw[ho]at h;cases h;rw[Em]at ho;have h1:=Eo ho.1;have h2:=Eo ho.2;subst h1 h2;exact .inr ⟨r,rfl,rfl⟩
 ·cases h
def gd(ok:List (Nat×Nat)):(FuncId->List AV->M AV)->List AV->M AV:=fun _ args h=>match uj args with
 | some l=>(match h[l]? with
  |some cs=>(match C5 ok l cs with
   |some cs'=>.ok (.tup []) (h.set l cs')
   |none=>.fail)
  |none=>.fail)
 |none=>.fail
def vQ(e:Nat):AV->Option UInt8
 |.byt t n=>bif Nat.beq t e&&decide (0<=n)&&decide (n<256)then some (UInt8.ofNat n.toNat)else none
 |_=>none
def iI(e:Nat):List AV->Option (List UInt8)
 |[]=>some []
 |x:: r=>match vQ e x,iI e r with
  |some b,some l=>some (b:: l)
  |_,_=>none
def stA:List AV->Option (Option (Nat×Nat))
 |.hp _ _:: .hs lb off len sz ag:: _=>bif Nat.beq off 0&&Nat.beq sz 1&&!ag&&Nat.blt 0 len&&Nat.ble len 140737488355328 then some (some (lb,len))else none
 |_:: .hn:: _=>some none
 |_=>none
omit [Dr]in
theorem xp{cs:List AV}{lb len:Nat}(h:stA cs=some (some (lb,len))):∃x r,cs=x:: .hs lb 0 len 1 false:: r/\0<len/\len<=140737488355328:=by
 unfold stA at h;split at h
 ·rename_i l k lb' off len' sz ag r;cases ho:(Nat.beq off 0&&Nat.beq sz 1&&!ag&&Nat.blt 0 len'&&Nat.ble len' 140737488355328)with
  |false=>rw[ho]at h;cases h
  |true=>
   rw[ho]at h;cases h;simp only[Em,E8]at ho;obtain⟨⟨⟨⟨h1,h2⟩,h3⟩,h4⟩,h5⟩:=ho;have h1:=Eo h1;have h2:=Eo h2;subst h1 h2 h3;exact⟨_,r,rfl,Gm h4,Gm h5⟩
 ·cases h
 ·cases h
omit [Dr]in
theorem xo{cs:List AV}(h:stA cs=some none):∃x r,cs=x:: .hn:: r:=by
 unfold stA at h;split at h
 ·rename_i l k lb' off len' sz ag r;cases ho:(Nat.beq off 0&&Nat.beq sz 1&&!ag&&Nat.blt 0 len'&&Nat.ble len' 140737488355328)with
  |false=>rw[ho]at h;cases h
  |true=>rw[ho]at h;cases h
 ·exact⟨_,_,rfl⟩
 ·cases h
def dW(e:Nat):(FuncId->List AV->M AV)->List AV->M AV:=fun _ args h=>match uj args with
 | some l=>(match h[l]? with
  | some cs=>(match stA cs with
   |some none=>.ok (.str []) h
   | some (some (lb,len))=>(match h[lb]? with
    |some bs=>(match (bif Nat.ble len bs.length then iI e (bs.take len)else none)with
     |some s=>.ok (.str s) (h.set lb [])
     |none=>.fail)
    |none=>.fail)
   |none=>.fail)
  |none=>.fail)
 |none=>.fail
def qq:AV->Option (List UInt8×Int×List AV)
 |.agg [.str n,.int .i64 k,.sl fs]=>some (n,k,fs)
 |_=>none
def ep:List AV->Option (List (List UInt8×Int×List AV))
 |[]=>some []
 |x:: r=>match qq x,ep r with
  |some z,some l=>some (z:: l)
  |_,_=>none
def cj{α:Type}(p:α->Bool):List α->Option α
 |[]=>none
 |z:: r=>match cj p r with
  |some y=>some y
  |none=>bif p z then some z else none
def su(l:List (List UInt8×Int×List AV))(name:List UInt8):AV:=match cj (fun z=>z.1== name) l with
 |some z=>.tup [.agg [.int .i64 z.2.1,.sl z.2.2],.bool true]
 |none=>.tup [.agg [.int .i64 0,.sl []],.bool false]
def ig:(FuncId->List AV->M AV)->List AV->M AV:=fun _ args=>match args with
 |[.sl es,.str name]=>(match ep es with
  |some l=>ah (bif decide (l.length<=1000000000)then some (su l name)else none)
  |none=>M.fail)
 |_=>M.fail
omit [Dr]in
theorem m9{α:Type}(p:α->Bool)(l:List α):cj p l=l.reverse.find? p:=by
 induction l with
 |nil=>rfl
 |cons z r ih=>
  simp only[cj,ih,List.reverse_cons,List.find?_append];cases r.reverse.find? p with
  |some y=>rfl
  |none=>cases h:p z<;>simp[h]
end Go.Av
namespace Go.Av
variable [Dr]
open Go.RowKit
def tY:Nat->Nat->List UInt8
 |0,_=>[]
 |f+1,u=>bif decide (u<10)then[UInt8.ofNat (48+u)]else tY f (u / 10)++[UInt8.ofNat (48+u % 10)]
omit [Dr]in
theorem oV:∀(f u:Nat),u<10 ^ (f+1)->tY (f+1) u=Lib.decDigits u
 | f,u,h=>by
  rw[Lib.decDigits];rw[show tY (f+1) u=bif decide (u<10)then[UInt8.ofNat (48+u)]else tY f (u / 10)++[UInt8.ofNat (48+u % 10)]from rfl];by_cases h10:u<10
  ·rw[dif_pos h10,FF h10];rfl
  ·rw[dif_neg h10,Hr h10];cases f with
   |zero=>omega
   |succ f=>rw[oV f (u / 10) (by rw[Nat.pow_succ]at h;omega)];rfl
def wF(n:Int):List UInt8:=bif decide (n<0)then 45:: tY 20 n.natAbs else tY 20 n.toNat
omit [Dr]in
theorem wG{n:Int}(h0:-9223372036854775808<=n)(h1:n<=9223372036854775807):wF n=Lib.itoa n:=by
 unfold wF Lib.itoa;by_cases h:n<0
 ·rw[FF h,Es h];simp only[El];rw[oV 19 n.natAbs (by omega)]
 ·rw[Hr h,if_neg h];simp only[Ep];rw[oV 19 n.toNat (by omega)]
def tc:(FuncId->List AV->M AV)->List AV->M AV:=fun _ args=>match args with
 |[.int .i64 n]=>ah (bif decide (-9223372036854775808<=n)&&decide (n<=9223372036854775807)then some (.str (wF n))else none)
 |_=>M.fail
end Go.Av
namespace Go.Av
open Go.RowKit Go.Sort Go.Proofs
section
variable [Dr]
theorem Left.grew(hd:Dr.on){S S':ar}{β β':List a6}{w w':World}{h':Hp}(L:Left (bo [] []) S β w S' β' w' h'):∃q os,w'=grow (w.drewN q) os:=by
 have hg:=L.gro;have hd:=hg.cnt hd;have hk:∀b,b<w.heap.size->w'.heap[b]? = w.heap[b]?:=fun b hb=>(L.keep b hb (by rintro⟨l,_,_,h1,_⟩;simp at h1)).1;refine⟨w'.drawn-w.drawn,w'.heap.extract w.heap.size w'.heap.size,?_⟩;have e1:w.heap++w'.heap.extract w.heap.size w'.heap.size=w'.heap:=by
  apply G4;intro i;by_cases hi:i<w.heap.size
  ·rw[FM hi,hk i hi]
  ·rw[Array.getElem?_append_right (by omega),Array.getElem?_extract];split
   ·rw[show w.heap.size+(i-w.heap.size)=i by omega]
   ·rw[Fb (by omega)]
 have e2:w.drawn+(w'.drawn-w.drawn)=w'.drawn:=by omega
 obtain⟨h1,h2,h3,h4,h5⟩:=w';obtain⟨g1,g2,g3,g4,g5⟩:=w;have a1:=hg.os;have a2:=hg.out;have a3:=hg.tape;simp only at a1 a2 a3 e1 e2;unfold grow World.drewN;simp only[e1,e2,a1,a2,a3]
end
theorem kI{α β:Type}(f:α->List β)(k:Nat)(hk:∀x,(f x).length=k)(hp:0<k):∀(l:List α)(t:Nat),(l.map f).flatten[t]? = (l[t / k]?).bind fun x=>(f x)[t % k]?
 |[],t=>by simp
 | x:: l,t=>by
  simp only[EN,GH];by_cases h:t<k
  ·rw[Ey (by rw[hk];exact h),Nat.div_eq_of_lt h,Gq h];simp
  ·rw[EJ (by rw[hk];omega),hk,kI f k hk hp l (t-k)];rw[Nat.div_eq_sub_div hp (by omega:k<=t),Nat.mod_eq_sub_mod (by omega:k<=t)];simp
theorem kJ{α β:Type}(f:α->List β)(k:Nat)(hk:∀x,(f x).length=k):∀(l:List α),(l.map f).flatten.length=l.length*k
 |[]=>by simp
 |x:: l=>by simp only[EN,GH,EV,hk,kJ f k hk l,EG,Ga];omega
section
variable {α:Type} [Inhabited α]
theorem lT(enc:α->List Value)(k:Nat)(hk:∀x,(enc x).length=k)(hp:0<k)(d:Array α):(flatK enc k d).toList=(d.toList.map enc).flatten:=by
 apply GF;intro t;rw[kI enc k hk hp];by_cases ht:t<d.size*k
 ·have hd:t / k<d.size:=by rw[Nat.div_lt_iff_lt_mul hp];exact ht
  have hm:t % k<k:=Hu _ hp;have h1:=get_flatK enc k d t ht;rw[EI (flatK enc k d) t (by rw[size_flatK];exact ht),EI d _ hd,EI (enc _) _ (by rw[hk];exact hm)]at h1;rw[Ex (by simpa using ht),Array.getElem_toList,h1,EL,EO hd];simp only[FX];rw[Ex (by rw[hk];exact hm)]
 ·rw[Eu (by simp only[Fa,size_flatK];omega),Eu (by simp only[Fa];rw[Nat.le_div_iff_mul_le hp];omega)];rfl
theorem nd(F x:Array Value)(off:Nat)(hf:off+F.size<=x.size):putCells id off F x=(x.toList.take off++F.toList++x.toList.drop (off+F.size)).toArray:=by
 apply G4;intro t;unfold putCells;simp only[Array.getElem?_mapIdx,Ff];by_cases h1:t<off
 ·rw[Ey (by simp;omega),Ey (by simp;omega),Ev,Es h1,EL,EO (by omega)];simp only[Fo];rw[if_neg (by omega)]
 ·by_cases h2:t<off+F.size
  ·rw[Ey (by simp;omega),EJ (by simp;omega)];have e:(x.toList.take off).length=off:=by simp;omega
   rw[e,EO (by omega:t<x.size),EL,EO (by omega:t-off<F.size)];simp only[Fo,id];rw[Es ⟨by omega,h2⟩,EI F _ (by omega)]
  ·have e:(x.toList.take off++F.toList).length=off+F.size:=by simp;omega
   rw[EJ (by rw[e];omega),e,Fe,EL,show off+F.size+(t-(off+F.size))=t by omega];cases x[t]? with
   |none=>rfl
   |some y=>simp only[Fo];rw[if_neg (by omega)]
theorem xl{w:World}{b:Nat}{x:Array Value}(hr:Row w b x)(enc:α->List Value)(k off n:Nat)(d:Array α)(os:Array Obj)(hf:off+d.size*k<=x.size):
  Row (sortWorldK enc k w b off n d os) b (x.toList.take off++(flatK enc k d).toList++x.toList.drop (off+(flatK enc k d).size)).toArray:=by
 have hlt:=hr.lt;obtain⟨e,he⟩:=hr;refine⟨e,?_⟩;rw[<- nd (flatK enc k d) x off (by rw[size_flatK];exact hf)];show ((w.heap.modify b (onCells (putCells id off (flatK enc k d))))++os)[b]? = _;rw[FM (by simpa using hlt),Gl,Es rfl,he];rfl
theorem mM{w:World}{b b':Nat}(enc:α->List Value)(k off n:Nat)(d:Array α)(os:Array Obj)(hlt:b'<w.heap.size)(hb:b'≠b):(sortWorldK enc k w b off n d os).heap[b']? = w.heap[b']?:=by
 show ((w.heap.modify b (onCells (putCells id off (flatK enc k d))))++os)[b']? = _;rw[FM (by simpa using hlt),Gl,if_neg (fun h=>hb h.symm)]
theorem xk[Dr]{w:World}{b:Nat}(enc:α->List Value)(k off n:Nat)(d:Array α)(os:Array Obj):Gro w (sortWorldK enc k w b off n d os):=by
 refine⟨?_,rfl,rfl,rfl,fun _=>?_⟩
 ·show _<=((w.heap.modify b (onCells (putCells id off (flatK enc k d))))++os).size;simp
 ·show w.drawn<=w.drawn+n;omega
end
section
variable [Dr] {S:ar} {β:List a6} {h:Hp} {w w':World}
theorem wI(hw:Wf S w)(hh:bO S β w h){l b nb off:Nat}{cs acs:List AV}{vs:List Value}(hcs:h[l]? = some cs)(hne:cs≠[])(hb:β[l]? = some (b,nb))(hb0:nb≠0)(hvs:aH S β acs vs)(hle:off+acs.length<=cs.length)(hoc:cs.all aL=true)(hoa:acs.all aL=true)(hg:Gro w w')(hr:∀x,Row w b x->cs.length<=x.size->Row w' b (x.toList.take off++vs++x.toList.drop (off+vs.length)).toArray)(ho:∀b',b'<w.heap.size->b'≠b->w'.heap[b']? = w.heap[b']?):
  Left (bo β h) S β w S β w' (h.set l (setCells cs off acs)):=by
 obtain⟨hlen,ω,hH⟩:=hh;obtain⟨z,j1,j2,j3,j4,j5⟩:=dC.cells hH hcs hne hb hb0;rw[hb]at j1;cases j1;have hvl:=hvs.length;have hzs:cs.length<=z.size:=by
  have:=j4.length
  simp at this;omega
 have hrow:=hr z j2 hzs;have hll:l<h.length:=by
  rcases EC l h.length with k|k
  ·exact k
  ·rw[Eu k]at hcs;cases hcs
 have hown:∀b',bo β (h.set l (setCells cs off acs)) b'->bo β h b':=by
  rintro b' ⟨l',cs',n,k1,k2,k3⟩;by_cases hl:l'=l
  ·subst hl;exact⟨l',cs,n,hcs,hne,k3⟩
  ·rw[List.getElem?_set_ne (fun e=>hl e.symm)]at k1;exact⟨l',cs',n,k1,k2,k3⟩
 refine⟨ar.le_refl S,eb.refl β,fun b' o v hv=>?_,hg,fun b' hb' hE=>?_,⟨by simpa using hlen,ω,dC.rows hH (ar.le_refl S) (eb.refl β) hlen fun l' cs' hl' hne'=>?_⟩,fun b' hb'=>.inl (hown b' hb')⟩
 ·have hne2:b'≠b:=by rintro rfl;rw[j5]at hv;cases hv
  rw[cell_of_heap (ho b' (hw.lt hv) hne2)];exact hw b' o v hv
 ·have hne2:b'≠b:=by rintro rfl;exact hE ⟨l,cs,_,hcs,hne,hb⟩
  exact⟨ho b' hb' hne2,fun _=>rfl⟩
 ·by_cases hl:l'=l
  ·subst hl;rw[FZ hll]at hl';cases hl';refine .inr ⟨b,_,?_,hrow,j3,?_,j5,fun t ht=>?_⟩
   ·rw[hb];simp;omega
   ·rw[dI _ _ _ (by omega)];have hsp:aH S β (setCells cs off acs) (((z.toList.take cs.length).take off++vs++(z.toList.take cs.length).drop (off+vs.length))):=by
     unfold setCells;rw[hvl];exact ((j4.take off).append hvs).append (j4.drop _)
    have heq:(z.toList.take off++vs++z.toList.drop (off+vs.length)).take cs.length=
      (z.toList.take cs.length).take off++vs++(z.toList.take cs.length).drop (off+vs.length):=by
     rw[Gb,Gb];have e1:(z.toList.take off).length=off:=by simp;omega
     rw[FN,FN];have e2:min cs.length off=off:=by omega
     have e3:min off cs.length=off:=by omega
     rw[e2,e3,e1];have e4:vs.take (cs.length-off)=vs:=FL (by omega);rw[e4];congr 1;rw[Ht,EV,e1];congr 2;omega
    show aH S β _ (List.take _ _);rw[show (z.toList.take off++vs++z.toList.drop (off+vs.length)).toArray.toList=(z.toList.take off++vs++z.toList.drop (off+vs.length))from rfl,heq];exact hsp
   ·rcases ht.setCells with g|g
    ·exact absurd g (fW hoc t)
    ·exact absurd g (fW hoa t)
  ·rw[List.getElem?_set_ne (fun e=>hl e.symm)]at hl';refine .inl ⟨hl',fun b2 hlt hω=>⟨hω,ho b2 hlt ?_,fun o=>id⟩⟩;rintro rfl;rw[j3]at hω;cases hω;exact hl rfl
end
theorem Eg{S:ar}{β:List a6}:{ps qs:List AV} ->{vs:List Value} ->aH S β (ps++qs) vs->∃u v,vs=u++v/\aH S β ps u/\aH S β qs v
 |[],_,vs,h=>⟨[],vs,rfl,by simp[aH],h⟩
 |_:: ps,qs,vs,h=>by
  simp only[EZ,aH]at h;obtain⟨x,xs,rfl,h1,h2⟩:=h;obtain⟨u,v,rfl,h3,h4⟩:=Eg h2;exact⟨x:: u,v,rfl,by simp only[aH];exact⟨x,u,rfl,h1,h3⟩,h4⟩
section
variable [Dr] {α:Type} [Inhabited α] {P:Program}
end
end Go.Av
namespace Go.Av
open Go.RowKit Go.Sort Go.Proofs
def cO{α:Type}(k:Nat)(l:List α)(i:Nat):List α:=(l.drop (i*k)).take k
def nE{α:Type}{k n:Nat}{l:List α}(h:l.length=n*k){i:Nat}(hi:i<n):(cO k l i).length=k:=by
 have:i*k+k<=n*k:=by rw[<- Ga];exact EA _ hi
 simp only[cO,Fp,Hi,h];omega
theorem lE{α:Type}{k:Nat}:(n:Nat)->{l:List α} ->l.length=n*k->((List.range n).map fun i=>cO k l i).flatten=l
 |0,l,h=>by simp at h;simp[h]
 | n+1,l,h=>by
  rw[List.range_succ_eq_map,EN,FP,GH];have e:((fun i=>cO k l i) ∘ Nat.succ)=fun i=>cO k (l.drop k) i:=by
   funext i;simp only[Function.comp,cO,GE,Ga];congr 2;omega
  rw[e,lE n (l:=l.drop k) (by rw[Hi,h,Ga];omega)];simp[cO,FO]
def aH.chunk{S:ar}{β:List a6}{cs:List AV}{vs:List Value}(h:aH S β cs vs)(k i:Nat):aH S β (cO k cs i) (cO k vs i):=(h.drop (i*k)).take k
def kb:List AV->Option (List UInt8)
 |.str s:: _=>some s
 |_=>none
def rT(x y:List UInt8):Int:=if aC x y=true then -1 else if aC y x=true then 1 else 0
def xE(keys:List (List UInt8))(n:Nat)(i j:Nat):Int:=rT keys[i % n]! keys[j % n]!
def dU(keys:List (List UInt8)):List Nat:=(pdq (ltOf (xE keys keys.length)) (Array.range keys.length) 0 (Array.range keys.length).size (Lib.bitLen (Array.range keys.length).size) true true).toList
def me:List (List AV)->Option (List (List UInt8))
 |[]=>some []
 | c:: r=>match kb c with
  |none=>none
  |some s=>match me r with
   |none=>none
   |some l=>some (s:: l)
theorem nV:{cs:List (List AV)} ->{ks:List (List UInt8)} ->me cs=some ks->ks.length=cs.length/\∀(i:Nat)(c:List AV),cs[i]? = some c->kb c=some ks[i]!
 |[],ks,h=>by
  cases h;exact⟨rfl,fun i c hc=>by simp at hc⟩
 | c:: r,ks,h=>by
  unfold me at h;cases hc:kb c with
  |none=>rw[hc]at h;cases h
  | some s=>
   rw[hc]at h;simp only at h;cases hr:me r with
   |none=>rw[hr]at h;cases h
   |some l=>
    rw[hr]at h;cases h;obtain⟨h1,h2⟩:=nV hr;refine⟨by simp[h1],fun i d hd=>?_⟩;cases i with
    |zero=>simp at hd;subst hd;simpa using hc
    |succ i=>simpa using h2 i d (by simpa using hd)
theorem qI{nm:List AV->List UInt8}:{cs:List (List AV)} ->(∀c∈cs,kb c=some (nm c))->me cs=some (cs.map nm)
 |[],_=>rfl
 |c:: r,h=>by simp[me,h c (by simp),qI (cs:=r) fun d hd=>h d (by simp[hd])]
def keysOf(k n:Nat)(row:List AV):Option (List (List UInt8)):=me ((List.range n).map fun i=>cO k row i)
def eq(k g:Nat):(FuncId->List AV->M AV)->List AV->M AV:=fun _ args h=>match args with
 |[.sl [],.fn (.func g') [] []]=>bif Nat.beq g' g then .ok (.tup []) h else .fail
 |[.hn,.fn (.func g') [] []]=>bif Nat.beq g' g then .ok (.tup []) h else .fail
 | [.hs l off len sz _,.fn (.func g') [] []]=>match h[l]? with
  |none=>.fail
  |some cs=>match keysOf k len ((cs.drop off).take (len*k))with
   |none=>.fail
   | some keys=>bif Nat.beq g' g&&Nat.beq sz k&&decide (0<len)&&decide (0<k)&&decide (off+len*k<=cs.length)&&decide (keys.length=len)&&decide (len<4611686018427387904)&&decide ((dU keys).length=len)&&cs.all aL
     then .ok (.tup []) (h.set l (setCells cs off ((dU keys).map fun i=>cO k ((cs.drop off).take (len*k)) (i % len)).flatten))else .fail
 |_=>.fail
section
variable [Dr] {P:Program}
omit [Dr]in
theorem un{S:ar}{β:List a6}{c:List AV}{s:List UInt8}{vs:List Value}(h:kb c=some s)(hv:aH S β c vs):∃(x:ByteArray)(r:List Value),vs= .string x:: r/\x.data.toList=s:=by
 unfold kb at h;split at h
 ·cases h;simp only[aH,VR]at hv;obtain⟨v,r,rfl,⟨x,rfl,hx⟩,_⟩:=hv;exact⟨x,r,rfl,hx⟩
 ·cases h
omit [Dr]in
theorem nq{k i:Nat}{l:List AV}{p:AV->Bool}(h:l.all p=true):(cO k l i).all p=true:=by
 rw[Et]at h|-;exact fun x hx=>h x (Gr (FI hx))
theorem wA{f k g:Nat}(call:FuncId->List AV->M AV)
  (hcal:∀(w:World)(blk off cap:Nat)(keys:List (List UInt8))(ev:Nat->List Value),0<keys.length->(∀i,(ev i).length=k)->(∀i,∀v∈ev i,v.oneCell'=true)->(∀i,∃(x:ByteArray)(r:List Value),ev i= .string x:: r/\x.data.toList=keys[i % keys.length]!)->
   GOKw w->gN<=blk->HoldsK ev k w blk off (Array.range keys.length)->blk<w.heap.size->keys.length<4611686018427387904->
   Calls P f #[.slice (some ⟨blk,off,none⟩) keys.length cap,.func (.func g) #[] #[]] w fun e w'=>e= .returned (.tuple #[])/\∃n os,w'=sortWorldK ev k w blk off n (dU keys).toArray os)
  {l off len sz g':Nat} {ag:Bool} {h:Hp} {S:ar} {β:List a6} {w:World} {vs:List Value} (hr:eq k g call [.hs l off len sz ag,.fn (.func g') [] []] h≠.fail) (hg:mU β h w) (hw:Wf S w) (hh:bO S β w h)
  (hv:aH S β [.hs l off len sz ag,.fn (.func g') [] []] vs):Calls P f vs.toArray w (cM none S β h w (eq k g call [.hs l off len sz ag,.fn (.func g') [] []] h)):=by
 unfold eq at hr |-;simp only at hr |-;cases hl:h[l]? with
 |none=>rw[hl]at hr;exact absurd rfl hr
 | some cs=>
  rw[hl]at hr;simp only at hr |-;generalize hrow:(cs.drop off).take (len*k)=row at hr |-;cases hd:keysOf k len row with
  |none=>rw[hd]at hr;exact absurd rfl hr
  | some keys=>
   rw[hd]at hr;simp only at hr |-;cases hc:(Nat.beq g' g&&Nat.beq sz k&&decide (0<len)&&decide (0<k)&&decide (off+len*k<=cs.length)&&decide (keys.length=len)&&decide (len<4611686018427387904)&&decide ((dU keys).length=len)&&cs.all aL)with
   |false=>rw[hc]at hr;exact absurd rfl hr
   | true=>
    simp only[Em,Ew]at hc;obtain⟨⟨⟨⟨⟨⟨⟨⟨c1,c2⟩,c3⟩,hpos⟩,c4⟩,c5⟩,c6⟩,c7⟩,c8⟩:=hc;obtain rfl:=Eo c1;obtain rfl:=Eo c2;simp only[El];have hlk:0<len*sz:=Gf c3 hpos;have hne:cs≠[]:=by rintro rfl;simp at c4;omega
    simp only[aH]at hv;obtain⟨v1,r1,rfl,hv1,v2,r2,rfl,hv2,rfl⟩:=hv;obtain⟨⟨b,nb⟩,cap,hb,hb0,rfl,k1,k2⟩:=hv1.hs_pos c3;simp only[VR,aH]at hv2;obtain⟨y1,y2,rfl,rfl,rfl⟩:=hv2;have hh':=hh;obtain⟨hlen,ω,hH⟩:=hh;obtain⟨z,j1,j2,j3,j4,j5⟩:=dC.cells hH hl hne hb hb0;rw[hb]at j1;cases j1;have hzs:cs.length<=z.size:=by
     have:=j4.length
     simp at this;omega
    have hown:bo β h b:=⟨l,cs,_,hl,hne,hb⟩;have hgb:gN<=b:=by
     rcases EC b gN with k|k
     ·exact absurd hown (hg.2 b k)
     ·exact k
    have hrl:row.length=len*sz:=by rw[<- hrow,Fp,Hi];omega
    have hvx:=(j4.drop off).take (len*sz);rw[hrow]at hvx;generalize hvr:(((z.toList.take cs.length).drop off).take (len*sz))=vr at hvx;have hvl:vr.length=len*sz:=by rw[hvx.length,hrl]
    have hro:row.all aL=true:=by
     rw[Et]at c8 |-;rw[<- hrow];exact fun x hx=>c8 x (Gr (FI hx))
    have hmod:∀i,i % len<len:=fun i=>Hu _ c3;obtain⟨hk1,hk2⟩:=nV hd;let ev:Nat->List Value:=fun i=>cO sz vr (i % len);have hev:∀i,(ev i).length=sz:=fun i=>nE hvl (hmod i);have hea:∀i,(cO sz row (i % len)).length=sz:=fun i=>nE hrl (hmod i);have hre:∀i,aH S β (cO sz row (i % len)) (ev i):=fun i=>hvx.chunk sz (i % len);have hrange:(List.range len).map ev=(List.range len).map fun i=>cO sz vr i:=FW fun i hi=>by
     show cO sz vr (i % len)=_;rw[Gq (List.mem_range.1 hi)]
    have hflat:(flatK ev sz (Array.range keys.length)).toList=vr:=by
     rw[lT ev sz hev hpos,Array.toList_range,c5,hrange,lE len hvl]
    have hsz:(flatK ev sz (Array.range keys.length)).size=len*sz:=by rw[size_flatK];simp[c5]
    have hholds:HoldsK ev sz w b off (Array.range keys.length):=by
     intro j hj;rw[hsz]at hj;have e1:(flatK ev sz (Array.range keys.length))[j]! = z[off+j]'(by omega):=by
      have h1:(flatK ev sz (Array.range keys.length)).toList[j]? = z.toList[off+j]?:=by
       rw[hflat,<- hvr,Ev,Es hj,Fe,Ev,Es (by omega)]
      rw[EL,EL,EO (by omega),EO (by omega)]at h1;rw[EI _ j (by omega)];exact Option.some.inj h1
     rw[e1];refine⟨by rw[j2.cell,EO (by omega)];rfl,?_⟩;obtain⟨e,he⟩:=j2;simp[World.frozen?,he]
    have hkey:∀i,∃(x:ByteArray)(r:List Value),ev i= .string x:: r/\x.data.toList=keys[i % keys.length]!:=fun i=>by
     refine un ?_ (hre i);rw[c5];exact hk2 (i % len) _ (by rw[Fj,List.getElem?_range (hmod i)];rfl)
    have hone:∀i,∀v∈ev i,v.oneCell'=true:=fun i=>wU (hre i) (nq hro);have hcall:=hcal w b off cap keys ev (by omega) hev hone hkey hg.1 hgb hholds j2.lt (by omega);rw[c5]at hcall;refine hcall.mono ?_;rintro e w' ⟨rfl,n,os,rfl⟩;have hfl2:=lT ev sz hev hpos (dU keys).toArray;have hs2:(flatK ev sz (dU keys).toArray).size=len*sz:=by rw[size_flatK];simp[c7]
    have hal:((dU keys).map fun i=>cO sz row (i % len)).flatten.length=len*sz:=by rw[kJ (fun i=>cO sz row (i % len)) sz hea,c7]
    have hvv:∀p:List Nat,aH S β (p.map fun i=>cO sz row (i % len)).flatten (p.map ev).flatten:=by
     intro p
     induction p with
     |nil=>simp[aH]
     |cons i p ih=>simp only[EN,GH];exact (hre i).append ih
    have hok:((dU keys).map fun i=>cO sz row (i % len)).flatten.all aL=true:=by
     rw[List.all_flatten,List.all_map];exact Et.2 fun i _=>nq hro
    refine⟨S,β,_,rfl,by simp only[VR,aH];exact⟨[],rfl,rfl⟩,wI (vs:=(flatK ev sz (dU keys).toArray).toList) hw hh' hl hne hb hb0 (by rw[hfl2];exact hvv _) (by rw[hal];exact c4) c8 hok (xk ev sz off n _ os) (fun x hx hle=>?_) (fun b' hlt hne2=>mM ev sz off n _ os hlt hne2),fun _ hsz=>by cases hsz⟩
    have:=xl hx ev sz off n (dU keys).toArray os (by simp only[FS,c7];omega)
    exact this
end
end Go.Av
namespace Go.Av.Ap
abbrev bI:=List UInt8
inductive Val where
 |mk (kind n:Int) (names:List bI) (values:List Val)
instance:Inhabited Val:=⟨.mk 0 0 [] []⟩
inductive Exp where
 |mk (op n:Int) (s m:bI) (names:List bI) (args:List Exp)
instance:Inhabited Exp:=⟨.mk 0 0 [] [] [] []⟩
inductive Ty where
 |mk (kind:Int) (fields:List (bI×Ty))
instance:Inhabited Ty:=⟨.mk 0 []⟩
abbrev dV:=bI×Ty
structure Fun where
 name:bI
 pub:Bool
 params:List dV
 result:Ty
 effects:Int
 body:Exp
 deriving Inhabited
structure Mod where
 name:bI
 uses:List bI
 vars:List dV
 init:List Exp
 funcs:List Fun
 moves:Bool
 old:List dV
 forward:List Exp
 back:List Exp
 deriving Inhabited
def Val.kind:Val->Int|.mk k _ _ _=>k
def Val.n:Val->Int|.mk _ n _ _=>n
def Val.names:Val->List bI|.mk _ _ ns _=>ns
def Val.values:Val->List Val|.mk _ _ _ vs=>vs
def Exp.op:Exp->Int|.mk o _ _ _ _ _=>o
def Exp.n:Exp->Int|.mk _ n _ _ _ _=>n
def Exp.s:Exp->bI|.mk _ _ s _ _ _=>s
def Exp.m:Exp->bI|.mk _ _ _ m _ _=>m
def Exp.names:Exp->List bI|.mk _ _ _ _ ns _=>ns
def Exp.args:Exp->List Exp|.mk _ _ _ _ _ es=>es
def Ty.kind:Ty->Int|.mk k _=>k
def Ty.fields:Ty->List dV|.mk _ fs=>fs
@[simp] theorem Ej(a b c d):(Val.mk a b c d).kind=a:=rfl
@[simp] theorem Val.n_mk(a b c d):(Val.mk a b c d).n=b:=rfl
@[simp] theorem Ei(a b c d):(Val.mk a b c d).names=c:=rfl
@[simp] theorem Eh(a b c d):(Val.mk a b c d).values=d:=rfl
def Val.eta(v:Val):Val.mk v.kind v.n v.names v.values=v:=by cases v;rfl
def Exp.eta(e:Exp):Exp.mk e.op e.n e.s e.m e.names e.args=e:=by cases e;rfl
def Ty.eta(t:Ty):Ty.mk t.kind t.fields=t:=by cases t;rfl
def strs(l:List bI):AV:=.sl (l.map .str)
mutual
def Val.av:Val->AV
 |.mk k n ns vs=>.agg [.int .i64 k,.int .i64 n,strs ns,.sl (gy vs)]
def gy:List Val->List AV
 |[]=>[]
 |v:: vs=>v.av:: gy vs
end
mutual
def Exp.cells:Exp->List AV
 |.mk o n s m ns es=>[.int .i64 o,.int .i64 n,.str s,.str m,strs ns,.sl (eX es)]
def eX:List Exp->List AV
 |[]=>[]
 |e:: es=>.agg e.cells:: eX es
end
def Exp.av(e:Exp):AV:=.agg e.cells
mutual
def Ty.cells:Ty->List AV
 |.mk k fs=>[.int .i64 k,.sl (cZ fs)]
def cZ:List (bI×Ty)->List AV
 |[]=>[]
 |f:: fs=>bb f:: cZ fs
def bb:bI×Ty->AV
 |(n,t)=>.agg (.str n:: t.cells)
end
def Ty.av(t:Ty):AV:=.agg t.cells
def Fun.av(f:Fun):AV:=.agg ([.str f.name,.bool f.pub,.sl (cZ f.params)]++f.result.cells++[.int .i64 f.effects]++f.body.cells)
def bK(l:List Fun):AV:=.sl (l.map Fun.av)
def Mod.av(m:Mod):AV:=.agg [.str m.name,strs m.uses,.sl (cZ m.vars),.sl (eX m.init),bK m.funcs,.bool m.moves,.sl (cZ m.old),.sl (eX m.forward),.sl (eX m.back)]
def vals(l:List Val):AV:=.sl (gy l)
def ci(l:List Exp):AV:=.sl (eX l)
def aQ(l:List dV):AV:=.sl (cZ l)
def AJ(l:List Mod):AV:=.sl (l.map Mod.av)
def ints(l:List Int):AV:=.sl (l.map (.int .i64))
structure Vars where
 module:bI
 values:List Val
 deriving Inhabited
structure Deed where
 effect:Int
 arg:Int
 answer:Int
 deriving DecidableEq,Inhabited
structure Call where
 module:bI
 func:bI
 args:List Val
 deriving Inhabited
def Vars.av(v:Vars):AV:=.agg [.str v.module,vals v.values]
def Deed.av(d:Deed):AV:=.agg [.int .i64 d.effect,.int .i64 d.arg,.int .i64 d.answer]
def Call.av(c:Call):AV:=.agg [.str c.module,.str c.func,vals c.args]
def mS(l:List Vars):AV:=.sl (l.map Vars.av)
def deeds(l:List Deed):AV:=.sl (l.map Deed.av)
def calls(l:List Call):AV:=.sl (l.map Call.av)
structure Out where
 err:Int
 value:Val
 deeds:List Deed
 calls:List Call
 state:List Vars
def Out.av(o:Out):AV:=.agg [.int .i64 o.err,.int .i64 o.value.kind,.int .i64 o.value.n,strs o.value.names,vals o.value.values,Ap.deeds o.deeds,Ap.calls o.calls,mS o.state]
theorem mR:(l:List Val)->gy l=l.map Val.av
 |[]=>rfl
 |v:: l=>by simp[gy,mR l]
theorem fm:(l:List Exp)->eX l=l.map Exp.av
 |[]=>rfl
 |v:: l=>by simp[eX,fm l,Exp.av]
theorem cC:(l:List dV)->cZ l=l.map bb
 |[]=>rfl
 |v:: l=>by simp[cZ,cC l]
def Val.av_eq(v:Val):v.av= .agg [.int .i64 v.kind,.int .i64 v.n,strs v.names,vals v.values]:=by cases v;rfl
def Exp.cells_eq(e:Exp):e.cells=[.int .i64 e.op,.int .i64 e.n,.str e.s,.str e.m,strs e.names,ci e.args]:=by cases e;rfl
def Ty.cells_eq(t:Ty):t.cells=[.int .i64 t.kind,aQ t.fields]:=by cases t;simp[Ty.cells,aQ,Ty.kind,Ty.fields]
def fq(f:dV):bb f= .agg [.str f.1,.int .i64 f.2.kind,aQ f.2.fields]:=by obtain⟨n,t⟩:=f;simp[bb,Ty.cells_eq]
@[simp] theorem ly(v:Val):ab v.av=[.int .i64 v.kind,.int .i64 v.n,strs v.names,vals v.values]:=by rw[v.av_eq];rfl
@[simp] theorem cy(e:Exp):ab e.av=[.int .i64 e.op,.int .i64 e.n,.str e.s,.str e.m,strs e.names,ci e.args]:=by rw[Exp.av,e.cells_eq];rfl
@[simp] theorem cz(f:dV):ab (bb f)=[.str f.1,.int .i64 f.2.kind,aQ f.2.fields]:=by rw[fq];rfl
@[simp] theorem ca(t:Ty):ab t.av=[.int .i64 t.kind,aQ t.fields]:=by rw[Ty.av,t.cells_eq];rfl
@[simp] theorem dJ(f:Fun):ab f.av=[.str f.name,.bool f.pub,aQ f.params,.int .i64 f.result.kind,aQ f.result.fields,.int .i64 f.effects,.int .i64 f.body.op,.int .i64 f.body.n,.str f.body.s,.str f.body.m,strs f.body.names,ci f.body.args]:=by
 simp[Fun.av,ab,Ty.cells_eq,Exp.cells_eq,aQ]
@[simp] theorem cd(m:Mod):ab m.av=[.str m.name,strs m.uses,aQ m.vars,ci m.init,bK m.funcs,.bool m.moves,aQ m.old,ci m.forward,ci m.back]:=rfl
@[simp] theorem qu(v:Val):AV.agg [.int .i64 v.kind,.int .i64 v.n,strs v.names,vals v.values]=v.av:=(v.av_eq).symm
@[simp] theorem dG(e:Exp):AV.agg [.int .i64 e.op,.int .i64 e.n,.str e.s,.str e.m,strs e.names,ci e.args]=e.av:=by rw[Exp.av,e.cells_eq]
@[simp] theorem dv(t:Ty):AV.agg [.int .i64 t.kind,aQ t.fields]=t.av:=by rw[Ty.av,t.cells_eq]
@[simp] theorem fu(f:dV):AV.agg [.str f.1,.int .i64 f.2.kind,aQ f.2.fields]=bb f:=(fq f).symm
@[simp] theorem eM(f:Fun):AV.agg [.str f.name,.bool f.pub,aQ f.params,.int .i64 f.result.kind,aQ f.result.fields,.int .i64 f.effects,.int .i64 f.body.op,.int .i64 f.body.n,.str f.body.s,.str f.body.m,strs f.body.names,ci f.body.args]=f.av:=by
 simp[Fun.av,Ty.cells_eq,Exp.cells_eq,aQ]
@[simp] theorem ji(m:Mod):AV.agg [.str m.name,strs m.uses,aQ m.vars,ci m.init,bK m.funcs,.bool m.moves,aQ m.old,ci m.forward,ci m.back]=m.av:=rfl
theorem dq{α:Type}(g:Nat->Nat->Nat->Nat->Bool->AV)(f:α->AV)(h:∀x,cl g (f x)=f x):(l:List α)->dD g (l.map f)=l.map f
 |[]=>rfl
 |x:: l=>by simp[dD,h x,dq g f h l]
@[simp] theorem C9(g:Nat->Nat->Nat->Nat->Bool->AV)(l:List bI):cl g (strs l)=strs l:=by
 simp[strs,cl,dq g AV.str (fun _=>rfl) l]
@[simp] theorem C7(g:Nat->Nat->Nat->Nat->Bool->AV)(l:List Int):cl g (ints l)=ints l:=by
 simp[ints,cl,dq g (AV.int .i64) (fun _=>rfl) l]
mutual
theorem Val.cl_av(g:Nat->Nat->Nat->Nat->Bool->AV):(v:Val)->cl g v.av=v.av
 |.mk k n ns vs=>by simp[Val.av,cl,dD,pJ g vs]
theorem pJ(g:Nat->Nat->Nat->Nat->Bool->AV):(l:List Val)->dD g (gy l)=gy l
 |[]=>rfl
 |v:: l=>by simp[gy,dD,Val.cl_av g v,pJ g l]
end
mutual
theorem Exp.cl_cells(g:Nat->Nat->Nat->Nat->Bool->AV):(e:Exp)->dD g e.cells=e.cells
 |.mk o n s m ns es=>by simp[Exp.cells,cl,dD,li g es]
theorem li(g:Nat->Nat->Nat->Nat->Bool->AV):(l:List Exp)->dD g (eX l)=eX l
 |[]=>rfl
 |e:: l=>by simp[eX,dD,cl,Exp.cl_cells g e,li g l]
end
mutual
theorem Ty.cl_cells(g:Nat->Nat->Nat->Nat->Bool->AV):(t:Ty)->dD g t.cells=t.cells
 |.mk k fs=>by simp[Ty.cells,cl,dD,jg g fs]
theorem jg(g:Nat->Nat->Nat->Nat->Bool->AV):(l:List (bI×Ty))->dD g (cZ l)=cZ l
 |[]=>rfl
 |f:: l=>by simp[cZ,dD,ww g f,jg g l]
theorem ww(g:Nat->Nat->Nat->Nat->Bool->AV):(f:bI×Ty)->cl g (bb f)=bb f
 |(n,t)=>by simp[bb,cl,dD,Ty.cl_cells g t]
end
@[simp] theorem Am(g:Nat->Nat->Nat->Nat->Bool->AV)(v:Val):cl g v.av=v.av:=v.cl_av g
@[simp] theorem yd(g:Nat->Nat->Nat->Nat->Bool->AV)(l:List Val):cl g (vals l)=vals l:=by simp[vals,cl,pJ]
@[simp] theorem rP(g:Nat->Nat->Nat->Nat->Bool->AV)(e:Exp):cl g e.av=e.av:=by simp[Exp.av,cl,Exp.cl_cells]
@[simp] theorem xZ(g:Nat->Nat->Nat->Nat->Bool->AV)(l:List Exp):cl g (ci l)=ci l:=by simp[ci,cl,li]
@[simp] theorem kB(g:Nat->Nat->Nat->Nat->Bool->AV)(t:Ty):cl g t.av=t.av:=by simp[Ty.av,cl,Ty.cl_cells]
@[simp] theorem Aj(g:Nat->Nat->Nat->Nat->Bool->AV)(f:dV):cl g (bb f)=bb f:=ww g f
@[simp] theorem lh(g:Nat->Nat->Nat->Nat->Bool->AV)(l:List dV):cl g (aQ l)=aQ l:=by simp[aQ,cl,jg]
theorem lI(g:Nat->Nat->Nat->Nat->Bool->AV):(a b:List AV)->dD g (a++b)=dD g a++dD g b
 |[],b=>rfl
 |x:: a,b=>by simp[dD,lI g a b]
@[simp] theorem vV(g:Nat->Nat->Nat->Nat->Bool->AV)(f:Fun):cl g f.av=f.av:=by
 simp[Fun.av,cl,dD,lI,jg,Ty.cl_cells,Exp.cl_cells]
@[simp] theorem ya(g:Nat->Nat->Nat->Nat->Bool->AV)(l:List Fun):cl g (bK l)=bK l:=by simp[bK,cl,dq g Fun.av (vV g)]
@[simp] theorem jU(g:Nat->Nat->Nat->Nat->Bool->AV)(m:Mod):cl g m.av=m.av:=by
 simp[Mod.av,cl,dD,jg,li,ya]
@[simp] theorem C8(g:Nat->Nat->Nat->Nat->Bool->AV)(l:List Mod):cl g (AJ l)=AJ l:=by simp[AJ,cl,dq g Mod.av (jU g)]
@[simp] theorem oS(g:Nat->Nat->Nat->Nat->Bool->AV)(k:IntKind)(n:Int):cl g (.int k n)= .int k n:=rfl
@[simp] theorem C6(g:Nat->Nat->Nat->Nat->Bool->AV)(b:Bool):cl g (.bool b)= .bool b:=rfl
@[simp] theorem rR(g:Nat->Nat->Nat->Nat->Bool->AV)(s:bI):cl g (.str s)= .str s:=rfl
@[simp] theorem ye(g:Nat->Nat->Nat->Nat->Bool->AV)(v:Vars):cl g v.av=v.av:=by simp[Vars.av,cl,dD]
@[simp] theorem xY(g:Nat->Nat->Nat->Nat->Bool->AV)(v:Deed):cl g v.av=v.av:=by simp[Deed.av,cl,dD]
@[simp] theorem xX(g:Nat->Nat->Nat->Nat->Bool->AV)(v:Call):cl g v.av=v.av:=by simp[Call.av,cl,dD]
@[simp] theorem Ca(g:Nat->Nat->Nat->Nat->Bool->AV)(l:List Vars):cl g (mS l)=mS l:=by simp[mS,cl,dq g Vars.av (ye g)]
@[simp] theorem B7(g:Nat->Nat->Nat->Nat->Bool->AV)(l:List Deed):cl g (deeds l)=deeds l:=by simp[deeds,cl,dq g Deed.av (xY g)]
@[simp] theorem B6(g:Nat->Nat->Nat->Nat->Bool->AV)(l:List Call):cl g (calls l)=calls l:=by simp[calls,cl,dq g Call.av (xX g)]
@[simp] theorem Dz(g:Nat->Nat->Nat->Nat->Bool->AV)(o:Out):cl g o.av=o.av:=by simp[Out.av,cl,dD]
@[simp] theorem kq(v:Vars):ab v.av=[.str v.module,vals v.values]:=rfl
@[simp] theorem kp(v:Deed):ab v.av=[.int .i64 v.effect,.int .i64 v.arg,.int .i64 v.answer]:=rfl
@[simp] theorem ko(v:Call):ab v.av=[.str v.module,.str v.func,vals v.args]:=rfl
@[simp] theorem lx(o:Out):ab o.av=[.int .i64 o.err,.int .i64 o.value.kind,.int .i64 o.value.n,strs o.value.names,vals o.value.values,deeds o.deeds,calls o.calls,mS o.state]:=rfl
@[simp] theorem nR(v:Vars):AV.agg [.str v.module,vals v.values]=v.av:=rfl
@[simp] theorem nQ(v:Deed):AV.agg [.int .i64 v.effect,.int .i64 v.arg,.int .i64 v.answer]=v.av:=rfl
@[simp] theorem nP(v:Call):AV.agg [.str v.module,.str v.func,vals v.args]=v.av:=rfl
@[simp] theorem qt(o:Out):AV.agg [.int .i64 o.err,.int .i64 o.value.kind,.int .i64 o.value.n,strs o.value.names,vals o.value.values,deeds o.deeds,calls o.calls,mS o.state]=o.av:=rfl
@[simp] theorem BD(v:Vars):bZ v.av=some 2:=rfl
@[simp] theorem BB(v:Deed):bZ v.av=some 3:=rfl
@[simp] theorem BA(v:Call):bZ v.av=some 3:=rfl
@[simp] theorem CM(v:Out):bZ v.av=some 8:=rfl
@[simp] theorem oo(v:Vars):bM 2 v.av=true:=by simp[bM,aL,vals]
@[simp] theorem ol(v:Deed):bM 3 v.av=true:=by simp[bM,aL]
@[simp] theorem oi(v:Call):bM 3 v.av=true:=by simp[bM,aL,vals]
@[simp] theorem qV(v:Out):bM 8 v.av=true:=by simp[bM,aL,vals,strs,deeds,calls,mS]
def Clean(a:AV):Prop:=∀g,cl g a=a
def Clean.frz{a:AV}(h:Clean a)(d:Nat)(hp:Hp):gH d hp a=a:=by
 cases d with
 |zero=>exact h _
 |succ d=>exact h _
def bD{a:AV}(h:Clean a):aE (M.pure a)=M.pure a:=by
 funext hp;simp only[aE,M.pure,h.frz]
@[simp] theorem dx(b:Bool):aE (M.pure (.bool b))=M.pure (.bool b):=bD fun _=>rfl
@[simp] theorem qG(k:IntKind)(n:Int):aE (M.pure (.int k n))=M.pure (.int k n):=bD fun _=>rfl
@[simp] theorem Ct(s:bI):aE (M.pure (.str s))=M.pure (.str s):=bD fun _=>rfl
@[simp] theorem Cu(v:Val):aE (M.pure v.av)=M.pure v.av:=bD fun g=>Am g v
@[simp] theorem Bj(v:List Val):aE (M.pure (vals v))=M.pure (vals v):=bD fun g=>yd g v
@[simp] theorem Cq(v:Exp):aE (M.pure v.av)=M.pure v.av:=bD fun g=>rP g v
@[simp] theorem Cr(v:Fun):aE (M.pure v.av)=M.pure v.av:=bD fun g=>vV g v
@[simp] theorem CO(v:Val):bZ v.av=some 4:=by rw[v.av_eq];rfl
@[simp] theorem CI(e:Exp):bZ e.av=some 6:=by rw[Exp.av,e.cells_eq];rfl
@[simp] theorem CJ(f:dV):bZ (bb f)=some 3:=by rw[fq];rfl
@[simp] theorem Db(t:Ty):bZ t.av=some 2:=by rw[Ty.av,t.cells_eq];rfl
@[simp] theorem CK(f:Fun):bZ f.av=some 12:=by simp[Fun.av,bZ,Ty.cells_eq,Exp.cells_eq]
@[simp] theorem CL(m:Mod):bZ m.av=some 9:=rfl
@[simp] theorem mA(v:Val):bM 4 v.av=true:=by simp[bM,aL,strs,vals]
@[simp] theorem fX(e:Exp):bM 6 e.av=true:=by simp[bM,aL,strs,ci]
@[simp] theorem gZ(f:dV):bM 3 (bb f)=true:=by simp[bM,aL,aQ]
@[simp] theorem eR(f:Fun):bM 12 f.av=true:=by simp[bM,aL,aQ,strs,ci]
@[simp] theorem ju(m:Mod):bM 9 m.av=true:=by simp[bM,aL,aQ,strs,ci,bK]
@[simp] theorem wT(s:bI):bM 1 (.str s)=true:=rfl
@[simp] theorem wR(k:IntKind)(n:Int):bM 1 (.int k n)=true:=rfl
def ck{α:Type}{sz:Nat}{f:α->AV}(h:∀x,bM sz (f x)=true)(l:List α):bW sz (l.map f)=true:=by simp[bW,h]
@[simp] theorem Bv(l:List bI):bW 1 (l.map AV.str)=true:=ck wT l
@[simp] theorem Bq(l:List Int):bW 1 (l.map (AV.int .i64))=true:=ck (wR .i64) l
@[simp] theorem Bw(l:List Val):bW 4 (gy l)=true:=by rw[mR];exact ck mA l
@[simp] theorem Bn(l:List Exp):bW 6 (eX l)=true:=by rw[fm];exact ck fX l
@[simp] theorem Bo(l:List dV):bW 3 (cZ l)=true:=by rw[cC];exact ck gZ l
@[simp] theorem Bp(l:List Fun):bW 12 (l.map Fun.av)=true:=ck eR l
@[simp] theorem Br(l:List Mod):bW 9 (l.map Mod.av)=true:=ck ju l
def mb{T:TT}{t e:Nat}{ti ei:TI}(ht:T t=some ti)(hk:ti.kind= .slice e)(he:T e=some ei){α:Type}{f:α->AV}(hs:∀x,bZ (f x)=some ei.size){l:List α}{i:Nat}{x:α}(h:l[i]? = some x):
  ap T t (.sl (l.map f)) (.int .i64 (i:Int))=some (.ip (ab (f x))):=by
 unfold ap;rw[ht];simp only[hk,he];rw[if_neg (by omega)];have:(l.map f)[(i:Int).toNat]? = some (f x):=by rw[Ez,Fj,h];rfl
 rw[this];simp only;rw[Es (hs x)]
def cJ{T:TT}{t e:Nat}{ti ei:TI}(ht:T t=some ti)(hk:ti.kind= .slice e)(he:T e=some ei){α:Type}[Inhabited α]{f:α->AV}(hs:∀x,bZ (f x)=some ei.size){l:List α}{n:Int}(h0:0<=n)(h:n<(l.length:Int)):
  ap T t (.sl (l.map f)) (.int .i64 n)=some (.ip (ab (f l[n.toNat]!))):=by
 have hlt:n.toNat<l.length:=by omega
 have:=mb ht hk he hs (l:=l) (i:=n.toNat) (x:=l[n.toNat]!) (by rw[GV,Ex hlt];rfl)
 rw[show ((n.toNat:Nat):Int)=n by omega]at this;exact this
def pR{T:TT}{t e:Nat}{ti ei:TI}(ht:T t=some ti)(hk:ti.kind= .slice e)(he:T e=some ei){α:Type}{f:α->AV}(hs:∀x,bM ei.size (f x)=true){a b:List α}(h:(a.length+b.length)*ei.bytes<=140737488355328)(h0:0<ei.bytes):
  eh T t (.sl (a.map f)) (.sl (b.map f))=some (.sl ((a++b).map f)):=by
 unfold eh;rw[ht];simp only[hk,he,e9];rw[ck hs,ck hs];simp[h,h0,hG]
def jN(l:List Ty):AV:=.sl (l.map Ty.av)
structure Sig where
 name:bI
 params:List Ty
 result:Ty
 effects:Int
 deriving Inhabited
structure Face where
 module:bI
 funcs:List Sig
 deriving Inhabited
structure Vsn where
 major:Int
 minor:Int
 patch:Int
 deriving Inhabited,DecidableEq
def Sig.cells(s:Sig):List AV:=[.str s.name,jN s.params,.int .i64 s.result.kind,aQ s.result.fields,.int .i64 s.effects]
def Sig.av(s:Sig):AV:=.agg s.cells
def sigs(l:List Sig):AV:=.sl (l.map Sig.av)
def Face.cells(f:Face):List AV:=[.str f.module,sigs f.funcs]
def Face.av(f:Face):AV:=.agg f.cells
def wo(l:List Face):AV:=.sl (l.map Face.av)
def Vsn.av(v:Vsn):AV:=.agg [.int .i64 v.major,.int .i64 v.minor,.int .i64 v.patch]
@[simp] theorem dK(s:Sig):ab s.av=[.str s.name,jN s.params,.int .i64 s.result.kind,aQ s.result.fields,.int .i64 s.effects]:=rfl
@[simp] theorem dQ(f:Face):ab f.av=[.str f.module,sigs f.funcs]:=rfl
@[simp] theorem zG(v:Vsn):ab v.av=[.int .i64 v.major,.int .i64 v.minor,.int .i64 v.patch]:=rfl
@[simp] theorem eN(s:Sig):AV.agg [.str s.name,jN s.params,.int .i64 s.result.kind,aQ s.result.fields,.int .i64 s.effects]=s.av:=rfl
@[simp] theorem ie(f:Face):AV.agg [.str f.module,sigs f.funcs]=f.av:=rfl
@[simp] theorem Ck(v:Vsn):AV.agg [.int .i64 v.major,.int .i64 v.minor,.int .i64 v.patch]=v.av:=rfl
@[simp] theorem gm(t:Ty):bM 2 t.av=true:=by simp[bM,aL,aQ]
@[simp] theorem CB(l:List Ty):bW 2 (l.map Ty.av)=true:=ck gm l
@[simp] theorem CN(s:Sig):bZ s.av=some 5:=rfl
@[simp] theorem BC(s:Face):bZ s.av=some 2:=rfl
@[simp] theorem CP(s:Vsn):bZ s.av=some 3:=rfl
@[simp] theorem g7(s:Sig):bM 5 s.av=true:=by simp[bM,aL,aQ,jN]
@[simp] theorem om(s:Face):bM 2 s.av=true:=by simp[bM,aL,sigs]
@[simp] theorem Cz(s:Vsn):bM 3 s.av=true:=rfl
@[simp] theorem Bu(l:List Sig):bW 5 (l.map Sig.av)=true:=ck g7 l
@[simp] theorem AO(l:List Face):bW 2 (l.map Face.av)=true:=ck om l
@[simp] theorem Al(g:Nat->Nat->Nat->Nat->Bool->AV)(l:List Ty):cl g (jN l)=jN l:=by simp[jN,cl,dq g Ty.av (kB g)]
@[simp] theorem rQ(g:Nat->Nat->Nat->Nat->Bool->AV)(s:Sig):cl g s.av=s.av:=by unfold Sig.av Sig.cells;simp only[cl,dD,Al,lh]
@[simp] theorem yc(g:Nat->Nat->Nat->Nat->Bool->AV)(l:List Sig):cl g (sigs l)=sigs l:=by simp[sigs,cl,dq g Sig.av (rQ g)]
@[simp] theorem ib(g:Nat->Nat->Nat->Nat->Bool->AV)(s:Face):cl g s.av=s.av:=by unfold Face.av Face.cells;simp only[cl,dD,yc]
@[simp] theorem B8(g:Nat->Nat->Nat->Nat->Bool->AV)(l:List Face):cl g (wo l)=wo l:=by simp[wo,cl,dq g Face.av (ib g)]
@[simp] theorem DC(g:Nat->Nat->Nat->Nat->Bool->AV)(s:Vsn):cl g s.av=s.av:=by unfold Vsn.av;simp only[cl,dD]
@[simp] theorem Da(v:Ty):aE (M.pure v.av)=M.pure v.av:=bD fun g=>kB g v
@[simp] theorem Cs(v:Sig):aE (M.pure v.av)=M.pure v.av:=bD fun g=>rQ g v
@[simp] theorem Bi(v:Face):aE (M.pure v.av)=M.pure v.av:=bD fun g=>ib g v
end Go.Av.Ap
namespace Go.Av
open Go.Av.Ap
def yN:Nat->AV->Bool
 |0,_=>false
 |d+1,.agg [.int .i64 _,.sl fs]=>decide (fs.length<=100)&&fs.all fun f=>match f with
  |.agg [.str _,.int .i64 k,.sl gs]=>yN d (.agg [.int .i64 k,.sl gs])
  |_=>false
 |_,_=>false
def ic:(FuncId->List AV->M AV)->List AV->M AV:=fun _ args=>match args with
 |[v]=>ah (bif yN 5 v then some v else none)
 |_=>M.fail
def qP:Nat->Ty->Prop
 |0,_=>False
 |d+1,t=>t.fields.length<=100/\∀f∈t.fields,qP d f.2
theorem wN:∀(d:Nat)(t:Ty),qP d t->qP (d+1) t
 |0,_,h=>h.elim
 |d+1,_t,h=>⟨h.1,fun f hf=>wN d f.2 (h.2 f hf)⟩
theorem xv:∀(d:Nat)(t:Ty),qP d t->yN d t.av=true
 |0,_,h=>h.elim
 | d+1,t,h=>by
  cases t with
  |mk k fs=>
   show yN (d+1) (.agg [.int .i64 k,.sl (cZ fs)])=true;simp only[yN,Em,Ew,Et];refine⟨by rw[cC,ET];exact h.1,fun v hv=>?_⟩;rw[cC]at hv;obtain⟨f,hf,rfl⟩:=Fg.1 hv;rw[fq];show yN d (.agg [.int .i64 f.2.kind,.sl (cZ f.2.fields)])=true
   have:=xv d f.2 (h.2 f hf)
   cases hf2:f.2 with
   |mk k2 gs=>rw[hf2]at this;exact this
theorem lO{α β:Type}{f:β->α}{P:β->Prop}:(l:List α)->(∀a∈l,∃b,a=f b/\P b)->∃m:List β,l=m.map f/\∀b∈m,P b
 |[],_=>⟨[],rfl,by simp⟩
 |a:: l,h=>by
  obtain⟨b,rfl,hb⟩:=h a E9;obtain⟨m,rfl,hm⟩:=lO l fun a ha=>h a (Fq _ ha);exact⟨b:: m,rfl,fun c hc=>by rcases EB.1 hc with rfl|hc;exact hb;exact hm c hc⟩
theorem rp:∀(d:Nat)(v:AV),yN d v=true->∃t:Ty,v=t.av/\qP d t
 |0,_,h=>by cases h
 | d + 1,v,h=>by
  unfold yN at h;split at h
  ·cases h
  ·rename_i k fs e;obtain rfl:=Nat.succ.inj e;simp only[Em,Ew,Et]at h;have key:∀a∈fs,∃f:dV,a=bb f/\qP d f.2:=by
    intro a ha;have h2:=h.2 a ha;split at h2
    ·rename_i n k' gs;obtain⟨t,h3,h4⟩:=rp d _ h2;refine⟨(n,t),?_,h4⟩;rw[fq];have h5:t.av= .agg [.int .i64 t.kind,aQ t.fields]:=by cases t;rfl
     rw[h5]at h3;simp only[AV.agg.injEq,Gx,Hg]at h3;rw[<- h3.1,<- h3.2]
    ·cases h2
   obtain⟨m,rfl,hm⟩:=lO fs key;refine⟨.mk k m,?_,?_,hm⟩
   ·show _=AV.agg [.int .i64 k,.sl (cZ m)];rw[cC]
   ·have:=h.1
    rw[ET]at this;exact this
  ·cases h
end Go.Av
namespace Go.Av
variable [Dr]
section
variable {c:Entry} {N:Nat} {U:Nat->Prop} {e:Env} {h:Hp} {a:Act} {w:World} {S:ar} {β:List a6} {γ:Nat->Value} {lam:Nat->Option Nat} {ω:Nat->Owner}
theorem FR.dead(H:FR c N U e h a w S β γ lam ω){l b:Nat}(hd:∀cs,h[l]? = some cs->cs=[])(hb:ω b= .heap l)(hS:∀o,S b o=none){w':World}(hg:Gro w w')(hsz:w'.heap.size=w.heap.size)(hold:∀k,k≠b->w'.heap[k]? = w.heap[k]?):
  FR c N U e h a w' S β γ lam ω:=by
 have hωb:∀k,ω k≠.heap l->k≠b:=fun k hk=>by rintro rfl;exact hk hb
 have hother:∀k,ω k≠.heap l->w'.heap[k]? = w.heap[k]?:=fun k hk=>hold k (hωb k hk);refine⟨fun k o v hv=>?_,H.gro.trans hg,fun k hk hE=>?_,H.le,H.ext,H.hlen,?_,H.tsz,H.slots,H.grps,?_,?_,fun k hk=>⟨(H.mine k hk).1,by rw[hsz];exact (H.mine k hk).2⟩,H.used⟩
 ·have hkb:k≠b:=by rintro rfl;rw[hS]at hv;cases hv
  rw[cell_of_heap (hold k hkb)];exact H.wf k o v hv
 ·have hkb:k≠b:=by
   rintro rfl
   have:=(H.mine k (by rw[hb];simp)).1.low
   rcases this with h|h
   ·exact hE h
   ·omega
  have:=H.keep k hk hE
  exact⟨by rw[hold k hkb];exact this.1,this.2⟩
 ·refine H.heap.rows (ar.le_refl S) (eb.refl β) H.hlen fun j ds hj hne=>.inl ⟨hj,fun k _ ho=>⟨ho,hother k ?_,fun o h=>h⟩⟩;rw[ho];simp only[GR,Owner.heap.injEq];rintro rfl;exact hne (hd ds hj)
 ·intro B n hB;obtain⟨k1,k2,k3,k,z,k4,k5,k6,k7,k8⟩:=H.lblk B n hB;exact⟨k1,k2,k3,k,z,k4,k5.of_eq (hother k (by rw[k6];simp)),k6,k7,k8⟩
 ·intro g z hg;obtain⟨a',len,cap,g1,g2,g3,g4⟩:=H.free g z hg;refine⟨a',len,cap,g1,g2,g3,g4.imp id ?_⟩;rintro⟨sz,k,off,z',k1,k2,k3,k4,k5,k6⟩;exact⟨sz,k,off,z',k1,k2,k3.of_eq (hother k (by rw[k5];simp)),k4,k5,k6⟩
end
section
variable {S:ar} {β:List a6} {h:Hp} {w:World}
theorem FR.cpost{e:Env}{h':Hp}{a:Act}{N:Nat}{U:Nat->Prop}{w':World}{S':ar}{β':List a6}{γ:Nat->Value}{lam:Nat->Option Nat}{ω:Nat->Owner}{hg:mU β h w}(F:FR { w,S,β,E:=bo β h,gok:=hg } N U e h' a w' S' β' γ lam ω){r:AV}{v:Value}(hv:VR S' β' r v):
  cM none S β h w (.ok r h') (.returned v) w':=⟨S',β',v,rfl,hv,F.out,fun sz hsz=>by cases hsz⟩
theorem rV(hg:mU β h w)(hw:Wf S w)(hh:bO S β w h){l b n:Nat}{cs cs':List AV}{x y:Array Value}(hl:h[l]? = some cs)(hne:cs≠[])(hb:β[l]? = some (b,n))(hrow:Row w b x)(hys:y.size=x.size)(hcs:aH S β cs' (y.toList.take cs'.length))(htag:∀t,bH t cs'->bH t cs):cM none S β h w (.ok (.tup []) (h.set l cs')) (.returned (.tuple #[])) (w.setRow b y):=by
 obtain⟨γ,lam,ω,F⟩:=sP (args:=[]) (vs:=[]) (n:=0) hg hw hh (by simp[aH]) (En _) (by omega);exact (F.turnH hl hne ⟨n,hb⟩ hrow hys hcs htag).cpost (by simp only[VR];exact⟨[],rfl,by simp[aH]⟩)
theorem rU(hg:mU β h w)(hw:Wf S w)(hh:bO S β w h){l b n:Nat}{cs:List AV}(hl:h[l]? = some cs)(hne:cs≠[])(hb:β[l]? = some (b,n)){w':World}(hgr:Gro w w')(hsz:w'.heap.size=w.heap.size)(hold:∀k,k≠b->w'.heap[k]? = w.heap[k]?){r:AV}{v:Value}(hv:VR S β r v):cM none S β h w (.ok r (h.set l [])) (.returned v) w':=by
 obtain⟨γ,lam,ω,F⟩:=sP (args:=[]) (vs:=[]) (n:=0) hg hw hh (by simp[aH]) (En _) (by omega);obtain⟨b',n',k1,k2,k3,k4⟩:=F.heap.own hl hne;rw[hb]at k1;simp only[Ek,E7]at k1;obtain⟨rfl,rfl⟩:=k1;refine ((F.killH l).dead (l:=l) (fun cs' h'=>?_) k3 k4 hgr hsz hold).cpost hv;rw[Fy]at h';simp only[E4]at h';split at h'
 ·simpa using h'.symm
 ·cases h'
end
end Go.Av
namespace Go.Av
variable [Dr]
theorem kC{P:Program}{cx:Cx}{own:Option Nat}(hT:TOK P cx.T)(hC:bN P cx.own cx.call)(hI:IsoCall cx){f:FuncId}{fn:Func}(hf:P.funcs[f]? = some fn)(hnt:cx.nt=fn.ntmps){E:List AV->Hp->R AV}(h0:∀h,E [] h= .ok (.sl []) h)(h1:∀e es h,bB cx (cb 0) fn own [.sl (e:: es)] h=E (e:: es) h)(h2:∀h,bB cx (cb 0) fn own [.hn] h= .ok (.sl []) h)(h3:∀l off h,bB cx (cb 0) fn own [.hs l off 0 1 false] h= .ok (.sl []) h){es:List AV}{h:Hp}{S:ar}{β:List a6}{w:World}{vs:List Value}(hr:E es h≠.fail)(hg:mU β h w)(hw:Wf S w)(hh:bO S β w h)(hv:aH S β [.sl es] vs):Calls P f vs.toArray w (cM own S β h w (E es h))/\fn.body.isSome=true:=by
 cases es with
 |cons e es=>
  rw[<- h1]at hr |-;exact fl hT hC hI 0 hf hnt hr hg hw hh hv
 | nil=>
  rw[h0];simp only[aH]at hv;obtain⟨v,_,rfl,hv,rfl⟩:=hv;have hv0:=hv;simp only[VR]at hv;obtain⟨a,cap,rfl,hc,hn,hq⟩:=hv;cases a with
  |none=>
   have hcap:=hn rfl;subst hcap;have hv2:aH S β [.hn] [.slice none ([]:List AV).length 0]:=by simp[aH,VR]
   have:=fl (own:=own) hT hC hI 0 hf hnt (args:=[.hn]) (h:=h) (by rw[h2];simp) hg hw hh hv2
   rw[h2]at this;exact this
  | some q=>
   obtain⟨hs,_⟩:=hq q rfl;have hX:bO S [(q.block,q.off+cap)] w [[]]:=⟨rfl,fun _=>.no,fun l cs hl hne=>by
    cases l with
    |zero=>simp at hl;exact absurd hl hne
    |succ l=>simp at hl⟩
   have hE:∀b,¬bo [(q.block,q.off+cap)] [[]] b:=by
    rintro b ⟨l,cs,n,k1,k2,_⟩;cases l with
    |zero=>simp at k1;exact k2 k1
    |succ l=>simp at k1
   have hv2:aH S [(q.block,q.off+cap)] [.hs 0 q.off 0 1 false] [.slice (some q) ([]:List AV).length cap]:=by
    simp only[aH,VR];rcases E1 cap with h0|h0
    ·subst h0;exact⟨_,_,rfl,.inr ⟨trivial,q,rfl⟩,rfl⟩
    ·have hq':q=⟨q.block,q.off,none⟩:=by
      have:=hs h0
      cases q;simp_all
     exact⟨_,_,rfl,.inl ⟨(q.block,q.off+cap),cap,rfl,(by show q.off+cap≠0;omega),by rw[<- hq'];rfl,ES _,by simp⟩,rfl⟩
   have:=fl (own:=own) hT hC hI 0 hf hnt (args:=[.hs 0 q.off 0 1 false]) (h:=[[]]) (by rw[h3];simp) ⟨hg.1,fun b _=>hE b⟩ hw hX hv2
   rw[h3]at this;refine⟨this.1.mono fun en w' hp=>?_,this.2⟩;obtain⟨S',β',v,k1,k2,k3,k4⟩:=hp;obtain⟨S2,j1,j2,j3⟩:=tb hw hh hE k3;exact⟨S2,β,v,k1,j2 (.sl []) v k2,j1,fun sz hsz=>j3 sz v (k4 sz hsz)⟩
end Go.Av
namespace Go.Av
attribute [simp] aT aN vM tQ
@[simp] theorem a8{α:Type}(b:Bool)(x y:M α):aD (.bool b) x y=if b=true then x else y:=by cases b<;>rfl
def gv(b w:Bool)(y:AV):AV:=bif b== w then y else .tup []
@[simp] theorem DX(y:AV):gv false false y=y:=rfl
@[simp] theorem D1(y:AV):gv true true y=y:=rfl
@[simp] theorem DY(y:AV):gv false true y= .tup []:=rfl
@[simp] theorem DZ(y:AV):gv true false y= .tup []:=rfl
@[simp high] theorem yl(b w:Bool)(y:AV):ao (.bool b) w 1 (M.pure [y])=M.pure [gv b w y]:=by cases b<;>cases w<;>rfl
@[simp high] theorem Bf(b w c w2:Bool)(y:AV):ao (gv b w (.bool c)) w2 1 (M.pure [y])=M.pure [gv b w (gv c w2 y)]:=by cases b<;>cases w<;>cases c<;>cases w2<;>rfl
@[simp high] theorem Bg(b w c e:Bool):ao (.bool b) w 1 (af (ah (aA (gv b w (.bool c)) (.bool true) (gv b w (gv c false (.bool e))))) fun v=>M.pure [v])=M.pure [gv b w (.bool (c||e))]:=by
 cases b<;>cases w<;>cases c<;>rfl
@[simp high] theorem AA(b w c e:Bool):ao (.bool b) w 1 (af (ah (aA (gv b w (.bool c)) (gv b w (gv c true (.bool e))) (.bool false))) fun v=>M.pure [v])=M.pure [gv b w (.bool (c&&e))]:=by
 cases b<;>cases w<;>cases c<;>rfl
@[simp high] theorem Bz(b c:Bool):aA (.bool b) (gv b true (.bool c)) (.bool false)=some (.bool (b&&c)):=by cases b<;>rfl
@[simp high] theorem CF(b c:Bool):aA (.bool b) (.bool true) (gv b false (.bool c))=some (.bool (b||c)):=by cases b<;>rfl
@[simp] theorem ym(w:Bool)(n:Nat)(m:M (List AV)):ao (.bool !w) w n m=M.pure (List.replicate n (.tup [])):=by cases w<;>rfl
@[simp] theorem cT(w:Bool)(n:Nat)(m:M (List AV)):ao (.bool w) w n m=m:=by cases w<;>rfl
@[simp] theorem ui(n:Nat)(m:M (List AV)):ao (.bool false) true n m=M.pure (List.replicate n (.tup [])):=rfl
@[simp] theorem Bh(n:Nat)(m:M (List AV)):ao (.bool true) false n m=M.pure (List.replicate n (.tup [])):=rfl
@[simp] theorem AB(w:Bool)(n:Nat)(m:M (List AV)):ao (.tup []) w n m=M.pure (List.replicate n (.tup [])):=rfl
@[simp] theorem ez(x y:AV):aA (.bool true) x y=some x:=rfl
@[simp] theorem kT(x y:AV):aA (.bool false) x y=some y:=rfl
@[simp] theorem aZ(x:AV)(l:List AV):nth (x:: l) 0=x:=rfl
@[simp] theorem bj(x:AV)(l:List AV)(n:Nat):nth (x:: l) (n+1)=nth l n:=rfl
@[simp] theorem DK{α:Type}(k:List AV->M α)(m:(List AV->M α)->M α):jn k m=m k:=rfl
@[simp] theorem fy{α:Type}(a:α):cK (M.pure a)=M.pure a:=rfl
@[simp] theorem ln(b:Bool):fC .not (.bool b)=some (.bool !b):=rfl
@[simp] theorem yj(l:List AV)(i:Nat):bi (.tup l) i=l[i]?:=rfl
@[simp] theorem zn:True:=trivial
@[simp] theorem AK(l k:Nat):jr (.hp l k)=some (.hp l k):=rfl
@[simp] theorem AL(cs:List AV):jr (.ip cs)=some (.ip cs):=rfl
@[simp] theorem iF(s:List UInt8):ab (.str s)=[.str s]:=rfl
@[simp] theorem zE(k:IntKind)(n:Int):ab (.int k n)=[.int k n]:=rfl
@[simp] theorem zD(cs:List AV):ab (.agg cs)=cs:=rfl
@[simp] theorem eH(T:TT)(t:Nat)(a b:Int):au T .add t (.int .i64 a) (.int .i64 b)=some (.int .i64 (IntKind.i64.wrap (a+b))):=rfl
@[simp] theorem oQ(T:TT)(t:Nat)(a b:Int):au T .sub t (.int .i64 a) (.int .i64 b)=some (.int .i64 (IntKind.i64.wrap (a-b))):=rfl
@[simp] theorem C4(T:TT)(t:Nat)(a b:Int):au T .mul t (.int .i64 a) (.int .i64 b)=some (.int .i64 (IntKind.i64.wrap (a*b))):=rfl
@[simp] theorem bP(T:TT)(t:Nat)(a b:Int):au T .lss t (.int .i64 a) (.int .i64 b)=some (.bool (decide (a<b))):=rfl
@[simp] theorem iY(T:TT)(t:Nat)(a b:Int):au T .leq t (.int .i64 a) (.int .i64 b)=some (.bool (decide (a<=b))):=rfl
@[simp] theorem C3(T:TT)(t:Nat)(a b:Int):au T .gtr t (.int .i64 a) (.int .i64 b)=some (.bool (decide (b<a))):=rfl
@[simp] theorem sZ(T:TT)(t:Nat)(a b:Int):au T .geq t (.int .i64 a) (.int .i64 b)=some (.bool (decide (b<=a))):=rfl
@[simp] theorem C2(T:TT)(t:Nat)(a b:Int):au T .eql t (.int .i64 a) (.int .i64 b)=some (.bool (a== b)):=rfl
@[simp] theorem xM(T:TT)(t:Nat)(a b:Int):au T .neq t (.int .i64 a) (.int .i64 b)=some (.bool (a != b)):=rfl
@[simp] theorem tD(T:TT)(t:Nat)(a b:List UInt8):au T .eql t (.str a) (.str b)=some (.bool (a== b)):=rfl
@[simp] theorem Df(T:TT)(t:Nat)(a b:List UInt8):au T .neq t (.str a) (.str b)=some (.bool !(a== b)):=rfl
@[simp] theorem De(T:TT)(t:Nat)(a b:List UInt8):au T .lss t (.str a) (.str b)=some (.bool (aC a b)):=rfl
@[simp] theorem Dc(T:TT)(t:Nat)(a b:List UInt8):au T .geq t (.str a) (.str b)=some (.bool !(aC a b)):=rfl
@[simp] theorem br{n:Nat}{x:AV}(h:bM n x=true):aV n x=M.pure (.agg (ab x)):=by
 unfold aV gb;rw[h];rfl
@[simp] theorem aP{n:Nat}{x:AV}(h:bM n x=true):az n [] x=M.pure (.agg (ab x)):=by
 unfold az gb;rw[h];rfl
@[simp] theorem Bl(b:Bool)(x:AV):gD b [x]=some x:=by simp[gD]
@[simp] theorem Bm(b:Bool)(a c:Int):gD b [.int .i64 a,.int .i64 c]=some (.int .i64 (if b=true then max a c else min a c)):=by
 cases b
 ·simp only[gD,wO,Ep];congr 2;simp only[Int.min_def];split<;>split<;>simp_all<;>omega
 ·simp only[gD,wO,El];congr 2;simp only[Int.max_def];split<;>split<;>simp_all<;>omega
def dB{x:Int}(h1:-9223372036854775808<=x)(h2:x<=9223372036854775807):IntKind.i64.wrap x=x:=IntWalk.i64_in _ ⟨h1,h2⟩
def xy{n:Nat}(h:n<=4611686018427387904):IntKind.i64.wrap (n:Int)=(n:Int):=IntWalk.i64_in _ (by omega)
def aX{n:Nat}(h:n<=4611686018427387904):IntKind.i64.wrap ((n:Int)+1)=((n+1:Nat):Int):=by
 rw[IntWalk.i64_in _ (by omega)];omega
def oF{n:Nat}(h:n<=4611686018427387904):IntKind.i64.wrap (((n+1:Nat):Int)-1)=(n:Int):=by
 rw[IntWalk.i64_in _ (by omega)];omega
namespace Ap
mutual
def Val.sz:Val->Nat
 |.mk _ _ ns vs=>1+ns.length+xw vs
def xw:List Val->Nat
 |[]=>0
 |v:: vs=>v.sz+xw vs
end
end Ap
end Go.Av
namespace Go.Av
def cV{α:Type}(F:α->Bool):List α->Int->Int
 |[],_=>-1
 |x:: l,i=>if F x=true then i else cV F l (i+1)
theorem qA{α:Type}(F:α->Bool):(l:List α)->(i:Int)->0<=i->(0<=cV F l i↔l.any F=true)
 |[],i,_=>by simp[cV]
 |x:: l,i,h=>by
  simp only[cV];split
  ·rename_i hx;simp[hx,h]
  ·rename_i hx;rw[qA F l (i+1) (by omega)];simp[hx]
def nT{α:Type}(F:α->Bool)(l:List α):decide (0<=cV F l 0)=l.any F:=by
 have:=qA F l 0 (by omega)
 cases h:l.any F with
 |true=>simp[this.2 h]
 |false=>simp only[FU];intro hh;rw[this.1 hh]at h;cases h
@[simp] theorem zo(a b:Nat):((a:Int)== (b:Int))=(a== b):=by rw[F6];simp;omega
@[simp] theorem yB(a:Nat):((a:Int)== 0)=(a== 0):=by rw[F6];simp
@[simp] theorem zp(a b:Nat):((a:Int) != (b:Int))=(a != b):=by rw[F6];simp;omega
def mY{α β:Type}(F:α->β->Bool):List α->List β->Bool
 |x:: l,y:: r=>F x y&&mY F l r
 |[],[]=>true
 |_,_=>false
theorem kw{α β:Type}(F:α->β->Bool):(a:List α)->(b:List β)->a.length≠b.length->mY F a b=false
 |[],[],h=>absurd rfl h
 |[],_:: _,_=>rfl
 |_:: _,[],_=>rfl
 |x:: a,y:: b,h=>by
  have:=kw F a b (by simpa using h)
  simp[mY,this]
end Go.Av
namespace Go.Av
open Ap
@[simp high] theorem Ah(x:Val):aV 4 (Val.av x)=M.pure (Val.av x):=by rw[br (mA x),ly,qu]
@[simp high] theorem xW(x:Val):az 4 [] (Val.av x)=M.pure (Val.av x):=by rw[aP (mA x),ly,qu]
@[simp high] theorem Ad(x:Exp):aV 6 (Exp.av x)=M.pure (Exp.av x):=by rw[br (fX x),cy,dG]
@[simp high] theorem xR(x:Exp):az 6 [] (Exp.av x)=M.pure (Exp.av x):=by rw[aP (fX x),cy,dG]
@[simp high] theorem lD(x:dV):aV 3 (bb x)=M.pure (bb x):=by rw[br (gZ x),cz,fu]
@[simp high] theorem xS(x:dV):az 3 [] (bb x)=M.pure (bb x):=by rw[aP (gZ x),cz,fu]
@[simp high] theorem Ae(x:Fun):aV 12 (Fun.av x)=M.pure (Fun.av x):=by rw[br (eR x),dJ,eM]
@[simp high] theorem xT(x:Fun):az 12 [] (Fun.av x)=M.pure (Fun.av x):=by rw[aP (eR x),dJ,eM]
@[simp high] theorem Af(x:Mod):aV 9 (Mod.av x)=M.pure (Mod.av x):=by rw[br (ju x),cd,ji]
@[simp high] theorem xU(x:Mod):az 9 [] (Mod.av x)=M.pure (Mod.av x):=by rw[aP (ju x),cd,ji]
@[simp high] theorem zh(x:Vars):aV 2 (Vars.av x)=M.pure (Vars.av x):=by rw[br (oo x),kq,nR]
@[simp high] theorem xD(x:Vars):az 2 [] (Vars.av x)=M.pure (Vars.av x):=by rw[aP (oo x),kq,nR]
@[simp high] theorem zg(x:Deed):aV 3 (Deed.av x)=M.pure (Deed.av x):=by rw[br (ol x),kp,nQ]
@[simp high] theorem xC(x:Deed):az 3 [] (Deed.av x)=M.pure (Deed.av x):=by rw[aP (ol x),kp,nQ]
@[simp high] theorem zf(x:Ap.Call):aV 3 (Ap.Call.av x)=M.pure (Ap.Call.av x):=by rw[br (oi x),ko,nP]
@[simp high] theorem xB(x:Ap.Call):az 3 [] (Ap.Call.av x)=M.pure (Ap.Call.av x):=by rw[aP (oi x),ko,nP]
@[simp high] theorem Ag(x:Ap.Out):aV 8 (Ap.Out.av x)=M.pure (Ap.Out.av x):=by rw[br (qV x),lx,qt]
@[simp high] theorem xV(x:Ap.Out):az 8 [] (Ap.Out.av x)=M.pure (Ap.Out.av x):=by rw[aP (qV x),lx,qt]
@[simp] theorem gm(t:Ty):bM 2 t.av=true:=by simp[bM,aL,aQ]
@[simp high] theorem jS(x:Ty):aV 2 (Ty.av x)=M.pure (Ty.av x):=by rw[br (gm x),ca,dv]
@[simp high] theorem kA(x:Ty):az 2 [] (Ty.av x)=M.pure (Ty.av x):=by rw[aP (gm x),ca,dv]
end Go.Av
namespace Go.Av
@[simp] theorem xF(c:Prop)[Decidable c](a b:Bool):(if c then(M.pure (.bool a):M AV)else M.pure (.bool b))=M.pure (.bool (if c then a else b)):=by split<;>rfl
@[simp] theorem yn(c:Prop)[Decidable c](a b:Int):(if c then(M.pure (.int .i64 a):M AV)else M.pure (.int .i64 b))=M.pure (.int .i64 (if c then a else b)):=by split<;>rfl
def o4{F:(List AV->M AV)->List AV->M AV}(hF:∀vs,ak F vs=F (ak F) vs)(st:Nat->List AV)(n:Nat)(G:Nat->Bool)(hend:F (ak F) (st n)=M.pure (.bool true))(hstep:∀k,k<n->F (ak F) (st k)=if G k=true then ak F (st (k+1))else M.pure (.bool false)):
  ∀k,k<=n->ak F (st k)=M.pure (.bool ((List.range' k (n-k)).all G)):=by
 have key:∀r k,n-k=r->k<=n->ak F (st k)=M.pure (.bool ((List.range' k r).all G)):=by
  intro r
  induction r with
  |zero=>
   intro k hr hk;obtain rfl:k=n:=by omega
   rw[hF,hend];rfl
  |succ r ih=>
   intro k hr hk;rw[hF,hstep k (by omega),ih (k+1) (by omega) (by omega)];simp only[GL,FE];cases G k<;>rfl
 exact fun k hk=>key (n-k) k rfl hk
def ru{α:Type}[Inhabited α](P:α->Bool)(l:List α):(List.range' 0 l.length).all (fun k=>P l[k]!)=l.all P:=by
 rw[F6];simp only[Et,G9];constructor
 ·intro h x hx;obtain⟨i,hi,rfl⟩:=List.getElem_of_mem hx
  have:=h i ⟨ES _,by omega⟩
  rwa [EI l i hi]at this
 ·intro h k hk;have hk':k<l.length:=by omega
  rw[EI l k hk'];exact h _ (EF hk')
theorem lA{α β:Type}[Inhabited α][Inhabited β](P:α->β->Bool):(a:List α)->(b:List β)->a.length=b.length->(List.range' 0 a.length).all (fun k=>P a[k]! b[k]!)=mY P a b
 |[],[],_=>rfl
 | x:: a,y:: b,h=>by
  have ih:=lA P a b (by simpa using h);simp only[EG,GL,FE,mY];congr 1;rw[<- ih];rw[F6];simp only[Et,G9];constructor
  ·intro h k hk
   have:=h (k+1) (by omega)
   simpa using this
  ·intro h k hk;obtain⟨j,rfl⟩:∃j,k=j+1:=⟨k-1,by omega⟩;simpa using h j (by omega)
 |[],_:: _,h=>by simp at h
 |_:: _,[],h=>by simp at h
def uE{T:TT}{t e:Nat}{ti ei:TI}(ht:T t=some ti)(hk:ti.kind= .slice e)(he:T e=some ei)(es:List AV){n:Int}(h0:0<=n)(h1:n<=es.length):dN T t (.sl es) none (some (.int .i64 n)) none=some (.sl (es.take n.toNat)):=by
 unfold dN;rw[ht];simp[hk,he,bV,h0,h1]
def uF{T:TT}{t e:Nat}{ti ei:TI}(ht:T t=some ti)(hk:ti.kind= .slice e)(he:T e=some ei)(es:List AV)(hok:bW ei.size es=true){n:Int}(h0:0<=n)(h1:n<=es.length):dN T t (.sl es) (some (.int .i64 n)) none none=some (.sl (es.drop n.toNat)):=by
 unfold dN;rw[ht];simp[hk,he,bV,h0,h1,hok]
end Go.Av
namespace Go.Av.Ap
open Go Go.Av
def Val.limN:Nat->Val->Prop
 |0,_=>True
 |n+1,v=>v.names.length<=140737488355328/\v.values.length<=140737488355328/\∀x∈v.values,x.limN n
def Val.Lim(v:Val):Prop:=∀n,v.limN n
def Exp.limN:Nat->Exp->Prop
 |0,_=>True
 |n+1,v=>v.names.length<=8796093022208/\v.args.length<=140737488355328/\∀x∈v.args,x.limN n
def Exp.Lim(v:Exp):Prop:=∀n,v.limN n
def Ty.limN:Nat->Ty->Prop
 |0,_=>True
 |n+1,v=>v.fields.length<=140737488355328/\∀x∈v.fields,x.2.limN n
def Ty.Lim(v:Ty):Prop:=∀n,v.limN n
def Val.Lim.names{v:Val}(h:v.Lim):v.names.length<=140737488355328:=(h 1).1
def Val.Lim.len{v:Val}(h:v.Lim):v.values.length<=140737488355328:=(h 1).2.1
def Val.Lim.kid{v:Val}(h:v.Lim){x:Val}(hx:x∈v.values):x.Lim:=fun n=>(h (n+1)).2.2 x hx
def Exp.Lim.names{v:Exp}(h:v.Lim):v.names.length<=8796093022208:=(h 1).1
def Exp.Lim.len{v:Exp}(h:v.Lim):v.args.length<=140737488355328:=(h 1).2.1
def Exp.Lim.kid{v:Exp}(h:v.Lim){x:Exp}(hx:x∈v.args):x.Lim:=fun n=>(h (n+1)).2.2 x hx
def Ty.Lim.len{v:Ty}(h:v.Lim):v.fields.length<=140737488355328:=(h 1).1
def Ty.Lim.kid{v:Ty}(h:v.Lim){x:dV}(hx:x∈v.fields):x.2.Lim:=fun n=>(h (n+1)).2 x hx
structure Fun.Lim (f:Fun):Prop where
 params:f.params.length<=140737488355328
 pty:∀x∈f.params,x.2.Lim
 result:f.result.Lim
 body:f.body.Lim
structure Mod.Lim (m:Mod):Prop where
 uses:m.uses.length<=140737488355328
 vars:m.vars.length<=140737488355328
 vty:∀x∈m.vars,x.2.Lim
 init:m.init.length<=140737488355328
 ies:∀e∈m.init,e.Lim
 funcs:m.funcs.length<=140737488355328
 fns:∀f∈m.funcs,f.Lim
 old:m.old.length<=140737488355328
 oty:∀x∈m.old,x.2.Lim
 forward:m.forward.length<=140737488355328
 fes:∀e∈m.forward,e.Lim
 back:m.back.length<=140737488355328
 bes:∀e∈m.back,e.Lim
end Go.Av.Ap
namespace Go.Av.Ap
open Go Go.Av
section
variable {α:Type} {f:α->AV} {sz:Nat}
def rowOf(f:α->AV)(l:List α):List AV:=(l.map f).flatMap ab
theorem gw(x:α)(l:List α):rowOf f (x:: l)=ab (f x)++rowOf f l:=by simp[rowOf]
theorem dA(hs:∀x,(ab (f x)).length=sz):(l:List α)->(rowOf f l).length=l.length*sz
 |[]=>by simp[rowOf]
 |x:: l=>by rw[gw,EV,hs,dA hs l,EG,Ga];omega
theorem dn(hs:∀x,(ab (f x)).length=sz):(l:List α)->(i:Nat)->(h:i<l.length)->((rowOf f l).drop (i*sz)).take sz=ab (f l[i])
 |x:: l,0,_=>by
  rw[gw,Gk,EY,Hq (hs x)];rfl
 |x:: l,i+1,h=>by
  rw[gw,show (i+1)*sz=(ab (f x)).length+i*sz by rw[hs,Ga];omega,List.drop_append,Fc (by omega),Hk,Fi];simpa using dn hs l i (by simpa using h)
theorem nh{cs xs:List AV}{off:Nat}(h:(cs.drop off).take xs.length=xs):setCells cs off xs=cs:=by
 unfold setCells
 conv=>lhs;rw[<- h]
 rw[FG];have:cs.take off++((cs.drop off).take xs.length++cs.drop (off+((cs.drop off).take xs.length).length))=cs:=by
  rw[h,<- GE]
  conv=>lhs;rw[show xs++List.drop xs.length (List.drop off cs)=(cs.drop off).take xs.length++List.drop xs.length (List.drop off cs) by rw[h]]
  rw[FO,FO]
 exact this
theorem j9(hs:∀x,(ab (f x)).length=sz)(hag:∀x,f x= .agg (ab (f x)))(hcl:∀x g,cl g (f x)=f x)(hz:0<sz){h:Hp}{q:Nat}{l:List α}(hq:h[q]? = some (rowOf f l))(d:Nat):
  gH (d+1) h (.hs q 0 l.length sz true)= .sl (l.map f):=by
 have hlen:=dA (f:=f) hs l;simp only[gH,cl,hq];have h1:(decide (0+l.length*sz<=(rowOf f l).length)&&decide (0<sz)&&(true||(Nat.beq sz 1&&(rowOf f l).all aL)))=true:=by
  simp[hlen,hz]
 rw[h1,El];congr 1;apply GM
 ·simp
 ·intro i h2 h3;have hi:i<l.length:=by simpa using h2
  simp only[GN,G5,ED,El];rw[dn hs l i hi,<- hag];cases d with
  |zero=>exact hcl _ _
  |succ d=>exact hcl _ _
theorem lH{T:TT}{t e:Nat}{ti ei:TI}(ht:T t=some ti)(hk:ti.kind= .slice e)(he:T e=some ei)(h4:ei.size=sz)(hag:ei.agg=true)(hb:0<ei.bytes)(hz:0<sz)(hok:∀x,bM sz (f x)=true)(call:FuncId->List AV->M AV)(l:List α)(hc:l.length*ei.bytes<=140737488355328)(h:Hp):
  cB T t call [.sl (l.map f)] h=if l=[]then .ok (.sl []) h else .ok (.hs h.length 0 l.length sz true) (h++[rowOf f l]):=by
 have h1:bW sz (l.map f)=true:=ck hok l;cases l with
 |nil=>simp[cB,appH,ht,hk,he,e9,hb,h4,hG,bW,hz]
 |cons v l=>
  have hne:((v:: l).map f).isEmpty=false:=rfl;unfold cB appH;simp only[ht,hk,he,e9,h4,h1,hb,hz,hG,Fu,G6,El,hne,Ep,ET,hag];rw[FF hc];simp[rowOf]
end
def oc{T:TT}{t:Nat}{ti:TI}{q off:Nat}{cs:List AV}{h:Hp}(ht:T t=some ti)(hag:ti.agg=true)(hq:h[q]? = some cs)(hle:off+ti.size<=cs.length):fI T t (.hp q off) h= .ok (.agg ((cs.drop off).take ti.size)) h:=by
 simp only[fI,ht,hq,hag,El];rw[Es hle]
def kX{T:TT}{t:Nat}{ti:TI}{q off:Nat}{cs:List AV}{v:AV}{h:Hp}(ht:T t=some ti)(hq:h[q]? = some cs)(hok:bM ti.size v=true)(hle:off+ti.size<=cs.length)(h0:0<ti.size)(hsame:(cs.drop off).take (ab v).length=ab v):
  fB T t (.hp q off) v h= .ok (.tup []) h:=by
 simp only[fB,ht,hq,hok,FF hle,FF h0,G6,El];rw[nh hsame];congr 1;obtain⟨hlt,hk⟩:=E6.1 hq;rw[<- hk];exact List.set_getElem_self hlt
end Go.Av.Ap
namespace Go.Av.Ap
open Go Go.Av
def ll(b:UInt8):Bool:=decide (97<=b.toNat)&&decide (b.toNat<=122)
def rX(b:UInt8):Bool:=decide (48<=b.toNat)&&decide (b.toNat<=57)
def lB(b:UInt8):Bool:=ll b||rX b
def kY(s:bI):Bool:=!(s== [])&&ll (s.headD 0)&&decide (s.length<=20)&&((s.takeWhile lB).length== s.length)
def iq:bI:=[32,97,110,100,32,98,97,99,107,32,98,111,111,108,32,99,108,111,99,107,32,101,108,115,101,32,102,97,108,115,101,32,102,105,108,101,115,32,102,110,32,102,111,114,119,97,114,100,32,103,101,116,32,105,102,32,105,110,32,105,110,116,32,108,101,116,32,109,111,100,117,108,101,32,109,111,118,101,32,110,101,116,32,110,111,116,32,111,114,32,112,117,98,32,115,101,99,114,101,116,115,32,115,101,116,32,116,104,101,110,32,116,114,117,101,32,117,115,101,32,118,97,114,32]
def bz(s:bI):Bool:=kY s&&!(Lib.contains iq ([32]++s++[32]))
def uJ{s:bI}(h:kY s=true):s.length<=20:=by
 unfold kY at h;simp only[Em,Ew]at h;exact h.1.2
def df(p f:bI):Bool:=!(aC f p||f== p)
def fO{α:Type}(Q:α->α->Bool):List α->Bool
 |x:: y:: r=>Q x y&&fO Q (y:: r)
 |_=>true
theorem pW{α:Type}[Inhabited α](Q:α->α->Bool):(l:List α)->(fO Q l=true↔∀k,k+1<l.length->Q l[k]! l[k+1]! = true)
 |[]=>by simp[fO]
 |[x]=>by simp[fO]
 | x:: y:: r=>by
  simp only[fO,Em,pW Q (y:: r)];constructor
  ·rintro⟨h1,h2⟩ k hk;cases k with
   |zero=>simpa using h1
   |succ k=>simpa using h2 k (by simpa using hk)
  ·intro h;refine⟨by simpa using h 0 (by simp),fun k hk=>?_⟩;simpa using h (k+1) (by simpa using hk)
def oM{α:Type}[Inhabited α](P:α->Bool)(Q:α->α->Bool)(l:List α):(List.range' 0 l.length).all (fun k=>P l[k]! && (decide (k=0)||Q l[k-1]! l[k]!))=(l.all P&&fO Q l):=by
 rw[F6,Em,<- ru P l,pW];simp only[Et,G9,Em,Ft,Ew];constructor
 ·intro h;refine⟨fun k hk=>(h k hk).1,fun k hk=>?_⟩
  have:=(h (k+1) ⟨ES _,by omega⟩).2
  rcases this with h0|h1
  ·omega
  ·simpa using h1
 ·rintro⟨h1,h2⟩ k hk;refine⟨h1 k hk,?_⟩;cases k with
  |zero=>exact .inl rfl
  |succ k=>exact .inr (by simpa using h2 k (by omega))
def cD:Nat->Ty->Bool
 |0,_=>false
 |d+1,t=>decide (0<=t.kind)&&decide (t.kind<3)&&decide (t.fields.length<=8)&&(t.kind== 2||t.fields.length== 0)&&(t.fields.all (fun f=>bz f.1&&cD d f.2)&&fO (fun a b=>df a.1 b.1) t.fields)
theorem eT(d:Nat)(t:Ty):cD (d+1) t=(decide (0<=t.kind)&&decide (t.kind<3)&&decide (t.fields.length<=8)&&(t.kind== 2||t.fields.length== 0)&&(t.fields.all (fun f=>bz f.1&&cD d f.2)&&fO (fun a b=>df a.1 b.1) t.fields)):=rfl
abbrev bR(t:Ty):Bool:=cD 4 t
mutual
def oP:Ty->Ty->Bool
 |.mk k fs,a=>a.kind== k&&lg fs a.fields
def lg:List (bI×Ty)->List dV->Bool
 |[],_=>true
 |f:: fs,l=>rH f l&&lg fs l
def rH:bI×Ty->List dV->Bool
 |(n,t),l=>match cj (fun z=>z.1== n) l with
  |some z=>oP t z.2
  |none=>false
end
def iH(a b:Ty):Bool:=oP b a
theorem ky:(fs:List dV)->(l:List dV)->lg fs l=fs.all fun f=>rH f l
 |[],_=>rfl
 |f:: fs,l=>by simp[lg,ky fs l]
def nz(a b:Ty):iH a b=(a.kind== b.kind&&b.fields.all fun f=>match cj (fun z=>z.1== f.1) a.fields with|some z=>iH z.2 f.2|none=>false):=by
 cases b with
 |mk k fs=>
  show oP (.mk k fs) a=_;simp only[oP,ky,Ty.kind,Ty.fields];congr 2;funext f;obtain⟨n,t⟩:=f;simp only[rH,iH]
def pD(a b:Ty):Bool:=bR a&&bR b&&iH a b
def dt(a b:Int):Int:=IntKind.i64.wrap (BitVec.ofInt 64 a &&& ~~~ BitVec.ofInt 64 b).toNat
def sU(a b:Sig):Bool:=mY pD b.params a.params&&pD a.result b.result&&(dt a.effects b.effects== 0)
def dM(s:Sig):Bool:=bz s.name&&decide (s.params.length<=6)&&(dt s.effects 15== 0)&&bR s.result&&s.params.all bR
def cw(f:Face):Bool:=bz f.module&&decide (f.funcs.length<=30)&&(f.funcs.all dM&&fO (fun a b=>aC a.name b.name) f.funcs)
def iA(f:Face)(name:bI):Option Sig:=f.funcs.find? fun s=>s.name== name
def fw(now:Face)(f:Sig):Bool:=match iA now f.name with
 |some g=>sU g f
 |none=>false
def gC(old now:Face):Option Sig:=old.funcs.find? fun f=>!(fw now f)
def ew(old now:Face):Bool:=old.module== now.module&&cw old&&cw now
def dj(old now:Face):Int×bI:=if ew old now=true then(match gC old now with
  |some f=>(2,f.name)
  |none=>match gC now old with
   |some _=>(1,[])
   |none=>(0,[]))else(2,[])
structure Sig.Lim (s:Sig):Prop where
 plen:s.params.length<=140737488355328
 ptys:∀t∈s.params,t.Lim
 result:s.result.Lim
structure Face.Lim (f:Face):Prop where
 len:f.funcs.length<=140737488355328
 sigs:∀s∈f.funcs,s.Lim
@[simp] theorem rO(x:Sig):aV 5 x.av=M.pure x.av:=by rw[br (g7 x),dK,eN]
@[simp] theorem iZ(x:Sig):az 5 [] x.av=M.pure x.av:=by rw[aP (g7 x),dK,eN]
end Go.Av.Ap
