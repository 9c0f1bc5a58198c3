/- The abstract evaluator of the model and plain laws, part 3: its soundness holds for every program whose table of types is the evaluator's. No further condition. -/
import Derived.Test.YtpmcemjkdkbicaaGreatDoorLb
import Derived.KernelRfl
import Derived.Below
import Derived.Lib.IndexMore
import Derived.Lib.Fields
import Derived.Lib.AtoiAll
import Derived.Lib.SplitLaws
import Derived.Shelf.SlSortCmp.WholeK
import Derived.Lib.Bytealg
import Derived.ChangeSame
import Derived.OpenShut
import Derived.ChangeReads
import Derived.ReadAgain
import Derived.Deep.Slices
import Derived.WideShapes
import Derived.SizedLaws
import Derived.IntWalk
import Derived.Sort.MapsRangeIn
import Derived.Maps.OwnIn
import Derived.RangeFuncSeq
import Derived.Lib.AtoiAllCases
import Derived.Lib.Split
import Derived.Lib.IndexBytes
set_option linter.defProp false
set_option linter.unusedSimpArgs false
set_option linter.unusedVariables false
namespace Go.Av
variable [Dr]
def aR{α:Type}(m:M α):Prop:=∃o,m=af o
def ct{α:Type}(m:M α):Prop:=∀h,m h= .fail\/∃v,m h= .ok v h
def cO{α:Type}(m:M α):Prop:=∀h v h',m h≠.pan v h'
omit [Dr]in
theorem aR.read{α:Type}{m:M α}(h:aR m):ct m:=by
 obtain⟨o,rfl⟩:=h;intro h;cases o with
 |none=>exact .inl rfl
 |some v=>exact .inr ⟨v,rfl⟩
omit [Dr]in
theorem ct.stay{α:Type}{m:M α}(g:ct m):cO m:=by
 intro h v h' hh;rcases g h with g|⟨x,g⟩<;>rw[g]at hh<;>cases hh
omit [Dr]in
theorem aR.bnd{α β:Type}{m:M α}(h:aR m)(f:α->β):aR (ae m fun v=>M.pure (f v)):=by
 obtain⟨o,rfl⟩:=h;cases o with
 |none=>exact⟨none,rfl⟩
 |some v=>exact⟨some (f v),rfl⟩
omit [Dr]in
theorem ct.bnd{α β:Type}{m:M α}(g:ct m)(f:α->β):ct (ae m fun v=>M.pure (f v)):=by
 intro h;simp only[Av.ae,M.pure];rcases g h with g|⟨x,g⟩<;>rw[g]
 ·exact .inl rfl
 ·exact .inr ⟨_,rfl⟩
omit [Dr]in
theorem cO.bnd{α β:Type}{m:M α}(g:cO m)(f:α->β):cO (ae m fun v=>M.pure (f v)):=by
 intro h v h' hh;simp only[Av.ae,M.pure]at hh;cases hm:m h<;>rw[hm]at hh<;>simp at hh;exact g _ _ _ hm
omit [Dr]in
theorem aR.lft{α:Type}(o:Option α):aR (af o):=⟨o,rfl⟩
omit [Dr]in
theorem aR.pure{α:Type}(a:α):aR (M.pure a):=⟨some a,rfl⟩
omit [Dr]in
theorem aR.fail{α:Type}:aR (M.fail:M α):=⟨none,rfl⟩
def g7{α:Type}(m:M α):Prop:=∀h t v,m h= .ok v h->m (h++t)= .ok v (h++t)
def rM{α:Type}(m:M α):Prop:=∀h v h',m h= .ok v h'->∃t,h'=h++t
omit [Dr]in
theorem aR.app{α:Type}{m:M α}(h:aR m):g7 m:=by
 obtain⟨o,rfl⟩:=h;intro h t v hh;cases o with
 |none=>cases hh
 |some x=>cases hh;rfl
omit [Dr]in
theorem aR.nw{α:Type}{m:M α}(h:aR m):rM m:=by
 obtain⟨o,rfl⟩:=h;intro h v h' hh;cases o with
 |none=>cases hh
 |some x=>cases hh;exact⟨[],by simp⟩
omit [Dr]in
theorem g7.bnd{α β:Type}{m:M α}(g:g7 m/\ct m)(f:α->β):g7 (ae m fun v=>M.pure (f v))/\ct (ae m fun v=>M.pure (f v)):=by
 refine⟨fun h t v hh=>?_,g.2.bnd f⟩;simp only[Av.ae,M.pure]at hh |-;rcases g.2 h with k|⟨x,k⟩
 ·rw[k]at hh;cases hh
 ·rw[k]at hh;cases hh;rw[g.1 h t x k]
omit [Dr]in
theorem rM.bnd{α β:Type}{m:M α}(g:rM m)(f:α->β):rM (ae m fun v=>M.pure (f v)):=by
 intro h v h' hh;simp only[Av.ae,M.pure]at hh;cases hm:m h<;>rw[hm]at hh<;>simp at hh;obtain⟨t,ht⟩:=g _ _ _ hm;exact⟨t,by rw[<- hh.2,ht]⟩
def a8(p:∀ {α:Type},M α->Prop):Act1->Prop
 |.dyn m _=>p m
 |.thr _=>False
 |_=>True
structure IsoPure (cx:Cx):Prop where
 iso:∀f args,cx.iso f=true->aR (cx.call f args)
 nw:∀f args,cx.nw f=true->rM (cx.call f args)
section
variable {cx:Cx} {e:Env} {gid:Nat} {o:Oper}
omit [Dr]in
theorem a8.cond{p:∀ {α:Type},M α->Prop}{b:Bool}{x y:Act1}(h1:b=true->a8 p x)(h2:b=false->a8 p y):a8 p (bif b then x else y):=by
 cases b with
 |true=>exact h1 rfl
 |false=>exact h2 rfl
omit [Dr]in
theorem a8.lft(o:Option AV)(sh:AV->Upd):a8 aR (.dyn (af o) sh):=aR.lft o
omit [Dr]in
theorem lG(T:TT)(t:TypeId)(x:AV):ct (di T t x):=by
 have key:∀x,ct (fun h:Hp=>(match ap T t x with|some v=>R.ok v h|none=>.fail)):=by
  intro x h;cases hq:ap T t x with
  |none=>exact .inl rfl
  |some v=>exact .inr ⟨v,rfl⟩
 cases x with
 | hp l off=>
  intro h;simp only[di];cases T t with
  |none=>exact .inl rfl
  | some ti=>
   cases h[l]? with
   |none=>exact .inl rfl
   | some cs=>
    simp only;cases ti.agg with
    |true=>
     simp only[CV];split
     ·exact .inr ⟨_,rfl⟩
     ·exact .inl rfl
    |false=>
     simp only[CY];cases cs[off]? with
     |none=>exact .inl rfl
     |some v=>exact .inr ⟨v,rfl⟩
 |_=>exact key _
omit [Dr]in
theorem qo(T:TT)(t:TypeId)(x y:AV):cO (dG T t x y):=by
 intro h v h' hh;unfold dG at hh;split at hh
 ·split at hh
  ·revert hh;generalize (_&&_:Bool)=b1;cases b1<;>simp
  ·cases hh
 ·cases hh
omit [Dr]in
theorem o7(T:TT)(t:TypeId)(x:AV):cO (nR T t x):=fun h v h' hh=>by cases hh
omit [Dr]in
theorem nh(cs:List AV):cO (newH cs):=by
 intro h v h' hh;unfold newH at hh;revert hh;generalize (_||_:Bool)=b1;cases b1<;>simp
omit [Dr]in
theorem tv(t:Nat)(cs:List AV):cO (pX t cs):=by
 intro h v h' hh;unfold pX at hh;split at hh
 ·revert hh;generalize List.any _ _=b1;cases b1<;>simp
 ·cases hh
omit [Dr]in
theorem ot:cO oq:=by
 intro h v h' hh;cases hh
omit [Dr]in
theorem ri(T:TT)(t:TypeId)(x k:AV)(ok:Bool):ct (ki T t x k ok):=by
 intro h;unfold ki;cases jY h x with
 |none=>exact .inl rfl
 |some es=>
  simp only;cases nc T t es k ok with
  |none=>exact .inl rfl
  |some v=>exact .inr ⟨v,rfl⟩
omit [Dr]in
theorem s5{h s:Hp}{x:AV}{es:List AV}(hh:jY h x=some es):jY (h++s) x=some es:=by
 unfold jY at hh |-;cases x with
 | mp l=>
  simp only at hh |-;cases hl:h[l]? with
  |none=>rw[hl]at hh;cases hh
  | some cs=>
   rw[hl]at hh;have hl':(h++s)[l]? = some cs:=by
    rw[Er,CW (El.1 hl).1,hl]
   rw[hl'];exact hh
 |_=>exact hh
omit [Dr]in
theorem tq(T:TT)(t:TypeId)(x k:AV)(ok:Bool):g7 (ki T t x k ok):=by
 intro h s v hh;unfold ki at hh |-;cases hs:jY h x with
 |none=>rw[hs]at hh;cases hh
 |some es=>
  rw[hs]at hh;rw[s5 hs];simp only at hh |-;cases ha:nc T t es k ok with
  |none=>rw[ha]at hh;cases hh
  |some u=>rw[ha]at hh;cases hh;rfl
omit [Dr]in
theorem p9(T:TT)(t:TypeId)(x:AV):cO (oz T t x):=fun h v h' hh=>by cases hh
omit [Dr]in
theorem pd(x:AV):ct (kZ x):=fun h=>.inl rfl
omit [Dr]in
theorem qO(x:AV):g7 (kZ x):=fun h s v hh=>by cases hh
omit [Dr]in
theorem nq(T:TT)(t:TypeId)(x k y:AV):cO (ve T t x k y):=by
 intro h v h' hh;unfold ve at hh;split at hh
 ·cases hh
 ·revert hh;cases sX T 20 _ k with
  |false=>intro hh;cases hh
  | true=>
   simp only[CV];intro hh;split at hh
   ·split at hh
    ·split at hh
     ·cases hh
     ·cases hh
    ·cases hh
   ·cases hh
omit [Dr]in
theorem sN(T:TT)(t:TypeId)(z:Bool)(x y:AV):cO (appH T t z x y):=by
 intro h v h' hh;unfold appH at hh;have hc:∀ {b:Bool} {r s:R AV},(∀v h',r≠.pan v h')->(∀v h',s≠.pan v h')->(bif b then r else s)≠.pan v h':=by
  intro b r s h1 h2;cases b
  ·exact h2 _ _
  ·exact h1 _ _
 split at hh
 ·cases hh
 ·split at hh
  ·split at hh
   ·cases hh
   ·split at hh
    ·cases hh
    ·refine hc (fun v h' hh=>?_) (fun v h' hh=>by cases hh) hh;split at hh
     ·revert hh;generalize List.isEmpty _=b1;generalize decide (_<=140737488355328)=b2;cases b1<;>cases b2<;>simp
     ·revert hh;generalize List.isEmpty _=b1;generalize decide (_<=140737488355328)=b2;cases z<;>cases b1<;>cases b2<;>simp
     ·split at hh
      ·cases hh
      ·revert hh;generalize (_&&_:Bool)=b1;generalize List.isEmpty _=b2;cases b1<;>cases b2<;>simp
     ·cases hh
  ·cases hh
omit [Dr]in
theorem sM(T:TT)(t:TypeId)(x y:AV):cO (kN T t x y):=by
 intro h v h' hh;unfold kN at hh;have hc:∀ {b:Bool} {r s:R AV},(∀v h',r≠.pan v h')->(∀v h',s≠.pan v h')->(bif b then r else s)≠.pan v h':=by
  intro b r s h1 h2;cases b
  ·exact h2 _ _
  ·exact h1 _ _
 split at hh
 ·cases hh
 ·split at hh
  ·split at hh
   ·cases hh
   ·refine hc (fun v h' hh=>?_) (fun v h' hh=>by cases hh) hh;split at hh
    ·cases hh
    ·split at hh
     ·cases hh
     ·split at hh
      ·revert hh;generalize List.isEmpty _=b1;generalize decide (_<=140737488355328)=b2;cases b1<;>cases b2<;>simp
      ·split at hh
       ·cases hh
       ·revert hh;generalize (_&&_:Bool)=b1;generalize List.isEmpty _=b2;cases b1<;>cases b2<;>simp
      ·cases hh
  ·cases hh
omit [Dr]in
theorem oZ(T:TT)(t n:Nat)(ps:List (Nat×AV)):cO (nQ T t n ps):=fun h v h' hh=>by cases hh
omit [Dr]in
theorem rj(T:TT)(t:Nat)(x y:AV):cO (iS T t x y):=by
 intro h v h' hh;unfold iS at hh;split at hh
 ·split at hh
  ·cases hh
  ·split at hh
   ·split at hh
    ·cases hh
    ·revert hh;generalize (_&&_:Bool)=b1;cases b1<;>simp
   ·cases hh
 ·cases hh
omit [Dr]in
theorem nf(told:Bool)(x:Operand):a8 aR (e9 told e gid x):=by
 unfold e9;split
 ·trivial
 ·exact a8.cond (fun _=>a8.cond (fun _=>trivial) (fun _=>trivial)) (fun _=>trivial)
omit [Dr]in
theorem rf(d:Option Tmp)(t:TypeId)(p:Nat):a8 ct (cJ cx e d t p)/\(ba cx.ann.hl d=false->a8 aR (cJ cx e d t p)):=by
 unfold cJ;split
 ·split
  ·exact⟨trivial,fun _=>trivial⟩
  ·constructor
   ·exact a8.cond (fun _=>a8.cond (fun _=>trivial) (fun _=>a8.cond (fun _=>trivial) (fun _=>trivial))) (fun _=>trivial)
   ·exact fun _=>a8.cond (fun _=>a8.cond (fun _=>trivial) (fun _=>a8.cond (fun _=>trivial) (fun _=>trivial))) (fun _=>trivial)
 ·cases hm:ba cx.ann.hl d with
  |true=>exact⟨lG _ _ _,fun h=>by cases h⟩
  |false=>exact⟨(aR.lft _).read,fun _=>aR.lft _⟩
omit [Dr]in
theorem tn(T:TT)(t:TypeId)(x:AV):g7 (di T t x):=by
 intro h s v hh;have hk:∀y,(match ap T t y with|some v=>R.ok v h|none=>.fail)=R.ok v h->(match ap T t y with|some v=>R.ok v (h++s)|none=>.fail)=R.ok v (h++s):=by
  intro y hy;cases hq:ap T t y with
  |none=>rw[hq]at hy;cases hy
  |some u=>rw[hq]at hy;cases hy;rfl
 unfold di at hh |-;cases x with
 | hp l off=>
  simp only at hh |-;cases hT:T t with
  |none=>rw[hT]at hh;cases hh
  | some ti=>
   rw[hT]at hh;cases hl:h[l]? with
   |none=>rw[hl]at hh;cases hh
   | some cs=>
    have hl':(h++s)[l]? = some cs:=by
     rw[Er]
     have:=(El.1 hl).1
     rw[CW this,hl]
    rw[hl]at hh;rw[hl'];simp only at hh |-;cases hag:ti.agg with
    |true=>
     rw[hag]at hh;simp only[CV]at hh |-;split at hh
     ·rename_i hc;cases hh;rw[CW hc]
     ·cases hh
    |false=>
     rw[hag]at hh;simp only[CY]at hh |-;cases hq:cs[off]? with
     |none=>rw[hq]at hh;cases hh
     |some u=>rw[hq]at hh;cases hh;rfl
 |_=>exact hk _ hh
omit [Dr]in
theorem uL(d:Option Tmp)(t:TypeId)(p:Nat):a8 (fun m=>g7 m/\ct m) (cJ cx e d t p):=by
 unfold cJ;split
 ·split
  ·trivial
  ·exact a8.cond (fun _=>a8.cond (fun _=>trivial) (fun _=>a8.cond (fun _=>trivial) (fun _=>trivial))) (fun _=>trivial)
 ·cases hm:ba cx.ann.hl d with
  |true=>exact⟨tn _ _ _,lG _ _ _⟩
  |false=>exact⟨(aR.lft _).app,(aR.lft _).read⟩
omit [Dr]in
theorem ux{A:Act1}(h:a8 cO A):a8 cO (y8 A):=by
 cases A with
 |bad=>trivial
 |stat u=>intro h v h' hh;cases hh
 |dyn m sh=>
  intro x v h' hh;simp only[Av.ae,r5]at hh;cases hm:m x<;>rw[hm]at hh<;>simp at hh;exact h _ _ _ hm
 |thr v=>exact h.elim
omit [Dr]in
theorem qV(t p i:Nat):a8 aR (eG cx e t p i):=by
 unfold eG;split
 ·split
  ·trivial
  ·split
   ·trivial
   ·split
    ·trivial
    ·exact a8.cond (fun _=>trivial) (fun _=>trivial)
 ·exact aR.lft _
omit [Dr]in
theorem qZ(t p:Nat)(i:Operand):a8 aR (cp cx e t p i):=by
 unfold cp;split
 ·split
  ·split
   ·split
    ·trivial
    ·exact a8.cond (p:=aR) (fun _=>trivial) (fun _=>trivial)
   ·trivial
  ·trivial
 ·exact aR.lft _
omit [Dr]in
theorem rF(t p:Nat)(y:Operand):a8 cO (dE cx e gid t p y):=by
 have hl:∀o:Option AV,cO (Av.af o):=fun o=>(aR.lft o).read.stay;unfold dE;split
 ·split
  ·trivial
  ·refine a8.cond (fun _=>a8.cond (fun _=>a8.cond (fun _=>hl _) (fun _=>trivial)) (fun _=>a8.cond (fun _=>hl _) (fun _=>a8.cond (fun _=>?_) (fun _=>trivial)))) (fun _=>trivial);split
   ·split
    ·exact hl _
    ·trivial
   ·exact a8.cond (fun _=>trivial) (fun _=>hl _)
 ·exact qo _ _ _ _
omit [Dr]in
theorem rE(t p:Nat)(y:Operand)(hl:eY (e.get p)=true):a8 aR (dE cx e gid t p y):=by
 have hl':∀o:Option AV,aR (Av.af o):=fun o=>aR.lft o;unfold dE;cases hv:(e.get p).v with
 |val a=>simp[eY,hv]at hl
 | loc B off=>
  simp only;split
  ·trivial
  ·refine a8.cond (fun _=>a8.cond (fun _=>a8.cond (fun _=>hl' _) (fun _=>trivial)) (fun _=>a8.cond (fun _=>hl' _) (fun _=>a8.cond (fun _=>?_) (fun _=>trivial)))) (fun _=>trivial);split
   ·split
    ·exact hl' _
    ·trivial
   ·exact a8.cond (fun _=>trivial) (fun _=>hl' _)
omit [Dr]in
theorem gx(s t:Nat):a8 cO (dC cx e gid s t)/\(br cx.ann.kinds s .L≠.H->br cx.ann.kinds s .L≠.B->a8 aR (dC cx e gid s t)):=by
 unfold dC;split
 ·exact⟨trivial,fun _ _=>trivial⟩
 ·cases hk:br cx.ann.kinds s .L with
  |F=>exact⟨trivial,fun _ _=>trivial⟩
  |H=>exact⟨nh _,fun h=>absurd rfl h⟩
  |B=>exact⟨tv _ _,fun _ h=>absurd rfl h⟩
  |L=>exact⟨a8.cond (fun _=>trivial) (fun _=>trivial),fun _ _=>a8.cond (fun _=>trivial) (fun _=>trivial)⟩
  |S=>exact⟨a8.cond (fun _=>trivial) (fun _=>trivial),fun _ _=>a8.cond (fun _=>trivial) (fun _=>trivial)⟩
omit [Dr]in
theorem mL(s t:Nat)(x:Operand):a8 cO (gK cx e s t x)/\(br cx.ann.kinds s .F≠.H->a8 aR (gK cx e s t x)):=by
 have hl:∀o:Option AV,cO (Av.af o):=fun o=>(aR.lft o).read.stay;unfold gK;cases hk:br cx.ann.kinds s .F with
 |F=>exact⟨trivial,fun _=>trivial⟩
 |H=>exact⟨nh _,fun h=>absurd rfl h⟩
 |B=>exact⟨trivial,fun _=>trivial⟩
 |L=>
  simp only;split
  ·exact⟨trivial,fun _=>trivial⟩
  ·exact⟨a8.cond (fun _=>hl _) (fun _=>trivial),fun _=>a8.cond (fun _=>aR.lft _) (fun _=>trivial)⟩
 |S=>
  simp only;split
  ·exact⟨trivial,fun _=>trivial⟩
  ·exact⟨a8.cond (fun _=>hl _) (fun _=>trivial),fun _=>a8.cond (fun _=>aR.lft _) (fun _=>trivial)⟩
structure Class (f:Foot) (A:Act1):Prop where
 stay:f.piv=false->a8 cO A
 read:f.wh=false->a8 ct A
 pure:f.wh=false->f.rh=false->a8 aR A
 app:f.wh=false->a8 (fun m=>g7 m/\ct m) A
 nw:f.nw=true->a8 rM A
omit [Dr]in
theorem a8.imp{p q:∀ {α:Type},M α->Prop}(hpq:∀ {α:Type} (m:M α),p m->q m){A:Act1}(h:a8 p A):a8 q A:=by
 cases A<;>first|trivial|exact hpq _ h|exact h
omit [Dr]in
theorem Class.of_pure{f:Foot}{A:Act1}(h:a8 aR A):Class f A:=
 ⟨fun _=>h.imp fun _ g=>g.read.stay,fun _=>h.imp fun _ g=>g.read,fun _ _=>h,fun _=>h.imp fun _ g=>⟨g.app,g.read⟩,fun _=>h.imp fun _ g=>g.nw⟩
omit [Dr]in
theorem g7.nw{α:Type}{m:M α}(h:ct m):rM m:=fun x v h' hh=>by
 rcases h x with g|⟨u,g⟩
 ·rw[g]at hh;cases hh
 ·rw[g]at hh;cases hh;exact⟨[],by simp⟩
omit [Dr]in
theorem Class.of_app{f:Foot}{A:Act1}(_hw:f.wh=false)(hr:f.rh=true)(h:a8 (fun m=>g7 m/\ct m) A):Class f A:=
 ⟨fun _=>h.imp fun _ g=>g.2.stay,fun _=>h.imp fun _ g=>g.2,fun _ h=>by(rw[hr]at h;cases h),fun _=>h,fun _=>h.imp fun _ g=>g7.nw g.2⟩
omit [Dr]in
theorem mG(T:TT)(t:TypeId)(x y:AV):ct (oV T t x y):=by
 intro h;unfold oV;cases mB h y with
 |none=>exact .inl rfl
 |some es=>
  simp only;cases dH T t x (.sl es)with
  |none=>exact .inl rfl
  |some v=>exact .inr ⟨v,rfl⟩
omit [Dr]in
theorem vA{h s:Hp}{y:AV}{es:List AV}(hh:mB h y=some es):mB (h++s) y=some es:=by
 unfold mB at hh |-;split at hh
 ·rename_i l off len sz ag;cases hl:h[l]? with
  |none=>rw[hl]at hh;cases hh
  | some cs=>
   rw[hl]at hh;have hl':(h++s)[l]? = some cs:=by
    rw[Er]
    have:=(El.1 hl).1
    rw[CW this,hl]
   simp only[hl'];exact hh
 ·exact hh
 ·exact hh
 ·cases hh
omit [Dr]in
theorem oW(T:TT)(t:TypeId)(x y:AV):g7 (oV T t x y):=by
 intro h s v hh;unfold oV at hh |-;cases hs:mB h y with
 |none=>rw[hs]at hh;cases hh
 |some es=>
  rw[hs]at hh;rw[vA hs];simp only at hh |-;cases ha:dH T t x (.sl es)with
  |none=>rw[ha]at hh;cases hh
  |some u=>rw[ha]at hh;cases hh;rfl
omit [Dr]in
theorem Class.of_stay{f:Foot}{A:Act1}(hw:f.wh=true)(hn:f.nw=false)(h:a8 cO A):Class f A:=
 ⟨fun _=>h,fun h=>by(rw[hw]at h;cases h),fun h=>by(rw[hw]at h;cases h),fun h=>by(rw[hw]at h;cases h),fun h=>by(rw[hn]at h;cases h)⟩
omit [Dr]in
theorem Class.of_piv{f:Foot}{A:Act1}(hw:f.wh=true)(h:f.piv=true)(hn:f.nw=true->a8 rM A):Class f A:=
 ⟨fun h'=>by(rw[h]at h';cases h'),fun h=>by(rw[hw]at h;cases h),fun h=>by(rw[hw]at h;cases h),fun h=>by(rw[hw]at h;cases h),hn⟩
omit [Dr]in
theorem qG(hI:IsoPure cx){c:Call}(ho:o.op= .call c):Class (au cx o) (dD cx e gid o c):=by
 unfold dD;cases hc:c.callee with
 |invoke r m=>exact .of_pure trivial
 | value x=>
  cases x with
  | func f=>
   simp only;cases hfz:ba cx.ann.fz o.dst with
   | true=>
    simp only[CV];cases hq:!(cx.iso f)&&!(cx.nw f)&&(cx.own f).isNone with
    |false=>exact .of_pure trivial
    |true=>
     simp only[CX,DU]at hq;exact .of_piv (by unfold au;rw[ho];simp only[hc,hq.1.1,CY]) (by unfold au;rw[ho];simp only[hc,hq.1.1,CY]) fun hn=>by unfold au at hn;rw[ho]at hn;simp only[hc,hq.1.1,CY,hq.1.2]at hn;cases hn
   |false=>
   simp only[CY];cases hi:cx.iso f with
   |true=>exact .of_pure (hI.iso f _ hi)
   |false=>exact .of_piv (by unfold au;rw[ho];simp only[hc,hi,CY]) (by unfold au;rw[ho];simp only[hc,hi,CY]) fun hn=>hI.nw f _ (by unfold au at hn;rw[ho]at hn;simpa only[hc,hi,CY]using hn)
  |_=>exact .of_piv (by unfold au;rw[ho];simp only[hc]) (by unfold au;rw[ho];simp only[hc]) fun hn=>by unfold au at hn;rw[ho]at hn;simp[hc]at hn
 | builtin b=>
  cases b<;>simp only<;>(try exact .of_pure trivial)
  case clear=>
   have hw:(au cx o).wh=true/\(au cx o).nw=false:=by unfold au;rw[ho];simp only[hc];exact⟨trivial,trivial⟩
   split
   ·exact .of_stay hw.1 hw.2 (o7 _ _ _)
   ·exact .of_pure trivial
  case append=>
   split
   ·cases hu:ez cx.T _ with
    |false=>exact .of_pure trivial
    | true=>
     simp only[D3,CY];cases hha:ba cx.ann.ha o.dst with
     | true=>exact .of_stay (by unfold au;rw[ho];simp only[hc,hha,CV]) (by unfold au;rw[ho];simp only[hc,hha,CV]) (by
       cases ba cx.ann.hb o.dst with
       |true=>simp only[CV];exact sM _ _ _ _
       |false=>exact sN _ _ _ _ _)
     | false=>
      simp only[CY];cases hhl:ba cx.ann.hl o.dst with
      | true=>
       refine .of_app (by unfold au;rw[ho];simp only[hc,hha,CY]) (by unfold au;rw[ho];simp only[hc,hha,hhl,CY]) ?_;simp only[CV];refine a8.cond (fun _=>⟨oW _ _ _ _,mG _ _ _ _⟩) (fun _=>?_);split
       ·split
        ·trivial
        ·split
         ·trivial
         ·exact a8.cond (fun _=>⟨oW _ _ _ _,mG _ _ _ _⟩) (fun _=>trivial)
       ·trivial
      | false=>
       refine .of_pure ?_;simp only[CY];refine a8.cond (fun _=>aR.lft _) (fun _=>?_);split
       ·split
        ·trivial
        ·split
         ·trivial
         ·exact a8.cond (fun _=>aR.lft _) (fun _=>trivial)
       ·trivial
   ·exact .of_pure trivial
  case len=>
   split
   ·exact .of_pure (aR.lft _)
   ·exact .of_pure trivial
  case min=>exact .of_pure (aR.lft _)
  case max=>exact .of_pure (aR.lft _)
omit [Dr]in
theorem de(hI:IsoPure cx)(e:Env)(gid:Nat)(o:Oper):Class (au cx o) (dy cx e gid o):=by
 unfold dy;cases ho:o.op<;>simp only<;>(try exact .of_pure (aR.lft _))<;>(try exact .of_pure trivial)
 case binOp=>exact .of_pure (a8.cond (fun _=>trivial) fun _=>aR.lft _)
 case buildSlice t n ps=>
  cases hha:ba cx.ann.ha o.dst with
  |true=>exact .of_stay (by unfold au;rw[ho];simp only[hha,CV]) (by unfold au;rw[ho];simp only[hha,CV]) (oZ _ _ _ _)
  |false=>exact .of_pure (aR.lft _)
 case makeSlice t x y=>
  cases hha:ba cx.ann.ha o.dst with
  |true=>exact .of_stay (by unfold au;rw[ho];simp only[hha,CV]) (by unfold au;rw[ho];simp only[hha,CV]) (rj _ _ _ _)
  |false=>exact .of_pure (aR.lft _)
 case move x=>exact .of_pure (nf _ x)
 case assign x=>exact .of_pure (nf _ x)
 case box t x=>
  cases hd:o.dst with
  |none=>exact .of_pure trivial
  |some s=>
   cases hk:br cx.ann.kinds s .F with
   |H=>exact .of_stay (by unfold au;rw[ho];simp only[hd,hk]) (by unfold au;rw[ho];simp only[hd,hk]) (mL s t x).1
   |_=>exact .of_pure ((mL s t x).2 (by rw[hk];simp))
 case alloc t=>
  cases hd:o.dst with
  |none=>exact .of_pure trivial
  |some s=>
   cases hk:br cx.ann.kinds s .L with
   |H=>exact .of_stay (by unfold au;rw[ho];simp only[hd,hk]) (by unfold au;rw[ho];simp only[hd,hk]) (gx s t).1
   |B=>exact .of_stay (by unfold au;rw[ho];simp only[hd,hk]) (by unfold au;rw[ho];simp only[hd,hk]) (gx s t).1
   |_=>exact .of_pure ((gx s t).2 (by rw[hk];simp) (by rw[hk];simp))
 case load t x=>
  cases x with
  |tmp p=>
   have h:=rf (cx:=cx) (e:=e) o.dst t p;simp only;cases hnl:ba cx.ann.nl o.dst&&eY (e.get p)with
   |true=>exact .of_pure trivial
   |false=>
   simp only[CY];cases hz:ba cx.ann.fz o.dst with
   |true=>exact .of_stay (by unfold au;rw[ho];exact hz) (by unfold au;rw[ho]) (ux (h.1.imp fun _ g=>g.stay))
   |false=>exact⟨fun _=>h.1.imp fun _ g=>g.stay,fun _=>h.1,fun _ hr=>h.2 (by unfold au at hr;rw[ho]at hr;exact hr),fun _=>uL o.dst t p,fun hn=>by unfold au at hn;rw[ho]at hn;cases hn⟩
  |_=>exact .of_pure trivial
 case store t x y=>
  cases x with
  | tmp p=>
   cases hd:o.dst with
   |some d=>exact .of_pure trivial
   | none=>
    simp only;cases hlw:dn cx.ann.lw p with
    |false=>exact .of_stay (by unfold au;rw[ho];simp[hlw]) (by unfold au;rw[ho]) (by simp only[EU,CY];exact rF t p y)
    |true=>
     cases hlo:eY (e.get p)with
     |false=>exact .of_pure trivial
     |true=>exact .of_pure (by simp only[D3,Fo,CY];exact rE t p y hlo)
  |_=>exact .of_pure trivial
 case nilCheck x=>
  cases x with
  |tmp p=>
   simp only;split
   ·exact .of_pure trivial
   ·exact .of_pure (aR.lft _)
  |_=>exact .of_pure trivial
 case fieldAddr t x i=>cases x<;>first|exact .of_pure (qV _ _ _)|exact .of_pure trivial
 case indexAddr t x i=>cases x<;>first|exact .of_pure (qZ _ _ _)|exact .of_pure (aR.lft _)|exact .of_pure trivial
 case slice t x lo hi mx=>
  refine .of_pure (a8.cond (fun _=>?_) fun _=>aR.lft _);unfold iW;split
  ·split
   ·trivial
   ·split
    ·exact a8.cond (fun _=>aR.lft _) fun _=>trivial
    ·trivial
  ·trivial
 case makeMap t r=>exact .of_stay (by unfold au;rw[ho]) (by unfold au;rw[ho]) (a8.cond (fun _=>trivial) fun _=>ot)
 case lookup t x i ok=>exact .of_app (by unfold au;rw[ho]) (by unfold au;rw[ho]) ⟨tq _ _ _ _ _,ri _ _ _ _ _⟩
 case mapUpdate t m k x=>exact .of_stay (by unfold au;rw[ho]) (by unfold au;rw[ho]) (by unfold gL;split;exact nq _ _ _ _ _;trivial)
 case insert t m k x=>exact .of_stay (by unfold au;rw[ho]) (by unfold au;rw[ho]) (by unfold gL;split;exact nq _ _ _ _ _;trivial)
 case range t x=>exact .of_stay (by unfold au;rw[ho]) (by unfold au;rw[ho]) (p9 _ _ _)
 case entry x=>exact .of_app (by unfold au;rw[ho]) (by unfold au;rw[ho]) ⟨qO _,pd _⟩
 case panic x=>
  refine .of_piv ?_ ?_ ?_
  ·unfold au;rw[ho]
  ·unfold au;rw[ho]
  ·intro hn;unfold au at hn;rw[ho]at hn;cases hn
 case call c=>exact qG hI ho
end
end Go.Av
namespace Go.Av
variable [Dr]
structure EqE (e e':Env):Prop where
 get:∀t,e'.get t=e.get t
 al:∀g,aD e'.al g=aD e.al g
 lb:∀B,aX e'.lb B=aX e.lb B
 lf:∀B,aL e'.sl B=aL e.sl B
omit [Dr]in
theorem EqE.refl(e:Env):EqE e e:=⟨fun _=>rfl,fun _=>rfl,fun _=>rfl,fun _=>rfl⟩
omit [Dr]in
theorem EqE.symm{e e':Env}(h:EqE e e'):EqE e' e:=⟨fun t=>(h.get t).symm,fun t=>(h.al t).symm,fun t=>(h.lb t).symm,fun t=>(h.lf t).symm⟩
omit [Dr]in
theorem EqE.trans{a b c:Env}(h:EqE a b)(g:EqE b c):EqE a c:=
 ⟨fun t=>(g.get t).trans (h.get t),fun t=>(g.al t).trans (h.al t),fun t=>(g.lb t).trans (h.lb t),fun t=>(g.lf t).trans (h.lf t)⟩
def RE:R Env->R Env->Prop
 |.fail,_=>True
 |.ok e h,r=>∃e',r= .ok e' h/\EqE e e'
 |.pan v h,r=>r= .pan v h
omit [Dr]in
theorem RE.refl(r:R Env):RE r r:=by
 cases r with
 |ok e h=>exact⟨e,rfl,.refl e⟩
 |pan v h=>exact rfl
 |fail=>trivial
omit [Dr]in
theorem RE.trans{a b c:R Env}(h:RE a b)(g:RE b c):RE a c:=by
 cases a with
 |ok e x=>
  obtain⟨e',rfl,h⟩:=h;obtain⟨e2,rfl,g⟩:=g;exact⟨e2,rfl,h.trans g⟩
 |pan v x=>cases h;exact g
 |fail=>trivial
omit [Dr]in
theorem fM(l r:List (Nat×Ent))(t:Nat):be (l++r) t=if(∃x∈l,x.1=t)then be l t else be r t:=by
 induction l with
 |nil=>simp
 | cons x l ih=>
  obtain⟨k,y⟩:=x;rw[DK,bn,bn];by_cases hk:k=t
  ·subst hk;simp
  ·rw[if_neg hk,if_neg hk,ih];have:(∃x∈(k,y):: l,x.1=t)↔(∃x∈l,x.1=t):=by
    simp only[De,exists_eq_or_imp];constructor
    ·rintro (h|h)
     ·exact absurd h hk
     ·exact h
    ·exact .inr
   simp only[this]
omit [Dr]in
theorem lL{l:List (Nat×Ent)}(r:List (Nat×Ent)){t:Nat}(h:∀x∈l,x.1≠t):be (l++r) t=be r t:=by
 rw[fM,if_neg];rintro⟨x,hx,ht⟩;exact h x hx ht
omit [Dr]in
theorem fN(d:Option Tmp)(x:Ent)(r:List (Nat×Ent))(t:Nat):be (ml d x r) t=if d=some t then x else be r t:=by
 cases d with
 |none=>simp[ml]
 |some s=>simp only[ml,bn,CS]
omit [Dr]in
theorem kh{l r s:List (Nat×Ent)}{t:Nat}(h:be r t=be s t):be (l++r) t=be (l++s) t:=by
 rw[fM,fM,h]
omit [Dr]in
theorem eg(l r:List (Nat×Ent))(B:Nat):aL (l++r) B=(aL l B&&aL r B):=by
 unfold aL;rw[List.all_append]
def iE(x:Ent)(B:Nat):Bool:=match x.v with
 |.loc C _=>!(Nat.beq C B)
 |.val _=>true
omit [Dr]in
theorem c7(d:Option Tmp)(x:Ent)(r:List (Nat×Ent))(B:Nat):aL (ml d x r) B=((d.isNone||iE x B)&&aL r B):=by
 cases d with
 |none=>simp[ml]
 |some t=>rfl
omit [Dr]in
theorem iR{l:List (Nat×Ent)}{B t C off:Nat}(h:aL l B=true)(ht:(be l t).v= .loc C off):C≠B:=by
 induction l with
 |nil=>simp[be,Ent.none]at ht
 | cons x l ih=>
  obtain⟨k,y⟩:=x;rw[bn]at ht;simp only[aL,Ef,CX]at h;split at ht
  ·rw[ht]at h;have h1:=h.1;simp only[DU]at h1;intro hc;rw[hc,Fc]at h1;cases h1
  ·exact ih (by unfold aL;exact h.2) ht
omit [Dr]in
theorem cU(l r:List (Nat×Option Nat))(g:Nat):aD (l++r) g=(match aD l g with|some z=>some z|none=>aD r g):=by
 induction l with
 |nil=>rfl
 |cons x l ih=>
  obtain⟨k,y⟩:=x;rw[DK,bh,bh];split
  ·rfl
  ·exact ih
omit [Dr]in
theorem jW{l:List (Nat×Option Nat)}{k g:Nat}(h:∀x∈l,x.1=k)(hg:g≠k):aD l g=none:=by
 induction l with
 |nil=>rfl
 | cons x l ih=>
  obtain⟨j,y⟩:=x;rw[bh,if_neg]
  ·exact ih fun x hx=>h x (by simp[hx])
  ·have:=h (j,y) (by simp)
   simp at this;omega
omit [Dr]in
theorem iQ(r:List (Nat×Nat))(k B:Nat):aX (hP r k) B=if k=B then none else aX r B:=by
 induction r with
 |nil=>simp[hP,aX]
 | cons x r ih=>
  obtain⟨j,y⟩:=x;simp only[hP];by_cases hj:j=k
  ·subst hj;simp only[Fc,CV,ih,cC];split<;>rfl
  ·have:Nat.beq j k=false:=by rw[D8];intro hh;exact hj (C1 hh)
   simp only[this,CY,cC,ih];by_cases hg:j=B
   ·subst hg;rw[CW rfl,if_neg (fun h=>hj h.symm),CW rfl]
   ·rw[if_neg hg,if_neg hg]
omit [Dr]in
theorem EqE.upd{e e':Env}(h:EqE e e')(d:Option Tmp)(u:Upd):EqE (e.upd d u) (e'.upd d u):=by
 refine⟨fun t=>?_,fun g=>?_,fun B=>?_,fun B=>?_⟩
 ·show be (ml d u.ent (u.ls++e'.sl)) t=be (ml d u.ent (u.ls++e.sl)) t;rw[fN,fN,kh (h.get t)]
 ·show aD (u.add++cR e'.al u.drop) g=aD (u.add++cR e.al u.drop) g;have:aD (cR e'.al u.drop) g=aD (cR e.al u.drop) g:=by
   cases u.drop with
   |none=>exact h.al g
   |some k=>simp only[cR,gw,h.al g]
  rw[cU,cU,this]
 ·show aX (ic (cH e'.lb u.unlb) u.lb) B=aX (ic (cH e.lb u.unlb) u.lb) B;have:aX (cH e'.lb u.unlb) B=aX (cH e.lb u.unlb) B:=by
   cases u.unlb with
   |none=>exact h.lb B
   |some k=>simp only[cH,iQ,h.lb B]
  cases u.lb with
  |none=>exact this
  |some x=>
   obtain⟨k,n⟩:=x;simp only[ic,cC,this]
 ·show aL (ml d u.ent (u.ls++e'.sl)) B=aL (ml d u.ent (u.ls++e.sl)) B;rw[c7,c7,eg,eg,h.lf B]
section
variable {cx:Cx} {ops:Array Oper} {base:Nat}
def dc(ops:Array Oper)(o:Oper):List Nat:=match o.guard with
 |some (j,_)=>(match (ops[j]?).bind (·.dst)with|some t=>[t]|none=>[])
 |none=>[]
omit [Dr]in
theorem dX{i:Nat}{o:Oper}(ho:ops[i]? = some o):bY ops i=dc ops o++fB o:=by
 unfold bY dc;rw[ho];rfl
omit [Dr]in
theorem dQ{e e':Env}{i:Nat}{o:Oper}(ho:ops[i]? = some o)(hg:∀t∈dc ops o,e'.get t=e.get t)(A:Agree cx o e e'){h:Hp}(hr:dl cx base ops i e h≠.fail):dl cx base ops i e' h=dl cx base ops i e h:=by
 unfold dl at hr |-;rw[ho]at hr;rw[ho];simp only at hr |-;have key:∀ {A':Act1->Act1} ,(∀h,cB (A' .bad) h= .fail)->cB (A' (dy cx e ((base+i)*1000) o)) h≠.fail->cB (A' (dy cx e' ((base+i)*1000) o)) h=cB (A' (dy cx e ((base+i)*1000) o)) h:=by
  intro A' h1 h2;rw[tA A];intro hb;rw[hb]at h2;exact h2 (h1 h)
 cases hgd:o.guard with
 |none=>
  rw[hgd]at hr;exact key (A':=id) (fun _=>rfl) hr
 | some g=>
  obtain⟨j,want⟩:=g;rw[hgd]at hr;simp only at hr |-;cases hdj:cm ops j with
  |none=>rfl
  | some t=>
   rw[hdj]at hr;simp only at hr |-;cases hpl:df cx o with
   |false=>rfl
   | true=>
    rw[hpl]at hr;simp only[CV]at hr |-;have ht:e'.get t=e.get t:=hg t (by unfold dc;rw[hgd];simp only;rw[show (ops[j]?).bind (·.dst)=some t from hdj];simp);have hav:e'.av t=e.av t:=by simp only[Env.av,ht]
    rw[hav];cases hq:e.av t with
    | bool b=>
     rw[hq]at hr;simp only[gm]at hr |-;cases hb:(b== want)with
     |false=>rfl
     |true=>
      rw[hb]at hr;exact key (A':=eD) (fun _=>rfl) hr
    |tup vs=>cases vs<;>rfl
    |_=>rfl
omit [Dr]in
theorem EqE.agree{e e':Env}(h:EqE e e')(o:Oper):Agree cx o e e':=
 ⟨fun t _=>h.get t,fun _=>⟨fun t _=>h.get t,h.lb⟩,fun _=>h.al,fun _ s _ hl=>by rw[h.lf];exact hl⟩
omit [Dr]in
theorem qn{e e':Env}(h:EqE e e')(i:Nat)(x:Hp):RE (stepG cx base ops i e x) (stepG cx base ops i e' x):=by
 unfold stepG;simp only[ae,M.pure];cases hr:dl cx base ops i e x with
 |fail=>trivial
 | _=>
  have ho:∃o,ops[i]? = some o:=by
   cases ho:ops[i]? with
   |none=>unfold dl at hr;rw[ho]at hr;cases hr
   |some o=>exact⟨o,rfl⟩
  obtain⟨o,ho⟩:=ho;rw[dQ ho (fun t _=>h.get t) (h.agree o) (by rw[hr];simp),hr]
  first
   |exact⟨_,rfl,h.upd _ _⟩
   |exact rfl
omit [Dr]in
theorem RE.bind{m m':M Env}{x x':Hp}(h:RE (m x) (m' x')){f f':Env->M Env}(hf:∀e e' x,EqE e e'->RE (f e x) (f' e' x)):RE (ae m f x) (ae m' f' x'):=by
 simp only[ae];revert h;generalize m x=r;generalize m' x'=r';intro h;cases r with
 |ok e x=>obtain⟨e',rfl,h⟩:=h;exact hf e e' x h
 |pan v x=>cases h;exact rfl
 |fail=>trivial
omit [Dr]in
theorem i6:∀(l:List Nat){e e':Env}(_:EqE e e')(x:Hp),RE (aK cx base ops l e x) (aK cx base ops l e' x)
 |[],e,e',h,x=>⟨e',rfl,h⟩
 |i:: l,e,e',h,x=>by
  exact RE.bind (qn h i x) fun e e' x h=>i6 l h x
end
end Go.Av
namespace Go.Av
variable [Dr]
omit [Dr]in
theorem pT{l:List Nat}{t:Nat}(h:t∈l):dn l t=true:=(ej l t).2 h
omit [Dr]in
theorem iV{l:List Nat}{d:Option Nat}(h:ba l d=false):∀t∈l,d≠some t:=by
 intro t ht hd;rw[hd]at h;simp only[ba]at h;rw[pT ht]at h;cases h
omit [Dr]in
theorem jK{a b:Option Nat}(h:clash a b=false):∀t,a=some t->b≠some t:=by
 intro t ha hb;rw[ha,hb]at h;simp[clash]at h
section
variable {cx:Cx} {ops:Array Oper} {base:Nat} {e:Env}
omit [Dr]in
theorem oF{gid:Nat}{f:Foot}{ss:Option Nat}{u:Upd}(h:Shape e gid f ss u):Shape e gid f ss (d5 u):=
 ⟨fun _=>rfl,fun _=>rfl,fun _=>rfl,fun _ x h=>by simp[d5]at h,fun _=>rfl,fun _=>rfl,fun hw C off hh=>h.loc hw C off hh,fun x h=>by simp[d5]at h⟩
omit [Dr]in
theorem rG{p q:Upd->Prop}(hpq:∀u,p u->q (d5 u)){A:Act1}(h:bB p A):bB q (eD A):=by
 cases A with
 |bad=>trivial
 |stat u=>exact hpq _ h
 |dyn m sh=>exact fun v=>hpq _ (h v)
 |thr v=>trivial
omit [Dr]in
theorem vE{p:∀ {α:Type},M α->Prop}{A:Act1}(h:a8 p A):a8 p (eD A):=by
 cases A<;>exact h
omit [Dr]in
theorem kM{i:Nat}{o:Oper}(ho:ops[i]? = some o){h h':Hp}{u:Upd}(hr:dl cx base ops i e h= .ok u h'):Shape e ((base+i)*1000) (au cx o) (bu o) u:=by
 unfold dl at hr;rw[ho]at hr;simp only at hr;cases hgd:o.guard with
 |none=>rw[hgd]at hr;exact gT (gW _ _ _ _) hr
 | some g=>
  obtain⟨j,want⟩:=g;rw[hgd]at hr;simp only at hr;cases hdj:cm ops j with
  |none=>rw[hdj]at hr;cases hr
  | some t=>
   rw[hdj]at hr;simp only at hr;cases hpl:df cx o with
   |false=>rw[hpl]at hr;cases hr
   | true=>
    rw[hpl]at hr;simp only[CV]at hr;have h0:∀ {h h':Hp},(M.pure (Upd.ofV (.tup [])):M Upd) h= .ok u h'->Shape e ((base+i)*1000) (au cx o) (bu o) u:=by
     intro h h' hh;cases hh;exact Shape.ofV ..
    generalize e.av t=q at hr;cases q with
    |bool b=>
     simp only[gm]at hr;cases hb:(b== want)with
     |false=>rw[hb]at hr;exact h0 hr
     |true=>rw[hb]at hr;exact gT (rG (fun u=>oF) (gW _ _ _ _)) hr
    |tup vs=>
     cases vs with
     |nil=>exact h0 hr
     |cons v vs=>cases hr
    |_=>cases hr
omit [Dr]in
theorem rN{p:∀ {α:Type},M α->Prop}(h1:∀ {α:Type} (m:M α),aR m->p m)(h2:∀ {α β:Type} (m:M α) (f:α->β),p m->p (ae m fun v=>M.pure (f v))){A:Act1}(h:a8 p A):p (cB A):=by
 cases A with
 |bad=>exact h1 _ aR.fail
 |stat u=>exact h1 _ (aR.pure u)
 |dyn m sh=>exact h2 _ _ h
 |thr v=>exact h.elim
omit [Dr]in
theorem fS{p:∀ {α:Type},M α->Prop}(h1:∀ {α:Type} (m:M α),aR m->p m)(h2:∀ {α β:Type} (m:M α) (f:α->β),p m->p (ae m fun v=>M.pure (f v))){i:Nat}{o:Oper}(ho:ops[i]? = some o)(h:a8 p (dy cx e ((base+i)*1000) o)):p (dl cx base ops i e):=by
 unfold dl;rw[ho];simp only;cases hgd:o.guard with
 |none=>exact rN h1 h2 h
 | some g=>
  obtain⟨j,want⟩:=g;simp only;cases hdj:cm ops j with
  |none=>exact h1 _ aR.fail
  | some t=>
   simp only;cases hpl:df cx o with
   |false=>exact h1 _ aR.fail
   | true=>
    simp only[CV];unfold gm;split
    ·rename_i b _;cases hb:(b== want)with
     |false=>exact h1 _ (aR.pure _)
     |true=>exact rN h1 h2 (vE h)
    ·exact h1 _ (aR.pure _)
    ·exact h1 _ aR.fail
structure Small (ops:Array Oper):Prop where
 dst:∀(i:Nat)(o:Oper),ops[i]? = some o->∀t,o.dst=some t->t<1000
 src:∀(i:Nat)(o:Oper),ops[i]? = some o->∀t∈fB o,t<1000
omit [Dr]in
theorem Small.reads(hS:Small ops){i:Nat}{o:Oper}(ho:ops[i]? = some o):∀t∈bY ops i,t<1000:=by
 intro t ht;rw[dX ho,Di]at ht;rcases ht with ht|ht
 ·unfold dc at ht;split at ht
  ·rename_i j _ _;cases hj:ops[j]? with
   |none=>rw[hj]at ht;simp at ht
   |some oj=>
    rw[hj]at ht;simp only[EN]at ht;cases hd:oj.dst with
    |none=>rw[hd]at ht;simp at ht
    |some s=>rw[hd]at ht;simp at ht;rw[ht];exact hS.dst j oj hj s hd
  ·simp at ht
 ·exact hS.src i o ho t ht
omit [Dr]in
theorem ju{gid:Nat}{x:Foot}{ss:Option Nat}{u:Upd}{d:Option Tmp}(hsh:Shape e gid x ss u){t:Nat}(h1:d≠some t)(h2:ss≠some t)(h3:t<1000):(e.upd d u).get t=e.get t:=by
 rw[bH,if_neg h1];refine lL _ fun y hy hyt=>?_;rcases hsh.keys y hy with h|h
 ·omega
 ·exact h2 (by rw[h,hyt])
omit [Dr]in
theorem uz{gid:Nat}{x:Foot}{ss:Option Nat}{u:Upd}{d:Option Tmp}(hsh:Shape e gid x ss u)(hw:x.wl=false){t:Nat}(h1:d≠some t):(e.upd d u).get t=e.get t:=by
 rw[bH,if_neg h1,hsh.ls hw];rfl
omit [Dr]in
theorem mF{gid:Nat}{x:Foot}{ss:Option Nat}{u:Upd}{d:Option Tmp}{o:Oper}(hsh:Shape e gid x ss u)(hd:∀t,d=some t->t<1000)(hops:∀t∈fB o,d≠some t/\ss≠some t/\t<1000)(hloc:((au cx o).rl||(au cx o).wl)=true->x.wl=false)(hal:(au cx o).dr=true->x.ad=false/\x.dr=false):Agree cx o e (e.upd d u):=by
 refine⟨fun t ht=>ju hsh (hops t ht).1 (hops t ht).2.1 (hops t ht).2.2,fun h=>⟨fun t ht=>uz hsh (hloc h) (fun hh=>Nat.not_lt.2 ht (hd t hh)),fun B=>?_⟩,fun h g=>?_,fun h s _ hl=>?_⟩
 ·show aX (ic (cH e.lb u.unlb) u.lb) B=aX e.lb B;rw[hsh.lb (hloc h),hsh.unlb (hloc h)];rfl
 ·show aD (u.add++cR e.al u.drop) g=aD e.al g;rw[hsh.noad (hal h).1,hsh.nodr (hal h).2];rfl
 ·have hw:=hloc (by rw[h];simp);show aL (ml d u.ent (u.ls++e.sl)) (aU s)=true;rw[hsh.ls hw,c7,DZ,hl,Bool.and_true];have:iE u.ent (aU s)=true:=by
   unfold iE;split
   ·rename_i C off hv;obtain⟨t,off',ht⟩:=hsh.loc hw C off hv
    have:=iR hl ht
    rw[DU,D8];intro hh;exact this (C1 hh)
   ·rfl
  rw[this,Bool.or_true]
omit [Dr]in
theorem sI{gid:Nat}{x:Foot}{ss:Option Nat}{u:Upd}{d:Option Tmp}{o:Oper}(hsh:Shape e gid x ss u)(hd:∀t,d=some t->t<1000)(hops:∀t∈fB o,d≠some t/\ss≠some t/\t<1000)(hloc:((au cx o).rl||(au cx o).wl)=true->x.wl=false)(hal:(au cx o).dr=true->x.ad=false/\x.dr=false):Agree cx o (e.upd d u) e:=by
 have A:=mF (cx:=cx) hsh hd hops hloc hal;refine⟨fun t ht=>(A.ops t ht).symm,fun h=>⟨fun t ht=>((A.loc h).1 t ht).symm,fun B=>((A.loc h).2 B).symm⟩,fun h g=>(A.al h g).symm,fun _ s _ hl=>?_⟩;have hl':aL (ml d u.ent (u.ls++e.sl)) (aU s)=true:=hl;rw[c7,eg]at hl';simp only[CX]at hl';exact hl'.2.2
omit [Dr]in
theorem qu{gi gj:Nat}{x y:Foot}{si sj:Option Nat}{u v:Upd}{d f:Option Tmp}(hu:Shape e gi x si u)(hv:Shape e gj y sj v)(hy:y.wl=false)(hf:∀t,f=some t->t<1000)(hdf:∀t,d=some t->f≠some t)(hsf:∀t,si=some t->f≠some t)(hg:gi≠gj)(h1:x.dr=true->y.dr=false/\y.ad=false)(h2:x.ad=true->y.dr=false)(h3:x.ad=true->y.ad=true->x.wl=false):EqE ((e.upd d u).upd f v) ((e.upd f v).upd d u):=by
 have e1:=hv.ls hy;have e2:=hv.lb hy;have e3:=hv.unlb hy;refine⟨fun t=>?_,fun g=>?_,fun B=>?_,fun B=>?_⟩
 ·rw[bH,bH,e1];show (if d=some t then u.ent else be (u.ls++ml f v.ent (v.ls++e.sl)) t)=if f=some t then v.ent else be (ml d u.ent (u.ls++e.sl)) t;rw[e1,fN,DZ];by_cases hft:f=some t
  ·rw[CW hft,if_neg (fun h=>hdf t h hft),lL,fN,CW hft];intro z hz hzt;rcases hu.keys z hz with h|h
   ·exact Nat.not_lt.2 h (by rw[hzt];exact hf t hft)
   ·exact hsf z.1 h (by rw[hzt];exact hft)
  ·rw[if_neg hft];split
   ·rfl
   ·exact kh (by rw[fN,if_neg hft])
 ·show aD (u.add++cR (v.add++cR e.al v.drop) u.drop) g=aD (v.add++cR (u.add++cR e.al u.drop) v.drop) g;cases hxd:x.dr with
  |true=>
   obtain⟨h4,h5⟩:=h1 hxd;rw[hv.noad h5,hv.nodr h4];rfl
  | false=>
   rw[hu.nodr hxd];cases hxa:x.ad with
   |false=>rw[hu.noad hxa];rfl
   | true=>
    rw[hv.nodr (h2 hxa)];cases hya:y.ad with
    |false=>rw[hv.noad hya];rfl
    |true=>
     have k1:=hu.add (h3 hxa hya);have k2:=hv.add hy;show aD (u.add++(v.add++e.al)) g=aD (v.add++(u.add++e.al)) g;rw[cU,cU,cU,cU];by_cases hgi:g=gi
     ·rw[jW k2 (by omega)]
     ·rw[jW k1 hgi]
 ·show aX (ic (cH (ic (cH e.lb v.unlb) v.lb) u.unlb) u.lb) B=aX (ic (cH (ic (cH e.lb u.unlb) u.lb) v.unlb) v.lb) B;rw[e2,e3];rfl
 ·show aL (ml d u.ent (u.ls++ml f v.ent (v.ls++e.sl))) B=aL (ml f v.ent (v.ls++ml d u.ent (u.ls++e.sl))) B;simp only[c7,eg]
  ac_rfl
end
end Go.Av
namespace Go.Av
variable [Dr]
section
variable {cx:Cx} {ops:Array Oper} {base:Nat}
structure Ind (cx:Cx) (ops:Array Oper) (i j:Nat) (a b:Oper):Prop where
 ha:ops[i]? = some a
 hb:ops[j]? = some b
 piv:(au cx a).piv=false
 l1:(au cx a).wl=true->(au cx b).rl=false/\(au cx b).wl=false
 l2:(au cx a).rl=true->(au cx b).wl=false
 h1:(au cx a).wh=true->(au cx b).rh=false/\(au cx b).wh=false
 h2:(au cx a).rh=true->(au cx b).wh=false\/(au cx b).nw=true
 g1:(au cx a).dr=true->(au cx b).dr=false/\(au cx b).ad=false
 g2:(au cx a).ad=true->(au cx b).dr=false
 g3:(au cx a).ad=true->(au cx b).ad=true->(au cx a).wl=false/\(au cx b).wl=false
 r1:∀t∈bY ops j,a.dst≠some t
 r2:∀t∈bY ops i,b.dst≠some t
 s1:∀t∈bY ops j,bu a≠some t
 s2:∀t∈bY ops i,bu b≠some t
 c1:∀t,bu a=some t->b.dst≠some t
 c2:∀t,a.dst=some t->bu b≠some t
 c3:∀t,a.dst=some t->b.dst≠some t
omit [Dr]in
theorem tf{i j:Nat}(h:iO cx ops i j=true):∃a b,Ind cx ops i j a b:=by
 unfold iO at h;split at h
 ·rename_i a b ha hb;refine⟨a,b,?_⟩;simp only[CX,DU]at h;obtain⟨⟨⟨⟨⟨⟨⟨⟨⟨⟨⟨⟨⟨⟨k1,k2⟩,k3⟩,k4⟩,k5⟩,k6⟩,k7⟩,k8⟩,k9⟩,k10⟩,k11⟩,k12⟩,k13⟩,k14⟩,k15⟩:=h;refine⟨ha,hb,k1,fun q=>?_,fun q=>?_,fun q=>?_,fun q=>?_,fun q=>?_,fun q=>?_,fun q q'=>?_,iV k9,iV k10,iV k11,iV k12,jK k13,jK k14,jK k15⟩
  ·rw[q]at k2;simpa using k2
  ·rw[q]at k3;simpa using k3
  ·rw[q]at k4;simpa using k4
  ·rw[q]at k5;simp only[En]at k5;cases hb:(au cx b).wh<;>simp_all
  ·rw[q]at k6;simpa using k6
  ·rw[q]at k7;simpa using k7
  ·rw[q,q']at k8;simpa using k8
 ·cases h
omit [Dr]in
theorem swap(hI:IsoPure cx)(hS:Small ops){i j:Nat}(hij:iO cx ops i j=true)(hne:i≠j)(e:Env)(h:Hp):
  RE (ae (stepG cx base ops i e) (stepG cx base ops j) h) (ae (stepG cx base ops j e) (stepG cx base ops i) h):=by
 obtain⟨a,b,I⟩:=tf hij;have hda:cm ops i=a.dst:=by simp[cm,I.ha]
 have hdb:cm ops j=b.dst:=by simp[cm,I.hb]
 unfold stepG;rw[hda,hdb];simp only[ae,M.pure];cases hri:dl cx base ops i e h with
 |fail=>trivial
 |pan v h'=>exact absurd hri (fS (p:=@cO) (fun _ g=>g.read.stay) (fun _ f g=>g.bnd f) I.ha ((de hI e _ a).stay I.piv) h v h')
 | ok u h1=>
  simp only;have shu:=kM I.ha hri;have hra:=dX (ops:=ops) I.ha;have hrb:=dX (ops:=ops) I.hb;have hbo:∀t∈fB b,a.dst≠some t/\bu a≠some t/\t<1000:=fun t ht=>⟨I.r1 t (by rw[hrb];simp[ht]),I.s1 t (by rw[hrb];simp[ht]),hS.src j b I.hb t ht⟩;have hao:∀t∈fB a,b.dst≠some t/\bu b≠some t/\t<1000:=fun t ht=>⟨I.r2 t (by rw[hra];simp[ht]),I.s2 t (by rw[hra];simp[ht]),hS.src i a I.ha t ht⟩;have Abwd:Agree cx b (e.upd a.dst u) e:=sI shu (hS.dst i a I.ha) hbo (fun q=>by
   cases hw:(au cx a).wl with
   |false=>rfl
   |true=>obtain⟨q1,q2⟩:=I.l1 hw;rw[q1,q2]at q;cases q) (fun q=>by
   constructor
   ·cases hw:(au cx a).ad with
    |false=>rfl
    |true=>have:=I.g2 hw;rw[this]at q;cases q
   ·cases hw:(au cx a).dr with
    |false=>rfl
    |true=>have:=(I.g1 hw).1;rw[this]at q;cases q)
  have hgb:∀t∈dc ops b,e.get t=(e.upd a.dst u).get t:=fun t ht=>by
   have htr:t∈bY ops j:=by rw[hrb];simp[ht]
   exact (ju shu (I.r1 t htr) (I.s1 t htr) (hS.reads I.hb t htr)).symm
  -- the second, after the first
  cases hrj:dl cx base ops j (e.upd a.dst u) h1 with
  |fail=>trivial
  | pan v h2=>
   have hj:=dQ (base:=base) I.hb hgb Abwd (h:=h1) (by rw[hrj];simp);rw[hrj]at hj
   -- j leaves: so it may write, and i did not touch the heap
   have hwb:(au cx b).wh=true:=by
    cases hw:(au cx b).wh with
    |true=>rfl
    |false=>exact absurd hj ((fS (p:=@ct) (fun _ g=>g.read) (fun _ f g=>g.bnd f) I.hb ((de hI e _ b).read hw)).stay _ _ _)
   have hwa:(au cx a).wh=false:=by
    cases hw:(au cx a).wh with
    |false=>rfl
    |true=>have:=(I.h1 hw).2;rw[this]at hwb;cases hwb
   have hh:h1=h:=by
    have hR:ct (dl cx base ops i e):=fS (p:=@ct) (fun _ g=>g.read) (fun _ f g=>g.bnd f) I.ha ((de hI e _ a).read hwa);rcases hR h with hx|⟨u',hx⟩<;>rw[hri]at hx<;>cases hx;rfl
   subst hh;rw[hj];exact rfl
  | ok v h2=>
   have hj:=dQ (base:=base) I.hb hgb Abwd (h:=h1) (by rw[hrj];simp);rw[hrj]at hj;have shv:=kM I.hb hj;have Afwd:Agree cx a e (e.upd b.dst v):=mF shv (hS.dst j b I.hb) hao (fun q=>by
    cases hw:(au cx b).wl with
    |false=>rfl
    | true=>
     exfalso;cases hrl:(au cx a).rl with
     |true=>have:=I.l2 hrl;rw[this]at hw;cases hw
     |false=>
      rw[hrl]at q;have hwl:(au cx a).wl=true:=by simpa using q
      have:=(I.l1 hwl).2
      rw[this]at hw;cases hw) (fun q=>⟨(I.g1 q).2,(I.g1 q).1⟩)
   have hga:∀t∈dc ops a,(e.upd b.dst v).get t=e.get t:=fun t ht=>by
    have htr:t∈bY ops i:=by rw[hra];simp[ht]
    exact ju shv (I.r2 t htr) (I.s2 t htr) (hS.reads I.ha t htr)
   have hcomm:EqE ((e.upd a.dst u).upd b.dst v) ((e.upd b.dst v).upd a.dst u):=by
    have hgij:(base+i)*1000≠(base+j)*1000:=by omega
    cases hwb:(au cx b).wl with
    |false=>
     exact qu shu shv hwb (hS.dst j b I.hb) I.c3 I.c1 hgij I.g1 I.g2 (fun q q'=>(I.g3 q q').1)
    | true=>
     have hwa:(au cx a).wl=false:=by
      cases hw:(au cx a).wl with
      |false=>rfl
      |true=>have:=(I.l1 hw).2;rw[this]at hwb;cases hwb
     refine (qu shv shu hwa (hS.dst i a I.ha) (fun t ht hh=>I.c3 t hh ht) (fun t ht hh=>I.c2 t hh ht) (FN hgij) (fun q=>⟨?_,?_⟩) (fun q=>?_) (fun q q'=>?_)).symm
     ·cases hw:(au cx a).dr with
      |false=>rfl
      |true=>have:=(I.g1 hw).1;rw[this]at q;cases q
     ·cases hw:(au cx a).ad with
      |false=>rfl
      |true=>have:=I.g2 hw;rw[this]at q;cases q
     ·cases hw:(au cx a).dr with
      |false=>rfl
      |true=>have:=(I.g1 hw).2;rw[this]at q;cases q
     ·have:=(I.g3 q' q).2;rw[this]at hwb;cases hwb
   cases hwa:(au cx a).wh with
   | false=>
    have hR:ct (dl cx base ops i e):=fS (p:=@ct) (fun _ g=>g.read) (fun _ f g=>g.bnd f) I.ha ((de hI e _ a).read hwa);have hh:h1=h:=by
     rcases hR h with hx|⟨u',hx⟩<;>rw[hri]at hx<;>cases hx;rfl
    subst hh;rw[hj];simp only;have hi2:dl cx base ops i e h2= .ok u h2:=by
     cases hra':(au cx a).rh with
     |false=>
      obtain⟨q,hq⟩:aR (dl cx base ops i e):=fS (p:=@aR) (fun _ g=>g) (fun _ f g=>g.bnd f) I.ha ((de hI e _ a).pure hwa hra');rw[hq]at hri |-;cases q with
      |none=>cases hri
      |some u'=>cases hri;rfl
     | true=>
      rcases I.h2 hra' with hwb|hnw
      case inr=>
       have hNw:rM (dl cx base ops j e):=fS (p:=@rM) (fun _ g=>g.nw) (fun _ f g=>g.bnd f) I.hb ((de hI e _ b).nw hnw);have hAp:g7 (dl cx base ops i e)/\ct (dl cx base ops i e):=fS (p:=fun m=>g7 m/\ct m) (fun _ g=>⟨g.app,g.read⟩) (fun _ f g=>g7.bnd g f) I.ha ((de hI e _ a).app hwa);obtain⟨t,rfl⟩:=hNw _ _ _ hj;exact hAp.1 _ t _ hri
      have hRb:ct (dl cx base ops j e):=fS (p:=@ct) (fun _ g=>g.read) (fun _ f g=>g.bnd f) I.hb ((de hI e _ b).read hwb);rcases hRb h1 with hx|⟨u',hx⟩<;>rw[hj]at hx<;>cases hx;exact hri
    rw[dQ I.ha hga Afwd (by rw[hi2];simp),hi2];exact⟨_,rfl,hcomm⟩
   | true=>
    obtain⟨hrb',hwb⟩:=I.h1 hwa;obtain⟨q,hq⟩:aR (dl cx base ops j e):=fS (p:=@aR) (fun _ g=>g) (fun _ f g=>g.bnd f) I.hb ((de hI e _ b).pure hwb hrb');rw[hq]at hj |-;cases q with
    |none=>cases hj
    |some u'=>
     cases hj;simp only[af];rw[dQ I.ha hga Afwd (by rw[hri];simp),hri];exact⟨_,rfl,hcomm⟩
omit [Dr]in
theorem xP(hI:IsoPure cx)(hS:Small ops){i:Nat}(q:List Nat):∀(p:List Nat),(∀x∈p,iO cx ops x i=true/\x≠i)->∀(e:Env)(h:Hp),RE (aK cx base ops (p++i:: q) e h) (aK cx base ops (i:: (p++q)) e h)
 |[],_,e,h=>RE.refl _
 | x:: p,hp,e,h=>by
  have ih:=fun e h=>xP hI hS q p (fun y hy=>hp y (by simp[hy])) e h;have h1:RE (aK cx base ops (x:: (p++i:: q)) e h) (aK cx base ops (x:: i:: (p++q)) e h):=by
   simp only[aK,ae]at ih |-;cases stepG cx base ops x e h with
   |ok e' h'=>exact ih e' h'
   |pan v h'=>exact rfl
   |fail=>trivial
  refine h1.trans ?_;have e1:aK cx base ops (x:: i:: (p++q)) e=ae (ae (stepG cx base ops x e) (stepG cx base ops i)) (aK cx base ops (p++q)):=by rw[d7];rfl
  have e2:aK cx base ops (i:: x:: (p++q)) e=ae (ae (stepG cx base ops i e) (stepG cx base ops x)) (aK cx base ops (p++q)):=by rw[d7];rfl
  show RE (aK cx base ops (x:: i:: (p++q)) e h) (aK cx base ops (i:: x:: (p++q)) e h);rw[e1,e2];exact RE.bind (swap hI hS (hp x (by simp)).1 (hp x (by simp)).2 e h) fun e e' x h=>i6 _ h x
end
end Go.Av
namespace Go.Av
variable [Dr]
omit [Dr]in
theorem vr{a b:Option (Nat×Bool)}(h:sC a b=true):a=b:=by
 unfold sC at h;split at h
 ·rfl
 ·simp only[CX,EM]at h;rw[C1 h.1,h.2]
 ·cases h
def eE(gs:List (Option (Nat×Bool)×List Nat)):List Nat:=gs.flatMap (·.2)
omit [Dr]in
theorem fy(ops:Array Oper):∀l:List Nat,eE (cn ops l)=l/\∀g∈cn ops l,∀i∈g.2,guardOf ops i=g.1
 |[]=>⟨rfl,by simp[cn]⟩
 | i :: is=>by
  obtain⟨h1,h2⟩:=fy ops is;simp only[cn];cases hg:cn ops is with
  |nil=>
   rw[hg]at h1;have:is=[]:=by simpa [eE]using h1.symm
   subst this;exact⟨rfl,by simp⟩
  | cons x r=>
   obtain⟨g,js⟩:=x;rw[hg]at h1 h2;simp only;cases hs:sC (guardOf ops i) g with
   | true=>
    refine⟨?_,fun y hy=>?_⟩
    ·simp only[CV,eE,Ej,DK]at h1 |-;rw[h1]
    ·simp only[CV,De]at hy;rcases hy with rfl|hy
     ·intro k hk;simp only[De]at hk;rcases hk with rfl|hk
      ·exact vr hs
      ·exact h2 (g,js) (by simp) k hk
     ·exact h2 y (by simp[hy])
   | false=>
    refine⟨?_,fun y hy=>?_⟩
    ·simp only[CY,eE,Ej,DK,DZ]at h1 |-;rw[h1]
    ·simp only[CY,De]at hy;rcases hy with rfl|rfl|hy
     ·intro k hk;simp only[Dp]at hk;subst hk;rfl
     ·exact h2 (g,js) (by simp)
     ·exact h2 y (by simp[hy])
omit [Dr]in
theorem pe{ρ:Type}(e:Env)(d:Option Tmp)(A:Act1)(k:Env->M ρ):iF e d A k=ae (cB A) fun u=>k (e.upd d u):=by
 cases A with
 |bad=>rfl
 |stat u=>rfl
 |dyn m sh=>simp only[iF,cB,d7,aw]
 |thr v=>rfl
omit [Dr]in
theorem sQ{α β:Type}{m:M α}{f g:α->M β}{h:Hp}(hfg:∀u h',m h= .ok u h'->f u h'=g u h'):ae m f h=ae m g h:=by
 simp only[ae];cases hm:m h with
 |ok u h'=>exact hfg u h' hm
 |pan v h'=>rfl
 |fail=>rfl
section
variable {cx:Cx} {ops:Array Oper} {base:Nat}
omit [Dr]in
theorem sH{i:Nat}{o:Oper}(ho:ops[i]? = some o)(hg:guardOf ops i=none)(e:Env):dl cx base ops i e=cB (dy cx e ((base+i)*1000) o):=by
 have:o.guard=none:=by simpa [guardOf,ho]using hg
 unfold dl;rw[ho];simp only;rw[this]
omit [Dr]in
theorem jo{i j t:Nat}{want:Bool}{o:Oper}(ho:ops[i]? = some o)(hg:guardOf ops i=some (j,want))(hj:cm ops j=some t)(hp:df cx o=true)(e:Env):
  dl cx base ops i e=gm (e.av t) want (cB (eD (dy cx e ((base+i)*1000) o))):=by
 have:o.guard=some (j,want):=by simpa [guardOf,ho]using hg
 unfold dl;rw[ho];simp only;rw[this];simp only;rw[hj];simp only;rw[hp];rfl
omit [Dr]in
theorem qg{ρ:Type}:∀(is:List Nat)(e:Env)(k:Env->M ρ)(_:∀i∈is,guardOf ops i=none),fm cx base ops false is e k=ae (aK cx base ops is e) k
 |[],e,k,_=>rfl
 | i:: is,e,k,hg=>by
  simp only[fm,aK];unfold stepG;cases ho:ops[i]? with
  |none=>unfold dl;rw[ho];rfl
  |some o=>
   simp only;rw[pe,sH ho (hg i (by simp)),d7,d7];have hd:cm ops i=o.dst:=by simp[cm,ho]
   rw[hd];congr 1;funext u;simp only[aw];exact qg is _ k fun j hj=>hg j (by simp[hj])
structure Turned (ds:List Nat) (e e':Env):Prop where
 get:∀t,t ∉ ds->e'.get t=e.get t
 al:e'.al=e.al
 lb:e'.lb=e.lb
 lf:∀B,aL e.sl B=true->aL e'.sl B=true
 ng:∀t∈ds,(e'.get t).g=none
omit [Dr]in
theorem Turned.step{ds:List Nat}{e e':Env}(H:Turned ds e e'){u:Upd}{d:Option Nat}(hls:u.ls=[])(hadd:u.add=[])(hdrop:u.drop=none)(hlb:u.lb=none)(hunlb:u.unlb=none)(hg:u.ent.g=none)(hloc:∀C off,u.ent.v= .loc C off->∃t off',(e'.get t).v= .loc C off'):Turned (d.toList++ds) e (e'.upd d u):=by
 have hget:∀t,(e'.upd d u).get t=if d=some t then u.ent else e'.get t:=fun t=>by rw[bH,hls];rfl
 refine⟨fun t ht=>?_,?_,?_,fun B hB=>?_,fun t ht=>?_⟩
 ·simp only[Di,not_or,EF]at ht;rw[hget,if_neg ht.1];exact H.get t ht.2
 ·show u.add++cR e'.al u.drop=e.al;rw[hadd,hdrop];exact H.al
 ·show ic (cH e'.lb u.unlb) u.lb=e.lb;rw[hlb,hunlb];exact H.lb
 ·have h1:=H.lf B hB;show aL (ml d u.ent (u.ls++e'.sl)) B=true;rw[hls,c7,DZ,h1,Bool.and_true];have:iE u.ent B=true:=by
   unfold iE;split
   ·rename_i C off hv;obtain⟨t,off',ht⟩:=hloc C off hv
    have:=iR h1 ht
    rw[DU,D8];intro hh;exact this (C1 hh)
   ·rfl
  rw[this,Bool.or_true]
 ·rw[hget];split
  ·exact hg
  ·rename_i hd;simp only[Di,EF]at ht;rcases ht with ht|ht
   ·exact absurd ht hd
   ·exact H.ng t ht
omit [Dr]in
theorem Turned.refl(e:Env):Turned [] e e:=⟨fun _ _=>rfl,rfl,rfl,fun _ h=>h,fun t h=>by simp at h⟩
omit [Dr]in
theorem Turned.sub{ds ds':List Nat}{e e':Env}(H:Turned ds e e')(h:∀t,t∈ds↔t∈ds'):Turned ds' e e':=
 ⟨fun t ht=>H.get t fun hh=>ht ((h t).1 hh),H.al,H.lb,H.lf,fun t ht=>H.ng t ((h t).2 ht)⟩
structure GroupOk (cx:Cx) (ops:Array Oper) (j:Nat) (want:Bool) (t:Nat) (is:List Nat):Prop where
 hj:cm ops j=some t
 each:∀i∈is,∃o,ops[i]? = some o/\guardOf ops i=some (j,want)/\df cx o=true
 nt:t ∉ bO ops is
omit [Dr]in
theorem fj(i:Nat)(is:List Nat):∀t,t∈bO ops (i:: is)↔cm ops i=some t\/t∈bO ops is:=by
 intro t;unfold bO;simp only[ES,De,exists_eq_or_imp]
omit [Dr]in
theorem GroupOk.tail{j:Nat}{want:Bool}{t i:Nat}{is:List Nat}(G:GroupOk cx ops j want t (i:: is)):GroupOk cx ops j want t is:=
 ⟨G.hj,fun k hk=>G.each k (by simp[hk]),fun h=>G.nt ((fj i is t).2 (.inr h))⟩
omit [Dr]in
theorem GroupOk.ne{j:Nat}{want:Bool}{t i:Nat}{is:List Nat}(G:GroupOk cx ops j want t (i:: is)):cm ops i≠some t:=fun h=>G.nt ((fj i is t).2 (.inl h))
omit [Dr]in
theorem gk{A:Act1}{h h':Hp}{u:Upd}(hr:cB (eD A) h= .ok u h'):∃u0,cB A h= .ok u0 h'/\u=d5 u0:=by
 rw[jV]at hr;cases hx:cB A h<;>rw[hx]at hr<;>simp at hr;exact⟨_,by rw[hr.2],hr.1.symm⟩
omit [Dr]in
theorem ny{ρ:Type}{j:Nat}{want:Bool}{t:Nat}:∀(is:List Nat)(e:Env)(k:Env->M ρ)(h:Hp),GroupOk cx ops j want t is->e.av t= .bool want->fm cx base ops true is e k h=ae (aK cx base ops is e) k h
 |[],e,k,h,_,_=>rfl
 |i:: is,e,k,h,G,hc=>by
  obtain⟨o,ho,hg,hp⟩:=G.each i (by simp);have hd:cm ops i=o.dst:=by simp[cm,ho]
  simp only[fm,aK,ho,CV];rw[pe];unfold stepG;rw[jo ho hg G.hj hp,hc,d7,d7];simp only[gm,Eo,CV,aw,hd];refine sQ fun u h' hu=>?_;obtain⟨u0,hu0,rfl⟩:=gk hu;refine ny is _ k h' G.tail ?_;have:(e.upd o.dst (d5 u0)).get t=e.get t:=by rw[bH,if_neg (by rw[<- hd];exact G.ne)];rfl
  simp only[Env.av,this];exact hc
omit [Dr]in
theorem jf{j:Nat}{want:Bool}{t:Nat}:∀(is:List Nat)(e e':Env)(h h':Hp),GroupOk cx ops j want t is->e.av t= .bool want->aK cx base ops is e h= .ok e' h'->Turned (bO ops is) e e':=by
 have key:∀(is:List Nat)(e0 e e':Env)(ds:List Nat)(h h':Hp),GroupOk cx ops j want t is->e.av t= .bool want->Turned ds e0 e->aK cx base ops is e h= .ok e' h'->Turned (bO ops is++ds) e0 e':=by
  intro is
  induction is with
  |nil=>
   intro e0 e e' ds h h' _ _ H hr;cases hr;exact H
  | cons i is ih=>
   intro e0 e e' ds h h' G hc H hr;obtain⟨o,ho,hg,hp⟩:=G.each i (by simp);have hd:cm ops i=o.dst:=by simp[cm,ho]
   simp only[aK]at hr;unfold stepG at hr;rw[jo ho hg G.hj hp,hc,d7]at hr;simp only[gm,Eo,CV,hd,ae]at hr;cases hx:cB (eD (dy cx e ((base+i)*1000) o)) h with
   |fail=>rw[hx]at hr;cases hr
   |pan v hh=>rw[hx]at hr;cases hr
   | ok u hh=>
    rw[hx]at hr;simp only at hr;obtain⟨u0,hu0,rfl⟩:=gk hx;have hsh:=gT (gW cx e ((base+i)*1000) o) hu0;simp only[df,CX,DU]at hp;have H2:=H.step (u:=d5 u0) (d:=o.dst) rfl rfl rfl rfl rfl rfl (hsh.loc hp.1);refine (ih e0 _ e' _ hh h' G.tail ?_ H2 hr).sub fun s=>?_
    ·have:(e.upd o.dst (d5 u0)).get t=e.get t:=by rw[bH,if_neg (by rw[<- hd];exact G.ne)];rfl
     simp only[Env.av,this];exact hc
    ·simp only[Di,fj,EF,hd];constructor
     ·rintro (h|h|h)
      ·exact .inl (.inr h)
      ·exact .inl (.inl h)
      ·exact .inr h
     ·rintro ((h|h)|h)
      ·exact .inr (.inl h)
      ·exact .inl h
      ·exact .inr (.inr h)
 intro is e e' h h' G hc hr;exact (key is e e e' [] h h' G hc (.refl e) hr).sub (by simp)
def Off(c:AV)(want:Bool):Prop:=c= .tup []\/∃b,c= .bool b/\(b== want)=false
omit [Dr]in
theorem Off.look{c:AV}{want:Bool}(h:Off c want)(m:M Upd):gm c want m=M.pure (.ofV (.tup [])):=by
 rcases h with rfl|⟨b,rfl,hb⟩
 ·rfl
 ·simp only[gm,hb,CY]
omit [Dr]in
theorem wQ{j:Nat}{want:Bool}{t:Nat}:∀(is:List Nat)(e:Env)(h:Hp),GroupOk cx ops j want t is->Off (e.av t) want->∃e',aK cx base ops is e h= .ok e' h/\Turned (bO ops is) e e'/\∀s∈bO ops is,e'.get s=⟨.val (.tup []),none⟩:=by
 have key:∀(is:List Nat)(e0 e:Env)(ds:List Nat)(h:Hp),GroupOk cx ops j want t is->Off (e.av t) want->Turned ds e0 e->(∀s∈ds,e.get s=⟨.val (.tup []),none⟩)->
   ∃e',aK cx base ops is e h= .ok e' h/\Turned (bO ops is++ds) e0 e'/\∀s∈bO ops is++ds,e'.get s=⟨.val (.tup []),none⟩:=by
  intro is
  induction is with
  |nil=>exact fun e0 e ds h _ _ H hds=>⟨e,rfl,H,hds⟩
  | cons i is ih=>
   intro e0 e ds h G hc H hds;obtain⟨o,ho,hg,hp⟩:=G.each i (by simp);have hd:cm ops i=o.dst:=by simp[cm,ho]
   have hget:∀s,(e.upd o.dst (.ofV (.tup []))).get s=if o.dst=some s then⟨.val (.tup []),none⟩else e.get s:=fun s=>by rw[bH];rfl
   have H2:=H.step (u:=.ofV (.tup [])) (d:=o.dst) rfl rfl rfl rfl rfl rfl (fun C off hh=>by cases hh);have hav:(e.upd o.dst (.ofV (.tup []))).av t=e.av t:=by
    have:(e.upd o.dst (.ofV (.tup []))).get t=e.get t:=by rw[hget,if_neg (by rw[<- hd];exact G.ne)]
    simp only[Env.av,this]
   obtain⟨e',h1,h2,h3⟩:=ih e0 (e.upd o.dst (.ofV (.tup []))) (o.dst.toList++ds) h G.tail (by rw[hav];exact hc) H2 (fun s hs=>by
    rw[hget];split
    ·rfl
    ·rename_i hn;simp only[Di,EF]at hs;rcases hs with hs|hs
     ·exact absurd hs hn
     ·exact hds s hs)
   have hiff:∀s,s∈bO ops is++(o.dst.toList++ds)↔s∈bO ops (i:: is)++ds:=fun s=>by
    simp only[Di,fj,EF,hd];constructor
    ·rintro (h|h|h)
     ·exact .inl (.inr h)
     ·exact .inl (.inl h)
     ·exact .inr h
    ·rintro ((h|h)|h)
     ·exact .inr (.inl h)
     ·exact .inl h
     ·exact .inr (.inr h)
   refine⟨e',?_,h2.sub hiff,fun s hs=>h3 s ((hiff s).2 hs)⟩;simp only[aK];unfold stepG;rw[jo ho hg G.hj hp,hc.look,hd];exact h1
 intro is e h G hc;obtain⟨e',h1,h2,h3⟩:=key is e e [] h G hc (.refl e) (by simp);exact⟨e',h1,h2.sub (by simp),fun s hs=>h3 s (by simp[hs])⟩
end
end Go.Av
namespace Go.Av
variable [Dr]
section
variable {cx:Cx} {ops:Array Oper} {base:Nat}
structure Rel (ops:Array Oper) (L:List Nat) (e2 e:Env):Prop where
 get:∀t,e2.get t=e.get t\/(e2.get t=Ent.none/\t<1000/\∀i∈L,t ∉ bY ops i)
 al:∀g,aD e2.al g=aD e.al g
 lb:∀B,aX e2.lb B=aX e.lb B
 lf:∀B,aL e2.sl B=true->aL e.sl B=true
omit [Dr]in
theorem Rel.refl(ops:Array Oper)(L:List Nat)(e:Env):Rel ops L e e:=⟨fun _=>.inl rfl,fun _=>rfl,fun _=>rfl,fun _ h=>h⟩
omit [Dr]in
theorem Rel.sub{L L':List Nat}{e2 e:Env}(H:Rel ops L e2 e)(h:∀i∈L',i∈L):Rel ops L' e2 e:=
 ⟨fun t=>(H.get t).imp id fun⟨h1,h2,h3⟩=>⟨h1,h2,fun i hi=>h3 i (h i hi)⟩,H.al,H.lb,H.lf⟩
omit [Dr]in
theorem Rel.read{L:List Nat}{e2 e:Env}(H:Rel ops L e2 e){i t:Nat}(hi:i∈L)(ht:t∈bY ops i):e.get t=e2.get t:=by
 rcases H.get t with h|⟨_,_,h⟩
 ·exact h.symm
 ·exact absurd ht (h i hi)
omit [Dr]in
theorem Rel.agree{L:List Nat}{e2 e:Env}(H:Rel ops L e2 e){i:Nat}{o:Oper}(hi:i∈L)(ho:ops[i]? = some o):Agree cx o e2 e:=by
 refine⟨fun t ht=>H.read hi (by rw[dX ho];simp[ht]),fun _=>⟨fun t ht=>?_,fun B=>(H.lb B).symm⟩,fun _ g=>(H.al g).symm,fun _ s _ hl=>H.lf _ hl⟩;rcases H.get t with h|⟨_,h,_⟩
 ·exact h.symm
 ·omega
omit [Dr]in
theorem Rel.upd{L:List Nat}{e2 e:Env}(H:Rel ops L e2 e)(d:Option Tmp)(u:Upd):Rel ops L (e2.upd d u) (e.upd d u):=by
 refine⟨fun t=>?_,fun g=>?_,fun B=>?_,fun B hB=>?_⟩
 ·rw[bH,bH];split
  ·exact .inl rfl
  ·rw[fM,fM];split
   ·exact .inl rfl
   ·exact H.get t
 ·show aD (u.add++cR e2.al u.drop) g=aD (u.add++cR e.al u.drop) g;have:aD (cR e2.al u.drop) g=aD (cR e.al u.drop) g:=by
   cases u.drop with
   |none=>exact H.al g
   |some k=>simp only[cR,gw,H.al g]
  rw[cU,cU,this]
 ·show aX (ic (cH e2.lb u.unlb) u.lb) B=aX (ic (cH e.lb u.unlb) u.lb) B;have:aX (cH e2.lb u.unlb) B=aX (cH e.lb u.unlb) B:=by
   cases u.unlb with
   |none=>exact H.lb B
   |some k=>simp only[cH,iQ,H.lb B]
  cases u.lb with
  |none=>exact this
  |some x=>
   obtain⟨k,n⟩:=x;simp only[ic,cC,this]
 ·have hB':aL (ml d u.ent (u.ls++e2.sl)) B=true:=hB;show aL (ml d u.ent (u.ls++e.sl)) B=true;rw[c7,eg]at hB' |-;simp only[CX]at hB' |-;exact⟨hB'.1,hB'.2.1,H.lf B hB'.2.2⟩
omit [Dr]in
theorem Rel.run:∀(is:List Nat){L:List Nat}{e2 e:Env}(_:Rel ops L e2 e)(_:∀i∈is,i∈L)(h:Hp),aK cx base ops is e2 h≠.fail->
  (∃e2' e' h',aK cx base ops is e2 h= .ok e2' h'/\aK cx base ops is e h= .ok e' h'/\Rel ops L e2' e')\/∃v h',aK cx base ops is e2 h= .pan v h'/\aK cx base ops is e h= .pan v h'
 |[],L,e2,e,H,_,h,_=>.inl ⟨e2,e,h,rfl,rfl,H⟩
 | i:: is,L,e2,e,H,hL,h,hr=>by
  simp only[aK]at hr |-;unfold stepG at hr |-;simp only[ae,M.pure]at hr |-;cases hx:dl cx base ops i e2 h with
  |fail=>rw[hx]at hr;exact absurd rfl hr
  | _ =>
   have ho:∃o,ops[i]? = some o:=by
    cases ho:ops[i]? with
    |none=>unfold dl at hx;rw[ho]at hx;cases hx
    |some o=>exact⟨o,rfl⟩
   obtain⟨o,ho⟩:=ho;have hi:=hL i (by simp);have hy:dl cx base ops i e h=dl cx base ops i e2 h:=dQ ho (fun t ht=>H.read hi (by rw[dX ho];simp[ht])) (H.agree hi ho) (by rw[hx];simp);rw[hy,hx]
   first
    | rw[hx]at hr
      exact Rel.run is (H.upd _ _) (fun k hk=>hL k (by simp[hk])) _ hr
    |exact .inr ⟨_,_,rfl,rfl⟩
omit [Dr]in
theorem lj(e:Env):∀(ds:List Nat)(t:Nat),(forget e ds).get t=if t∈ds then Ent.none else e.get t
 |[],t=>by simp[forget]
 | d:: ds,t=>by
  show be ((d,Ent.none):: (forget e ds).sl) t=_;rw[bn];by_cases hd:d=t
  ·subst hd;simp
  ·rw[if_neg hd]
   have:=lj e ds t
   simp only[Env.get]at this;rw[this];have hd':¬t=d:=fun h=>hd h.symm;simp[hd',Env.get]
omit [Dr]in
theorem kc(e:Env):∀(ds:List Nat),(forget e ds).al=e.al/\(forget e ds).lb=e.lb/\∀B,aL (forget e ds).sl B=aL e.sl B
 |[]=>⟨rfl,rfl,fun _=>rfl⟩
 |_d:: ds=>kc e ds
omit [Dr]in
theorem kp(e:Env)(f:Nat->AV):∀(outs:List Nat)(pre:List AV)(t:Nat),(dF e (pre++outs.map f) pre.length outs).get t=if t∈outs then⟨.val (f t),none⟩else e.get t
 |[],pre,t=>by simp[dF]
 | d:: ds,pre,t=>by
  show be ((d,⟨.val (nth (pre++(d:: ds).map f) pre.length),none⟩):: (dF e (pre++(d:: ds).map f) (pre.length+1) ds).sl) t=_;rw[bn];have hn:nth (pre++(d:: ds).map f) pre.length=f d:=by simp[nth]
  by_cases hd:d=t
  ·subst hd;rw[hn];simp
  ·rw[if_neg hd]
   have:=kp e f ds (pre++[f d]) t
   simp only[Ei,Dh,Dq,Eb,List.singleton_append]at this;simp only[Env.get,DC]at this |-;rw[this];have hd':¬t=d:=fun h=>hd h.symm;simp[hd']
omit [Dr]in
theorem i7(e:Env)(vs:List AV):∀(outs:List Nat)(i:Nat),(dF e vs i outs).al=e.al/\(dF e vs i outs).lb=e.lb/\∀B,aL (dF e vs i outs).sl B=aL e.sl B
 |[],_i=>⟨rfl,rfl,fun _=>rfl⟩
 |_d:: ds,i=>i7 e vs ds (i+1)
omit [Dr]in
theorem rK(gs:List (Option (Nat×Bool)×List Nat))(t:Nat):rJ ops gs t=true↔∃i∈eE gs,t∈bY ops i:=by
 unfold rJ eE;simp only[List.any_eq_true,Eu,ej];constructor
 ·rintro⟨g,hg,i,hi,ht⟩;exact⟨i,⟨g,hg,hi⟩,ht⟩
 ·rintro⟨i,⟨g,hg,hi⟩,ht⟩;exact⟨g,hg,i,hi,ht⟩
omit [Dr]in
theorem Rel.close{is:List Nat}{gs:List (Option (Nat×Bool)×List Nat)}{e2 e e':Env}(H:Rel ops (is++eE gs) e2 e)(hS:Small ops)(T:Turned (bO ops is) e e'){vs:List AV}{f:Nat->AV}(hvs:vs=(ca ops is gs).map f)(hf:∀t∈ca ops is gs,e'.get t=⟨.val (f t),none⟩\/(f t= .any/\t<1000/\∀i∈eE gs,t ∉ bY ops i)):Rel ops (eE gs) (dF (forget e2 (bO ops is)) vs 0 (ca ops is gs)) e':=by
 have hr:=i7 (forget e2 (bO ops is)) vs (ca ops is gs) 0;have hr2:=kc e2 (bO ops is);refine⟨fun t=>?_,fun g=>?_,fun B=>?_,fun B hB=>?_⟩
 ·have hg:=kp (forget e2 (bO ops is)) f (ca ops is gs) [] t;simp only[DZ,Eb]at hg;rw[hvs,hg];split
  ·rename_i ht;rcases hf t ht with h|⟨h1,h2,h3⟩
   ·exact .inl h.symm
   ·exact .inr ⟨by rw[h1];rfl,h2,h3⟩
  ·rename_i ht;rw[lj];split
   ·rename_i hd;refine .inr ⟨rfl,?_,fun i hi hti=>ht ?_⟩
    ·unfold bO at hd;simp only[ES]at hd;obtain⟨i,hi,hd⟩:=hd;unfold cm at hd;cases hoi:ops[i]? with
     |none=>rw[hoi]at hd;simp at hd
     |some o=>rw[hoi]at hd;exact hS.dst i o hoi t hd
    ·unfold ca;rw[FM];exact⟨hd,(rK gs t).2 ⟨i,hi,hti⟩⟩
   ·rename_i hd;rw[T.get t hd];rcases H.get t with h|⟨h1,h2,h3⟩
    ·exact .inl h
    ·exact .inr ⟨h1,h2,fun i hi=>h3 i (by simp[hi])⟩
 ·rw[hr.1,hr2.1,T.al];exact H.al g
 ·rw[hr.2.1,hr2.2.1,T.lb];exact H.lb B
 ·rw[hr.2.2,hr2.2.2]at hB;exact T.lf B (H.lf B hB)
omit [Dr]in
theorem l8(l m:List Nat):∀e:Env,aK cx base ops (l++m) e=ae (aK cx base ops l e) (aK cx base ops m):=by
 induction l with
 |nil=>intro e;rfl
 |cons i l ih=>
  intro e;show ae (stepG cx base ops i e) (aK cx base ops (l++m))=ae (ae (stepG cx base ops i e) (aK cx base ops l)) (aK cx base ops m);rw[d7];congr 1;funext e';exact ih e'
omit [Dr]in
theorem wB{x:Ent}(h1:iq x=true)(h2:x.g=none):x=⟨.val x.av,none⟩:=by
 obtain⟨v,g⟩:=x;cases v with
 |val a=>simp only at h2;subst h2;rfl
 |loc B off=>cases h1
omit [Dr]in
theorem fK{ρ:Type}(hS:Small ops):∀(gs:List (Option (Nat×Bool)×List Nat))(e2 e:Env)(k:Env->M ρ)(h:Hp),(∀g∈gs,∀i∈g.2,guardOf ops i=g.1)->Rel ops (eE gs) e2 e->cI cx base ops gs e2 k h≠.fail->
  (∃e2' e' h',cI cx base ops gs e2 k h=k e2' h'/\aK cx base ops (eE gs) e h= .ok e' h'/\Rel ops [] e2' e')\/∃v h',cI cx base ops gs e2 k h= .pan v h'/\aK cx base ops (eE gs) e h= .pan v h'
 |[],e2,e,k,h,_,H,_=>.inl ⟨e2,e,h,rfl,rfl,H⟩
 | (none,is):: gs,e2,e,k,h,hg,H,hr=>by
  have hg0:∀i∈is,guardOf ops i=none:=hg (none,is) (by simp);have hfl:eE ((none,is):: gs)=is++eE gs:=rfl;rw[hfl]at H |-;rw[l8];simp only[cI]at hr |-;rw[qg is e2 _ hg0]at hr |-;simp only[ae]at hr |-;have hr2:aK cx base ops is e2 h≠.fail:=fun hf=>by rw[hf]at hr;exact hr rfl
  rcases H.run (base:=base) (cx:=cx) is (fun i hi=>by simp[hi]) h hr2 with⟨e2',e',h',h1,h2,H'⟩|⟨v,h',h1,h2⟩
  ·rw[h1]at hr |-;rw[h2];exact fK hS gs e2' e' k h' (fun g hgg=>hg g (by simp[hgg])) (H'.sub fun i hi=>by simp[hi]) hr
  ·rw[h1,h2];exact .inr ⟨v,h',rfl,rfl⟩
 | (some (j,want),is):: gs,e2,e,k,h,hg,H,hr=>by
  have hg0:∀i∈is,guardOf ops i=some (j,want):=hg (some (j,want),is) (by simp);have hfl:eE ((some (j,want),is):: gs)=is++eE gs:=rfl;rw[hfl]at H |-;rw[l8];simp only[cI]at hr |-;cases hdj:cm ops j with
  |none=>rw[hdj]at hr;exact absurd rfl hr
  | some t=>
   rw[hdj]at hr;simp only at hr |-;revert hr;cases hc:((is.all fun i=>match ops[i]? with|some o=>df cx o&&o.dst.isSome|none=>false)&&!(dn (bO ops is) t))with
   |false=>intro hr;exact absurd rfl hr
   | true=>
    intro hr;simp only[CV]at hr |-;simp only[CX,DU,C6]at hc;have G:GroupOk cx ops j want t is:=by
     refine⟨hdj,fun i hi=>?_,fun ht=>?_⟩
     ·have:=hc.1 i hi
      cases hoi:ops[i]? with
      |none=>rw[hoi]at this;cases this
      |some o=>
       rw[hoi]at this;simp only[CX]at this;exact⟨o,rfl,hg0 i hi,this.1⟩
     ·rw[(ej _ _).2 ht]at hc;exact Bool.noConfusion hc.2
    have htr:∀i∈is,t∈bY ops i:=fun i hi=>by
     obtain⟨o,ho,hgi,_⟩:=G.each i hi;rw[dX ho];have:o.guard=some (j,want):=by simpa [guardOf,ho]using hgi
     have:t∈dc ops o:=by
      unfold dc;rw[this];simp only;rw[show (ops[j]?).bind (·.dst)=some t from hdj];simp
     simp[this]
    -- the guard says yes
    cases is with
    | nil=>
     have hrn:∀e,aK cx base ops [] e=M.pure e:=fun _=>rfl;rw[hrn,aw];have ho:ca ops [] gs=[]:=rfl;have hd:bO ops []=[]:=rfl;rw[ho,hd]at hr |-;have hpure:∀ {q:AV} {m:M (List AV)},m h= .ok [] h->ay q want ([]:List Nat).length m h≠.fail->ay q want ([]:List Nat).length m h= .ok [] h:=by
      intro q m hm hne;cases q with
      |bool b=>
       simp only[ay];cases b== want with
       |true=>exact hm
       |false=>rfl
      |tup vs=>
       cases vs with
       |nil=>rfl
       |cons v vs=>exact absurd rfl hne
      |_=>exact absurd rfl hne
     simp only[ae]at hr |-;have hp:=hpure (q:=e2.av t) (m:=fm cx base ops true [] e2 fun e'=>bif ([]:List Nat).all (fun t=>iq (e'.get t))then M.pure (([]:List Nat).map e'.av)else M.fail) rfl (fun hf=>by rw[hf]at hr;exact hr rfl);rw[hp]at hr |-;exact fK hS gs e2 e k h (fun g hgg=>hg g (by simp[hgg])) (H.sub fun i hi=>by simp[hi]) hr
    |cons i0 is0=>
    have hav:e.av t=e2.av t:=by
     have:=H.read (i:=i0) (by simp) (htr i0 (by simp))
     simp only[Env.av,this]
    generalize hiseq:i0:: is0=is at *;have hoff:Off (e2.av t) want->(ay (e2.av t) want (ca ops is gs).length (fm cx base ops true is e2 fun e'=>bif (ca ops is gs).all (fun t=>iq (e'.get t))then M.pure ((ca ops is gs).map e'.av)else M.fail))=M.pure (List.replicate (ca ops is gs).length (.tup [])):=by
     rintro (hq|⟨b,hq,hb⟩)
     ·rw[hq];rfl
     ·rw[hq];simp only[ay,hb,CY]
    have hcase:Off (e2.av t) want\/e2.av t= .bool want:=by
     cases hq:e2.av t with
     |bool b=>
      cases hb:(b== want)with
      |true=>right;simp at hb;rw[hb]
      |false=>exact .inl (.inr ⟨b,rfl,hb⟩)
     |tup vs=>
      cases vs with
      |nil=>exact .inl (.inl rfl)
      |cons v vs=>rw[hq]at hr;exact absurd rfl hr
     |_=>rw[hq]at hr;exact absurd rfl hr
    rcases hcase with ho|hy
    ·rw[hoff ho,aw]at hr |-;obtain⟨e',h1,T,h2⟩:=wQ (base:=base) is e h G (by rw[hav];exact ho);simp only[ae];rw[h1];refine fK hS gs _ e' k h (fun g hgg=>hg g (by simp[hgg])) (H.close hS T (f:=fun _=>.tup []) ?_ fun s hs=>.inl ?_) hr
     ·exact (List.map_const' ..).symm
     ·refine h2 s ?_;unfold ca at hs;exact (FM.1 hs).1
    ·rw[hy]at hr |-;simp only[ay,Eo,CV,ae]at hr |-;rw[ny is e2 _ h G hy]at hr |-;simp only[ae]at hr |-;have hr2:aK cx base ops is e2 h≠.fail:=fun hf=>by rw[hf]at hr;exact hr rfl
     rcases H.run (base:=base) (cx:=cx) is (fun i hi=>by simp[hi]) h hr2 with⟨e2',e',h',h1,h2,H'⟩|⟨v,h',h1,h2⟩
     ·rw[h1]at hr |-;rw[h2];simp only at hr |-;have T2:=jf is e2 e2' h h' G hy h1;have T:=jf is e e' h h' G (by rw[hav];exact hy) h2;cases hv:(ca ops is gs).all (fun t=>iq (e2'.get t))with
      |false=>rw[hv]at hr;exact absurd rfl hr
      |true=>
       rw[hv]at hr;simp only[CV,M.pure]at hr |-;refine fK hS gs _ e' k h' (fun g hgg=>hg g (by simp[hgg])) (H.close hS T (f:=e2'.av) rfl fun s hs=>?_) hr;have hsd:s∈bO ops is:=by unfold ca at hs;exact (FM.1 hs).1
       have hval:=wB (C6.1 hv s hs) (T2.ng s hsd);rcases H'.get s with h3|⟨h3,h4,h5⟩
       ·left;rw[<- h3];exact hval
       ·right;exact⟨by simp only[Env.av,h3];rfl,h4,fun i hi=>h5 i (by simp[hi])⟩
     ·rw[h1,h2];exact .inr ⟨v,h',rfl,rfl⟩
end
end Go.Av
namespace Go.Av
variable [Dr]
omit [Dr]in
theorem f5(acc:List Nat):∀(es:List Edge)(x:Nat),(fA acc es).testBit x=true↔∃e∈es,Region.binds .any e=true/\(e.on=x\/(acc.getD e.on 0).testBit x=true)
 |[],x=>by simp[fA]
 | e :: es,x=>by
  simp only[fA];cases hb:Region.binds .any e with
  | false=>
   simp only[CY,f5 acc es x,De];constructor
   ·rintro⟨e',he,h⟩;exact⟨e',.inr he,h⟩
   ·rintro⟨e',rfl|he,h⟩
    ·rw[hb]at h;exact absurd h.1 (by simp)
    ·exact⟨e',he,h⟩
  | true=>
   simp only[CV,Nat.testBit_or,DY,f5 acc es x,De,Nat.testBit_two_pow,CU];constructor
   ·rintro ((⟨e',he,h⟩|h)|h)
    ·exact⟨e',.inr he,h⟩
    ·exact⟨e,.inl rfl,hb,.inl h⟩
    ·exact⟨e,.inl rfl,hb,.inr h⟩
   ·rintro⟨e',rfl|he,h1,h2⟩
    ·rcases h2 with h2|h2
     ·exact .inl (.inr h2)
     ·exact .inr h2
    ·exact .inl (.inl ⟨e',he,h1,h2⟩)
omit [Dr]in
theorem mJ:∀(os:List Oper)(acc:List Nat),∃r:List Nat,qC os acc=acc++r/\r.length=os.length/\∀(k:Nat)(o:Oper),os[k]? = some o->r[k]? = some (fA (acc++r.take k) o.after.toList)
 |[],acc=>⟨[],by simp[qC],rfl,by simp⟩
 | o:: os,acc=>by
  obtain⟨r,h1,h2,h3⟩:=mJ os (acc++[fA acc o.after.toList]);refine⟨fA acc o.after.toList:: r,by simp[qC,h1],by simp[h2],fun k o' ho=>?_⟩;cases k with
  |zero=>simp at ho;subst ho;simp
  |succ k=>
   simp only[DO,Fj]at ho |-;rw[h3 k o' ho];simp
section
variable {ops:Array Oper}
def gy(ops:Array Oper):List Nat:=qC ops.toList []
omit [Dr]in
theorem tQ{j:Nat}{o:Oper}(ho:ops[j]? = some o):(gy ops).length=ops.size/\(gy ops).getD j 0=fA ((gy ops).take j) o.after.toList:=by
 obtain⟨r,h1,h2,h3⟩:=mJ ops.toList [];have h4:gy ops=r:=by unfold gy;rw[h1];simp
 rw[h4];refine⟨by simp[h2],?_⟩
 have:=h3 j o (by simpa using ho)
 rw[Du,this];simp
omit [Dr]in
theorem sP{listed:Nat->Prop}(hcl:∀(j:Nat)(o:Oper),ops[j]? = some o->listed j->∀e∈o.after.toList,Region.binds .any e=true->listed e.on):
  ∀(j:Nat)(o:Oper),ops[j]? = some o->(∀e∈o.after.toList,Region.binds .any e=true->listed e.on)->∀x,((gy ops).getD j 0).testBit x=true->listed x:=by
 intro j
 induction j using Nat.strongRecOn with
 | _ j ih=>
  intro o ho hl x hx;obtain⟨hlen,hget⟩:=tQ ho;rw[hget,f5]at hx;obtain⟨e,he,hb,hx|hx⟩:=hx
  ·rw[<- hx];exact hl e he hb
  ·by_cases hj:e.on<j
   ·have hjs:j<ops.size:=(DD.1 ho).1;have hos:ops[e.on]? = some ops[e.on]:=D6 (by omega);have h1:((gy ops).take j).getD e.on 0=(gy ops).getD e.on 0:=by
     rw[Du,Du,Da,CW hj]
    rw[h1]at hx;exact ih e.on hj _ hos (hcl e.on _ hos (hl e he hb)) x hx
   ·rw[Du,Da,if_neg hj]at hx;simp at hx
def tJ(cx:Cx)(ops:Array Oper)(i j:Nat):Prop:=((gy ops).getD i 0).testBit j=false/\(((gy ops).getD j 0).testBit i=true\/iO cx ops i j=true)
omit [Dr]in
theorem kl{cx:Cx}:∀ {l:List Nat},gg cx ops (gy ops) l=true->l.Pairwise (tJ cx ops)/\∀i∈l,((gy ops).getD i 0).testBit i=false
 |[],_=>⟨.nil,by simp⟩
 |i:: l,h=>by
  simp only[gg,CX,DU,C6,DY]at h;obtain⟨⟨h1,h2⟩,h3⟩:=h;obtain⟨h4,h5⟩:=kl h3;refine⟨.cons (fun j hj=>h2 j hj) h4,fun k hk=>?_⟩;simp only[De]at hk;rcases hk with rfl|hk
  ·exact h1
  ·exact h5 k hk
omit [Dr]in
theorem gB:∀ {l:List Nat},distinct l=true->l.Nodup
 |[],_=>.nil
 |i:: l,h=>by
  simp only[distinct,CX,DU]at h;refine FL.2 ⟨fun hi=>?_,gB h.2⟩;rw[(ej _ _).2 hi]at h;exact Bool.noConfusion h.1
variable {P:Program} {cx:Cx} {c:Entry} {N base:Nat}
theorem pb(hT:TOK P cx.T)(hC:bR P cx.own cx.call)(hI:IsoPure cx)(hO:OpsOk N cx ops)(hS:Small ops)(hbit:∀i x,((gy ops).getD i 0).testBit x=true->x<ops.size)(hself:∀i,i<ops.size->((gy ops).getD i 0).testBit i=false){Q:Exit->Act->World->Prop}:∀(n:Nat)(rest:List Nat)(listed:Array Bool)(D:List Nat)(e:Env)(h:Hp)(a:Act)(w:World),rest.length=n->listed.size=ops.size->rest.Nodup->
  (∀i,i∈rest↔i<ops.size/\listed.getD i true=false)->(∀i∈rest,i ∉ D)->(∀i∈D,i<ops.size)->
  (∀(j:Nat)(o:Oper),ops[j]? = some o->listed.getD j false=true->∀e∈o.after.toList,Region.binds .any e=true->listed.getD e.on false=true)->rest.Pairwise (tJ cx ops)->
  cT c N (UD base D) e h a w->aK cx base ops rest e h≠.fail->
  (∀e0 e' h' a' w',aK cx base ops rest e h= .ok e0 h'->EqE e0 e'->cT c N (UR base ops.size) e' h' a' w'->a'.defers=a.defers->Q .normal a' w')->
  (∀pv h' v w' a',aK cx base ops rest e h= .pan pv h'->ib c pv h' v w'->a'.defers=a.defers->Q (.panic [{ v,recovered:=false }]) a' w')->wpAny P .any ops Q n listed a w
 |0,rest,listed,D,e,h,a,w,hlen,hsz,hnd,hmem,hdis,hD,hcl,hpw,H,hr,hn,hp=>by
  have:rest=[]:=Dt hlen;subst this;refine⟨?_,hn e e h a w rfl (.refl e) (H.wider (w6 hD)) rfl⟩;refine List.eq_nil_iff_forall_not_mem.2 fun i hi=>?_;obtain⟨h0,o,ho,_⟩:=mem_ready.1 hi
  have:=(hmem i).2 ⟨(DD.1 ho).1,h0⟩
  simp at this
 | n + 1,rest,listed,D,e,h,a,w,hlen,hsz,hnd,hmem,hdis,hD,hcl,hpw,H,hr,hn,hp=>by
  have hgd:∀i,i<ops.size->listed.getD i true=listed.getD i false:=fun i hi=>by
   rw[Do,Do,D6 (by omega)];rfl
  refine⟨fun hemp=>?_,fun i hi=>?_⟩
  ·exfalso;cases rest with
   |nil=>simp at hlen
   | cons r0 tl=>
    have hr0:=(hmem r0).1 (by simp);have hor:ops[r0]? = some ops[r0]:=D6 hr0.1;have:r0∈Region.ready .any ops listed:=by
     refine mem_ready.2 ⟨hr0.2,_,hor,fun ed hed hb=>?_⟩;have hbt:((gy ops).getD r0 0).testBit ed.on=true:=by
      rw[(tQ hor).2,f5];exact⟨ed,by simpa using hed,hb,.inl rfl⟩
     have hlt:=hbit r0 ed.on hbt;cases hl:listed.getD ed.on false with
     |true=>rfl
     | false=>
      have hin:=(hmem ed.on).2 ⟨hlt,by rw[hgd _ hlt];exact hl⟩;simp only[De]at hin;rcases hin with hin|hin
      ·rw[hin]at hbt;rw[hself r0 hr0.1]at hbt;cases hbt
      ·have:=(List.pairwise_cons.1 hpw).1 ed.on hin
       rw[this.1]at hbt;cases hbt
    rw[hemp]at this;simp at this
  ·obtain⟨h0,o,ho,hall⟩:=mem_ready.1 hi;have hlt:i<ops.size:=(DD.1 ho).1;have hin:=(hmem i).2 ⟨hlt,h0⟩;obtain⟨p,q,rfl⟩:=List.append_of_mem hin;have hnd':=hnd;rw[List.nodup_append]at hnd';have hni:i ∉ p++q:=by
    intro hm;rw[Di]at hm;rcases hm with hm|hm
    ·exact hnd'.2.2 i hm i (by simp) rfl
    ·exact (FL.1 hnd'.2.1).1 hm
   have hclo:=sP (ops:=ops) (listed:=fun j=>listed.getD j false=true) (fun j o ho hj ed hed hb=>hcl j o ho hj ed hed hb) i o ho (fun ed hed hb=>hall ed (by simpa using hed) hb);have hfront:∀x∈p,iO cx ops x i=true/\x≠i:=by
    intro x hx;have hpr:=(List.pairwise_append.1 hpw).2.2 x hx i (by simp);refine⟨?_,fun hxi=>hni (by rw[<- hxi];simp[hx])⟩;rcases hpr.2 with h1|h1
    ·have hxl:=hclo x h1;have hxr:=(hmem x).1 (by simp[hx]);rw[hgd x hxr.1]at hxr;rw[hxr.2]at hxl;cases hxl
    ·exact h1
   have hRE:=xP (base:=base) hI hS q p hfront e h;have hr':aK cx base ops (i:: (p++q)) e h≠.fail:=by
    intro hf;rw[hf]at hRE;cases hx:aK cx base ops (p++i:: q) e h with
    |fail=>exact hr hx
    |ok e0 h0=>rw[hx]at hRE;obtain⟨_,h1,_⟩:=hRE;cases h1
    |pan v h0=>rw[hx]at hRE;cases hRE
   simp only[aK,ae]at hr';have hstep:∀ {r:R Env},aK cx base ops (i:: (p++q)) e h=r->aK cx base ops (i:: (p++q)) e h=r:=fun h=>h;simp only[aK,ae]at hRE;refine md hT hC hO (hdis i hin) H (fun hf=>by rw[hf]at hr';exact hr' rfl) (fun e1 h1 a1 w1 hst hs hdf=>?_) (fun pv h1 v w1 hst hps=>?_)
   ·rw [hst]at hr' hRE;simp only at hr' hRE;refine pb hT hC hI hO hS hbit hself n (p++q) (listed.setIfInBounds i true) (i:: D) e1 h1 a1 w1 ?_ (by simp[hsz]) ?_ (fun k=>?_) (fun k hk=>?_) (fun k hk=>?_) (fun k o' ho' hk ed hed hb=>?_) ?_ hs hr' (fun e0 e' h' a' w' hok heq hsat hdf'=>?_) (fun pv h' v w' a' hok hps hdf'=>?_)
    ·simp only[Dh,Dq]at hlen |-;omega
    ·exact hnd.sublist (List.Sublist.append (List.Sublist.refl p) (List.sublist_cons_self i q))
    ·have hset:k≠i->(listed.setIfInBounds i true).getD k true=listed.getD k true:=fun hk=>by
      rw[Do,Do,Ew (FN hk)]
     constructor
     ·intro hk;have hki:k≠i:=fun h=>hni (h▸hk);rw[hset hki];exact (hmem k).1 (by
       simp only[Di,De]at hk |-;rcases hk with hk|hk
       ·exact .inl hk
       ·exact .inr (.inr hk))
     ·rintro⟨h1,h2⟩;have hki:k≠i:=by
       rintro rfl;rw[Do,Array.getElem?_setIfInBounds_self]at h2;rw[CW (by omega)]at h2;simp at h2
      rw[hset hki]at h2
      have:=(hmem k).2 ⟨h1,h2⟩
      simp only[Di,De]at this |-;rcases this with h|h|h
      ·exact .inl h
      ·exact absurd h hki
      ·exact .inr h
    ·simp only[De,not_or];refine⟨fun hki=>hni (hki▸hk),hdis k ?_⟩;simp only[Di,De]at hk |-;rcases hk with hk|hk
     ·exact .inl hk
     ·exact .inr (.inr hk)
    ·simp only[De]at hk;rcases hk with rfl|hk
     ·exact hlt
     ·exact hD k hk
    ·have hmono:∀x,listed.getD x false=true->(listed.setIfInBounds i true).getD x false=true:=fun x hx=>getD_set_true hx;by_cases hki:k=i
     ·subst hki;rw[ho]at ho';cases ho';exact hmono _ (hall ed (by simpa using hed) hb)
     ·refine hmono _ (hcl k o' ho' ?_ ed hed hb);rw[Do,Ew (FN hki),<- Do]at hk;exact hk
    ·exact hpw.sublist (List.Sublist.append (List.Sublist.refl p) (List.sublist_cons_self i q))
    ·rw[hok]at hRE;cases hx:aK cx base ops (p++i:: q) e h with
     |fail=>exact absurd hx hr
     |ok ex hx'=>
      rw[hx]at hRE;obtain⟨e0',h2,h3⟩:=hRE;cases h2;exact hn ex e' _ a' w' hx (h3.trans heq) hsat (hdf'.trans hdf)
     |pan v h0=>rw[hx]at hRE;cases hRE
    ·rw[hok]at hRE;cases hx:aK cx base ops (p++i:: q) e h with
     |fail=>exact absurd hx hr
     |ok ex hx'=>rw[hx]at hRE;obtain⟨_,h1,_⟩:=hRE;cases h1
     |pan v0 h0=>
      rw[hx]at hRE;cases hRE;exact hp _ _ v w' a' hx hps (hdf'.trans hdf)
   ·rw[hst]at hRE;cases hx:aK cx base ops (p++i:: q) e h with
    |fail=>exact absurd hx hr
    |ok ex hx'=>rw[hx]at hRE;obtain⟨_,h1,_⟩:=hRE;cases h1
    |pan v0 h0=>
     rw[hx]at hRE;cases hRE;exact hp _ _ v w1 a hx hps rfl
end
end Go.Av
namespace Go.Av
variable [Dr]
structure IsoCall (cx:Cx):Prop where
 iso:∀f args,cx.iso f=true->∃x:Option (Bool×AV),∀h,cx.call f args h=(match x with|none=>.fail|some (true,v)=>.ok v h|some (false,v)=>.pan v h)
 nw:∀f args,cx.nw f=true->rM (cx.call f args)
omit [Dr]in
theorem IsoCall.draw{cx:Cx}(h:IsoCall cx):IsoPure (dj cx):=by
 refine⟨?_,fun f args hf=>?_⟩
 case refine_2=>
  have hn:=h.nw f args hf;show rM (bif cx.iso f then cP (cx.call f args)else cx.call f args);cases cx.iso f with
  |false=>exact hn
  |true=>
   intro hp v h' hh;simp only[CV,cP]at hh;cases hq:cx.call f args hp with
   |ok a b=>rw[hq]at hh;cases hh;exact hn _ _ _ hq
   |pan a b=>rw[hq]at hh;cases hh
   |fail=>rw[hq]at hh;cases hh
 intro f args hf;have hf':cx.iso f=true:=hf;obtain⟨x,hx⟩:=h.iso f args hf';refine⟨match x with|some (true,v)=>some v|_=>none,?_⟩;show (bif cx.iso f then cP (cx.call f args)else cx.call f args)=_;rw[hf'];funext hp;simp only[CV,cP,hx];rcases x with _|⟨b,v⟩
 ·rfl
 ·cases b<;>rfl
theorem bR.draw{P:Program}{cx:Cx}(h:bR P cx.own cx.call):bR P (dj cx).own (dj cx).call:=by
 intro f args hp S β w vs hr hg hw hh hv;have hcall:(dj cx).call f args hp=(bif cx.iso f then cP (cx.call f args) hp else cx.call f args hp):=by
  show (bif cx.iso f then cP (cx.call f args)else cx.call f args) hp=_;cases cx.iso f<;>rfl
 rw[hcall]at hr |-
 have key:∀r,r=cx.call f args hp->r≠.fail->Calls P f vs.toArray w (dk ((dj cx).own f) S β hp w r)/\(P.funcs[f]?).any (fun fn=>fn.body.isSome&&!(fn.name== "runtime.NumGoroutine"))=true:=by
  intro r hr1 hr2;subst hr1;exact h f args hp S β w vs hr2 hg hw hh hv
 cases hi:cx.iso f with
 |false=>rw[hi]at hr;exact key _ rfl hr
 |true=>
  rw[hi]at hr;simp only[CV,cP]at hr |-;cases hx:cx.call f args hp with
  |ok v hq=>rw[hx]at hr;exact key _ hx.symm (by simp)
  |pan v hq=>rw[hx]at hr;exact absurd rfl hr
  |fail=>rw[hx]at hr;exact absurd rfl hr
def gq(c:Entry)(N:Nat)(e:Env)(h:Hp)(a:Act)(w:World):Prop:=cT c N (fun g=>g<e.nx*1000) e h a w
theorem cT.rel{c:Entry}{N:Nat}{U:Nat->Prop}{e2 e:Env}{h:Hp}{a:Act}{w:World}{ops:Array Oper}(H:cT c N U e h a w)(R:Rel ops [] e2 e):cT c N U e2 h a w:=by
 obtain⟨S,β,γ,lam,ω,F⟩:=H;refine⟨S,β,γ,lam,ω,F.weak (fun t=>?_) (fun t g hg=>?_) (fun g z hz=>by rw[R.al]at hz;exact hz) (fun B n hB=>by rw[R.lb]at hB;exact hB)⟩
 ·rcases R.get t with h|⟨h1,h2,_⟩
  ·exact .inl (by rw[h])
  ·exact .inr ⟨by rw[h1];rfl,h2⟩
 ·rcases R.get t with h|⟨h1,_⟩
  ·rw[h]at hg;exact hg
  ·rw[h1]at hg;cases hg
theorem cT.eqE{c:Entry}{N:Nat}{U:Nat->Prop}{e2 e:Env}{h:Hp}{a:Act}{w:World}(H:cT c N U e h a w)(R:EqE e e2):cT c N U e2 h a w:=by
 obtain⟨S,β,γ,lam,ω,F⟩:=H;exact⟨S,β,γ,lam,ω,F.weak (fun t=>.inl (by rw[R.get])) (fun t g hg=>by rw[R.get]at hg;exact hg) (fun g z hz=>by rw[R.al]at hz;exact hz) (fun B n hB=>by rw[R.lb]at hB;exact hB)⟩
theorem cT.nx{c:Entry}{N:Nat}{U:Nat->Prop}{e:Env}{h:Hp}{a:Act}{w:World}(n:Nat)(H:cT c N U e h a w):cT c N U { e with nx:=n } h a w:=by
 obtain⟨S,β,γ,lam,ω,F⟩:=H;exact⟨S,β,γ,lam,ω,F.weak (fun t=>.inl rfl) (fun t g hg=>hg) (fun g z hz=>hz) (fun B n hB=>hB)⟩
section
variable {P:Program} {cx:Cx} {c:Entry} {e:Env} {h:Hp} {a:Act} {w:World} {ops:Array Oper} {id:Nat}
omit [Dr]in
theorem mr{n:Nat}(hn:n<=1000)(hd:fH n ops=true)(hk:∀p,tk (br cx.ann.kinds p .L)=true->p<n):OpsOk n cx ops/\Small ops:=by
 unfold fH at hd;rw[Array.all_eq_true_iff_forall_mem]at hd;have h1:∀(i:Nat)(o:Oper),ops[i]? = some o->(∀t,o.dst=some t->t<n)/\∀t∈fB o,t<1000:=by
  intro i o ho
  have:=hd o (Array.mem_of_getElem? ho)
  simp only[CX,C6,CU]at this;refine⟨fun t ht=>?_,this.2⟩;have h2:=this.1;rw[ht]at h2;simpa using h2
 refine⟨⟨fun i o ho=>(h1 i o ho).1,fun i o ho x hx t hxt=>(h1 i o ho).2 t ?_,hk⟩,⟨fun i o ho t ht=>Dy ((h1 i o ho).1 t ht) hn,fun i o ho=>(h1 i o ho).2⟩⟩;subst hxt;exact ES.2 ⟨_,hx,rfl⟩
theorem tC{ρ:Type}(hT:TOK P cx.T)(hC:bR P cx.own cx.call)(hI:IsoCall cx)(hk:∀p,tk (br cx.ann.kinds p .L)=true->p<cx.nt){draw:Bool}{k:Env->M ρ}(H:gq c cx.nt e h a w)(hr:j0 cx id ops draw e k h≠.fail){Q:Exit->Act->World->Prop}(hn:∀e' h' a' w',j0 cx id ops draw e k h=k e' h'->gq c cx.nt e' h' a' w'->a'.defers=a.defers->Q .normal a' w')(hp:∀pv h' v w' a',j0 cx id ops draw e k h= .pan pv h'->ib c pv h' v w'->a'.defers=a.defers->Q (.panic [{ v,recovered:=false }]) a' w'):
  (Code.region id ops draw).wp P Q a w:=by
 have hN:cx.nt<=1000:=by obtain⟨S,β,γ,lam,ω,F⟩:=H;exact F.tsz.2
 have H0:cT c cx.nt (UD e.nx []) e h a w:=H.wider fun g hg=>.inl hg;unfold j0 at hr hn hp;cases hds:fH cx.nt ops with
 |false=>rw[hds]at hr;exact absurd rfl hr
 | true=>
  obtain⟨hO,hS⟩:=mr (cx:=cx) hN hds hk;rw[hds]at hr hn hp;simp only[CV]at hr hn hp;cases draw with
  | false=>
   simp only[CY]at hr hn hp;obtain⟨hfl,hgs⟩:=fy ops (List.range ops.size);refine wp_region (nA hT hC hO (List.range ops.size) [] e h a w List.nodup_range (by simp) H0 ?_ ?_ ?_)
   all_goals
    have hseq:=fK (cx:=cx) (base:=e.nx) hS (cn ops (List.range ops.size)) e e _ h hgs (.refl ops _ e) hr;rw[hfl]at hseq
   ·rcases hseq with⟨_,_,_,_,h2,_⟩|⟨_,_,_,h2⟩<;>rw[h2]<;>simp
   ·intro e' h' a' w' hok hsat hdf;rcases hseq with⟨e2',e'',h'',h1,h2,hR⟩|⟨_,_,_,h2⟩
    ·rw[h2]at hok;cases hok;refine hn _ _ a' w' h1 (cT.nx _ ((hsat.wider (w6 ?_)).rel hR)) hdf;intro i hi;simpa using hi
    ·rw[h2]at hok;cases hok
   ·intro pv h' v w' a' hok hps hdf;rcases hseq with⟨e2',e'',h'',h1,h2,hR⟩|⟨_,_,h1,h2⟩
    ·rw[h2]at hok;cases hok
    ·rw[h2]at hok;cases hok;exact hp _ _ v w' a' h1 hps hdf
  | true=>
   simp only[CV]at hr hn hp;generalize np cx id ops.size=ord at hr hn hp;cases hdo:ij cx ops ord with
   |false=>rw[hdo]at hr;exact absurd rfl hr
   | true=>
    rw[hdo]at hr hn hp;simp only[CV]at hr hn hp;simp only[ij,vd,CX,C6,CU]at hdo;obtain⟨⟨⟨⟨⟨hlen,hmem⟩,hdist⟩,hlt⟩,hbits⟩,hpairs⟩:=hdo;have hlen':ord.length=ops.size:=C1 hlen;obtain⟨hpw,hself⟩:=kl (cx:=cx) (ops:=ops) hpairs;have hpw':ord.Pairwise (tJ (dj cx) ops):=hpw;have hO':OpsOk cx.nt (dj cx) ops:=⟨hO.dst,hO.src,hO.kin⟩;obtain⟨hfl,hgs⟩:=fy ops ord;have hseq:=fK (cx:=dj cx) (base:=e.nx) hS (cn ops ord) e e _ h hgs (.refl ops _ e) hr;rw[hfl]at hseq;refine wp_region_draw fun t=>?_;have hsch:Region.schedule (P.follows .mixedOrders) ops t=Region.linearise .any ops t:=by
     simp only[Region.schedule,hT.mix,Bool.true_or,Dv]
    rw[hsch];have hmem':∀i,i∈ord↔i<ops.size:=fun i=>⟨fun hi=>hlt i hi,fun hi=>(ej _ _).1 (hmem i (by simpa using hi))⟩;refine wpAny_sound ops.size t _ a _ (pb (cx:=dj cx) (c:=c) (N:=cx.nt) (base:=e.nx) hT hC.draw hI.draw hO' hS ?_ ?_ ops.size ord (Array.replicate ops.size false) [] e h a w.drew hlen' (by simp) (gB hdist) ?_ (by simp) (by simp) ?_ hpw' ?_ ?_ ?_ ?_)
    ·intro i x hx;rcases Dg x ops.size with h'|h'
     ·exact h'
     ·have hm:(gy ops).getD i 0<2 ^ ops.size:=by
       rw[Du];cases hi:(gy ops)[i]? with
       |none=>simp;exact Nat.pow_pos (by omega)
       |some m=>exact hbits m (D4 hi)
      rw[Nat.testBit_lt_two_pow (Dy hm (Nat.pow_le_pow_right (by omega) h'))]at hx;cases hx
    ·exact fun i hi=>hself i ((hmem' i).2 hi)
    ·intro i;rw[hmem'];constructor
     ·intro hi;refine⟨hi,?_⟩;rw[Do,FD,CW hi];rfl
     ·exact fun hi=>hi.1
    ·intro j o ho hj;exfalso;rw[Do,FD]at hj;split at hj<;>simp at hj
    ·obtain⟨S,β,γ,lam,ω,F⟩:=H0;exact⟨S,β,γ,lam,ω,F.drew⟩
    ·rcases hseq with⟨_,_,_,_,h2,_⟩|⟨_,_,_,h2⟩<;>rw[h2]<;>simp
    ·intro e0 e' h' a' w' hok heq hsat hdf;rcases hseq with⟨e2',e'',h'',h1,h2,hR⟩|⟨_,_,_,h2⟩
     ·rw[h2]at hok;cases hok;exact hn _ _ a' w' h1 (cT.nx _ ((hsat.eqE heq.symm).rel hR)) hdf
     ·rw[h2]at hok;cases hok
    ·intro pv h' v w' a' hok hps hdf;rcases hseq with⟨e2',e'',h'',h1,h2,hR⟩|⟨_,_,h1,h2⟩
     ·rw[h2]at hok;cases hok
     ·rw[h2]at hok;cases hok;exact hp _ _ v w' a' h1 hps hdf
end
end Go.Av
namespace Go.Av
variable [Dr]
omit [Dr]in
theorem gf{e:Env}:∀(l:List (Nat×Option Nat))(used:List Nat)(vs:List AV),ek e l used=some vs->vs.length=l.length/\
  (∀(i:Nat)(t:Nat)(z:Option Nat),l[i]? = some (t,z)->∃a,vs[i]? = some a/\(e.get t).v= .val a/\∀sz,z=some sz->∃g z0,(e.get t).g=some g/\aD e.al g=some z0/\(z0=none\/z0=some sz)/\g ∉ used)/\
  ∀(i j:Nat)(t t' sz sz':Nat),i<j->l[i]? = some (t,some sz)->l[j]? = some (t',some sz')->(e.get t).g≠(e.get t').g
 |[],used,vs,h=>by
  simp only[ek,CS]at h;subst h;exact⟨rfl,by simp,by simp⟩
 | (t,none):: r,used,vs,h=>by
  simp only[ek]at h;split at h
  ·rename_i a ha;split at h
   ·rename_i vs' hvs;simp only[CS]at h;subst h;obtain⟨h1,h2,h3⟩:=gf r used vs' hvs;refine⟨by simp[h1],fun i t' z hi=>?_,fun i j t1 t2 sz1 sz2 hij hi hj=>?_⟩
    ·cases i with
     |zero=>
      simp only[Db,CS,Dw]at hi;obtain⟨rfl,rfl⟩:=hi;exact⟨a,rfl,ha,fun sz hsz=>by cases hsz⟩
     |succ i=>simpa using h2 i t' z (by simpa using hi)
    ·cases i with
     |zero=>simp at hi
     |succ i=>
      cases j with
      |zero=>omega
      |succ j=>exact h3 i j t1 t2 sz1 sz2 (by omega) (by simpa using hi) (by simpa using hj)
   ·cases h
  ·cases h
 | (t, some sz):: r,used,vs,h=>by
  simp only[ek]at h;split at h
  ·rename_i a g ha hg;split at h
   ·cases h
   ·rename_i z0 hz0;have hcond:oH z0 (some sz)=true/\dn used g=false/\(match ek e r (g:: used)with|some vs=>some (a:: vs)|none=>none)=some vs:=by
     cases hm:dn used g with
     | true=>
      rw[hm]at h;cases z0 with
      |none=>cases h
      |some n=>
       simp only at h;cases hb:Nat.beq n sz<;>rw[hb]at h<;>cases h
     | false=>
      rw[hm]at h;cases z0 with
      |none=>exact⟨rfl,rfl,h⟩
      |some n=>
       simp only at h;cases hb:Nat.beq n sz with
       |true=>rw[hb]at h;exact⟨hb,rfl,h⟩
       |false=>rw[hb]at h;cases h
    obtain⟨hc1,hc2,h⟩:=hcond;have hc:=And.intro hc1 hc2
    ·split at h
     ·rename_i vs' hvs;simp only[CS]at h;subst h;have hgu:g ∉ used:=fun hm=>by
       rw[(ej _ _).2 hm]at hc;exact Bool.noConfusion hc.2
      have hz:z0=none\/z0=some sz:=by
       cases z0 with
       |none=>exact .inl rfl
       |some n=>exact .inr (by rw[C1 hc.1])
      obtain⟨h1,h2,h3⟩:=gf r (g:: used) vs' hvs;refine⟨by simp[h1],fun i t' z hi=>?_,fun i j t1 t2 sz1 sz2 hij hi hj=>?_⟩
      ·cases i with
       |zero=>
        simp only[Db,CS,Dw]at hi;obtain⟨rfl,rfl⟩:=hi;exact⟨a,rfl,ha,fun sz' hsz=>by cases hsz;exact⟨g,z0,hg,hz0,hz,hgu⟩⟩
       |succ i=>
        obtain⟨a',k1,k2,k3⟩:=h2 i t' z (by simpa using hi);refine⟨a',by simpa using k1,k2,fun sz' hsz=>?_⟩;obtain⟨g',z',m1,m2,m3,m4⟩:=k3 sz' hsz;exact⟨g',z',m1,m2,m3,fun hm=>m4 (by simp[hm])⟩
      ·cases i with
       | zero=>
        cases j with
        |zero=>omega
        |succ j=>
         simp only[Db,CS,Dw]at hi;obtain⟨rfl,_⟩:=hi;obtain⟨a',k1,k2,k3⟩:=h2 j t2 (some sz2) (by simpa using hj);obtain⟨g',z',m1,m2,m3,m4⟩:=k3 sz2 rfl;rw[hg,m1];intro hh;simp only[CS]at hh;exact m4 (by simp[hh])
       |succ i=>
        cases j with
        |zero=>omega
        |succ j=>exact h3 i j t1 t2 sz1 sz2 (by omega) (by simpa using hi) (by simpa using hj)
     ·cases h
  ·cases h
omit [Dr]in
theorem gp(vs:List AV)(r:List (Nat×Ent))(t:Nat):∀(l:List (Nat×Option Nat))(k:Nat),
  (∃(i:Nat)(z:Option Nat),l[i]? = some (t,z)/\be (bK vs k l++r) t=⟨.val (nth vs (k+i)),z.map fun _=>k+i⟩)\/
  ((∀(i:Nat)(z:Option Nat),l[i]? ≠some (t,z))/\be (bK vs k l++r) t=be r t)
 |[],k=>.inr ⟨by simp,rfl⟩
 | (s,z):: l,k=>by
  have hh:bK vs k ((s,z):: l)=(s,⟨.val (nth vs k),z.map fun _=>k⟩):: bK vs (k+1) l:=by cases z<;>rfl
  rw[hh,DK,bn];by_cases hs:s=t
  ·subst hs;rw[CW rfl];exact .inl ⟨0,z,rfl,rfl⟩
  ·rw[if_neg hs];rcases gp vs r t l (k+1)with⟨i,z',h1,h2⟩|⟨h1,h2⟩
   ·refine .inl ⟨i+1,z',by simpa using h1,?_⟩;rw[h2,show k+1+i=k+(i+1) by omega]
   ·refine .inr ⟨fun i z' hi=>?_,h2⟩;cases i with
    |zero=>simp at hi;exact hs hi.1
    |succ i=>exact h1 i z' (by simpa using hi)
omit [Dr]in
theorem ea:∀(l:List (Nat×Option Nat))(k g:Nat)(y:Option Nat),aD (fQ k l) g=some y->∃(i t sz:Nat),l[i]? = some (t,some sz)/\g=k+i/\y=some sz
 |[],k,g,y,h=>by simp[fQ,aD]at h
 |(s,none):: l,k,g,y,h=>by
  obtain⟨i,t,sz,h1,h2,h3⟩:=ea l (k+1) g y h;exact⟨i+1,t,sz,by simpa using h1,by omega,h3⟩
 | (s,some n):: l,k,g,y,h=>by
  simp only[fQ,bh]at h;split at h
  ·rename_i hk;simp only[CS]at h;exact⟨0,s,n,rfl,by omega,h.symm⟩
  ·obtain⟨i,t,sz,h1,h2,h3⟩:=ea l (k+1) g y h;exact⟨i+1,t,sz,by simpa using h1,by omega,h3⟩
omit [Dr]in
theorem jH(t:Nat):∀(l:List (Nat×Nat×Nat)),(∃B off,(t,B,off)∈l/\be (l.map fun x=>(x.1,(⟨.loc x.2.1 x.2.2,none⟩:Ent))) t=⟨.loc B off,none⟩)\/be (l.map fun x=>(x.1,(⟨.loc x.2.1 x.2.2,none⟩:Ent))) t=Ent.none
 |[]=>.inr rfl
 | (s,B,off):: l=>by
  rw[DC,bn];by_cases hs:s=t
  ·subst hs;rw[CW rfl];exact .inl ⟨B,off,by simp,rfl⟩
  ·rw[if_neg hs];rcases jH t l with⟨B',off',h1,h2⟩|h
   ·exact .inl ⟨B',off',by simp[h1],h2⟩
   ·exact .inr h
omit [Dr]in
theorem lJ{e:Env}:∀ {l:List (Nat×Nat×Nat)},lI e l=true->∀t B off,(t,B,off)∈l->(e.get t).v= .loc B off
 |[],_,t,B,off,h=>by simp at h
 | (s,B0,off0):: l,h,t,B,off,hm=>by
  simp only[lI,CX]at h;simp only[De,Dw]at hm;rcases hm with⟨rfl,rfl,rfl⟩|hm
  ·have h1:=h.1;split at h1
   ·rename_i B' off' hv;simp only[CX]at h1;rw[hv,C1 h1.1,C1 h1.2]
   ·cases h1
  ·exact lJ h.2 t B off hm
omit [Dr]in
theorem na{e:Env}:∀ {l:List (Nat×Nat)},pQ e l=true->∀B n,aX l B=some n->aX e.lb B=some n
 |[],_,B,n,h=>by simp[aX]at h
 | (B0,n0):: l,h,B,n,hm=>by
  simp only[pQ,CX]at h;rw[cC]at hm;split at hm
  ·rename_i hB;subst hB;simp only[CS]at hm;subst hm;have h1:=h.1;split at h1
   ·rename_i m hv;rw[hv,C1 h1]
   ·cases h1
  ·exact na h.2 B n hm
section
variable {c:Entry} {N:Nat} {e:Env} {h:Hp} {a:Act} {w:World}
open Classical in
theorem oL{ja:JA}{vs:List AV}(H:gq c N e h a w)(hp:pack ja e=some vs):gq c N (unpack ja vs) h a w:=by
 obtain⟨S,β,γ,lam,ω,F⟩:=H;unfold pack at hp;cases hlo:(lI e ja.locs&&pQ e ja.lbs)with
 |false=>rw[hlo]at hp;cases hp
 | true=>
  rw[hlo]at hp;simp only[CV]at hp;simp only[CX]at hlo;obtain⟨hlen,hval,hdis⟩:=gf ja.vals [] vs hp
  -- the groups carried
  let gOf:Nat->Option Nat:=fun i=>match ja.vals[i]? with|some (t,some _)=>(e.get t).g|_=>none
  have hg1:∀i t sz,ja.vals[i]? = some (t,some sz)->∃g z0,gOf i=some g/\(e.get t).g=some g/\aD e.al g=some z0/\(z0=none\/z0=some sz):=by
   intro i t sz hi;obtain⟨a',_,_,h3⟩:=hval i t (some sz) hi;obtain⟨g,z0,k1,k2,k3,_⟩:=h3 sz rfl;refine⟨g,z0,?_,k1,k2,k3⟩;show (match ja.vals[i]? with|some (t,some _)=>(e.get t).g|_=>none)=some g;rw[hi];exact k1
  have hg2:∀i j g,gOf i=some g->gOf j=some g->i=j:=by
   have hex:∀i g,gOf i=some g->∃t sz,ja.vals[i]? = some (t,some sz)/\(e.get t).g=some g:=by
    intro i g hi;have hi':(match ja.vals[i]? with|some (t,some _)=>(e.get t).g|_=>none)=some g:=hi;split at hi'
    ·rename_i t sz ht;exact⟨t,sz,ht,hi'⟩
    ·cases hi'
   intro i j g hi hj;obtain⟨t,sz,k1,k2⟩:=hex i g hi;obtain⟨t',sz',m1,m2⟩:=hex j g hj;rcases Nat.lt_trichotomy i j with hlt|heq|hlt
   ·exact absurd (k2.trans m2.symm) (hdis i j t t' sz sz' hlt k1 m1)
   ·exact heq
   ·exact absurd (m2.trans k2.symm) (hdis j i t' t sz' sz hlt m1 k1)
  let γ':Nat->Value:=fun i=>match gOf i with|some g=>γ g|none=>undef
  let ω':Nat->Owner:=fun b=>match ω b with
   |.grp g=>if hx:∃i,gOf i=some g then .grp (Classical.choose hx)else .no
   |o=>o
  have hωg:∀b g i,ω b= .grp g->gOf i=some g->ω' b= .grp i:=by
   intro b g i hb hi;show (match ω b with|.grp g=>if hx:∃i,gOf i=some g then Owner.grp (Classical.choose hx)else .no|o=>o)= .grp i;rw[hb];simp only;have hx:∃i,gOf i=some g:=⟨i,hi⟩;rw[dif_pos hx,hg2 _ _ g (E2 hx) hi]
  have hωo:∀b,(∀g,ω b≠.grp g)->ω' b=ω b:=by
   intro b hb;show (match ω b with|.grp g=>if hx:∃i,gOf i=some g then Owner.grp (Classical.choose hx)else .no|o=>o)=ω b;cases ho:ω b with
   |grp g=>exact absurd ho (hb g)
   |_=>rfl
  have hωn:∀b,ω' b≠.no->ω b≠.no:=by
   intro b hb ho;refine hb ?_;rw[hωo b (fun g hg=>by rw[ho]at hg;cases hg),ho]
  have hωx:∀b g,ω' b= .grp g->∃g',ω b= .grp g':=by
   intro b g hg;cases ho:ω b with
   |grp g'=>exact⟨g',rfl⟩
   |_=>rw[hωo b (fun g' h'=>by rw[ho]at h';cases h'),ho]at hg;cases hg
  -- the slots
  have hget:∀t,(∃(i:Nat)(z:Option Nat)(a':AV),ja.vals[i]? = some (t,z)/\(e.get t).v= .val a'/\(unpack ja vs).get t=⟨.val a',z.map fun _=>i⟩)\/(∃B off,(e.get t).v= .loc B off/\(unpack ja vs).get t=⟨.loc B off,none⟩)\/(unpack ja vs).get t=Ent.none:=by
   intro t;have hu:(unpack ja vs).get t=be (bK vs 0 ja.vals++ja.locs.map fun x=>(x.1,(⟨.loc x.2.1 x.2.2,none⟩:Ent))) t:=rfl;rcases gp vs (ja.locs.map fun x=>(x.1,(⟨.loc x.2.1 x.2.2,none⟩:Ent))) t ja.vals 0 with⟨i,z,h1,h2⟩|⟨h1,h2⟩
   ·obtain⟨a',k1,k2,_⟩:=hval i t z h1;refine .inl ⟨i,z,a',h1,k2,?_⟩;rw[hu,h2,Ds];have:nth vs i=a':=by simp[nth,k1]
    rw[this]
   ·rcases jH t ja.locs with⟨B,off,k1,k2⟩|k
    ·exact .inr (.inl ⟨B,off,lJ hlo.1 t B off k1,by rw[hu,h2,k2]⟩)
    ·exact .inr (.inr (by rw[hu,h2,k]))
  have hgg:∀t g,((unpack ja vs).get t).g=some g->∃sz,ja.vals[g]? = some (t,some sz):=by
   intro t g hg;rcases hget t with⟨i,z,a',h1,_,h3⟩|⟨_,_,_,h3⟩|h3
   ·rw[h3]at hg;cases z with
    |none=>simp at hg
    |some sz=>simp at hg;subst hg;exact⟨sz,h1⟩
   ·rw[h3]at hg;cases hg
   ·rw[h3]at hg;cases hg
  have hγ:∀t g,((unpack ja vs).get t).g=some g->∃g0 z0,(e.get t).g=some g0/\aD e.al g0=some z0/\γ' g=γ g0:=by
   intro t g hg;obtain⟨sz,h1⟩:=hgg t g hg;obtain⟨g0,z0,k1,k2,k3,_⟩:=hg1 g t sz h1;refine⟨g0,z0,k2,k3,?_⟩;show (match gOf g with|some g=>γ g|none=>undef)=γ g0;rw[k1]
  refine⟨S,β,γ',lam,ω',⟨F.wf,F.gro,F.keep,F.le,F.ext,F.hlen,fun l cs hl hcs=>?_,F.tsz,fun t ht=>?_,fun t g z ht hg hz=>?_,fun B n hB=>?_,fun g z hz=>?_,fun b hb=>⟨(F.mine b (hωn b hb)).1.imp (fun hE=>⟨hE.1,fun g hg=>by obtain⟨g',h'⟩:=hωx b g hg;exact hE.2 g' h'⟩) id,(F.mine b (hωn b hb)).2⟩,fun t g hg=>?_,fun g z hz=>?_⟩⟩
  ·rcases F.heap l cs hl hcs with⟨b,x,h1,h2,h3,h4⟩|⟨b,h1,h3,h4⟩
   ·exact .inl ⟨b,x,h1,h2,by rw[hωo b (fun g hg=>by rw[h3]at hg;cases hg)];exact h3,h4⟩
   ·exact .inr ⟨b,h1,by rw[hωo b (fun g hg=>by rw[h3]at hg;cases hg)];exact h3,h4⟩
  ·have hs:=F.slots t ht;rcases hget t with⟨i,z,a',_,h2,h3⟩|⟨B,off,h2,h3⟩|h3
   ·rw[h3];rw[h2]at hs;exact hs
   ·rw[h3];rw[h2]at hs;exact hs
   ·rw[h3];simp[Ent.none,dq,VR]
  ·obtain⟨g0,z0,k1,k2,k3⟩:=hγ t g hg;rw[k3];exact F.grps t g0 z0 ht k1 k2
  ·obtain⟨k1,k2,k3,b,x,k4,k5,k6,k7,k8⟩:=F.lblk B n (na hlo.2 B n hB);refine⟨k1,k2,k3,b,x,k4,k5,by rw[hωo b (fun g hg=>by rw[k6]at hg;cases hg)];exact k6,k7,fun i hi=>?_⟩;obtain⟨v,a',m1,m2,m3,m4⟩:=k8 i hi;have hgr:∀g z,((unpack ja vs).get (B+i)).g=some g->aD (unpack ja vs).al g=some z->v=γ' g:=by
    intro g z hg _;obtain⟨g0,z0,p1,p2,p3⟩:=hγ _ g hg;rw[p3];exact m4 g0 z0 p1 p2
   rcases hget (B+i)with⟨j,z,a2,_,h2,h3⟩|⟨B',off,h2,h3⟩|h3
   ·refine⟨v,a2,m1,by rw[h3],?_,hgr⟩;rw[m2]at h2;cases h2;exact m3
   ·rw[m2]at h2;cases h2
   ·exact⟨v,.any,m1,by rw[h3];rfl,by simp[VR],hgr⟩
  ·obtain⟨i,t,sz,h1,h2,h3⟩:=ea ja.vals 0 g z hz;rw[Ds]at h2;subst h2;obtain⟨g0,z0,k1,k2,k3,k4⟩:=hg1 g t sz h1;have hγ':γ' g=γ g0:=by
    show (match gOf g with|some g=>γ g|none=>undef)=γ g0;rw[k1]
   rw[hγ'];obtain⟨ad,len,cap,m1,m2,m3,m4⟩:=F.free g0 z0 k3;refine⟨ad,len,cap,m1,m2,m3,m4.imp id ?_⟩;rintro⟨sz',b,off,x,p1,p2,p3,p4,p5,p6⟩;have:sz'=sz:=by
    rcases k4 with k4|k4<;>rw[k4]at p1<;>cases p1;rfl
   subst this;exact⟨sz',b,off,x,h3,p2,p3,p4,hωg b g0 g p5 k1,p6⟩
  ·obtain⟨sz,h1⟩:=hgg t g hg;have:g<ja.vals.length:=by
    rcases Dg g ja.vals.length with h|h
    ·exact h
    ·rw[C4 h]at h1;cases h1
   show g<ja.vals.length*1000;omega
  ·obtain⟨i,t,sz,h1,h2,h3⟩:=ea ja.vals 0 g z hz;have:i<ja.vals.length:=by
    rcases Dg i ja.vals.length with h|h
    ·exact h
    ·rw[C4 h]at h1;cases h1
   show g<ja.vals.length*1000;omega
omit [Dr]in
theorem wD(d:Nat)(h:Hp):fR d h .any= .any:=by cases d<;>rfl
omit [Dr]in
theorem sw(g:AV->AV)(hg:g .any= .any)(vs:List AV)(i:Nat):nth (vs.map g) i=g (nth vs i):=by
 unfold nth;rw[Du,Du,DN];cases vs[i]? with
 |none=>simp[hg]
 |some v=>rfl
structure Reval (g:AV->AV) (x y:Ent):Prop where
 gr:y.g=x.g
 v:(∃a,x.v= .val a/\y.v= .val (g a))\/(∃B off,x.v= .loc B off/\y.v= .loc B off)
omit [Dr]in
theorem d6(g:AV->AV)(hg:g .any= .any)(vs:List AV)(r:List (Nat×Ent))(hr:∀t,Reval g (be r t) (be r t))(t:Nat):∀(l:List (Nat×Option Nat))(k:Nat),
  Reval g (be (bK vs k l++r) t) (be (bK (vs.map g) k l++r) t)
 |[],k=>by simpa [bK]using hr t
 |(s,none):: l,k=>by
  simp only[bK,DK,be];cases Nat.beq s t with
  |true=>exact⟨rfl,.inl ⟨_,rfl,by simp only[CV];rw[sw g hg]⟩⟩
  |false=>exact d6 g hg vs r hr t l (k+1)
 |(s,some z):: l,k=>by
  simp only[bK,DK,be];cases Nat.beq s t with
  |true=>exact⟨rfl,.inl ⟨_,rfl,by simp only[CV];rw[sw g hg]⟩⟩
  |false=>exact d6 g hg vs r hr t l (k+1)
omit [Dr]in
theorem oK(g:AV->AV)(hg:g .any= .any)(ja:JA)(vs:List AV)(t:Nat):Reval g ((unpack ja vs).get t) ((unpack ja (vs.map g)).get t):=by
 refine d6 g hg vs _ (fun t=>?_) t ja.vals 0;rcases jH t ja.locs with⟨B,off,_,k2⟩|k
 ·rw[k2];exact⟨rfl,.inr ⟨B,off,rfl,rfl⟩⟩
 ·rw[k];exact⟨rfl,.inl ⟨.any,rfl,by simp[Ent.none,hg]⟩⟩
theorem FR.reval{U:Nat->Prop}{S:ax}{β:List bc}{γ:Nat->Value}{lam:Nat->Option Nat}{ω:Nat->Owner}{e2:Env}{h2:Hp}{S2:ax}{ω2:Nat->Owner}{g:AV->AV}(F:FR c N U e h a w S β γ lam ω)(F2:FR c N U e h2 a w S2 β γ lam ω2)(hg:∀x v,VR S β x v->VR S2 β (g x) v)(hr:∀t,Reval g (e.get t) (e2.get t))(hal:e2.al=e.al)(hlb:e2.lb=e.lb):FR c N U e2 h2 a w S2 β γ lam ω2:=by
 refine⟨F2.wf,F2.gro,F2.keep,F2.le,F2.ext,F2.hlen,F2.heap,F2.tsz,fun t ht=>?_,fun t k z ht hk hz=>?_,fun B n hB=>?_,fun k z hz=>F2.free k z (by rw[<- hal];exact hz),F2.mine,fun t k hk=>?_,fun k z hz=>F2.used.2 k z (by rw[<- hal];exact hz)⟩
 ·have h1:=F.slots t ht;rcases (hr t).v with⟨x,q1,q2⟩|⟨B,off,q1,q2⟩
  ·rw[q1]at h1;rw[q2];exact hg _ _ h1
  ·rw[q1]at h1;rw[q2];exact h1
 ·rw[(hr t).gr]at hk;rw[hal]at hz;exact F2.grps t k z ht hk hz
 ·rw[hlb]at hB;obtain⟨k1,k2,k3,b,x,k4,k5,k6,k7,k8⟩:=F2.lblk B n hB;obtain⟨_,_,_,b',x',j4,j5,j6,j7,j8⟩:=F.lblk B n hB;rw[k4]at j4;cases j4;cases k5.inj j5;refine⟨k1,k2,k3,b,x,k4,k5,k6,k7,fun i hi=>?_⟩;obtain⟨v,a',m1,m2,m3,m4⟩:=k8 i hi;obtain⟨v',a'',n1,n2,n3,_⟩:=j8 i hi;rw[m1]at n1;cases n1;rcases (hr (B+i)).v with⟨y,q1,q2⟩|⟨B',off,q1,q2⟩
  ·rw[n2]at q1;cases q1;refine⟨v,g a'',m1,q2,hg _ _ n3,fun k z hk hz=>?_⟩;rw[(hr (B+i)).gr]at hk;rw[hal]at hz;exact m4 k z hk hz
  ·rw[n2]at q1;cases q1
 ·rw[(hr t).gr]at hk;exact F2.used.1 t k hk
theorem mw{ja:JA}{vs:List AV}(H:gq c N (unpack ja vs) h a w):gq c N (unpack ja (vs.map (fR 6 h))) (h.map fun _=>[]) a w:=by
 obtain⟨S,β,γ,lam,ω,F⟩:=H;obtain⟨S2,ω2,F2,hf⟩:=F.freeze;have F3:=F.reval F2 (g:=fR 6 h) (fun x v hx=>hf _ _ hx) (oK _ (wD 6 h) ja vs) (e2:=unpack ja (vs.map (fR 6 h))) rfl rfl;exact⟨S2,β,γ,lam,ω2,F3⟩
end
end Go.Av
namespace Go.Av
variable [Dr]
section
variable {P:Program} {cx:Cx} {c:Entry} {e:Env} {h:Hp} {a:Act} {w:World} {ops:Array Oper} {id:Nat}
theorem rt{ρ:Type}(hT:TOK P cx.T)(hC:bR P cx.own cx.call)(hI:IsoCall cx)(hk:∀p,tk (br cx.ann.kinds p .L)=true->p<cx.nt){draw:Bool}{k:Env->M ρ}(H:gq c cx.nt e h a w)(hr:jq cx id ops draw e k h≠.fail){Q:Exit->Act->World->Prop}(hn:∀e' h' a' w',jq cx id ops draw e k h=k e' h'->gq c cx.nt e' h' a' w'->a'.defers=a.defers->Q .normal a' w')(hp:∀pv h' v w' a',jq cx id ops draw e k h= .pan pv h'->ib c pv h' v w'->a'.defers=a.defers->Q (.panic [{ v,recovered:=false }]) a' w'):
  (Code.region id ops draw).wp P Q a w:=tC hT hC hI hk H hr hn hp
end
end Go.Av
namespace Go.Av
variable [Dr]
section
variable {P:Program} {Q:Exit->Act->World->Prop} {b:Code}
def gu(P:Program)(c:Code)(Q:Exit->Act->World->Prop)(a:Act)(w:World):Prop:=
 ∀(b:Frame)(k:List Item)(cs:List Frame),∃e a' w',Q e a' w'/\Arrives P (lone (b.at a (.code c:: .inLoop c:: k)) cs w) b k cs e a' w'
omit [Dr]in
theorem gu.loop{a:Act}{w:World}(h:gu P b Q a w):(Code.loop b).wp P Q a w:=
 fun f k cs=>let ⟨e,a',w',q,r⟩:=h f k cs;⟨e,a',w',q,.of_steps (.one step_loop) r⟩
omit [Dr]in
theorem CN{a:Act}{w:World}(h:b.wp P (Exit.then (gu P b Q) Q) a w):gu P b Q a w:=by
 intro f k cs;obtain⟨e,a₁,w₁,hq,harr⟩:=h f (.inLoop b:: k) cs;cases e with
 |normal=>
  obtain⟨e₂,a₂,w₂,hq₂,harr₂⟩:=hq f k cs;exact⟨e₂,a₂,w₂,hq₂,.of_steps (Steps.trans harr (.one step_inLoop)) harr₂⟩
 |exit id=>exact⟨_,a₁,w₁,hq,.pass (x:=.inLoop b) rfl (fun _ _=>.inl (by simp)) harr⟩
 |goto l=>exact⟨_,a₁,w₁,hq,.pass (x:=.inLoop b) rfl (fun _ _=>.inl (by simp)) harr⟩
 |ret=>exact⟨_,a₁,w₁,hq,.pass (x:=.inLoop b) rfl (fun _ _=>.inl (by simp)) harr⟩
 |panic ch=>exact⟨_,a₁,w₁,hq,.pass (x:=.inLoop b) rfl (fun _ _=>.inl (by simp)) harr⟩
 |outgrown=>exact⟨_,a₁,w₁,hq,.pass (x:=.inLoop b) rfl (fun _ _=>.inl (by simp)) harr⟩
end
section
variable {P:Program} {cx:Cx} {c:Entry} {ρ:Type}
omit [Dr]in
theorem uk{fx:cq ρ}{id:Nat}{code:Code}{e:Env}{kn kr:Env->M ρ}{kx:Nat->Env->M ρ}(hc:∀b,code≠.loop b):
  ev cx fx (.block id code) e kn kx kr=ev cx fx code e kn (fun i e'=>bif Nat.beq i id then kn e' else kx i e') kr:=by
 cases code<;>first|rfl|exact absurd rfl (hc _)
def q5(cx:Cx)(x:Code):Option JA:=match iC x with
 |some t=>j9 cx.ann.joins t
 |none=>none
omit [Dr]in
theorem yD{fx:cq ρ}{x y:Code}{e:Env}{kn kr:Env->M ρ}{kx:Nat->Env->M ρ}:ev cx fx (.seq x y) e kn kx kr=(match q5 cx x with
  |some ja=>jn (fun vs=>ev cx fx y (unpack ja vs) kn kx kr) fun j=>ev cx fx x e (mf ja j) kx kr
  |none=>ev cx fx x e (fun e'=>ev cx fx y e' kn kx kr) kx kr):=by
 unfold q5;simp only[ev];cases iC x with
 |none=>rfl
 |some t=>
  simp only;cases j9 cx.ann.joins t<;>rfl
structure Posts (c:Entry) (N:Nat) (r:R ρ) (a:Act) (kn:Env->M ρ) (kx:Nat->Env->M ρ) (kr:Env->M ρ) (Q:Exit->Act->World->Prop):Prop where
 nrm:∀e' h' a' w',r=kn e' h'->gq c N e' h' a' w'->a'.defers=a.defers->Q .normal a' w'
 ext:∀i e' h' a' w',r=kx i e' h'->gq c N e' h' a' w'->a'.defers=a.defers->Q (.exit i) a' w'
 ret:∀e' h' a' w',r=kr e' h'->gq c N e' h' a' w'->a'.defers=a.defers->Q .ret a' w'
 pan:∀pv h' v w' a',r= .pan pv h'->ib c pv h' v w'->a'.defers=a.defers->Q (.panic [{ v,recovered:=false }]) a' w'
theorem oI{ja:JA}{j:List AV->M ρ}{e:Env}{h:Hp}{N:Nat}{a:Act}{w:World}(H:gq c N e h a w)(hr:mf ja j e h≠.fail):∃vs h',mf ja j e h=j vs h'/\gq c N (unpack ja vs) h' a w:=by
 unfold mf at hr |-;cases hp:pack ja e with
 |none=>rw[hp]at hr;exact absurd rfl hr
 |some vs=>
  have hs:=oL H hp;simp only;cases ja.fz with
  |false=>exact⟨vs,h,rfl,hs⟩
  |true=>exact⟨_,_,rfl,mw hs⟩
theorem ul(hT:TOK P cx.T)(hC:bR P cx.own cx.call)(hI:IsoCall cx)(hk:∀p,tk (br cx.ann.kinds p .L)=true->p<cx.nt)(m:Nat):∀(n:Nat)(code:Code),SizeOf.sizeOf code<n->
  ∀(e:Env)(h:Hp)(a:Act)(w:World)(kn:Env->M ρ)(kx:Nat->Env->M ρ)(kr:Env->M ρ)(Q:Exit->Act->World->Prop),gq c cx.nt e h a w->ev cx (cg m) code e kn kx kr h≠.fail->
  Posts c cx.nt (ev cx (cg m) code e kn kx kr h) a kn kx kr Q->code.wp P Q a w:=by
 intro n
 induction n with
 |zero=>intro code hn;omega
 | succ n ih=>
  intro code hn e h a w kn kx kr Q H hr hp;cases code<;>(try exact absurd rfl hr)
  case skip=>exact wp_skip (hp.nrm e h a w rfl H rfl)
  case exit id=>exact wp_exit (hp.ext id e h a w rfl H rfl)
  case ret=>exact wp_ret (hp.ret e h a w rfl H rfl)
  case region id ops draw=>exact rt hT hC hI hk H hr hp.nrm hp.pan
  case seq x y=>
   have hx:SizeOf.sizeOf x<n:=by simp at hn;omega
   have hy:SizeOf.sizeOf y<n:=by simp at hn;omega
   refine wp_seq ?_;rw[yD]at hr hp;generalize q5 cx x=oj at hr hp;cases oj with
   |none=>
    simp only at hr hp;refine ih x hx e h a w _ kx kr _ H hr ⟨fun e' h' a' w' hok hs hd=>?_,fun i e' h' a' w' hok hs hd=>hp.ext i e' h' a' w' hok hs hd,fun e' h' a' w' hok hs hd=>hp.ret e' h' a' w' hok hs hd,fun pv h' v w' a' hok hs hd=>hp.pan pv h' v w' a' hok hs hd⟩;rw[hok]at hr hp;exact ih y hy e' h' a' w' kn kx kr Q hs hr ⟨fun e2 h2 a2 w2 k1 k2 k3=>hp.nrm e2 h2 a2 w2 k1 k2 (k3.trans hd),fun i e2 h2 a2 w2 k1 k2 k3=>hp.ext i e2 h2 a2 w2 k1 k2 (k3.trans hd),fun e2 h2 a2 w2 k1 k2 k3=>hp.ret e2 h2 a2 w2 k1 k2 (k3.trans hd),fun pv h2 v w2 a2 k1 k2 k3=>hp.pan pv h2 v w2 a2 k1 k2 (k3.trans hd)⟩
   |some ja=>
    simp only[jn]at hr hp;refine ih x hx e h a w _ kx kr _ H hr ⟨fun e' h' a' w' hok hs hd=>?_,fun i e' h' a' w' hok hs hd=>hp.ext i e' h' a' w' hok hs hd,fun e' h' a' w' hok hs hd=>hp.ret e' h' a' w' hok hs hd,fun pv h' v w' a' hok hs hd=>hp.pan pv h' v w' a' hok hs hd⟩;rw[hok]at hr hp;obtain⟨vs,h3,hj,hs3⟩:=oI hs hr;rw[hj]at hr hp;exact ih y hy (unpack ja vs) h3 a' w' kn kx kr Q hs3 hr ⟨fun e2 h2 a2 w2 k1 k2 k3=>hp.nrm e2 h2 a2 w2 k1 k2 (k3.trans hd),fun i e2 h2 a2 w2 k1 k2 k3=>hp.ext i e2 h2 a2 w2 k1 k2 (k3.trans hd),fun e2 h2 a2 w2 k1 k2 k3=>hp.ret e2 h2 a2 w2 k1 k2 (k3.trans hd),fun pv h2 v w2 a2 k1 k2 k3=>hp.pan pv h2 v w2 a2 k1 k2 (k3.trans hd)⟩
  case cond o x y=>
   have hx:SizeOf.sizeOf x<n:=by simp at hn;omega
   have hy:SizeOf.sizeOf y<n:=by simp at hn;omega
   cases o<;>(try exact absurd rfl hr)
   case const v=>
    simp only[ev]at hr hp
    have hav:∀b,cA v= .bool b->a.eval (.const v)= .bool b:=by
     intro b hb;show v= .bool b;cases v with
     |bool c=>simp only[cA,rT,AV.bool.injEq]at hb;rw[hb]
     |tuple vs=>simp only[cA]at hb;cases hvs:vs.isEmpty<;>rw[hvs]at hb<;>cases hb
     |pointer p=>cases p<;>(simp only[cA,rT]at hb;cases hb)
     |map p=>cases p<;>(simp only[cA,rT]at hb;cases hb)
     | slice p n m=>
      have hs:rT (.slice p n m)= .sl []\/rT (.slice p n m)= .any:=by
       cases p with
       |some q=>exact .inr rfl
       | none=>cases n with
        |succ n=>exact .inr rfl
        |zero=>cases m with
         |succ m=>exact .inr rfl
         |zero=>exact .inl rfl
      simp only[cA]at hb;rcases hs with hs|hs<;>rw[hs]at hb<;>cases hb
     |_=>simp only[cA,rT]at hb;cases hb
    cases hq:cA v<;>rw[hq]at hr hp<;>(try exact absurd rfl hr);rename_i b;cases b with
    |true=>exact wp_cond (hav true hq) (ih x hx e h a w kn kx kr Q H hr hp)
    |false=>exact wp_cond (hav false hq) (ih y hy e h a w kn kx kr Q H hr hp)
   rename_i t;simp only[ev]at hr hp;cases ht:decide (t<1000)with
   |false=>rw[ht]at hr;exact absurd rfl hr
   | true=>
    rw[ht]at hr hp;simp only[CV]at hr hp;have htl:t<1000:=by simpa using ht
    have hav:∀b,e.av t= .bool b->a.eval (.tmp t)= .bool b:=by
     intro b hb;obtain⟨S,β,γ,lam,ω,F⟩:=H;have hs:=F.slots t htl;simp only[Env.av,Ent.av]at hb;cases hv:(e.get t).v with
     |val av=>
      rw[hv]at hs hb;simp only at hb;subst hb;simp only[dq,VR]at hs;exact hs
     |loc B off=>rw[hv]at hb;cases hb
    cases hq:e.av t<;>rw[hq]at hr hp<;>(try exact absurd rfl hr);rename_i b;cases b with
    |true=>exact wp_cond (hav true hq) (ih x hx e h a w kn kx kr Q H hr hp)
    |false=>exact wp_cond (hav false hq) (ih y hy e h a w kn kx kr Q H hr hp)
  case block id code=>
   refine wp_block ?_;by_cases hc:∃b,code= .loop b
   ·obtain⟨b,rfl⟩:=hc;have hb:SizeOf.sizeOf b<n:=by simp at hn;omega
    simp only[ev]at hr hp;cases hja:j9 cx.ann.loops id with
    |none=>rw[hja]at hr;exact absurd rfl hr
    | some ja=>
     rw[hja]at hr hp;simp only at hr hp;refine gu.loop ?_;obtain⟨vs,h3,hj,hs3⟩:=oI H hr;rw[hj]at hr hp;have key:∀(k:Nat)(vs:List AV)(h:Hp)(a1:Act)(w:World),gq c cx.nt (unpack ja vs) h a1 w->a1.defers=a.defers->
       cg k (fun self vs=>ev cx (cg m) b (unpack ja vs) (mf ja self) (fun i e'=>bif Nat.beq i id then kn e' else kx i e') kr) vs h≠.fail->
       Posts c cx.nt (cg k (fun self vs=>ev cx (cg m) b (unpack ja vs) (mf ja self) (fun i e'=>bif Nat.beq i id then kn e' else kx i e') kr) vs h) a kn kx kr Q->gu P b (Exit.inBlock id Q) a1 w:=by
      intro k
      induction k with
      |zero=>intro vs h a1 w _ _ hr _;exact absurd rfl hr
      | succ k ihk=>
       intro vs h a1 w hs hd hr hp;simp only[cg]at hr hp;refine CN (ih b hb (unpack ja vs) h a1 w _ _ kr _ hs hr ⟨fun e' h' a' w' hok hs' hd'=>?_,fun i e' h' a' w' hok hs' hd'=>?_,fun e' h' a' w' hok hs' hd'=>hp.ret e' h' a' w' hok hs' (hd'.trans hd),fun pv h' v w' a' hok hs' hd'=>hp.pan pv h' v w' a' hok hs' (hd'.trans hd)⟩)
       ·rw[hok]at hr hp;obtain⟨vs',h4,hj',hs4⟩:=oI hs' hr;rw[hj']at hr hp;exact ihk vs' h4 a' w' hs4 (hd'.trans hd) hr hp
       ·cases hi:Nat.beq i id with
        |true=>
         rw[hi]at hok
         have:=C1 hi
         subst this;show Exit.inBlock i Q (.exit i) a' w';simp only[Exit.inBlock,Dv];exact hp.nrm e' h' a' w' hok hs' (hd'.trans hd)
        |false=>
         rw[hi]at hok;have hne:i≠id:=fun hh=>by subst hh;simp at hi
         show Exit.inBlock id Q (.exit i) a' w';simp only[Exit.inBlock,if_neg hne];exact hp.ext i e' h' a' w' hok hs' (hd'.trans hd)
     exact key m vs h3 a w hs3 rfl hr hp
   ·have hc':∀b,code≠.loop b:=fun b hb=>hc ⟨b,hb⟩;rw[uk hc']at hr hp;have hs:SizeOf.sizeOf code<n:=by simp at hn;omega
    refine ih code hs e h a w kn _ kr _ H hr ⟨fun e' h' a' w' hok hs' hd'=>hp.nrm e' h' a' w' hok hs' hd',fun i e' h' a' w' hok hs' hd'=>?_,fun e' h' a' w' hok hs' hd'=>hp.ret e' h' a' w' hok hs' hd',fun pv h' v w' a' hok hs' hd'=>hp.pan pv h' v w' a' hok hs' hd'⟩;cases hi:Nat.beq i id with
    |true=>
     rw[hi]at hok
     have:=C1 hi
     subst this;show Exit.inBlock i Q (.exit i) a' w';simp only[Exit.inBlock,Dv];exact hp.nrm e' h' a' w' hok hs' hd'
    |false=>
     rw[hi]at hok;have hne:i≠id:=fun hh=>by subst hh;simp at hi
     show Exit.inBlock id Q (.exit i) a' w';simp only[Exit.inBlock,if_neg hne];exact hp.ext i e' h' a' w' hok hs' hd'
end
end Go.Av
namespace Go.Av
variable [Dr]
omit [Dr]in
theorem kO:∀(args:List AV)(i t:Nat),be (oX i args) t=if i<=t/\t<i+args.length then⟨.val (nth args (t-i)),none⟩else Ent.none
 |[],i,t=>by
  simp only[oX,be,Eb,D9];rw[if_neg (by omega)]
 | a:: as0,i,t=>by
  simp only[oX,bn,Dq];by_cases h:i=t
  ·subst h;rw[CW rfl,CW (by omega)];simp[nth]
  ·rw[if_neg h,kO as0 (i+1) t];by_cases h2:i+1<=t/\t<i+1+as0.length
   ·rw[CW h2,CW (by omega)];have:t-i=(t-(i+1))+1:=by omega
    simp[nth,this]
   ·rw[if_neg h2,if_neg (by omega)]
section
variable {P:Program} {cx:Cx}
open Classical in
theorem rD{w:World}{S:ax}{β:List bc}{h:Hp}{args:List AV}{vs:List Value}{n:Nat}(hg:oO S β h w)(hw:Wf S w)(hh:ck S β w h)(hv:aO S β args vs)(hn:args.length<=n)(hn2:n<=1000):
  ∃γ lam ω,FR { w,S,β,E:=bG β h,gok:=hg } n (fun g=>g<(ku args).nx*1000) (ku args) h { tmps:=vs.toArray++Array.replicate (n-vs.toArray.size) undef,defers:=[] } w S β γ lam ω:=by
 obtain⟨hlen,ω0,hr⟩:=hh;have hvl:=hv.length;have hget:∀t,(ku args).get t=if t<args.length then⟨.val (nth args t),none⟩else Ent.none:=fun t=>by
  have:=kO args 0 t
  simp only[Ec,FP,Ds,Nat.sub_zero]at this;exact this
 let ω:Nat->Owner:=fun b=>if bG β h b then ω0 b else .no;refine⟨fun _=>undef,fun _=>none,ω,⟨hw,Gro.refl _,fun b _ _=>⟨rfl,fun _=>rfl⟩,ax.le_refl S,dz.refl β,hlen,fun l cs hl hcs=>?_,⟨?_,hn2⟩,fun t ht=>?_,fun t g z ht hg=>?_,fun B m hB=>?_,fun g z hz=>?_,fun b hb=>?_,fun t g hg=>?_,fun g z hz=>?_⟩⟩
 ·have hown:∀b n,β[l]? = some (b,n)->ω0 b= .heap l->ω b= .heap l:=fun b n h1 h3=>by
   show (if bG β h b then ω0 b else .no)=_;rw[CW ⟨l,cs,_,hl,hcs,h1⟩];exact h3
  rcases hr l cs hl hcs with⟨b,x,h1,h2,h3,h4⟩|⟨b,h1,h3,h4⟩
  ·exact .inl ⟨b,x,h1,h2,hown b _ h1 h3,h4⟩
  ·exact .inr ⟨b,h1,hown b _ h1 h3,h4⟩
 ·simp;omega
 ·rw[hget];split
  ·rename_i hlt;have hx:args[t]? = some (nth args t):=by simp[nth,hlt]
   obtain⟨v,h1,h2⟩:=hv.get hx;have:(vs.toArray++Array.replicate (n-vs.toArray.size) undef).getD t undef=v:=by
    rw[Do,Fv (by simp;omega)];simp[h1]
   rw[this];exact h2
  ·simp[Ent.none,dq,VR]
 ·rw[hget]at hg;split at hg<;>cases hg
 ·cases hB
 ·cases hz
 ·have hb':bG β h b:=by
   by_cases ho:bG β h b
   ·exact ho
   ·exact absurd (show ω b= .no from if_neg ho) hb
  obtain⟨l,cs,m,h1,h2,h3⟩:=hb';obtain⟨b',x,k1,k2,k3,_⟩:=hr.own h1 h2;rw[h3]at k1;cases k1;have hω:ω b= .heap l:=by
   show (if bG β h b then ω0 b else .no)=_;rw[CW ⟨l,cs,_,h1,h2,h3⟩];exact k3
  exact⟨.inl ⟨⟨l,cs,_,h1,h2,h3⟩,fun g=>by rw[hω];simp⟩,k2⟩
 ·rw[hget]at hg;split at hg<;>cases hg
 ·cases hz
theorem start{w:World}{S:ax}{β:List bc}{h:Hp}{args:List AV}{vs:List Value}{n:Nat}(hg:oO S β h w)(hw:Wf S w)(hh:ck S β w h)(hv:aO S β args vs)(hn:args.length<=n)(hn2:n<=1000):
  gq { w,S,β,E:=bG β h,gok:=hg } n (ku args) h { tmps:=vs.toArray++Array.replicate (n-vs.toArray.size) undef,defers:=[] } w:=⟨S,β,rD hg hw hh hv hn hn2⟩
def eH(tmps:Array Value):ResultVar->Sem Value
 |.tmp t=>pure (tmps.getD t undef)
 |.cell p t=>do loadVar t (<- asAddr (tmps.getD p undef))
omit [Dr]in
theorem l6(fn:Func)(tmps:Array Value):results fn tmps=(do let vs <- fn.results.mapM (eH tmps);pure (if h:vs.size=1 then vs[0]else .tuple vs)):=by
 unfold results;congr 1
theorem yX{c:Entry}{N:Nat}{U:Nat->Prop}{e:Env}{h:Hp}{a:Act}{w:World}{S:ax}{β:List bc}{γ:Nat->Value}{lam:Nat->Option Nat}{ω:Nat->Owner}(hT:TOK P cx.T)(F:FR c N U e h a w S β γ lam ω){r:ResultVar}{v:AV}(hr:qe cx.T e r=some v):∃u,(eH a.tmps r).run P w= .ok u w/\VR S β v u:=by
 cases r with
 | tmp t=>
  simp only[qe]at hr;cases ht:decide (t<1000)with
  |false=>rw[ht]at hr;cases hr
  | true=>
   rw[ht]at hr;simp only[CV]at hr;have hs:=F.slots t (by simpa using ht);cases hv:(e.get t).v with
   |loc B off=>rw[hv]at hr;cases hr
   |val av=>
    rw[hv]at hr hs;simp only[CS]at hr;subst hr;exact⟨_,by simp only[eH,Sem.run_pure],hs⟩
 | cell p t=>
  simp only[qe]at hr;cases hp:decide (p<1000)with
  |false=>rw[hp]at hr;cases hr
  | true=>
   rw[hp]at hr;simp only[CV]at hr;have hs:=F.slots p (by simpa using hp);cases hv:(e.get p).v with
   | loc B off=>
    rw[hv]at hr hs;cases ht:cx.T t with
    |none=>rw[ht]at hr;cases hr
    | some ti=>
     rw[ht]at hr;simp only at hr;cases hin:g9 e B off ti.size with
     |false=>rw[hin]at hr;cases hr
     | true=>
      rw[hin]at hr;simp only[CV]at hr;simp only[dq]at hs;obtain⟨b,hlam,hpv⟩:=hs;obtain⟨b',x,m,hm,hle,hlam',hrow,hms,hcells⟩:=F.locals hin;rw[hlam]at hlam';cases hlam';let f:Nat->Value:=fun i=>(x[off+i]?).getD undef;have hf:∀i,i<ti.size->x[off+i]? = some (f i):=fun i hi=>by
       obtain⟨v,_,hv',_⟩:=hcells i hi;show _=some ((x[off+i]?).getD undef);rw[hv'];rfl
      have hload:=kg hT ht hrow f hf;have hexec:∀v,(loadVar t ⟨b,off,none⟩).run P w= .ok v w->(eH a.tmps (.cell p t)).run P w= .ok v w:=fun v hv'=>by
       simp only[eH];rw[hpv];simpa [asAddr]using hv'
      cases hag:ti.agg with
      |true=>
       rw[hag]at hr;simp only[CV,CS]at hr;subst hr;refine⟨_,hexec _ (hload.1 hag),?_⟩;simp only[VR];refine⟨_,rfl,lk ti.size fun i hi=>?_⟩;obtain⟨v,a',g1,g2,g3,_⟩:=hcells i hi;have:f i=v:=by show (x[off+i]?).getD undef=v;rw[g1];rfl
       rw[this];simp only[Env.av,Ent.av,g2];exact g3
      | false=>
       rw[hag]at hr;simp only[CY]at hr;cases hone:decide (ti.size=1)with
       |false=>rw[hone]at hr;cases hr
       |true=>
        rw[hone]at hr;simp only[CV,CS]at hr;subst hr;have hone':ti.size=1:=by simpa using hone
        obtain⟨v,a',g1,g2,g3,g4⟩:=hcells 0 (by omega);simp only[D9]at g1 g2 g4;have hfv:f 0=v:=by show (x[off+0]?).getD undef=v;rw[D9,g1];rfl
        refine⟨v,hexec _ (hfv▸hload.2 hag hone'),?_⟩;simp only[Env.av,Ent.av,g2];exact g3
   | val av=>
    rw[hv]at hr hs;cases ht:cx.T t with
    |none=>rw[ht]at hr;cases hr
    |some ti=>
     rw[ht]at hr;simp only at hr;obtain⟨v,h1,h2⟩:=sb hT F.wf hr hs;refine⟨v,?_,h2⟩;unfold ap at hr;rw[ht]at hr;cases av<;>simp only[reduceCtorEq]at hr;simp only[dq,VR]at hs;obtain⟨b,off,vs,hpv,_,_⟩:=hs;simp only[eH];rw[hpv]at h1 |-;simpa [Instr.loadAt,Instr.sureAddr,asAddr]using h1
theorem ru{c:Entry}{N:Nat}{U:Nat->Prop}{e:Env}{h:Hp}{a:Act}{w:World}{S:ax}{β:List bc}{γ:Nat->Value}{lam:Nat->Option Nat}{ω:Nat->Owner}(hT:TOK P cx.T)(F:FR c N U e h a w S β γ lam ω){fn:Func}{vs:List AV}(hr:dY cx.T e fn.results.toList=some vs):∃u,(results fn a.tmps).run P w= .ok u w/\VR S β (ia vs) u:=by
 have key:∀(l:List ResultVar)(vs:List AV),dY cx.T e l=some vs->∃us:List Value,(l.mapM (eH a.tmps)).run P w= .ok us w/\aO S β vs us:=by
  intro l
  induction l with
  |nil=>intro vs h;simp only[dY,CS]at h;subst h;exact⟨[],by simp,by simp[aO]⟩
  | cons r rs ih=>
   intro vs h;simp only[dY]at h;cases h1:qe cx.T e r with
   |none=>rw[h1]at h;cases h
   | some v=>
    cases h2:dY cx.T e rs with
    |none=>rw[h1,h2]at h;cases h
    |some vs'=>
     rw[h1,h2]at h;simp only[CS]at h;subst h;obtain⟨u,k1,k2⟩:=yX hT F h1;obtain⟨us,m1,m2⟩:=ih vs' h2;refine⟨u:: us,?_,by simp only[aO];exact⟨u,us,rfl,k2,m2⟩⟩;rw[List.mapM_cons,Sem.run_bind,k1,Result.andThen_ok,Sem.run_bind,m1,Result.andThen_ok,Sem.run_pure]
 obtain⟨us,k1,k2⟩:=key _ _ hr;have hlen:=k2.length;have hrun:(fn.results.mapM (eH a.tmps)).run P w= .ok us.toArray w:=by
  rw[Fz];rw[map_eq_pure_bind,Sem.run_bind,k1,Result.andThen_ok,Sem.run_pure]
 refine⟨if h:us.toArray.size=1 then us.toArray[0]else .tuple us.toArray,?_,?_⟩
 ·rw[l6,Sem.run_bind,hrun,Result.andThen_ok,Sem.run_pure]
 ·unfold ia;split
  ·rename_i v;cases us with
   |nil=>simp at hlen
   |cons u us=>
    cases us with
    |nil=>simp only[aO]at k2;obtain⟨x,xs,hx,hy,_⟩:=k2;simp at hx;simp[hx.1,hy]
    |cons u2 us=>simp at hlen
  ·rename_i hne;rw[dif_neg]
   ·simp only[VR];exact⟨us,rfl,k2⟩
   ·intro h1;have:vs.length=1:=by rw[<- hlen];simpa using h1
    match vs,this with
    |[v],_=>exact hne v rfl
end
end Go.Av
namespace Go.Av
variable [Dr]
omit [Dr]in
theorem pO{n:Nat}{ks:List (Nat×Kind)}(h:iP n ks=true):∀p,tk (br ks p .L)=true->p<n:=by
 intro p hp
 induction ks with
 |nil=>simp[br,tk]at hp
 | cons x ks ih=>
  obtain⟨k,y⟩:=x;unfold iP at h;simp only[Ef,CX]at h;simp only[br]at hp;cases hk:Nat.beq k p with
  |true=>
   rw[hk]at hp;simp only[CV]at hp
   have:=h.1
   rw[hp]at this;have hk':=C1 hk;subst hk';simpa using this
  |false=>
   rw[hk]at hp;exact ih h.2 hp
section
variable {P:Program} {cx:Cx}
theorem yS{c:Entry}{N:Nat}{U:Nat->Prop}{e:Env}{h:Hp}{a:Act}{w:World}{S:ax}{β:List bc}{γ:Nat->Value}{lam:Nat->Option Nat}{ω:Nat->Owner}(F:FR c N U e h a w S β γ lam ω){fn:Func}{sz:Nat}(ho:ov fn e sz=true){u:Value}(hu:(results fn a.tmps).run P w= .ok u w):nL c.w.heap.size S β w h sz u:=by
 unfold ov at ho;split at ho
 ·rename_i t hres;cases ht:decide (t<1000)with
  |false=>rw[ht]at ho;cases ho
  | true=>
   rw[ht]at ho;simp only[En]at ho;split at ho
   ·rename_i g hg;split at ho
    ·rename_i z hz;have hgr:=F.grps t g z (by simpa using ht) hg hz;obtain⟨ad,len,cap,h1,h2,h3,h4⟩:=F.free g z hz;have hue:u=a.tmps.getD t undef:=by
      have hr:fn.results= #[.tmp t]:=by apply Ey;simpa using hres
      rw[l6,hr]at hu;simp[eH]at hu;simpa using hu.symm
     rw[hue,hgr];refine⟨ad,len,cap,h1,h2,h3,h4.imp id ?_⟩;rintro⟨sz',b,off,x,k1,k2,k3,k4,k5,k6⟩;have hsz:sz'=sz:=by
      rw[k1]at ho;simp only[oH]at ho;exact C1 ho
     subst hsz;refine⟨b,off,x,k2,k3,k4,(F.mine b (by rw[k5];simp)).1.grp k5,fun hb=>?_,k6⟩;obtain⟨l,_,hl,_⟩:=F.hown hb;rw[k5]at hl;cases hl
    ·cases ho
   ·cases ho
 ·cases ho
omit [Dr]in
theorem vp{fn:Func}{own:Option Nat}{e:Env}{h:Hp}(hr:fP cx fn own e h≠.fail):∃rs,dY cx.T e fn.results.toList=some rs/\(fP cx fn own e h= .ok (ia rs) h\/(own=none/\fP cx fn own e h= .ok (fR 6 h (ia rs)) (h.map fun _=>[])))/\∀sz,own=some sz->ov fn e sz=true:=by
 have key:∀b z:Bool,(bif b then ae (af ((dY cx.T e fn.results.toList).map ia)) (bif z then(bif own.isSome then fun _=>M.fail else r5)else M.pure)else M.fail:M AV) h≠.fail->b=true/\∃rs,dY cx.T e fn.results.toList=some rs/\
   ((bif b then ae (af ((dY cx.T e fn.results.toList).map ia)) (bif z then(bif own.isSome then fun _=>M.fail else r5)else M.pure)else M.fail:M AV) h= .ok (ia rs) h\/
    (own=none/\(bif b then ae (af ((dY cx.T e fn.results.toList).map ia)) (bif z then(bif own.isSome then fun _=>M.fail else r5)else M.pure)else M.fail:M AV) h= .ok (fR 6 h (ia rs)) (h.map fun _=>[]))):=by
  intro b z hr;cases b with
  |false=>exact absurd rfl hr
  | true=>
   refine⟨rfl,?_⟩;cases hres:dY cx.T e fn.results.toList with
   |none=>rw[hres]at hr;exact absurd rfl hr
   | some rs=>
    rw[hres]at hr;cases z with
    |false=>exact⟨rs,rfl,.inl rfl⟩
    |true=>
     cases own with
     |none=>exact⟨rs,rfl,.inr ⟨rfl,rfl⟩⟩
     |some sz=>exact absurd rfl hr
 unfold fP at hr |-;cases own with
 |none=>
  obtain⟨_,rs,h1,h2⟩:=key true _ hr;exact⟨rs,h1,h2,fun sz hsz=>by cases hsz⟩
 |some sz=>
  obtain⟨h0,rs,h1,h2⟩:=key _ _ hr;exact⟨rs,h1,h2,fun sz' hsz=>by cases hsz;exact h0⟩
theorem eT(hT:TOK P cx.T)(hC:bR P cx.own cx.call)(hI:IsoCall cx)(m:Nat){f:FuncId}{fn:Func}(hf:P.funcs[f]? = some fn)(hnt:cx.nt=fn.ntmps){own:Option Nat}{args:List AV}{h:Hp}{S:ax}{β:List bc}{w:World}{vs:List Value}(hr:cd cx (cg m) fn own args h≠.fail)(hg:oO S β h w)(hw:Wf S w)(hh:ck S β w h)(hv:aO S β args vs):Calls P f vs.toArray w (dk own S β h w (cd cx (cg m) fn own args h))/\fn.body.isSome=true:=by
 unfold cd at hr |-;cases hb:fn.body with
 |none=>rw[hb]at hr;exact absurd rfl hr
 | some code=>
  rw[hb]at hr;simp only at hr |-;refine⟨?_,rfl⟩;cases hc:(decide (args.length<=fn.ntmps)&&decide (fn.ntmps<=1000)&&iP cx.nt cx.ann.kinds)with
  |false=>rw[hc]at hr;exact absurd rfl hr
  | true=>
   rw[hc]at hr;simp only[CV]at hr |-;simp only[CX,CU]at hc;obtain⟨⟨hc1,hc2⟩,hc3⟩:=hc;have H:gq { w,S,β,E:=bG β h,gok:=hg } cx.nt (ku args) h { tmps:=vs.toArray++Array.replicate (fn.ntmps-vs.toArray.size) undef,defers:=[] } w:=by
    rw[hnt];exact start hg hw hh hv hc1 hc2
   have hret:∀(e':Env)(h':Hp)(a':Act)(w':World),ev cx (cg m) code (ku args) (fP cx fn own) (fun _ _=>M.fail) (fP cx fn own) h=fP cx fn own e' h'->
     gq { w,S,β,E:=bG β h,gok:=hg } cx.nt e' h' a' w'->∃v,(results fn a'.tmps).run P w'= .ok v w'/\dk own S β h w (ev cx (cg m) code (ku args) (fP cx fn own) (fun _ _=>M.fail) (fP cx fn own) h) (.returned v) w':=by
    intro e' h' a' w' hok hs;rw[hok]at hr |-;obtain⟨rs,hres,hret,hown⟩:=vp hr;obtain⟨S',β',γ,lam,ω,F⟩:=hs;obtain⟨u,hu1,hu2⟩:=ru (P:=P) hT F hres;rcases hret with hret|⟨rfl,hret⟩
    ·rw[hret];exact⟨u,hu1,S',β',u,rfl,hu2,F.out,fun sz hsz=>yS F (hown sz hsz) hu1⟩
    ·rw[hret];obtain⟨S2,ω2,F2,hf⟩:=F.freeze;exact⟨u,hu1,S2,β',u,rfl,hf _ _ hu2,F2.out,fun sz hsz=>by cases hsz⟩
   refine calls_of_wp hf hb (ul hT hC hI (pO hc3) m _ code (E1 _) (ku args) h _ w _ _ _ _ H hr ⟨fun e' h' a' w' hok hs hd=>?_,fun i e' h' a' w' hok hs hd=>?_,fun e' h' a' w' hok hs hd=>?_,fun pv h' v w' a' hok hs hd=>?_⟩)
   ·exact⟨hd,hret e' h' a' w' hok hs⟩
   ·rw[hok]at hr;exact absurd rfl hr
   ·exact⟨hd,hret e' h' a' w' hok hs⟩
   ·refine⟨hd,?_⟩;rw[hok];obtain⟨S',β',hout,hvr⟩:=hs;exact⟨S',β',v,rfl,hvr,hout⟩
end
open Classical in
theorem r8{S:ax}{β:List bc}{w w':World}{h:Hp}(_hw:Wf S w)(hh:ck S β w h){β0:List bc}{h0:Hp}(hE:∀b,¬bG β0 h0 b){S':ax}{β':List bc}{h':Hp}(L:Left (bG β0 h0) S β0 w S' β' w' h'):∃S2,Left (bG β h) S β w S2 β w' h/\(∀a v,VR S' β' a v->VR S2 β (fR 6 h' a) v)/\∀sz v,nL w.heap.size S' β' w' h' sz v->nL w.heap.size S2 β w' h sz v:=by
 obtain⟨hlen,ω,hH⟩:=L.heap;have hnew:∀b,bG β' h' b->w.heap.size<=b:=fun b hb=>(L.owned b hb).resolve_left (hE b);let S2:ax:=fun b o=>if bG β' h' b then w'.cell? ⟨b,o,none⟩else S' b o;have hS2n:∀b,¬bG β' h' b->∀o,S2 b o=S' b o:=fun b hb o=>if_neg hb;have hS2y:∀b,bG β' h' b->∀o,S2 b o=w'.cell? ⟨b,o,none⟩:=fun b hb o=>CW hb;have hle:S'.le S2:=by
  intro b o v hv;by_cases hb:bG β' h' b
  ·obtain⟨l,cs,n,h1,h2,h3⟩:=hb;obtain⟨b',x,k1,k2,k3,k5⟩:=hH.own h1 h2;rw[h3]at k1;cases k1;rw[k5]at hv;cases hv
  ·rw[hS2n b hb];exact hv
 have hrow:∀b,b<w.heap.size->w'.heap[b]? = w.heap[b]? /\∀o,S2 b o=S b o:=by
  intro b hb;have hk:=L.keep b hb (hE b);refine⟨hk.1,fun o=>?_⟩;rw[hS2n b (fun ho=>by have:=hnew b ho;omega)];exact hk.2 o
 have hwf:Wf S2 w':=by
  intro b o v hv;by_cases hb:bG β' h' b
  ·rw[hS2y b hb]at hv;exact hv
  ·rw[hS2n b hb]at hv;exact L.wf b o v hv
 obtain⟨hlen0,ω0,hH0⟩:=hh;have hlt0:∀b,bG β h b->b<w.heap.size:=by
  rintro b ⟨l,cs,n,h1,h2,h3⟩;obtain⟨b',x,k1,k2,_⟩:=hH0.own h1 h2;rw[h3]at k1;cases k1;exact k2
 have hle0:S.le S2:=ax.le_trans L.le hle;refine⟨S2,⟨hle0,dz.refl β,hwf,L.gro,fun b hb _=>hrow b hb,⟨hlen0,ω0,hH0.rows hle0 (dz.refl β) hlen0 fun l cs hl _=>.inl ⟨hl,fun b hb ho=>⟨ho,(hrow b hb).1,fun o h=>by rw[(hrow b hb).2];exact h⟩⟩⟩,fun b hb=>.inl hb⟩,fun a v hv=>nZ hH hle (fun b o x hb hr=>?_) 6 a v hv,fun sz v=>?_⟩
 ·rw[hS2y b hb,hr.cell]
 ·rintro⟨ad,len,cap,k1,k2,k3,k4⟩;refine⟨ad,len,cap,k1,k2,k3,k4.imp id ?_⟩;rintro⟨b,off,x,p1,p2,p3,p4,p5,p6⟩;refine⟨b,off,x,p1,p2,p3,p4,fun hb=>?_,fun o ho=>by rw[hS2n b p5];exact p6 o ho⟩
  have:=hlt0 b hb
  omega
theorem uE{S:ax}{β:List bc}{w w':World}{h:Hp}{own:Option Nat}{m:List AV->M AV}{args:List AV}{en:Ending}(hw:Wf S w)(hh:ck S β w h)(hp:dk own S [] [] w (m (db aC args) []) en w'):dk own S β h w (lA m args h) en w':=by
 have key:=fun{S':ax} {β':List bc} {h':Hp} (L:Left (bG [] []) S [] w S' β' w' h')=>r8 hw hh (by rintro b ⟨l,cs,n,h1,_⟩;simp at h1) L;unfold lA;cases hm:m (db aC args) []with
 |fail=>rw[hm]at hp;exact hp.elim
 |ok r h'=>
  rw[hm]at hp;obtain⟨S',β',v,h1,h2,h3,h4⟩:=hp;obtain⟨S2,k1,k2,k3⟩:=key h3;exact⟨S2,β,v,h1,k2 r v h2,k1,fun sz hsz=>k3 sz v (h4 sz hsz)⟩
 |pan r h'=>
  rw[hm]at hp;obtain⟨S',β',v,h1,h2,h3⟩:=hp;obtain⟨S2,k1,k2,k3⟩:=key h3;exact⟨S2,β,v,h1,k2 r v h2,k1⟩
structure GoodPg (P:Program) (p:Pg):Prop where
 tok:TOK P p.T
 funcs:∀f fn a,p.funcs f=some (fn,a)->P.funcs[f]? = some fn/\(fn.name== "runtime.NumGoroutine")=false
 other:∀f E,p.other f=some E->∀call,bR P p.own call->∀(args:List AV)(h:Hp)(S:ax)(β:List bc)(w:World)(vs:List Value),E call args h≠.fail->oO S β h w->Wf S w->ck S β w h->aO S β args vs->
  Calls P f vs.toArray w (dk (p.own f) S β h w (E call args h))/\(P.funcs[f]?).any (fun fn=>fn.body.isSome&&!(fn.name== "runtime.NumGoroutine"))=true
 nw:∀f,p.nw f=true->∃E,p.other f=some E/\∀call args,rM (E call args)
omit [Dr]in
theorem ck.nil{S:ax}{w:World}:ck S [] w []:=⟨rfl,fun _=>.no,fun l cs hl=>by simp at hl⟩
theorem pf{P:Program}{p:Pg}(G:GoodPg P p)(m:Nat){call:FuncId->List AV->M AV}(hC:bR P p.own call)(hI:∀n a,IsoCall (p.cx call n a)):bR P p.own (fl p call (cg m)):=by
 intro f args h S β w vs hr hg hw hh hv;unfold fl at hr |-;cases ho:p.other f with
 |some E=>rw[ho]at hr;exact G.other f E ho call hC args h S β w vs hr hg hw hh hv
 | none=>
  rw[ho]at hr;simp only at hr |-;cases hf:p.funcs f with
  |none=>rw[hf]at hr;exact absurd rfl hr
  | some x=>
   obtain⟨fn,a⟩:=x;rw[hf]at hr;simp only at hr |-;obtain⟨hf1,hf2⟩:=G.funcs f fn a hf
   have hany:fn.body.isSome=true->(P.funcs[f]?).any (fun fn=>fn.body.isSome&&!(fn.name== "runtime.NumGoroutine"))=true:=by
    intro hb;rw[hf1];simp only[Option.any_some,hb,hf2,Et,Ex]
   cases hi:a.iso with
   |false=>
    rw[hi]at hr;simp only[CY]at hr |-;obtain⟨h1,h2⟩:=eT (cx:=p.cx call fn.ntmps a) G.tok hC (hI _ _) m hf1 rfl hr hg hw hh hv;exact⟨h1,hany h2⟩
   | true=>
    rw[hi]at hr;simp only[CV]at hr |-;have hr':cd (p.cx call fn.ntmps a) (cg m) fn (p.own f) (db aC args) []≠.fail:=by
     intro hf;unfold lA at hr;rw[hf]at hr;exact hr rfl
    obtain⟨h1,h2⟩:=eT (cx:=p.cx call fn.ntmps a) G.tok hC (hI _ _) m hf1 rfl hr' ⟨hg.1,fun b _ hb=>by obtain⟨l,_,_,h1,_⟩:=hb;simp at h1,hg.2.2⟩ hw ck.nil (tY hv);exact⟨h1.mono fun en w' hp=>uE hw hh hp,hany h2⟩
omit [Dr]in
theorem qR(p:Pg)(hN:∀f,p.nw f=true->∃E,p.other f=some E/\∀call args,rM (E call args)):∀n k a,IsoCall (p.cx (cf p n) k a)
 |0,k,a=>⟨fun f args _=>⟨none,fun _=>rfl⟩,fun f args _ h v h' hh=>by cases hh⟩
 | n+1,k,a=>by
  refine⟨?_,fun f args hf=>?_⟩
  case refine_2=>
   obtain⟨E,hE,hn⟩:=hN f hf;have:(p.cx (cf p (n+1)) k a).call f args=E (cf p n) args:=by
    show fl p (cf p n) (cg n) f args=_;unfold fl;rw[hE]
   rw[this];exact hn _ _
  intro f args hi;have hi':p.iso f=true:=hi;unfold Pg.iso at hi';cases ho:p.other f with
  |some E=>rw[ho]at hi';cases hi'
  | none=>
   rw[ho]at hi';simp only at hi';cases hf:p.funcs f with
   |none=>rw[hf]at hi';cases hi'
   |some x=>
    obtain⟨fn,b⟩:=x;rw[hf]at hi';simp only at hi';refine⟨match cd (p.cx (cf p n) fn.ntmps b) (cg n) fn (p.own f) (db aC args) []with|.ok r h'=>some (true,fR 6 h' r)|.pan v h'=>some (false,fR 6 h' v)|.fail=>none,fun h=>?_⟩;show fl p (cf p n) (cg n) f args h=_;unfold fl;rw[ho];simp only;rw[hf];simp only[hi',CV,lA];cases cd (p.cx (cf p n) fn.ntmps b) (cg n) fn (p.own f) (db aC args) []<;>rfl
theorem iG{P:Program}{p:Pg}(G:GoodPg P p):∀n,bR P p.own (cf p n)
 |0=>fun _f _args _h _S _β _w _vs hr=>absurd rfl hr
 |n+1=>pf G n (iG G n) fun k a=>qR p G.nw n k a
end Go.Av
namespace Go.Av
def uD{m:List AV->M AV}{ms:Nat->List AV->M AV}(h:aV m ms)(args:List AV):aY (lA m args) fun n=>lA (ms n) args:=by
 intro x;obtain⟨h1,h2⟩:=h (db aC args) []
 (try dsimp only at h1 h2)
 refine⟨fun hne=>?_,fun n hne=>?_⟩
 ·have hne':m (db aC args) []≠.fail:=fun hf=>hne (by simp only[lA,hf]);obtain⟨N,hN⟩:=h1 hne';refine⟨N,fun n hn=>?_⟩
  (try dsimp only)
  simp only[lA,hN n hn]
 ·(try dsimp only at hne |-)
  have hne':ms n (db aC args) []≠.fail:=fun hf=>hne (by simp only[lA,hf]);simp only[lA,h2 n hne']
def cN(p:Pg):Prop:=∀f E,p.other f=some E->∀(call:FuncId->List AV->M AV)(calls:Nat->FuncId->List AV->M AV),(∀f,aV (call f) fun n=>calls n f)->aV (E call) fun n=>E (calls n)
section
variable {cx:Cx} {call:FuncId->List AV->M AV} {calls:Nat->FuncId->List AV->M AV} {fx:cq AV} {fxs:Nat->cq AV}
theorem qQ(hc:∀f,aV (call f) fun n=>calls n f)(hfx:jj fx fxs)(hfc:oP fx)(hfcs:∀n,oP (fxs n))(fn:Func)(own:Option Nat):
  aV (cd (cx.wc call) fx fn own) fun n=>cd (cx.wc (calls n)) (fxs n) fn own:=by
 intro args;unfold cd;cases fn.body with
 |none=>exact aY.const _
 | some c=>
  have key:∀b:Bool,aY (bif b then ev (cx.wc call) fx c (ku args) (fP (cx.wc call) fn own) (fun _ _=>M.fail) (fP (cx.wc call) fn own)else M.fail) fun n=>(bif b then ev (cx.wc (calls n)) (fxs n) c (ku args) (fP (cx.wc (calls n)) fn own) (fun _ _=>M.fail) (fP (cx.wc (calls n)) fn own)else M.fail):=by
   intro b;cases b with
   |false=>exact aY.const _
   |true=>
    have hr:aV (fP (cx.wc call) fn own) fun n=>fP (cx.wc (calls n)) fn own:=aV.const (fP cx fn own);exact yC _ c (E1 _) call calls fx fxs hc hfx hfc hfcs (ku args) _ (fun n=>fP (cx.wc (calls n)) fn own) _ (fun _ _ _=>M.fail) _ (fun n=>fP (cx.wc (calls n)) fn own) hr (fun i=>aV.const _) hr
  exact key (decide (args.length<=fn.ntmps)&&decide (fn.ntmps<=1000)&&iP cx.nt cx.ann.kinds)
theorem mT{p:Pg}(hO:cN p)(hc:∀f,aV (call f) fun n=>calls n f)(hfx:jj fx fxs)(hfc:oP fx)(hfcs:∀n,oP (fxs n))(f:FuncId):aV (fl p call fx f) fun n=>fl p (calls n) (fxs n) f:=by
 intro args;unfold fl;cases ho:p.other f with
 |some E=>exact hO f E ho call calls hc args
 | none=>
  simp only;cases p.funcs f with
  |none=>exact aY.const _
  |some x=>
   obtain⟨fn,a⟩:=x;simp only;have hb:=qQ (cx:=p.cx call fn.ntmps a) hc hfx hfc hfcs fn (p.own f);cases a.iso with
   |true=>exact uD hb args
   |false=>exact hb args
end
theorem jZ{p:Pg}(hO:cN p):∀n f args,rL (cf p n f args) (cf p (n+1) f args)
 |0,f,args=>fun x hne=>absurd rfl hne
 | n+1,f,args=>by
  have hc:∀f,aV (cf p (n+1) f) fun m=>(if m=0 then cf p n else cf p (n+1)) f:=by
   intro f args x;refine⟨fun _=>⟨1,fun m hm=>?_⟩,fun m hne=>?_⟩
   ·(try dsimp only)
    rw[if_neg (by omega)]
   ·(try dsimp only at hne |-)
    by_cases h0:m=0
    ·rw[CW h0]at hne |-;exact jZ hO n f args x hne
    ·rw[if_neg h0]
  have h:=mT hO hc (po n) (nY (n+1)) (fun m=>by
   by_cases h0:m=0
   ·rw[CW h0];exact nY n
   ·rw[if_neg h0];exact nY (n+1)) f args
  intro x hne
  have:=(h x).2 0
  (try dsimp only at this)
  rw[CW rfl,CW rfl]at this;exact this hne
def nW{p:Pg}(hO:cN p){n m:Nat}(h:n<=m)(f:FuncId)(args:List AV):rL (cf p n f args) (cf p m f args):=by
 induction m with
 | zero => have:n=0:=by omega
           subst this;exact .refl _
 |succ m ih=>
  by_cases hn:n=m+1
  ·subst hn;exact .refl _
  ·exact (ih (by omega)).trans (jZ hO m f args)
open Classical in
noncomputable def ai(p:Pg)(f:FuncId)(args:List AV):M AV:=fun h=>if hx:∃n,cf p n f args h≠.fail then cf p (Classical.choose hx) f args h else .fail
def gV{p:Pg}(hO:cN p)(f:FuncId):aV (ai p f) fun n=>cf p n f:=by
 intro args h;refine mP (fun n m hnm hne=>nW hO hnm f args h hne) ?_;unfold ai;by_cases hx:∃n,cf p n f args h≠.fail
 ·left;simp only[dif_pos hx];exact⟨_,E2 hx,rfl⟩
 ·right;simp only[dif_neg hx];exact⟨fun n=>EO fun h=>hx ⟨n,h⟩,trivial⟩
def kE.uniq{α:Type}{a a':R α}{b:Nat->R α}(h:kE a b)(g:kE a' fun n=>b (n+1)):a=a':=by
 by_cases ha:a= .fail
 ·by_cases ha':a'= .fail
  ·rw[ha,ha']
  ·obtain⟨N,hN⟩:=g.1 ha';have h1:=hN N (C0 _)
   (try dsimp only at h1)
   exact (h.2 (N+1) (by rw[h1];exact ha')).symm.trans h1
 ·obtain⟨N,hN⟩:=h.1 ha;have h1:=hN (N+1) (by omega);have h2:=g.2 N
  (try dsimp only at h2)
  exact h1.symm.trans (h2 (by rw[h1];exact ha))
def kR{p:Pg}(hO:cN p)(f:FuncId)(args:List AV):ai p f args=fl p (ai p) ah f args:=by
 funext h;have h1:=gV hO f args h;have h2:=mT hO (fun f=>gV hO f) pn ut (fun n=>nY n) f args h;exact h1.uniq h2
def o5[Dr]{P:Program}{p:Pg}(G:GoodPg P p)(hO:cN p):bR P p.own (ai p):=by
 intro f args h S β w vs hr hg hw hh hv;obtain⟨N,hN⟩:=(gV hO f args h).1 hr;have h1:=hN N (C0 _)
 (try dsimp only at h1)
 rw[<- h1]at hr |-;exact iG G N f args h S β w vs hr hg hw hh hv
def tU{p:Pg}(hO:cN p){n:Nat}{f:FuncId}{args:List AV}{h:Hp}{r:R AV}(hr:cf p n f args h=r)(hne:r≠.fail):ai p f args h=r:=by
 have:=(gV hO f args h).2 n (by(try dsimp only);rw[hr];exact hne)
 (try dsimp only at this)
 rw[<- this,hr]
end Go.Av
namespace Go.Av
section
variable {ρ:Type}
theorem bU{F:(List AV->M ρ)->List AV->M ρ}(hF:hK F)(vs:List AV):ah F vs=F (ah F) vs:=by
 funext h;exact (ec hF vs h).uniq (hF _ _ (ec hF) vs h)
theorem aE{c:AV}{x y:M ρ}{xs ys:Nat->M ρ}(hx:aY x xs)(hy:aY y ys):aY (aA c x y) fun n=>aA c (xs n) (ys n):=by
 unfold aA;cases c with
 |bool b=>cases b<;>first|exact hx|exact hy
 |_=>exact aY.const _
theorem fI{F:(List AV->M ρ)->List AV->M ρ}{Fs:Nat->(List AV->M ρ)->List AV->M ρ}(h1:cM F Fs)(h2:hK F)(h3:∀n,hK (Fs n)):aV (ah F) fun n=>ah (Fs n):=ut F Fs h1 h2 h3
end
end Go.Av
namespace Go.Av
def aZ(m:M AV):M AV:=fun h=>match m []with
 |.ok r h'=>.ok (fR 6 h' r) h
 |.pan v h'=>.pan (fR 6 h' v) h
 |.fail=>.fail
def aF{p:Pg}(hO:cN p){f:FuncId}{fn:Func}{a:Ann}(h1:p.other f=none)(h2:p.funcs f=some (fn,a))(h3:a.iso=true)(args:List AV):
  ai p f args=aZ (cd (p.cx (ai p) fn.ntmps a) ah fn (p.own f) (db aC args)):=by
 rw[kR hO];unfold fl;rw[h1];simp only;rw[h2];simp only[h3,CV];rfl
def qE{p:Pg}(hO:cN p){f:FuncId}{fn:Func}{a:Ann}(h1:p.other f=none)(h2:p.funcs f=some (fn,a))(h3:a.iso=false)(args:List AV):
  ai p f args=cd (p.cx (ai p) fn.ntmps a) ah fn (p.own f) args:=by
 rw[kR hO];unfold fl;rw[h1];simp only;rw[h2];simp only[h3,CY]
def cW{p:Pg}(hO:cN p){f:FuncId}{E:(FuncId->List AV->M AV)->List AV->M AV}(h1:p.other f=some E)(args:List AV):ai p f args=E (ai p) args:=by
 rw[kR hO];unfold fl;rw[h1]
def fX(T:TT)(t:TypeId):(FuncId->List AV->M AV)->List AV->M AV:=fun _ args=>match args with
 |[.sl es]=>af (dH T t (.sl []) (.sl es))
 |_=>M.fail
def qI(T:TT)(t:TypeId)(call:FuncId->List AV->M AV)(calls:Nat->FuncId->List AV->M AV):aV (fX T t call) fun n=>fX T t (calls n):=aV.const _
def dV{α:Type}{b:Bool}{x:α}{o:Option α}{y:α}(h:(bif b then some x else o)=some y):x=y\/o=some y:=by
 cases b with
 |true=>exact .inl (by simpa using h)
 |false=>exact .inr h
end Go.Av
namespace Go.Av
variable [Dr]
open Go.RowKit
section
variable {S:ax} {β:List bc} {h:Hp} {w w':World}
omit [Dr]in
theorem ck.below(hh:ck S β w h){S':ax}(hb:∀b,b<w.heap.size->w'.heap[b]? = w.heap[b]? /\∀o,S' b o=S b o)(hle:S.le S'):ck S' β w' h:=by
 obtain⟨hlen,ω,hr⟩:=hh;exact⟨hlen,ω,hr.rows hle (dz.refl β) hlen fun l cs hl _=>.inl ⟨hl,fun b hlt ho=>⟨ho,(hb b hlt).1,fun o h=>by rw[(hb b hlt).2];exact h⟩⟩⟩
theorem lD(hw:Wf S w)(hh:ck S β w h)(hb:Below w.heap.size w w')(hd:Dr.on->w.drawn<=w'.drawn){S':ax}(hS:∀b,b<w.heap.size->∀o,S' b o=S b o)(hnew:∀b o v,w.heap.size<=b->S' b o=some v->w'.cell? ⟨b,o,none⟩=some v):
  Left (bG β h) S β w S' β w' h:=by
 have hle:S.le S':=fun b o v hv=>by rw[hS b (hw.lt hv)];exact hv
 refine⟨hle,dz.refl β,fun b o v hv=>?_,⟨hb.size,hb.os,hb.output,hb.tape,hd⟩,fun b hlt _=>⟨hb.block b hlt,hS b hlt⟩,hh.below (fun b hlt=>⟨hb.block b hlt,hS b hlt⟩) hle,fun b hb=>.inl hb⟩;rcases Dg b w.heap.size with hlt|hge
 ·rw[hS b hlt]at hv;rw[cell_of_heap (hb.block b hlt)];exact hw b o v hv
 ·exact hnew b o v hge hv
theorem cX(hw:Wf S w)(hh:ck S β w h)(hb:Below w.heap.size w w')(hd:Dr.on->w.drawn<=w'.drawn){r:AV}{v:Value}(hv:VR S β r v):dk none S β h w (.ok r h) (.returned v) w':=
 ⟨S,β,v,rfl,hv,lD hw hh hb hd (fun _ _ _=>rfl) (fun b o v hge hv=>by have:=hw.lt hv;omega),fun sz hsz=>by cases hsz⟩
theorem sY(hw:Wf S w)(hh:ck S β w h)(hb:Below w.heap.size w w')(hd:Dr.on->w.drawn<=w'.drawn){n:Nat}{x:Array Value}(hr:Row w' n x)(hn:w.heap.size<=n){r:AV}{v:Value}(hv:VR (S.withRowTo n x.size x) β r v):dk none S β h w (.ok r h) (.returned v) w':=
 ⟨_,β,v,rfl,hv,lD hw hh hb hd (fun b hlt o=>by unfold ax.withRowTo;rw[if_neg (by omega)]) (fun b o v hge hv=>by
  by_cases hbn:b=n
  ·subst hbn;unfold ax.withRowTo at hv;rw[CW rfl]at hv;split at hv
   ·rw[hr.cell];exact hv
   ·cases hv
  ·unfold ax.withRowTo at hv;rw[if_neg hbn]at hv
   have:=hw.lt hv;omega),fun sz hsz=>by cases hsz⟩
omit [Dr]in
theorem vF(S:ax)(β:List bc)(n:Nat)(l:List ByteArray)(ls:List (List UInt8))(hl:l.map (·.data.toList)=ls):VR (S.withRowTo n (l.map Value.string).toArray.size (l.map Value.string).toArray) β (.sl (ls.map .str)) (.slice (some ⟨n,0,none⟩) l.length l.length):=by
 subst hl;simp only[VR,Ek];refine⟨some ⟨n,0,none⟩,l.length,rfl,C0 _,(fun h=>by cases h),fun q hq=>?_⟩;simp only[CS]at hq;subst hq;refine⟨fun _=>rfl,1,.of_get fun i e he=>?_⟩;simp only[List.map_map,DN,DJ,Function.comp]at he;obtain⟨s,hs,rfl⟩:=he;refine⟨.string s,by simp only[VR];exact⟨s,rfl,rfl⟩,rfl,fun j v hj=>?_⟩;have hlt:i<l.length:=by
  rcases Dg i l.length with h|h
  ·exact h
  ·rw[C4 h]at hs;cases hs
 rw[show (Value.string s).cells.toList=[Value.string s]from rfl]at hj;cases j with
 |succ j=>simp at hj
 |zero=>
  simp only[Db,CS]at hj;subst hj;unfold ax.withRowTo;simp[hlt];rw[Dc hlt]at hs;simpa using hs
end
end Go.Av
namespace Go.Av
variable [Dr]
def fF:(FuncId->List AV->M AV)->List AV->M AV:=fun _ args=>match args with
 |[.str s,.str t]=>af (bif decide (s.length<4294967281)then some (.bool (Lib.contains s t))else none)
 |_=>M.fail
def tc:List AV->Option Nat
 |[.hp l off]=>bif Nat.beq off 0 then some l else none
 |_=>none
omit [Dr]in
theorem pF{args:List AV}{l:Nat}(h:tc args=some l):args=[.hp l 0]:=by
 unfold tc at h;split at h
 ·rename_i l' off;cases ho:Nat.beq off 0 with
  |false=>rw[ho]at h;cases h
  |true=>
   rw[ho]at h;cases h;rw[C1 ho]
 ·cases h
def z8(ok:List (Nat×Nat))(l:Nat):List AV->Option (List AV)
 |.nilb t:: x:: r=>bif ok.any (fun p=>Nat.beq p.1 t&&Nat.ble p.2 (r.length+2))then some (.hp l 0:: x:: r)else none
 |.hp l' k:: r=>bif Nat.beq l' l&&Nat.beq k 0 then some (.hp l' k:: r)else none
 |_=>none
omit [Dr]in
theorem wa{ok:List (Nat×Nat)}{l:Nat}{cs cs':List AV}(h:z8 ok l cs=some cs'):(∃t x r,cs= .nilb t:: x:: r/\cs'= .hp l 0:: x:: r/\∃n,(t,n)∈ok/\n<=r.length+2)\/(∃r,cs= .hp l 0:: r/\cs'=cs):=by
 unfold z8 at h;split at h
 ·rename_i t x r;cases ho:ok.any (fun p=>Nat.beq p.1 t&&Nat.ble p.2 (r.length+2))with
  |false=>rw[ho]at h;cases h
  |true=>
   rw[ho]at h;cases h;obtain⟨p,hp,hq⟩:=List.any_eq_true.1 ho;rw[CX]at hq;refine .inl ⟨t,x,r,rfl,rfl,p.2,?_,EJ hq.2⟩;rw[<- C1 hq.1];exact hp
 ·rename_i l' k r;cases ho:(Nat.beq l' l&&Nat.beq k 0)with
  |false=>rw[ho]at h;cases h
  |true=>
   rw[ho]at h;cases h;rw[CX]at ho;have h1:=C1 ho.1;have h2:=C1 ho.2;subst h1 h2;exact .inr ⟨r,rfl,rfl⟩
 ·cases h
def eU(ok:List (Nat×Nat)):(FuncId->List AV->M AV)->List AV->M AV:=fun _ args h=>match tc args with
 | some l=>(match h[l]? with
  |some cs=>(match z8 ok l cs with
   |some cs'=>.ok (.tup []) (h.set l cs')
   |none=>.fail)
  |none=>.fail)
 |none=>.fail
def mN(e:Nat):AV->Option UInt8
 |.byt t n=>bif Nat.beq t e&&decide (0<=n)&&decide (n<256)then some (UInt8.ofNat n.toNat)else none
 |_=>none
def fw(e:Nat):List AV->Option (List UInt8)
 |[]=>some []
 |x:: r=>match mN e x,fw e r with
  |some b,some l=>some (b:: l)
  |_,_=>none
def stA:List AV->Option (Option (Nat×Nat))
 |.hp _ _:: .hs lb off len sz ag:: _=>bif Nat.beq off 0&&Nat.beq sz 1&&!ag&&Nat.blt 0 len&&Nat.ble len 140737488355328 then some (some (lb,len))else none
 |_:: .hn:: _=>some none
 |_=>none
omit [Dr]in
theorem vC{cs:List AV}{lb len:Nat}(h:stA cs=some (some (lb,len))):∃x r,cs=x:: .hs lb 0 len 1 false:: r/\0<len/\len<=140737488355328:=by
 unfold stA at h;split at h
 ·rename_i l k lb' off len' sz ag r;cases ho:(Nat.beq off 0&&Nat.beq sz 1&&!ag&&Nat.blt 0 len'&&Nat.ble len' 140737488355328)with
  |false=>rw[ho]at h;cases h
  |true=>
   rw[ho]at h;cases h;simp only[CX,DU]at ho;obtain⟨⟨⟨⟨h1,h2⟩,h3⟩,h4⟩,h5⟩:=ho;have h1:=C1 h1;have h2:=C1 h2;subst h1 h2 h3;exact⟨_,r,rfl,EJ h4,EJ h5⟩
 ·cases h
 ·cases h
omit [Dr]in
theorem vB{cs:List AV}(h:stA cs=some none):∃x r,cs=x:: .hn:: r:=by
 unfold stA at h;split at h
 ·rename_i l k lb' off len' sz ag r;cases ho:(Nat.beq off 0&&Nat.beq sz 1&&!ag&&Nat.blt 0 len'&&Nat.ble len' 140737488355328)with
  |false=>rw[ho]at h;cases h
  |true=>rw[ho]at h;cases h
 ·exact⟨_,_,rfl⟩
 ·cases h
def cV(e:Nat):(FuncId->List AV->M AV)->List AV->M AV:=fun _ args h=>match tc args with
 | some l=>(match h[l]? with
  | some cs=>(match stA cs with
   |some none=>.ok (.str []) h
   | some (some (lb,len))=>(match h[lb]? with
    |some bs=>(match (bif Nat.ble len bs.length then fw e (bs.take len)else none)with
     |some s=>.ok (.str s) (h.set lb [])
     |none=>.fail)
    |none=>.fail)
   |none=>.fail)
  |none=>.fail)
 |none=>.fail
def uI{α:Type}(p:α->Bool):List α->Option α
 |[]=>none
 |z:: r=>match uI p r with
  |some y=>some y
  |none=>bif p z then some z else none
end Go.Av
namespace Go.Av
variable [Dr]
open Go.RowKit
def fG:Nat->Nat->List UInt8
 |0,_=>[]
 |f+1,u=>bif decide (u<10)then[UInt8.ofNat (48+u)]else fG f (u / 10)++[UInt8.ofNat (48+u % 10)]
omit [Dr]in
theorem nS:∀(f u:Nat),u<10 ^ (f+1)->fG (f+1) u=Lib.decDigits u
 | f,u,h=>by
  rw[Lib.decDigits];rw[show fG (f+1) u=bif decide (u<10)then[UInt8.ofNat (48+u)]else fG f (u / 10)++[UInt8.ofNat (48+u % 10)]from rfl];by_cases h10:u<10
  ·rw[dif_pos h10,Dm h10];rfl
  ·rw[dif_neg h10,DF h10];cases f with
   |zero=>omega
   |succ f=>rw[nS f (u / 10) (by rw[Nat.pow_succ]at h;omega)];rfl
def bA(n:Int):List UInt8:=bif decide (n<0)then 45:: fG 20 n.natAbs else fG 20 n.toNat
omit [Dr]in
theorem uF{n:Int}(h0:-9223372036854775808<=n)(h1:n<=9223372036854775807):bA n=Lib.itoa n:=by
 unfold bA Lib.itoa;by_cases h:n<0
 ·rw[Dm h,CW h];simp only[CV];rw[nS 19 n.natAbs (by omega)]
 ·rw[DF h,if_neg h];simp only[CY];rw[nS 19 n.toNat (by omega)]
def m7:(FuncId->List AV->M AV)->List AV->M AV:=fun _ args=>match args with
 |[.int .i64 n]=>af (bif decide (-9223372036854775808<=n)&&decide (n<=9223372036854775807)then some (.str (bA n))else none)
 |_=>M.fail
def kP(t:TypeId)(s:List UInt8):AV:=match Lib.atoiAll s with
 |.ok v=>.tup [.int .i64 v,.nili]
 |.range=>.tup [.int .i64 (Lib.atoiSat s),.iface t .any]
 |_=>.tup [.int .i64 0,.iface t .any]
def mI(t:TypeId):(FuncId->List AV->M AV)->List AV->M AV:=fun _ args=>match args with
 |[.str s]=>af (bif decide (s.length<=281474976710656)then some (kP t s)else none)
 |_=>M.fail
end Go.Av
namespace Go.Av
def eI:(FuncId->List AV->M AV)->List AV->M AV:=fun _ args=>match args with
 |[.str s,.str [c],.int .i64 sv,.int .i64 n]=>af (bif decide (s.length<4294967281)&&(sv== 0||sv== 1)&&n== -1 then some (.sl ((Lib.splitK [c] sv.toNat (s.count c) s).map .str))else none)
 |_=>M.fail
end Go.Av
namespace Go.Av.Ap
abbrev aS:=List UInt8
inductive Val where
 |mk (kind n:Int) (names:List aS) (values:List Val)
instance:Inhabited Val:=⟨.mk 0 0 [] []⟩
inductive Exp where
 |mk (op n:Int) (s m:aS) (names:List aS) (args:List Exp)
instance:Inhabited Exp:=⟨.mk 0 0 [] [] [] []⟩
inductive Ty where
 |mk (kind:Int) (fields:List (aS×Ty))
instance:Inhabited Ty:=⟨.mk 0 []⟩
abbrev ky:=aS×Ty
structure Fun where
 name:aS
 pub:Bool
 params:List ky
 result:Ty
 effects:Int
 body:Exp
 deriving Inhabited
structure Mod where
 name:aS
 uses:List aS
 vars:List ky
 init:List Exp
 funcs:List Fun
 moves:Bool
 old:List ky
 forward:List Exp
 back:List Exp
 deriving Inhabited
def Val.kind:Val->Int|.mk k _ _ _=>k
def Val.n:Val->Int|.mk _ n _ _=>n
def Val.names:Val->List aS|.mk _ _ ns _=>ns
def Val.values:Val->List Val|.mk _ _ _ vs=>vs
def Exp.op:Exp->Int|.mk o _ _ _ _ _=>o
def Exp.n:Exp->Int|.mk _ n _ _ _ _=>n
def Exp.s:Exp->aS|.mk _ _ s _ _ _=>s
def Exp.m:Exp->aS|.mk _ _ _ m _ _=>m
def Exp.names:Exp->List aS|.mk _ _ _ _ ns _=>ns
def Exp.args:Exp->List Exp|.mk _ _ _ _ _ es=>es
def Ty.kind:Ty->Int|.mk k _=>k
def Ty.fields:Ty->List ky|.mk _ fs=>fs
@[simp] theorem CR(a b c d):(Val.mk a b c d).kind=a:=rfl
@[simp] theorem Val.n_mk(a b c d):(Val.mk a b c d).n=b:=rfl
@[simp] theorem CQ(a b c d):(Val.mk a b c d).names=c:=rfl
@[simp] theorem CP(a b c d):(Val.mk a b c d).values=d:=rfl
def strs(l:List aS):AV:=.sl (l.map .str)
mutual
def Val.av:Val->AV
 |.mk k n ns vs=>.agg [.int .i64 k,.int .i64 n,strs ns,.sl (gh vs)]
def gh:List Val->List AV
 |[]=>[]
 |v:: vs=>v.av:: gh vs
end
mutual
def Exp.cells:Exp->List AV
 |.mk o n s m ns es=>[.int .i64 o,.int .i64 n,.str s,.str m,strs ns,.sl (ew es)]
def ew:List Exp->List AV
 |[]=>[]
 |e:: es=>.agg e.cells:: ew es
end
def Exp.av(e:Exp):AV:=.agg e.cells
mutual
def Ty.cells:Ty->List AV
 |.mk k fs=>[.int .i64 k,.sl (ey fs)]
def ey:List (aS×Ty)->List AV
 |[]=>[]
 |f:: fs=>ee f:: ey fs
def ee:aS×Ty->AV
 |(n,t)=>.agg (.str n:: t.cells)
end
def Ty.av(t:Ty):AV:=.agg t.cells
def Fun.av(f:Fun):AV:=.agg ([.str f.name,.bool f.pub,.sl (ey f.params)]++f.result.cells++[.int .i64 f.effects]++f.body.cells)
def pz(l:List Fun):AV:=.sl (l.map Fun.av)
def Mod.av(m:Mod):AV:=.agg [.str m.name,strs m.uses,.sl (ey m.vars),.sl (ew m.init),pz m.funcs,.bool m.moves,.sl (ey m.old),.sl (ew m.forward),.sl (ew m.back)]
def vals(l:List Val):AV:=.sl (gh l)
def eb(l:List Exp):AV:=.sl (ew l)
def dw(l:List ky):AV:=.sl (ey l)
def yN(l:List Mod):AV:=.sl (l.map Mod.av)
def ints(l:List Int):AV:=.sl (l.map (.int .i64))
structure Vars where
 module:aS
 values:List Val
 deriving Inhabited
structure Deed where
 effect:Int
 arg:Int
 answer:Int
 deriving DecidableEq,Inhabited
structure Call where
 module:aS
 func:aS
 args:List Val
 deriving Inhabited
def Vars.av(v:Vars):AV:=.agg [.str v.module,vals v.values]
def Deed.av(d:Deed):AV:=.agg [.int .i64 d.effect,.int .i64 d.arg,.int .i64 d.answer]
def Call.av(c:Call):AV:=.agg [.str c.module,.str c.func,vals c.args]
def mh(l:List Vars):AV:=.sl (l.map Vars.av)
def deeds(l:List Deed):AV:=.sl (l.map Deed.av)
def calls(l:List Call):AV:=.sl (l.map Call.av)
structure Out where
 err:Int
 value:Val
 deeds:List Deed
 calls:List Call
 state:List Vars
def Out.av(o:Out):AV:=.agg [.int .i64 o.err,.int .i64 o.value.kind,.int .i64 o.value.n,strs o.value.names,vals o.value.values,Ap.deeds o.deeds,Ap.calls o.calls,mh o.state]
theorem mg:(l:List Val)->gh l=l.map Val.av
 |[]=>rfl
 |v:: l=>by simp[gh,mg l]
theorem fZ:(l:List Exp)->ew l=l.map Exp.av
 |[]=>rfl
 |v:: l=>by simp[ew,fZ l,Exp.av]
theorem im:(l:List ky)->ey l=l.map ee
 |[]=>rfl
 |v:: l=>by simp[ey,im l]
def Val.av_eq(v:Val):v.av= .agg [.int .i64 v.kind,.int .i64 v.n,strs v.names,vals v.values]:=by cases v;rfl
def Exp.cells_eq(e:Exp):e.cells=[.int .i64 e.op,.int .i64 e.n,.str e.s,.str e.m,strs e.names,eb e.args]:=by cases e;rfl
def Ty.cells_eq(t:Ty):t.cells=[.int .i64 t.kind,dw t.fields]:=by cases t;simp[Ty.cells,dw,Ty.kind,Ty.fields]
def li(f:ky):ee f= .agg [.str f.1,.int .i64 f.2.kind,dw f.2.fields]:=by obtain⟨n,t⟩:=f;simp[ee,Ty.cells_eq]
@[simp] theorem kL(v:Val):ab v.av=[.int .i64 v.kind,.int .i64 v.n,strs v.names,vals v.values]:=by rw[v.av_eq];rfl
@[simp] theorem dP(e:Exp):ab e.av=[.int .i64 e.op,.int .i64 e.n,.str e.s,.str e.m,strs e.names,eb e.args]:=by rw[Exp.av,e.cells_eq];rfl
@[simp] theorem kG(f:ky):ab (ee f)=[.str f.1,.int .i64 f.2.kind,dw f.2.fields]:=by rw[li];rfl
@[simp] theorem mD(t:Ty):ab t.av=[.int .i64 t.kind,dw t.fields]:=by rw[Ty.av,t.cells_eq];rfl
@[simp] theorem kH(f:Fun):ab f.av=[.str f.name,.bool f.pub,dw f.params,.int .i64 f.result.kind,dw f.result.fields,.int .i64 f.effects,.int .i64 f.body.op,.int .i64 f.body.n,.str f.body.s,.str f.body.m,strs f.body.names,eb f.body.args]:=by
 simp[Fun.av,ab,Ty.cells_eq,Exp.cells_eq,dw]
@[simp] theorem kI(m:Mod):ab m.av=[.str m.name,strs m.uses,dw m.vars,eb m.init,pz m.funcs,.bool m.moves,dw m.old,eb m.forward,eb m.back]:=rfl
@[simp] theorem pw(v:Val):AV.agg [.int .i64 v.kind,.int .i64 v.n,strs v.names,vals v.values]=v.av:=(v.av_eq).symm
@[simp] theorem eX(e:Exp):AV.agg [.int .i64 e.op,.int .i64 e.n,.str e.s,.str e.m,strs e.names,eb e.args]=e.av:=by rw[Exp.av,e.cells_eq]
@[simp] theorem r4(t:Ty):AV.agg [.int .i64 t.kind,dw t.fields]=t.av:=by rw[Ty.av,t.cells_eq]
@[simp] theorem pp(f:ky):AV.agg [.str f.1,.int .i64 f.2.kind,dw f.2.fields]=ee f:=(li f).symm
@[simp] theorem pq(f:Fun):AV.agg [.str f.name,.bool f.pub,dw f.params,.int .i64 f.result.kind,dw f.result.fields,.int .i64 f.effects,.int .i64 f.body.op,.int .i64 f.body.n,.str f.body.s,.str f.body.m,strs f.body.names,eb f.body.args]=f.av:=by
 simp[Fun.av,Ty.cells_eq,Exp.cells_eq,dw]
@[simp] theorem pr(m:Mod):AV.agg [.str m.name,strs m.uses,dw m.vars,eb m.init,pz m.funcs,.bool m.moves,dw m.old,eb m.forward,eb m.back]=m.av:=rfl
theorem bT{α:Type}(g:Nat->Nat->Nat->Nat->Bool->AV)(f:α->AV)(h:∀x,cl g (f x)=f x):(l:List α)->db g (l.map f)=l.map f
 |[]=>rfl
 |x:: l=>by simp[db,h x,bT g f h l]
@[simp] theorem Bd(g:Nat->Nat->Nat->Nat->Bool->AV)(l:List aS):cl g (strs l)=strs l:=by
 simp[strs,cl,bT g AV.str (fun _=>rfl) l]
@[simp] theorem Bb(g:Nat->Nat->Nat->Nat->Bool->AV)(l:List Int):cl g (ints l)=ints l:=by
 simp[ints,cl,bT g (AV.int .i64) (fun _=>rfl) l]
mutual
theorem Val.cl_av(g:Nat->Nat->Nat->Nat->Bool->AV):(v:Val)->cl g v.av=v.av
 |.mk k n ns vs=>by simp[Val.av,cl,db,oM g vs]
theorem oM(g:Nat->Nat->Nat->Nat->Bool->AV):(l:List Val)->db g (gh l)=gh l
 |[]=>rfl
 |v:: l=>by simp[gh,db,Val.cl_av g v,oM g l]
end
mutual
theorem Exp.cl_cells(g:Nat->Nat->Nat->Nat->Bool->AV):(e:Exp)->db g e.cells=e.cells
 |.mk o n s m ns es=>by simp[Exp.cells,cl,db,kz g es]
theorem kz(g:Nat->Nat->Nat->Nat->Bool->AV):(l:List Exp)->db g (ew l)=ew l
 |[]=>rfl
 |e:: l=>by simp[ew,db,cl,Exp.cl_cells g e,kz g l]
end
mutual
theorem Ty.cl_cells(g:Nat->Nat->Nat->Nat->Bool->AV):(t:Ty)->db g t.cells=t.cells
 |.mk k fs=>by simp[Ty.cells,cl,db,iL g fs]
theorem iL(g:Nat->Nat->Nat->Nat->Bool->AV):(l:List (aS×Ty))->db g (ey l)=ey l
 |[]=>rfl
 |f:: l=>by simp[ey,db,uu g f,iL g l]
theorem uu(g:Nat->Nat->Nat->Nat->Bool->AV):(f:aS×Ty)->cl g (ee f)=ee f
 |(n,t)=>by simp[ee,cl,db,Ty.cl_cells g t]
end
@[simp] theorem yy(g:Nat->Nat->Nat->Nat->Bool->AV)(v:Val):cl g v.av=v.av:=v.cl_av g
@[simp] theorem wx(g:Nat->Nat->Nat->Nat->Bool->AV)(l:List Val):cl g (vals l)=vals l:=by simp[vals,cl,oM]
@[simp] theorem yt(g:Nat->Nat->Nat->Nat->Bool->AV)(e:Exp):cl g e.av=e.av:=by simp[Exp.av,cl,Exp.cl_cells]
@[simp] theorem Ba(g:Nat->Nat->Nat->Nat->Bool->AV)(l:List Exp):cl g (eb l)=eb l:=by simp[eb,cl,kz]
@[simp] theorem xN(g:Nat->Nat->Nat->Nat->Bool->AV)(t:Ty):cl g t.av=t.av:=by simp[Ty.av,cl,Ty.cl_cells]
@[simp] theorem BM(g:Nat->Nat->Nat->Nat->Bool->AV)(f:ky):cl g (ee f)=ee f:=uu g f
@[simp] theorem wq(g:Nat->Nat->Nat->Nat->Bool->AV)(l:List ky):cl g (dw l)=dw l:=by simp[dw,cl,iL]
theorem kU(g:Nat->Nat->Nat->Nat->Bool->AV):(a b:List AV)->db g (a++b)=db g a++db g b
 |[],b=>rfl
 |x:: a,b=>by simp[db,kU g a b]
@[simp] theorem tW(g:Nat->Nat->Nat->Nat->Bool->AV)(f:Fun):cl g f.av=f.av:=by
 simp[Fun.av,cl,db,kU,iL,Ty.cl_cells,Exp.cl_cells]
@[simp] theorem wu(g:Nat->Nat->Nat->Nat->Bool->AV)(l:List Fun):cl g (pz l)=pz l:=by simp[pz,cl,bT g Fun.av (tW g)]
@[simp] theorem yu(g:Nat->Nat->Nat->Nat->Bool->AV)(m:Mod):cl g m.av=m.av:=by
 simp[Mod.av,cl,db,iL,kz,wu]
@[simp] theorem Bc(g:Nat->Nat->Nat->Nat->Bool->AV)(l:List Mod):cl g (yN l)=yN l:=by simp[yN,cl,bT g Mod.av (yu g)]
@[simp] theorem BN(g:Nat->Nat->Nat->Nat->Bool->AV)(k:IntKind)(n:Int):cl g (.int k n)= .int k n:=rfl
@[simp] theorem A9(g:Nat->Nat->Nat->Nat->Bool->AV)(b:Bool):cl g (.bool b)= .bool b:=rfl
@[simp] theorem yw(g:Nat->Nat->Nat->Nat->Bool->AV)(s:aS):cl g (.str s)= .str s:=rfl
@[simp] theorem wy(g:Nat->Nat->Nat->Nat->Bool->AV)(v:Vars):cl g v.av=v.av:=by simp[Vars.av,cl,db]
@[simp] theorem wo(g:Nat->Nat->Nat->Nat->Bool->AV)(v:Deed):cl g v.av=v.av:=by simp[Deed.av,cl,db]
@[simp] theorem wn(g:Nat->Nat->Nat->Nat->Bool->AV)(v:Call):cl g v.av=v.av:=by simp[Call.av,cl,db]
@[simp] theorem Ae(g:Nat->Nat->Nat->Nat->Bool->AV)(l:List Vars):cl g (mh l)=mh l:=by simp[mh,cl,bT g Vars.av (wy g)]
@[simp] theorem Ab(g:Nat->Nat->Nat->Nat->Bool->AV)(l:List Deed):cl g (deeds l)=deeds l:=by simp[deeds,cl,bT g Deed.av (wo g)]
@[simp] theorem Aa(g:Nat->Nat->Nat->Nat->Bool->AV)(l:List Call):cl g (calls l)=calls l:=by simp[calls,cl,bT g Call.av (wn g)]
@[simp] theorem BO(g:Nat->Nat->Nat->Nat->Bool->AV)(o:Out):cl g o.av=o.av:=by simp[Out.av,cl,db]
@[simp] theorem jU(v:Vars):ab v.av=[.str v.module,vals v.values]:=rfl
@[simp] theorem jT(v:Deed):ab v.av=[.int .i64 v.effect,.int .i64 v.arg,.int .i64 v.answer]:=rfl
@[simp] theorem jS(v:Call):ab v.av=[.str v.module,.str v.func,vals v.args]:=rfl
@[simp] theorem kJ(o:Out):ab o.av=[.int .i64 o.err,.int .i64 o.value.kind,.int .i64 o.value.n,strs o.value.names,vals o.value.values,deeds o.deeds,calls o.calls,mh o.state]:=rfl
@[simp] theorem m0(v:Vars):AV.agg [.str v.module,vals v.values]=v.av:=rfl
@[simp] theorem mZ(v:Deed):AV.agg [.int .i64 v.effect,.int .i64 v.arg,.int .i64 v.answer]=v.av:=rfl
@[simp] theorem mY(v:Call):AV.agg [.str v.module,.str v.func,vals v.args]=v.av:=rfl
@[simp] theorem pt(o:Out):AV.agg [.int .i64 o.err,.int .i64 o.value.kind,.int .i64 o.value.n,strs o.value.names,vals o.value.values,deeds o.deeds,calls o.calls,mh o.state]=o.av:=rfl
@[simp] theorem zt(v:Vars):bW v.av=some 2:=rfl
@[simp] theorem zq(v:Deed):bW v.av=some 3:=rfl
@[simp] theorem zp(v:Call):bW v.av=some 3:=rfl
@[simp] theorem AW(v:Out):bW v.av=some 8:=rfl
@[simp] theorem nk(v:Vars):bI 2 v.av=true:=by simp[bI,aQ,vals]
@[simp] theorem nj(v:Deed):bI 3 v.av=true:=by simp[bI,aQ]
@[simp] theorem ni(v:Call):bI 3 v.av=true:=by simp[bI,aQ,vals]
@[simp] theorem p8(v:Out):bI 8 v.av=true:=by simp[bI,aQ,vals,strs,deeds,calls,mh]
def Clean(a:AV):Prop:=∀g,cl g a=a
def Clean.frz{a:AV}(h:Clean a)(d:Nat)(hp:Hp):fR d hp a=a:=by
 cases d with
 |zero=>exact h _
 |succ d=>exact h _
def bE{a:AV}(h:Clean a):aZ (M.pure a)=M.pure a:=by
 funext hp;simp only[aZ,M.pure,h.frz]
@[simp] theorem cy(b:Bool):aZ (M.pure (.bool b))=M.pure (.bool b):=bE fun _=>rfl
@[simp] theorem pL(k:IntKind)(n:Int):aZ (M.pure (.int k n))=M.pure (.int k n):=bE fun _=>rfl
@[simp] theorem gE(s:aS):aZ (M.pure (.str s))=M.pure (.str s):=bE fun _=>rfl
@[simp] theorem Ao(v:Val):aZ (M.pure v.av)=M.pure v.av:=bE fun g=>yy g v
@[simp] theorem zc(v:List Val):aZ (M.pure (vals v))=M.pure (vals v):=bE fun g=>wx g v
@[simp] theorem Al(v:Exp):aZ (M.pure v.av)=M.pure v.av:=bE fun g=>yt g v
@[simp] theorem Am(v:Fun):aZ (M.pure v.av)=M.pure v.av:=bE fun g=>tW g v
@[simp] theorem AY(v:Val):bW v.av=some 4:=by rw[v.av_eq];rfl
@[simp] theorem AP(e:Exp):bW e.av=some 6:=by rw[Exp.av,e.cells_eq];rfl
@[simp] theorem AQ(f:ky):bW (ee f)=some 3:=by rw[li];rfl
@[simp] theorem Bh(t:Ty):bW t.av=some 2:=by rw[Ty.av,t.cells_eq];rfl
@[simp] theorem AR(f:Fun):bW f.av=some 12:=by simp[Fun.av,bW,Ty.cells_eq,Exp.cells_eq]
@[simp] theorem AU(m:Mod):bW m.av=some 9:=rfl
@[simp] theorem lW(v:Val):bI 4 v.av=true:=by simp[bI,aQ,strs,vals]
@[simp] theorem gJ(e:Exp):bI 6 e.av=true:=by simp[bI,aQ,strs,eb]
@[simp] theorem lS(f:ky):bI 3 (ee f)=true:=by simp[bI,aQ,dw]
@[simp] theorem lT(f:Fun):bI 12 f.av=true:=by simp[bI,aQ,dw,strs,eb]
@[simp] theorem lU(m:Mod):bI 9 m.av=true:=by simp[bI,aQ,dw,strs,eb,pz]
@[simp] theorem uY(s:aS):bI 1 (.str s)=true:=rfl
@[simp] theorem uW(k:IntKind)(n:Int):bI 1 (.int k n)=true:=rfl
def cz{α:Type}{sz:Nat}{f:α->AV}(h:∀x,bI sz (f x)=true)(l:List α):bQ sz (l.map f)=true:=by simp[bQ,h]
@[simp] theorem tz(l:List aS):bQ 1 (l.map AV.str)=true:=cz uY l
@[simp] theorem nn(l:List Int):bQ 1 (l.map (AV.int .i64))=true:=cz (uW .i64) l
@[simp] theorem zo(l:List Val):bQ 4 (gh l)=true:=by rw[mg];exact cz lW l
@[simp] theorem zi(l:List Exp):bQ 6 (ew l)=true:=by rw[fZ];exact cz gJ l
@[simp] theorem zj(l:List ky):bQ 3 (ey l)=true:=by rw[im];exact cz lS l
@[simp] theorem zk(l:List Fun):bQ 12 (l.map Fun.av)=true:=cz lT l
@[simp] theorem zl(l:List Mod):bQ 9 (l.map Mod.av)=true:=cz lU l
def lv{T:TT}{t e:Nat}{ti ei:TI}(ht:T t=some ti)(hk:ti.kind= .slice e)(he:T e=some ei){α:Type}{f:α->AV}(hs:∀x,bW (f x)=some ei.size){l:List α}{i:Nat}{x:α}(h:l[i]? = some x):
  am T t (.sl (l.map f)) (.int .i64 (i:Int))=some (.ip (ab (f x))):=by
 unfold am;rw[ht];simp only[hk,he];rw[if_neg (by omega)];have:(l.map f)[(i:Int).toNat]? = some (f x):=by rw[Dn,DN,h];rfl
 rw[this];simp only;rw[CW (hs x)]
def cY{T:TT}{t e:Nat}{ti ei:TI}(ht:T t=some ti)(hk:ti.kind= .slice e)(he:T e=some ei){α:Type}[Inhabited α]{f:α->AV}(hs:∀x,bW (f x)=some ei.size){l:List α}{n:Int}(h0:0<=n)(h:n<(l.length:Int)):
  am T t (.sl (l.map f)) (.int .i64 n)=some (.ip (ab (f l[n.toNat]!))):=by
 have hlt:n.toNat<l.length:=by omega
 have:=lv ht hk he hs (l:=l) (i:=n.toNat) (x:=l[n.toNat]!) (by rw[List.getElem!_eq_getElem?_getD,Dc hlt];rfl)
 rw[show ((n.toNat:Nat):Int)=n by omega]at this;exact this
def oU{T:TT}{t e:Nat}{ti ei:TI}(ht:T t=some ti)(hk:ti.kind= .slice e)(he:T e=some ei){α:Type}{f:α->AV}(hs:∀x,bI ei.size (f x)=true){a b:List α}(h:(a.length+b.length)*ei.bytes<=140737488355328)(h0:0<ei.bytes):
  dH T t (.sl (a.map f)) (.sl (b.map f))=some (.sl ((a++b).map f)):=by
 unfold dH;rw[ht];simp only[hk,he,fk];rw[cz hs,cz hs];simp[h,h0,jc]
def y4(l:List Ty):AV:=.sl (l.map Ty.av)
structure Sig where
 name:aS
 params:List Ty
 result:Ty
 effects:Int
 deriving Inhabited
structure Face where
 module:aS
 funcs:List Sig
 deriving Inhabited
structure Vsn where
 major:Int
 minor:Int
 patch:Int
 deriving Inhabited,DecidableEq
def Sig.cells(s:Sig):List AV:=[.str s.name,y4 s.params,.int .i64 s.result.kind,dw s.result.fields,.int .i64 s.effects]
def Sig.av(s:Sig):AV:=.agg s.cells
def sigs(l:List Sig):AV:=.sl (l.map Sig.av)
def Face.cells(f:Face):List AV:=[.str f.module,sigs f.funcs]
def Face.av(f:Face):AV:=.agg f.cells
def un(l:List Face):AV:=.sl (l.map Face.av)
def Vsn.av(v:Vsn):AV:=.agg [.int .i64 v.major,.int .i64 v.minor,.int .i64 v.patch]
@[simp] theorem kK(s:Sig):ab s.av=[.str s.name,y4 s.params,.int .i64 s.result.kind,dw s.result.fields,.int .i64 s.effects]:=rfl
@[simp] theorem w7(f:Face):ab f.av=[.str f.module,sigs f.funcs]:=rfl
@[simp] theorem x9(v:Vsn):ab v.av=[.int .i64 v.major,.int .i64 v.minor,.int .i64 v.patch]:=rfl
@[simp] theorem pu(s:Sig):AV.agg [.str s.name,y4 s.params,.int .i64 s.result.kind,dw s.result.fields,.int .i64 s.effects]=s.av:=rfl
@[simp] theorem y7(f:Face):AV.agg [.str f.module,sigs f.funcs]=f.av:=rfl
@[simp] theorem Ag(v:Vsn):AV.agg [.int .i64 v.major,.int .i64 v.minor,.int .i64 v.patch]=v.av:=rfl
@[simp] theorem kC(t:Ty):bI 2 t.av=true:=by simp[bI,aQ,dw]
@[simp] theorem AD(l:List Ty):bQ 2 (l.map Ty.av)=true:=cz kC l
@[simp] theorem AX(s:Sig):bW s.av=some 5:=rfl
@[simp] theorem zr(s:Face):bW s.av=some 2:=rfl
@[simp] theorem AZ(s:Vsn):bW s.av=some 3:=rfl
@[simp] theorem lV(s:Sig):bI 5 s.av=true:=by simp[bI,aQ,dw,y4]
@[simp] theorem tx(s:Face):bI 2 s.av=true:=by simp[bI,aQ,sigs]
@[simp] theorem AC(s:Vsn):bI 3 s.av=true:=rfl
@[simp] theorem zn(l:List Sig):bQ 5 (l.map Sig.av)=true:=cz lV l
@[simp] theorem yR(l:List Face):bQ 2 (l.map Face.av)=true:=cz tx l
@[simp] theorem yx(g:Nat->Nat->Nat->Nat->Bool->AV)(l:List Ty):cl g (y4 l)=y4 l:=by simp[y4,cl,bT g Ty.av (xN g)]
@[simp] theorem tX(g:Nat->Nat->Nat->Nat->Bool->AV)(s:Sig):cl g s.av=s.av:=by unfold Sig.av Sig.cells;simp only[cl,db,yx,wq]
@[simp] theorem ww(g:Nat->Nat->Nat->Nat->Bool->AV)(l:List Sig):cl g (sigs l)=sigs l:=by simp[sigs,cl,bT g Sig.av (tX g)]
@[simp] theorem rU(g:Nat->Nat->Nat->Nat->Bool->AV)(s:Face):cl g s.av=s.av:=by unfold Face.av Face.cells;simp only[cl,db,ww]
@[simp] theorem Ac(g:Nat->Nat->Nat->Nat->Bool->AV)(l:List Face):cl g (un l)=un l:=by simp[un,cl,bT g Face.av (rU g)]
@[simp] theorem BP(g:Nat->Nat->Nat->Nat->Bool->AV)(s:Vsn):cl g s.av=s.av:=by unfold Vsn.av;simp only[cl,db]
@[simp] theorem Be(v:Ty):aZ (M.pure v.av)=M.pure v.av:=bE fun g=>xN g v
@[simp] theorem An(v:Sig):aZ (M.pure v.av)=M.pure v.av:=bE fun g=>tX g v
@[simp] theorem zb(v:Face):aZ (M.pure v.av)=M.pure v.av:=bE fun g=>rU g v
end Go.Av.Ap
namespace Go.Av
open Go.RowKit Go.Sort Go.Proofs
section
variable [Dr]
end
section
variable {α:Type} [Inhabited α]
end
section
variable [Dr] {S:ax} {β:List bc} {h:Hp} {w w':World}
end
theorem CO{S:ax}{β:List bc}:{ps qs:List AV} ->{vs:List Value} ->aO S β (ps++qs) vs->∃u v,vs=u++v/\aO S β ps u/\aO S β qs v
 |[],_,vs,h=>⟨[],vs,rfl,by simp[aO],h⟩
 |_:: ps,qs,vs,h=>by
  simp only[DK,aO]at h;obtain⟨x,xs,rfl,h1,h2⟩:=h;obtain⟨u,v,rfl,h3,h4⟩:=CO h2;exact⟨x:: u,v,rfl,by simp only[aO];exact⟨x,u,rfl,h1,h3⟩,h4⟩
section
variable [Dr] {α:Type} [Inhabited α] {P:Program}
end
end Go.Av
namespace Go.Av
open Go.RowKit Go.Sort Go.Proofs
section
variable [Dr] {P:Program}
end
end Go.Av
namespace Go.Av
variable [Dr]
section
variable {c:Entry} {N:Nat} {U:Nat->Prop} {e:Env} {h:Hp} {a:Act} {w:World} {S:ax} {β:List bc} {γ:Nat->Value} {lam:Nat->Option Nat} {ω:Nat->Owner}
theorem FR.dead(H:FR c N U e h a w S β γ lam ω){l b:Nat}(hd:∀cs,h[l]? = some cs->cs=[])(hb:ω b= .heap l)(hS:∀o,S b o=none){w':World}(hg:Gro w w')(hsz:w'.heap.size=w.heap.size)(hold:∀k,k≠b->w'.heap[k]? = w.heap[k]?):
  FR c N U e h a w' S β γ lam ω:=by
 have hωb:∀k,ω k≠.heap l->k≠b:=fun k hk=>by rintro rfl;exact hk hb
 have hother:∀k,ω k≠.heap l->w'.heap[k]? = w.heap[k]?:=fun k hk=>hold k (hωb k hk);refine⟨fun k o v hv=>?_,H.gro.trans hg,fun k hk hE=>?_,H.le,H.ext,H.hlen,?_,H.tsz,H.slots,H.grps,?_,?_,fun k hk=>⟨(H.mine k hk).1,by rw[hsz];exact (H.mine k hk).2⟩,H.used⟩
 ·have hkb:k≠b:=by rintro rfl;rw[hS]at hv;cases hv
  rw[cell_of_heap (hold k hkb)];exact H.wf k o v hv
 ·have hkb:k≠b:=by
   rintro rfl
   have:=(H.mine k (by rw[hb];simp)).1.low
   rcases this with h|h
   ·exact hE h
   ·omega
  have:=H.keep k hk hE
  exact⟨by rw[hold k hkb];exact this.1,this.2⟩
 ·refine H.heap.rows (ax.le_refl S) (dz.refl β) H.hlen fun j ds hj hne=>.inl ⟨hj,fun k _ ho=>⟨ho,hother k ?_,fun o h=>h⟩⟩;rw[ho];simp only[E6,Owner.heap.injEq];rintro rfl;exact hne (hd ds hj)
 ·intro B n hB;obtain⟨k1,k2,k3,k,z,k4,k5,k6,k7,k8⟩:=H.lblk B n hB;exact⟨k1,k2,k3,k,z,k4,k5.of_eq (hother k (by rw[k6];simp)),k6,k7,k8⟩
 ·intro g z hg;obtain⟨a',len,cap,g1,g2,g3,g4⟩:=H.free g z hg;refine⟨a',len,cap,g1,g2,g3,g4.imp id ?_⟩;rintro⟨sz,k,off,z',k1,k2,k3,k4,k5,k6⟩;exact⟨sz,k,off,z',k1,k2,k3.of_eq (hother k (by rw[k5];simp)),k4,k5,k6⟩
end
section
variable {S:ax} {β:List bc} {h:Hp} {w:World}
theorem FR.cpost{e:Env}{h':Hp}{a:Act}{N:Nat}{U:Nat->Prop}{w':World}{S':ax}{β':List bc}{γ:Nat->Value}{lam:Nat->Option Nat}{ω:Nat->Owner}{hg:oO S β h w}(F:FR { w,S,β,E:=bG β h,gok:=hg } N U e h' a w' S' β' γ lam ω){r:AV}{v:Value}(hv:VR S' β' r v):
  dk none S β h w (.ok r h') (.returned v) w':=⟨S',β',v,rfl,hv,F.out,fun sz hsz=>by cases hsz⟩
theorem qK(hg:oO S β h w)(hw:Wf S w)(hh:ck S β w h){l b n:Nat}{cs cs':List AV}{x y:Array Value}(hl:h[l]? = some cs)(hne:cs≠[])(hb:β[l]? = some (b,n))(hrow:Row w b x)(hys:y.size=x.size)(hcs:aO S β cs' (y.toList.take cs'.length))(htag:∀t,bM t cs'->bM t cs):dk none S β h w (.ok (.tup []) (h.set l cs')) (.returned (.tuple #[])) (w.setRow b y):=by
 obtain⟨γ,lam,ω,F⟩:=rD (args:=[]) (vs:=[]) (n:=0) hg hw hh (by simp[aO]) (C0 _) (by omega);exact (F.turnH hl hne ⟨n,hb⟩ hrow hys hcs htag).cpost (by simp only[VR];exact⟨[],rfl,by simp[aO]⟩)
theorem qJ(hg:oO S β h w)(hw:Wf S w)(hh:ck S β w h){l b n:Nat}{cs:List AV}(hl:h[l]? = some cs)(hne:cs≠[])(hb:β[l]? = some (b,n)){w':World}(hgr:Gro w w')(hsz:w'.heap.size=w.heap.size)(hold:∀k,k≠b->w'.heap[k]? = w.heap[k]?){r:AV}{v:Value}(hv:VR S β r v):dk none S β h w (.ok r (h.set l [])) (.returned v) w':=by
 obtain⟨γ,lam,ω,F⟩:=rD (args:=[]) (vs:=[]) (n:=0) hg hw hh (by simp[aO]) (C0 _) (by omega);obtain⟨b',n',k1,k2,k3,k4⟩:=F.heap.own hl hne;rw[hb]at k1;simp only[CS,Dw]at k1;obtain⟨rfl,rfl⟩:=k1;refine ((F.killH l).dead (l:=l) (fun cs' h'=>?_) k3 k4 hgr hsz hold).cpost hv;rw[Dj]at h';simp only[Dv]at h';split at h'
 ·simpa using h'.symm
 ·cases h'
end
end Go.Av
namespace Go.Av
variable [Dr]
theorem o8{P:Program}{cx:Cx}{own:Option Nat}(hT:TOK P cx.T)(hC:bR P cx.own cx.call)(hI:IsoCall cx){f:FuncId}{fn:Func}(hf:P.funcs[f]? = some fn)(hnt:cx.nt=fn.ntmps){E:List AV->Hp->R AV}(h0:∀h,E [] h= .ok (.sl []) h)(h1:∀e es h,cd cx (cg 0) fn own [.sl (e:: es)] h=E (e:: es) h)(h2:∀h,cd cx (cg 0) fn own [.hn] h= .ok (.sl []) h)(h3:∀l off h,cd cx (cg 0) fn own [.hs l off 0 1 false] h= .ok (.sl []) h){es:List AV}{h:Hp}{S:ax}{β:List bc}{w:World}{vs:List Value}(hr:E es h≠.fail)(hg:oO S β h w)(hw:Wf S w)(hh:ck S β w h)(hv:aO S β [.sl es] vs):Calls P f vs.toArray w (dk own S β h w (E es h))/\fn.body.isSome=true:=by
 cases es with
 |cons e es=>
  rw[<- h1]at hr |-;exact eT hT hC hI 0 hf hnt hr hg hw hh hv
 | nil=>
  rw[h0];simp only[aO]at hv;obtain⟨v,_,rfl,hv,rfl⟩:=hv;have hv0:=hv;simp only[VR]at hv;obtain⟨a,cap,rfl,hc,hn,hq⟩:=hv;cases a with
  |none=>
   have hcap:=hn rfl;subst hcap;have hv2:aO S β [.hn] [.slice none ([]:List AV).length 0]:=by simp[aO,VR]
   have:=eT (own:=own) hT hC hI 0 hf hnt (args:=[.hn]) (h:=h) (by rw[h2];simp) hg hw hh hv2
   rw[h2]at this;exact this
  | some q=>
   obtain⟨hs,_⟩:=hq q rfl;have hX:ck S [(q.block,q.off+cap)] w [[]]:=⟨rfl,fun _=>.no,fun l cs hl hne=>by
    cases l with
    |zero=>simp at hl;exact absurd hl hne
    |succ l=>simp at hl⟩
   have hE:∀b,¬bG [(q.block,q.off+cap)] [[]] b:=by
    rintro b ⟨l,cs,n,k1,k2,_⟩;cases l with
    |zero=>simp at k1;exact k2 k1
    |succ l=>simp at k1
   have hv2:aO S [(q.block,q.off+cap)] [.hs 0 q.off 0 1 false] [.slice (some q) ([]:List AV).length cap]:=by
    simp only[aO,VR];rcases DR cap with h0|h0
    ·subst h0;exact⟨_,_,rfl,.inr ⟨trivial,q,rfl⟩,rfl⟩
    ·have hq':q=⟨q.block,q.off,none⟩:=by
      have:=hs h0
      cases q;simp_all
     exact⟨_,_,rfl,.inl ⟨(q.block,q.off+cap),cap,rfl,(by show q.off+cap≠0;omega),by rw[<- hq'];rfl,Ec _,by simp⟩,rfl⟩
   have:=eT (own:=own) hT hC hI 0 hf hnt (args:=[.hs 0 q.off 0 1 false]) (h:=[[]]) (by rw[h3];simp) ⟨hg.1,fun b _=>hE b,hg.2.2⟩ hw hX hv2
   rw[h3]at this;refine⟨this.1.mono fun en w' hp=>?_,this.2⟩;obtain⟨S',β',v,k1,k2,k3,k4⟩:=hp;obtain⟨S2,j1,j2,j3⟩:=r8 hw hh hE k3;exact⟨S2,β,v,k1,j2 (.sl []) v k2,j1,fun sz hsz=>j3 sz v (k4 sz hsz)⟩
end Go.Av
namespace Go.Av
variable [Dr]
open Go.RowKit Go.WideShapes Go.ChangeShapes
theorem Left.below{S S':ax}{β β':List bc}{w w':World}{h':Hp}(L:Left (bG [] []) S β w S' β' w' h'):Below w.heap.size w w':=
 ⟨L.gro.os,L.gro.tape,L.gro.out,L.gro.size,fun k hk=>(L.keep k hk (by rintro⟨l,_,_,h1,_⟩;simp at h1)).1⟩
def g8(W:World):ax:=fun b o=>W.cell? ⟨b,o,none⟩
omit [Dr]in
theorem vU(W:World):Wf (g8 W) W:=fun _ _ _ h=>h
omit [Dr]in
theorem tb{W:World}(h:GOKw W):oO (g8 W) [] [] W:=⟨h,fun b _ ho=>by obtain⟨l,_,_,h1,_⟩:=ho;simp at h1,w4 h⟩
theorem tm{P:Program}{p:Pg}(G:GoodPg P p)(hO:cN p){f:FuncId}{args:List AV}{vs:List Value}{W:World}(hg:GOKw W)(hv:aO (g8 W) [] args vs)(ht:ai p f args []= .ok (.bool true) []):Calls P f vs.toArray W fun e W'=>e= .returned (.bool true)/\Below W.heap.size W W':=by
 have h:=(o5 G hO f args [] (g8 W) [] W vs (by rw[ht];simp) (tb hg) (vU W) ⟨rfl,fun _=>.no,fun l cs hl=>by simp at hl⟩ hv).1;rw[ht]at h;refine h.mono fun e W' hp=>?_;obtain⟨S',β',v,rfl,hv,L,_⟩:=hp;simp only[VR]at hv;subst hv;exact⟨rfl,L.below⟩
section
variable {H:Type} {enc:TypeId×Value->H} {P:Program}
omit [Dr]in
theorem mz{f:Func}{s:ChangeSpec}{apart fresh handsOn again:Bool}{W W':World}{args:Array Value}{v:Value}{ds gs:List (DataW H)}{before pa pv:List MemPlace}(hW:DataW.Whole enc P f.params.toList s.vars apart W args.toList ds gs before)(hres:∀(b:Nat)(sp:Nat->Bool)(hd:Bool),DataW.TrodAll enc P W' b sp hd f.resultTypes.toList (v.resultList f.resultTypes.size) (s.fn H (ds++gs)).results [])(hargs:∀sp:Nat->Bool,(∀p∈before,sp p.block=true)->DataW.TrodAll enc P W' 0 sp true f.params.toList args.toList (s.fn H (ds++gs)).args pa)(hvars:∀sp:Nat->Bool,(∀p∈before,sp p.block=true)->DataW.TrodVars enc P W' sp s.vars (s.fn H (ds++gs)).vars pv)(hps:before=pa++pv)(hb:Below W.heap.size W W')(hok:∀(j:Nat)(t:TypeId)(r:Value),f.resultTypes[j]? = some t->(v.resultList f.resultTypes.size)[j]? = some r->Value.okWide P W' .any 0 t r):
  s.post enc P f apart fresh handsOn again W args v W':=by
 have hlt:∀p∈before,p.block<W.heap.size:=fun p hp=>hW.lt p hp;have hold:∀p∈before,(fun b=>decide (b<W.heap.size)) p.block=true:=fun p hp=>by simpa using hlt p hp
 refine⟨ds,gs,before,[],pa,pv,hW,hres _ _ _,hargs _ hold,hvars _ hold,World.keptBut_mono (fun p hp=>⟨hp,?_⟩) (hb.frame (· ∈before)),fun _=>?_⟩
 ·rw[hps,Di]at hp;exact Or.inr hp
 ·obtain⟨_,_,_,_,_,hz,hn⟩:=hW;refine⟨hok,_,_,([]++pa)++pv,⟨[]++pa,pv,trodAll_append (hargs _ (fun _ _=>rfl)) (hres _ _ _),hvars _ (fun _ _=>rfl),rfl,?_,?_⟩,?_⟩
  ·intro b off hp;have hin:MemPlace.cell b off∈before:=by rw[hps];simpa using hp
   rw[hb.frozen (hlt _ hin)];exact hz b off hin
  ·intro ha
   have:=hn ha
   rw[hps]at this;simpa using this
  ·intro p hp _;rw[hps];simpa using hp
end
end Go.Av
namespace Go.Av
open Go.RowKit
section
variable {H:Type} {enc:TypeId×Value->H} {P:Program} {w w':World}
theorem hZ{base:Nat}{spare:Nat->Bool}{held:Bool}:∀ {ts:List TypeId} {vs:List Value} {ds:List (DataW H)} {ps:List MemPlace},DataW.TrodAll enc P w base spare held ts vs ds ps->(∀p∈ps,w.sameAt w' p)->DataW.TrodAll enc P w' base spare held ts vs ds ps
 |[],[],[],_,h,_=>h
 |_:: _,_:: _,_:: _,_,⟨p,q,⟨n,h1⟩,h2,e⟩,hs=>⟨p,q,⟨n,DataW.trod_carry n _ _ _ h1 (fun x hx=>hs x (by rw[e];exact List.mem_append_left _ hx))⟩,hZ h2 (fun x hx=>hs x (by rw[e];exact List.mem_append_right _ hx)),e⟩
theorem oC(hb:Below w.heap.size w w'){p:MemPlace}(hp:p.block<w.heap.size):w.sameAt w' p:=by
 cases p with
 |cell b off=>
  have:=hb.block b hp
  show w'.cell? ⟨b,off,none⟩=w.cell? ⟨b,off,none⟩;simp only[World.cell?,this]
 |map b=>exact hb.block b hp
theorem qz{T:TypeId->Prop}(K:Kids P T)(hz:∀t e,T t->P.underlying t=some (.slice e)->0<P.cellsOf e){ts:List TypeId}{vs:List Value}{ds:List (DataW H)}{ps:List MemPlace}(hT:∀t∈ts,T t)(h:DataW.TrodAll enc P w 0 (fun _=>true) true ts vs ds ps)(hlt:∀p∈ps,p.block<w.heap.size)(hb:Below w.heap.size w w')(sp:Nat->Bool)(hsp:∀p∈ps,sp p.block=true):DataW.TrodAll enc P w' 0 sp true ts vs ds ps:=
 (hZ h fun p hp=>oC hb (hlt p hp)).respare K hz hT hsp
end
theorem sa{α:Type}(Q:Nat->α->Prop):∀n,(∀i,i<n->∃x,Q i x)->∃l:List α,l.length=n/\∀i x,l[i]? = some x->Q i x
 |0,_=>⟨[],rfl,fun i x h=>by simp at h⟩
 | n+1,h=>by
  obtain⟨l,h1,h2⟩:=sa Q n fun i hi=>h i (by omega);obtain⟨y,hy⟩:=h n (by omega);refine⟨l++[y],by simp[h1],fun i x hx=>?_⟩;by_cases hi:i<n
  ·rw[C5 (by omega)]at hx;exact h2 i x hx
  ·rw[Dd (by omega)]at hx;have hin:i-l.length=0:=by
    rcases DR (i-l.length)with h|h
    ·exact h
    ·rw[C4 (by simp;omega)]at hx;cases hx
   rw[hin]at hx;simp only[Db,CS]at hx;subst hx;obtain rfl:i=n:=by omega
   exact hy
end Go.Av
namespace Go.Av
open Go.RowKit Go.WideShapes Go.ChangeShapes
section
variable {H:Type} (enc:TypeId×Value->H) (P:Program) (W:World)
def Rd{α:Type}(N:Nat)(t:TypeId)(cells:α->List AV)(Ok:α->Prop):Prop:=∀(base:Nat)(held:Bool)(n:Nat),n<N->∀(cs:List Value)(x:DataW H×List MemPlace),DataW.trod enc P W base (fun _=>true) held n t cs=some x->(∀k∈x.1.weights P t,k<=reachBytes)->∃a:α,aO (g8 W) [] (cells a) cs/\Ok a
def vS{α:Type}(N:Nat)(tot:Nat)(o:Nat)(fs:List Field)(cells:α->List AV)(Ok:α->Prop):Prop:=∀(base:Nat)(held:Bool)(n:Nat),n<N->∀(cs:List Value)(xs:List (DataW H×List MemPlace)),cs.length=tot->
 xs.length=fs.length->(∀(i:Nat)(f:Field),fs[i]? = some f->DataW.trod enc P W base (fun _=>true) held n f.type ((cs.drop f.offset).take (P.cellsOf f.type))=xs[i]?)->(∀k∈DataW.weightsEach P (fs.map (·.type)) (xs.map (·.1)),k<=reachBytes)->∃a:α,aO (g8 W) [] (cells a) (cs.drop o)/\Ok a
variable {enc P W} {α β:Type} {N:Nat} {t:TypeId}
theorem Rd.zero{cells:α->List AV}{Ok:α->Prop}:Rd enc P W 0 t cells Ok:=fun _ _ n hn=>absurd hn (by omega)
theorem Rd.le{cells:α->List AV}{Ok:α->Prop}(h:Rd enc P W N t cells Ok){M:Nat}(hm:M<=N):Rd enc P W M t cells Ok:=fun b hd n hn=>h b hd n (by omega)
theorem Rd.map{cells:α->List AV}{Ok:α->Prop}(h:Rd enc P W N t cells Ok)(g:α->β){cells':β->List AV}{Ok':β->Prop}(hc:∀a,cells' (g a)=cells a)(ho:∀a,Ok a->Ok' (g a)):Rd enc P W N t cells' Ok':=by
 intro b hd n hn cs x hx hw;obtain⟨a,h1,h2⟩:=h b hd n hn cs x hx hw;exact⟨g a,by rw[hc];exact h1,ho a h2⟩
theorem oA{k:IntKind}(ht:P.underlying t=some (.int k)):Rd enc P W N t (fun n:Int=>[.int k n]) (fun n=>(Lit.int k n).wf=true):=by
 intro b hd n hn cs x hx hw;obtain⟨b,rfl,_,hwf⟩:=DataW.trod_int ht hx;exact⟨b,by simp[aO,VR],hwf⟩
theorem l5(ht:P.underlying t=some .string):Rd enc P W N t (fun s:List UInt8=>[.str s]) (fun s=>s.length<=reachBytes):=by
 intro b hd n hn cs x hx hw;obtain⟨s,rfl,rfl,_⟩:=DataW.trod_string ht hx;exact⟨s.data.toList,by simp[aO,VR],hw _ (by simp[DataW.weights])⟩
def xW(cells:α->List AV)(ev:α->AV)(sz:Nat):Prop:=∀(a:α)(S:ax)(β:List bc)(vs:List Value),aO S β (cells a) vs->vs.length=sz->∃v,VR S β (ev a) v/\v.cells.toList=vs
theorem mS{cells:α->List AV}{ev:α->AV}{sz:Nat}(he:∀a,ev a= .agg (cells a)):xW cells ev sz:=fun a S β vs h hl=>⟨.agg vs.toArray,by rw[he];simp only[VR];exact⟨vs,rfl,h⟩,by simp[Value.cells]⟩
theorem ue{ev:α->AV}(ho:∀a,aQ (ev a)=true):xW (fun a=>[ev a]) ev 1:=fun a S β vs h hl=>by
 simp only[aO]at h;obtain⟨v,_,rfl,h,rfl⟩:=h;exact⟨v,h,by rw[(eK (ho a) h).1]⟩
theorem gS{e:TypeId}:∀ {l:List (DataW H)} {d:DataW H},d∈l->∀k∈d.weights P e,k∈DataW.weightsAll P e l
 |x:: l,d,hd,k,hk=>by
  simp only[DataW.weightsAll,Di];rcases De.1 hd with rfl|hd
  ·exact .inl hk
  ·exact .inr (gS hd k hk)
theorem lZ{e:TypeId}{cells:α->List AV}{Ok:α->Prop}(h:Rd enc P W N e cells Ok)(ht:P.underlying t=some (.slice e)){sz by_:Nat}(hsz:P.cellsOf e=sz)(h0:0<sz)(hby:P.bytesOf e=by_){ev:α->AV}(hev:xW cells ev sz):
  Rd enc P W N t (fun l:List α=>[.sl (l.map ev)]) (fun l=>l.length*by_<=reachBytes/\∀a∈l,Ok a):=by
 intro base hd n hn cs x hx hw;rcases DataW.trod_slice ht hx with⟨rfl,rfl⟩|⟨a,len,cap,elems,rest,m,rfl,rfl,rfl,hb,hle,hm,hlen,hel,hsp,_⟩
 ·exact⟨[],by simp only[aO,ER,VR];exact⟨_,_,rfl,⟨none,0,rfl,C0 _,fun _=>rfl,fun q hq=>by cases hq⟩,rfl⟩,by simp,fun a ha=>by cases ha⟩
 obtain⟨hrl,hre⟩:=hsp rfl;rw[hsz]at hel hre;simp only[DataW.weights,ht,De,Di,hby]at hw;have hspot:0<cap->a.spot=none:=by
  intro hc;have:∃y,(W.cells? base (a.add 0) sz).bind (DataW.trod enc P W base (fun _=>true) hd m e)=some y:=by
   by_cases h1:0<len
   ·have:=hel 0 h1
    rw[Dc (by omega)]at this;exact⟨_,by simpa using this⟩
   ·have:=hre 0 (by omega)
    rw[Dc (by omega)]at this;obtain rfl:len=0:=by omega
    exact⟨_,by simpa using this⟩
  obtain⟨y,hy⟩:=this;obtain⟨cs,hcs,_⟩:=FJ.1 hy;obtain⟨_,hl,hc⟩:=World.cells?_some hcs;have h2:=hc 0 h0;rw[Dc (by omega)]at h2;have h3:=World.cell?_spot h2;have e:(a.add 0).add 0=a:=by unfold Addr.add;simp
  rwa [e]at h3
 have hx:∀i,i<len->∃y:α,(∃v,VR (g8 W) [] (ev y) v/\v.cells.size=sz/\da (g8 W) a.block (a.off+i*sz) v.cells.toList)/\Ok y:=by
  intro i hi;have h1:=hel i hi;rw[Dc (by omega)]at h1;obtain⟨cs,hcs,htr⟩:=FJ.1 h1;obtain⟨y,hy,hok⟩:=h base hd m (by omega) cs _ htr (fun k hk=>hw k (.inr (.inl (gS (Eg.2 ⟨_,DT _,rfl⟩) k hk))));obtain⟨_,hl,hc⟩:=World.cells?_some hcs;obtain⟨v,hv,hvc⟩:=hev y _ _ cs hy hl;refine⟨y,⟨v,hv,by rw[<- DG,hvc,hl],fun j u hj=>?_⟩,hok⟩;rw[hvc]at hj;have hjl:j<sz:=by
   rcases Dg j cs.length with h|h
   ·omega
   ·rw[C4 h]at hj;cases hj
  have h2:=hc j hjl;rw[hj]at h2;unfold g8;have hs:=hspot (by omega);have e:(a.add (i*sz)).add j=⟨a.block,a.off+i*sz+j,none⟩:=by
   obtain⟨b,o,s⟩:=a;simp only at hs;subst hs;rw[add_plain,add_plain]
  rw[<- e];exact h2
 obtain⟨l,hl1,hl2⟩:=sa (fun i y=>(∃v,VR (g8 W) [] (ev y) v/\v.cells.size=sz/\da (g8 W) a.block (a.off+i*sz) v.cells.toList)/\Ok y) len hx;refine⟨l,?_,?_,fun y hy=>?_⟩
 ·simp only[aO,VR,Ek];refine⟨_,_,rfl,⟨some a,cap,by rw[hl1],by omega,(fun e=>by cases e),fun q hq=>?_⟩,rfl⟩;cases hq;refine⟨hspot,sz,.of_get fun i e he=>?_⟩;rw[DN,DJ]at he;obtain⟨y,hy,rfl⟩:=he;exact (hl2 i y hy).1
 ·have:=hw _ (.inl rfl)
  simp only[Ek]at this;have h3:=Df by_ (show l.length<=elems.length+rest.length by omega);omega
 ·obtain⟨i,hi,e⟩:=List.getElem_of_mem hy;exact (hl2 i y (by rw[Dc hi,e])).2
theorem qa{tot:Nat}:vS enc P W N tot tot [] (fun _:Unit=>[]) (fun _=>True):=fun base hd n hn cs xs hl _ _ _=>⟨(),by simp[aO,<- hl],trivial⟩
theorem dh{tot o k:Nat}{f:Field}{fs:List Field}{c1:α->List AV}{Ok1:α->Prop}{c2:β->List AV}{Ok2:β->Prop}(h1:Rd enc P W N f.type c1 Ok1)(ho:f.offset=o)(hk:P.cellsOf f.type=k)(h2:vS enc P W N tot (o+k) fs c2 Ok2):
  vS enc P W N tot o (f:: fs) (fun x:α×β=>c1 x.1++c2 x.2) (fun x=>Ok1 x.1/\Ok2 x.2):=by
 intro base hd n hn cs xs hl hx hf hw
 match xs,hx with
 |x:: xs,hx=>
  have hf0:=hf 0 f rfl;rw[ho,hk]at hf0;simp only[DC,DataW.weightsEach,Di]at hw;obtain⟨a,ha,oa⟩:=h1 base hd n hn _ x hf0 fun k hk=>hw k (.inl hk);obtain⟨b,hb,ob⟩:=h2 base hd n hn cs xs hl (by simpa using hx) (fun i g hg=>by simpa using hf (i+1) g (by simpa using hg)) fun k hk=>hw k (.inr hk);refine⟨(a,b),?_,oa,ob⟩
  have:=ha.append hb
  rwa [<- List.drop_drop,List.take_append_drop]at this
theorem nr{fs:Array Field}{tot:Nat}{cells:α->List AV}{Ok:α->Prop}(ht:P.underlying t=some (.struct fs))(hc:P.cellsOf t=tot)(h:vS enc P W N tot 0 fs.toList cells Ok):Rd enc P W (N+1) t cells Ok:=by
 intro base hd n hn cs x hx hw;obtain⟨xs,m,rfl,rfl,hl,hxs,hf⟩:=DataW.trod_struct ht hx;simp only[DataW.weights,ht]at hw;obtain⟨a,h1,h2⟩:=h base hd m (by omega) cs xs (by rw[hl,hc]) (by simpa using hxs) (fun i f hi=>hf i f (by simpa using hi)) hw;exact⟨a,by simpa using h1,h2⟩
theorem yU{cells:α->List AV}{Ok:α->Prop}(h:∀N,Rd enc P W N t cells Ok){base:Nat}{held:Bool}{v:Value}{d:DataW H}{p:List MemPlace}(hd:DataW.Trod enc P W base (fun _=>true) held t v d p)(hw:∀k∈d.weights P t,k<=reachBytes):
  ∃a:α,aO (g8 W) [] (cells a) v.cells.toList/\Ok a:=by
 obtain⟨n,hn⟩:=hd;exact h (n+1) base held n (by omega) _ _ hn hw
theorem sy{f:α->AV}{Ok:α->Prop}(h:∀N,Rd enc P W N t (fun a=>[f a]) Ok){base:Nat}{held:Bool}{v:Value}{d:DataW H}{p:List MemPlace}(hv:v.cells.toList=[v])(hd:DataW.Trod enc P W base (fun _=>true) held t v d p)(hw:∀k∈d.weights P t,k<=reachBytes):
  ∃a:α,VR (g8 W) [] (f a) v/\Ok a:=by
 obtain⟨a,h1,h2⟩:=yU h hd hw;rw[hv]at h1;simp only[aO]at h1;obtain⟨y,ys,e,h1,rfl⟩:=h1;cases e;exact⟨a,h1,h2⟩
theorem sO{e:TypeId}{r:Reach}{b0:Nat}{f:α->AV}{Ok:α->Prop}(h:∀N,Rd enc P W N t (fun a=>[f a]) Ok)(ht:P.underlying t=some (.slice e)){base:Nat}{held:Bool}{v:Value}{d:DataW H}{p:List MemPlace}(hok:Value.okWide P W r b0 t v)(hd:DataW.Trod enc P W base (fun _=>true) held t v d p)(hw:∀k∈d.weights P t,k<=reachBytes):∃a:α,VR (g8 W) [] (f a) v/\Ok a:=by
 obtain⟨a,len,cap,rfl⟩:=okWide_slice ht hok;exact sy h rfl hd hw
theorem vZ{r:Reach}{b0:Nat}{f:α->AV}{Ok:α->Prop}(h:∀N,Rd enc P W N t (fun a=>[f a]) Ok)(ht:P.underlying t=some .string){base:Nat}{held:Bool}{v:Value}{d:DataW H}{p:List MemPlace}(hok:Value.okWide P W r b0 t v)(hd:DataW.Trod enc P W base (fun _=>true) held t v d p)(hw:∀k∈d.weights P t,k<=reachBytes):∃a:α,VR (g8 W) [] (f a) v/\Ok a:=by
 obtain⟨a,rfl⟩:=okWide_string ht hok;exact sy h rfl hd hw
theorem kY{ts:List TypeId}{ds:List (DataW H)}(h:(DataW.weightsEach P ts ds).all (· <=reachBytes)=true){j:Nat}{u:TypeId}{d:DataW H}(ht:ts[j]? = some u)(hd:ds[j]? = some d):∀k∈d.weights P u,k<=reachBytes:=fun k hk=>by
 have:=C6.1 h _ (DataW.weights_mem_each ht hd k hk)
 simpa using this
end
end Go.Av
namespace Go.Av
attribute [simp] aw aj tS sR
@[simp] theorem ak{α:Type}(b:Bool)(x y:M α):aA (.bool b) x y=if b=true then x else y:=by cases b<;>rfl
def gv(b w:Bool)(y:AV):AV:=bif b== w then y else .tup []
@[simp] theorem Cj(y:AV):gv false false y=y:=rfl
@[simp] theorem Cm(y:AV):gv true true y=y:=rfl
@[simp] theorem Ck(y:AV):gv false true y= .tup []:=rfl
@[simp] theorem Cl(y:AV):gv true false y= .tup []:=rfl
@[simp high] theorem aI(b w:Bool)(y:AV):ay (.bool b) w 1 (M.pure [y])=M.pure [gv b w y]:=by cases b<;>cases w<;>rfl
@[simp high] theorem y9(b w c w2:Bool)(y:AV):ay (gv b w (.bool c)) w2 1 (M.pure [y])=M.pure [gv b w (gv c w2 y)]:=by cases b<;>cases w<;>cases c<;>cases w2<;>rfl
@[simp high] theorem za(b w c e:Bool):ay (.bool b) w 1 (ae (af (aH (gv b w (.bool c)) (.bool true) (gv b w (gv c false (.bool e))))) fun v=>M.pure [v])=M.pure [gv b w (.bool (c||e))]:=by
 cases b<;>cases w<;>cases c<;>rfl
@[simp high] theorem yG(b w c e:Bool):ay (.bool b) w 1 (ae (af (aH (gv b w (.bool c)) (gv b w (gv c true (.bool e))) (.bool false))) fun v=>M.pure [v])=M.pure [gv b w (.bool (c&&e))]:=by
 cases b<;>cases w<;>cases c<;>rfl
@[simp high] theorem bV(b c:Bool):aH (.bool b) (gv b true (.bool c)) (.bool false)=some (.bool (b&&c)):=by cases b<;>rfl
@[simp high] theorem c8(b c:Bool):aH (.bool b) (.bool true) (gv b false (.bool c))=some (.bool (b||c)):=by cases b<;>rfl
@[simp] theorem wF(w:Bool)(n:Nat)(m:M (List AV)):ay (.bool !w) w n m=M.pure (List.replicate n (.tup [])):=by cases w<;>rfl
@[simp] theorem bL(w:Bool)(n:Nat)(m:M (List AV)):ay (.bool w) w n m=m:=by cases w<;>rfl
@[simp] theorem fL(n:Nat)(m:M (List AV)):ay (.bool false) true n m=M.pure (List.replicate n (.tup [])):=rfl
@[simp] theorem jv(n:Nat)(m:M (List AV)):ay (.bool true) false n m=M.pure (List.replicate n (.tup [])):=rfl
@[simp] theorem ll(w:Bool)(n:Nat)(m:M (List AV)):ay (.tup []) w n m=M.pure (List.replicate n (.tup [])):=rfl
@[simp] theorem bJ(x y:AV):aH (.bool true) x y=some x:=rfl
@[simp] theorem cD(x y:AV):aH (.bool false) x y=some y:=rfl
@[simp] theorem ar(x:AV)(l:List AV):nth (x:: l) 0=x:=rfl
@[simp] theorem az(x:AV)(l:List AV)(n:Nat):nth (x:: l) (n+1)=nth l n:=rfl
@[simp] theorem B5{α:Type}(k:List AV->M α)(m:(List AV->M α)->M α):jn k m=m k:=rfl
@[simp] theorem dU{α:Type}(a:α):cP (M.pure a)=M.pure a:=rfl
@[simp] theorem kD(b:Bool):oJ .not (.bool b)=some (.bool !b):=rfl
@[simp] theorem bX(l:List AV)(i:Nat):bq (.tup l) i=l[i]?:=rfl
@[simp] theorem xS:True:=trivial
@[simp] theorem yO(l k:Nat):fu (.hp l k)=some (.hp l k):=rfl
@[simp] theorem yP(cs:List AV):fu (.ip cs)=some (.ip cs):=rfl
@[simp] theorem x8(s:List UInt8):ab (.str s)=[.str s]:=rfl
@[simp] theorem x6(k:IntKind)(n:Int):ab (.int k n)=[.int k n]:=rfl
@[simp] theorem x5(cs:List AV):ab (.agg cs)=cs:=rfl
@[simp] theorem bm(T:TT)(t:Nat)(a b:Int):ao T .add t (.int .i64 a) (.int .i64 b)=some (.int .i64 (IntKind.i64.wrap (a+b))):=rfl
@[simp] theorem gU(T:TT)(t:Nat)(a b:Int):ao T .sub t (.int .i64 a) (.int .i64 b)=some (.int .i64 (IntKind.i64.wrap (a-b))):=rfl
@[simp] theorem A8(T:TT)(t:Nat)(a b:Int):ao T .mul t (.int .i64 a) (.int .i64 b)=some (.int .i64 (IntKind.i64.wrap (a*b))):=rfl
@[simp] theorem aB(T:TT)(t:Nat)(a b:Int):ao T .lss t (.int .i64 a) (.int .i64 b)=some (.bool (decide (a<b))):=rfl
@[simp] theorem nP(T:TT)(t:Nat)(a b:Int):ao T .leq t (.int .i64 a) (.int .i64 b)=some (.bool (decide (a<=b))):=rfl
@[simp] theorem cG(T:TT)(t:Nat)(a b:Int):ao T .gtr t (.int .i64 a) (.int .i64 b)=some (.bool (decide (b<a))):=rfl
@[simp] theorem rR(T:TT)(t:Nat)(a b:Int):ao T .geq t (.int .i64 a) (.int .i64 b)=some (.bool (decide (b<=a))):=rfl
@[simp] theorem A7(T:TT)(t:Nat)(a b:Int):ao T .eql t (.int .i64 a) (.int .i64 b)=some (.bool (a== b)):=rfl
@[simp] theorem v6(T:TT)(t:Nat)(a b:Int):ao T .neq t (.int .i64 a) (.int .i64 b)=some (.bool (a != b)):=rfl
@[simp] theorem Bi(T:TT)(t:Nat)(a b:List UInt8):ao T .eql t (.str a) (.str b)=some (.bool (a== b)):=rfl
@[simp] theorem Bm(T:TT)(t:Nat)(a b:List UInt8):ao T .neq t (.str a) (.str b)=some (.bool !(a== b)):=rfl
@[simp] theorem Bl(T:TT)(t:Nat)(a b:List UInt8):ao T .lss t (.str a) (.str b)=some (.bool (a7 a b)):=rfl
@[simp] theorem Bj(T:TT)(t:Nat)(a b:List UInt8):ao T .geq t (.str a) (.str b)=some (.bool !(a7 a b)):=rfl
@[simp] theorem bS{n:Nat}{x:AV}(h:bI n x=true):bC n x=M.pure (.agg (ab x)):=by
 unfold bC fW;rw[h];rfl
@[simp] theorem bF{n:Nat}{x:AV}(h:bI n x=true):aT n [] x=M.pure (.agg (ab x)):=by
 unfold aT fW;rw[h];rfl
@[simp] theorem zg(b:Bool)(x:AV):gn b [x]=some x:=by simp[gn]
@[simp] theorem zh(b:Bool)(a c:Int):gn b [.int .i64 a,.int .i64 c]=some (.int .i64 (if b=true then max a c else min a c)):=by
 cases b
 ·simp only[gn,uV,CY];congr 2;simp only[Int.min_def];split<;>split<;>simp_all<;>omega
 ·simp only[gn,uV,CV];congr 2;simp only[Int.max_def];split<;>split<;>simp_all<;>omega
def bv{x:Int}(h1:-9223372036854775808<=x)(h2:x<=9223372036854775807):IntKind.i64.wrap x=x:=IntWalk.i64_in _ ⟨h1,h2⟩
def jQ{n:Nat}(h:n<=4611686018427387904):IntKind.i64.wrap ((n:Int)+1)=((n+1:Nat):Int):=by
 rw[IntWalk.i64_in _ (by omega)];omega
def tI{n:Nat}(h:n<=4611686018427387904):IntKind.i64.wrap (((n+1:Nat):Int)-1)=(n:Int):=by
 rw[IntWalk.i64_in _ (by omega)];omega
namespace Ap
mutual
def Val.sz:Val->Nat
 |.mk _ _ ns vs=>1+ns.length+vH vs
def vH:List Val->Nat
 |[]=>0
 |v:: vs=>v.sz+vH vs
end
end Ap
end Go.Av
namespace Go.Av
def dJ{α:Type}(F:α->Bool):List α->Int->Int
 |[],_=>-1
 |x:: l,i=>if F x=true then i else dJ F l (i+1)
@[simp] theorem xT(a b:Nat):((a:Int)== (b:Int))=(a== b):=by rw[EB];simp;omega
@[simp] theorem wN(a:Nat):((a:Int)== 0)=(a== 0):=by rw[EB];simp
@[simp] theorem xU(a b:Nat):((a:Int) != (b:Int))=(a != b):=by rw[EB];simp;omega
end Go.Av
namespace Go.Av
open Ap
@[simp high] theorem yr(x:Val):bC 4 (Val.av x)=M.pure (Val.av x):=by rw[bS (lW x),kL,pw]
@[simp high] theorem wm(x:Val):aT 4 [] (Val.av x)=M.pure (Val.av x):=by rw[bF (lW x),kL,pw]
@[simp high] theorem yl(x:Exp):bC 6 (Exp.av x)=M.pure (Exp.av x):=by rw[bS (gJ x),dP,eX]
@[simp high] theorem wd(x:Exp):aT 6 [] (Exp.av x)=M.pure (Exp.av x):=by rw[bF (gJ x),dP,eX]
@[simp high] theorem ym(x:ky):bC 3 (ee x)=M.pure (ee x):=by rw[bS (lS x),kG,pp]
@[simp high] theorem we(x:ky):aT 3 [] (ee x)=M.pure (ee x):=by rw[bF (lS x),kG,pp]
@[simp high] theorem yn(x:Fun):bC 12 (Fun.av x)=M.pure (Fun.av x):=by rw[bS (lT x),kH,pq]
@[simp high] theorem wg(x:Fun):aT 12 [] (Fun.av x)=M.pure (Fun.av x):=by rw[bF (lT x),kH,pq]
@[simp high] theorem yo(x:Mod):bC 9 (Mod.av x)=M.pure (Mod.av x):=by rw[bS (lU x),kI,pr]
@[simp high] theorem wi(x:Mod):aT 9 [] (Mod.av x)=M.pure (Mod.av x):=by rw[bF (lU x),kI,pr]
@[simp high] theorem xL(x:Vars):bC 2 (Vars.av x)=M.pure (Vars.av x):=by rw[bS (nk x),jU,m0]
@[simp high] theorem vP(x:Vars):aT 2 [] (Vars.av x)=M.pure (Vars.av x):=by rw[bF (nk x),jU,m0]
@[simp high] theorem xK(x:Deed):bC 3 (Deed.av x)=M.pure (Deed.av x):=by rw[bS (nj x),jT,mZ]
@[simp high] theorem vO(x:Deed):aT 3 [] (Deed.av x)=M.pure (Deed.av x):=by rw[bF (nj x),jT,mZ]
@[simp high] theorem xJ(x:Ap.Call):bC 3 (Ap.Call.av x)=M.pure (Ap.Call.av x):=by rw[bS (ni x),jS,mY]
@[simp high] theorem vM(x:Ap.Call):aT 3 [] (Ap.Call.av x)=M.pure (Ap.Call.av x):=by rw[bF (ni x),jS,mY]
@[simp high] theorem yp(x:Ap.Out):bC 8 (Ap.Out.av x)=M.pure (Ap.Out.av x):=by rw[bS (p8 x),kJ,pt]
@[simp high] theorem wj(x:Ap.Out):aT 8 [] (Ap.Out.av x)=M.pure (Ap.Out.av x):=by rw[bF (p8 x),kJ,pt]
@[simp] theorem kC(t:Ty):bI 2 t.av=true:=by simp[bI,aQ,dw]
@[simp high] theorem y5(x:Ty):bC 2 (Ty.av x)=M.pure (Ty.av x):=by rw[bS (kC x),mD,r4]
@[simp high] theorem xM(x:Ty):aT 2 [] (Ty.av x)=M.pure (Ty.av x):=by rw[bF (kC x),mD,r4]
end Go.Av
namespace Go.Av
@[simp] theorem vQ(c:Prop)[Decidable c](a b:Bool):(if c then(M.pure (.bool a):M AV)else M.pure (.bool b))=M.pure (.bool (if c then a else b)):=by split<;>rfl
@[simp] theorem wH(c:Prop)[Decidable c](a b:Int):(if c then(M.pure (.int .i64 a):M AV)else M.pure (.int .i64 b))=M.pure (.int .i64 (if c then a else b)):=by split<;>rfl
def qx{α:Type}[Inhabited α](P:α->Bool)(l:List α):(List.range' 0 l.length).all (fun k=>P l[k]!)=l.all P:=by
 rw[EB];simp only[C6,List.mem_range'_1];constructor
 ·intro h x hx;obtain⟨i,hi,rfl⟩:=List.getElem_of_mem hx
  have:=h i ⟨Ec _,by omega⟩
  rwa [Dl l i hi]at this
 ·intro h k hk;have hk':k<l.length:=by omega
  rw[Dl l k hk'];exact h _ (DT hk')
def jN{T:TT}{t e:Nat}{ti ei:TI}(ht:T t=some ti)(hk:ti.kind= .slice e)(he:T e=some ei)(es:List AV)(hok:bQ ei.size es=true){n:Int}(h0:0<=n)(h1:n<=es.length):cb T t (.sl es) (some (.int .i64 n)) none none=some (.sl (es.drop n.toNat)):=by
 unfold cb;rw[ht];simp[hk,he,bw,h0,h1,hok]
end Go.Av
namespace Go.Av.Ap
open Go Go.Av
def Val.limN:Nat->Val->Prop
 |0,_=>True
 |n+1,v=>v.names.length<=140737488355328/\v.values.length<=140737488355328/\∀x∈v.values,x.limN n
def Val.Lim(v:Val):Prop:=∀n,v.limN n
def Exp.limN:Nat->Exp->Prop
 |0,_=>True
 |n+1,v=>v.names.length<=8796093022208/\v.args.length<=140737488355328/\∀x∈v.args,x.limN n
def Exp.Lim(v:Exp):Prop:=∀n,v.limN n
def Ty.limN:Nat->Ty->Prop
 |0,_=>True
 |n+1,v=>v.fields.length<=140737488355328/\∀x∈v.fields,x.2.limN n
def Ty.Lim(v:Ty):Prop:=∀n,v.limN n
def Val.Lim.names{v:Val}(h:v.Lim):v.names.length<=140737488355328:=(h 1).1
def Val.Lim.len{v:Val}(h:v.Lim):v.values.length<=140737488355328:=(h 1).2.1
def Val.Lim.kid{v:Val}(h:v.Lim){x:Val}(hx:x∈v.values):x.Lim:=fun n=>(h (n+1)).2.2 x hx
def Exp.Lim.names{v:Exp}(h:v.Lim):v.names.length<=8796093022208:=(h 1).1
def Exp.Lim.len{v:Exp}(h:v.Lim):v.args.length<=140737488355328:=(h 1).2.1
def Exp.Lim.kid{v:Exp}(h:v.Lim){x:Exp}(hx:x∈v.args):x.Lim:=fun n=>(h (n+1)).2.2 x hx
def Ty.Lim.len{v:Ty}(h:v.Lim):v.fields.length<=140737488355328:=(h 1).1
def Ty.Lim.kid{v:Ty}(h:v.Lim){x:ky}(hx:x∈v.fields):x.2.Lim:=fun n=>(h (n+1)).2 x hx
structure Fun.Lim (f:Fun):Prop where
 params:f.params.length<=140737488355328
 pty:∀x∈f.params,x.2.Lim
 result:f.result.Lim
 body:f.body.Lim
structure Mod.Lim (m:Mod):Prop where
 uses:m.uses.length<=140737488355328
 vars:m.vars.length<=140737488355328
 vty:∀x∈m.vars,x.2.Lim
 init:m.init.length<=140737488355328
 ies:∀e∈m.init,e.Lim
 funcs:m.funcs.length<=140737488355328
 fns:∀f∈m.funcs,f.Lim
 old:m.old.length<=140737488355328
 oty:∀x∈m.old,x.2.Lim
 forward:m.forward.length<=140737488355328
 fes:∀e∈m.forward,e.Lim
 back:m.back.length<=140737488355328
 bes:∀e∈m.back,e.Lim
def kB(b:UInt8):Bool:=decide (97<=b.toNat)&&decide (b.toNat<=122)
def qM(b:UInt8):Bool:=decide (48<=b.toNat)&&decide (b.toNat<=57)
def dR(b:UInt8):Bool:=kB b||qM b
def ji(s:aS):Bool:=!(s== [])&&kB (s.headD 0)&&decide (s.length<=20)&&((s.takeWhile dR).length== s.length)
def gX:aS:=[32,97,110,100,32,98,97,99,107,32,98,111,111,108,32,99,108,111,99,107,32,101,108,115,101,32,102,97,108,115,101,32,102,105,108,101,115,32,102,110,32,102,111,114,119,97,114,100,32,103,101,116,32,105,102,32,105,110,32,105,110,116,32,108,101,116,32,109,111,100,117,108,101,32,109,111,118,101,32,110,101,116,32,110,111,116,32,111,114,32,112,117,98,32,115,101,99,114,101,116,115,32,115,101,116,32,116,104,101,110,32,116,114,117,101,32,117,115,101,32,118,97,114,32]
def bD(s:aS):Bool:=ji s&&!(Lib.contains gX ([32]++s++[32]))
def nH{s:aS}(h:ji s=true):s.length<=20:=by
 unfold ji at h;simp only[CX,CU]at h;exact h.1.2
def eQ(p f:aS):Bool:=!(a7 f p||f== p)
def qA{α:Type}(Q:α->α->Bool):List α->Bool
 |x:: y:: r=>Q x y&&qA Q (y:: r)
 |_=>true
theorem oY{α:Type}[Inhabited α](Q:α->α->Bool):(l:List α)->(qA Q l=true↔∀k,k+1<l.length->Q l[k]! l[k+1]! = true)
 |[]=>by simp[qA]
 |[x]=>by simp[qA]
 | x:: y:: r=>by
  simp only[qA,CX,oY Q (y:: r)];constructor
  ·rintro⟨h1,h2⟩ k hk;cases k with
   |zero=>simpa using h1
   |succ k=>simpa using h2 k (by simpa using hk)
  ·intro h;refine⟨by simpa using h 0 (by simp),fun k hk=>?_⟩;simpa using h (k+1) (by simpa using hk)
def rO{α:Type}[Inhabited α](P:α->Bool)(Q:α->α->Bool)(l:List α):(List.range' 0 l.length).all (fun k=>P l[k]! && (decide (k=0)||Q l[k-1]! l[k]!))=(l.all P&&qA Q l):=by
 rw[EB,CX,<- qx P l,oY];simp only[C6,List.mem_range'_1,CX,DY,CU];constructor
 ·intro h;refine⟨fun k hk=>(h k hk).1,fun k hk=>?_⟩
  have:=(h (k+1) ⟨Ec _,by omega⟩).2
  rcases this with h0|h1
  ·omega
  ·simpa using h1
 ·rintro⟨h1,h2⟩ k hk;refine⟨h1 k hk,?_⟩;cases k with
  |zero=>exact .inl rfl
  |succ k=>exact .inr (by simpa using h2 k (by omega))
mutual
def yd:Ty->Ty->Bool
 |.mk k fs,a=>a.kind== k&&rQ fs a.fields
def rQ:List (aS×Ty)->List ky->Bool
 |[],_=>true
 |f:: fs,l=>ye f l&&rQ fs l
def ye:aS×Ty->List ky->Bool
 |(n,t),l=>match uI (fun z=>z.1== n) l with
  |some z=>yd t z.2
  |none=>false
end
def wC(a b:Int):Int:=IntKind.i64.wrap (BitVec.ofInt 64 a &&& ~~~ BitVec.ofInt 64 b).toNat
structure Sig.Lim (s:Sig):Prop where
 plen:s.params.length<=140737488355328
 ptys:∀t∈s.params,t.Lim
 result:s.result.Lim
structure Face.Lim (f:Face):Prop where
 len:f.funcs.length<=140737488355328
 sigs:∀s∈f.funcs,s.Lim
@[simp] theorem yq(x:Sig):bC 5 x.av=M.pure x.av:=by rw[bS (lV x),kK,pu]
@[simp] theorem wk(x:Sig):aT 5 [] x.av=M.pure x.av:=by rw[bF (lV x),kK,pu]
structure Ins where
 op:Int
 a:Int
 s:aS
 m:aS
 names:List aS
 deriving Inhabited
def Ins.cells(i:Ins):List AV:=[.int .i64 i.op,.int .i64 i.a,.str i.s,.str i.m,strs i.names]
def Ins.av(i:Ins):AV:=.agg i.cells
structure Cod where
 func:aS
 params:Int
 locals:Int
 code:List Ins
 deriving Inhabited
def f4(l:List Ins):AV:=.sl (l.map Ins.av)
def Cod.av(c:Cod):AV:=.agg [.str c.func,.int .i64 c.params,.int .i64 c.locals,f4 c.code]
def bi(l:List Cod):AV:=.sl (l.map Cod.av)
def m6(op a:Int):Ins:=⟨op,a,[],[],[]⟩
def eq(e:Exp):Exp×Int:=
 if e.op=0\/e.op=1 then(.mk e.op e.n [] [] [] e.args,0)
 else if e.op=2\/e.op=17 then(.mk e.op 0 e.s [] [] e.args,0)
 else if e.op=18\/e.op=14 then(.mk e.op 0 e.s [] [] e.args,1)
 else if e.op=16 then(.mk e.op e.n [] [] [] e.args,1)
 else if e.op=10 then(.mk e.op 0 [] [] [] e.args,1)
 else if e.op=12 then(.mk e.op 0 e.s [] [] e.args,2)
 else if e.op=11 then(.mk e.op 0 [] [] [] e.args,3)
 else if e.op=13 then(.mk e.op 0 [] [] e.names e.args,e.names.length)
 else if e.op=15 then(.mk e.op 0 e.s e.m [] e.args,-1)
 else(.mk e.op 0 [] [] [] e.args,2)
def dB(l:List aS):Bool:=(l.all bD&&qA eQ l)&&decide (l.length<=8)
def ef(e:Exp):Bool:=
 if e.op=0 then decide (0<=e.n)&&decide (e.n<=1099511627776)
 else if e.op=1 then e.n== 0||e.n== 1
 else if e.op=16 then((e.n== 1||e.n== 2)||e.n== 4)||e.n== 8
 else if e.op=2\/e.op=17\/e.op=18\/e.op=14\/e.op=12 then bD e.s
 else if e.op=15 then bD e.s&&(e.m== []||bD e.m)&&decide (e.args.length<=6)
 else if e.op=13 then dB e.names
 else true
def rA(e:Exp):Bool:=
 decide (0<=e.op)&&decide (e.op<19)&&(decide ((eq e).2<0)||((eq e).2== (e.args.length:Int)))&&((eq e).1.n== e.n)&&((eq e).1.s== e.s)&&((eq e).1.m== e.m)&&(((eq e).1.names.length:Int)== (e.names.length:Int))&&ef e
def fb:Nat->Exp->Bool
 |0,_=>false
 |d+1,e=>rA e&&e.args.all (fb d)
theorem qf(d:Nat)(e:Exp):fb (d+1) e=(rA e&&e.args.all (fb d)):=rfl
mutual
def Cy:Ty->Ty->Option Ty
 |.mk k fs,b=>if k=b.kind then some (.mk k (A6 fs b.fields))else none
def A6:List (aS×Ty)->List ky->List ky
 |[],_=>[]
 |f:: fs,l=>(match Cw f l with|some x=>[x]|none=>[])++A6 fs l
def Cw:aS×Ty->List ky->Option ky
 |(n,t),l=>match uI (fun z=>z.1== n) l with
  |some z=>(match Cy t z.2 with|some u=>some (n,u)|none=>none)
  |none=>none
end
end Go.Av.Ap
namespace Go.Av.Ap
open Go Go.Av
section
variable {α:Type} {f:α->AV} {sz:Nat}
def rowOf(f:α->AV)(l:List α):List AV:=(l.map f).flatMap ab
theorem iw(x:α)(l:List α):rowOf f (x:: l)=ab (f x)++rowOf f l:=by simp[rowOf]
theorem eM(hs:∀x,(ab (f x)).length=sz):(l:List α)->(rowOf f l).length=l.length*sz
 |[]=>by simp[rowOf]
 |x:: l=>by rw[iw,Dh,hs,eM hs l,Dq,FA];omega
theorem gP(hs:∀x,(ab (f x)).length=sz):(l:List α)->(i:Nat)->(h:i<l.length)->((rowOf f l).drop (i*sz)).take sz=ab (f l[i])
 |x:: l,0,_=>by
  rw[iw,EH,FO,Fe (hs x)];rfl
 |x:: l,i+1,h=>by
  rw[iw,show (i+1)*sz=(ab (f x)).length+i*sz by rw[hs,FA];omega,List.drop_append,EY (by omega),FH,DZ];simpa using gP hs l i (by simpa using h)
theorem s8(hs:∀x,(ab (f x)).length=sz)(hag:∀x,f x= .agg (ab (f x)))(hcl:∀x g,cl g (f x)=f x)(hz:0<sz){h:Hp}{q:Nat}{l:List α}(hq:h[q]? = some (rowOf f l))(d:Nat):
  fR (d+1) h (.hs q 0 l.length sz true)= .sl (l.map f):=by
 have hlen:=eM (f:=f) hs l;simp only[fR,cl,hq];have h1:(decide (0+l.length*sz<=(rowOf f l).length)&&decide (0<sz)&&(true||(Nat.beq sz 1&&(rowOf f l).all aQ)))=true:=by
  simp[hlen,hz]
 rw[h1,CV];congr 1;apply FE
 ·simp
 ·intro i h2 h3;have hi:i<l.length:=by simpa using h2
  simp only[FF,Ft,Ds,CV];rw[gP hs l i hi,<- hag];cases d with
  |zero=>exact hcl _ _
  |succ d=>exact hcl _ _
end
end Go.Av.Ap
namespace Go.Av.Ap
open Go Go.Av
abbrev vL:=aS×aS
def qc(r:vL):AV:=.agg [.str r.1,.str r.2]
def qd(l:List vL):AV:=.sl (l.map qc)
def rr(l:List (List vL)):AV:=.sl (l.map qd)
@[simp] theorem x7(r:vL):ab (qc r)=[.str r.1,.str r.2]:=rfl
@[simp] theorem Af(r:vL):AV.agg [.str r.1,.str r.2]=qc r:=rfl
@[simp] theorem uX(r:vL):bI 2 (qc r)=true:=rfl
@[simp] theorem zm(l:List vL):bQ 2 (l.map qc)=true:=cz uX l
@[simp] theorem yv(g:Nat->Nat->Nat->Nat->Bool->AV)(r:vL):cl g (qc r)=qc r:=rfl
@[simp] theorem wv(g:Nat->Nat->Nat->Nat->Bool->AV)(l:List vL):cl g (qd l)=qd l:=by simp[qd,cl,bT g qc (yv g)]
@[simp] theorem Ad(g:Nat->Nat->Nat->Nat->Bool->AV)(l:List (List vL)):cl g (rr l)=rr l:=by simp[rr,cl,bT g qd (wv g)]
section
variable {V:Type}
end
end Go.Av.Ap
namespace Go.Av.Ap
open Go Go.Av
mutual
def yQ:Exp->List Exp
 |.mk o n s m ns es=>.mk o n s m ns es:: su es
def su:List Exp->List Exp
 |[]=>[]
 |e:: es=>yQ e++su es
end
end Go.Av.Ap
namespace Go.Av
open Go
section
variable {F:Fence} {n:Nat} {P:Program} {w w':World} {ops:Array Oper} {rest:List Oper} {o:Oper} {a:Act} {Q:Exit->Act->World->Prop} {v:Value}
end
end Go.Av
namespace Go.Av.Ap
open Go Go.Av
def rc{T:TT}{t:Nat}{ti:TI}(ht:T t=some ti)(ha:ti.agg=false){h:Hp}{l k:Nat}{cs:List AV}{v:AV}(h0:h[l]? = some cs)(h1:cs[k]? = some v):di T t (.hp l k) h= .ok v h:=by
 simp[di,ht,h0,ha,h1]
def oE{T:TT}{t:Nat}{ti:TI}(ht:T t=some ti){h:Hp}{l k:Nat}{cs:List AV}{v:AV}(h0:h[l]? = some cs)(hv:bI ti.size v=true)(hle:k+ti.size<=cs.length)(hp:0<ti.size):
  dG T t (.hp l k) v h= .ok (.tup []) (h.set l (setCells cs k (ab v))):=by
 simp[dG,ht,h0,hv,hle,hp]
def xG{T:TT}{t e:Nat}{ti ei:TI}(ht:T t=some ti)(hk:ti.kind= .slice e)(he:T e=some ei){x:AV}(hx:bI ei.size x=true)(hb:0<ei.bytes)(hs:0<ei.size)(hc:ei.bytes<=140737488355328)(h:Hp):
  appH T t false .hn (.sl [x]) h= .ok (.hs h.length 0 1 ei.size ei.agg) (h++[ab x]):=by
 have:bQ ei.size [x]=true:=by simp[bQ,hx]
 simp[appH,ht,hk,he,fk,this,hb,hs,jc,hc]
def xH{T:TT}{t e:Nat}{ti ei:TI}(ht:T t=some ti)(hk:ti.kind= .slice e)(he:T e=some ei){x:AV}(hx:bI ei.size x=true)(hb:0<ei.bytes)(hs:0<ei.size){h:Hp}{q n:Nat}{cs:List AV}(h0:h[q]? = some cs)(hok:cs.all aQ=true)(hl:cs.length=n*ei.size)(hn:0<n)(hc:(n+1)*ei.bytes<=140737488355328):appH T t false (.hs q 0 n ei.size ei.agg) (.sl [x]) h= .ok (.hs h.length 0 (n+1) ei.size ei.agg) ((h.set q [])++[cs++ab x]):=by
 have h1:bQ ei.size [x]=true:=by simp[bQ,hx]
 have h2:List.all cs aQ=true:=hok;have h3:0<n*ei.size:=EC hn hs;have h4:cs.take (n*ei.size)=cs:=by rw[<- hl];exact E0
 simp only[appH,ht,hk,he,fk,h1,hb,hs,jc,h0,h2,hl,EX,Ex,CV,Eo,Ea,List.isEmpty_cons,CY,Ej,List.flatMap_nil,DX,h3,h4,C0];rw[Dm hc];simp
abbrev Cv(e:Exp):Bool:=fb 12 e
theorem iD:∀(f u:Nat)(x:UInt8),x∈fG f u->48<=x.toNat/\x.toNat<=57
 |0,_,x,h=>by simp[fG]at h
 | f+1,u,x,h=>by
  simp only[fG]at h;by_cases h10:u<10
  ·rw[Dm h10]at h;simp only[CV,Dp]at h;subst h;simp[Fu];omega
  ·rw[DF h10]at h;simp only[CY,Di,Dp]at h;rcases h with h|rfl
   ·exact iD f _ x h
   ·simp[Fu];omega
theorem nT:∀(f u:Nat),fG (f+1) u≠[]
 |f,u=>by
  simp only[fG];cases decide (u<10)<;>simp
def q4{n:Int}(h0:0<=n):bA n=fG 20 n.toNat:=by unfold bA;rw[DF (by omega)];rfl
theorem kX:∀(f u:Nat),(fG f u).length<=f
 |0,_=>by simp[fG]
 |f+1,u=>by
  simp only[fG];cases decide (u<10)with
  |true=>simp
  |false=>have:=kX f (u / 10);simp;omega
def eJ(n:Int):(bA n).length<=21:=by
 unfold bA;cases decide (n<0)with
 |true=>have:=kX 20 n.natAbs;simp;omega
 |false=>have:=kX 20 n.toNat;simp;omega
theorem gO(d:Nat)(hd:d<10):∀(l:aS)(acc m:Nat),Lib.parseUint10 acc l= .ok m->m*10+d<18446744073709551616->Lib.parseUint10 acc (l++[UInt8.ofNat (48+d)])= .ok (m*10+d)
 |[],acc,m,h,hm=>by
  simp only[Lib.parseUint10]at h;cases h;have e:(UInt8.ofNat (48+d)).toNat=48+d:=by simp[Fu];omega
  simp only[DZ,Lib.parseUint10,e];rw[CW (by omega),if_neg (by omega),if_neg (by omega)];congr 1;omega
 | c :: l,acc,m,h,hm=>by
  simp only[DK,Lib.parseUint10]at h|-;split at h
  ·rename_i hc;rw[CW hc];split at h
   ·cases h
   ·rename_i h1;rw[if_neg h1];split at h
    ·cases h
    ·rename_i h2;rw[if_neg h2];exact gO d hd l _ m h hm
  ·cases h
theorem gM:∀(f u:Nat),u<10 ^ (f+1)->u<18446744073709551616->Lib.parseUint10 0 (fG (f+1) u)= .ok u
 | f,u,h,hb=>by
  rw[show fG (f+1) u=bif decide (u<10)then[UInt8.ofNat (48+u)]else fG f (u / 10)++[UInt8.ofNat (48+u % 10)]from rfl];by_cases h10:u<10
  ·rw[Dm h10]
   have:=gO u h10 [] 0 0 rfl (by omega)
   simpa using this
  ·rw[DF h10];simp only[CY];cases f with
   |zero=>omega
   |succ f=>
    have ih:=gM f (u / 10) (by rw[Nat.pow_succ]at h;omega) (by omega);rw[gO (u % 10) (by omega) _ 0 (u / 10) ih (by omega)];congr 1;omega
theorem qB(n:Int)(h0:-9223372036854775808<=n)(h1:n<=9223372036854775807):Lib.atoiAll (bA n)= .ok n:=by
 by_cases hn:0<=n
 ·rw[q4 hn];have hp:=gM 19 n.toNat (by omega) (by omega);cases hd:fG 20 n.toNat with
  |nil=>exact absurd hd (nT 19 _)
  |cons c r=>
   have hc:=iD 20 n.toNat c (by rw[hd];simp);rw[Lib.atoiAll_plain c r (by omega) (by omega),<- hd];unfold Lib.parseMag;rw[if_neg (nT 19 _),hp];simp only[Lib.signless];rw[if_neg (by omega)];congr 1;omega
 ·have e:bA n=45:: fG 20 n.natAbs:=by unfold bA;rw[Dm (by omega)];rfl
  have hp:=gM 19 n.natAbs (by omega) (by omega);have h45:(45:UInt8).toNat=45:=rfl;rw[e];unfold Lib.atoiAll;simp only[h45,or_true,Dv];unfold Lib.parseMag;rw[if_neg (nT 19 _),hp];simp only[not_true_eq_false,false_and,Dk,FP,Dv];rw[if_neg (by omega)];congr 1;omega
theorem lx{c:UInt8}:∀ {a:aS} (r:aS),c ∉ a->Lib.indexByte (a++c:: r) c=a.length
 |[],r,_=>by simp[Lib.indexByte]
 |x:: a,r,h=>by
  have hx:¬x=c:=fun e=>h (by simp[e]);have ih:=lx (c:=c) (a:=a) r (fun hm=>h (by simp[hm]));simp[Lib.indexByte,hx,ih]
def cu(c:UInt8)(sv:Nat)(s:aS):List aS:=Lib.splitK [c] sv (s.count c) s
def eN{c:UInt8}{sv:Nat}{s:aS}(h:c ∉ s):cu c sv s=[s]:=by
 unfold cu;rw[List.count_eq_zero.2 h];rfl
def jO{c:UInt8}{sv:Nat}{a:aS}(r:aS)(h:c ∉ a):cu c sv (a++c:: r)=(a++c:: r).take (a.length+sv):: cu c sv r:=by
 unfold cu;have hc:(a++c:: r).count c=r.count c+1:=by
  rw[List.count_append,List.count_eq_zero.2 h,List.count_cons_self];omega
 have hi:Lib.index (a++c:: r) [c]=a.length:=by rw[Lib.index_one,lx r h]
 have hne:((a.length:Int)== -1)=false:=by
  rw[Ep];omega
 have hd:(a++c:: r).drop (a.length+1)=r:=by
  rw[show a++c:: r=(a++[c])++r by simp];exact List.drop_left' (by simp)
 rw[hc];show (if Lib.index (a++c:: r) [c]== -1 then[a++c:: r]else(a++c:: r).take ((Lib.index (a++c:: r) [c]).toNat+sv):: Lib.splitK [c] sv (r.count c) ((a++c:: r).drop ((Lib.index (a++c:: r) [c]).toNat+1)))=_;rw[hi,hne,if_neg (by simp),Dn,hd]
def A0{c:UInt8}{a:aS}(r:aS)(h:c ∉ a):cu c 0 (a++c:: r)=a:: cu c 0 r:=by
 rw[jO r h];simp
def A1{c:UInt8}{a:aS}(r:aS)(h:c ∉ a):cu c 1 (a++c:: r)=(a++[c]):: cu c 1 r:=by
 rw[jO r h];congr 1;rw[show a++c:: r=(a++[c])++r by simp];exact Fe (by simp)
end Go.Av.Ap
