/- The abstract evaluator of the model and plain laws, part 3: its soundness holds for every program whose table of types is the evaluator's. No further condition. -/
import Derived.Test.YteemeakjlfnapaaGreatDoorLb
import Derived.KernelRfl
import Derived.Below
import Derived.Lib.IndexMore
import Derived.Lib.Fields
import Derived.Lib.AtoiAll
import Derived.Lib.SplitLaws
import Derived.Shelf.SlSortCmp.WholeK
import Derived.Lib.Bytealg
import Derived.IntWalk
import Derived.ChangeSame
import Derived.OpenShut
import Derived.ChangeReads
import Derived.ReadAgain
import Derived.Deep.Slices
import Derived.WideShapes
import Derived.SizedLaws
set_option linter.defProp false
set_option linter.unusedSimpArgs false
set_option linter.unusedVariables false
namespace Go.Av
variable [Dr]
def a6{α:Type}(m:M α):Prop:=∃o,m=af o
def cY{α:Type}(m:M α):Prop:=∀h,m h= .fail\/∃v,m h= .ok v h
def dq{α:Type}(m:M α):Prop:=∀h v h',m h≠.pan v h'
omit [Dr]in
theorem a6.read{α:Type}{m:M α}(h:a6 m):cY m:=by
 obtain⟨o,rfl⟩:=h;intro h;cases o with
 |none=>exact .inl rfl
 |some v=>exact .inr ⟨v,rfl⟩
omit [Dr]in
theorem cY.stay{α:Type}{m:M α}(g:cY m):dq m:=by
 intro h v h' hh;rcases g h with g|⟨x,g⟩<;>rw[g]at hh<;>cases hh
omit [Dr]in
theorem a6.bnd{α β:Type}{m:M α}(h:a6 m)(f:α->β):a6 (ae m fun v=>M.pure (f v)):=by
 obtain⟨o,rfl⟩:=h;cases o with
 |none=>exact⟨none,rfl⟩
 |some v=>exact⟨some (f v),rfl⟩
omit [Dr]in
theorem cY.bnd{α β:Type}{m:M α}(g:cY m)(f:α->β):cY (ae m fun v=>M.pure (f v)):=by
 intro h;simp only[Av.ae,M.pure];rcases g h with g|⟨x,g⟩<;>rw[g]
 ·exact .inl rfl
 ·exact .inr ⟨_,rfl⟩
omit [Dr]in
theorem dq.bnd{α β:Type}{m:M α}(g:dq m)(f:α->β):dq (ae m fun v=>M.pure (f v)):=by
 intro h v h' hh;simp only[Av.ae,M.pure]at hh;cases hm:m h<;>rw[hm]at hh<;>simp at hh;exact g _ _ _ hm
omit [Dr]in
theorem a6.lft{α:Type}(o:Option α):a6 (af o):=⟨o,rfl⟩
omit [Dr]in
theorem a6.pure{α:Type}(a:α):a6 (M.pure a):=⟨some a,rfl⟩
omit [Dr]in
theorem a6.fail{α:Type}:a6 (M.fail:M α):=⟨none,rfl⟩
def iU{α:Type}(m:M α):Prop:=∀h t v,m h= .ok v h->m (h++t)= .ok v (h++t)
def se{α:Type}(m:M α):Prop:=∀h v h',m h= .ok v h'->∃t,h'=h++t
omit [Dr]in
theorem a6.app{α:Type}{m:M α}(h:a6 m):iU m:=by
 obtain⟨o,rfl⟩:=h;intro h t v hh;cases o with
 |none=>cases hh
 |some x=>cases hh;rfl
omit [Dr]in
theorem a6.nw{α:Type}{m:M α}(h:a6 m):se m:=by
 obtain⟨o,rfl⟩:=h;intro h v h' hh;cases o with
 |none=>cases hh
 |some x=>cases hh;exact⟨[],by simp⟩
omit [Dr]in
theorem iU.bnd{α β:Type}{m:M α}(g:iU m/\cY m)(f:α->β):iU (ae m fun v=>M.pure (f v))/\cY (ae m fun v=>M.pure (f v)):=by
 refine⟨fun h t v hh=>?_,g.2.bnd f⟩;simp only[Av.ae,M.pure]at hh |-;rcases g.2 h with k|⟨x,k⟩
 ·rw[k]at hh;cases hh
 ·rw[k]at hh;cases hh;rw[g.1 h t x k]
omit [Dr]in
theorem se.bnd{α β:Type}{m:M α}(g:se m)(f:α->β):se (ae m fun v=>M.pure (f v)):=by
 intro h v h' hh;simp only[Av.ae,M.pure]at hh;cases hm:m h<;>rw[hm]at hh<;>simp at hh;obtain⟨t,ht⟩:=g _ _ _ hm;exact⟨t,by rw[<- hh.2,ht]⟩
def bm(p:∀ {α:Type},M α->Prop):Act1->Prop
 |.dyn m _=>p m
 |.thr _=>False
 |_=>True
structure IsoPure (cx:Cx):Prop where
 iso:∀f args,cx.iso f=true->a6 (cx.call f args)
 nw:∀f args,cx.nw f=true->se (cx.call f args)
section
variable {cx:Cx} {e:Env} {gid:Nat} {o:Oper}
omit [Dr]in
theorem bm.cond{p:∀ {α:Type},M α->Prop}{b:Bool}{x y:Act1}(h1:b=true->bm p x)(h2:b=false->bm p y):bm p (bif b then x else y):=by
 cases b with
 |true=>exact h1 rfl
 |false=>exact h2 rfl
omit [Dr]in
theorem bm.lft(o:Option AV)(sh:AV->Upd):bm a6 (.dyn (af o) sh):=a6.lft o
omit [Dr]in
theorem mT(T:TT)(t:TypeId)(x:AV):cY (bi T t x):=by
 have key:∀x,cY (fun h:Hp=>(match ah T t x with|some v=>R.ok v h|none=>.fail)):=by
  intro x h;cases hq:ah T t x with
  |none=>exact .inl rfl
  |some v=>exact .inr ⟨v,rfl⟩
 cases x with
 | hp l off=>
  intro h;simp only[bi];cases T t with
  |none=>exact .inl rfl
  | some ti=>
   cases h[l]? with
   |none=>exact .inl rfl
   | some cs=>
    simp only;cases ti.agg with
    |true=>
     simp only[GP];split
     ·exact .inr ⟨_,rfl⟩
     ·exact .inl rfl
    |false=>
     simp only[GV];cases cs[off]? with
     |none=>exact .inl rfl
     |some v=>exact .inr ⟨v,rfl⟩
 |_=>exact key _
omit [Dr]in
theorem rY(T:TT)(t:TypeId)(x y:AV):dq (bI T t x y):=by
 intro h v h' hh;unfold bI at hh;split at hh
 ·split at hh
  ·revert hh;generalize (_&&_:Bool)=b1;cases b1<;>simp
  ·cases hh
 ·cases hh
omit [Dr]in
theorem qM(T:TT)(t:TypeId)(x:AV):dq (pC T t x):=fun h v h' hh=>by cases hh
omit [Dr]in
theorem oS(cs:List AV):dq (newH cs):=by
 intro h v h' hh;unfold newH at hh;revert hh;generalize (_||_:Bool)=b1;cases b1<;>simp
omit [Dr]in
theorem vG(t:Nat)(cs:List AV):dq (vF t cs):=by
 intro h v h' hh;unfold vF at hh;split at hh
 ·revert hh;generalize List.any _ _=b1;cases b1<;>simp
 ·cases hh
omit [Dr]in
theorem pZ:dq ey:=by
 intro h v h' hh;cases hh
omit [Dr]in
theorem tc(T:TT)(t:TypeId)(x k:AV)(ok:Bool):cY (dN T t x k ok):=by
 intro h;unfold dN;cases ij h x with
 |none=>exact .inl rfl
 |some es=>
  simp only;cases lE T t es k ok with
  |none=>exact .inl rfl
  |some v=>exact .inr ⟨v,rfl⟩
omit [Dr]in
theorem uX{h s:Hp}{x:AV}{es:List AV}(hh:ij h x=some es):ij (h++s) x=some es:=by
 unfold ij at hh |-;cases x with
 | mp l=>
  simp only at hh |-;cases hl:h[l]? with
  |none=>rw[hl]at hh;cases hh
  | some cs=>
   rw[hl]at hh;have hl':(h++s)[l]? = some cs:=by
    rw[Il,GR (Hc.1 hl).1,hl]
   rw[hl'];exact hh
 |_=>exact hh
omit [Dr]in
theorem vC(T:TT)(t:TypeId)(x k:AV)(ok:Bool):iU (dN T t x k ok):=by
 intro h s v hh;unfold dN at hh |-;cases hs:ij h x with
 |none=>rw[hs]at hh;cases hh
 |some es=>
  rw[hs]at hh;rw[uX hs];simp only at hh |-;cases ha:lE T t es k ok with
  |none=>rw[ha]at hh;cases hh
  |some u=>rw[ha]at hh;cases hh;rfl
omit [Dr]in
theorem rJ(T:TT)(t:TypeId)(x:AV):dq (qb T t x):=fun h v h' hh=>by cases hh
omit [Dr]in
theorem qT(x:AV):cY (mD x):=fun h=>.inl rfl
omit [Dr]in
theorem sO(x:AV):iU (mD x):=fun h s v hh=>by cases hh
omit [Dr]in
theorem oY(T:TT)(t:TypeId)(x k y:AV):dq (kg T t x k y):=by
 intro h v h' hh;unfold kg at hh;split at hh
 ·cases hh
 ·revert hh;cases uT T 20 _ k with
  |false=>intro hh;cases hh
  | true=>
   simp only[GP];intro hh;split at hh
   ·split at hh
    ·split at hh
     ·cases hh
     ·cases hh
    ·cases hh
   ·cases hh
omit [Dr]in
theorem uJ(T:TT)(t:TypeId)(z:Bool)(x y:AV):dq (appH T t z x y):=by
 intro h v h' hh;unfold appH at hh;have hc:∀ {b:Bool} {r s:R AV},(∀v h',r≠.pan v h')->(∀v h',s≠.pan v h')->(bif b then r else s)≠.pan v h':=by
  intro b r s h1 h2;cases b
  ·exact h2 _ _
  ·exact h1 _ _
 split at hh
 ·cases hh
 ·split at hh
  ·split at hh
   ·cases hh
   ·split at hh
    ·cases hh
    ·refine hc (fun v h' hh=>?_) (fun v h' hh=>by cases hh) hh;split at hh
     ·revert hh;generalize List.isEmpty _=b1;generalize decide (_<=140737488355328)=b2;cases b1<;>cases b2<;>simp
     ·revert hh;generalize List.isEmpty _=b1;generalize decide (_<=140737488355328)=b2;cases z<;>cases b1<;>cases b2<;>simp
     ·split at hh
      ·cases hh
      ·revert hh;generalize (_&&_:Bool)=b1;generalize List.isEmpty _=b2;cases b1<;>cases b2<;>simp
     ·cases hh
  ·cases hh
omit [Dr]in
theorem uI(T:TT)(t:TypeId)(x y:AV):dq (uH T t x y):=by
 intro h v h' hh;unfold uH at hh;have hc:∀ {b:Bool} {r s:R AV},(∀v h',r≠.pan v h')->(∀v h',s≠.pan v h')->(bif b then r else s)≠.pan v h':=by
  intro b r s h1 h2;cases b
  ·exact h2 _ _
  ·exact h1 _ _
 split at hh
 ·cases hh
 ·split at hh
  ·split at hh
   ·cases hh
   ·refine hc (fun v h' hh=>?_) (fun v h' hh=>by cases hh) hh;split at hh
    ·cases hh
    ·split at hh
     ·cases hh
     ·split at hh
      ·revert hh;generalize List.isEmpty _=b1;generalize decide (_<=140737488355328)=b2;cases b1<;>cases b2<;>simp
      ·split at hh
       ·cases hh
       ·revert hh;generalize (_&&_:Bool)=b1;generalize List.isEmpty _=b2;cases b1<;>cases b2<;>simp
      ·cases hh
  ·cases hh
omit [Dr]in
theorem qI(T:TT)(t n:Nat)(ps:List (Nat×AV)):dq (pz T t n ps):=fun h v h' hh=>by cases hh
omit [Dr]in
theorem oR(told:Bool)(x:Operand):bm a6 (fS told e gid x):=by
 unfold fS;split
 ·trivial
 ·exact bm.cond (fun _=>bm.cond (fun _=>trivial) (fun _=>trivial)) (fun _=>trivial)
omit [Dr]in
theorem ta(d:Option Tmp)(t:TypeId)(p:Nat):bm cY (dl cx e d t p)/\(bD cx.ann.hl d=false->bm a6 (dl cx e d t p)):=by
 unfold dl;split
 ·split
  ·exact⟨trivial,fun _=>trivial⟩
  ·constructor
   ·exact bm.cond (fun _=>bm.cond (fun _=>trivial) (fun _=>bm.cond (fun _=>trivial) (fun _=>trivial))) (fun _=>trivial)
   ·exact fun _=>bm.cond (fun _=>bm.cond (fun _=>trivial) (fun _=>bm.cond (fun _=>trivial) (fun _=>trivial))) (fun _=>trivial)
 ·cases hm:bD cx.ann.hl d with
  |true=>exact⟨mT _ _ _,fun h=>by cases h⟩
  |false=>exact⟨(a6.lft _).read,fun _=>a6.lft _⟩
omit [Dr]in
theorem vB(T:TT)(t:TypeId)(x:AV):iU (bi T t x):=by
 intro h s v hh;have hk:∀y,(match ah T t y with|some v=>R.ok v h|none=>.fail)=R.ok v h->(match ah T t y with|some v=>R.ok v (h++s)|none=>.fail)=R.ok v (h++s):=by
  intro y hy;cases hq:ah T t y with
  |none=>rw[hq]at hy;cases hy
  |some u=>rw[hq]at hy;cases hy;rfl
 unfold bi at hh |-;cases x with
 | hp l off=>
  simp only at hh |-;cases hT:T t with
  |none=>rw[hT]at hh;cases hh
  | some ti=>
   rw[hT]at hh;cases hl:h[l]? with
   |none=>rw[hl]at hh;cases hh
   | some cs=>
    have hl':(h++s)[l]? = some cs:=by
     rw[Il]
     have:=(Hc.1 hl).1
     rw[GR this,hl]
    rw[hl]at hh;rw[hl'];simp only at hh |-;cases hag:ti.agg with
    |true=>
     rw[hag]at hh;simp only[GP]at hh |-;split at hh
     ·rename_i hc;cases hh;rw[GR hc]
     ·cases hh
    |false=>
     rw[hag]at hh;simp only[GV]at hh |-;cases hq:cs[off]? with
     |none=>rw[hq]at hh;cases hh
     |some u=>rw[hq]at hh;cases hh;rfl
 |_=>exact hk _ hh
omit [Dr]in
theorem yb(d:Option Tmp)(t:TypeId)(p:Nat):bm (fun m=>iU m/\cY m) (dl cx e d t p):=by
 unfold dl;split
 ·split
  ·trivial
  ·exact bm.cond (fun _=>bm.cond (fun _=>trivial) (fun _=>bm.cond (fun _=>trivial) (fun _=>trivial))) (fun _=>trivial)
 ·cases hm:bD cx.ann.hl d with
  |true=>exact⟨vB _ _ _,mT _ _ _⟩
  |false=>exact⟨(a6.lft _).app,(a6.lft _).read⟩
omit [Dr]in
theorem xN{A:Act1}(h:bm dq A):bm dq (CY A):=by
 cases A with
 |bad=>trivial
 |stat u=>intro h v h' hh;cases hh
 |dyn m sh=>
  intro x v h' hh;simp only[Av.ae,tZ]at hh;cases hm:m x<;>rw[hm]at hh<;>simp at hh;exact h _ _ _ hm
 |thr v=>exact h.elim
omit [Dr]in
theorem sW(t p i:Nat):bm a6 (fD cx e t p i):=by
 unfold fD;split
 ·split
  ·trivial
  ·split
   ·trivial
   ·split
    ·trivial
    ·exact bm.cond (fun _=>trivial) (fun _=>trivial)
 ·exact a6.lft _
omit [Dr]in
theorem s6(t p:Nat)(i:Operand):bm a6 (cT cx e t p i):=by
 unfold cT;split
 ·split
  ·split
   ·split
    ·trivial
    ·exact bm.cond (p:=a6) (fun _=>trivial) (fun _=>trivial)
   ·trivial
  ·trivial
 ·exact a6.lft _
omit [Dr]in
theorem tE(t p:Nat)(y:Operand):bm dq (eC cx e gid t p y):=by
 have hl:∀o:Option AV,dq (Av.af o):=fun o=>(a6.lft o).read.stay;unfold eC;split
 ·split
  ·trivial
  ·refine bm.cond (fun _=>bm.cond (fun _=>bm.cond (fun _=>hl _) (fun _=>trivial)) (fun _=>bm.cond (fun _=>hl _) (fun _=>bm.cond (fun _=>?_) (fun _=>trivial)))) (fun _=>trivial);split
   ·split
    ·exact hl _
    ·trivial
   ·exact bm.cond (fun _=>trivial) (fun _=>hl _)
 ·exact rY _ _ _ _
omit [Dr]in
theorem tD(t p:Nat)(y:Operand)(hl:fO (e.get p)=true):bm a6 (eC cx e gid t p y):=by
 have hl':∀o:Option AV,a6 (Av.af o):=fun o=>a6.lft o;unfold eC;cases hv:(e.get p).v with
 |val a=>simp[fO,hv]at hl
 | loc B off=>
  simp only;split
  ·trivial
  ·refine bm.cond (fun _=>bm.cond (fun _=>bm.cond (fun _=>hl' _) (fun _=>trivial)) (fun _=>bm.cond (fun _=>hl' _) (fun _=>bm.cond (fun _=>?_) (fun _=>trivial)))) (fun _=>trivial);split
   ·split
    ·exact hl' _
    ·trivial
   ·exact bm.cond (fun _=>trivial) (fun _=>hl' _)
omit [Dr]in
theorem g9(s t:Nat):bm dq (ez cx e gid s t)/\(bU cx.ann.kinds s .L≠.H->bU cx.ann.kinds s .L≠.B->bm a6 (ez cx e gid s t)):=by
 unfold ez;split
 ·exact⟨trivial,fun _ _=>trivial⟩
 ·cases hk:bU cx.ann.kinds s .L with
  |F=>exact⟨trivial,fun _ _=>trivial⟩
  |H=>exact⟨oS _,fun h=>absurd rfl h⟩
  |B=>exact⟨vG _ _,fun _ h=>absurd rfl h⟩
  |L=>exact⟨bm.cond (fun _=>trivial) (fun _=>trivial),fun _ _=>bm.cond (fun _=>trivial) (fun _=>trivial)⟩
  |S=>exact⟨bm.cond (fun _=>trivial) (fun _=>trivial),fun _ _=>bm.cond (fun _=>trivial) (fun _=>trivial)⟩
omit [Dr]in
theorem ol(s t:Nat)(x:Operand):bm dq (iB cx e s t x)/\(bU cx.ann.kinds s .F≠.H->bm a6 (iB cx e s t x)):=by
 have hl:∀o:Option AV,dq (Av.af o):=fun o=>(a6.lft o).read.stay;unfold iB;cases hk:bU cx.ann.kinds s .F with
 |F=>exact⟨trivial,fun _=>trivial⟩
 |H=>exact⟨oS _,fun h=>absurd rfl h⟩
 |B=>exact⟨trivial,fun _=>trivial⟩
 |L=>
  simp only;split
  ·exact⟨trivial,fun _=>trivial⟩
  ·exact⟨bm.cond (fun _=>hl _) (fun _=>trivial),fun _=>bm.cond (fun _=>a6.lft _) (fun _=>trivial)⟩
 |S=>
  simp only;split
  ·exact⟨trivial,fun _=>trivial⟩
  ·exact⟨bm.cond (fun _=>hl _) (fun _=>trivial),fun _=>bm.cond (fun _=>a6.lft _) (fun _=>trivial)⟩
structure Class (f:Foot) (A:Act1):Prop where
 stay:f.piv=false->bm dq A
 read:f.wh=false->bm cY A
 pure:f.wh=false->f.rh=false->bm a6 A
 app:f.wh=false->bm (fun m=>iU m/\cY m) A
 nw:f.nw=true->bm se A
omit [Dr]in
theorem bm.imp{p q:∀ {α:Type},M α->Prop}(hpq:∀ {α:Type} (m:M α),p m->q m){A:Act1}(h:bm p A):bm q A:=by
 cases A<;>first|trivial|exact hpq _ h|exact h
omit [Dr]in
theorem Class.of_pure{f:Foot}{A:Act1}(h:bm a6 A):Class f A:=
 ⟨fun _=>h.imp fun _ g=>g.read.stay,fun _=>h.imp fun _ g=>g.read,fun _ _=>h,fun _=>h.imp fun _ g=>⟨g.app,g.read⟩,fun _=>h.imp fun _ g=>g.nw⟩
omit [Dr]in
theorem iU.nw{α:Type}{m:M α}(h:cY m):se m:=fun x v h' hh=>by
 rcases h x with g|⟨u,g⟩
 ·rw[g]at hh;cases hh
 ·rw[g]at hh;cases hh;exact⟨[],by simp⟩
omit [Dr]in
theorem Class.of_app{f:Foot}{A:Act1}(_hw:f.wh=false)(hr:f.rh=true)(h:bm (fun m=>iU m/\cY m) A):Class f A:=
 ⟨fun _=>h.imp fun _ g=>g.2.stay,fun _=>h.imp fun _ g=>g.2,fun _ h=>by(rw[hr]at h;cases h),fun _=>h,fun _=>h.imp fun _ g=>iU.nw g.2⟩
omit [Dr]in
theorem od(T:TT)(t:TypeId)(x y:AV):cY (qC T t x y):=by
 intro h;unfold qC;cases nW h y with
 |none=>exact .inl rfl
 |some es=>
  simp only;cases dz T t x (.sl es)with
  |none=>exact .inl rfl
  |some v=>exact .inr ⟨v,rfl⟩
omit [Dr]in
theorem yG{h s:Hp}{y:AV}{es:List AV}(hh:nW h y=some es):nW (h++s) y=some es:=by
 unfold nW at hh |-;split at hh
 ·rename_i l off len sz ag;cases hl:h[l]? with
  |none=>rw[hl]at hh;cases hh
  | some cs=>
   rw[hl]at hh;have hl':(h++s)[l]? = some cs:=by
    rw[Il]
    have:=(Hc.1 hl).1
    rw[GR this,hl]
   simp only[hl'];exact hh
 ·exact hh
 ·exact hh
 ·cases hh
omit [Dr]in
theorem qD(T:TT)(t:TypeId)(x y:AV):iU (qC T t x y):=by
 intro h s v hh;unfold qC at hh |-;cases hs:nW h y with
 |none=>rw[hs]at hh;cases hh
 |some es=>
  rw[hs]at hh;rw[yG hs];simp only at hh |-;cases ha:dz T t x (.sl es)with
  |none=>rw[ha]at hh;cases hh
  |some u=>rw[ha]at hh;cases hh;rfl
omit [Dr]in
theorem Class.of_stay{f:Foot}{A:Act1}(hw:f.wh=true)(hn:f.nw=false)(h:bm dq A):Class f A:=
 ⟨fun _=>h,fun h=>by(rw[hw]at h;cases h),fun h=>by(rw[hw]at h;cases h),fun h=>by(rw[hw]at h;cases h),fun h=>by(rw[hn]at h;cases h)⟩
omit [Dr]in
theorem Class.of_piv{f:Foot}{A:Act1}(hw:f.wh=true)(h:f.piv=true)(hn:f.nw=true->bm se A):Class f A:=
 ⟨fun h'=>by(rw[h]at h';cases h'),fun h=>by(rw[hw]at h;cases h),fun h=>by(rw[hw]at h;cases h),fun h=>by(rw[hw]at h;cases h),hn⟩
omit [Dr]in
theorem sD(hI:IsoPure cx){c:Call}(ho:o.op= .call c):Class (ap cx o) (eA cx e gid o c):=by
 unfold eA;cases hc:c.callee with
 |invoke r m=>exact .of_pure trivial
 | value x=>
  cases x with
  | func f=>
   simp only;cases hfz:bD cx.ann.fz o.dst with
   | true=>
    simp only[GP];cases hq:!(cx.iso f)&&!(cx.nw f)&&(cx.own f).isNone with
    |false=>exact .of_pure trivial
    |true=>
     simp only[GO,HC]at hq;exact .of_piv (by unfold ap;rw[ho];simp only[hc,hq.1.1,GV]) (by unfold ap;rw[ho];simp only[hc,hq.1.1,GV]) fun hn=>by unfold ap at hn;rw[ho]at hn;simp only[hc,hq.1.1,GV,hq.1.2]at hn;cases hn
   |false=>
   simp only[GV];cases hi:cx.iso f with
   |true=>exact .of_pure (hI.iso f _ hi)
   |false=>exact .of_piv (by unfold ap;rw[ho];simp only[hc,hi,GV]) (by unfold ap;rw[ho];simp only[hc,hi,GV]) fun hn=>hI.nw f _ (by unfold ap at hn;rw[ho]at hn;simpa only[hc,hi,GV]using hn)
  |_=>exact .of_piv (by unfold ap;rw[ho];simp only[hc]) (by unfold ap;rw[ho];simp only[hc]) fun hn=>by unfold ap at hn;rw[ho]at hn;simp[hc]at hn
 | builtin b=>
  cases b<;>simp only<;>(try exact .of_pure trivial)
  case clear=>
   have hw:(ap cx o).wh=true/\(ap cx o).nw=false:=by unfold ap;rw[ho];simp only[hc];exact⟨trivial,trivial⟩
   split
   ·exact .of_stay hw.1 hw.2 (qM _ _ _)
   ·exact .of_pure trivial
  case append=>
   split
   ·cases hu:fq cx.T _ with
    |false=>exact .of_pure trivial
    | true=>
     simp only[H8,GV];cases hha:bD cx.ann.ha o.dst with
     | true=>exact .of_stay (by unfold ap;rw[ho];simp only[hc,hha,GP]) (by unfold ap;rw[ho];simp only[hc,hha,GP]) (by
       cases bD cx.ann.hb o.dst with
       |true=>simp only[GP];exact uI _ _ _ _
       |false=>exact uJ _ _ _ _ _)
     | false=>
      simp only[GV];cases hhl:bD cx.ann.hl o.dst with
      | true=>
       refine .of_app (by unfold ap;rw[ho];simp only[hc,hha,GV]) (by unfold ap;rw[ho];simp only[hc,hha,hhl,GV]) ?_;simp only[GP];refine bm.cond (fun _=>⟨qD _ _ _ _,od _ _ _ _⟩) (fun _=>?_);split
       ·split
        ·trivial
        ·split
         ·trivial
         ·exact bm.cond (fun _=>⟨qD _ _ _ _,od _ _ _ _⟩) (fun _=>trivial)
       ·trivial
      | false=>
       refine .of_pure ?_;simp only[GV];refine bm.cond (fun _=>a6.lft _) (fun _=>?_);split
       ·split
        ·trivial
        ·split
         ·trivial
         ·exact bm.cond (fun _=>a6.lft _) (fun _=>trivial)
       ·trivial
   ·exact .of_pure trivial
  case len=>
   split
   ·exact .of_pure (a6.lft _)
   ·exact .of_pure trivial
  case min=>exact .of_pure (a6.lft _)
  case max=>exact .of_pure (a6.lft _)
omit [Dr]in
theorem dK(hI:IsoPure cx)(e:Env)(gid:Nat)(o:Oper):Class (ap cx o) (eB cx e gid o):=by
 unfold eB;cases ho:o.op<;>simp only<;>(try exact .of_pure (a6.lft _))<;>(try exact .of_pure trivial)
 case binOp=>exact .of_pure (bm.cond (fun _=>trivial) fun _=>a6.lft _)
 case buildSlice t n ps=>
  cases hha:bD cx.ann.ha o.dst with
  |true=>exact .of_stay (by unfold ap;rw[ho];simp only[hha,GP]) (by unfold ap;rw[ho];simp only[hha,GP]) (qI _ _ _ _)
  |false=>exact .of_pure (a6.lft _)
 case move x=>exact .of_pure (oR _ x)
 case assign x=>exact .of_pure (oR _ x)
 case box t x=>
  cases hd:o.dst with
  |none=>exact .of_pure trivial
  |some s=>
   cases hk:bU cx.ann.kinds s .F with
   |H=>exact .of_stay (by unfold ap;rw[ho];simp only[hd,hk]) (by unfold ap;rw[ho];simp only[hd,hk]) (ol s t x).1
   |_=>exact .of_pure ((ol s t x).2 (by rw[hk];simp))
 case alloc t=>
  cases hd:o.dst with
  |none=>exact .of_pure trivial
  |some s=>
   cases hk:bU cx.ann.kinds s .L with
   |H=>exact .of_stay (by unfold ap;rw[ho];simp only[hd,hk]) (by unfold ap;rw[ho];simp only[hd,hk]) (g9 s t).1
   |B=>exact .of_stay (by unfold ap;rw[ho];simp only[hd,hk]) (by unfold ap;rw[ho];simp only[hd,hk]) (g9 s t).1
   |_=>exact .of_pure ((g9 s t).2 (by rw[hk];simp) (by rw[hk];simp))
 case load t x=>
  cases x with
  |tmp p=>
   have h:=ta (cx:=cx) (e:=e) o.dst t p;simp only;cases hnl:bD cx.ann.nl o.dst&&fO (e.get p)with
   |true=>exact .of_pure trivial
   |false=>
   simp only[GV];cases hz:bD cx.ann.fz o.dst with
   |true=>exact .of_stay (by unfold ap;rw[ho];exact hz) (by unfold ap;rw[ho]) (xN (h.1.imp fun _ g=>g.stay))
   |false=>exact⟨fun _=>h.1.imp fun _ g=>g.stay,fun _=>h.1,fun _ hr=>h.2 (by unfold ap at hr;rw[ho]at hr;exact hr),fun _=>yb o.dst t p,fun hn=>by unfold ap at hn;rw[ho]at hn;cases hn⟩
  |_=>exact .of_pure trivial
 case store t x y=>
  cases x with
  | tmp p=>
   cases hd:o.dst with
   |some d=>exact .of_pure trivial
   | none=>
    simp only;cases hlw:dY cx.ann.lw p with
    |false=>exact .of_stay (by unfold ap;rw[ho];simp[hlw]) (by unfold ap;rw[ho]) (by simp only[I3,GV];exact tE t p y)
    |true=>
     cases hlo:fO (e.get p)with
     |false=>exact .of_pure trivial
     |true=>exact .of_pure (by simp only[H8,Jf,GV];exact tD t p y hlo)
  |_=>exact .of_pure trivial
 case nilCheck x=>
  cases x with
  |tmp p=>
   simp only;split
   ·exact .of_pure trivial
   ·exact .of_pure (a6.lft _)
  |_=>exact .of_pure trivial
 case fieldAddr t x i=>cases x<;>first|exact .of_pure (sW _ _ _)|exact .of_pure trivial
 case indexAddr t x i=>cases x<;>first|exact .of_pure (s6 _ _ _)|exact .of_pure trivial
 case slice t x lo hi mx=>
  refine .of_pure (bm.cond (fun _=>?_) fun _=>a6.lft _);unfold kb;split
  ·split
   ·trivial
   ·split
    ·exact bm.cond (fun _=>a6.lft _) fun _=>trivial
    ·trivial
  ·trivial
 case makeMap t r=>exact .of_stay (by unfold ap;rw[ho]) (by unfold ap;rw[ho]) (bm.cond (fun _=>trivial) fun _=>pZ)
 case lookup t x i ok=>exact .of_app (by unfold ap;rw[ho]) (by unfold ap;rw[ho]) ⟨vC _ _ _ _ _,tc _ _ _ _ _⟩
 case mapUpdate t m k x=>exact .of_stay (by unfold ap;rw[ho]) (by unfold ap;rw[ho]) (by unfold iC;split;exact oY _ _ _ _ _;trivial)
 case insert t m k x=>exact .of_stay (by unfold ap;rw[ho]) (by unfold ap;rw[ho]) (by unfold iC;split;exact oY _ _ _ _ _;trivial)
 case range t x=>exact .of_stay (by unfold ap;rw[ho]) (by unfold ap;rw[ho]) (rJ _ _ _)
 case entry x=>exact .of_app (by unfold ap;rw[ho]) (by unfold ap;rw[ho]) ⟨sO _,qT _⟩
 case panic x=>
  refine .of_piv ?_ ?_ ?_
  ·unfold ap;rw[ho]
  ·unfold ap;rw[ho]
  ·intro hn;unfold ap at hn;rw[ho]at hn;cases hn
 case call c=>exact sD hI ho
end
end Go.Av
namespace Go.Av
variable [Dr]
structure EqE (e e':Env):Prop where
 get:∀t,e'.get t=e.get t
 al:∀g,aD e'.al g=aD e.al g
 lb:∀B,bb e'.lb B=bb e.lb B
 lf:∀B,aQ e'.sl B=aQ e.sl B
omit [Dr]in
theorem EqE.refl(e:Env):EqE e e:=⟨fun _=>rfl,fun _=>rfl,fun _=>rfl,fun _=>rfl⟩
omit [Dr]in
theorem EqE.symm{e e':Env}(h:EqE e e'):EqE e' e:=⟨fun t=>(h.get t).symm,fun t=>(h.al t).symm,fun t=>(h.lb t).symm,fun t=>(h.lf t).symm⟩
omit [Dr]in
theorem EqE.trans{a b c:Env}(h:EqE a b)(g:EqE b c):EqE a c:=
 ⟨fun t=>(g.get t).trans (h.get t),fun t=>(g.al t).trans (h.al t),fun t=>(g.lb t).trans (h.lb t),fun t=>(g.lf t).trans (h.lf t)⟩
def RE:R Env->R Env->Prop
 |.fail,_=>True
 |.ok e h,r=>∃e',r= .ok e' h/\EqE e e'
 |.pan v h,r=>r= .pan v h
omit [Dr]in
theorem RE.refl(r:R Env):RE r r:=by
 cases r with
 |ok e h=>exact⟨e,rfl,.refl e⟩
 |pan v h=>exact rfl
 |fail=>trivial
omit [Dr]in
theorem RE.trans{a b c:R Env}(h:RE a b)(g:RE b c):RE a c:=by
 cases a with
 |ok e x=>
  obtain⟨e',rfl,h⟩:=h;obtain⟨e2,rfl,g⟩:=g;exact⟨e2,rfl,h.trans g⟩
 |pan v x=>cases h;exact g
 |fail=>trivial
omit [Dr]in
theorem gk(l r:List (Nat×Ent))(t:Nat):bq (l++r) t=if(∃x∈l,x.1=t)then bq l t else bq r t:=by
 induction l with
 |nil=>simp
 | cons x l ih=>
  obtain⟨k,y⟩:=x;rw[Ht,bP,bP];by_cases hk:k=t
  ·subst hk;simp
  ·rw[if_neg hk,if_neg hk,ih];have:(∃x∈(k,y):: l,x.1=t)↔(∃x∈l,x.1=t):=by
    simp only[Hg,exists_eq_or_imp];constructor
    ·rintro (h|h)
     ·exact absurd h hk
     ·exact h
    ·exact .inr
   simp only[this]
omit [Dr]in
theorem mY{l:List (Nat×Ent)}(r:List (Nat×Ent)){t:Nat}(h:∀x∈l,x.1≠t):bq (l++r) t=bq r t:=by
 rw[gk,if_neg];rintro⟨x,hx,ht⟩;exact h x hx ht
omit [Dr]in
theorem gl(d:Option Tmp)(x:Ent)(r:List (Nat×Ent))(t:Nat):bq (nG d x r) t=if d=some t then x else bq r t:=by
 cases d with
 |none=>simp[nG]
 |some s=>simp only[nG,bP,GN]
omit [Dr]in
theorem lF{l r s:List (Nat×Ent)}{t:Nat}(h:bq r t=bq s t):bq (l++r) t=bq (l++s) t:=by
 rw[gk,gk,h]
omit [Dr]in
theorem fj(l r:List (Nat×Ent))(B:Nat):aQ (l++r) B=(aQ l B&&aQ r B):=by
 unfold aQ;rw[List.all_append]
def jJ(x:Ent)(B:Nat):Bool:=match x.v with
 |.loc C _=>!(Nat.beq C B)
 |.val _=>true
omit [Dr]in
theorem dA(d:Option Tmp)(x:Ent)(r:List (Nat×Ent))(B:Nat):aQ (nG d x r) B=((d.isNone||jJ x B)&&aQ r B):=by
 cases d with
 |none=>simp[nG]
 |some t=>rfl
omit [Dr]in
theorem jX{l:List (Nat×Ent)}{B t C off:Nat}(h:aQ l B=true)(ht:(bq l t).v= .loc C off):C≠B:=by
 induction l with
 |nil=>simp[bq,Ent.none]at ht
 | cons x l ih=>
  obtain⟨k,y⟩:=x;rw[bP]at ht;simp only[aQ,HY,GO]at h;split at ht
  ·rw[ht]at h;have h1:=h.1;simp only[HC]at h1;intro hc;rw[hc,Js]at h1;cases h1
  ·exact ih (by unfold aQ;exact h.2) ht
omit [Dr]in
theorem dy(l r:List (Nat×Option Nat))(g:Nat):aD (l++r) g=(match aD l g with|some z=>some z|none=>aD r g):=by
 induction l with
 |nil=>rfl
 |cons x l ih=>
  obtain⟨k,y⟩:=x;rw[Ht,bB,bB];split
  ·rfl
  ·exact ih
omit [Dr]in
theorem ll{l:List (Nat×Option Nat)}{k g:Nat}(h:∀x∈l,x.1=k)(hg:g≠k):aD l g=none:=by
 induction l with
 |nil=>rfl
 | cons x l ih=>
  obtain⟨j,y⟩:=x;rw[bB,if_neg]
  ·exact ih fun x hx=>h x (by simp[hx])
  ·have:=h (j,y) (by simp)
   simp at this;omega
omit [Dr]in
theorem jW(r:List (Nat×Nat))(k B:Nat):bb (iX r k) B=if k=B then none else bb r B:=by
 induction r with
 |nil=>simp[iX,bb]
 | cons x r ih=>
  obtain⟨j,y⟩:=x;simp only[iX];by_cases hj:j=k
  ·subst hj;simp only[Js,GP,ih,de];split<;>rfl
  ·have:Nat.beq j k=false:=by rw[H3];intro hh;exact hj (GU hh)
   simp only[this,GV,de,ih];by_cases hg:j=B
   ·subst hg;rw[GR rfl,if_neg (fun h=>hj h.symm),GR rfl]
   ·rw[if_neg hg,if_neg hg]
omit [Dr]in
theorem EqE.upd{e e':Env}(h:EqE e e')(d:Option Tmp)(u:Upd):EqE (e.upd d u) (e'.upd d u):=by
 refine⟨fun t=>?_,fun g=>?_,fun B=>?_,fun B=>?_⟩
 ·show bq (nG d u.ent (u.ls++e'.sl)) t=bq (nG d u.ent (u.ls++e.sl)) t;rw[gl,gl,lF (h.get t)]
 ·show aD (u.add++dt e'.al u.drop) g=aD (u.add++dt e.al u.drop) g;have:aD (dt e'.al u.drop) g=aD (dt e.al u.drop) g:=by
   cases u.drop with
   |none=>exact h.al g
   |some k=>simp only[dt,g8,h.al g]
  rw[dy,dy,this]
 ·show bb (jc (di e'.lb u.unlb) u.lb) B=bb (jc (di e.lb u.unlb) u.lb) B;have:bb (di e'.lb u.unlb) B=bb (di e.lb u.unlb) B:=by
   cases u.unlb with
   |none=>exact h.lb B
   |some k=>simp only[di,jW,h.lb B]
  cases u.lb with
  |none=>exact this
  |some x=>
   obtain⟨k,n⟩:=x;simp only[jc,de,this]
 ·show aQ (nG d u.ent (u.ls++e'.sl)) B=aQ (nG d u.ent (u.ls++e.sl)) B;rw[dA,dA,fj,fj,h.lf B]
section
variable {cx:Cx} {ops:Array Oper} {base:Nat}
def dJ(ops:Array Oper)(o:Oper):List Nat:=match o.guard with
 |some (j,_)=>(match (ops[j]?).bind (·.dst)with|some t=>[t]|none=>[])
 |none=>[]
omit [Dr]in
theorem eS{i:Nat}{o:Oper}(ho:ops[i]? = some o):cw ops i=dJ ops o++ga o:=by
 unfold cw dJ;rw[ho];rfl
omit [Dr]in
theorem eJ{e e':Env}{i:Nat}{o:Oper}(ho:ops[i]? = some o)(hg:∀t∈dJ ops o,e'.get t=e.get t)(A:Agree cx o e e'){h:Hp}(hr:dT cx base ops i e h≠.fail):dT cx base ops i e' h=dT cx base ops i e h:=by
 unfold dT at hr |-;rw[ho]at hr;rw[ho];simp only at hr |-;have key:∀ {A':Act1->Act1} ,(∀h,dc (A' .bad) h= .fail)->dc (A' (eB cx e ((base+i)*1000) o)) h≠.fail->dc (A' (eB cx e' ((base+i)*1000) o)) h=dc (A' (eB cx e ((base+i)*1000) o)) h:=by
  intro A' h1 h2;rw[vL A];intro hb;rw[hb]at h2;exact h2 (h1 h)
 cases hgd:o.guard with
 |none=>
  rw[hgd]at hr;exact key (A':=id) (fun _=>rfl) hr
 | some g=>
  obtain⟨j,want⟩:=g;rw[hgd]at hr;simp only at hr |-;cases hdj:cP ops j with
  |none=>rfl
  | some t=>
   rw[hdj]at hr;simp only at hr |-;cases hpl:dL cx o with
   |false=>rfl
   | true=>
    rw[hpl]at hr;simp only[GP]at hr |-;have ht:e'.get t=e.get t:=hg t (by unfold dJ;rw[hgd];simp only;rw[show (ops[j]?).bind (·.dst)=some t from hdj];simp);have hav:e'.av t=e.av t:=by simp only[Env.av,ht]
    rw[hav];cases hq:e.av t with
    | bool b=>
     rw[hq]at hr;simp only[gT]at hr |-;cases hb:(b== want)with
     |false=>rfl
     |true=>
      rw[hb]at hr;exact key (A':=fv) (fun _=>rfl) hr
    |tup vs=>cases vs<;>rfl
    |_=>rfl
omit [Dr]in
theorem EqE.agree{e e':Env}(h:EqE e e')(o:Oper):Agree cx o e e':=
 ⟨fun t _=>h.get t,fun _=>⟨fun t _=>h.get t,h.lb⟩,fun _=>h.al,fun _ s _ hl=>by rw[h.lf];exact hl⟩
omit [Dr]in
theorem rX{e e':Env}(h:EqE e e')(i:Nat)(x:Hp):RE (stepG cx base ops i e x) (stepG cx base ops i e' x):=by
 unfold stepG;simp only[ae,M.pure];cases hr:dT cx base ops i e x with
 |fail=>trivial
 | _=>
  have ho:∃o,ops[i]? = some o:=by
   cases ho:ops[i]? with
   |none=>unfold dT at hr;rw[ho]at hr;cases hr
   |some o=>exact⟨o,rfl⟩
  obtain⟨o,ho⟩:=ho;rw[eJ ho (fun t _=>h.get t) (h.agree o) (by rw[hr];simp),hr]
  first
   |exact⟨_,rfl,h.upd _ _⟩
   |exact rfl
omit [Dr]in
theorem RE.bind{m m':M Env}{x x':Hp}(h:RE (m x) (m' x')){f f':Env->M Env}(hf:∀e e' x,EqE e e'->RE (f e x) (f' e' x)):RE (ae m f x) (ae m' f' x'):=by
 simp only[ae];revert h;generalize m x=r;generalize m' x'=r';intro h;cases r with
 |ok e x=>obtain⟨e',rfl,h⟩:=h;exact hf e e' x h
 |pan v x=>cases h;exact rfl
 |fail=>trivial
omit [Dr]in
theorem kj:∀(l:List Nat){e e':Env}(_:EqE e e')(x:Hp),RE (aO cx base ops l e x) (aO cx base ops l e' x)
 |[],e,e',h,x=>⟨e',rfl,h⟩
 |i:: l,e,e',h,x=>by
  exact RE.bind (rX h i x) fun e e' x h=>kj l h x
end
end Go.Av
namespace Go.Av
variable [Dr]
omit [Dr]in
theorem rD{l:List Nat}{t:Nat}(h:t∈l):dY l t=true:=(fk l t).2 h
omit [Dr]in
theorem jZ{l:List Nat}{d:Option Nat}(h:bD l d=false):∀t∈l,d≠some t:=by
 intro t ht hd;rw[hd]at h;simp only[bD]at h;rw[rD ht]at h;cases h
omit [Dr]in
theorem kS{a b:Option Nat}(h:clash a b=false):∀t,a=some t->b≠some t:=by
 intro t ha hb;rw[ha,hb]at h;simp[clash]at h
section
variable {cx:Cx} {ops:Array Oper} {base:Nat} {e:Env}
omit [Dr]in
theorem qi{gid:Nat}{f:Foot}{ss:Option Nat}{u:Upd}(h:Shape e gid f ss u):Shape e gid f ss (eY u):=
 ⟨fun _=>rfl,fun _=>rfl,fun _=>rfl,fun _ x h=>by simp[eY]at h,fun _=>rfl,fun _=>rfl,fun hw C off hh=>h.loc hw C off hh,fun x h=>by simp[eY]at h⟩
omit [Dr]in
theorem tG{p q:Upd->Prop}(hpq:∀u,p u->q (eY u)){A:Act1}(h:bW p A):bW q (fv A):=by
 cases A with
 |bad=>trivial
 |stat u=>exact hpq _ h
 |dyn m sh=>exact fun v=>hpq _ (h v)
 |thr v=>trivial
omit [Dr]in
theorem yM{p:∀ {α:Type},M α->Prop}{A:Act1}(h:bm p A):bm p (fv A):=by
 cases A<;>exact h
omit [Dr]in
theorem mg{i:Nat}{o:Oper}(ho:ops[i]? = some o){h h':Hp}{u:Upd}(hr:dT cx base ops i e h= .ok u h'):Shape e ((base+i)*1000) (ap cx o) (bV o) u:=by
 unfold dT at hr;rw[ho]at hr;simp only at hr;cases hgd:o.guard with
 |none=>rw[hgd]at hr;exact iH (iP _ _ _ _) hr
 | some g=>
  obtain⟨j,want⟩:=g;rw[hgd]at hr;simp only at hr;cases hdj:cP ops j with
  |none=>rw[hdj]at hr;cases hr
  | some t=>
   rw[hdj]at hr;simp only at hr;cases hpl:dL cx o with
   |false=>rw[hpl]at hr;cases hr
   | true=>
    rw[hpl]at hr;simp only[GP]at hr;have h0:∀ {h h':Hp},(M.pure (Upd.ofV (.tup [])):M Upd) h= .ok u h'->Shape e ((base+i)*1000) (ap cx o) (bV o) u:=by
     intro h h' hh;cases hh;exact Shape.ofV ..
    generalize e.av t=q at hr;cases q with
    |bool b=>
     simp only[gT]at hr;cases hb:(b== want)with
     |false=>rw[hb]at hr;exact h0 hr
     |true=>rw[hb]at hr;exact iH (tG (fun u=>qi) (iP _ _ _ _)) hr
    |tup vs=>
     cases vs with
     |nil=>exact h0 hr
     |cons v vs=>cases hr
    |_=>cases hr
omit [Dr]in
theorem tM{p:∀ {α:Type},M α->Prop}(h1:∀ {α:Type} (m:M α),a6 m->p m)(h2:∀ {α β:Type} (m:M α) (f:α->β),p m->p (ae m fun v=>M.pure (f v))){A:Act1}(h:bm p A):p (dc A):=by
 cases A with
 |bad=>exact h1 _ a6.fail
 |stat u=>exact h1 _ (a6.pure u)
 |dyn m sh=>exact h2 _ _ h
 |thr v=>exact h.elim
omit [Dr]in
theorem gt{p:∀ {α:Type},M α->Prop}(h1:∀ {α:Type} (m:M α),a6 m->p m)(h2:∀ {α β:Type} (m:M α) (f:α->β),p m->p (ae m fun v=>M.pure (f v))){i:Nat}{o:Oper}(ho:ops[i]? = some o)(h:bm p (eB cx e ((base+i)*1000) o)):p (dT cx base ops i e):=by
 unfold dT;rw[ho];simp only;cases hgd:o.guard with
 |none=>exact tM h1 h2 h
 | some g=>
  obtain⟨j,want⟩:=g;simp only;cases hdj:cP ops j with
  |none=>exact h1 _ a6.fail
  | some t=>
   simp only;cases hpl:dL cx o with
   |false=>exact h1 _ a6.fail
   | true=>
    simp only[GP];unfold gT;split
    ·rename_i b _;cases hb:(b== want)with
     |false=>exact h1 _ (a6.pure _)
     |true=>exact tM h1 h2 (yM h)
    ·exact h1 _ (a6.pure _)
    ·exact h1 _ a6.fail
structure Small (ops:Array Oper):Prop where
 dst:∀(i:Nat)(o:Oper),ops[i]? = some o->∀t,o.dst=some t->t<1000
 src:∀(i:Nat)(o:Oper),ops[i]? = some o->∀t∈ga o,t<1000
omit [Dr]in
theorem Small.reads(hS:Small ops){i:Nat}{o:Oper}(ho:ops[i]? = some o):∀t∈cw ops i,t<1000:=by
 intro t ht;rw[eS ho,Hr]at ht;rcases ht with ht|ht
 ·unfold dJ at ht;split at ht
  ·rename_i j _ _;cases hj:ops[j]? with
   |none=>rw[hj]at ht;simp at ht
   |some oj=>
    rw[hj]at ht;simp only[Ir]at ht;cases hd:oj.dst with
    |none=>rw[hd]at ht;simp at ht
    |some s=>rw[hd]at ht;simp at ht;rw[ht];exact hS.dst j oj hj s hd
  ·simp at ht
 ·exact hS.src i o ho t ht
omit [Dr]in
theorem kJ{gid:Nat}{x:Foot}{ss:Option Nat}{u:Upd}{d:Option Tmp}(hsh:Shape e gid x ss u){t:Nat}(h1:d≠some t)(h2:ss≠some t)(h3:t<1000):(e.upd d u).get t=e.get t:=by
 rw[cd,if_neg h1];refine mY _ fun y hy hyt=>?_;rcases hsh.keys y hy with h|h
 ·omega
 ·exact h2 (by rw[h,hyt])
omit [Dr]in
theorem xP{gid:Nat}{x:Foot}{ss:Option Nat}{u:Upd}{d:Option Tmp}(hsh:Shape e gid x ss u)(hw:x.wl=false){t:Nat}(h1:d≠some t):(e.upd d u).get t=e.get t:=by
 rw[cd,if_neg h1,hsh.ls hw];rfl
omit [Dr]in
theorem nZ{gid:Nat}{x:Foot}{ss:Option Nat}{u:Upd}{d:Option Tmp}{o:Oper}(hsh:Shape e gid x ss u)(hd:∀t,d=some t->t<1000)(hops:∀t∈ga o,d≠some t/\ss≠some t/\t<1000)(hloc:((ap cx o).rl||(ap cx o).wl)=true->x.wl=false)(hal:(ap cx o).dr=true->x.ad=false/\x.dr=false):Agree cx o e (e.upd d u):=by
 refine⟨fun t ht=>kJ hsh (hops t ht).1 (hops t ht).2.1 (hops t ht).2.2,fun h=>⟨fun t ht=>xP hsh (hloc h) (fun hh=>Nat.not_lt.2 ht (hd t hh)),fun B=>?_⟩,fun h g=>?_,fun h s _ hl=>?_⟩
 ·show bb (jc (di e.lb u.unlb) u.lb) B=bb e.lb B;rw[hsh.lb (hloc h),hsh.unlb (hloc h)];rfl
 ·show aD (u.add++dt e.al u.drop) g=aD e.al g;rw[hsh.noad (hal h).1,hsh.nodr (hal h).2];rfl
 ·have hw:=hloc (by rw[h];simp);show aQ (nG d u.ent (u.ls++e.sl)) (a8 s)=true;rw[hsh.ls hw,dA,Hv,hl,IU];have:jJ u.ent (a8 s)=true:=by
   unfold jJ;split
   ·rename_i C off hv;obtain⟨t,off',ht⟩:=hsh.loc hw C off hv
    have:=jX hl ht
    rw[HC,H3];intro hh;exact this (GU hh)
   ·rfl
  rw[this,Bool.or_true]
omit [Dr]in
theorem uF{gid:Nat}{x:Foot}{ss:Option Nat}{u:Upd}{d:Option Tmp}{o:Oper}(hsh:Shape e gid x ss u)(hd:∀t,d=some t->t<1000)(hops:∀t∈ga o,d≠some t/\ss≠some t/\t<1000)(hloc:((ap cx o).rl||(ap cx o).wl)=true->x.wl=false)(hal:(ap cx o).dr=true->x.ad=false/\x.dr=false):Agree cx o (e.upd d u) e:=by
 have A:=nZ (cx:=cx) hsh hd hops hloc hal;refine⟨fun t ht=>(A.ops t ht).symm,fun h=>⟨fun t ht=>((A.loc h).1 t ht).symm,fun B=>((A.loc h).2 B).symm⟩,fun h g=>(A.al h g).symm,fun _ s _ hl=>?_⟩;have hl':aQ (nG d u.ent (u.ls++e.sl)) (a8 s)=true:=hl;rw[dA,fj]at hl';simp only[GO]at hl';exact hl'.2.2
omit [Dr]in
theorem r7{gi gj:Nat}{x y:Foot}{si sj:Option Nat}{u v:Upd}{d f:Option Tmp}(hu:Shape e gi x si u)(hv:Shape e gj y sj v)(hy:y.wl=false)(hf:∀t,f=some t->t<1000)(hdf:∀t,d=some t->f≠some t)(hsf:∀t,si=some t->f≠some t)(hg:gi≠gj)(h1:x.dr=true->y.dr=false/\y.ad=false)(h2:x.ad=true->y.dr=false)(h3:x.ad=true->y.ad=true->x.wl=false):EqE ((e.upd d u).upd f v) ((e.upd f v).upd d u):=by
 have e1:=hv.ls hy;have e2:=hv.lb hy;have e3:=hv.unlb hy;refine⟨fun t=>?_,fun g=>?_,fun B=>?_,fun B=>?_⟩
 ·rw[cd,cd,e1];show (if d=some t then u.ent else bq (u.ls++nG f v.ent (v.ls++e.sl)) t)=if f=some t then v.ent else bq (nG d u.ent (u.ls++e.sl)) t;rw[e1,gl,Hv];by_cases hft:f=some t
  ·rw[GR hft,if_neg (fun h=>hdf t h hft),mY,gl,GR hft];intro z hz hzt;rcases hu.keys z hz with h|h
   ·exact Nat.not_lt.2 h (by rw[hzt];exact hf t hft)
   ·exact hsf z.1 h (by rw[hzt];exact hft)
  ·rw[if_neg hft];split
   ·rfl
   ·exact lF (by rw[gl,if_neg hft])
 ·show aD (u.add++dt (v.add++dt e.al v.drop) u.drop) g=aD (v.add++dt (u.add++dt e.al u.drop) v.drop) g;cases hxd:x.dr with
  |true=>
   obtain⟨h4,h5⟩:=h1 hxd;rw[hv.noad h5,hv.nodr h4];rfl
  | false=>
   rw[hu.nodr hxd];cases hxa:x.ad with
   |false=>rw[hu.noad hxa];rfl
   | true=>
    rw[hv.nodr (h2 hxa)];cases hya:y.ad with
    |false=>rw[hv.noad hya];rfl
    |true=>
     have k1:=hu.add (h3 hxa hya);have k2:=hv.add hy;show aD (u.add++(v.add++e.al)) g=aD (v.add++(u.add++e.al)) g;rw[dy,dy,dy,dy];by_cases hgi:g=gi
     ·rw[ll k2 (by omega)]
     ·rw[ll k1 hgi]
 ·show bb (jc (di (jc (di e.lb v.unlb) v.lb) u.unlb) u.lb) B=bb (jc (di (jc (di e.lb u.unlb) u.lb) v.unlb) v.lb) B;rw[e2,e3];rfl
 ·show aQ (nG d u.ent (u.ls++nG f v.ent (v.ls++e.sl))) B=aQ (nG f v.ent (v.ls++nG d u.ent (u.ls++e.sl))) B;simp only[dA,fj]
  ac_rfl
end
end Go.Av
namespace Go.Av
variable [Dr]
section
variable {cx:Cx} {ops:Array Oper} {base:Nat}
structure Ind (cx:Cx) (ops:Array Oper) (i j:Nat) (a b:Oper):Prop where
 ha:ops[i]? = some a
 hb:ops[j]? = some b
 piv:(ap cx a).piv=false
 l1:(ap cx a).wl=true->(ap cx b).rl=false/\(ap cx b).wl=false
 l2:(ap cx a).rl=true->(ap cx b).wl=false
 h1:(ap cx a).wh=true->(ap cx b).rh=false/\(ap cx b).wh=false
 h2:(ap cx a).rh=true->(ap cx b).wh=false\/(ap cx b).nw=true
 g1:(ap cx a).dr=true->(ap cx b).dr=false/\(ap cx b).ad=false
 g2:(ap cx a).ad=true->(ap cx b).dr=false
 g3:(ap cx a).ad=true->(ap cx b).ad=true->(ap cx a).wl=false/\(ap cx b).wl=false
 r1:∀t∈cw ops j,a.dst≠some t
 r2:∀t∈cw ops i,b.dst≠some t
 s1:∀t∈cw ops j,bV a≠some t
 s2:∀t∈cw ops i,bV b≠some t
 c1:∀t,bV a=some t->b.dst≠some t
 c2:∀t,a.dst=some t->bV b≠some t
 c3:∀t,a.dst=some t->b.dst≠some t
omit [Dr]in
theorem vu{i j:Nat}(h:jS cx ops i j=true):∃a b,Ind cx ops i j a b:=by
 unfold jS at h;split at h
 ·rename_i a b ha hb;refine⟨a,b,?_⟩;simp only[GO,HC]at h;obtain⟨⟨⟨⟨⟨⟨⟨⟨⟨⟨⟨⟨⟨⟨k1,k2⟩,k3⟩,k4⟩,k5⟩,k6⟩,k7⟩,k8⟩,k9⟩,k10⟩,k11⟩,k12⟩,k13⟩,k14⟩,k15⟩:=h;refine⟨ha,hb,k1,fun q=>?_,fun q=>?_,fun q=>?_,fun q=>?_,fun q=>?_,fun q=>?_,fun q q'=>?_,jZ k9,jZ k10,jZ k11,jZ k12,kS k13,kS k14,kS k15⟩
  ·rw[q]at k2;simpa using k2
  ·rw[q]at k3;simpa using k3
  ·rw[q]at k4;simpa using k4
  ·rw[q]at k5;simp only[HM]at k5;cases hb:(ap cx b).wh<;>simp_all
  ·rw[q]at k6;simpa using k6
  ·rw[q]at k7;simpa using k7
  ·rw[q,q']at k8;simpa using k8
 ·cases h
omit [Dr]in
theorem swap(hI:IsoPure cx)(hS:Small ops){i j:Nat}(hij:jS cx ops i j=true)(hne:i≠j)(e:Env)(h:Hp):
  RE (ae (stepG cx base ops i e) (stepG cx base ops j) h) (ae (stepG cx base ops j e) (stepG cx base ops i) h):=by
 obtain⟨a,b,I⟩:=vu hij;have hda:cP ops i=a.dst:=by simp[cP,I.ha]
 have hdb:cP ops j=b.dst:=by simp[cP,I.hb]
 unfold stepG;rw[hda,hdb];simp only[ae,M.pure];cases hri:dT cx base ops i e h with
 |fail=>trivial
 |pan v h'=>exact absurd hri (gt (p:=@dq) (fun _ g=>g.read.stay) (fun _ f g=>g.bnd f) I.ha ((dK hI e _ a).stay I.piv) h v h')
 | ok u h1=>
  simp only;have shu:=mg I.ha hri;have hra:=eS (ops:=ops) I.ha;have hrb:=eS (ops:=ops) I.hb;have hbo:∀t∈ga b,a.dst≠some t/\bV a≠some t/\t<1000:=fun t ht=>⟨I.r1 t (by rw[hrb];simp[ht]),I.s1 t (by rw[hrb];simp[ht]),hS.src j b I.hb t ht⟩;have hao:∀t∈ga a,b.dst≠some t/\bV b≠some t/\t<1000:=fun t ht=>⟨I.r2 t (by rw[hra];simp[ht]),I.s2 t (by rw[hra];simp[ht]),hS.src i a I.ha t ht⟩;have Abwd:Agree cx b (e.upd a.dst u) e:=uF shu (hS.dst i a I.ha) hbo (fun q=>by
   cases hw:(ap cx a).wl with
   |false=>rfl
   |true=>obtain⟨q1,q2⟩:=I.l1 hw;rw[q1,q2]at q;cases q) (fun q=>by
   constructor
   ·cases hw:(ap cx a).ad with
    |false=>rfl
    |true=>have:=I.g2 hw;rw[this]at q;cases q
   ·cases hw:(ap cx a).dr with
    |false=>rfl
    |true=>have:=(I.g1 hw).1;rw[this]at q;cases q)
  have hgb:∀t∈dJ ops b,e.get t=(e.upd a.dst u).get t:=fun t ht=>by
   have htr:t∈cw ops j:=by rw[hrb];simp[ht]
   exact (kJ shu (I.r1 t htr) (I.s1 t htr) (hS.reads I.hb t htr)).symm
  -- the second, after the first
  cases hrj:dT cx base ops j (e.upd a.dst u) h1 with
  |fail=>trivial
  | pan v h2=>
   have hj:=eJ (base:=base) I.hb hgb Abwd (h:=h1) (by rw[hrj];simp);rw[hrj]at hj
   -- j leaves: so it may write, and i did not touch the heap
   have hwb:(ap cx b).wh=true:=by
    cases hw:(ap cx b).wh with
    |true=>rfl
    |false=>exact absurd hj ((gt (p:=@cY) (fun _ g=>g.read) (fun _ f g=>g.bnd f) I.hb ((dK hI e _ b).read hw)).stay _ _ _)
   have hwa:(ap cx a).wh=false:=by
    cases hw:(ap cx a).wh with
    |false=>rfl
    |true=>have:=(I.h1 hw).2;rw[this]at hwb;cases hwb
   have hh:h1=h:=by
    have hR:cY (dT cx base ops i e):=gt (p:=@cY) (fun _ g=>g.read) (fun _ f g=>g.bnd f) I.ha ((dK hI e _ a).read hwa);rcases hR h with hx|⟨u',hx⟩<;>rw[hri]at hx<;>cases hx;rfl
   subst hh;rw[hj];exact rfl
  | ok v h2=>
   have hj:=eJ (base:=base) I.hb hgb Abwd (h:=h1) (by rw[hrj];simp);rw[hrj]at hj;have shv:=mg I.hb hj;have Afwd:Agree cx a e (e.upd b.dst v):=nZ shv (hS.dst j b I.hb) hao (fun q=>by
    cases hw:(ap cx b).wl with
    |false=>rfl
    | true=>
     exfalso;cases hrl:(ap cx a).rl with
     |true=>have:=I.l2 hrl;rw[this]at hw;cases hw
     |false=>
      rw[hrl]at q;have hwl:(ap cx a).wl=true:=by simpa using q
      have:=(I.l1 hwl).2
      rw[this]at hw;cases hw) (fun q=>⟨(I.g1 q).2,(I.g1 q).1⟩)
   have hga:∀t∈dJ ops a,(e.upd b.dst v).get t=e.get t:=fun t ht=>by
    have htr:t∈cw ops i:=by rw[hra];simp[ht]
    exact kJ shv (I.r2 t htr) (I.s2 t htr) (hS.reads I.ha t htr)
   have hcomm:EqE ((e.upd a.dst u).upd b.dst v) ((e.upd b.dst v).upd a.dst u):=by
    have hgij:(base+i)*1000≠(base+j)*1000:=by omega
    cases hwb:(ap cx b).wl with
    |false=>
     exact r7 shu shv hwb (hS.dst j b I.hb) I.c3 I.c1 hgij I.g1 I.g2 (fun q q'=>(I.g3 q q').1)
    | true=>
     have hwa:(ap cx a).wl=false:=by
      cases hw:(ap cx a).wl with
      |false=>rfl
      |true=>have:=(I.l1 hw).2;rw[this]at hwb;cases hwb
     refine (r7 shv shu hwa (hS.dst i a I.ha) (fun t ht hh=>I.c3 t hh ht) (fun t ht hh=>I.c2 t hh ht) (Ne.symm hgij) (fun q=>⟨?_,?_⟩) (fun q=>?_) (fun q q'=>?_)).symm
     ·cases hw:(ap cx a).dr with
      |false=>rfl
      |true=>have:=(I.g1 hw).1;rw[this]at q;cases q
     ·cases hw:(ap cx a).ad with
      |false=>rfl
      |true=>have:=I.g2 hw;rw[this]at q;cases q
     ·cases hw:(ap cx a).dr with
      |false=>rfl
      |true=>have:=(I.g1 hw).2;rw[this]at q;cases q
     ·have:=(I.g3 q' q).2;rw[this]at hwb;cases hwb
   cases hwa:(ap cx a).wh with
   | false=>
    have hR:cY (dT cx base ops i e):=gt (p:=@cY) (fun _ g=>g.read) (fun _ f g=>g.bnd f) I.ha ((dK hI e _ a).read hwa);have hh:h1=h:=by
     rcases hR h with hx|⟨u',hx⟩<;>rw[hri]at hx<;>cases hx;rfl
    subst hh;rw[hj];simp only;have hi2:dT cx base ops i e h2= .ok u h2:=by
     cases hra':(ap cx a).rh with
     |false=>
      obtain⟨q,hq⟩:a6 (dT cx base ops i e):=gt (p:=@a6) (fun _ g=>g) (fun _ f g=>g.bnd f) I.ha ((dK hI e _ a).pure hwa hra');rw[hq]at hri |-;cases q with
      |none=>cases hri
      |some u'=>cases hri;rfl
     | true=>
      rcases I.h2 hra' with hwb|hnw
      case inr=>
       have hNw:se (dT cx base ops j e):=gt (p:=@se) (fun _ g=>g.nw) (fun _ f g=>g.bnd f) I.hb ((dK hI e _ b).nw hnw);have hAp:iU (dT cx base ops i e)/\cY (dT cx base ops i e):=gt (p:=fun m=>iU m/\cY m) (fun _ g=>⟨g.app,g.read⟩) (fun _ f g=>iU.bnd g f) I.ha ((dK hI e _ a).app hwa);obtain⟨t,rfl⟩:=hNw _ _ _ hj;exact hAp.1 _ t _ hri
      have hRb:cY (dT cx base ops j e):=gt (p:=@cY) (fun _ g=>g.read) (fun _ f g=>g.bnd f) I.hb ((dK hI e _ b).read hwb);rcases hRb h1 with hx|⟨u',hx⟩<;>rw[hj]at hx<;>cases hx;exact hri
    rw[eJ I.ha hga Afwd (by rw[hi2];simp),hi2];exact⟨_,rfl,hcomm⟩
   | true=>
    obtain⟨hrb',hwb⟩:=I.h1 hwa;obtain⟨q,hq⟩:a6 (dT cx base ops j e):=gt (p:=@a6) (fun _ g=>g) (fun _ f g=>g.bnd f) I.hb ((dK hI e _ b).pure hwb hrb');rw[hq]at hj |-;cases q with
    |none=>cases hj
    |some u'=>
     cases hj;simp only[af];rw[eJ I.ha hga Afwd (by rw[hri];simp),hri];exact⟨_,rfl,hcomm⟩
omit [Dr]in
theorem A2(hI:IsoPure cx)(hS:Small ops){i:Nat}(q:List Nat):∀(p:List Nat),(∀x∈p,jS cx ops x i=true/\x≠i)->∀(e:Env)(h:Hp),RE (aO cx base ops (p++i:: q) e h) (aO cx base ops (i:: (p++q)) e h)
 |[],_,e,h=>RE.refl _
 | x:: p,hp,e,h=>by
  have ih:=fun e h=>A2 hI hS q p (fun y hy=>hp y (by simp[hy])) e h;have h1:RE (aO cx base ops (x:: (p++i:: q)) e h) (aO cx base ops (x:: i:: (p++q)) e h):=by
   simp only[aO,ae]at ih |-;cases stepG cx base ops x e h with
   |ok e' h'=>exact ih e' h'
   |pan v h'=>exact rfl
   |fail=>trivial
  refine h1.trans ?_;have e1:aO cx base ops (x:: i:: (p++q)) e=ae (ae (stepG cx base ops x e) (stepG cx base ops i)) (aO cx base ops (p++q)):=by rw[e9];rfl
  have e2:aO cx base ops (i:: x:: (p++q)) e=ae (ae (stepG cx base ops i e) (stepG cx base ops x)) (aO cx base ops (p++q)):=by rw[e9];rfl
  show RE (aO cx base ops (x:: i:: (p++q)) e h) (aO cx base ops (i:: x:: (p++q)) e h);rw[e1,e2];exact RE.bind (swap hI hS (hp x (by simp)).1 (hp x (by simp)).2 e h) fun e e' x h=>kj _ h x
end
end Go.Av
namespace Go.Av
variable [Dr]
omit [Dr]in
theorem yB{a b:Option (Nat×Bool)}(h:ux a b=true):a=b:=by
 unfold ux at h;split at h
 ·rfl
 ·simp only[GO,Hy]at h;rw[GU h.1,h.2]
 ·cases h
def fy(gs:List (Option (Nat×Bool)×List Nat)):List Nat:=gs.flatMap (·.2)
omit [Dr]in
theorem f7(ops:Array Oper):∀l:List Nat,fy (cQ ops l)=l/\∀g∈cQ ops l,∀i∈g.2,guardOf ops i=g.1
 |[]=>⟨rfl,by simp[cQ]⟩
 | i :: is=>by
  obtain⟨h1,h2⟩:=f7 ops is;simp only[cQ];cases hg:cQ ops is with
  |nil=>
   rw[hg]at h1;have:is=[]:=by simpa [fy]using h1.symm
   subst this;exact⟨rfl,by simp⟩
  | cons x r=>
   obtain⟨g,js⟩:=x;rw[hg]at h1 h2;simp only;cases hs:ux (guardOf ops i) g with
   | true=>
    refine⟨?_,fun y hy=>?_⟩
    ·simp only[GP,fy,Iz,Ht]at h1 |-;rw[h1]
    ·simp only[GP,Hg]at hy;rcases hy with rfl|hy
     ·intro k hk;simp only[Hg]at hk;rcases hk with rfl|hk
      ·exact yB hs
      ·exact h2 (g,js) (by simp) k hk
     ·exact h2 y (by simp[hy])
   | false=>
    refine⟨?_,fun y hy=>?_⟩
    ·simp only[GV,fy,Iz,Ht,Hv]at h1 |-;rw[h1]
    ·simp only[GV,Hg]at hy;rcases hy with rfl|rfl|hy
     ·intro k hk;simp only[HJ]at hk;subst hk;rfl
     ·exact h2 (g,js) (by simp)
     ·exact h2 y (by simp[hy])
omit [Dr]in
theorem qU{ρ:Type}(e:Env)(d:Option Tmp)(A:Act1)(k:Env->M ρ):jK e d A k=ae (dc A) fun u=>k (e.upd d u):=by
 cases A with
 |bad=>rfl
 |stat u=>rfl
 |dyn m sh=>simp only[jK,dc,e9,aK]
 |thr v=>rfl
omit [Dr]in
theorem uL{α β:Type}{m:M α}{f g:α->M β}{h:Hp}(hfg:∀u h',m h= .ok u h'->f u h'=g u h'):ae m f h=ae m g h:=by
 simp only[ae];cases hm:m h with
 |ok u h'=>exact hfg u h' hm
 |pan v h'=>rfl
 |fail=>rfl
section
variable {cx:Cx} {ops:Array Oper} {base:Nat}
omit [Dr]in
theorem uE{i:Nat}{o:Oper}(ho:ops[i]? = some o)(hg:guardOf ops i=none)(e:Env):dT cx base ops i e=dc (eB cx e ((base+i)*1000) o):=by
 have:o.guard=none:=by simpa [guardOf,ho]using hg
 unfold dT;rw[ho];simp only;rw[this]
omit [Dr]in
theorem kw{i j t:Nat}{want:Bool}{o:Oper}(ho:ops[i]? = some o)(hg:guardOf ops i=some (j,want))(hj:cP ops j=some t)(hp:dL cx o=true)(e:Env):
  dT cx base ops i e=gT (e.av t) want (dc (fv (eB cx e ((base+i)*1000) o))):=by
 have:o.guard=some (j,want):=by simpa [guardOf,ho]using hg
 unfold dT;rw[ho];simp only;rw[this];simp only;rw[hj];simp only;rw[hp];rfl
omit [Dr]in
theorem rO{ρ:Type}:∀(is:List Nat)(e:Env)(k:Env->M ρ)(_:∀i∈is,guardOf ops i=none),f4 cx base ops false is e k=ae (aO cx base ops is e) k
 |[],e,k,_=>rfl
 | i:: is,e,k,hg=>by
  simp only[f4,aO];unfold stepG;cases ho:ops[i]? with
  |none=>unfold dT;rw[ho];rfl
  |some o=>
   simp only;rw[qU,uE ho (hg i (by simp)),e9,e9];have hd:cP ops i=o.dst:=by simp[cP,ho]
   rw[hd];congr 1;funext u;simp only[aK];exact rO is _ k fun j hj=>hg j (by simp[hj])
structure Turned (ds:List Nat) (e e':Env):Prop where
 get:∀t,t ∉ ds->e'.get t=e.get t
 al:e'.al=e.al
 lb:e'.lb=e.lb
 lf:∀B,aQ e.sl B=true->aQ e'.sl B=true
 ng:∀t∈ds,(e'.get t).g=none
omit [Dr]in
theorem Turned.step{ds:List Nat}{e e':Env}(H:Turned ds e e'){u:Upd}{d:Option Nat}(hls:u.ls=[])(hadd:u.add=[])(hdrop:u.drop=none)(hlb:u.lb=none)(hunlb:u.unlb=none)(hg:u.ent.g=none)(hloc:∀C off,u.ent.v= .loc C off->∃t off',(e'.get t).v= .loc C off'):Turned (d.toList++ds) e (e'.upd d u):=by
 have hget:∀t,(e'.upd d u).get t=if d=some t then u.ent else e'.get t:=fun t=>by rw[cd,hls];rfl
 refine⟨fun t ht=>?_,?_,?_,fun B hB=>?_,fun t ht=>?_⟩
 ·simp only[Hr,not_or,IA]at ht;rw[hget,if_neg ht.1];exact H.get t ht.2
 ·show u.add++dt e'.al u.drop=e.al;rw[hadd,hdrop];exact H.al
 ·show jc (di e'.lb u.unlb) u.lb=e.lb;rw[hlb,hunlb];exact H.lb
 ·have h1:=H.lf B hB;show aQ (nG d u.ent (u.ls++e'.sl)) B=true;rw[hls,dA,Hv,h1,IU];have:jJ u.ent B=true:=by
   unfold jJ;split
   ·rename_i C off hv;obtain⟨t,off',ht⟩:=hloc C off hv
    have:=jX h1 ht
    rw[HC,H3];intro hh;exact this (GU hh)
   ·rfl
  rw[this,Bool.or_true]
 ·rw[hget];split
  ·exact hg
  ·rename_i hd;simp only[Hr,IA]at ht;rcases ht with ht|ht
   ·exact absurd ht hd
   ·exact H.ng t ht
omit [Dr]in
theorem Turned.refl(e:Env):Turned [] e e:=⟨fun _ _=>rfl,rfl,rfl,fun _ h=>h,fun t h=>by simp at h⟩
omit [Dr]in
theorem Turned.sub{ds ds':List Nat}{e e':Env}(H:Turned ds e e')(h:∀t,t∈ds↔t∈ds'):Turned ds' e e':=
 ⟨fun t ht=>H.get t fun hh=>ht ((h t).1 hh),H.al,H.lb,H.lf,fun t ht=>H.ng t ((h t).2 ht)⟩
structure GroupOk (cx:Cx) (ops:Array Oper) (j:Nat) (want:Bool) (t:Nat) (is:List Nat):Prop where
 hj:cP ops j=some t
 each:∀i∈is,∃o,ops[i]? = some o/\guardOf ops i=some (j,want)/\dL cx o=true
 nt:t ∉ cn ops is
omit [Dr]in
theorem fZ(i:Nat)(is:List Nat):∀t,t∈cn ops (i:: is)↔cP ops i=some t\/t∈cn ops is:=by
 intro t;unfold cn;simp only[I2,Hg,exists_eq_or_imp]
omit [Dr]in
theorem GroupOk.tail{j:Nat}{want:Bool}{t i:Nat}{is:List Nat}(G:GroupOk cx ops j want t (i:: is)):GroupOk cx ops j want t is:=
 ⟨G.hj,fun k hk=>G.each k (by simp[hk]),fun h=>G.nt ((fZ i is t).2 (.inr h))⟩
omit [Dr]in
theorem GroupOk.ne{j:Nat}{want:Bool}{t i:Nat}{is:List Nat}(G:GroupOk cx ops j want t (i:: is)):cP ops i≠some t:=fun h=>G.nt ((fZ i is t).2 (.inl h))
omit [Dr]in
theorem gR{A:Act1}{h h':Hp}{u:Upd}(hr:dc (fv A) h= .ok u h'):∃u0,dc A h= .ok u0 h'/\u=eY u0:=by
 rw[lk]at hr;cases hx:dc A h<;>rw[hx]at hr<;>simp at hr;exact⟨_,by rw[hr.2],hr.1.symm⟩
omit [Dr]in
theorem o5{ρ:Type}{j:Nat}{want:Bool}{t:Nat}:∀(is:List Nat)(e:Env)(k:Env->M ρ)(h:Hp),GroupOk cx ops j want t is->e.av t= .bool want->f4 cx base ops true is e k h=ae (aO cx base ops is e) k h
 |[],e,k,h,_,_=>rfl
 |i:: is,e,k,h,G,hc=>by
  obtain⟨o,ho,hg,hp⟩:=G.each i (by simp);have hd:cP ops i=o.dst:=by simp[cP,ho]
  simp only[f4,aO,ho,GP];rw[qU];unfold stepG;rw[kw ho hg G.hj hp,hc,e9,e9];simp only[gT,Iq,GP,aK,hd];refine uL fun u h' hu=>?_;obtain⟨u0,hu0,rfl⟩:=gR hu;refine o5 is _ k h' G.tail ?_;have:(e.upd o.dst (eY u0)).get t=e.get t:=by rw[cd,if_neg (by rw[<- hd];exact G.ne)];rfl
  simp only[Env.av,this];exact hc
omit [Dr]in
theorem kp{j:Nat}{want:Bool}{t:Nat}:∀(is:List Nat)(e e':Env)(h h':Hp),GroupOk cx ops j want t is->e.av t= .bool want->aO cx base ops is e h= .ok e' h'->Turned (cn ops is) e e':=by
 have key:∀(is:List Nat)(e0 e e':Env)(ds:List Nat)(h h':Hp),GroupOk cx ops j want t is->e.av t= .bool want->Turned ds e0 e->aO cx base ops is e h= .ok e' h'->Turned (cn ops is++ds) e0 e':=by
  intro is
  induction is with
  |nil=>
   intro e0 e e' ds h h' _ _ H hr;cases hr;exact H
  | cons i is ih=>
   intro e0 e e' ds h h' G hc H hr;obtain⟨o,ho,hg,hp⟩:=G.each i (by simp);have hd:cP ops i=o.dst:=by simp[cP,ho]
   simp only[aO]at hr;unfold stepG at hr;rw[kw ho hg G.hj hp,hc,e9]at hr;simp only[gT,Iq,GP,hd,ae]at hr;cases hx:dc (fv (eB cx e ((base+i)*1000) o)) h with
   |fail=>rw[hx]at hr;cases hr
   |pan v hh=>rw[hx]at hr;cases hr
   | ok u hh=>
    rw[hx]at hr;simp only at hr;obtain⟨u0,hu0,rfl⟩:=gR hx;have hsh:=iH (iP cx e ((base+i)*1000) o) hu0;simp only[dL,GO,HC]at hp;have H2:=H.step (u:=eY u0) (d:=o.dst) rfl rfl rfl rfl rfl rfl (hsh.loc hp.1);refine (ih e0 _ e' _ hh h' G.tail ?_ H2 hr).sub fun s=>?_
    ·have:(e.upd o.dst (eY u0)).get t=e.get t:=by rw[cd,if_neg (by rw[<- hd];exact G.ne)];rfl
     simp only[Env.av,this];exact hc
    ·simp only[Hr,fZ,IA,hd];constructor
     ·rintro (h|h|h)
      ·exact .inl (.inr h)
      ·exact .inl (.inl h)
      ·exact .inr h
     ·rintro ((h|h)|h)
      ·exact .inr (.inl h)
      ·exact .inl h
      ·exact .inr (.inr h)
 intro is e e' h h' G hc hr;exact (key is e e e' [] h h' G hc (.refl e) hr).sub (by simp)
def Off(c:AV)(want:Bool):Prop:=c= .tup []\/∃b,c= .bool b/\(b== want)=false
omit [Dr]in
theorem Off.look{c:AV}{want:Bool}(h:Off c want)(m:M Upd):gT c want m=M.pure (.ofV (.tup [])):=by
 rcases h with rfl|⟨b,rfl,hb⟩
 ·rfl
 ·simp only[gT,hb,GV]
omit [Dr]in
theorem Ab{j:Nat}{want:Bool}{t:Nat}:∀(is:List Nat)(e:Env)(h:Hp),GroupOk cx ops j want t is->Off (e.av t) want->∃e',aO cx base ops is e h= .ok e' h/\Turned (cn ops is) e e'/\∀s∈cn ops is,e'.get s=⟨.val (.tup []),none⟩:=by
 have key:∀(is:List Nat)(e0 e:Env)(ds:List Nat)(h:Hp),GroupOk cx ops j want t is->Off (e.av t) want->Turned ds e0 e->(∀s∈ds,e.get s=⟨.val (.tup []),none⟩)->
   ∃e',aO cx base ops is e h= .ok e' h/\Turned (cn ops is++ds) e0 e'/\∀s∈cn ops is++ds,e'.get s=⟨.val (.tup []),none⟩:=by
  intro is
  induction is with
  |nil=>exact fun e0 e ds h _ _ H hds=>⟨e,rfl,H,hds⟩
  | cons i is ih=>
   intro e0 e ds h G hc H hds;obtain⟨o,ho,hg,hp⟩:=G.each i (by simp);have hd:cP ops i=o.dst:=by simp[cP,ho]
   have hget:∀s,(e.upd o.dst (.ofV (.tup []))).get s=if o.dst=some s then⟨.val (.tup []),none⟩else e.get s:=fun s=>by rw[cd];rfl
   have H2:=H.step (u:=.ofV (.tup [])) (d:=o.dst) rfl rfl rfl rfl rfl rfl (fun C off hh=>by cases hh);have hav:(e.upd o.dst (.ofV (.tup []))).av t=e.av t:=by
    have:(e.upd o.dst (.ofV (.tup []))).get t=e.get t:=by rw[hget,if_neg (by rw[<- hd];exact G.ne)]
    simp only[Env.av,this]
   obtain⟨e',h1,h2,h3⟩:=ih e0 (e.upd o.dst (.ofV (.tup []))) (o.dst.toList++ds) h G.tail (by rw[hav];exact hc) H2 (fun s hs=>by
    rw[hget];split
    ·rfl
    ·rename_i hn;simp only[Hr,IA]at hs;rcases hs with hs|hs
     ·exact absurd hs hn
     ·exact hds s hs)
   have hiff:∀s,s∈cn ops is++(o.dst.toList++ds)↔s∈cn ops (i:: is)++ds:=fun s=>by
    simp only[Hr,fZ,IA,hd];constructor
    ·rintro (h|h|h)
     ·exact .inl (.inr h)
     ·exact .inl (.inl h)
     ·exact .inr h
    ·rintro ((h|h)|h)
     ·exact .inr (.inl h)
     ·exact .inl h
     ·exact .inr (.inr h)
   refine⟨e',?_,h2.sub hiff,fun s hs=>h3 s ((hiff s).2 hs)⟩;simp only[aO];unfold stepG;rw[kw ho hg G.hj hp,hc.look,hd];exact h1
 intro is e h G hc;obtain⟨e',h1,h2,h3⟩:=key is e e [] h G hc (.refl e) (by simp);exact⟨e',h1,h2.sub (by simp),fun s hs=>h3 s (by simp[hs])⟩
end
end Go.Av
namespace Go.Av
variable [Dr]
section
variable {cx:Cx} {ops:Array Oper} {base:Nat}
structure Rel (ops:Array Oper) (L:List Nat) (e2 e:Env):Prop where
 get:∀t,e2.get t=e.get t\/(e2.get t=Ent.none/\t<1000/\∀i∈L,t ∉ cw ops i)
 al:∀g,aD e2.al g=aD e.al g
 lb:∀B,bb e2.lb B=bb e.lb B
 lf:∀B,aQ e2.sl B=true->aQ e.sl B=true
omit [Dr]in
theorem Rel.refl(ops:Array Oper)(L:List Nat)(e:Env):Rel ops L e e:=⟨fun _=>.inl rfl,fun _=>rfl,fun _=>rfl,fun _ h=>h⟩
omit [Dr]in
theorem Rel.sub{L L':List Nat}{e2 e:Env}(H:Rel ops L e2 e)(h:∀i∈L',i∈L):Rel ops L' e2 e:=
 ⟨fun t=>(H.get t).imp id fun⟨h1,h2,h3⟩=>⟨h1,h2,fun i hi=>h3 i (h i hi)⟩,H.al,H.lb,H.lf⟩
omit [Dr]in
theorem Rel.read{L:List Nat}{e2 e:Env}(H:Rel ops L e2 e){i t:Nat}(hi:i∈L)(ht:t∈cw ops i):e.get t=e2.get t:=by
 rcases H.get t with h|⟨_,_,h⟩
 ·exact h.symm
 ·exact absurd ht (h i hi)
omit [Dr]in
theorem Rel.agree{L:List Nat}{e2 e:Env}(H:Rel ops L e2 e){i:Nat}{o:Oper}(hi:i∈L)(ho:ops[i]? = some o):Agree cx o e2 e:=by
 refine⟨fun t ht=>H.read hi (by rw[eS ho];simp[ht]),fun _=>⟨fun t ht=>?_,fun B=>(H.lb B).symm⟩,fun _ g=>(H.al g).symm,fun _ s _ hl=>H.lf _ hl⟩;rcases H.get t with h|⟨_,h,_⟩
 ·exact h.symm
 ·omega
omit [Dr]in
theorem Rel.upd{L:List Nat}{e2 e:Env}(H:Rel ops L e2 e)(d:Option Tmp)(u:Upd):Rel ops L (e2.upd d u) (e.upd d u):=by
 refine⟨fun t=>?_,fun g=>?_,fun B=>?_,fun B hB=>?_⟩
 ·rw[cd,cd];split
  ·exact .inl rfl
  ·rw[gk,gk];split
   ·exact .inl rfl
   ·exact H.get t
 ·show aD (u.add++dt e2.al u.drop) g=aD (u.add++dt e.al u.drop) g;have:aD (dt e2.al u.drop) g=aD (dt e.al u.drop) g:=by
   cases u.drop with
   |none=>exact H.al g
   |some k=>simp only[dt,g8,H.al g]
  rw[dy,dy,this]
 ·show bb (jc (di e2.lb u.unlb) u.lb) B=bb (jc (di e.lb u.unlb) u.lb) B;have:bb (di e2.lb u.unlb) B=bb (di e.lb u.unlb) B:=by
   cases u.unlb with
   |none=>exact H.lb B
   |some k=>simp only[di,jW,H.lb B]
  cases u.lb with
  |none=>exact this
  |some x=>
   obtain⟨k,n⟩:=x;simp only[jc,de,this]
 ·have hB':aQ (nG d u.ent (u.ls++e2.sl)) B=true:=hB;show aQ (nG d u.ent (u.ls++e.sl)) B=true;rw[dA,fj]at hB' |-;simp only[GO]at hB' |-;exact⟨hB'.1,hB'.2.1,H.lf B hB'.2.2⟩
omit [Dr]in
theorem Rel.run:∀(is:List Nat){L:List Nat}{e2 e:Env}(_:Rel ops L e2 e)(_:∀i∈is,i∈L)(h:Hp),aO cx base ops is e2 h≠.fail->
  (∃e2' e' h',aO cx base ops is e2 h= .ok e2' h'/\aO cx base ops is e h= .ok e' h'/\Rel ops L e2' e')\/∃v h',aO cx base ops is e2 h= .pan v h'/\aO cx base ops is e h= .pan v h'
 |[],L,e2,e,H,_,h,_=>.inl ⟨e2,e,h,rfl,rfl,H⟩
 | i:: is,L,e2,e,H,hL,h,hr=>by
  simp only[aO]at hr |-;unfold stepG at hr |-;simp only[ae,M.pure]at hr |-;cases hx:dT cx base ops i e2 h with
  |fail=>rw[hx]at hr;exact absurd rfl hr
  | _ =>
   have ho:∃o,ops[i]? = some o:=by
    cases ho:ops[i]? with
    |none=>unfold dT at hx;rw[ho]at hx;cases hx
    |some o=>exact⟨o,rfl⟩
   obtain⟨o,ho⟩:=ho;have hi:=hL i (by simp);have hy:dT cx base ops i e h=dT cx base ops i e2 h:=eJ ho (fun t ht=>H.read hi (by rw[eS ho];simp[ht])) (H.agree hi ho) (by rw[hx];simp);rw[hy,hx]
   first
    | rw[hx]at hr
      exact Rel.run is (H.upd _ _) (fun k hk=>hL k (by simp[hk])) _ hr
    |exact .inr ⟨_,_,rfl,rfl⟩
omit [Dr]in
theorem mK(e:Env):∀(ds:List Nat)(t:Nat),(forget e ds).get t=if t∈ds then Ent.none else e.get t
 |[],t=>by simp[forget]
 | d:: ds,t=>by
  show bq ((d,Ent.none):: (forget e ds).sl) t=_;rw[bP];by_cases hd:d=t
  ·subst hd;simp
  ·rw[if_neg hd]
   have:=mK e ds t
   simp only[Env.get]at this;rw[this];have hd':¬t=d:=fun h=>hd h.symm;simp[hd',Env.get]
omit [Dr]in
theorem lB(e:Env):∀(ds:List Nat),(forget e ds).al=e.al/\(forget e ds).lb=e.lb/\∀B,aQ (forget e ds).sl B=aQ e.sl B
 |[]=>⟨rfl,rfl,fun _=>rfl⟩
 |_d:: ds=>lB e ds
omit [Dr]in
theorem lM(e:Env)(f:Nat->AV):∀(outs:List Nat)(pre:List AV)(t:Nat),(eE e (pre++outs.map f) pre.length outs).get t=if t∈outs then⟨.val (f t),none⟩else e.get t
 |[],pre,t=>by simp[eE]
 | d:: ds,pre,t=>by
  show bq ((d,⟨.val (nth (pre++(d:: ds).map f) pre.length),none⟩):: (eE e (pre++(d:: ds).map f) (pre.length+1) ds).sl) t=_;rw[bP];have hn:nth (pre++(d:: ds).map f) pre.length=f d:=by simp[nth]
  by_cases hd:d=t
  ·subst hd;rw[hn];simp
  ·rw[if_neg hd]
   have:=lM e f ds (pre++[f d]) t
   simp only[HN,Hu,G4,G8,IG]at this;simp only[Env.get,Hs]at this |-;rw[this];have hd':¬t=d:=fun h=>hd h.symm;simp[hd']
omit [Dr]in
theorem kk(e:Env)(vs:List AV):∀(outs:List Nat)(i:Nat),(eE e vs i outs).al=e.al/\(eE e vs i outs).lb=e.lb/\∀B,aQ (eE e vs i outs).sl B=aQ e.sl B
 |[],_i=>⟨rfl,rfl,fun _=>rfl⟩
 |_d:: ds,i=>kk e vs ds (i+1)
omit [Dr]in
theorem tL(gs:List (Option (Nat×Bool)×List Nat))(t:Nat):tK ops gs t=true↔∃i∈fy gs,t∈cw ops i:=by
 unfold tK fy;simp only[List.any_eq_true,List.mem_flatMap,fk];constructor
 ·rintro⟨g,hg,i,hi,ht⟩;exact⟨i,⟨g,hg,hi⟩,ht⟩
 ·rintro⟨i,⟨g,hg,hi⟩,ht⟩;exact⟨g,hg,i,hi,ht⟩
omit [Dr]in
theorem Rel.close{is:List Nat}{gs:List (Option (Nat×Bool)×List Nat)}{e2 e e':Env}(H:Rel ops (is++fy gs) e2 e)(hS:Small ops)(T:Turned (cn ops is) e e'){vs:List AV}{f:Nat->AV}(hvs:vs=(cG ops is gs).map f)(hf:∀t∈cG ops is gs,e'.get t=⟨.val (f t),none⟩\/(f t= .any/\t<1000/\∀i∈fy gs,t ∉ cw ops i)):Rel ops (fy gs) (eE (forget e2 (cn ops is)) vs 0 (cG ops is gs)) e':=by
 have hr:=kk (forget e2 (cn ops is)) vs (cG ops is gs) 0;have hr2:=lB e2 (cn ops is);refine⟨fun t=>?_,fun g=>?_,fun B=>?_,fun B hB=>?_⟩
 ·have hg:=lM (forget e2 (cn ops is)) f (cG ops is gs) [] t;simp only[Hv,G8]at hg;rw[hvs,hg];split
  ·rename_i ht;rcases hf t ht with h|⟨h1,h2,h3⟩
   ·exact .inl h.symm
   ·exact .inr ⟨by rw[h1];rfl,h2,h3⟩
  ·rename_i ht;rw[mK];split
   ·rename_i hd;refine .inr ⟨rfl,?_,fun i hi hti=>ht ?_⟩
    ·unfold cn at hd;simp only[I2]at hd;obtain⟨i,hi,hd⟩:=hd;unfold cP at hd;cases hoi:ops[i]? with
     |none=>rw[hoi]at hd;simp at hd
     |some o=>rw[hoi]at hd;exact hS.dst i o hoi t hd
    ·unfold cG;rw[JF];exact⟨hd,(tL gs t).2 ⟨i,hi,hti⟩⟩
   ·rename_i hd;rw[T.get t hd];rcases H.get t with h|⟨h1,h2,h3⟩
    ·exact .inl h
    ·exact .inr ⟨h1,h2,fun i hi=>h3 i (by simp[hi])⟩
 ·rw[hr.1,hr2.1,T.al];exact H.al g
 ·rw[hr.2.1,hr2.2.1,T.lb];exact H.lb B
 ·rw[hr.2.2,hr2.2.2]at hB;exact T.lf B (H.lf B hB)
omit [Dr]in
theorem nq(l m:List Nat):∀e:Env,aO cx base ops (l++m) e=ae (aO cx base ops l e) (aO cx base ops m):=by
 induction l with
 |nil=>intro e;rfl
 |cons i l ih=>
  intro e;show ae (stepG cx base ops i e) (aO cx base ops (l++m))=ae (ae (stepG cx base ops i e) (aO cx base ops l)) (aO cx base ops m);rw[e9];congr 1;funext e';exact ih e'
omit [Dr]in
theorem zG{x:Ent}(h1:jj x=true)(h2:x.g=none):x=⟨.val x.av,none⟩:=by
 obtain⟨v,g⟩:=x;cases v with
 |val a=>simp only at h2;subst h2;rfl
 |loc B off=>cases h1
omit [Dr]in
theorem gh{ρ:Type}(hS:Small ops):∀(gs:List (Option (Nat×Bool)×List Nat))(e2 e:Env)(k:Env->M ρ)(h:Hp),(∀g∈gs,∀i∈g.2,guardOf ops i=g.1)->Rel ops (fy gs) e2 e->dj cx base ops gs e2 k h≠.fail->
  (∃e2' e' h',dj cx base ops gs e2 k h=k e2' h'/\aO cx base ops (fy gs) e h= .ok e' h'/\Rel ops [] e2' e')\/∃v h',dj cx base ops gs e2 k h= .pan v h'/\aO cx base ops (fy gs) e h= .pan v h'
 |[],e2,e,k,h,_,H,_=>.inl ⟨e2,e,h,rfl,rfl,H⟩
 | (none,is):: gs,e2,e,k,h,hg,H,hr=>by
  have hg0:∀i∈is,guardOf ops i=none:=hg (none,is) (by simp);have hfl:fy ((none,is):: gs)=is++fy gs:=rfl;rw[hfl]at H |-;rw[nq];simp only[dj]at hr |-;rw[rO is e2 _ hg0]at hr |-;simp only[ae]at hr |-;have hr2:aO cx base ops is e2 h≠.fail:=fun hf=>by rw[hf]at hr;exact hr rfl
  rcases H.run (base:=base) (cx:=cx) is (fun i hi=>by simp[hi]) h hr2 with⟨e2',e',h',h1,h2,H'⟩|⟨v,h',h1,h2⟩
  ·rw[h1]at hr |-;rw[h2];exact gh hS gs e2' e' k h' (fun g hgg=>hg g (by simp[hgg])) (H'.sub fun i hi=>by simp[hi]) hr
  ·rw[h1,h2];exact .inr ⟨v,h',rfl,rfl⟩
 | (some (j,want),is):: gs,e2,e,k,h,hg,H,hr=>by
  have hg0:∀i∈is,guardOf ops i=some (j,want):=hg (some (j,want),is) (by simp);have hfl:fy ((some (j,want),is):: gs)=is++fy gs:=rfl;rw[hfl]at H |-;rw[nq];simp only[dj]at hr |-;cases hdj:cP ops j with
  |none=>rw[hdj]at hr;exact absurd rfl hr
  | some t=>
   rw[hdj]at hr;simp only at hr |-;revert hr;cases hc:((is.all fun i=>match ops[i]? with|some o=>dL cx o&&o.dst.isSome|none=>false)&&!(dY (cn ops is) t))with
   |false=>intro hr;exact absurd rfl hr
   | true=>
    intro hr;simp only[GP]at hr |-;simp only[GO,HC,GT]at hc;have G:GroupOk cx ops j want t is:=by
     refine⟨hdj,fun i hi=>?_,fun ht=>?_⟩
     ·have:=hc.1 i hi
      cases hoi:ops[i]? with
      |none=>rw[hoi]at this;cases this
      |some o=>
       rw[hoi]at this;simp only[GO]at this;exact⟨o,rfl,hg0 i hi,this.1⟩
     ·rw[(fk _ _).2 ht]at hc;exact Bool.noConfusion hc.2
    have htr:∀i∈is,t∈cw ops i:=fun i hi=>by
     obtain⟨o,ho,hgi,_⟩:=G.each i hi;rw[eS ho];have:o.guard=some (j,want):=by simpa [guardOf,ho]using hgi
     have:t∈dJ ops o:=by
      unfold dJ;rw[this];simp only;rw[show (ops[j]?).bind (·.dst)=some t from hdj];simp
     simp[this]
    -- the guard says yes
    cases is with
    | nil=>
     have hrn:∀e,aO cx base ops [] e=M.pure e:=fun _=>rfl;rw[hrn,aK];have ho:cG ops [] gs=[]:=rfl;have hd:cn ops []=[]:=rfl;rw[ho,hd]at hr |-;have hpure:∀ {q:AV} {m:M (List AV)},m h= .ok [] h->ar q want ([]:List Nat).length m h≠.fail->ar q want ([]:List Nat).length m h= .ok [] h:=by
      intro q m hm hne;cases q with
      |bool b=>
       simp only[ar];cases b== want with
       |true=>exact hm
       |false=>rfl
      |tup vs=>
       cases vs with
       |nil=>rfl
       |cons v vs=>exact absurd rfl hne
      |_=>exact absurd rfl hne
     simp only[ae]at hr |-;have hp:=hpure (q:=e2.av t) (m:=f4 cx base ops true [] e2 fun e'=>bif ([]:List Nat).all (fun t=>jj (e'.get t))then M.pure (([]:List Nat).map e'.av)else M.fail) rfl (fun hf=>by rw[hf]at hr;exact hr rfl);rw[hp]at hr |-;exact gh hS gs e2 e k h (fun g hgg=>hg g (by simp[hgg])) (H.sub fun i hi=>by simp[hi]) hr
    |cons i0 is0=>
    have hav:e.av t=e2.av t:=by
     have:=H.read (i:=i0) (by simp) (htr i0 (by simp))
     simp only[Env.av,this]
    generalize hiseq:i0:: is0=is at *;have hoff:Off (e2.av t) want->(ar (e2.av t) want (cG ops is gs).length (f4 cx base ops true is e2 fun e'=>bif (cG ops is gs).all (fun t=>jj (e'.get t))then M.pure ((cG ops is gs).map e'.av)else M.fail))=M.pure (List.replicate (cG ops is gs).length (.tup [])):=by
     rintro (hq|⟨b,hq,hb⟩)
     ·rw[hq];rfl
     ·rw[hq];simp only[ar,hb,GV]
    have hcase:Off (e2.av t) want\/e2.av t= .bool want:=by
     cases hq:e2.av t with
     |bool b=>
      cases hb:(b== want)with
      |true=>right;simp at hb;rw[hb]
      |false=>exact .inl (.inr ⟨b,rfl,hb⟩)
     |tup vs=>
      cases vs with
      |nil=>exact .inl (.inl rfl)
      |cons v vs=>rw[hq]at hr;exact absurd rfl hr
     |_=>rw[hq]at hr;exact absurd rfl hr
    rcases hcase with ho|hy
    ·rw[hoff ho,aK]at hr |-;obtain⟨e',h1,T,h2⟩:=Ab (base:=base) is e h G (by rw[hav];exact ho);simp only[ae];rw[h1];refine gh hS gs _ e' k h (fun g hgg=>hg g (by simp[hgg])) (H.close hS T (f:=fun _=>.tup []) ?_ fun s hs=>.inl ?_) hr
     ·exact (List.map_const' ..).symm
     ·refine h2 s ?_;unfold cG at hs;exact (JF.1 hs).1
    ·rw[hy]at hr |-;simp only[ar,Iq,GP,ae]at hr |-;rw[o5 is e2 _ h G hy]at hr |-;simp only[ae]at hr |-;have hr2:aO cx base ops is e2 h≠.fail:=fun hf=>by rw[hf]at hr;exact hr rfl
     rcases H.run (base:=base) (cx:=cx) is (fun i hi=>by simp[hi]) h hr2 with⟨e2',e',h',h1,h2,H'⟩|⟨v,h',h1,h2⟩
     ·rw[h1]at hr |-;rw[h2];simp only at hr |-;have T2:=kp is e2 e2' h h' G hy h1;have T:=kp is e e' h h' G (by rw[hav];exact hy) h2;cases hv:(cG ops is gs).all (fun t=>jj (e2'.get t))with
      |false=>rw[hv]at hr;exact absurd rfl hr
      |true=>
       rw[hv]at hr;simp only[GP,M.pure]at hr |-;refine gh hS gs _ e' k h' (fun g hgg=>hg g (by simp[hgg])) (H.close hS T (f:=e2'.av) rfl fun s hs=>?_) hr;have hsd:s∈cn ops is:=by unfold cG at hs;exact (JF.1 hs).1
       have hval:=zG (GT.1 hv s hs) (T2.ng s hsd);rcases H'.get s with h3|⟨h3,h4,h5⟩
       ·left;rw[<- h3];exact hval
       ·right;exact⟨by simp only[Env.av,h3];rfl,h4,fun i hi=>h5 i (by simp[hi])⟩
     ·rw[h1,h2];exact .inr ⟨v,h',rfl,rfl⟩
end
end Go.Av
namespace Go.Av
variable [Dr]
omit [Dr]in
theorem gF(acc:List Nat):∀(es:List Edge)(x:Nat),(f8 acc es).testBit x=true↔∃e∈es,Region.binds .any e=true/\(e.on=x\/(acc.getD e.on 0).testBit x=true)
 |[],x=>by simp[f8]
 | e :: es,x=>by
  simp only[f8];cases hb:Region.binds .any e with
  | false=>
   simp only[GV,gF acc es x,Hg];constructor
   ·rintro⟨e',he,h⟩;exact⟨e',.inr he,h⟩
   ·rintro⟨e',rfl|he,h⟩
    ·rw[hb]at h;exact absurd h.1 (by simp)
    ·exact⟨e',he,h⟩
  | true=>
   simp only[GP,Nat.testBit_or,HQ,gF acc es x,Hg,Nat.testBit_two_pow,G0];constructor
   ·rintro ((⟨e',he,h⟩|h)|h)
    ·exact⟨e',.inr he,h⟩
    ·exact⟨e,.inl rfl,hb,.inl h⟩
    ·exact⟨e,.inl rfl,hb,.inr h⟩
   ·rintro⟨e',rfl|he,h1,h2⟩
    ·rcases h2 with h2|h2
     ·exact .inl (.inr h2)
     ·exact .inr h2
    ·exact .inl (.inl ⟨e',he,h1,h2⟩)
omit [Dr]in
theorem oh:∀(os:List Oper)(acc:List Nat),∃r:List Nat,sr os acc=acc++r/\r.length=os.length/\∀(k:Nat)(o:Oper),os[k]? = some o->r[k]? = some (f8 (acc++r.take k) o.after.toList)
 |[],acc=>⟨[],by simp[sr],rfl,by simp⟩
 | o:: os,acc=>by
  obtain⟨r,h1,h2,h3⟩:=oh os (acc++[f8 acc o.after.toList]);refine⟨f8 acc o.after.toList:: r,by simp[sr,h1],by simp[h2],fun k o' ho=>?_⟩;cases k with
  |zero=>simp at ho;subst ho;simp
  |succ k=>
   simp only[Iv,He]at ho |-;rw[h3 k o' ho];simp
section
variable {ops:Array Oper}
def hJ(ops:Array Oper):List Nat:=sr ops.toList []
omit [Dr]in
theorem xc{j:Nat}{o:Oper}(ho:ops[j]? = some o):(hJ ops).length=ops.size/\(hJ ops).getD j 0=f8 ((hJ ops).take j) o.after.toList:=by
 obtain⟨r,h1,h2,h3⟩:=oh ops.toList [];have h4:hJ ops=r:=by unfold hJ;rw[h1];simp
 rw[h4];refine⟨by simp[h2],?_⟩
 have:=h3 j o (by simpa using ho)
 rw[HA,this];simp
omit [Dr]in
theorem uK{listed:Nat->Prop}(hcl:∀(j:Nat)(o:Oper),ops[j]? = some o->listed j->∀e∈o.after.toList,Region.binds .any e=true->listed e.on):
  ∀(j:Nat)(o:Oper),ops[j]? = some o->(∀e∈o.after.toList,Region.binds .any e=true->listed e.on)->∀x,((hJ ops).getD j 0).testBit x=true->listed x:=by
 intro j
 induction j using Nat.strongRecOn with
 | _ j ih=>
  intro o ho hl x hx;obtain⟨hlen,hget⟩:=xc ho;rw[hget,gF]at hx;obtain⟨e,he,hb,hx|hx⟩:=hx
  ·rw[<- hx];exact hl e he hb
  ·by_cases hj:e.on<j
   ·have hjs:j<ops.size:=(Ho.1 ho).1;have hos:ops[e.on]? = some ops[e.on]:=HX (by omega);have h1:((hJ ops).take j).getD e.on 0=(hJ ops).getD e.on 0:=by
     rw[HA,HA,G3,GR hj]
    rw[h1]at hx;exact ih e.on hj _ hos (hcl e.on _ hos (hl e he hb)) x hx
   ·rw[HA,G3,if_neg hj]at hx;simp at hx
def vY(cx:Cx)(ops:Array Oper)(i j:Nat):Prop:=((hJ ops).getD i 0).testBit j=false/\(((hJ ops).getD j 0).testBit i=true\/jS cx ops i j=true)
omit [Dr]in
theorem lI{cx:Cx}:∀ {l:List Nat},gL cx ops (hJ ops) l=true->l.Pairwise (vY cx ops)/\∀i∈l,((hJ ops).getD i 0).testBit i=false
 |[],_=>⟨.nil,by simp⟩
 |i:: l,h=>by
  simp only[gL,GO,HC,GT,HQ]at h;obtain⟨⟨h1,h2⟩,h3⟩:=h;obtain⟨h4,h5⟩:=lI h3;refine⟨.cons (fun j hj=>h2 j hj) h4,fun k hk=>?_⟩;simp only[Hg]at hk;rcases hk with rfl|hk
  ·exact h1
  ·exact h5 k hk
omit [Dr]in
theorem ig:∀ {l:List Nat},distinct l=true->l.Nodup
 |[],_=>.nil
 |i:: l,h=>by
  simp only[distinct,GO,HC]at h;refine IZ.2 ⟨fun hi=>?_,ig h.2⟩;rw[(fk _ _).2 hi]at h;exact Bool.noConfusion h.1
variable {P:Program} {cx:Cx} {c:Entry} {N base:Nat}
theorem qR(hT:TOK P cx.T)(hC:cr P cx.own cx.call)(hI:IsoPure cx)(hO:OpsOk N cx ops)(hS:Small ops)(hbit:∀i x,((hJ ops).getD i 0).testBit x=true->x<ops.size)(hself:∀i,i<ops.size->((hJ ops).getD i 0).testBit i=false){Q:Exit->Act->World->Prop}:∀(n:Nat)(rest:List Nat)(listed:Array Bool)(D:List Nat)(e:Env)(h:Hp)(a:Act)(w:World),rest.length=n->listed.size=ops.size->rest.Nodup->
  (∀i,i∈rest↔i<ops.size/\listed.getD i true=false)->(∀i∈rest,i ∉ D)->(∀i∈D,i<ops.size)->
  (∀(j:Nat)(o:Oper),ops[j]? = some o->listed.getD j false=true->∀e∈o.after.toList,Region.binds .any e=true->listed.getD e.on false=true)->rest.Pairwise (vY cx ops)->
  dx c N (UD base D) e h a w->aO cx base ops rest e h≠.fail->
  (∀e0 e' h' a' w',aO cx base ops rest e h= .ok e0 h'->EqE e0 e'->dx c N (UR base ops.size) e' h' a' w'->a'.defers=a.defers->Q .normal a' w')->
  (∀pv h' v w' a',aO cx base ops rest e h= .pan pv h'->jb c pv h' v w'->a'.defers=a.defers->Q (.panic [{ v,recovered:=false }]) a' w')->wpAny P .any ops Q n listed a w
 |0,rest,listed,D,e,h,a,w,hlen,hsz,hnd,hmem,hdis,hD,hcl,hpw,H,hr,hn,hp=>by
  have:rest=[]:=Hj hlen;subst this;refine⟨?_,hn e e h a w rfl (.refl e) (H.wider (Am hD)) rfl⟩;refine List.eq_nil_iff_forall_not_mem.2 fun i hi=>?_;obtain⟨h0,o,ho,_⟩:=mem_ready.1 hi
  have:=(hmem i).2 ⟨(Ho.1 ho).1,h0⟩
  simp at this
 | n + 1,rest,listed,D,e,h,a,w,hlen,hsz,hnd,hmem,hdis,hD,hcl,hpw,H,hr,hn,hp=>by
  have hgd:∀i,i<ops.size->listed.getD i true=listed.getD i false:=fun i hi=>by
   rw[Hm,Hm,HX (by omega)];rfl
  refine⟨fun hemp=>?_,fun i hi=>?_⟩
  ·exfalso;cases rest with
   |nil=>simp at hlen
   | cons r0 tl=>
    have hr0:=(hmem r0).1 (by simp);have hor:ops[r0]? = some ops[r0]:=HX hr0.1;have:r0∈Region.ready .any ops listed:=by
     refine mem_ready.2 ⟨hr0.2,_,hor,fun ed hed hb=>?_⟩;have hbt:((hJ ops).getD r0 0).testBit ed.on=true:=by
      rw[(xc hor).2,gF];exact⟨ed,by simpa using hed,hb,.inl rfl⟩
     have hlt:=hbit r0 ed.on hbt;cases hl:listed.getD ed.on false with
     |true=>rfl
     | false=>
      have hin:=(hmem ed.on).2 ⟨hlt,by rw[hgd _ hlt];exact hl⟩;simp only[Hg]at hin;rcases hin with hin|hin
      ·rw[hin]at hbt;rw[hself r0 hr0.1]at hbt;cases hbt
      ·have:=(Ih.1 hpw).1 ed.on hin
       rw[this.1]at hbt;cases hbt
    rw[hemp]at this;simp at this
  ·obtain⟨h0,o,ho,hall⟩:=mem_ready.1 hi;have hlt:i<ops.size:=(Ho.1 ho).1;have hin:=(hmem i).2 ⟨hlt,h0⟩;obtain⟨p,q,rfl⟩:=List.append_of_mem hin;have hnd':=hnd;rw[List.nodup_append]at hnd';have hni:i ∉ p++q:=by
    intro hm;rw[Hr]at hm;rcases hm with hm|hm
    ·exact hnd'.2.2 i hm i (by simp) rfl
    ·exact (IZ.1 hnd'.2.1).1 hm
   have hclo:=uK (ops:=ops) (listed:=fun j=>listed.getD j false=true) (fun j o ho hj ed hed hb=>hcl j o ho hj ed hed hb) i o ho (fun ed hed hb=>hall ed (by simpa using hed) hb);have hfront:∀x∈p,jS cx ops x i=true/\x≠i:=by
    intro x hx;have hpr:=(List.pairwise_append.1 hpw).2.2 x hx i (by simp);refine⟨?_,fun hxi=>hni (by rw[<- hxi];simp[hx])⟩;rcases hpr.2 with h1|h1
    ·have hxl:=hclo x h1;have hxr:=(hmem x).1 (by simp[hx]);rw[hgd x hxr.1]at hxr;rw[hxr.2]at hxl;cases hxl
    ·exact h1
   have hRE:=A2 (base:=base) hI hS q p hfront e h;have hr':aO cx base ops (i:: (p++q)) e h≠.fail:=by
    intro hf;rw[hf]at hRE;cases hx:aO cx base ops (p++i:: q) e h with
    |fail=>exact hr hx
    |ok e0 h0=>rw[hx]at hRE;obtain⟨_,h1,_⟩:=hRE;cases h1
    |pan v h0=>rw[hx]at hRE;cases hRE
   simp only[aO,ae]at hr';have hstep:∀ {r:R Env},aO cx base ops (i:: (p++q)) e h=r->aO cx base ops (i:: (p++q)) e h=r:=fun h=>h;simp only[aO,ae]at hRE;refine ny hT hC hO (hdis i hin) H (fun hf=>by rw[hf]at hr';exact hr' rfl) (fun e1 h1 a1 w1 hst hs hdf=>?_) (fun pv h1 v w1 hst hps=>?_)
   ·rw [hst]at hr' hRE;simp only at hr' hRE;refine qR hT hC hI hO hS hbit hself n (p++q) (listed.setIfInBounds i true) (i:: D) e1 h1 a1 w1 ?_ (by simp[hsz]) ?_ (fun k=>?_) (fun k hk=>?_) (fun k hk=>?_) (fun k o' ho' hk ed hed hb=>?_) ?_ hs hr' (fun e0 e' h' a' w' hok heq hsat hdf'=>?_) (fun pv h' v w' a' hok hps hdf'=>?_)
    ·simp only[Hu,G4]at hlen |-;omega
    ·exact hnd.sublist (List.Sublist.append (List.Sublist.refl p) (List.sublist_cons_self i q))
    ·have hset:k≠i->(listed.setIfInBounds i true).getD k true=listed.getD k true:=fun hk=>by
      rw[Hm,Hm,Iu (Ne.symm hk)]
     constructor
     ·intro hk;have hki:k≠i:=fun h=>hni (h▸hk);rw[hset hki];exact (hmem k).1 (by
       simp only[Hr,Hg]at hk |-;rcases hk with hk|hk
       ·exact .inl hk
       ·exact .inr (.inr hk))
     ·rintro⟨h1,h2⟩;have hki:k≠i:=by
       rintro rfl;rw[Hm,Array.getElem?_setIfInBounds_self]at h2;rw[GR (by omega)]at h2;simp at h2
      rw[hset hki]at h2
      have:=(hmem k).2 ⟨h1,h2⟩
      simp only[Hr,Hg]at this |-;rcases this with h|h|h
      ·exact .inl h
      ·exact absurd h hki
      ·exact .inr h
    ·simp only[Hg,not_or];refine⟨fun hki=>hni (hki▸hk),hdis k ?_⟩;simp only[Hr,Hg]at hk |-;rcases hk with hk|hk
     ·exact .inl hk
     ·exact .inr (.inr hk)
    ·simp only[Hg]at hk;rcases hk with rfl|hk
     ·exact hlt
     ·exact hD k hk
    ·have hmono:∀x,listed.getD x false=true->(listed.setIfInBounds i true).getD x false=true:=fun x hx=>getD_set_true hx;by_cases hki:k=i
     ·subst hki;rw[ho]at ho';cases ho';exact hmono _ (hall ed (by simpa using hed) hb)
     ·refine hmono _ (hcl k o' ho' ?_ ed hed hb);rw[Hm,Iu (Ne.symm hki),<- Hm]at hk;exact hk
    ·exact hpw.sublist (List.Sublist.append (List.Sublist.refl p) (List.sublist_cons_self i q))
    ·rw[hok]at hRE;cases hx:aO cx base ops (p++i:: q) e h with
     |fail=>exact absurd hx hr
     |ok ex hx'=>
      rw[hx]at hRE;obtain⟨e0',h2,h3⟩:=hRE;cases h2;exact hn ex e' _ a' w' hx (h3.trans heq) hsat (hdf'.trans hdf)
     |pan v h0=>rw[hx]at hRE;cases hRE
    ·rw[hok]at hRE;cases hx:aO cx base ops (p++i:: q) e h with
     |fail=>exact absurd hx hr
     |ok ex hx'=>rw[hx]at hRE;obtain⟨_,h1,_⟩:=hRE;cases h1
     |pan v0 h0=>
      rw[hx]at hRE;cases hRE;exact hp _ _ v w' a' hx hps (hdf'.trans hdf)
   ·rw[hst]at hRE;cases hx:aO cx base ops (p++i:: q) e h with
    |fail=>exact absurd hx hr
    |ok ex hx'=>rw[hx]at hRE;obtain⟨_,h1,_⟩:=hRE;cases h1
    |pan v0 h0=>
     rw[hx]at hRE;cases hRE;exact hp _ _ v w1 a hx hps rfl
end
end Go.Av
namespace Go.Av
variable [Dr]
structure IsoCall (cx:Cx):Prop where
 iso:∀f args,cx.iso f=true->∃x:Option (Bool×AV),∀h,cx.call f args h=(match x with|none=>.fail|some (true,v)=>.ok v h|some (false,v)=>.pan v h)
 nw:∀f args,cx.nw f=true->se (cx.call f args)
omit [Dr]in
theorem IsoCall.draw{cx:Cx}(h:IsoCall cx):IsoPure (dQ cx):=by
 refine⟨?_,fun f args hf=>?_⟩
 case refine_2=>
  have hn:=h.nw f args hf;show se (bif cx.iso f then cR (cx.call f args)else cx.call f args);cases cx.iso f with
  |false=>exact hn
  |true=>
   intro hp v h' hh;simp only[GP,cR]at hh;cases hq:cx.call f args hp with
   |ok a b=>rw[hq]at hh;cases hh;exact hn _ _ _ hq
   |pan a b=>rw[hq]at hh;cases hh
   |fail=>rw[hq]at hh;cases hh
 intro f args hf;have hf':cx.iso f=true:=hf;obtain⟨x,hx⟩:=h.iso f args hf';refine⟨match x with|some (true,v)=>some v|_=>none,?_⟩;show (bif cx.iso f then cR (cx.call f args)else cx.call f args)=_;rw[hf'];funext hp;simp only[GP,cR,hx];rcases x with _|⟨b,v⟩
 ·rfl
 ·cases b<;>rfl
theorem cr.draw{P:Program}{cx:Cx}(h:cr P cx.own cx.call):cr P (dQ cx).own (dQ cx).call:=by
 intro f args hp S β w vs hr hg hw hh hv;have hcall:(dQ cx).call f args hp=(bif cx.iso f then cR (cx.call f args) hp else cx.call f args hp):=by
  show (bif cx.iso f then cR (cx.call f args)else cx.call f args) hp=_;cases cx.iso f<;>rfl
 rw[hcall]at hr |-
 have key:∀r,r=cx.call f args hp->r≠.fail->Calls P f vs.toArray w (c9 ((dQ cx).own f) S β hp w r)/\(P.funcs[f]?).any (fun fn=>fn.body.isSome&&!(fn.name== "runtime.NumGoroutine"))=true:=by
  intro r hr1 hr2;subst hr1;exact h f args hp S β w vs hr2 hg hw hh hv
 cases hi:cx.iso f with
 |false=>rw[hi]at hr;exact key _ rfl hr
 |true=>
  rw[hi]at hr;simp only[GP,cR]at hr |-;cases hx:cx.call f args hp with
  |ok v hq=>rw[hx]at hr;exact key _ hx.symm (by simp)
  |pan v hq=>rw[hx]at hr;exact absurd rfl hr
  |fail=>rw[hx]at hr;exact absurd rfl hr
def gX(c:Entry)(N:Nat)(e:Env)(h:Hp)(a:Act)(w:World):Prop:=dx c N (fun g=>g<e.nx*1000) e h a w
theorem dx.rel{c:Entry}{N:Nat}{U:Nat->Prop}{e2 e:Env}{h:Hp}{a:Act}{w:World}{ops:Array Oper}(H:dx c N U e h a w)(R:Rel ops [] e2 e):dx c N U e2 h a w:=by
 obtain⟨S,β,γ,lam,ω,F⟩:=H;refine⟨S,β,γ,lam,ω,F.weak (fun t=>?_) (fun t g hg=>?_) (fun g z hz=>by rw[R.al]at hz;exact hz) (fun B n hB=>by rw[R.lb]at hB;exact hB)⟩
 ·rcases R.get t with h|⟨h1,h2,_⟩
  ·exact .inl (by rw[h])
  ·exact .inr ⟨by rw[h1];rfl,h2⟩
 ·rcases R.get t with h|⟨h1,_⟩
  ·rw[h]at hg;exact hg
  ·rw[h1]at hg;cases hg
theorem dx.eqE{c:Entry}{N:Nat}{U:Nat->Prop}{e2 e:Env}{h:Hp}{a:Act}{w:World}(H:dx c N U e h a w)(R:EqE e e2):dx c N U e2 h a w:=by
 obtain⟨S,β,γ,lam,ω,F⟩:=H;exact⟨S,β,γ,lam,ω,F.weak (fun t=>.inl (by rw[R.get])) (fun t g hg=>by rw[R.get]at hg;exact hg) (fun g z hz=>by rw[R.al]at hz;exact hz) (fun B n hB=>by rw[R.lb]at hB;exact hB)⟩
theorem dx.nx{c:Entry}{N:Nat}{U:Nat->Prop}{e:Env}{h:Hp}{a:Act}{w:World}(n:Nat)(H:dx c N U e h a w):dx c N U { e with nx:=n } h a w:=by
 obtain⟨S,β,γ,lam,ω,F⟩:=H;exact⟨S,β,γ,lam,ω,F.weak (fun t=>.inl rfl) (fun t g hg=>hg) (fun g z hz=>hz) (fun B n hB=>hB)⟩
section
variable {P:Program} {cx:Cx} {c:Entry} {e:Env} {h:Hp} {a:Act} {w:World} {ops:Array Oper} {id:Nat}
omit [Dr]in
theorem nM{n:Nat}(hn:n<=1000)(hd:ge n ops=true)(hk:∀p,vz (bU cx.ann.kinds p .L)=true->p<n):OpsOk n cx ops/\Small ops:=by
 unfold ge at hd;rw[Array.all_eq_true_iff_forall_mem]at hd;have h1:∀(i:Nat)(o:Oper),ops[i]? = some o->(∀t,o.dst=some t->t<n)/\∀t∈ga o,t<1000:=by
  intro i o ho
  have:=hd o (Array.mem_of_getElem? ho)
  simp only[GO,GT,G0]at this;refine⟨fun t ht=>?_,this.2⟩;have h2:=this.1;rw[ht]at h2;simpa using h2
 refine⟨⟨fun i o ho=>(h1 i o ho).1,fun i o ho x hx t hxt=>(h1 i o ho).2 t ?_,hk⟩,⟨fun i o ho t ht=>Hw ((h1 i o ho).1 t ht) hn,fun i o ho=>(h1 i o ho).2⟩⟩;subst hxt;exact I2.2 ⟨_,hx,rfl⟩
theorem vM{ρ:Type}(hT:TOK P cx.T)(hC:cr P cx.own cx.call)(hI:IsoCall cx)(hk:∀p,vz (bU cx.ann.kinds p .L)=true->p<cx.nt){draw:Bool}{k:Env->M ρ}(H:gX c cx.nt e h a w)(hr:lv cx id ops draw e k h≠.fail){Q:Exit->Act->World->Prop}(hn:∀e' h' a' w',lv cx id ops draw e k h=k e' h'->gX c cx.nt e' h' a' w'->a'.defers=a.defers->Q .normal a' w')(hp:∀pv h' v w' a',lv cx id ops draw e k h= .pan pv h'->jb c pv h' v w'->a'.defers=a.defers->Q (.panic [{ v,recovered:=false }]) a' w'):
  (Code.region id ops draw).wp P Q a w:=by
 have hN:cx.nt<=1000:=by obtain⟨S,β,γ,lam,ω,F⟩:=H;exact F.tsz.2
 have H0:dx c cx.nt (UD e.nx []) e h a w:=H.wider fun g hg=>.inl hg;unfold lv at hr hn hp;cases hds:ge cx.nt ops with
 |false=>rw[hds]at hr;exact absurd rfl hr
 | true=>
  obtain⟨hO,hS⟩:=nM (cx:=cx) hN hds hk;rw[hds]at hr hn hp;simp only[GP]at hr hn hp;cases draw with
  | false=>
   simp only[GV]at hr hn hp;obtain⟨hfl,hgs⟩:=f7 ops (List.range ops.size);refine wp_region (o7 hT hC hO (List.range ops.size) [] e h a w List.nodup_range (by simp) H0 ?_ ?_ ?_)
   all_goals
    have hseq:=gh (cx:=cx) (base:=e.nx) hS (cQ ops (List.range ops.size)) e e _ h hgs (.refl ops _ e) hr;rw[hfl]at hseq
   ·rcases hseq with⟨_,_,_,_,h2,_⟩|⟨_,_,_,h2⟩<;>rw[h2]<;>simp
   ·intro e' h' a' w' hok hsat hdf;rcases hseq with⟨e2',e'',h'',h1,h2,hR⟩|⟨_,_,_,h2⟩
    ·rw[h2]at hok;cases hok;refine hn _ _ a' w' h1 (dx.nx _ ((hsat.wider (Am ?_)).rel hR)) hdf;intro i hi;simpa using hi
    ·rw[h2]at hok;cases hok
   ·intro pv h' v w' a' hok hps hdf;rcases hseq with⟨e2',e'',h'',h1,h2,hR⟩|⟨_,_,h1,h2⟩
    ·rw[h2]at hok;cases hok
    ·rw[h2]at hok;cases hok;exact hp _ _ v w' a' h1 hps hdf
  | true=>
   simp only[GP]at hr hn hp;generalize oX cx id ops.size=ord at hr hn hp;cases hdo:jh cx ops ord with
   |false=>rw[hdo]at hr;exact absurd rfl hr
   | true=>
    rw[hdo]at hr hn hp;simp only[GP]at hr hn hp;simp only[jh,yn,GO,GT,G0]at hdo;obtain⟨⟨⟨⟨⟨hlen,hmem⟩,hdist⟩,hlt⟩,hbits⟩,hpairs⟩:=hdo;have hlen':ord.length=ops.size:=GU hlen;obtain⟨hpw,hself⟩:=lI (cx:=cx) (ops:=ops) hpairs;have hpw':ord.Pairwise (vY (dQ cx) ops):=hpw;have hO':OpsOk cx.nt (dQ cx) ops:=⟨hO.dst,hO.src,hO.kin⟩;obtain⟨hfl,hgs⟩:=f7 ops ord;have hseq:=gh (cx:=dQ cx) (base:=e.nx) hS (cQ ops ord) e e _ h hgs (.refl ops _ e) hr;rw[hfl]at hseq;refine wp_region_draw fun t=>?_;have hsch:Region.schedule (P.follows .mixedOrders) ops t=Region.linearise .any ops t:=by
     simp only[Region.schedule,hT.mix,Bool.true_or,Hn]
    rw[hsch];have hmem':∀i,i∈ord↔i<ops.size:=fun i=>⟨fun hi=>hlt i hi,fun hi=>(fk _ _).1 (hmem i (by simpa using hi))⟩;refine wpAny_sound ops.size t _ a _ (qR (cx:=dQ cx) (c:=c) (N:=cx.nt) (base:=e.nx) hT hC.draw hI.draw hO' hS ?_ ?_ ops.size ord (Array.replicate ops.size false) [] e h a w.drew hlen' (by simp) (ig hdist) ?_ (by simp) (by simp) ?_ hpw' ?_ ?_ ?_ ?_)
    ·intro i x hx;rcases Hb x ops.size with h'|h'
     ·exact h'
     ·have hm:(hJ ops).getD i 0<2 ^ ops.size:=by
       rw[HA];cases hi:(hJ ops)[i]? with
       |none=>simp;exact Nat.pow_pos (by omega)
       |some m=>exact hbits m (HW hi)
      rw[Nat.testBit_lt_two_pow (Hw hm (Nat.pow_le_pow_right (by omega) h'))]at hx;cases hx
    ·exact fun i hi=>hself i ((hmem' i).2 hi)
    ·intro i;rw[hmem'];constructor
     ·intro hi;refine⟨hi,?_⟩;rw[Hm,Jy,GR hi];rfl
     ·exact fun hi=>hi.1
    ·intro j o ho hj;exfalso;rw[Hm,Jy]at hj;split at hj<;>simp at hj
    ·obtain⟨S,β,γ,lam,ω,F⟩:=H0;exact⟨S,β,γ,lam,ω,F.drew⟩
    ·rcases hseq with⟨_,_,_,_,h2,_⟩|⟨_,_,_,h2⟩<;>rw[h2]<;>simp
    ·intro e0 e' h' a' w' hok heq hsat hdf;rcases hseq with⟨e2',e'',h'',h1,h2,hR⟩|⟨_,_,_,h2⟩
     ·rw[h2]at hok;cases hok;exact hn _ _ a' w' h1 (dx.nx _ ((hsat.eqE heq.symm).rel hR)) hdf
     ·rw[h2]at hok;cases hok
    ·intro pv h' v w' a' hok hps hdf;rcases hseq with⟨e2',e'',h'',h1,h2,hR⟩|⟨_,_,h1,h2⟩
     ·rw[h2]at hok;cases hok
     ·rw[h2]at hok;cases hok;exact hp _ _ v w' a' h1 hps hdf
end
end Go.Av
namespace Go.Av
variable [Dr]
omit [Dr]in
theorem gK{e:Env}:∀(l:List (Nat×Option Nat))(used:List Nat)(vs:List AV),fm e l used=some vs->vs.length=l.length/\
  (∀(i:Nat)(t:Nat)(z:Option Nat),l[i]? = some (t,z)->∃a,vs[i]? = some a/\(e.get t).v= .val a/\∀sz,z=some sz->∃g z0,(e.get t).g=some g/\aD e.al g=some z0/\(z0=none\/z0=some sz)/\g ∉ used)/\
  ∀(i j:Nat)(t t' sz sz':Nat),i<j->l[i]? = some (t,some sz)->l[j]? = some (t',some sz')->(e.get t).g≠(e.get t').g
 |[],used,vs,h=>by
  simp only[fm,GN]at h;subst h;exact⟨rfl,by simp,by simp⟩
 | (t,none):: r,used,vs,h=>by
  simp only[fm]at h;split at h
  ·rename_i a ha;split at h
   ·rename_i vs' hvs;simp only[GN]at h;subst h;obtain⟨h1,h2,h3⟩:=gK r used vs' hvs;refine⟨by simp[h1],fun i t' z hi=>?_,fun i j t1 t2 sz1 sz2 hij hi hj=>?_⟩
    ·cases i with
     |zero=>
      simp only[Hh,GN,HB]at hi;obtain⟨rfl,rfl⟩:=hi;exact⟨a,rfl,ha,fun sz hsz=>by cases hsz⟩
     |succ i=>simpa using h2 i t' z (by simpa using hi)
    ·cases i with
     |zero=>simp at hi
     |succ i=>
      cases j with
      |zero=>omega
      |succ j=>exact h3 i j t1 t2 sz1 sz2 (by omega) (by simpa using hi) (by simpa using hj)
   ·cases h
  ·cases h
 | (t, some sz):: r,used,vs,h=>by
  simp only[fm]at h;split at h
  ·rename_i a g ha hg;split at h
   ·cases h
   ·rename_i z0 hz0;have hcond:qk z0 (some sz)=true/\dY used g=false/\(match fm e r (g:: used)with|some vs=>some (a:: vs)|none=>none)=some vs:=by
     cases hm:dY used g with
     | true=>
      rw[hm]at h;cases z0 with
      |none=>cases h
      |some n=>
       simp only at h;cases hb:Nat.beq n sz<;>rw[hb]at h<;>cases h
     | false=>
      rw[hm]at h;cases z0 with
      |none=>exact⟨rfl,rfl,h⟩
      |some n=>
       simp only at h;cases hb:Nat.beq n sz with
       |true=>rw[hb]at h;exact⟨hb,rfl,h⟩
       |false=>rw[hb]at h;cases h
    obtain⟨hc1,hc2,h⟩:=hcond;have hc:=And.intro hc1 hc2
    ·split at h
     ·rename_i vs' hvs;simp only[GN]at h;subst h;have hgu:g ∉ used:=fun hm=>by
       rw[(fk _ _).2 hm]at hc;exact Bool.noConfusion hc.2
      have hz:z0=none\/z0=some sz:=by
       cases z0 with
       |none=>exact .inl rfl
       |some n=>exact .inr (by rw[GU hc.1])
      obtain⟨h1,h2,h3⟩:=gK r (g:: used) vs' hvs;refine⟨by simp[h1],fun i t' z hi=>?_,fun i j t1 t2 sz1 sz2 hij hi hj=>?_⟩
      ·cases i with
       |zero=>
        simp only[Hh,GN,HB]at hi;obtain⟨rfl,rfl⟩:=hi;exact⟨a,rfl,ha,fun sz' hsz=>by cases hsz;exact⟨g,z0,hg,hz0,hz,hgu⟩⟩
       |succ i=>
        obtain⟨a',k1,k2,k3⟩:=h2 i t' z (by simpa using hi);refine⟨a',by simpa using k1,k2,fun sz' hsz=>?_⟩;obtain⟨g',z',m1,m2,m3,m4⟩:=k3 sz' hsz;exact⟨g',z',m1,m2,m3,fun hm=>m4 (by simp[hm])⟩
      ·cases i with
       | zero=>
        cases j with
        |zero=>omega
        |succ j=>
         simp only[Hh,GN,HB]at hi;obtain⟨rfl,_⟩:=hi;obtain⟨a',k1,k2,k3⟩:=h2 j t2 (some sz2) (by simpa using hj);obtain⟨g',z',m1,m2,m3,m4⟩:=k3 sz2 rfl;rw[hg,m1];intro hh;simp only[GN]at hh;exact m4 (by simp[hh])
       |succ i=>
        cases j with
        |zero=>omega
        |succ j=>exact h3 i j t1 t2 sz1 sz2 (by omega) (by simpa using hi) (by simpa using hj)
     ·cases h
  ·cases h
omit [Dr]in
theorem gW(vs:List AV)(r:List (Nat×Ent))(t:Nat):∀(l:List (Nat×Option Nat))(k:Nat),
  (∃(i:Nat)(z:Option Nat),l[i]? = some (t,z)/\bq (ci vs k l++r) t=⟨.val (nth vs (k+i)),z.map fun _=>k+i⟩)\/
  ((∀(i:Nat)(z:Option Nat),l[i]? ≠some (t,z))/\bq (ci vs k l++r) t=bq r t)
 |[],k=>.inr ⟨by simp,rfl⟩
 | (s,z):: l,k=>by
  have hh:ci vs k ((s,z):: l)=(s,⟨.val (nth vs k),z.map fun _=>k⟩):: ci vs (k+1) l:=by cases z<;>rfl
  rw[hh,Ht,bP];by_cases hs:s=t
  ·subst hs;rw[GR rfl];exact .inl ⟨0,z,rfl,rfl⟩
  ·rw[if_neg hs];rcases gW vs r t l (k+1)with⟨i,z',h1,h2⟩|⟨h1,h2⟩
   ·refine .inl ⟨i+1,z',by simpa using h1,?_⟩;rw[h2,show k+1+i=k+(i+1) by omega]
   ·refine .inr ⟨fun i z' hi=>?_,h2⟩;cases i with
    |zero=>simp at hi;exact hs hi.1
    |succ i=>exact h1 i z' (by simpa using hi)
omit [Dr]in
theorem fe:∀(l:List (Nat×Option Nat))(k g:Nat)(y:Option Nat),aD (gn k l) g=some y->∃(i t sz:Nat),l[i]? = some (t,some sz)/\g=k+i/\y=some sz
 |[],k,g,y,h=>by simp[gn,aD]at h
 |(s,none):: l,k,g,y,h=>by
  obtain⟨i,t,sz,h1,h2,h3⟩:=fe l (k+1) g y h;exact⟨i+1,t,sz,by simpa using h1,by omega,h3⟩
 | (s,some n):: l,k,g,y,h=>by
  simp only[gn,bB]at h;split at h
  ·rename_i hk;simp only[GN]at h;exact⟨0,s,n,rfl,by omega,h.symm⟩
  ·obtain⟨i,t,sz,h1,h2,h3⟩:=fe l (k+1) g y h;exact⟨i+1,t,sz,by simpa using h1,by omega,h3⟩
omit [Dr]in
theorem kP(t:Nat):∀(l:List (Nat×Nat×Nat)),(∃B off,(t,B,off)∈l/\bq (l.map fun x=>(x.1,(⟨.loc x.2.1 x.2.2,none⟩:Ent))) t=⟨.loc B off,none⟩)\/bq (l.map fun x=>(x.1,(⟨.loc x.2.1 x.2.2,none⟩:Ent))) t=Ent.none
 |[]=>.inr rfl
 | (s,B,off):: l=>by
  rw[Hs,bP];by_cases hs:s=t
  ·subst hs;rw[GR rfl];exact .inl ⟨B,off,by simp,rfl⟩
  ·rw[if_neg hs];rcases kP t l with⟨B',off',h1,h2⟩|h
   ·exact .inl ⟨B',off',by simp[h1],h2⟩
   ·exact .inr h
omit [Dr]in
theorem mW{e:Env}:∀ {l:List (Nat×Nat×Nat)},mV e l=true->∀t B off,(t,B,off)∈l->(e.get t).v= .loc B off
 |[],_,t,B,off,h=>by simp at h
 | (s,B0,off0):: l,h,t,B,off,hm=>by
  simp only[mV,GO]at h;simp only[Hg,HB]at hm;rcases hm with⟨rfl,rfl,rfl⟩|hm
  ·have h1:=h.1;split at h1
   ·rename_i B' off' hv;simp only[GO]at h1;rw[hv,GU h1.1,GU h1.2]
   ·cases h1
  ·exact mW h.2 t B off hm
omit [Dr]in
theorem oO{e:Env}:∀ {l:List (Nat×Nat)},rA e l=true->∀B n,bb l B=some n->bb e.lb B=some n
 |[],_,B,n,h=>by simp[bb]at h
 | (B0,n0):: l,h,B,n,hm=>by
  simp only[rA,GO]at h;rw[de]at hm;split at hm
  ·rename_i hB;subst hB;simp only[GN]at hm;subst hm;have h1:=h.1;split at h1
   ·rename_i m hv;rw[hv,GU h1]
   ·cases h1
  ·exact oO h.2 B n hm
section
variable {c:Entry} {N:Nat} {e:Env} {h:Hp} {a:Act} {w:World}
open Classical in
theorem qo{ja:JA}{vs:List AV}(H:gX c N e h a w)(hp:pack ja e=some vs):gX c N (unpack ja vs) h a w:=by
 obtain⟨S,β,γ,lam,ω,F⟩:=H;unfold pack at hp;cases hlo:(mV e ja.locs&&rA e ja.lbs)with
 |false=>rw[hlo]at hp;cases hp
 | true=>
  rw[hlo]at hp;simp only[GP]at hp;simp only[GO]at hlo;obtain⟨hlen,hval,hdis⟩:=gK ja.vals [] vs hp
  -- the groups carried
  let gOf:Nat->Option Nat:=fun i=>match ja.vals[i]? with|some (t,some _)=>(e.get t).g|_=>none
  have hg1:∀i t sz,ja.vals[i]? = some (t,some sz)->∃g z0,gOf i=some g/\(e.get t).g=some g/\aD e.al g=some z0/\(z0=none\/z0=some sz):=by
   intro i t sz hi;obtain⟨a',_,_,h3⟩:=hval i t (some sz) hi;obtain⟨g,z0,k1,k2,k3,_⟩:=h3 sz rfl;refine⟨g,z0,?_,k1,k2,k3⟩;show (match ja.vals[i]? with|some (t,some _)=>(e.get t).g|_=>none)=some g;rw[hi];exact k1
  have hg2:∀i j g,gOf i=some g->gOf j=some g->i=j:=by
   have hex:∀i g,gOf i=some g->∃t sz,ja.vals[i]? = some (t,some sz)/\(e.get t).g=some g:=by
    intro i g hi;have hi':(match ja.vals[i]? with|some (t,some _)=>(e.get t).g|_=>none)=some g:=hi;split at hi'
    ·rename_i t sz ht;exact⟨t,sz,ht,hi'⟩
    ·cases hi'
   intro i j g hi hj;obtain⟨t,sz,k1,k2⟩:=hex i g hi;obtain⟨t',sz',m1,m2⟩:=hex j g hj;rcases Nat.lt_trichotomy i j with hlt|heq|hlt
   ·exact absurd (k2.trans m2.symm) (hdis i j t t' sz sz' hlt k1 m1)
   ·exact heq
   ·exact absurd (m2.trans k2.symm) (hdis j i t' t sz' sz hlt m1 k1)
  let γ':Nat->Value:=fun i=>match gOf i with|some g=>γ g|none=>undef
  let ω':Nat->Owner:=fun b=>match ω b with
   |.grp g=>if hx:∃i,gOf i=some g then .grp (Classical.choose hx)else .no
   |o=>o
  have hωg:∀b g i,ω b= .grp g->gOf i=some g->ω' b= .grp i:=by
   intro b g i hb hi;show (match ω b with|.grp g=>if hx:∃i,gOf i=some g then Owner.grp (Classical.choose hx)else .no|o=>o)= .grp i;rw[hb];simp only;have hx:∃i,gOf i=some g:=⟨i,hi⟩;rw[dif_pos hx,hg2 _ _ g (I9 hx) hi]
  have hωo:∀b,(∀g,ω b≠.grp g)->ω' b=ω b:=by
   intro b hb;show (match ω b with|.grp g=>if hx:∃i,gOf i=some g then Owner.grp (Classical.choose hx)else .no|o=>o)=ω b;cases ho:ω b with
   |grp g=>exact absurd ho (hb g)
   |_=>rfl
  have hωn:∀b,ω' b≠.no->ω b≠.no:=by
   intro b hb ho;refine hb ?_;rw[hωo b (fun g hg=>by rw[ho]at hg;cases hg),ho]
  have hωx:∀b g,ω' b= .grp g->∃g',ω b= .grp g':=by
   intro b g hg;cases ho:ω b with
   |grp g'=>exact⟨g',rfl⟩
   |_=>rw[hωo b (fun g' h'=>by rw[ho]at h';cases h'),ho]at hg;cases hg
  -- the slots
  have hget:∀t,(∃(i:Nat)(z:Option Nat)(a':AV),ja.vals[i]? = some (t,z)/\(e.get t).v= .val a'/\(unpack ja vs).get t=⟨.val a',z.map fun _=>i⟩)\/(∃B off,(e.get t).v= .loc B off/\(unpack ja vs).get t=⟨.loc B off,none⟩)\/(unpack ja vs).get t=Ent.none:=by
   intro t;have hu:(unpack ja vs).get t=bq (ci vs 0 ja.vals++ja.locs.map fun x=>(x.1,(⟨.loc x.2.1 x.2.2,none⟩:Ent))) t:=rfl;rcases gW vs (ja.locs.map fun x=>(x.1,(⟨.loc x.2.1 x.2.2,none⟩:Ent))) t ja.vals 0 with⟨i,z,h1,h2⟩|⟨h1,h2⟩
   ·obtain⟨a',k1,k2,_⟩:=hval i t z h1;refine .inl ⟨i,z,a',h1,k2,?_⟩;rw[hu,h2,G5];have:nth vs i=a':=by simp[nth,k1]
    rw[this]
   ·rcases kP t ja.locs with⟨B,off,k1,k2⟩|k
    ·exact .inr (.inl ⟨B,off,mW hlo.1 t B off k1,by rw[hu,h2,k2]⟩)
    ·exact .inr (.inr (by rw[hu,h2,k]))
  have hgg:∀t g,((unpack ja vs).get t).g=some g->∃sz,ja.vals[g]? = some (t,some sz):=by
   intro t g hg;rcases hget t with⟨i,z,a',h1,_,h3⟩|⟨_,_,_,h3⟩|h3
   ·rw[h3]at hg;cases z with
    |none=>simp at hg
    |some sz=>simp at hg;subst hg;exact⟨sz,h1⟩
   ·rw[h3]at hg;cases hg
   ·rw[h3]at hg;cases hg
  have hγ:∀t g,((unpack ja vs).get t).g=some g->∃g0 z0,(e.get t).g=some g0/\aD e.al g0=some z0/\γ' g=γ g0:=by
   intro t g hg;obtain⟨sz,h1⟩:=hgg t g hg;obtain⟨g0,z0,k1,k2,k3,_⟩:=hg1 g t sz h1;refine⟨g0,z0,k2,k3,?_⟩;show (match gOf g with|some g=>γ g|none=>undef)=γ g0;rw[k1]
  refine⟨S,β,γ',lam,ω',⟨F.wf,F.gro,F.keep,F.le,F.ext,F.hlen,fun l cs hl hcs=>?_,F.tsz,fun t ht=>?_,fun t g z ht hg hz=>?_,fun B n hB=>?_,fun g z hz=>?_,fun b hb=>⟨(F.mine b (hωn b hb)).1.imp (fun hE=>⟨hE.1,fun g hg=>by obtain⟨g',h'⟩:=hωx b g hg;exact hE.2 g' h'⟩) id,(F.mine b (hωn b hb)).2⟩,fun t g hg=>?_,fun g z hz=>?_⟩⟩
  ·rcases F.heap l cs hl hcs with⟨b,x,h1,h2,h3,h4⟩|⟨b,h1,h3,h4⟩
   ·exact .inl ⟨b,x,h1,h2,by rw[hωo b (fun g hg=>by rw[h3]at hg;cases hg)];exact h3,h4⟩
   ·exact .inr ⟨b,h1,by rw[hωo b (fun g hg=>by rw[h3]at hg;cases hg)];exact h3,h4⟩
  ·have hs:=F.slots t ht;rcases hget t with⟨i,z,a',_,h2,h3⟩|⟨B,off,h2,h3⟩|h3
   ·rw[h3];rw[h2]at hs;exact hs
   ·rw[h3];rw[h2]at hs;exact hs
   ·rw[h3];simp[Ent.none,d8,VR]
  ·obtain⟨g0,z0,k1,k2,k3⟩:=hγ t g hg;rw[k3];exact F.grps t g0 z0 ht k1 k2
  ·obtain⟨k1,k2,k3,b,x,k4,k5,k6,k7,k8⟩:=F.lblk B n (oO hlo.2 B n hB);refine⟨k1,k2,k3,b,x,k4,k5,by rw[hωo b (fun g hg=>by rw[k6]at hg;cases hg)];exact k6,k7,fun i hi=>?_⟩;obtain⟨v,a',m1,m2,m3,m4⟩:=k8 i hi;have hgr:∀g z,((unpack ja vs).get (B+i)).g=some g->aD (unpack ja vs).al g=some z->v=γ' g:=by
    intro g z hg _;obtain⟨g0,z0,p1,p2,p3⟩:=hγ _ g hg;rw[p3];exact m4 g0 z0 p1 p2
   rcases hget (B+i)with⟨j,z,a2,_,h2,h3⟩|⟨B',off,h2,h3⟩|h3
   ·refine⟨v,a2,m1,by rw[h3],?_,hgr⟩;rw[m2]at h2;cases h2;exact m3
   ·rw[m2]at h2;cases h2
   ·exact⟨v,.any,m1,by rw[h3];rfl,by simp[VR],hgr⟩
  ·obtain⟨i,t,sz,h1,h2,h3⟩:=fe ja.vals 0 g z hz;rw[G5]at h2;subst h2;obtain⟨g0,z0,k1,k2,k3,k4⟩:=hg1 g t sz h1;have hγ':γ' g=γ g0:=by
    show (match gOf g with|some g=>γ g|none=>undef)=γ g0;rw[k1]
   rw[hγ'];obtain⟨ad,len,cap,m1,m2,m3,m4⟩:=F.free g0 z0 k3;refine⟨ad,len,cap,m1,m2,m3,m4.imp id ?_⟩;rintro⟨sz',b,off,x,p1,p2,p3,p4,p5,p6⟩;have:sz'=sz:=by
    rcases k4 with k4|k4<;>rw[k4]at p1<;>cases p1;rfl
   subst this;exact⟨sz',b,off,x,h3,p2,p3,p4,hωg b g0 g p5 k1,p6⟩
  ·obtain⟨sz,h1⟩:=hgg t g hg;have:g<ja.vals.length:=by
    rcases Hb g ja.vals.length with h|h
    ·exact h
    ·rw[G1 h]at h1;cases h1
   show g<ja.vals.length*1000;omega
  ·obtain⟨i,t,sz,h1,h2,h3⟩:=fe ja.vals 0 g z hz;have:i<ja.vals.length:=by
    rcases Hb i ja.vals.length with h|h
    ·exact h
    ·rw[G1 h]at h1;cases h1
   show g<ja.vals.length*1000;omega
omit [Dr]in
theorem zH(d:Nat)(h:Hp):fU d h .any= .any:=by cases d<;>rfl
omit [Dr]in
theorem un(g:AV->AV)(hg:g .any= .any)(vs:List AV)(i:Nat):nth (vs.map g) i=g (nth vs i):=by
 unfold nth;rw[HA,HA,HU];cases vs[i]? with
 |none=>simp[hg]
 |some v=>rfl
structure Reval (g:AV->AV) (x y:Ent):Prop where
 gr:y.g=x.g
 v:(∃a,x.v= .val a/\y.v= .val (g a))\/(∃B off,x.v= .loc B off/\y.v= .loc B off)
omit [Dr]in
theorem eZ(g:AV->AV)(hg:g .any= .any)(vs:List AV)(r:List (Nat×Ent))(hr:∀t,Reval g (bq r t) (bq r t))(t:Nat):∀(l:List (Nat×Option Nat))(k:Nat),
  Reval g (bq (ci vs k l++r) t) (bq (ci (vs.map g) k l++r) t)
 |[],k=>by simpa [ci]using hr t
 |(s,none):: l,k=>by
  simp only[ci,Ht,bq];cases Nat.beq s t with
  |true=>exact⟨rfl,.inl ⟨_,rfl,by simp only[GP];rw[un g hg]⟩⟩
  |false=>exact eZ g hg vs r hr t l (k+1)
 |(s,some z):: l,k=>by
  simp only[ci,Ht,bq];cases Nat.beq s t with
  |true=>exact⟨rfl,.inl ⟨_,rfl,by simp only[GP];rw[un g hg]⟩⟩
  |false=>exact eZ g hg vs r hr t l (k+1)
omit [Dr]in
theorem qn(g:AV->AV)(hg:g .any= .any)(ja:JA)(vs:List AV)(t:Nat):Reval g ((unpack ja vs).get t) ((unpack ja (vs.map g)).get t):=by
 refine eZ g hg vs _ (fun t=>?_) t ja.vals 0;rcases kP t ja.locs with⟨B,off,_,k2⟩|k
 ·rw[k2];exact⟨rfl,.inr ⟨B,off,rfl,rfl⟩⟩
 ·rw[k];exact⟨rfl,.inl ⟨.any,rfl,by simp[Ent.none,hg]⟩⟩
theorem FR.reval{U:Nat->Prop}{S:ay}{β:List bj}{γ:Nat->Value}{lam:Nat->Option Nat}{ω:Nat->Owner}{e2:Env}{h2:Hp}{S2:ay}{ω2:Nat->Owner}{g:AV->AV}(F:FR c N U e h a w S β γ lam ω)(F2:FR c N U e h2 a w S2 β γ lam ω2)(hg:∀x v,VR S β x v->VR S2 β (g x) v)(hr:∀t,Reval g (e.get t) (e2.get t))(hal:e2.al=e.al)(hlb:e2.lb=e.lb):FR c N U e2 h2 a w S2 β γ lam ω2:=by
 refine⟨F2.wf,F2.gro,F2.keep,F2.le,F2.ext,F2.hlen,F2.heap,F2.tsz,fun t ht=>?_,fun t k z ht hk hz=>?_,fun B n hB=>?_,fun k z hz=>F2.free k z (by rw[<- hal];exact hz),F2.mine,fun t k hk=>?_,fun k z hz=>F2.used.2 k z (by rw[<- hal];exact hz)⟩
 ·have h1:=F.slots t ht;rcases (hr t).v with⟨x,q1,q2⟩|⟨B,off,q1,q2⟩
  ·rw[q1]at h1;rw[q2];exact hg _ _ h1
  ·rw[q1]at h1;rw[q2];exact h1
 ·rw[(hr t).gr]at hk;rw[hal]at hz;exact F2.grps t k z ht hk hz
 ·rw[hlb]at hB;obtain⟨k1,k2,k3,b,x,k4,k5,k6,k7,k8⟩:=F2.lblk B n hB;obtain⟨_,_,_,b',x',j4,j5,j6,j7,j8⟩:=F.lblk B n hB;rw[k4]at j4;cases j4;cases k5.inj j5;refine⟨k1,k2,k3,b,x,k4,k5,k6,k7,fun i hi=>?_⟩;obtain⟨v,a',m1,m2,m3,m4⟩:=k8 i hi;obtain⟨v',a'',n1,n2,n3,_⟩:=j8 i hi;rw[m1]at n1;cases n1;rcases (hr (B+i)).v with⟨y,q1,q2⟩|⟨B',off,q1,q2⟩
  ·rw[n2]at q1;cases q1;refine⟨v,g a'',m1,q2,hg _ _ n3,fun k z hk hz=>?_⟩;rw[(hr (B+i)).gr]at hk;rw[hal]at hz;exact m4 k z hk hz
  ·rw[n2]at q1;cases q1
 ·rw[(hr t).gr]at hk;exact F2.used.1 t k hk
theorem nO{ja:JA}{vs:List AV}(H:gX c N (unpack ja vs) h a w):gX c N (unpack ja (vs.map (fU 6 h))) (h.map fun _=>[]) a w:=by
 obtain⟨S,β,γ,lam,ω,F⟩:=H;obtain⟨S2,ω2,F2,hf⟩:=F.freeze;have F3:=F.reval F2 (g:=fU 6 h) (fun x v hx=>hf _ _ hx) (qn _ (zH 6 h) ja vs) (e2:=unpack ja (vs.map (fU 6 h))) rfl rfl;exact⟨S2,β,γ,lam,ω2,F3⟩
end
end Go.Av
namespace Go.Av
variable [Dr]
section
variable {P:Program} {cx:Cx} {c:Entry} {e:Env} {h:Hp} {a:Act} {w:World} {ops:Array Oper} {id:Nat}
theorem tq{ρ:Type}(hT:TOK P cx.T)(hC:cr P cx.own cx.call)(hI:IsoCall cx)(hk:∀p,vz (bU cx.ann.kinds p .L)=true->p<cx.nt){draw:Bool}{k:Env->M ρ}(H:gX c cx.nt e h a w)(hr:kD cx id ops draw e k h≠.fail){Q:Exit->Act->World->Prop}(hn:∀e' h' a' w',kD cx id ops draw e k h=k e' h'->gX c cx.nt e' h' a' w'->a'.defers=a.defers->Q .normal a' w')(hp:∀pv h' v w' a',kD cx id ops draw e k h= .pan pv h'->jb c pv h' v w'->a'.defers=a.defers->Q (.panic [{ v,recovered:=false }]) a' w'):
  (Code.region id ops draw).wp P Q a w:=vM hT hC hI hk H hr hn hp
end
end Go.Av
namespace Go.Av
variable [Dr]
section
variable {P:Program} {Q:Exit->Act->World->Prop} {b:Code}
def g7(P:Program)(c:Code)(Q:Exit->Act->World->Prop)(a:Act)(w:World):Prop:=
 ∀(b:Frame)(k:List Item)(cs:List Frame),∃e a' w',Q e a' w'/\Arrives P (lone (b.at a (.code c:: .inLoop c:: k)) cs w) b k cs e a' w'
omit [Dr]in
theorem g7.loop{a:Act}{w:World}(h:g7 P b Q a w):(Code.loop b).wp P Q a w:=
 fun f k cs=>let ⟨e,a',w',q,r⟩:=h f k cs;⟨e,a',w',q,.of_steps (.one step_loop) r⟩
omit [Dr]in
theorem g7.round{a:Act}{w:World}(h:b.wp P (Exit.then (g7 P b Q) Q) a w):g7 P b Q a w:=by
 intro f k cs;obtain⟨e,a₁,w₁,hq,harr⟩:=h f (.inLoop b:: k) cs;cases e with
 |normal=>
  obtain⟨e₂,a₂,w₂,hq₂,harr₂⟩:=hq f k cs;exact⟨e₂,a₂,w₂,hq₂,.of_steps (Steps.trans harr (.one step_inLoop)) harr₂⟩
 |exit id=>exact⟨_,a₁,w₁,hq,.pass (x:=.inLoop b) rfl (fun _ _=>.inl (by simp)) harr⟩
 |goto l=>exact⟨_,a₁,w₁,hq,.pass (x:=.inLoop b) rfl (fun _ _=>.inl (by simp)) harr⟩
 |ret=>exact⟨_,a₁,w₁,hq,.pass (x:=.inLoop b) rfl (fun _ _=>.inl (by simp)) harr⟩
 |panic ch=>exact⟨_,a₁,w₁,hq,.pass (x:=.inLoop b) rfl (fun _ _=>.inl (by simp)) harr⟩
 |outgrown=>exact⟨_,a₁,w₁,hq,.pass (x:=.inLoop b) rfl (fun _ _=>.inl (by simp)) harr⟩
end
section
variable {P:Program} {cx:Cx} {c:Entry} {ρ:Type}
omit [Dr]in
theorem xF{fx:bS ρ}{id:Nat}{code:Code}{e:Env}{kn kr:Env->M ρ}{kx:Nat->Env->M ρ}(hc:∀b,code≠.loop b):
  ev cx fx (.block id code) e kn kx kr=ev cx fx code e kn (fun i e'=>bif Nat.beq i id then kn e' else kx i e') kr:=by
 cases code<;>first|rfl|exact absurd rfl (hc _)
def s7(cx:Cx)(x:Code):Option JA:=match jI x with
 |some t=>lx cx.ann.joins t
 |none=>none
omit [Dr]in
theorem Cg{fx:bS ρ}{x y:Code}{e:Env}{kn kr:Env->M ρ}{kx:Nat->Env->M ρ}:ev cx fx (.seq x y) e kn kx kr=(match s7 cx x with
  |some ja=>jn (fun vs=>ev cx fx y (unpack ja vs) kn kx kr) fun j=>ev cx fx x e (nA ja j) kx kr
  |none=>ev cx fx x e (fun e'=>ev cx fx y e' kn kx kr) kx kr):=by
 unfold s7;simp only[ev];cases jI x with
 |none=>rfl
 |some t=>
  simp only;cases lx cx.ann.joins t<;>rfl
structure Posts (c:Entry) (N:Nat) (r:R ρ) (a:Act) (kn:Env->M ρ) (kx:Nat->Env->M ρ) (kr:Env->M ρ) (Q:Exit->Act->World->Prop):Prop where
 nrm:∀e' h' a' w',r=kn e' h'->gX c N e' h' a' w'->a'.defers=a.defers->Q .normal a' w'
 ext:∀i e' h' a' w',r=kx i e' h'->gX c N e' h' a' w'->a'.defers=a.defers->Q (.exit i) a' w'
 ret:∀e' h' a' w',r=kr e' h'->gX c N e' h' a' w'->a'.defers=a.defers->Q .ret a' w'
 pan:∀pv h' v w' a',r= .pan pv h'->jb c pv h' v w'->a'.defers=a.defers->Q (.panic [{ v,recovered:=false }]) a' w'
theorem qm{ja:JA}{j:List AV->M ρ}{e:Env}{h:Hp}{N:Nat}{a:Act}{w:World}(H:gX c N e h a w)(hr:nA ja j e h≠.fail):∃vs h',nA ja j e h=j vs h'/\gX c N (unpack ja vs) h' a w:=by
 unfold nA at hr |-;cases hp:pack ja e with
 |none=>rw[hp]at hr;exact absurd rfl hr
 |some vs=>
  have hs:=qo H hp;simp only;cases ja.fz with
  |false=>exact⟨vs,h,rfl,hs⟩
  |true=>exact⟨_,_,rfl,nO hs⟩
theorem xG(hT:TOK P cx.T)(hC:cr P cx.own cx.call)(hI:IsoCall cx)(hk:∀p,vz (bU cx.ann.kinds p .L)=true->p<cx.nt)(m:Nat):∀(n:Nat)(code:Code),SizeOf.sizeOf code<n->
  ∀(e:Env)(h:Hp)(a:Act)(w:World)(kn:Env->M ρ)(kx:Nat->Env->M ρ)(kr:Env->M ρ)(Q:Exit->Act->World->Prop),gX c cx.nt e h a w->ev cx (ct m) code e kn kx kr h≠.fail->
  Posts c cx.nt (ev cx (ct m) code e kn kx kr h) a kn kx kr Q->code.wp P Q a w:=by
 intro n
 induction n with
 |zero=>intro code hn;omega
 | succ n ih=>
  intro code hn e h a w kn kx kr Q H hr hp;cases code<;>(try exact absurd rfl hr)
  case skip=>exact wp_skip (hp.nrm e h a w rfl H rfl)
  case exit id=>exact wp_exit (hp.ext id e h a w rfl H rfl)
  case ret=>exact wp_ret (hp.ret e h a w rfl H rfl)
  case region id ops draw=>exact tq hT hC hI hk H hr hp.nrm hp.pan
  case seq x y=>
   have hx:SizeOf.sizeOf x<n:=by simp at hn;omega
   have hy:SizeOf.sizeOf y<n:=by simp at hn;omega
   refine wp_seq ?_;rw[Cg]at hr hp;generalize s7 cx x=oj at hr hp;cases oj with
   |none=>
    simp only at hr hp;refine ih x hx e h a w _ kx kr _ H hr ⟨fun e' h' a' w' hok hs hd=>?_,fun i e' h' a' w' hok hs hd=>hp.ext i e' h' a' w' hok hs hd,fun e' h' a' w' hok hs hd=>hp.ret e' h' a' w' hok hs hd,fun pv h' v w' a' hok hs hd=>hp.pan pv h' v w' a' hok hs hd⟩;rw[hok]at hr hp;exact ih y hy e' h' a' w' kn kx kr Q hs hr ⟨fun e2 h2 a2 w2 k1 k2 k3=>hp.nrm e2 h2 a2 w2 k1 k2 (k3.trans hd),fun i e2 h2 a2 w2 k1 k2 k3=>hp.ext i e2 h2 a2 w2 k1 k2 (k3.trans hd),fun e2 h2 a2 w2 k1 k2 k3=>hp.ret e2 h2 a2 w2 k1 k2 (k3.trans hd),fun pv h2 v w2 a2 k1 k2 k3=>hp.pan pv h2 v w2 a2 k1 k2 (k3.trans hd)⟩
   |some ja=>
    simp only[jn]at hr hp;refine ih x hx e h a w _ kx kr _ H hr ⟨fun e' h' a' w' hok hs hd=>?_,fun i e' h' a' w' hok hs hd=>hp.ext i e' h' a' w' hok hs hd,fun e' h' a' w' hok hs hd=>hp.ret e' h' a' w' hok hs hd,fun pv h' v w' a' hok hs hd=>hp.pan pv h' v w' a' hok hs hd⟩;rw[hok]at hr hp;obtain⟨vs,h3,hj,hs3⟩:=qm hs hr;rw[hj]at hr hp;exact ih y hy (unpack ja vs) h3 a' w' kn kx kr Q hs3 hr ⟨fun e2 h2 a2 w2 k1 k2 k3=>hp.nrm e2 h2 a2 w2 k1 k2 (k3.trans hd),fun i e2 h2 a2 w2 k1 k2 k3=>hp.ext i e2 h2 a2 w2 k1 k2 (k3.trans hd),fun e2 h2 a2 w2 k1 k2 k3=>hp.ret e2 h2 a2 w2 k1 k2 (k3.trans hd),fun pv h2 v w2 a2 k1 k2 k3=>hp.pan pv h2 v w2 a2 k1 k2 (k3.trans hd)⟩
  case cond o x y=>
   have hx:SizeOf.sizeOf x<n:=by simp at hn;omega
   have hy:SizeOf.sizeOf y<n:=by simp at hn;omega
   cases o<;>(try exact absurd rfl hr)
   case const v=>
    simp only[ev]at hr hp
    have hav:∀b,cA v= .bool b->a.eval (.const v)= .bool b:=by
     intro b hb;show v= .bool b;cases v with
     |bool c=>simp only[cA,tR,AV.bool.injEq]at hb;rw[hb]
     |tuple vs=>simp only[cA]at hb;cases hvs:vs.isEmpty<;>rw[hvs]at hb<;>cases hb
     |pointer p=>cases p<;>(simp only[cA,tR]at hb;cases hb)
     |map p=>cases p<;>(simp only[cA,tR]at hb;cases hb)
     | slice p n m=>
      have hs:tR (.slice p n m)= .sl []\/tR (.slice p n m)= .any:=by
       cases p with
       |some q=>exact .inr rfl
       | none=>cases n with
        |succ n=>exact .inr rfl
        |zero=>cases m with
         |succ m=>exact .inr rfl
         |zero=>exact .inl rfl
      simp only[cA]at hb;rcases hs with hs|hs<;>rw[hs]at hb<;>cases hb
     |_=>simp only[cA,tR]at hb;cases hb
    cases hq:cA v<;>rw[hq]at hr hp<;>(try exact absurd rfl hr);rename_i b;cases b with
    |true=>exact wp_cond (hav true hq) (ih x hx e h a w kn kx kr Q H hr hp)
    |false=>exact wp_cond (hav false hq) (ih y hy e h a w kn kx kr Q H hr hp)
   rename_i t;simp only[ev]at hr hp;cases ht:decide (t<1000)with
   |false=>rw[ht]at hr;exact absurd rfl hr
   | true=>
    rw[ht]at hr hp;simp only[GP]at hr hp;have htl:t<1000:=by simpa using ht
    have hav:∀b,e.av t= .bool b->a.eval (.tmp t)= .bool b:=by
     intro b hb;obtain⟨S,β,γ,lam,ω,F⟩:=H;have hs:=F.slots t htl;simp only[Env.av,Ent.av]at hb;cases hv:(e.get t).v with
     |val av=>
      rw[hv]at hs hb;simp only at hb;subst hb;simp only[d8,VR]at hs;exact hs
     |loc B off=>rw[hv]at hb;cases hb
    cases hq:e.av t<;>rw[hq]at hr hp<;>(try exact absurd rfl hr);rename_i b;cases b with
    |true=>exact wp_cond (hav true hq) (ih x hx e h a w kn kx kr Q H hr hp)
    |false=>exact wp_cond (hav false hq) (ih y hy e h a w kn kx kr Q H hr hp)
  case block id code=>
   refine wp_block ?_;by_cases hc:∃b,code= .loop b
   ·obtain⟨b,rfl⟩:=hc;have hb:SizeOf.sizeOf b<n:=by simp at hn;omega
    simp only[ev]at hr hp;cases hja:lx cx.ann.loops id with
    |none=>rw[hja]at hr;exact absurd rfl hr
    | some ja=>
     rw[hja]at hr hp;simp only at hr hp;refine g7.loop ?_;obtain⟨vs,h3,hj,hs3⟩:=qm H hr;rw[hj]at hr hp;have key:∀(k:Nat)(vs:List AV)(h:Hp)(a1:Act)(w:World),gX c cx.nt (unpack ja vs) h a1 w->a1.defers=a.defers->
       ct k (fun self vs=>ev cx (ct m) b (unpack ja vs) (nA ja self) (fun i e'=>bif Nat.beq i id then kn e' else kx i e') kr) vs h≠.fail->
       Posts c cx.nt (ct k (fun self vs=>ev cx (ct m) b (unpack ja vs) (nA ja self) (fun i e'=>bif Nat.beq i id then kn e' else kx i e') kr) vs h) a kn kx kr Q->g7 P b (Exit.inBlock id Q) a1 w:=by
      intro k
      induction k with
      |zero=>intro vs h a1 w _ _ hr _;exact absurd rfl hr
      | succ k ihk=>
       intro vs h a1 w hs hd hr hp;simp only[ct]at hr hp;refine g7.round (ih b hb (unpack ja vs) h a1 w _ _ kr _ hs hr ⟨fun e' h' a' w' hok hs' hd'=>?_,fun i e' h' a' w' hok hs' hd'=>?_,fun e' h' a' w' hok hs' hd'=>hp.ret e' h' a' w' hok hs' (hd'.trans hd),fun pv h' v w' a' hok hs' hd'=>hp.pan pv h' v w' a' hok hs' (hd'.trans hd)⟩)
       ·rw[hok]at hr hp;obtain⟨vs',h4,hj',hs4⟩:=qm hs' hr;rw[hj']at hr hp;exact ihk vs' h4 a' w' hs4 (hd'.trans hd) hr hp
       ·cases hi:Nat.beq i id with
        |true=>
         rw[hi]at hok
         have:=GU hi
         subst this;show Exit.inBlock i Q (.exit i) a' w';simp only[Exit.inBlock,Hn];exact hp.nrm e' h' a' w' hok hs' (hd'.trans hd)
        |false=>
         rw[hi]at hok;have hne:i≠id:=fun hh=>by subst hh;simp at hi
         show Exit.inBlock id Q (.exit i) a' w';simp only[Exit.inBlock,if_neg hne];exact hp.ext i e' h' a' w' hok hs' (hd'.trans hd)
     exact key m vs h3 a w hs3 rfl hr hp
   ·have hc':∀b,code≠.loop b:=fun b hb=>hc ⟨b,hb⟩;rw[xF hc']at hr hp;have hs:SizeOf.sizeOf code<n:=by simp at hn;omega
    refine ih code hs e h a w kn _ kr _ H hr ⟨fun e' h' a' w' hok hs' hd'=>hp.nrm e' h' a' w' hok hs' hd',fun i e' h' a' w' hok hs' hd'=>?_,fun e' h' a' w' hok hs' hd'=>hp.ret e' h' a' w' hok hs' hd',fun pv h' v w' a' hok hs' hd'=>hp.pan pv h' v w' a' hok hs' hd'⟩;cases hi:Nat.beq i id with
    |true=>
     rw[hi]at hok
     have:=GU hi
     subst this;show Exit.inBlock i Q (.exit i) a' w';simp only[Exit.inBlock,Hn];exact hp.nrm e' h' a' w' hok hs' hd'
    |false=>
     rw[hi]at hok;have hne:i≠id:=fun hh=>by subst hh;simp at hi
     show Exit.inBlock id Q (.exit i) a' w';simp only[Exit.inBlock,if_neg hne];exact hp.ext i e' h' a' w' hok hs' hd'
end
end Go.Av
namespace Go.Av
variable [Dr]
omit [Dr]in
theorem mj:∀(args:List AV)(i t:Nat),bq (qE i args) t=if i<=t/\t<i+args.length then⟨.val (nth args (t-i)),none⟩else Ent.none
 |[],i,t=>by
  simp only[qE,bq,G8,H5];rw[if_neg (by omega)]
 | a:: as0,i,t=>by
  simp only[qE,bP,G4];by_cases h:i=t
  ·subst h;rw[GR rfl,GR (by omega)];simp[nth]
  ·rw[if_neg h,mj as0 (i+1) t];by_cases h2:i+1<=t/\t<i+1+as0.length
   ·rw[GR h2,GR (by omega)];have:t-i=(t-(i+1))+1:=by omega
    simp[nth,this]
   ·rw[if_neg h2,if_neg (by omega)]
section
variable {P:Program} {cx:Cx}
open Classical in
theorem tz{w:World}{S:ay}{β:List bj}{h:Hp}{args:List AV}{vs:List Value}{n:Nat}(hg:nH β h w)(hw:Wf S w)(hh:cy S β w h)(hv:aY S β args vs)(hn:args.length<=n)(hn2:n<=1000):
  ∃γ lam ω,FR { w,S,β,E:=b9 β h,gok:=hg } n (fun g=>g<(lW args).nx*1000) (lW args) h { tmps:=vs.toArray++Array.replicate (n-vs.toArray.size) undef,defers:=[] } w S β γ lam ω:=by
 obtain⟨hlen,ω0,hr⟩:=hh;have hvl:=hv.length;have hget:∀t,(lW args).get t=if t<args.length then⟨.val (nth args t),none⟩else Ent.none:=fun t=>by
  have:=mj args 0 t
  simp only[Hi,true_and,G5,I1]at this;exact this
 let ω:Nat->Owner:=fun b=>if b9 β h b then ω0 b else .no;refine⟨fun _=>undef,fun _=>none,ω,⟨hw,Gro.refl _,fun b _ _=>⟨rfl,fun _=>rfl⟩,ay.le_refl S,eG.refl β,hlen,fun l cs hl hcs=>?_,⟨?_,hn2⟩,fun t ht=>?_,fun t g z ht hg=>?_,fun B m hB=>?_,fun g z hz=>?_,fun b hb=>?_,fun t g hg=>?_,fun g z hz=>?_⟩⟩
 ·have hown:∀b n,β[l]? = some (b,n)->ω0 b= .heap l->ω b= .heap l:=fun b n h1 h3=>by
   show (if b9 β h b then ω0 b else .no)=_;rw[GR ⟨l,cs,_,hl,hcs,h1⟩];exact h3
  rcases hr l cs hl hcs with⟨b,x,h1,h2,h3,h4⟩|⟨b,h1,h3,h4⟩
  ·exact .inl ⟨b,x,h1,h2,hown b _ h1 h3,h4⟩
  ·exact .inr ⟨b,h1,hown b _ h1 h3,h4⟩
 ·simp;omega
 ·rw[hget];split
  ·rename_i hlt;have hx:args[t]? = some (nth args t):=by simp[nth,hlt]
   obtain⟨v,h1,h2⟩:=hv.get hx;have:(vs.toArray++Array.replicate (n-vs.toArray.size) undef).getD t undef=v:=by
    rw[Hm,Jj (by simp;omega)];simp[h1]
   rw[this];exact h2
  ·simp[Ent.none,d8,VR]
 ·rw[hget]at hg;split at hg<;>cases hg
 ·cases hB
 ·cases hz
 ·have hb':b9 β h b:=by
   by_cases ho:b9 β h b
   ·exact ho
   ·exact absurd (show ω b= .no from if_neg ho) hb
  obtain⟨l,cs,m,h1,h2,h3⟩:=hb';obtain⟨b',x,k1,k2,k3,_⟩:=hr.own h1 h2;rw[h3]at k1;cases k1;have hω:ω b= .heap l:=by
   show (if b9 β h b then ω0 b else .no)=_;rw[GR ⟨l,cs,_,h1,h2,h3⟩];exact k3
  exact⟨.inl ⟨⟨l,cs,_,h1,h2,h3⟩,fun g=>by rw[hω];simp⟩,k2⟩
 ·rw[hget]at hg;split at hg<;>cases hg
 ·cases hz
theorem start{w:World}{S:ay}{β:List bj}{h:Hp}{args:List AV}{vs:List Value}{n:Nat}(hg:nH β h w)(hw:Wf S w)(hh:cy S β w h)(hv:aY S β args vs)(hn:args.length<=n)(hn2:n<=1000):
  gX { w,S,β,E:=b9 β h,gok:=hg } n (lW args) h { tmps:=vs.toArray++Array.replicate (n-vs.toArray.size) undef,defers:=[] } w:=⟨S,β,tz hg hw hh hv hn hn2⟩
def fE(tmps:Array Value):ResultVar->Sem Value
 |.tmp t=>pure (tmps.getD t undef)
 |.cell p t=>do loadVar t (<- asAddr (tmps.getD p undef))
omit [Dr]in
theorem np(fn:Func)(tmps:Array Value):results fn tmps=(do let vs <- fn.results.mapM (fE tmps);pure (if h:vs.size=1 then vs[0]else .tuple vs)):=by
 unfold results;congr 1
theorem CQ{c:Entry}{N:Nat}{U:Nat->Prop}{e:Env}{h:Hp}{a:Act}{w:World}{S:ay}{β:List bj}{γ:Nat->Value}{lam:Nat->Option Nat}{ω:Nat->Owner}(hT:TOK P cx.T)(F:FR c N U e h a w S β γ lam ω){r:ResultVar}{v:AV}(hr:rM cx.T e r=some v):∃u,(fE a.tmps r).run P w= .ok u w/\VR S β v u:=by
 cases r with
 | tmp t=>
  simp only[rM]at hr;cases ht:decide (t<1000)with
  |false=>rw[ht]at hr;cases hr
  | true=>
   rw[ht]at hr;simp only[GP]at hr;have hs:=F.slots t (by simpa using ht);cases hv:(e.get t).v with
   |loc B off=>rw[hv]at hr;cases hr
   |val av=>
    rw[hv]at hr hs;simp only[GN]at hr;subst hr;exact⟨_,by simp only[fE,Sem.run_pure],hs⟩
 | cell p t=>
  simp only[rM]at hr;cases hp:decide (p<1000)with
  |false=>rw[hp]at hr;cases hr
  | true=>
   rw[hp]at hr;simp only[GP]at hr;have hs:=F.slots p (by simpa using hp);cases hv:(e.get p).v with
   | loc B off=>
    rw[hv]at hr hs;cases ht:cx.T t with
    |none=>rw[ht]at hr;cases hr
    | some ti=>
     rw[ht]at hr;simp only at hr;cases hin:iV e B off ti.size with
     |false=>rw[hin]at hr;cases hr
     | true=>
      rw[hin]at hr;simp only[GP]at hr;simp only[d8]at hs;obtain⟨b,hlam,hpv⟩:=hs;obtain⟨b',x,m,hm,hle,hlam',hrow,hms,hcells⟩:=F.locals hin;rw[hlam]at hlam';cases hlam';let f:Nat->Value:=fun i=>(x[off+i]?).getD undef;have hf:∀i,i<ti.size->x[off+i]? = some (f i):=fun i hi=>by
       obtain⟨v,_,hv',_⟩:=hcells i hi;show _=some ((x[off+i]?).getD undef);rw[hv'];rfl
      have hload:=lD hT ht hrow f hf;have hexec:∀v,(loadVar t ⟨b,off,none⟩).run P w= .ok v w->(fE a.tmps (.cell p t)).run P w= .ok v w:=fun v hv'=>by
       simp only[fE];rw[hpv];simpa [asAddr]using hv'
      cases hag:ti.agg with
      |true=>
       rw[hag]at hr;simp only[GP,GN]at hr;subst hr;refine⟨_,hexec _ (hload.1 hag),?_⟩;simp only[VR];refine⟨_,rfl,mL ti.size fun i hi=>?_⟩;obtain⟨v,a',g1,g2,g3,_⟩:=hcells i hi;have:f i=v:=by show (x[off+i]?).getD undef=v;rw[g1];rfl
       rw[this];simp only[Env.av,Ent.av,g2];exact g3
      | false=>
       rw[hag]at hr;simp only[GV]at hr;cases hone:decide (ti.size=1)with
       |false=>rw[hone]at hr;cases hr
       |true=>
        rw[hone]at hr;simp only[GP,GN]at hr;subst hr;have hone':ti.size=1:=by simpa using hone
        obtain⟨v,a',g1,g2,g3,g4⟩:=hcells 0 (by omega);simp only[H5]at g1 g2 g4;have hfv:f 0=v:=by show (x[off+0]?).getD undef=v;rw[H5,g1];rfl
        refine⟨v,hexec _ (hfv▸hload.2 hag hone'),?_⟩;simp only[Env.av,Ent.av,g2];exact g3
   | val av=>
    rw[hv]at hr hs;cases ht:cx.T t with
    |none=>rw[ht]at hr;cases hr
    |some ti=>
     rw[ht]at hr;simp only at hr;obtain⟨v,h1,h2⟩:=ug hT F.wf hr hs;refine⟨v,?_,h2⟩;unfold ah at hr;rw[ht]at hr;cases av<;>simp only[reduceCtorEq]at hr;simp only[d8,VR]at hs;obtain⟨b,off,vs,hpv,_,_⟩:=hs;simp only[fE];rw[hpv]at h1 |-;simpa [Instr.loadAt,Instr.sureAddr,asAddr]using h1
theorem tr{c:Entry}{N:Nat}{U:Nat->Prop}{e:Env}{h:Hp}{a:Act}{w:World}{S:ay}{β:List bj}{γ:Nat->Value}{lam:Nat->Option Nat}{ω:Nat->Owner}(hT:TOK P cx.T)(F:FR c N U e h a w S β γ lam ω){fn:Func}{vs:List AV}(hr:eT cx.T e fn.results.toList=some vs):∃u,(results fn a.tmps).run P w= .ok u w/\VR S β (i6 vs) u:=by
 have key:∀(l:List ResultVar)(vs:List AV),eT cx.T e l=some vs->∃us:List Value,(l.mapM (fE a.tmps)).run P w= .ok us w/\aY S β vs us:=by
  intro l
  induction l with
  |nil=>intro vs h;simp only[eT,GN]at h;subst h;exact⟨[],by simp,by simp[aY]⟩
  | cons r rs ih=>
   intro vs h;simp only[eT]at h;cases h1:rM cx.T e r with
   |none=>rw[h1]at h;cases h
   | some v=>
    cases h2:eT cx.T e rs with
    |none=>rw[h1,h2]at h;cases h
    |some vs'=>
     rw[h1,h2]at h;simp only[GN]at h;subst h;obtain⟨u,k1,k2⟩:=CQ hT F h1;obtain⟨us,m1,m2⟩:=ih vs' h2;refine⟨u:: us,?_,by simp only[aY];exact⟨u,us,rfl,k2,m2⟩⟩;rw[List.mapM_cons,Sem.run_bind,k1,Result.andThen_ok,Sem.run_bind,m1,Result.andThen_ok,Sem.run_pure]
 obtain⟨us,k1,k2⟩:=key _ _ hr;have hlen:=k2.length;have hrun:(fn.results.mapM (fE a.tmps)).run P w= .ok us.toArray w:=by
  rw[Jp];rw[map_eq_pure_bind,Sem.run_bind,k1,Result.andThen_ok,Sem.run_pure]
 refine⟨if h:us.toArray.size=1 then us.toArray[0]else .tuple us.toArray,?_,?_⟩
 ·rw[np,Sem.run_bind,hrun,Result.andThen_ok,Sem.run_pure]
 ·unfold i6;split
  ·rename_i v;cases us with
   |nil=>simp at hlen
   |cons u us=>
    cases us with
    |nil=>simp only[aY]at k2;obtain⟨x,xs,hx,hy,_⟩:=k2;simp at hx;simp[hx.1,hy]
    |cons u2 us=>simp at hlen
  ·rename_i hne;rw[dif_neg]
   ·simp only[VR];exact⟨us,rfl,k2⟩
   ·intro h1;have:vs.length=1:=by rw[<- hlen];simpa using h1
    match vs,this with
    |[v],_=>exact hne v rfl
end
end Go.Av
namespace Go.Av
variable [Dr]
omit [Dr]in
theorem rr{n:Nat}{ks:List (Nat×Kind)}(h:jU n ks=true):∀p,vz (bU ks p .L)=true->p<n:=by
 intro p hp
 induction ks with
 |nil=>simp[bU,vz]at hp
 | cons x ks ih=>
  obtain⟨k,y⟩:=x;unfold jU at h;simp only[HY,GO]at h;simp only[bU]at hp;cases hk:Nat.beq k p with
  |true=>
   rw[hk]at hp;simp only[GP]at hp
   have:=h.1
   rw[hp]at this;have hk':=GU hk;subst hk';simpa using this
  |false=>
   rw[hk]at hp;exact ih h.2 hp
section
variable {P:Program} {cx:Cx}
theorem CJ{c:Entry}{N:Nat}{U:Nat->Prop}{e:Env}{h:Hp}{a:Act}{w:World}{S:ay}{β:List bj}{γ:Nat->Value}{lam:Nat->Option Nat}{ω:Nat->Owner}(F:FR c N U e h a w S β γ lam ω){fn:Func}{sz:Nat}(ho:p8 fn e sz=true){u:Value}(hu:(results fn a.tmps).run P w= .ok u w):po c.w.heap.size S β w h sz u:=by
 unfold p8 at ho;split at ho
 ·rename_i t hres;cases ht:decide (t<1000)with
  |false=>rw[ht]at ho;cases ho
  | true=>
   rw[ht]at ho;simp only[HM]at ho;split at ho
   ·rename_i g hg;split at ho
    ·rename_i z hz;have hgr:=F.grps t g z (by simpa using ht) hg hz;obtain⟨ad,len,cap,h1,h2,h3,h4⟩:=F.free g z hz;have hue:u=a.tmps.getD t undef:=by
      have hr:fn.results= #[.tmp t]:=by apply Ig;simpa using hres
      rw[np,hr]at hu;simp[fE]at hu;simpa using hu.symm
     rw[hue,hgr];refine⟨ad,len,cap,h1,h2,h3,h4.imp id ?_⟩;rintro⟨sz',b,off,x,k1,k2,k3,k4,k5,k6⟩;have hsz:sz'=sz:=by
      rw[k1]at ho;simp only[qk]at ho;exact GU ho
     subst hsz;refine⟨b,off,x,k2,k3,k4,(F.mine b (by rw[k5];simp)).1.grp k5,fun hb=>?_,k6⟩;obtain⟨l,_,hl,_⟩:=F.hown hb;rw[k5]at hl;cases hl
    ·cases ho
   ·cases ho
 ·cases ho
omit [Dr]in
theorem yz{fn:Func}{own:Option Nat}{e:Env}{h:Hp}(hr:gm cx fn own e h≠.fail):∃rs,eT cx.T e fn.results.toList=some rs/\(gm cx fn own e h= .ok (i6 rs) h\/(own=none/\gm cx fn own e h= .ok (fU 6 h (i6 rs)) (h.map fun _=>[])))/\∀sz,own=some sz->p8 fn e sz=true:=by
 have key:∀b z:Bool,(bif b then ae (af ((eT cx.T e fn.results.toList).map i6)) (bif z then(bif own.isSome then fun _=>M.fail else tZ)else M.pure)else M.fail:M AV) h≠.fail->b=true/\∃rs,eT cx.T e fn.results.toList=some rs/\
   ((bif b then ae (af ((eT cx.T e fn.results.toList).map i6)) (bif z then(bif own.isSome then fun _=>M.fail else tZ)else M.pure)else M.fail:M AV) h= .ok (i6 rs) h\/
    (own=none/\(bif b then ae (af ((eT cx.T e fn.results.toList).map i6)) (bif z then(bif own.isSome then fun _=>M.fail else tZ)else M.pure)else M.fail:M AV) h= .ok (fU 6 h (i6 rs)) (h.map fun _=>[]))):=by
  intro b z hr;cases b with
  |false=>exact absurd rfl hr
  | true=>
   refine⟨rfl,?_⟩;cases hres:eT cx.T e fn.results.toList with
   |none=>rw[hres]at hr;exact absurd rfl hr
   | some rs=>
    rw[hres]at hr;cases z with
    |false=>exact⟨rs,rfl,.inl rfl⟩
    |true=>
     cases own with
     |none=>exact⟨rs,rfl,.inr ⟨rfl,rfl⟩⟩
     |some sz=>exact absurd rfl hr
 unfold gm at hr |-;cases own with
 |none=>
  obtain⟨_,rs,h1,h2⟩:=key true _ hr;exact⟨rs,h1,h2,fun sz hsz=>by cases hsz⟩
 |some sz=>
  obtain⟨h0,rs,h1,h2⟩:=key _ _ hr;exact⟨rs,h1,h2,fun sz' hsz=>by cases hsz;exact h0⟩
theorem fK(hT:TOK P cx.T)(hC:cr P cx.own cx.call)(hI:IsoCall cx)(m:Nat){f:FuncId}{fn:Func}(hf:P.funcs[f]? = some fn)(hnt:cx.nt=fn.ntmps){own:Option Nat}{args:List AV}{h:Hp}{S:ay}{β:List bj}{w:World}{vs:List Value}(hr:bX cx (ct m) fn own args h≠.fail)(hg:nH β h w)(hw:Wf S w)(hh:cy S β w h)(hv:aY S β args vs):Calls P f vs.toArray w (c9 own S β h w (bX cx (ct m) fn own args h))/\fn.body.isSome=true:=by
 unfold bX at hr |-;cases hb:fn.body with
 |none=>rw[hb]at hr;exact absurd rfl hr
 | some code=>
  rw[hb]at hr;simp only at hr |-;refine⟨?_,rfl⟩;cases hc:(decide (args.length<=fn.ntmps)&&decide (fn.ntmps<=1000)&&jU cx.nt cx.ann.kinds)with
  |false=>rw[hc]at hr;exact absurd rfl hr
  | true=>
   rw[hc]at hr;simp only[GP]at hr |-;simp only[GO,G0]at hc;obtain⟨⟨hc1,hc2⟩,hc3⟩:=hc;have H:gX { w,S,β,E:=b9 β h,gok:=hg } cx.nt (lW args) h { tmps:=vs.toArray++Array.replicate (fn.ntmps-vs.toArray.size) undef,defers:=[] } w:=by
    rw[hnt];exact start hg hw hh hv hc1 hc2
   have hret:∀(e':Env)(h':Hp)(a':Act)(w':World),ev cx (ct m) code (lW args) (gm cx fn own) (fun _ _=>M.fail) (gm cx fn own) h=gm cx fn own e' h'->
     gX { w,S,β,E:=b9 β h,gok:=hg } cx.nt e' h' a' w'->∃v,(results fn a'.tmps).run P w'= .ok v w'/\c9 own S β h w (ev cx (ct m) code (lW args) (gm cx fn own) (fun _ _=>M.fail) (gm cx fn own) h) (.returned v) w':=by
    intro e' h' a' w' hok hs;rw[hok]at hr |-;obtain⟨rs,hres,hret,hown⟩:=yz hr;obtain⟨S',β',γ,lam,ω,F⟩:=hs;obtain⟨u,hu1,hu2⟩:=tr (P:=P) hT F hres;rcases hret with hret|⟨rfl,hret⟩
    ·rw[hret];exact⟨u,hu1,S',β',u,rfl,hu2,F.out,fun sz hsz=>CJ F (hown sz hsz) hu1⟩
    ·rw[hret];obtain⟨S2,ω2,F2,hf⟩:=F.freeze;exact⟨u,hu1,S2,β',u,rfl,hf _ _ hu2,F2.out,fun sz hsz=>by cases hsz⟩
   refine calls_of_wp hf hb (xG hT hC hI (rr hc3) m _ code (Ju _) (lW args) h _ w _ _ _ _ H hr ⟨fun e' h' a' w' hok hs hd=>?_,fun i e' h' a' w' hok hs hd=>?_,fun e' h' a' w' hok hs hd=>?_,fun pv h' v w' a' hok hs hd=>?_⟩)
   ·exact⟨hd,hret e' h' a' w' hok hs⟩
   ·rw[hok]at hr;exact absurd rfl hr
   ·exact⟨hd,hret e' h' a' w' hok hs⟩
   ·refine⟨hd,?_⟩;rw[hok];obtain⟨S',β',hout,hvr⟩:=hs;exact⟨S',β',v,rfl,hvr,hout⟩
end
open Classical in
theorem t8{S:ay}{β:List bj}{w w':World}{h:Hp}(_hw:Wf S w)(hh:cy S β w h){β0:List bj}{h0:Hp}(hE:∀b,¬b9 β0 h0 b){S':ay}{β':List bj}{h':Hp}(L:Left (b9 β0 h0) S β0 w S' β' w' h'):∃S2,Left (b9 β h) S β w S2 β w' h/\(∀a v,VR S' β' a v->VR S2 β (fU 6 h' a) v)/\∀sz v,po w.heap.size S' β' w' h' sz v->po w.heap.size S2 β w' h sz v:=by
 obtain⟨hlen,ω,hH⟩:=L.heap;have hnew:∀b,b9 β' h' b->w.heap.size<=b:=fun b hb=>(L.owned b hb).resolve_left (hE b);let S2:ay:=fun b o=>if b9 β' h' b then w'.cell? ⟨b,o,none⟩else S' b o;have hS2n:∀b,¬b9 β' h' b->∀o,S2 b o=S' b o:=fun b hb o=>if_neg hb;have hS2y:∀b,b9 β' h' b->∀o,S2 b o=w'.cell? ⟨b,o,none⟩:=fun b hb o=>GR hb;have hle:S'.le S2:=by
  intro b o v hv;by_cases hb:b9 β' h' b
  ·obtain⟨l,cs,n,h1,h2,h3⟩:=hb;obtain⟨b',x,k1,k2,k3,k5⟩:=hH.own h1 h2;rw[h3]at k1;cases k1;rw[k5]at hv;cases hv
  ·rw[hS2n b hb];exact hv
 have hrow:∀b,b<w.heap.size->w'.heap[b]? = w.heap[b]? /\∀o,S2 b o=S b o:=by
  intro b hb;have hk:=L.keep b hb (hE b);refine⟨hk.1,fun o=>?_⟩;rw[hS2n b (fun ho=>by have:=hnew b ho;omega)];exact hk.2 o
 have hwf:Wf S2 w':=by
  intro b o v hv;by_cases hb:b9 β' h' b
  ·rw[hS2y b hb]at hv;exact hv
  ·rw[hS2n b hb]at hv;exact L.wf b o v hv
 obtain⟨hlen0,ω0,hH0⟩:=hh;have hlt0:∀b,b9 β h b->b<w.heap.size:=by
  rintro b ⟨l,cs,n,h1,h2,h3⟩;obtain⟨b',x,k1,k2,_⟩:=hH0.own h1 h2;rw[h3]at k1;cases k1;exact k2
 have hle0:S.le S2:=ay.le_trans L.le hle;refine⟨S2,⟨hle0,eG.refl β,hwf,L.gro,fun b hb _=>hrow b hb,⟨hlen0,ω0,hH0.rows hle0 (eG.refl β) hlen0 fun l cs hl _=>.inl ⟨hl,fun b hb ho=>⟨ho,(hrow b hb).1,fun o h=>by rw[(hrow b hb).2];exact h⟩⟩⟩,fun b hb=>.inl hb⟩,fun a v hv=>pO hH hle (fun b o x hb hr=>?_) 6 a v hv,fun sz v=>?_⟩
 ·rw[hS2y b hb,hr.cell]
 ·rintro⟨ad,len,cap,k1,k2,k3,k4⟩;refine⟨ad,len,cap,k1,k2,k3,k4.imp id ?_⟩;rintro⟨b,off,x,p1,p2,p3,p4,p5,p6⟩;refine⟨b,off,x,p1,p2,p3,p4,fun hb=>?_,fun o ho=>by rw[hS2n b p5];exact p6 o ho⟩
  have:=hlt0 b hb
  omega
theorem xT{S:ay}{β:List bj}{w w':World}{h:Hp}{own:Option Nat}{m:List AV->M AV}{args:List AV}{en:Ending}(hw:Wf S w)(hh:cy S β w h)(hp:c9 own S [] [] w (m (c5 az args) []) en w'):c9 own S β h w (mQ m args h) en w':=by
 have key:=fun{S':ay} {β':List bj} {h':Hp} (L:Left (b9 [] []) S [] w S' β' w' h')=>t8 hw hh (by rintro b ⟨l,cs,n,h1,_⟩;simp at h1) L;unfold mQ;cases hm:m (c5 az args) []with
 |fail=>rw[hm]at hp;exact hp.elim
 |ok r h'=>
  rw[hm]at hp;obtain⟨S',β',v,h1,h2,h3,h4⟩:=hp;obtain⟨S2,k1,k2,k3⟩:=key h3;exact⟨S2,β,v,h1,k2 r v h2,k1,fun sz hsz=>k3 sz v (h4 sz hsz)⟩
 |pan r h'=>
  rw[hm]at hp;obtain⟨S',β',v,h1,h2,h3⟩:=hp;obtain⟨S2,k1,k2,k3⟩:=key h3;exact⟨S2,β,v,h1,k2 r v h2,k1⟩
structure GoodPg (P:Program) (p:Pg):Prop where
 tok:TOK P p.T
 funcs:∀f fn a,p.funcs f=some (fn,a)->P.funcs[f]? = some fn/\(fn.name== "runtime.NumGoroutine")=false
 other:∀f E,p.other f=some E->∀call,cr P p.own call->∀(args:List AV)(h:Hp)(S:ay)(β:List bj)(w:World)(vs:List Value),E call args h≠.fail->nH β h w->Wf S w->cy S β w h->aY S β args vs->
  Calls P f vs.toArray w (c9 (p.own f) S β h w (E call args h))/\(P.funcs[f]?).any (fun fn=>fn.body.isSome&&!(fn.name== "runtime.NumGoroutine"))=true
 nw:∀f,p.nw f=true->∃E,p.other f=some E/\∀call args,se (E call args)
omit [Dr]in
theorem cy.nil{S:ay}{w:World}:cy S [] w []:=⟨rfl,fun _=>.no,fun l cs hl=>by simp at hl⟩
theorem qV{P:Program}{p:Pg}(G:GoodPg P p)(m:Nat){call:FuncId->List AV->M AV}(hC:cr P p.own call)(hI:∀n a,IsoCall (p.cx call n a)):cr P p.own (f0 p call (ct m)):=by
 intro f args h S β w vs hr hg hw hh hv;unfold f0 at hr |-;cases ho:p.other f with
 |some E=>rw[ho]at hr;exact G.other f E ho call hC args h S β w vs hr hg hw hh hv
 | none=>
  rw[ho]at hr;simp only at hr |-;cases hf:p.funcs f with
  |none=>rw[hf]at hr;exact absurd rfl hr
  | some x=>
   obtain⟨fn,a⟩:=x;rw[hf]at hr;simp only at hr |-;obtain⟨hf1,hf2⟩:=G.funcs f fn a hf
   have hany:fn.body.isSome=true->(P.funcs[f]?).any (fun fn=>fn.body.isSome&&!(fn.name== "runtime.NumGoroutine"))=true:=by
    intro hb;rw[hf1];simp only[Option.any_some,hb,hf2,I4,I6]
   cases hi:a.iso with
   |false=>
    rw[hi]at hr;simp only[GV]at hr |-;obtain⟨h1,h2⟩:=fK (cx:=p.cx call fn.ntmps a) G.tok hC (hI _ _) m hf1 rfl hr hg hw hh hv;exact⟨h1,hany h2⟩
   | true=>
    rw[hi]at hr;simp only[GP]at hr |-;have hr':bX (p.cx call fn.ntmps a) (ct m) fn (p.own f) (c5 az args) []≠.fail:=by
     intro hf;unfold mQ at hr;rw[hf]at hr;exact hr rfl
    obtain⟨h1,h2⟩:=fK (cx:=p.cx call fn.ntmps a) G.tok hC (hI _ _) m hf1 rfl hr' ⟨hg.1,fun b _ hb=>by obtain⟨l,_,_,h1,_⟩:=hb;simp at h1⟩ hw cy.nil (xw hv);exact⟨h1.mono fun en w' hp=>xT hw hh hp,hany h2⟩
omit [Dr]in
theorem sR(p:Pg)(hN:∀f,p.nw f=true->∃E,p.other f=some E/\∀call args,se (E call args)):∀n k a,IsoCall (p.cx (cK p n) k a)
 |0,k,a=>⟨fun f args _=>⟨none,fun _=>rfl⟩,fun f args _ h v h' hh=>by cases hh⟩
 | n+1,k,a=>by
  refine⟨?_,fun f args hf=>?_⟩
  case refine_2=>
   obtain⟨E,hE,hn⟩:=hN f hf;have:(p.cx (cK p (n+1)) k a).call f args=E (cK p n) args:=by
    show f0 p (cK p n) (ct n) f args=_;unfold f0;rw[hE]
   rw[this];exact hn _ _
  intro f args hi;have hi':p.iso f=true:=hi;unfold Pg.iso at hi';cases ho:p.other f with
  |some E=>rw[ho]at hi';cases hi'
  | none=>
   rw[ho]at hi';simp only at hi';cases hf:p.funcs f with
   |none=>rw[hf]at hi';cases hi'
   |some x=>
    obtain⟨fn,b⟩:=x;rw[hf]at hi';simp only at hi';refine⟨match bX (p.cx (cK p n) fn.ntmps b) (ct n) fn (p.own f) (c5 az args) []with|.ok r h'=>some (true,fU 6 h' r)|.pan v h'=>some (false,fU 6 h' v)|.fail=>none,fun h=>?_⟩;show f0 p (cK p n) (ct n) f args h=_;unfold f0;rw[ho];simp only;rw[hf];simp only[hi',GP,mQ];cases bX (p.cx (cK p n) fn.ntmps b) (ct n) fn (p.own f) (c5 az args) []<;>rfl
theorem jL{P:Program}{p:Pg}(G:GoodPg P p):∀n,cr P p.own (cK p n)
 |0=>fun _f _args _h _S _β _w _vs hr=>absurd rfl hr
 |n+1=>qV G n (jL G n) fun k a=>sR p G.nw n k a
end Go.Av
namespace Go.Av
def xS{m:List AV->M AV}{ms:Nat->List AV->M AV}(h:br m ms)(args:List AV):aI (mQ m args) fun n=>mQ (ms n) args:=by
 intro x;obtain⟨h1,h2⟩:=h (c5 az args) []
 (try dsimp only at h1 h2)
 refine⟨fun hne=>?_,fun n hne=>?_⟩
 ·have hne':m (c5 az args) []≠.fail:=fun hf=>hne (by simp only[mQ,hf]);obtain⟨N,hN⟩:=h1 hne';refine⟨N,fun n hn=>?_⟩
  (try dsimp only)
  simp only[mQ,hN n hn]
 ·(try dsimp only at hne |-)
  have hne':ms n (c5 az args) []≠.fail:=fun hf=>hne (by simp only[mQ,hf]);simp only[mQ,h2 n hne']
def cN(p:Pg):Prop:=∀f E,p.other f=some E->∀(call:FuncId->List AV->M AV)(calls:Nat->FuncId->List AV->M AV),(∀f,br (call f) fun n=>calls n f)->br (E call) fun n=>E (calls n)
section
variable {cx:Cx} {call:FuncId->List AV->M AV} {calls:Nat->FuncId->List AV->M AV} {fx:bS AV} {fxs:Nat->bS AV}
theorem sQ(hc:∀f,br (call f) fun n=>calls n f)(hfx:ku fx fxs)(hfc:qv fx)(hfcs:∀n,qv (fxs n))(fn:Func)(own:Option Nat):
  br (bX (cx.wc call) fx fn own) fun n=>bX (cx.wc (calls n)) (fxs n) fn own:=by
 intro args;unfold bX;cases fn.body with
 |none=>exact aI.const _
 | some c=>
  have key:∀b:Bool,aI (bif b then ev (cx.wc call) fx c (lW args) (gm (cx.wc call) fn own) (fun _ _=>M.fail) (gm (cx.wc call) fn own)else M.fail) fun n=>(bif b then ev (cx.wc (calls n)) (fxs n) c (lW args) (gm (cx.wc (calls n)) fn own) (fun _ _=>M.fail) (gm (cx.wc (calls n)) fn own)else M.fail):=by
   intro b;cases b with
   |false=>exact aI.const _
   |true=>
    have hr:br (gm (cx.wc call) fn own) fun n=>gm (cx.wc (calls n)) fn own:=br.const (gm cx fn own);exact Cf _ c (Ju _) call calls fx fxs hc hfx hfc hfcs (lW args) _ (fun n=>gm (cx.wc (calls n)) fn own) _ (fun _ _ _=>M.fail) _ (fun n=>gm (cx.wc (calls n)) fn own) hr (fun i=>br.const _) hr
  exact key (decide (args.length<=fn.ntmps)&&decide (fn.ntmps<=1000)&&jU cx.nt cx.ann.kinds)
theorem oB{p:Pg}(hO:cN p)(hc:∀f,br (call f) fun n=>calls n f)(hfx:ku fx fxs)(hfc:qv fx)(hfcs:∀n,qv (fxs n))(f:FuncId):br (f0 p call fx f) fun n=>f0 p (calls n) (fxs n) f:=by
 intro args;unfold f0;cases ho:p.other f with
 |some E=>exact hO f E ho call calls hc args
 | none=>
  simp only;cases p.funcs f with
  |none=>exact aI.const _
  |some x=>
   obtain⟨fn,a⟩:=x;simp only;have hb:=sQ (cx:=p.cx call fn.ntmps a) hc hfx hfc hfcs fn (p.own f);cases a.iso with
   |true=>exact xS hb args
   |false=>exact hb args
end
theorem lu{p:Pg}(hO:cN p):∀n f args,sa (cK p n f args) (cK p (n+1) f args)
 |0,f,args=>fun x hne=>absurd rfl hne
 | n+1,f,args=>by
  have hc:∀f,br (cK p (n+1) f) fun m=>(if m=0 then cK p n else cK p (n+1)) f:=by
   intro f args x;refine⟨fun _=>⟨1,fun m hm=>?_⟩,fun m hne=>?_⟩
   ·(try dsimp only)
    rw[if_neg (by omega)]
   ·(try dsimp only at hne |-)
    by_cases h0:m=0
    ·rw[GR h0]at hne |-;exact lu hO n f args x hne
    ·rw[if_neg h0]
  have h:=oB hO hc (q4 n) (pL (n+1)) (fun m=>by
   by_cases h0:m=0
   ·rw[GR h0];exact pL n
   ·rw[if_neg h0];exact pL (n+1)) f args
  intro x hne
  have:=(h x).2 0
  (try dsimp only at this)
  rw[GR rfl,GR rfl]at this;exact this hne
def pJ{p:Pg}(hO:cN p){n m:Nat}(h:n<=m)(f:FuncId)(args:List AV):sa (cK p n f args) (cK p m f args):=by
 induction m with
 | zero => have:n=0:=by omega
           subst this;exact .refl _
 |succ m ih=>
  by_cases hn:n=m+1
  ·subst hn;exact .refl _
  ·exact (ih (by omega)).trans (lu hO m f args)
open Classical in
noncomputable def ai(p:Pg)(f:FuncId)(args:List AV):M AV:=fun h=>if hx:∃n,cK p n f args h≠.fail then cK p (Classical.choose hx) f args h else .fail
def iI{p:Pg}(hO:cN p)(f:FuncId):br (ai p f) fun n=>cK p n f:=by
 intro args h;refine ot (fun n m hnm hne=>pJ hO hnm f args h hne) ?_;unfold ai;by_cases hx:∃n,cK p n f args h≠.fail
 ·left;simp only[dif_pos hx];exact⟨_,I9 hx,rfl⟩
 ·right;simp only[dif_neg hx];exact⟨fun n=>Jn fun h=>hx ⟨n,h⟩,trivial⟩
def mb.uniq{α:Type}{a a':R α}{b:Nat->R α}(h:mb a b)(g:mb a' fun n=>b (n+1)):a=a':=by
 by_cases ha:a= .fail
 ·by_cases ha':a'= .fail
  ·rw[ha,ha']
  ·obtain⟨N,hN⟩:=g.1 ha';have h1:=hN N (GQ _)
   (try dsimp only at h1)
   exact (h.2 (N+1) (by rw[h1];exact ha')).symm.trans h1
 ·obtain⟨N,hN⟩:=h.1 ha;have h1:=hN (N+1) (by omega);have h2:=g.2 N
  (try dsimp only at h2)
  exact h1.symm.trans (h2 (by rw[h1];exact ha))
def mq{p:Pg}(hO:cN p)(f:FuncId)(args:List AV):ai p f args=f0 p (ai p) aj f args:=by
 funext h;have h1:=iI hO f args h;have h2:=oB hO (fun f=>iI hO f) q3 xK (fun n=>pL n) f args h;exact h1.uniq h2
def lq[Dr]{P:Program}{p:Pg}(G:GoodPg P p)(hO:cN p):cr P p.own (ai p):=by
 intro f args h S β w vs hr hg hw hh hv;obtain⟨N,hN⟩:=(iI hO f args h).1 hr;have h1:=hN N (GQ _)
 (try dsimp only at h1)
 rw[<- h1]at hr |-;exact jL G N f args h S β w vs hr hg hw hh hv
def xk{p:Pg}(hO:cN p){n:Nat}{f:FuncId}{args:List AV}{h:Hp}{r:R AV}(hr:cK p n f args h=r)(hne:r≠.fail):ai p f args h=r:=by
 have:=(iI hO f args h).2 n (by(try dsimp only);rw[hr];exact hne)
 (try dsimp only at this)
 rw[<- this,hr]
end Go.Av
namespace Go.Av
section
variable {ρ:Type}
theorem bd{F:(List AV->M ρ)->List AV->M ρ}(hF:iW F)(vs:List AV):aj F vs=F (aj F) vs:=by
 funext h;exact (fh hF vs h).uniq (hF _ _ (fh hF) vs h)
theorem au{c:AV}{x y:M ρ}{xs ys:Nat->M ρ}(hx:aI x xs)(hy:aI y ys):aI (aw c x y) fun n=>aw c (xs n) (ys n):=by
 unfold aw;cases c with
 |bool b=>cases b<;>first|exact hx|exact hy
 |_=>exact aI.const _
theorem vj{F:(List AV->M ρ)->List AV->M ρ}{Fs:Nat->(List AV->M ρ)->List AV->M ρ}(h1:bR F Fs)(h2:iW F)(h3:∀n,iW (Fs n)):br (aj F) fun n=>aj (Fs n):=xK F Fs h1 h2 h3
end
end Go.Av
namespace Go.Av
def aH(m:M AV):M AV:=fun h=>match m []with
 |.ok r h'=>.ok (fU 6 h' r) h
 |.pan v h'=>.pan (fU 6 h' v) h
 |.fail=>.fail
def aA{p:Pg}(hO:cN p){f:FuncId}{fn:Func}{a:Ann}(h1:p.other f=none)(h2:p.funcs f=some (fn,a))(h3:a.iso=true)(args:List AV):
  ai p f args=aH (bX (p.cx (ai p) fn.ntmps a) aj fn (p.own f) (c5 az args)):=by
 rw[mq hO];unfold f0;rw[h1];simp only;rw[h2];simp only[h3,GP];rfl
def eL{p:Pg}(hO:cN p){f:FuncId}{fn:Func}{a:Ann}(h1:p.other f=none)(h2:p.funcs f=some (fn,a))(h3:a.iso=false)(args:List AV):
  ai p f args=bX (p.cx (ai p) fn.ntmps a) aj fn (p.own f) args:=by
 rw[mq hO];unfold f0;rw[h1];simp only;rw[h2];simp only[h3,GV]
def eb{p:Pg}(hO:cN p){f:FuncId}{E:(FuncId->List AV->M AV)->List AV->M AV}(h1:p.other f=some E)(args:List AV):ai p f args=E (ai p) args:=by
 rw[mq hO];unfold f0;rw[h1]
def gB(T:TT)(t:TypeId):(FuncId->List AV->M AV)->List AV->M AV:=fun _ args=>match args with
 |[.sl es]=>af (dz T t (.sl []) (.sl es))
 |_=>M.fail
def cW(T:TT)(t:TypeId):(FuncId->List AV->M AV)->List AV->M AV:=fun _ args=>match args with
 |[.sl es]=>appH T t true (.sl []) (.sl es)
 |_=>M.fail
def sI(T:TT)(t:TypeId)(call:FuncId->List AV->M AV)(calls:Nat->FuncId->List AV->M AV):br (gB T t call) fun n=>gB T t (calls n):=br.const _
def mw(T:TT)(t:TypeId)(call:FuncId->List AV->M AV)(calls:Nat->FuncId->List AV->M AV):br (cW T t call) fun n=>cW T t (calls n):=br.const _
def dn{α:Type}{b:Bool}{x:α}{o:Option α}{y:α}(h:(bif b then some x else o)=some y):x=y\/o=some y:=by
 cases b with
 |true=>exact .inl (by simpa using h)
 |false=>exact .inr h
def ow(T:TT)(t:TypeId)(call:FuncId->List AV->M AV)(args:List AV):se (cW T t call args):=by
 unfold cW;split
 ·rename_i y;intro h v h' hh;unfold appH at hh;split at hh
  ·cases hh
  ·split at hh
   ·split at hh
    ·cases hh
    ·split at hh
     ·cases hh
     ·rename_i bs _;revert hh;generalize (_&&_:Bool)=b1;cases b1 with
      |false=>intro hh;cases hh
      | true=>
       simp only[GP];cases bs.isEmpty with
       |true=>intro hh;cases hh;exact⟨[],by simp⟩
       |false=>
        simp only[GV];generalize decide (_<=140737488355328)=b2;cases b2 with
        |false=>intro hh;cases hh
        |true=>intro hh;cases hh;exact⟨_,rfl⟩
   ·cases hh
 ·intro h v h' hh;cases hh
end Go.Av
namespace Go.Av
variable [Dr]
open Go.RowKit
section
variable {S:ay} {β:List bj} {h:Hp} {w w':World}
omit [Dr]in
theorem cy.below(hh:cy S β w h){S':ay}(hb:∀b,b<w.heap.size->w'.heap[b]? = w.heap[b]? /\∀o,S' b o=S b o)(hle:S.le S'):cy S' β w' h:=by
 obtain⟨hlen,ω,hr⟩:=hh;exact⟨hlen,ω,hr.rows hle (eG.refl β) hlen fun l cs hl _=>.inl ⟨hl,fun b hlt ho=>⟨ho,(hb b hlt).1,fun o h=>by rw[(hb b hlt).2];exact h⟩⟩⟩
theorem mS(hw:Wf S w)(hh:cy S β w h)(hb:Below w.heap.size w w')(hd:Dr.on->w.drawn<=w'.drawn){S':ay}(hS:∀b,b<w.heap.size->∀o,S' b o=S b o)(hnew:∀b o v,w.heap.size<=b->S' b o=some v->w'.cell? ⟨b,o,none⟩=some v):
  Left (b9 β h) S β w S' β w' h:=by
 have hle:S.le S':=fun b o v hv=>by rw[hS b (hw.lt hv)];exact hv
 refine⟨hle,eG.refl β,fun b o v hv=>?_,⟨hb.size,hb.os,hb.output,hb.tape,hd⟩,fun b hlt _=>⟨hb.block b hlt,hS b hlt⟩,hh.below (fun b hlt=>⟨hb.block b hlt,hS b hlt⟩) hle,fun b hb=>.inl hb⟩;rcases Hb b w.heap.size with hlt|hge
 ·rw[hS b hlt]at hv;rw[cell_of_heap (hb.block b hlt)];exact hw b o v hv
 ·exact hnew b o v hge hv
theorem fg(hw:Wf S w)(hh:cy S β w h)(hb:Below w.heap.size w w')(hd:Dr.on->w.drawn<=w'.drawn){r:AV}{v:Value}(hv:VR S β r v):c9 none S β h w (.ok r h) (.returned v) w':=
 ⟨S,β,v,rfl,hv,mS hw hh hb hd (fun _ _ _=>rfl) (fun b o v hge hv=>by have:=hw.lt hv;omega),fun sz hsz=>by cases hsz⟩
theorem uU(hw:Wf S w)(hh:cy S β w h)(hb:Below w.heap.size w w')(hd:Dr.on->w.drawn<=w'.drawn){n:Nat}{x:Array Value}(hr:Row w' n x)(hn:w.heap.size<=n){r:AV}{v:Value}(hv:VR (S.withRowTo n x.size x) β r v):c9 none S β h w (.ok r h) (.returned v) w':=
 ⟨_,β,v,rfl,hv,mS hw hh hb hd (fun b hlt o=>by unfold ay.withRowTo;rw[if_neg (by omega)]) (fun b o v hge hv=>by
  by_cases hbn:b=n
  ·subst hbn;unfold ay.withRowTo at hv;rw[GR rfl]at hv;split at hv
   ·rw[hr.cell];exact hv
   ·cases hv
  ·unfold ay.withRowTo at hv;rw[if_neg hbn]at hv
   have:=hw.lt hv;omega),fun sz hsz=>by cases hsz⟩
omit [Dr]in
theorem yN(S:ay)(β:List bj)(n:Nat)(l:List ByteArray)(ls:List (List UInt8))(hl:l.map (·.data.toList)=ls):VR (S.withRowTo n (l.map Value.string).toArray.size (l.map Value.string).toArray) β (.sl (ls.map .str)) (.slice (some ⟨n,0,none⟩) l.length l.length):=by
 subst hl;simp only[VR,HS];refine⟨some ⟨n,0,none⟩,l.length,rfl,GQ _,(fun h=>by cases h),fun q hq=>?_⟩;simp only[GN]at hq;subst hq;refine⟨fun _=>rfl,1,.of_get fun i e he=>?_⟩;simp only[Jr,HU,HO,Function.comp]at he;obtain⟨s,hs,rfl⟩:=he;refine⟨.string s,by simp only[VR];exact⟨s,rfl,rfl⟩,rfl,fun j v hj=>?_⟩;have hlt:i<l.length:=by
  rcases Hb i l.length with h|h
  ·exact h
  ·rw[G1 h]at hs;cases hs
 rw[show (Value.string s).cells.toList=[Value.string s]from rfl]at hj;cases j with
 |succ j=>simp at hj
 |zero=>
  simp only[Hh,GN]at hj;subst hj;unfold ay.withRowTo;simp[hlt];rw[Ha hlt]at hs;simpa using hs
end
end Go.Av
namespace Go.Av
variable [Dr]
def gd:(FuncId->List AV->M AV)->List AV->M AV:=fun _ args=>match args with
 |[.str s,.str t]=>af (bif decide (s.length<4294967281)then some (.bool (Lib.contains s t))else none)
 |_=>M.fail
def l6:(FuncId->List AV->M AV)->List AV->M AV:=fun _ args=>match args with
 |[.str s]=>af (bif decide (s.length<4294967281)&&s.all (fun b=>decide (b.toNat<128))then some (.sl ((Lib.fields s).map .str))else none)
 |_=>M.fail
def vt:List AV->Option Nat
 |[.hp l off]=>bif Nat.beq off 0 then some l else none
 |_=>none
omit [Dr]in
theorem rf{args:List AV}{l:Nat}(h:vt args=some l):args=[.hp l 0]:=by
 unfold vt at h;split at h
 ·rename_i l' off;cases ho:Nat.beq off 0 with
  |false=>rw[ho]at h;cases h
  |true=>
   rw[ho]at h;cases h;rw[GU ho]
 ·cases h
def E6(ok:List (Nat×Nat))(l:Nat):List AV->Option (List AV)
 |.nilb t:: x:: r=>bif ok.any (fun p=>Nat.beq p.1 t&&Nat.ble p.2 (r.length+2))then some (.hp l 0:: x:: r)else none
 |.hp l' k:: r=>bif Nat.beq l' l&&Nat.beq k 0 then some (.hp l' k:: r)else none
 |_=>none
omit [Dr]in
theorem zh{ok:List (Nat×Nat)}{l:Nat}{cs cs':List AV}(h:E6 ok l cs=some cs'):(∃t x r,cs= .nilb t:: x:: r/\cs'= .hp l 0:: x:: r/\∃n,(t,n)∈ok/\n<=r.length+2)\/(∃r,cs= .hp l 0:: r/\cs'=cs):=by
 unfold E6 at h;split at h
 ·rename_i t x r;cases ho:ok.any (fun p=>Nat.beq p.1 t&&Nat.ble p.2 (r.length+2))with
  |false=>rw[ho]at h;cases h
  |true=>
   rw[ho]at h;cases h;obtain⟨p,hp,hq⟩:=List.any_eq_true.1 ho;rw[GO]at hq;refine .inl ⟨t,x,r,rfl,rfl,p.2,?_,IH hq.2⟩;rw[<- GU hq.1];exact hp
 ·rename_i l' k r;cases ho:(Nat.beq l' l&&Nat.beq k 0)with
  |false=>rw[ho]at h;cases h
  |true=>
   rw[ho]at h;cases h;rw[GO]at ho;have h1:=GU ho.1;have h2:=GU ho.2;subst h1 h2;exact .inr ⟨r,rfl,rfl⟩
 ·cases h
def gC(ok:List (Nat×Nat)):(FuncId->List AV->M AV)->List AV->M AV:=fun _ args h=>match vt args with
 | some l=>(match h[l]? with
  |some cs=>(match E6 ok l cs with
   |some cs'=>.ok (.tup []) (h.set l cs')
   |none=>.fail)
  |none=>.fail)
 |none=>.fail
def xg(e:Nat):AV->Option UInt8
 |.byt t n=>bif Nat.beq t e&&decide (0<=n)&&decide (n<256)then some (UInt8.ofNat n.toNat)else none
 |_=>none
def jd(e:Nat):List AV->Option (List UInt8)
 |[]=>some []
 |x:: r=>match xg e x,jd e r with
  |some b,some l=>some (b:: l)
  |_,_=>none
def stA:List AV->Option (Option (Nat×Nat))
 |.hp _ _:: .hs lb off len sz ag:: _=>bif Nat.beq off 0&&Nat.beq sz 1&&!ag&&Nat.blt 0 len&&Nat.ble len 140737488355328 then some (some (lb,len))else none
 |_:: .hn:: _=>some none
 |_=>none
omit [Dr]in
theorem yI{cs:List AV}{lb len:Nat}(h:stA cs=some (some (lb,len))):∃x r,cs=x:: .hs lb 0 len 1 false:: r/\0<len/\len<=140737488355328:=by
 unfold stA at h;split at h
 ·rename_i l k lb' off len' sz ag r;cases ho:(Nat.beq off 0&&Nat.beq sz 1&&!ag&&Nat.blt 0 len'&&Nat.ble len' 140737488355328)with
  |false=>rw[ho]at h;cases h
  |true=>
   rw[ho]at h;cases h;simp only[GO,HC]at ho;obtain⟨⟨⟨⟨h1,h2⟩,h3⟩,h4⟩,h5⟩:=ho;have h1:=GU h1;have h2:=GU h2;subst h1 h2 h3;exact⟨_,r,rfl,IH h4,IH h5⟩
 ·cases h
 ·cases h
omit [Dr]in
theorem yH{cs:List AV}(h:stA cs=some none):∃x r,cs=x:: .hn:: r:=by
 unfold stA at h;split at h
 ·rename_i l k lb' off len' sz ag r;cases ho:(Nat.beq off 0&&Nat.beq sz 1&&!ag&&Nat.blt 0 len'&&Nat.ble len' 140737488355328)with
  |false=>rw[ho]at h;cases h
  |true=>rw[ho]at h;cases h
 ·exact⟨_,_,rfl⟩
 ·cases h
def ej(e:Nat):(FuncId->List AV->M AV)->List AV->M AV:=fun _ args h=>match vt args with
 | some l=>(match h[l]? with
  | some cs=>(match stA cs with
   |some none=>.ok (.str []) h
   | some (some (lb,len))=>(match h[lb]? with
    |some bs=>(match (bif Nat.ble len bs.length then jd e (bs.take len)else none)with
     |some s=>.ok (.str s) (h.set lb [])
     |none=>.fail)
    |none=>.fail)
   |none=>.fail)
  |none=>.fail)
 |none=>.fail
def q5:AV->Option (List UInt8×Int×List AV)
 |.agg [.str n,.int .i64 k,.sl fs]=>some (n,k,fs)
 |_=>none
def eO:List AV->Option (List (List UInt8×Int×List AV))
 |[]=>some []
 |x:: r=>match q5 x,eO r with
  |some z,some l=>some (z:: l)
  |_,_=>none
def bz{α:Type}(p:α->Bool):List α->Option α
 |[]=>none
 |z:: r=>match bz p r with
  |some y=>some y
  |none=>bif p z then some z else none
def tb(l:List (List UInt8×Int×List AV))(name:List UInt8):AV:=match bz (fun z=>z.1== name) l with
 |some z=>.tup [.agg [.int .i64 z.2.1,.sl z.2.2],.bool true]
 |none=>.tup [.agg [.int .i64 0,.sl []],.bool false]
def iL:(FuncId->List AV->M AV)->List AV->M AV:=fun _ args=>match args with
 |[.sl es,.str name]=>(match eO es with
  |some l=>af (bif decide (l.length<=1000000000)then some (tb l name)else none)
  |none=>M.fail)
 |_=>M.fail
omit [Dr]in
theorem nQ{α:Type}(p:α->Bool)(l:List α):bz p l=l.reverse.find? p:=by
 induction l with
 |nil=>rfl
 |cons z r ih=>
  simp only[bz,ih,List.reverse_cons,List.find?_append];cases r.reverse.find? p with
  |some y=>rfl
  |none=>cases h:p z<;>simp[h]
end Go.Av
namespace Go.Av
variable [Dr]
open Go.RowKit
def uV:Nat->Nat->List UInt8
 |0,_=>[]
 |f+1,u=>bif decide (u<10)then[UInt8.ofNat (48+u)]else uV f (u / 10)++[UInt8.ofNat (48+u % 10)]
omit [Dr]in
theorem pG:∀(f u:Nat),u<10 ^ (f+1)->uV (f+1) u=Lib.decDigits u
 | f,u,h=>by
  rw[Lib.decDigits];rw[show uV (f+1) u=bif decide (u<10)then[UInt8.ofNat (48+u)]else uV f (u / 10)++[UInt8.ofNat (48+u % 10)]from rfl];by_cases h10:u<10
  ·rw[dif_pos h10,II h10];rfl
  ·rw[dif_neg h10,JG h10];cases f with
   |zero=>omega
   |succ f=>rw[pG f (u / 10) (by rw[Nat.pow_succ]at h;omega)];rfl
def xU(n:Int):List UInt8:=bif decide (n<0)then 45:: uV 20 n.natAbs else uV 20 n.toNat
omit [Dr]in
theorem xV{n:Int}(h0:-9223372036854775808<=n)(h1:n<=9223372036854775807):xU n=Lib.itoa n:=by
 unfold xU Lib.itoa;by_cases h:n<0
 ·rw[II h,GR h];simp only[GP];rw[pG 19 n.natAbs (by omega)]
 ·rw[JG h,if_neg h];simp only[GV];rw[pG 19 n.toNat (by omega)]
def ua:(FuncId->List AV->M AV)->List AV->M AV:=fun _ args=>match args with
 |[.int .i64 n]=>af (bif decide (-9223372036854775808<=n)&&decide (n<=9223372036854775807)then some (.str (xU n))else none)
 |_=>M.fail
end Go.Av
namespace Go.Av
open Go.RowKit Go.Sort Go.Proofs
section
variable [Dr]
end
section
variable {α:Type} [Inhabited α]
end
section
variable [Dr] {S:ay} {β:List bj} {h:Hp} {w w':World}
end
theorem GJ{S:ay}{β:List bj}:{ps qs:List AV} ->{vs:List Value} ->aY S β (ps++qs) vs->∃u v,vs=u++v/\aY S β ps u/\aY S β qs v
 |[],_,vs,h=>⟨[],vs,rfl,by simp[aY],h⟩
 |_:: ps,qs,vs,h=>by
  simp only[Ht,aY]at h;obtain⟨x,xs,rfl,h1,h2⟩:=h;obtain⟨u,v,rfl,h3,h4⟩:=GJ h2;exact⟨x:: u,v,rfl,by simp only[aY];exact⟨x,u,rfl,h1,h3⟩,h4⟩
section
variable [Dr] {α:Type} [Inhabited α] {P:Program}
end
end Go.Av
namespace Go.Av
open Go.RowKit Go.Sort Go.Proofs
section
variable [Dr] {P:Program}
end
end Go.Av
namespace Go.Av.Ap
abbrev bn:=List UInt8
inductive Val where
 |mk (kind n:Int) (names:List bn) (values:List Val)
instance:Inhabited Val:=⟨.mk 0 0 [] []⟩
inductive Exp where
 |mk (op n:Int) (s m:bn) (names:List bn) (args:List Exp)
instance:Inhabited Exp:=⟨.mk 0 0 [] [] [] []⟩
inductive Ty where
 |mk (kind:Int) (fields:List (bn×Ty))
instance:Inhabited Ty:=⟨.mk 0 []⟩
abbrev bN:=bn×Ty
structure Fun where
 name:bn
 pub:Bool
 params:List bN
 result:Ty
 effects:Int
 body:Exp
 deriving Inhabited
structure Mod where
 name:bn
 uses:List bn
 vars:List bN
 init:List Exp
 funcs:List Fun
 moves:Bool
 old:List bN
 forward:List Exp
 back:List Exp
 deriving Inhabited
def Val.kind:Val->Int|.mk k _ _ _=>k
def Val.n:Val->Int|.mk _ n _ _=>n
def Val.names:Val->List bn|.mk _ _ ns _=>ns
def Val.values:Val->List Val|.mk _ _ _ vs=>vs
def Exp.op:Exp->Int|.mk o _ _ _ _ _=>o
def Exp.n:Exp->Int|.mk _ n _ _ _ _=>n
def Exp.s:Exp->bn|.mk _ _ s _ _ _=>s
def Exp.m:Exp->bn|.mk _ _ _ m _ _=>m
def Exp.names:Exp->List bn|.mk _ _ _ _ ns _=>ns
def Exp.args:Exp->List Exp|.mk _ _ _ _ _ es=>es
def Ty.kind:Ty->Int|.mk k _=>k
def Ty.fields:Ty->List bN|.mk _ fs=>fs
@[simp] theorem GM(a b c d):(Val.mk a b c d).kind=a:=rfl
@[simp] theorem Val.n_mk(a b c d):(Val.mk a b c d).n=b:=rfl
@[simp] theorem GL(a b c d):(Val.mk a b c d).names=c:=rfl
@[simp] theorem GK(a b c d):(Val.mk a b c d).values=d:=rfl
def Val.eta(v:Val):Val.mk v.kind v.n v.names v.values=v:=by cases v;rfl
def Exp.eta(e:Exp):Exp.mk e.op e.n e.s e.m e.names e.args=e:=by cases e;rfl
def Ty.eta(t:Ty):Ty.mk t.kind t.fields=t:=by cases t;rfl
def strs(l:List bn):AV:=.sl (l.map .str)
mutual
def Val.av:Val->AV
 |.mk k n ns vs=>.agg [.int .i64 k,.int .i64 n,strs ns,.sl (gQ vs)]
def gQ:List Val->List AV
 |[]=>[]
 |v:: vs=>v.av:: gQ vs
end
mutual
def Exp.cells:Exp->List AV
 |.mk o n s m ns es=>[.int .i64 o,.int .i64 n,.str s,.str m,strs ns,.sl (eq es)]
def eq:List Exp->List AV
 |[]=>[]
 |e:: es=>.agg e.cells:: eq es
end
def Exp.av(e:Exp):AV:=.agg e.cells
mutual
def Ty.cells:Ty->List AV
 |.mk k fs=>[.int .i64 k,.sl (dk fs)]
def dk:List (bn×Ty)->List AV
 |[]=>[]
 |f:: fs=>a7 f:: dk fs
def a7:bn×Ty->AV
 |(n,t)=>.agg (.str n:: t.cells)
end
def Ty.av(t:Ty):AV:=.agg t.cells
def Fun.av(f:Fun):AV:=.agg ([.str f.name,.bool f.pub,.sl (dk f.params)]++f.result.cells++[.int .i64 f.effects]++f.body.cells)
def fV(l:List Fun):AV:=.sl (l.map Fun.av)
def Mod.av(m:Mod):AV:=.agg [.str m.name,strs m.uses,.sl (dk m.vars),.sl (eq m.init),fV m.funcs,.bool m.moves,.sl (dk m.old),.sl (eq m.forward),.sl (eq m.back)]
def vals(l:List Val):AV:=.sl (gQ l)
def bO(l:List Exp):AV:=.sl (eq l)
def aB(l:List bN):AV:=.sl (dk l)
def Ct(l:List Mod):AV:=.sl (l.map Mod.av)
def ints(l:List Int):AV:=.sl (l.map (.int .i64))
structure Vars where
 module:bn
 values:List Val
 deriving Inhabited
structure Deed where
 effect:Int
 arg:Int
 answer:Int
 deriving DecidableEq,Inhabited
structure Call where
 module:bn
 func:bn
 args:List Val
 deriving Inhabited
def Vars.av(v:Vars):AV:=.agg [.str v.module,vals v.values]
def Deed.av(d:Deed):AV:=.agg [.int .i64 d.effect,.int .i64 d.arg,.int .i64 d.answer]
def Call.av(c:Call):AV:=.agg [.str c.module,.str c.func,vals c.args]
def nD(l:List Vars):AV:=.sl (l.map Vars.av)
def deeds(l:List Deed):AV:=.sl (l.map Deed.av)
def calls(l:List Call):AV:=.sl (l.map Call.av)
structure Out where
 err:Int
 value:Val
 deeds:List Deed
 calls:List Call
 state:List Vars
def Out.av(o:Out):AV:=.agg [.int .i64 o.err,.int .i64 o.value.kind,.int .i64 o.value.n,strs o.value.names,vals o.value.values,Ap.deeds o.deeds,Ap.calls o.calls,nD o.state]
theorem nC:(l:List Val)->gQ l=l.map Val.av
 |[]=>rfl
 |v:: l=>by simp[gQ,nC l]
theorem eM:(l:List Exp)->eq l=l.map Exp.av
 |[]=>rfl
 |v:: l=>by simp[eq,eM l,Exp.av]
theorem cE:(l:List bN)->dk l=l.map a7
 |[]=>rfl
 |v:: l=>by simp[dk,cE l]
def Val.av_eq(v:Val):v.av= .agg [.int .i64 v.kind,.int .i64 v.n,strs v.names,vals v.values]:=by cases v;rfl
def Exp.cells_eq(e:Exp):e.cells=[.int .i64 e.op,.int .i64 e.n,.str e.s,.str e.m,strs e.names,bO e.args]:=by cases e;rfl
def Ty.cells_eq(t:Ty):t.cells=[.int .i64 t.kind,aB t.fields]:=by cases t;simp[Ty.cells,aB,Ty.kind,Ty.fields]
def fM(f:bN):a7 f= .agg [.str f.1,.int .i64 f.2.kind,aB f.2.fields]:=by obtain⟨n,t⟩:=f;simp[a7,Ty.cells_eq]
@[simp] theorem mf(v:Val):ab v.av=[.int .i64 v.kind,.int .i64 v.n,strs v.names,vals v.values]:=by rw[v.av_eq];rfl
@[simp] theorem bA(e:Exp):ab e.av=[.int .i64 e.op,.int .i64 e.n,.str e.s,.str e.m,strs e.names,bO e.args]:=by rw[Exp.av,e.cells_eq];rfl
@[simp] theorem cg(f:bN):ab (a7 f)=[.str f.1,.int .i64 f.2.kind,aB f.2.fields]:=by rw[fM];rfl
@[simp] theorem bw(t:Ty):ab t.av=[.int .i64 t.kind,aB t.fields]:=by rw[Ty.av,t.cells_eq];rfl
@[simp] theorem gq(f:Fun):ab f.av=[.str f.name,.bool f.pub,aB f.params,.int .i64 f.result.kind,aB f.result.fields,.int .i64 f.effects,.int .i64 f.body.op,.int .i64 f.body.n,.str f.body.s,.str f.body.m,strs f.body.names,bO f.body.args]:=by
 simp[Fun.av,ab,Ty.cells_eq,Exp.cells_eq,aB]
@[simp] theorem ba(m:Mod):ab m.av=[.str m.name,strs m.uses,aB m.vars,bO m.init,fV m.funcs,.bool m.moves,aB m.old,bO m.forward,bO m.back]:=rfl
@[simp] theorem q9(v:Val):AV.agg [.int .i64 v.kind,.int .i64 v.n,strs v.names,vals v.values]=v.av:=(v.av_eq).symm
@[simp] theorem c8(e:Exp):AV.agg [.int .i64 e.op,.int .i64 e.n,.str e.s,.str e.m,strs e.names,bO e.args]=e.av:=by rw[Exp.av,e.cells_eq]
@[simp] theorem cb(t:Ty):AV.agg [.int .i64 t.kind,aB t.fields]=t.av:=by rw[Ty.av,t.cells_eq]
@[simp] theorem ew(f:bN):AV.agg [.str f.1,.int .i64 f.2.kind,aB f.2.fields]=a7 f:=(fM f).symm
@[simp] theorem io(f:Fun):AV.agg [.str f.name,.bool f.pub,aB f.params,.int .i64 f.result.kind,aB f.result.fields,.int .i64 f.effects,.int .i64 f.body.op,.int .i64 f.body.n,.str f.body.s,.str f.body.m,strs f.body.names,bO f.body.args]=f.av:=by
 simp[Fun.av,Ty.cells_eq,Exp.cells_eq,aB]
@[simp] theorem iq(m:Mod):AV.agg [.str m.name,strs m.uses,aB m.vars,bO m.init,fV m.funcs,.bool m.moves,aB m.old,bO m.forward,bO m.back]=m.av:=rfl
theorem dH{α:Type}(g:Nat->Nat->Nat->Nat->Bool->AV)(f:α->AV)(h:∀x,cl g (f x)=f x):(l:List α)->c5 g (l.map f)=l.map f
 |[]=>rfl
 |x:: l=>by simp[c5,h x,dH g f h l]
@[simp] theorem tS(g:Nat->Nat->Nat->Nat->Bool->AV)(l:List bn):cl g (strs l)=strs l:=by
 simp[strs,cl,dH g AV.str (fun _=>rfl) l]
@[simp] theorem E9(g:Nat->Nat->Nat->Nat->Bool->AV)(l:List Int):cl g (ints l)=ints l:=by
 simp[ints,cl,dH g (AV.int .i64) (fun _=>rfl) l]
mutual
theorem Val.cl_av(g:Nat->Nat->Nat->Nat->Bool->AV):(v:Val)->cl g v.av=v.av
 |.mk k n ns vs=>by simp[Val.av,cl,c5,qp g vs]
theorem qp(g:Nat->Nat->Nat->Nat->Bool->AV):(l:List Val)->c5 g (gQ l)=gQ l
 |[]=>rfl
 |v:: l=>by simp[gQ,c5,Val.cl_av g v,qp g l]
end
mutual
theorem Exp.cl_cells(g:Nat->Nat->Nat->Nat->Bool->AV):(e:Exp)->c5 g e.cells=e.cells
 |.mk o n s m ns es=>by simp[Exp.cells,cl,c5,l5 g es]
theorem l5(g:Nat->Nat->Nat->Nat->Bool->AV):(l:List Exp)->c5 g (eq l)=eq l
 |[]=>rfl
 |e:: l=>by simp[eq,c5,cl,Exp.cl_cells g e,l5 g l]
end
mutual
theorem Ty.cl_cells(g:Nat->Nat->Nat->Nat->Bool->AV):(t:Ty)->c5 g t.cells=t.cells
 |.mk k fs=>by simp[Ty.cells,cl,c5,jQ g fs]
theorem jQ(g:Nat->Nat->Nat->Nat->Bool->AV):(l:List (bn×Ty))->c5 g (dk l)=dk l
 |[]=>rfl
 |f:: l=>by simp[dk,c5,xL g f,jQ g l]
theorem xL(g:Nat->Nat->Nat->Nat->Bool->AV):(f:bn×Ty)->cl g (a7 f)=a7 f
 |(n,t)=>by simp[a7,cl,c5,Ty.cl_cells g t]
end
@[simp] theorem B8(g:Nat->Nat->Nat->Nat->Bool->AV)(v:Val):cl g v.av=v.av:=v.cl_av g
@[simp] theorem zx(g:Nat->Nat->Nat->Nat->Bool->AV)(l:List Val):cl g (vals l)=vals l:=by simp[vals,cl,qp]
@[simp] theorem xo(g:Nat->Nat->Nat->Nat->Bool->AV)(e:Exp):cl g e.av=e.av:=by simp[Exp.av,cl,Exp.cl_cells]
@[simp] theorem E8(g:Nat->Nat->Nat->Nat->Bool->AV)(l:List Exp):cl g (bO l)=bO l:=by simp[bO,cl,l5]
@[simp] theorem lr(g:Nat->Nat->Nat->Nat->Bool->AV)(t:Ty):cl g t.av=t.av:=by simp[Ty.av,cl,Ty.cl_cells]
@[simp] theorem xq(g:Nat->Nat->Nat->Nat->Bool->AV)(f:bN):cl g (a7 f)=a7 f:=xL g f
@[simp] theorem pB(g:Nat->Nat->Nat->Nat->Bool->AV)(l:List bN):cl g (aB l)=aB l:=by simp[aB,cl,jQ]
theorem mz(g:Nat->Nat->Nat->Nat->Bool->AV):(a b:List AV)->c5 g (a++b)=c5 g a++c5 g b
 |[],b=>rfl
 |x:: a,b=>by simp[c5,mz g a b]
@[simp] theorem xt(g:Nat->Nat->Nat->Nat->Bool->AV)(f:Fun):cl g f.av=f.av:=by
 simp[Fun.av,cl,c5,mz,jQ,Ty.cl_cells,Exp.cl_cells]
@[simp] theorem zu(g:Nat->Nat->Nat->Nat->Bool->AV)(l:List Fun):cl g (fV l)=fV l:=by simp[fV,cl,dH g Fun.av (xt g)]
@[simp] theorem sG(g:Nat->Nat->Nat->Nat->Bool->AV)(m:Mod):cl g m.av=m.av:=by
 simp[Mod.av,cl,c5,jQ,l5,zu]
@[simp] theorem Fa(g:Nat->Nat->Nat->Nat->Bool->AV)(l:List Mod):cl g (Ct l)=Ct l:=by simp[Ct,cl,dH g Mod.av (sG g)]
@[simp] theorem xu(g:Nat->Nat->Nat->Nat->Bool->AV)(k:IntKind)(n:Int):cl g (.int k n)= .int k n:=rfl
@[simp] theorem E7(g:Nat->Nat->Nat->Nat->Bool->AV)(b:Bool):cl g (.bool b)= .bool b:=rfl
@[simp] theorem mu(g:Nat->Nat->Nat->Nat->Bool->AV)(s:bn):cl g (.str s)= .str s:=rfl
@[simp] theorem zy(g:Nat->Nat->Nat->Nat->Bool->AV)(v:Vars):cl g v.av=v.av:=by simp[Vars.av,cl,c5]
@[simp] theorem zt(g:Nat->Nat->Nat->Nat->Bool->AV)(v:Deed):cl g v.av=v.av:=by simp[Deed.av,cl,c5]
@[simp] theorem zr(g:Nat->Nat->Nat->Nat->Bool->AV)(v:Call):cl g v.av=v.av:=by simp[Call.av,cl,c5]
@[simp] theorem D3(g:Nat->Nat->Nat->Nat->Bool->AV)(l:List Vars):cl g (nD l)=nD l:=by simp[nD,cl,dH g Vars.av (zy g)]
@[simp] theorem D1(g:Nat->Nat->Nat->Nat->Bool->AV)(l:List Deed):cl g (deeds l)=deeds l:=by simp[deeds,cl,dH g Deed.av (zt g)]
@[simp] theorem DZ(g:Nat->Nat->Nat->Nat->Bool->AV)(l:List Call):cl g (calls l)=calls l:=by simp[calls,cl,dH g Call.av (zr g)]
@[simp] theorem FL(g:Nat->Nat->Nat->Nat->Bool->AV)(o:Out):cl g o.av=o.av:=by simp[Out.av,cl,c5]
@[simp] theorem lj(v:Vars):ab v.av=[.str v.module,vals v.values]:=rfl
@[simp] theorem li(v:Deed):ab v.av=[.int .i64 v.effect,.int .i64 v.arg,.int .i64 v.answer]:=rfl
@[simp] theorem lh(v:Call):ab v.av=[.str v.module,.str v.func,vals v.args]:=rfl
@[simp] theorem me(o:Out):ab o.av=[.int .i64 o.err,.int .i64 o.value.kind,.int .i64 o.value.n,strs o.value.names,vals o.value.values,deeds o.deeds,calls o.calls,nD o.state]:=rfl
@[simp] theorem oJ(v:Vars):AV.agg [.str v.module,vals v.values]=v.av:=rfl
@[simp] theorem oI(v:Deed):AV.agg [.int .i64 v.effect,.int .i64 v.arg,.int .i64 v.answer]=v.av:=rfl
@[simp] theorem oH(v:Call):AV.agg [.str v.module,.str v.func,vals v.args]=v.av:=rfl
@[simp] theorem q8(o:Out):AV.agg [.int .i64 o.err,.int .i64 o.value.kind,.int .i64 o.value.n,strs o.value.names,vals o.value.values,deeds o.deeds,calls o.calls,nD o.state]=o.av:=rfl
@[simp] theorem Dj(v:Vars):cq v.av=some 2:=rfl
@[simp] theorem Dh(v:Deed):cq v.av=some 3:=rfl
@[simp] theorem Dg(v:Call):cq v.av=some 3:=rfl
@[simp] theorem EM(v:Out):cq v.av=some 8:=rfl
@[simp] theorem oV(v:Vars):cf 2 v.av=true:=by simp[cf,bc,vals]
@[simp] theorem oU(v:Deed):cf 3 v.av=true:=by simp[cf,bc]
@[simp] theorem oT(v:Call):cf 3 v.av=true:=by simp[cf,bc,vals]
@[simp] theorem rH(v:Out):cf 8 v.av=true:=by simp[cf,bc,vals,strs,deeds,calls,nD]
def Clean(a:AV):Prop:=∀g,cl g a=a
def Clean.frz{a:AV}(h:Clean a)(d:Nat)(hp:Hp):fU d hp a=a:=by
 cases d with
 |zero=>exact h _
 |succ d=>exact h _
def bH{a:AV}(h:Clean a):aH (M.pure a)=M.pure a:=by
 funext hp;simp only[aH,M.pure,h.frz]
@[simp] theorem eQ(b:Bool):aH (M.pure (.bool b))=M.pure (.bool b):=bH fun _=>rfl
@[simp] theorem rq(k:IntKind)(n:Int):aH (M.pure (.int k n))=M.pure (.int k n):=bH fun _=>rfl
@[simp] theorem Et(s:bn):aH (M.pure (.str s))=M.pure (.str s):=bH fun _=>rfl
@[simp] theorem Eu(v:Val):aH (M.pure v.av)=M.pure v.av:=bH fun g=>B8 g v
@[simp] theorem C3(v:List Val):aH (M.pure (vals v))=M.pure (vals v):=bH fun g=>zx g v
@[simp] theorem Ep(v:Exp):aH (M.pure v.av)=M.pure v.av:=bH fun g=>xo g v
@[simp] theorem Er(v:Fun):aH (M.pure v.av)=M.pure v.av:=bH fun g=>xt g v
@[simp] theorem EO(v:Val):cq v.av=some 4:=by rw[v.av_eq];rfl
@[simp] theorem EI(e:Exp):cq e.av=some 6:=by rw[Exp.av,e.cells_eq];rfl
@[simp] theorem EJ(f:bN):cq (a7 f)=some 3:=by rw[fM];rfl
@[simp] theorem Fc(t:Ty):cq t.av=some 2:=by rw[Ty.av,t.cells_eq];rfl
@[simp] theorem EK(f:Fun):cq f.av=some 12:=by simp[Fun.av,cq,Ty.cells_eq,Exp.cells_eq]
@[simp] theorem EL(m:Mod):cq m.av=some 9:=rfl
@[simp] theorem nd(v:Val):cf 4 v.av=true:=by simp[cf,bc,strs,vals]
@[simp] theorem fR(e:Exp):cf 6 e.av=true:=by simp[cf,bc,strs,bO]
@[simp] theorem fl(f:bN):cf 3 (a7 f)=true:=by simp[cf,bc,aB]
@[simp] theorem j0(f:Fun):cf 12 f.av=true:=by simp[cf,bc,aB,strs,bO]
@[simp] theorem iA(m:Mod):cf 9 m.av=true:=by simp[cf,bc,aB,strs,bO,fV]
@[simp] theorem yj(s:bn):cf 1 (.str s)=true:=rfl
@[simp] theorem yg(k:IntKind)(n:Int):cf 1 (.int k n)=true:=rfl
def cS{α:Type}{sz:Nat}{f:α->AV}(h:∀x,cf sz (f x)=true)(l:List α):cC sz (l.map f)=true:=by simp[cC,h]
@[simp] theorem Dd(l:List bn):cC 1 (l.map AV.str)=true:=cS yj l
@[simp] theorem C9(l:List Int):cC 1 (l.map (AV.int .i64))=true:=cS (yg .i64) l
@[simp] theorem De(l:List Val):cC 4 (gQ l)=true:=by rw[nC];exact cS nd l
@[simp] theorem C6(l:List Exp):cC 6 (eq l)=true:=by rw[eM];exact cS fR l
@[simp] theorem C7(l:List bN):cC 3 (dk l)=true:=by rw[cE];exact cS fl l
@[simp] theorem C8(l:List Fun):cC 12 (l.map Fun.av)=true:=cS j0 l
@[simp] theorem Da(l:List Mod):cC 9 (l.map Mod.av)=true:=cS iA l
def mO{T:TT}{t e:Nat}{ti ei:TI}(ht:T t=some ti)(hk:ti.kind= .slice e)(he:T e=some ei){α:Type}{f:α->AV}(hs:∀x,cq (f x)=some ei.size){l:List α}{i:Nat}{x:α}(h:l[i]? = some x):
  ak T t (.sl (l.map f)) (.int .i64 (i:Int))=some (.ip (ab (f x))):=by
 unfold ak;rw[ht];simp only[hk,he];rw[if_neg (by omega)];have:(l.map f)[(i:Int).toNat]? = some (f x):=by rw[GZ,HU,h];rfl
 rw[this];simp only;rw[GR (hs x)]
def cF{T:TT}{t e:Nat}{ti ei:TI}(ht:T t=some ti)(hk:ti.kind= .slice e)(he:T e=some ei){α:Type}[Inhabited α]{f:α->AV}(hs:∀x,cq (f x)=some ei.size){l:List α}{n:Int}(h0:0<=n)(h:n<(l.length:Int)):
  ak T t (.sl (l.map f)) (.int .i64 n)=some (.ip (ab (f l[n.toNat]!))):=by
 have hlt:n.toNat<l.length:=by omega
 have:=mO ht hk he hs (l:=l) (i:=n.toNat) (x:=l[n.toNat]!) (by rw[Ic,Ha hlt];rfl)
 rw[show ((n.toNat:Nat):Int)=n by omega]at this;exact this
def jF{T:TT}{t e:Nat}{ti ei:TI}(ht:T t=some ti)(hk:ti.kind= .slice e)(he:T e=some ei){α:Type}{f:α->AV}(hs:∀x,cf ei.size (f x)=true){a b:List α}(h:(a.length+b.length)*ei.bytes<=140737488355328)(h0:0<ei.bytes):
  dz T t (.sl (a.map f)) (.sl (b.map f))=some (.sl ((a++b).map f)):=by
 unfold dz;rw[ht];simp only[hk,he,fw];rw[cS hs,cS hs];simp[h,h0,iE]
def dS(l:List Ty):AV:=.sl (l.map Ty.av)
structure Sig where
 name:bn
 params:List Ty
 result:Ty
 effects:Int
 deriving Inhabited
structure Face where
 module:bn
 funcs:List Sig
 deriving Inhabited
structure Vsn where
 major:Int
 minor:Int
 patch:Int
 deriving Inhabited,DecidableEq
def Sig.cells(s:Sig):List AV:=[.str s.name,dS s.params,.int .i64 s.result.kind,aB s.result.fields,.int .i64 s.effects]
def Sig.av(s:Sig):AV:=.agg s.cells
def sigs(l:List Sig):AV:=.sl (l.map Sig.av)
def Face.cells(f:Face):List AV:=[.str f.module,sigs f.funcs]
def Face.av(f:Face):AV:=.agg f.cells
def faces(l:List Face):AV:=.sl (l.map Face.av)
def Vsn.av(v:Vsn):AV:=.agg [.int .i64 v.major,.int .i64 v.minor,.int .i64 v.patch]
@[simp] theorem cV(s:Sig):ab s.av=[.str s.name,dS s.params,.int .i64 s.result.kind,aB s.result.fields,.int .i64 s.effects]:=rfl
@[simp] theorem cz(f:Face):ab f.av=[.str f.module,sigs f.funcs]:=rfl
@[simp] theorem Bo(v:Vsn):ab v.av=[.int .i64 v.major,.int .i64 v.minor,.int .i64 v.patch]:=rfl
@[simp] theorem fN(s:Sig):AV.agg [.str s.name,dS s.params,.int .i64 s.result.kind,aB s.result.fields,.int .i64 s.effects]=s.av:=rfl
@[simp] theorem gg(f:Face):AV.agg [.str f.module,sigs f.funcs]=f.av:=rfl
@[simp] theorem Ei(v:Vsn):AV.agg [.int .i64 v.major,.int .i64 v.minor,.int .i64 v.patch]=v.av:=rfl
@[simp] theorem gI(t:Ty):cf 2 t.av=true:=by simp[cf,bc,aB]
@[simp] theorem EC(l:List Ty):cC 2 (l.map Ty.av)=true:=cS gI l
@[simp] theorem EN(s:Sig):cq s.av=some 5:=rfl
@[simp] theorem Di(s:Face):cq s.av=some 2:=rfl
@[simp] theorem EP(s:Vsn):cq s.av=some 3:=rfl
@[simp] theorem na(s:Sig):cf 5 s.av=true:=by simp[cf,bc,aB,dS]
@[simp] theorem kT(s:Face):cf 2 s.av=true:=by simp[cf,bc,sigs]
@[simp] theorem EB(s:Vsn):cf 3 s.av=true:=rfl
@[simp] theorem Dc(l:List Sig):cC 5 (l.map Sig.av)=true:=cS na l
@[simp] theorem Cy(l:List Face):cC 2 (l.map Face.av)=true:=cS kT l
@[simp] theorem sH(g:Nat->Nat->Nat->Nat->Bool->AV)(l:List Ty):cl g (dS l)=dS l:=by simp[dS,cl,dH g Ty.av (lr g)]
@[simp] theorem xv(g:Nat->Nat->Nat->Nat->Bool->AV)(s:Sig):cl g s.av=s.av:=by unfold Sig.av Sig.cells;simp only[cl,c5,sH,pB]
@[simp] theorem zw(g:Nat->Nat->Nat->Nat->Bool->AV)(l:List Sig):cl g (sigs l)=sigs l:=by simp[sigs,cl,dH g Sig.av (xv g)]
@[simp] theorem gA(g:Nat->Nat->Nat->Nat->Bool->AV)(s:Face):cl g s.av=s.av:=by unfold Face.av Face.cells;simp only[cl,c5,zw]
@[simp] theorem xp(g:Nat->Nat->Nat->Nat->Bool->AV)(l:List Face):cl g (faces l)=faces l:=by simp[faces,cl,dH g Face.av (gA g)]
@[simp] theorem FM(g:Nat->Nat->Nat->Nat->Bool->AV)(s:Vsn):cl g s.av=s.av:=by unfold Vsn.av;simp only[cl,c5]
@[simp] theorem Fb(v:Ty):aH (M.pure v.av)=M.pure v.av:=bH fun g=>lr g v
@[simp] theorem Es(v:Sig):aH (M.pure v.av)=M.pure v.av:=bH fun g=>xv g v
@[simp] theorem C2(v:Face):aH (M.pure v.av)=M.pure v.av:=bH fun g=>gA g v
end Go.Av.Ap
namespace Go.Av
open Go.Av.Ap
def Aj:Nat->AV->Bool
 |0,_=>false
 |d+1,.agg [.int .i64 _,.sl fs]=>decide (fs.length<=100)&&fs.all fun f=>match f with
  |.agg [.str _,.int .i64 k,.sl gs]=>Aj d (.agg [.int .i64 k,.sl gs])
  |_=>false
 |_,_=>false
def iJ:(FuncId->List AV->M AV)->List AV->M AV:=fun _ args=>match args with
 |[v]=>af (bif Aj 5 v then some v else none)
 |_=>M.fail
def rC:Nat->Ty->Prop
 |0,_=>False
 |d+1,t=>t.fields.length<=100/\∀f∈t.fields,rC d f.2
theorem yd:∀(d:Nat)(t:Ty),rC d t->rC (d+1) t
 |0,_,h=>h.elim
 |d+1,_t,h=>⟨h.1,fun f hf=>yd d f.2 (h.2 f hf)⟩
theorem yP:∀(d:Nat)(t:Ty),rC d t->Aj d t.av=true
 |0,_,h=>h.elim
 | d+1,t,h=>by
  cases t with
  |mk k fs=>
   show Aj (d+1) (.agg [.int .i64 k,.sl (dk fs)])=true;simp only[Aj,GO,G0,GT];refine⟨by rw[cE,HS];exact h.1,fun v hv=>?_⟩;rw[cE]at hv;obtain⟨f,hf,rfl⟩:=HV.1 hv;rw[fM];show Aj d (.agg [.int .i64 f.2.kind,.sl (dk f.2.fields)])=true
   have:=yP d f.2 (h.2 f hf)
   cases hf2:f.2 with
   |mk k2 gs=>rw[hf2]at this;exact this
theorem mF{α β:Type}{f:β->α}{P:β->Prop}:(l:List α)->(∀a∈l,∃b,a=f b/\P b)->∃m:List β,l=m.map f/\∀b∈m,P b
 |[],_=>⟨[],rfl,by simp⟩
 |a:: l,h=>by
  obtain⟨b,rfl,hb⟩:=h a HG;obtain⟨m,rfl,hm⟩:=mF l fun a ha=>h a (HE _ ha);exact⟨b:: m,rfl,fun c hc=>by rcases Hg.1 hc with rfl|hc;exact hb;exact hm c hc⟩
theorem r5:∀(d:Nat)(v:AV),Aj d v=true->∃t:Ty,v=t.av/\rC d t
 |0,_,h=>by cases h
 | d + 1,v,h=>by
  unfold Aj at h;split at h
  ·cases h
  ·rename_i k fs e;obtain rfl:=Nat.succ.inj e;simp only[GO,G0,GT]at h;have key:∀a∈fs,∃f:bN,a=a7 f/\rC d f.2:=by
    intro a ha;have h2:=h.2 a ha;split at h2
    ·rename_i n k' gs;obtain⟨t,h3,h4⟩:=r5 d _ h2;refine⟨(n,t),?_,h4⟩;rw[fM];have h5:t.av= .agg [.int .i64 t.kind,aB t.fields]:=by cases t;rfl
     rw[h5]at h3;simp only[AV.agg.injEq,IY,Jw]at h3;rw[<- h3.1,<- h3.2]
    ·cases h2
   obtain⟨m,rfl,hm⟩:=mF fs key;refine⟨.mk k m,?_,?_,hm⟩
   ·show _=AV.agg [.int .i64 k,.sl (dk m)];rw[cE]
   ·have:=h.1
    rw[HS]at this;exact this
  ·cases h
end Go.Av
namespace Go.Av
variable [Dr]
section
variable {c:Entry} {N:Nat} {U:Nat->Prop} {e:Env} {h:Hp} {a:Act} {w:World} {S:ay} {β:List bj} {γ:Nat->Value} {lam:Nat->Option Nat} {ω:Nat->Owner}
theorem FR.dead(H:FR c N U e h a w S β γ lam ω){l b:Nat}(hd:∀cs,h[l]? = some cs->cs=[])(hb:ω b= .heap l)(hS:∀o,S b o=none){w':World}(hg:Gro w w')(hsz:w'.heap.size=w.heap.size)(hold:∀k,k≠b->w'.heap[k]? = w.heap[k]?):
  FR c N U e h a w' S β γ lam ω:=by
 have hωb:∀k,ω k≠.heap l->k≠b:=fun k hk=>by rintro rfl;exact hk hb
 have hother:∀k,ω k≠.heap l->w'.heap[k]? = w.heap[k]?:=fun k hk=>hold k (hωb k hk);refine⟨fun k o v hv=>?_,H.gro.trans hg,fun k hk hE=>?_,H.le,H.ext,H.hlen,?_,H.tsz,H.slots,H.grps,?_,?_,fun k hk=>⟨(H.mine k hk).1,by rw[hsz];exact (H.mine k hk).2⟩,H.used⟩
 ·have hkb:k≠b:=by rintro rfl;rw[hS]at hv;cases hv
  rw[cell_of_heap (hold k hkb)];exact H.wf k o v hv
 ·have hkb:k≠b:=by
   rintro rfl
   have:=(H.mine k (by rw[hb];simp)).1.low
   rcases this with h|h
   ·exact hE h
   ·omega
  have:=H.keep k hk hE
  exact⟨by rw[hold k hkb];exact this.1,this.2⟩
 ·refine H.heap.rows (ay.le_refl S) (eG.refl β) H.hlen fun j ds hj hne=>.inl ⟨hj,fun k _ ho=>⟨ho,hother k ?_,fun o h=>h⟩⟩;rw[ho];simp only[Jb,Owner.heap.injEq];rintro rfl;exact hne (hd ds hj)
 ·intro B n hB;obtain⟨k1,k2,k3,k,z,k4,k5,k6,k7,k8⟩:=H.lblk B n hB;exact⟨k1,k2,k3,k,z,k4,k5.of_eq (hother k (by rw[k6];simp)),k6,k7,k8⟩
 ·intro g z hg;obtain⟨a',len,cap,g1,g2,g3,g4⟩:=H.free g z hg;refine⟨a',len,cap,g1,g2,g3,g4.imp id ?_⟩;rintro⟨sz,k,off,z',k1,k2,k3,k4,k5,k6⟩;exact⟨sz,k,off,z',k1,k2,k3.of_eq (hother k (by rw[k5];simp)),k4,k5,k6⟩
end
section
variable {S:ay} {β:List bj} {h:Hp} {w:World}
theorem FR.cpost{e:Env}{h':Hp}{a:Act}{N:Nat}{U:Nat->Prop}{w':World}{S':ay}{β':List bj}{γ:Nat->Value}{lam:Nat->Option Nat}{ω:Nat->Owner}{hg:nH β h w}(F:FR { w,S,β,E:=b9 β h,gok:=hg } N U e h' a w' S' β' γ lam ω){r:AV}{v:Value}(hv:VR S' β' r v):
  c9 none S β h w (.ok r h') (.returned v) w':=⟨S',β',v,rfl,hv,F.out,fun sz hsz=>by cases hsz⟩
theorem sK(hg:nH β h w)(hw:Wf S w)(hh:cy S β w h){l b n:Nat}{cs cs':List AV}{x y:Array Value}(hl:h[l]? = some cs)(hne:cs≠[])(hb:β[l]? = some (b,n))(hrow:Row w b x)(hys:y.size=x.size)(hcs:aY S β cs' (y.toList.take cs'.length))(htag:∀t,cm t cs'->cm t cs):c9 none S β h w (.ok (.tup []) (h.set l cs')) (.returned (.tuple #[])) (w.setRow b y):=by
 obtain⟨γ,lam,ω,F⟩:=tz (args:=[]) (vs:=[]) (n:=0) hg hw hh (by simp[aY]) (GQ _) (by omega);exact (F.turnH hl hne ⟨n,hb⟩ hrow hys hcs htag).cpost (by simp only[VR];exact⟨[],rfl,by simp[aY]⟩)
theorem sJ(hg:nH β h w)(hw:Wf S w)(hh:cy S β w h){l b n:Nat}{cs:List AV}(hl:h[l]? = some cs)(hne:cs≠[])(hb:β[l]? = some (b,n)){w':World}(hgr:Gro w w')(hsz:w'.heap.size=w.heap.size)(hold:∀k,k≠b->w'.heap[k]? = w.heap[k]?){r:AV}{v:Value}(hv:VR S β r v):c9 none S β h w (.ok r (h.set l [])) (.returned v) w':=by
 obtain⟨γ,lam,ω,F⟩:=tz (args:=[]) (vs:=[]) (n:=0) hg hw hh (by simp[aY]) (GQ _) (by omega);obtain⟨b',n',k1,k2,k3,k4⟩:=F.heap.own hl hne;rw[hb]at k1;simp only[GN,HB]at k1;obtain⟨rfl,rfl⟩:=k1;refine ((F.killH l).dead (l:=l) (fun cs' h'=>?_) k3 k4 hgr hsz hold).cpost hv;rw[H1]at h';simp only[Hn]at h';split at h'
 ·simpa using h'.symm
 ·cases h'
end
end Go.Av
namespace Go.Av
variable [Dr]
theorem ic{P:Program}{cx:Cx}{own:Option Nat}(hT:TOK P cx.T)(hC:cr P cx.own cx.call)(hI:IsoCall cx){f:FuncId}{fn:Func}(hf:P.funcs[f]? = some fn)(hnt:cx.nt=fn.ntmps){E:List AV->Hp->R AV}(h0:∀h,E [] h= .ok (.sl []) h)(h1:∀e es h,bX cx (ct 0) fn own [.sl (e:: es)] h=E (e:: es) h)(h2:∀h,bX cx (ct 0) fn own [.hn] h= .ok (.sl []) h)(h3:∀l off h,bX cx (ct 0) fn own [.hs l off 0 1 false] h= .ok (.sl []) h){es:List AV}{h:Hp}{S:ay}{β:List bj}{w:World}{vs:List Value}(hr:E es h≠.fail)(hg:nH β h w)(hw:Wf S w)(hh:cy S β w h)(hv:aY S β [.sl es] vs):Calls P f vs.toArray w (c9 own S β h w (E es h))/\fn.body.isSome=true:=by
 cases es with
 |cons e es=>
  rw[<- h1]at hr |-;exact fK hT hC hI 0 hf hnt hr hg hw hh hv
 | nil=>
  rw[h0];simp only[aY]at hv;obtain⟨v,_,rfl,hv,rfl⟩:=hv;have hv0:=hv;simp only[VR]at hv;obtain⟨a,cap,rfl,hc,hn,hq⟩:=hv;cases a with
  |none=>
   have hcap:=hn rfl;subst hcap;have hv2:aY S β [.hn] [.slice none ([]:List AV).length 0]:=by simp[aY,VR]
   have:=fK (own:=own) hT hC hI 0 hf hnt (args:=[.hn]) (h:=h) (by rw[h2];simp) hg hw hh hv2
   rw[h2]at this;exact this
  | some q=>
   obtain⟨hs,_⟩:=hq q rfl;have hX:cy S [(q.block,q.off+cap)] w [[]]:=⟨rfl,fun _=>.no,fun l cs hl hne=>by
    cases l with
    |zero=>simp at hl;exact absurd hl hne
    |succ l=>simp at hl⟩
   have hE:∀b,¬b9 [(q.block,q.off+cap)] [[]] b:=by
    rintro b ⟨l,cs,n,k1,k2,_⟩;cases l with
    |zero=>simp at k1;exact k2 k1
    |succ l=>simp at k1
   have hv2:aY S [(q.block,q.off+cap)] [.hs 0 q.off 0 1 false] [.slice (some q) ([]:List AV).length cap]:=by
    simp only[aY,VR];rcases HD cap with h0|h0
    ·subst h0;exact⟨_,_,rfl,.inr ⟨trivial,q,rfl⟩,rfl⟩
    ·have hq':q=⟨q.block,q.off,none⟩:=by
      have:=hs h0
      cases q;simp_all
     exact⟨_,_,rfl,.inl ⟨(q.block,q.off+cap),cap,rfl,(by show q.off+cap≠0;omega),by rw[<- hq'];rfl,Hi _,by simp⟩,rfl⟩
   have:=fK (own:=own) hT hC hI 0 hf hnt (args:=[.hs 0 q.off 0 1 false]) (h:=[[]]) (by rw[h3];simp) ⟨hg.1,fun b _=>hE b⟩ hw hX hv2
   rw[h3]at this;refine⟨this.1.mono fun en w' hp=>?_,this.2⟩;obtain⟨S',β',v,k1,k2,k3,k4⟩:=hp;obtain⟨S2,j1,j2,j3⟩:=t8 hw hh hE k3;exact⟨S2,β,v,k1,j2 (.sl []) v k2,j1,fun sz hsz=>j3 sz v (k4 sz hsz)⟩
end Go.Av
namespace Go.Av
attribute [simp] aK aF xe uM
@[simp] theorem aR{α:Type}(b:Bool)(x y:M α):aw (.bool b) x y=if b=true then x else y:=by cases b<;>rfl
def gv(b w:Bool)(y:AV):AV:=bif b== w then y else .tup []
@[simp] theorem Gk(y:AV):gv false false y=y:=rfl
@[simp] theorem Gn(y:AV):gv true true y=y:=rfl
@[simp] theorem Gl(y:AV):gv false true y= .tup []:=rfl
@[simp] theorem Gm(y:AV):gv true false y= .tup []:=rfl
@[simp high] theorem zI(b w:Bool)(y:AV):ar (.bool b) w 1 (M.pure [y])=M.pure [gv b w y]:=by cases b<;>cases w<;>rfl
@[simp high] theorem CZ(b w c w2:Bool)(y:AV):ar (gv b w (.bool c)) w2 1 (M.pure [y])=M.pure [gv b w (gv c w2 y)]:=by cases b<;>cases w<;>cases c<;>cases w2<;>rfl
@[simp high] theorem C0(b w c e:Bool):ar (.bool b) w 1 (ae (af (aG (gv b w (.bool c)) (.bool true) (gv b w (gv c false (.bool e))))) fun v=>M.pure [v])=M.pure [gv b w (.bool (c||e))]:=by
 cases b<;>cases w<;>cases c<;>rfl
@[simp high] theorem Cj(b w c e:Bool):ar (.bool b) w 1 (ae (af (aG (gv b w (.bool c)) (gv b w (gv c true (.bool e))) (.bool false))) fun v=>M.pure [v])=M.pure [gv b w (.bool (c&&e))]:=by
 cases b<;>cases w<;>cases c<;>rfl
@[simp high] theorem Df(b c:Bool):aG (.bool b) (gv b true (.bool c)) (.bool false)=some (.bool (b&&c)):=by cases b<;>rfl
@[simp high] theorem EF(b c:Bool):aG (.bool b) (.bool true) (gv b false (.bool c))=some (.bool (b||c)):=by cases b<;>rfl
@[simp] theorem zJ(w:Bool)(n:Nat)(m:M (List AV)):ar (.bool !w) w n m=M.pure (List.replicate n (.tup [])):=by cases w<;>rfl
@[simp] theorem dI(w:Bool)(n:Nat)(m:M (List AV)):ar (.bool w) w n m=m:=by cases w<;>rfl
@[simp] theorem vr(n:Nat)(m:M (List AV)):ar (.bool false) true n m=M.pure (List.replicate n (.tup [])):=rfl
@[simp] theorem C1(n:Nat)(m:M (List AV)):ar (.bool true) false n m=M.pure (List.replicate n (.tup [])):=rfl
@[simp] theorem Ck(w:Bool)(n:Nat)(m:M (List AV)):ar (.tup []) w n m=M.pure (List.replicate n (.tup [])):=rfl
@[simp] theorem fT(x y:AV):aG (.bool true) x y=some x:=rfl
@[simp] theorem lK(x y:AV):aG (.bool false) x y=some y:=rfl
@[simp] theorem aZ(x:AV)(l:List AV):nth (x:: l) 0=x:=rfl
@[simp] theorem be(x:AV)(l:List AV)(n:Nat):nth (x:: l) (n+1)=nth l n:=rfl
@[simp] theorem FV{α:Type}(k:List AV->M α)(m:(List AV->M α)->M α):jn k m=m k:=rfl
@[simp] theorem dB{α:Type}(a:α):cR (M.pure a)=M.pure a:=rfl
@[simp] theorem gP(b:Bool):dW .not (.bool b)=some (.bool !b):=rfl
@[simp] theorem jM(l:List AV)(i:Nat):ax (.tup l) i=l[i]?:=rfl
@[simp] theorem A8:True:=trivial
@[simp] theorem Cu(l k:Nat):ck (.hp l k)=some (.hp l k):=rfl
@[simp] theorem Cv(cs:List AV):ck (.ip cs)=some (.ip cs):=rfl
@[simp] theorem eI(s:List UInt8):ab (.str s)=[.str s]:=rfl
@[simp] theorem Bm(k:IntKind)(n:Int):ab (.int k n)=[.int k n]:=rfl
@[simp] theorem md(cs:List AV):ab (.agg cs)=cs:=rfl
@[simp] theorem dF(T:TT)(t:Nat)(a b:Int):am T .add t (.int .i64 a) (.int .i64 b)=some (.int .i64 (IntKind.i64.wrap (a+b))):=rfl
@[simp] theorem tO(T:TT)(t:Nat)(a b:Int):am T .sub t (.int .i64 a) (.int .i64 b)=some (.int .i64 (IntKind.i64.wrap (a-b))):=rfl
@[simp] theorem E5(T:TT)(t:Nat)(a b:Int):am T .mul t (.int .i64 a) (.int .i64 b)=some (.int .i64 (IntKind.i64.wrap (a*b))):=rfl
@[simp] theorem bF(T:TT)(t:Nat)(a b:Int):am T .lss t (.int .i64 a) (.int .i64 b)=some (.bool (decide (a<b))):=rfl
@[simp] theorem lZ(T:TT)(t:Nat)(a b:Int):am T .leq t (.int .i64 a) (.int .i64 b)=some (.bool (decide (a<=b))):=rfl
@[simp] theorem E4(T:TT)(t:Nat)(a b:Int):am T .gtr t (.int .i64 a) (.int .i64 b)=some (.bool (decide (b<a))):=rfl
@[simp] theorem px(T:TT)(t:Nat)(a b:Int):am T .geq t (.int .i64 a) (.int .i64 b)=some (.bool (decide (b<=a))):=rfl
@[simp] theorem E3(T:TT)(t:Nat)(a b:Int):am T .eql t (.int .i64 a) (.int .i64 b)=some (.bool (a== b)):=rfl
@[simp] theorem py(T:TT)(t:Nat)(a b:Int):am T .neq t (.int .i64 a) (.int .i64 b)=some (.bool (a != b)):=rfl
@[simp] theorem iT(T:TT)(t:Nat)(a b:List UInt8):am T .eql t (.str a) (.str b)=some (.bool (a== b)):=rfl
@[simp] theorem Fi(T:TT)(t:Nat)(a b:List UInt8):am T .neq t (.str a) (.str b)=some (.bool !(a== b)):=rfl
@[simp] theorem Fh(T:TT)(t:Nat)(a b:List UInt8):am T .lss t (.str a) (.str b)=some (.bool (aU a b)):=rfl
@[simp] theorem Ff(T:TT)(t:Nat)(a b:List UInt8):am T .geq t (.str a) (.str b)=some (.bool !(aU a b)):=rfl
@[simp] theorem bG{n:Nat}{x:AV}(h:cf n x=true):aC n x=M.pure (.agg (ab x)):=by
 unfold aC gy;rw[h];rfl
@[simp] theorem aM{n:Nat}{x:AV}(h:cf n x=true):ao n [] x=M.pure (.agg (ab x)):=by
 unfold ao gy;rw[h];rfl
@[simp] theorem C4(b:Bool)(x:AV):gV b [x]=some x:=by simp[gV]
@[simp] theorem C5(b:Bool)(a c:Int):gV b [.int .i64 a,.int .i64 c]=some (.int .i64 (if b=true then max a c else min a c)):=by
 cases b
 ·simp only[gV,ye,GV];congr 2;simp only[Int.min_def];split<;>split<;>simp_all<;>omega
 ·simp only[gV,ye,GP];congr 2;simp only[Int.max_def];split<;>split<;>simp_all<;>omega
def ff{x:Int}(h1:-9223372036854775808<=x)(h2:x<=9223372036854775807):IntKind.i64.wrap x=x:=IntWalk.i64_in _ ⟨h1,h2⟩
def yS{n:Nat}(h:n<=4611686018427387904):IntKind.i64.wrap (n:Int)=(n:Int):=IntWalk.i64_in _ (by omega)
def aS{n:Nat}(h:n<=4611686018427387904):IntKind.i64.wrap ((n:Int)+1)=((n+1:Nat):Int):=by
 rw[IntWalk.i64_in _ (by omega)];omega
def pj{n:Nat}(h:n<=4611686018427387904):IntKind.i64.wrap (((n+1:Nat):Int)-1)=(n:Int):=by
 rw[IntWalk.i64_in _ (by omega)];omega
namespace Ap
mutual
def Val.sz:Val->Nat
 |.mk _ _ ns vs=>1+ns.length+yQ vs
def yQ:List Val->Nat
 |[]=>0
 |v:: vs=>v.sz+yQ vs
end
end Ap
end Go.Av
namespace Go.Av
def bY{α:Type}(F:α->Bool):List α->Int->Int
 |[],_=>-1
 |x:: l,i=>if F x=true then i else bY F l (i+1)
theorem ri{α:Type}(F:α->Bool):(l:List α)->(i:Int)->0<=i->(0<=bY F l i↔l.any F=true)
 |[],i,_=>by simp[bY]
 |x:: l,i,h=>by
  simp only[bY];split
  ·rename_i hx;simp[hx,h]
  ·rename_i hx;rw[ri F l (i+1) (by omega)];simp[hx]
def kK{α:Type}(F:α->Bool)(l:List α):decide (0<=bY F l 0)=l.any F:=by
 have:=ri F l 0 (by omega)
 cases h:l.any F with
 |true=>simp[this.2 h]
 |false=>simp only[Ie];intro hh;rw[this.1 hh]at h;cases h
@[simp] theorem A9(a b:Nat):((a:Int)== (b:Int))=(a== b):=by rw[Ij];simp;omega
@[simp] theorem z6(a:Nat):((a:Int)== 0)=(a== 0):=by rw[Ij];simp
@[simp] theorem Ba(a b:Nat):((a:Int) != (b:Int))=(a != b):=by rw[Ij];simp;omega
def fA{α β:Type}(F:α->β->Bool):List α->List β->Bool
 |x:: l,y:: r=>F x y&&fA F l r
 |[],[]=>true
 |_,_=>false
theorem ln{α β:Type}(F:α->β->Bool):(a:List α)->(b:List β)->a.length≠b.length->fA F a b=false
 |[],[],h=>absurd rfl h
 |[],_:: _,_=>rfl
 |_:: _,[],_=>rfl
 |x:: a,y:: b,h=>by
  have:=ln F a b (by simpa using h)
  simp[fA,this]
end Go.Av
namespace Go.Av
open Ap
@[simp high] theorem B5(x:Val):aC 4 (Val.av x)=M.pure (Val.av x):=by rw[bG (nd x),mf,q9]
@[simp high] theorem zo(x:Val):ao 4 [] (Val.av x)=M.pure (Val.av x):=by rw[aM (nd x),mf,q9]
@[simp high] theorem BV(x:Exp):aC 6 (Exp.av x)=M.pure (Exp.av x):=by rw[bG (fR x),bA,c8]
@[simp high] theorem zj(x:Exp):ao 6 [] (Exp.av x)=M.pure (Exp.av x):=by rw[aM (fR x),bA,c8]
@[simp high] theorem sF(x:bN):aC 3 (a7 x)=M.pure (a7 x):=by rw[bG (fl x),cg,ew]
@[simp high] theorem zk(x:bN):ao 3 [] (a7 x)=M.pure (a7 x):=by rw[aM (fl x),cg,ew]
@[simp high] theorem BW(x:Fun):aC 12 (Fun.av x)=M.pure (Fun.av x):=by rw[bG (j0 x),gq,io]
@[simp high] theorem zl(x:Fun):ao 12 [] (Fun.av x)=M.pure (Fun.av x):=by rw[aM (j0 x),gq,io]
@[simp high] theorem BX(x:Mod):aC 9 (Mod.av x)=M.pure (Mod.av x):=by rw[bG (iA x),ba,iq]
@[simp high] theorem zm(x:Mod):ao 9 [] (Mod.av x)=M.pure (Mod.av x):=by rw[aM (iA x),ba,iq]
@[simp high] theorem AX(x:Vars):aC 2 (Vars.av x)=M.pure (Vars.av x):=by rw[bG (oV x),lj,oJ]
@[simp high] theorem yX(x:Vars):ao 2 [] (Vars.av x)=M.pure (Vars.av x):=by rw[aM (oV x),lj,oJ]
@[simp high] theorem AW(x:Deed):aC 3 (Deed.av x)=M.pure (Deed.av x):=by rw[bG (oU x),li,oI]
@[simp high] theorem yW(x:Deed):ao 3 [] (Deed.av x)=M.pure (Deed.av x):=by rw[aM (oU x),li,oI]
@[simp high] theorem AU(x:Ap.Call):aC 3 (Ap.Call.av x)=M.pure (Ap.Call.av x):=by rw[bG (oT x),lh,oH]
@[simp high] theorem yV(x:Ap.Call):ao 3 [] (Ap.Call.av x)=M.pure (Ap.Call.av x):=by rw[aM (oT x),lh,oH]
@[simp high] theorem BZ(x:Ap.Out):aC 8 (Ap.Out.av x)=M.pure (Ap.Out.av x):=by rw[bG (rH x),me,q8]
@[simp high] theorem zn(x:Ap.Out):ao 8 [] (Ap.Out.av x)=M.pure (Ap.Out.av x):=by rw[aM (rH x),me,q8]
@[simp] theorem gI(t:Ty):cf 2 t.av=true:=by simp[cf,bc,aB]
@[simp high] theorem dG(x:Ty):aC 2 (Ty.av x)=M.pure (Ty.av x):=by rw[bG (gI x),bw,cb]
@[simp high] theorem hM(x:Ty):ao 2 [] (Ty.av x)=M.pure (Ty.av x):=by rw[aM (gI x),bw,cb]
end Go.Av
namespace Go.Av
@[simp] theorem yY(c:Prop)[Decidable c](a b:Bool):(if c then(M.pure (.bool a):M AV)else M.pure (.bool b))=M.pure (.bool (if c then a else b)):=by split<;>rfl
@[simp] theorem zK(c:Prop)[Decidable c](a b:Int):(if c then(M.pure (.int .i64 a):M AV)else M.pure (.int .i64 b))=M.pure (.int .i64 (if c then a else b)):=by split<;>rfl
def pM{F:(List AV->M AV)->List AV->M AV}(hF:∀vs,aj F vs=F (aj F) vs)(st:Nat->List AV)(n:Nat)(G:Nat->Bool)(hend:F (aj F) (st n)=M.pure (.bool true))(hstep:∀k,k<n->F (aj F) (st k)=if G k=true then aj F (st (k+1))else M.pure (.bool false)):
  ∀k,k<=n->aj F (st k)=M.pure (.bool ((List.range' k (n-k)).all G)):=by
 have key:∀r k,n-k=r->k<=n->aj F (st k)=M.pure (.bool ((List.range' k r).all G)):=by
  intro r
  induction r with
  |zero=>
   intro k hr hk;obtain rfl:k=n:=by omega
   rw[hF,hend];rfl
  |succ r ih=>
   intro k hr hk;rw[hF,hstep k (by omega),ih (k+1) (by omega) (by omega)];simp only[I7,HY];cases G k<;>rfl
 exact fun k hk=>key (n-k) k rfl hk
def sg{α:Type}[Inhabited α](P:α->Bool)(l:List α):(List.range' 0 l.length).all (fun k=>P l[k]!)=l.all P:=by
 rw[Ij];simp only[GT,Jm];constructor
 ·intro h x hx;obtain⟨i,hi,rfl⟩:=List.getElem_of_mem hx
  have:=h i ⟨Hi _,by omega⟩
  rwa [Hd l i hi]at this
 ·intro h k hk;have hk':k<l.length:=by omega
  rw[Hd l k hk'];exact h _ (GY hk')
theorem mh{α β:Type}[Inhabited α][Inhabited β](P:α->β->Bool):(a:List α)->(b:List β)->a.length=b.length->(List.range' 0 a.length).all (fun k=>P a[k]! b[k]!)=fA P a b
 |[],[],_=>rfl
 | x:: a,y:: b,h=>by
  have ih:=mh P a b (by simpa using h);simp only[G4,I7,HY,fA];congr 1;rw[<- ih];rw[Ij];simp only[GT,Jm];constructor
  ·intro h k hk
   have:=h (k+1) (by omega)
   simpa using this
  ·intro h k hk;obtain⟨j,rfl⟩:∃j,k=j+1:=⟨k-1,by omega⟩;simpa using h j (by omega)
 |[],_:: _,h=>by simp at h
 |_:: _,[],h=>by simp at h
end Go.Av
namespace Go.Av.Ap
open Go Go.Av
def Val.limN:Nat->Val->Prop
 |0,_=>True
 |n+1,v=>v.names.length<=140737488355328/\v.values.length<=140737488355328/\∀x∈v.values,x.limN n
def Val.Lim(v:Val):Prop:=∀n,v.limN n
def Exp.limN:Nat->Exp->Prop
 |0,_=>True
 |n+1,v=>v.names.length<=8796093022208/\v.args.length<=140737488355328/\∀x∈v.args,x.limN n
def Exp.Lim(v:Exp):Prop:=∀n,v.limN n
def Ty.limN:Nat->Ty->Prop
 |0,_=>True
 |n+1,v=>v.fields.length<=140737488355328/\∀x∈v.fields,x.2.limN n
def Ty.Lim(v:Ty):Prop:=∀n,v.limN n
def Val.Lim.names{v:Val}(h:v.Lim):v.names.length<=140737488355328:=(h 1).1
def Val.Lim.len{v:Val}(h:v.Lim):v.values.length<=140737488355328:=(h 1).2.1
def Val.Lim.kid{v:Val}(h:v.Lim){x:Val}(hx:x∈v.values):x.Lim:=fun n=>(h (n+1)).2.2 x hx
def Exp.Lim.names{v:Exp}(h:v.Lim):v.names.length<=8796093022208:=(h 1).1
def Exp.Lim.len{v:Exp}(h:v.Lim):v.args.length<=140737488355328:=(h 1).2.1
def Exp.Lim.kid{v:Exp}(h:v.Lim){x:Exp}(hx:x∈v.args):x.Lim:=fun n=>(h (n+1)).2.2 x hx
def Ty.Lim.len{v:Ty}(h:v.Lim):v.fields.length<=140737488355328:=(h 1).1
def Ty.Lim.kid{v:Ty}(h:v.Lim){x:bN}(hx:x∈v.fields):x.2.Lim:=fun n=>(h (n+1)).2 x hx
structure Fun.Lim (f:Fun):Prop where
 params:f.params.length<=140737488355328
 pty:∀x∈f.params,x.2.Lim
 result:f.result.Lim
 body:f.body.Lim
structure Mod.Lim (m:Mod):Prop where
 uses:m.uses.length<=140737488355328
 vars:m.vars.length<=140737488355328
 vty:∀x∈m.vars,x.2.Lim
 init:m.init.length<=140737488355328
 ies:∀e∈m.init,e.Lim
 funcs:m.funcs.length<=140737488355328
 fns:∀f∈m.funcs,f.Lim
 old:m.old.length<=140737488355328
 oty:∀x∈m.old,x.2.Lim
 forward:m.forward.length<=140737488355328
 fes:∀e∈m.forward,e.Lim
 back:m.back.length<=140737488355328
 bes:∀e∈m.back,e.Lim
end Go.Av.Ap
namespace Go.Av.Ap
open Go Go.Av
section
variable {α:Type} {f:α->AV} {sz:Nat}
def rowOf(f:α->AV)(l:List α):List AV:=(l.map f).flatMap ab
theorem gO(x:α)(l:List α):rowOf f (x:: l)=ab (f x)++rowOf f l:=by simp[rowOf]
theorem eV(hs:∀x,(ab (f x)).length=sz):(l:List α)->(rowOf f l).length=l.length*sz
 |[]=>by simp[rowOf]
 |x:: l=>by rw[gO,Hu,hs,eV hs l,G4,Jq];omega
theorem ef(hs:∀x,(ab (f x)).length=sz):(l:List α)->(i:Nat)->(h:i<l.length)->((rowOf f l).drop (i*sz)).take sz=ab (f l[i])
 |x:: l,0,_=>by
  rw[gO,IE,Hk,JE (hs x)];rfl
 |x:: l,i+1,h=>by
  rw[gO,show (i+1)*sz=(ab (f x)).length+i*sz by rw[hs,Jq];omega,List.drop_append,G6 (by omega),Jz,Hv];simpa using ef hs l i (by simpa using h)
theorem nV{cs xs:List AV}{off:Nat}(h:(cs.drop off).take xs.length=xs):setCells cs off xs=cs:=by
 unfold setCells
 conv=>lhs;rw[<- h]
 rw[HN];have:cs.take off++((cs.drop off).take xs.length++cs.drop (off+((cs.drop off).take xs.length).length))=cs:=by
  rw[h,<- Jh]
  conv=>lhs;rw[show xs++List.drop xs.length (List.drop off cs)=(cs.drop off).take xs.length++List.drop xs.length (List.drop off cs) by rw[h]]
  rw[IJ,IJ]
 exact this
theorem kI(hs:∀x,(ab (f x)).length=sz)(hag:∀x,f x= .agg (ab (f x)))(hcl:∀x g,cl g (f x)=f x)(hz:0<sz){h:Hp}{q:Nat}{l:List α}(hq:h[q]? = some (rowOf f l))(d:Nat):
  fU (d+1) h (.hs q 0 l.length sz true)= .sl (l.map f):=by
 have hlen:=eV (f:=f) hs l;simp only[fU,cl,hq];have h1:(decide (0+l.length*sz<=(rowOf f l).length)&&decide (0<sz)&&(true||(Nat.beq sz 1&&(rowOf f l).all bc)))=true:=by
  simp[hlen,hz]
 rw[h1,GP];congr 1;apply List.ext_getElem
 ·simp
 ·intro i h2 h3;have hi:i<l.length:=by simpa using h2
  simp only[List.getElem_map,List.getElem_range,G5,GP];rw[ef hs l i hi,<- hag];cases d with
  |zero=>exact hcl _ _
  |succ d=>exact hcl _ _
theorem my{T:TT}{t e:Nat}{ti ei:TI}(ht:T t=some ti)(hk:ti.kind= .slice e)(he:T e=some ei)(h4:ei.size=sz)(hag:ei.agg=true)(hb:0<ei.bytes)(hz:0<sz)(hok:∀x,cf sz (f x)=true)(call:FuncId->List AV->M AV)(l:List α)(hc:l.length*ei.bytes<=140737488355328)(h:Hp):
  cW T t call [.sl (l.map f)] h=if l=[]then .ok (.sl []) h else .ok (.hs h.length 0 l.length sz true) (h++[rowOf f l]):=by
 have h1:cC sz (l.map f)=true:=cS hok l;cases l with
 |nil=>simp[cW,appH,ht,hk,he,fw,hb,h4,iE,cC,hz]
 |cons v l=>
  have hne:((v:: l).map f).isEmpty=false:=rfl;unfold cW appH;simp only[ht,hk,he,fw,h4,h1,hb,hz,iE,HF,I6,GP,hne,GV,HS,hag];rw[II hc];simp[rowOf]
end
def oP{T:TT}{t:Nat}{ti:TI}{q off:Nat}{cs:List AV}{h:Hp}(ht:T t=some ti)(hag:ti.agg=true)(hq:h[q]? = some cs)(hle:off+ti.size<=cs.length):bi T t (.hp q off) h= .ok (.agg ((cs.drop off).take ti.size)) h:=by
 simp only[bi,ht,hq,hag,GP];rw[GR hle]
def lQ{T:TT}{t:Nat}{ti:TI}{q off:Nat}{cs:List AV}{v:AV}{h:Hp}(ht:T t=some ti)(hq:h[q]? = some cs)(hok:cf ti.size v=true)(hle:off+ti.size<=cs.length)(h0:0<ti.size)(hsame:(cs.drop off).take (ab v).length=ab v):
  bI T t (.hp q off) v h= .ok (.tup []) h:=by
 simp only[bI,ht,hq,hok,II hle,II h0,I6,GP];rw[nV hsame];congr 1;obtain⟨hlt,hk⟩:=Hc.1 hq;rw[<- hk];exact IK hlt
end Go.Av.Ap
namespace Go.Av.Ap
open Go Go.Av
def l8(b:UInt8):Bool:=decide (97<=b.toNat)&&decide (b.toNat<=122)
def sM(b:UInt8):Bool:=decide (48<=b.toNat)&&decide (b.toNat<=57)
def mi(b:UInt8):Bool:=l8 b||sM b
def lS(s:bn):Bool:=!(s== [])&&l8 (s.headD 0)&&decide (s.length<=20)&&((s.takeWhile mi).length== s.length)
def iR:bn:=[32,97,110,100,32,98,97,99,107,32,98,111,111,108,32,99,108,111,99,107,32,101,108,115,101,32,102,97,108,115,101,32,102,105,108,101,115,32,102,110,32,102,111,114,119,97,114,100,32,103,101,116,32,105,102,32,105,110,32,105,110,116,32,108,101,116,32,109,111,100,117,108,101,32,109,111,118,101,32,110,101,116,32,110,111,116,32,111,114,32,112,117,98,32,115,101,99,114,101,116,115,32,115,101,116,32,116,104,101,110,32,116,114,117,101,32,117,115,101,32,118,97,114,32]
def bE(s:bn):Bool:=lS s&&!(Lib.contains iR ([32]++s++[32]))
def vT{s:bn}(h:lS s=true):s.length<=20:=by
 unfold lS at h;simp only[GO,G0]at h;exact h.1.2
def df(p f:bn):Bool:=!(aU f p||f== p)
def f5{α:Type}(Q:α->α->Bool):List α->Bool
 |x:: y:: r=>Q x y&&f5 Q (y:: r)
 |_=>true
theorem qF{α:Type}[Inhabited α](Q:α->α->Bool):(l:List α)->(f5 Q l=true↔∀k,k+1<l.length->Q l[k]! l[k+1]! = true)
 |[]=>by simp[f5]
 |[x]=>by simp[f5]
 | x:: y:: r=>by
  simp only[f5,GO,qF Q (y:: r)];constructor
  ·rintro⟨h1,h2⟩ k hk;cases k with
   |zero=>simpa using h1
   |succ k=>simpa using h2 k (by simpa using hk)
  ·intro h;refine⟨by simpa using h 0 (by simp),fun k hk=>?_⟩;simpa using h (k+1) (by simpa using hk)
def pt{α:Type}[Inhabited α](P:α->Bool)(Q:α->α->Bool)(l:List α):(List.range' 0 l.length).all (fun k=>P l[k]! && (decide (k=0)||Q l[k-1]! l[k]!))=(l.all P&&f5 Q l):=by
 rw[Ij,GO,<- sg P l,qF];simp only[GT,Jm,GO,HQ,G0];constructor
 ·intro h;refine⟨fun k hk=>(h k hk).1,fun k hk=>?_⟩
  have:=(h (k+1) ⟨Hi _,by omega⟩).2
  rcases this with h0|h1
  ·omega
  ·simpa using h1
 ·rintro⟨h1,h2⟩ k hk;refine⟨h1 k hk,?_⟩;cases k with
  |zero=>exact .inl rfl
  |succ k=>exact .inr (by simpa using h2 k (by omega))
def cp:Nat->Ty->Bool
 |0,_=>false
 |d+1,t=>decide (0<=t.kind)&&decide (t.kind<3)&&decide (t.fields.length<=8)&&(t.kind== 2||t.fields.length== 0)&&(t.fields.all (fun f=>bE f.1&&cp d f.2)&&f5 (fun a b=>df a.1 b.1) t.fields)
theorem cU(d:Nat)(t:Ty):cp (d+1) t=(decide (0<=t.kind)&&decide (t.kind<3)&&decide (t.fields.length<=8)&&(t.kind== 2||t.fields.length== 0)&&(t.fields.all (fun f=>bE f.1&&cp d f.2)&&f5 (fun a b=>df a.1 b.1) t.fields)):=rfl
abbrev aX(t:Ty):Bool:=cp 4 t
mutual
def pw:Ty->Ty->Bool
 |.mk k fs,a=>a.kind== k&&lY fs a.fields
def lY:List (bn×Ty)->List bN->Bool
 |[],_=>true
 |f:: fs,l=>su f l&&lY fs l
def su:bn×Ty->List bN->Bool
 |(n,t),l=>match bz (fun z=>z.1== n) l with
  |some z=>pw t z.2
  |none=>false
end
def bu(a b:Ty):Bool:=pw b a
theorem lp:(fs:List bN)->(l:List bN)->lY fs l=fs.all fun f=>su f l
 |[],_=>rfl
 |f:: fs,l=>by simp[lY,lp fs l]
def oi(a b:Ty):bu a b=(a.kind== b.kind&&b.fields.all fun f=>match bz (fun z=>z.1== f.1) a.fields with|some z=>bu z.2 f.2|none=>false):=by
 cases b with
 |mk k fs=>
  show pw (.mk k fs) a=_;simp only[pw,lp,Ty.kind,Ty.fields];congr 2;funext f;obtain⟨n,t⟩:=f;simp only[su,bu]
def qj(a b:Ty):Bool:=aX a&&aX b&&bu a b
def ca(a b:Int):Int:=IntKind.i64.wrap (BitVec.ofInt 64 a &&& ~~~ BitVec.ofInt 64 b).toNat
def tI(a b:Sig):Bool:=fA qj b.params a.params&&qj a.result b.result&&(ca a.effects b.effects== 0)
def dR(s:Sig):Bool:=bE s.name&&decide (s.params.length<=6)&&(ca s.effects 15== 0)&&aX s.result&&s.params.all aX
def bL(f:Face):Bool:=bE f.module&&decide (f.funcs.length<=30)&&(f.funcs.all dR&&f5 (fun a b=>aU a.name b.name) f.funcs)
def oE(f:Face)(name:bn):Option Sig:=f.funcs.find? fun s=>s.name== name
def kL(now:Face)(f:Sig):Bool:=match oE now f.name with
 |some g=>tI g f
 |none=>false
def gU(old now:Face):Option Sig:=old.funcs.find? fun f=>!(kL now f)
def fQ(old now:Face):Bool:=old.module== now.module&&bL old&&bL now
def jH(old now:Face):Int×bn:=if fQ old now=true then(match gU old now with
  |some f=>(2,f.name)
  |none=>match gU now old with
   |some _=>(1,[])
   |none=>(0,[]))else(2,[])
structure Sig.Lim (s:Sig):Prop where
 plen:s.params.length<=140737488355328
 ptys:∀t∈s.params,t.Lim
 result:s.result.Lim
structure Face.Lim (f:Face):Prop where
 len:f.funcs.length<=140737488355328
 sigs:∀s∈f.funcs,s.Lim
@[simp] theorem jf(x:Sig):aC 5 x.av=M.pure x.av:=by rw[bG (na x),cV,fN]
@[simp] theorem gz(x:Sig):ao 5 [] x.av=M.pure x.av:=by rw[aM (na x),cV,fN]
end Go.Av.Ap
namespace Go.Av
variable [Dr]
open Go.RowKit Go.WideShapes Go.ChangeShapes
theorem Left.below{S S':ay}{β β':List bj}{w w':World}{h':Hp}(L:Left (b9 [] []) S β w S' β' w' h'):Below w.heap.size w w':=
 ⟨L.gro.os,L.gro.tape,L.gro.out,L.gro.size,fun k hk=>(L.keep k hk (by rintro⟨l,_,_,h1,_⟩;simp at h1)).1⟩
def ky(W:World):ay:=fun b o=>W.cell? ⟨b,o,none⟩
omit [Dr]in
theorem y8(W:World):Wf (ky W) W:=fun _ _ _ h=>h
omit [Dr]in
theorem vq{W:World}(h:GOKw W):nH [] [] W:=⟨h,fun b _ ho=>by obtain⟨l,_,_,h1,_⟩:=ho;simp at h1⟩
theorem vA{P:Program}{p:Pg}(G:GoodPg P p)(hO:cN p){f:FuncId}{args:List AV}{vs:List Value}{W:World}(hg:GOKw W)(hv:aY (ky W) [] args vs)(ht:ai p f args []= .ok (.bool true) []):Calls P f vs.toArray W fun e W'=>e= .returned (.bool true)/\Below W.heap.size W W':=by
 have h:=(lq G hO f args [] (ky W) [] W vs (by rw[ht];simp) (vq hg) (y8 W) ⟨rfl,fun _=>.no,fun l cs hl=>by simp at hl⟩ hv).1;rw[ht]at h;refine h.mono fun e W' hp=>?_;obtain⟨S',β',v,rfl,hv,L,_⟩:=hp;simp only[VR]at hv;subst hv;exact⟨rfl,L.below⟩
section
variable {H:Type} {enc:TypeId×Value->H} {P:Program}
omit [Dr]in
theorem nT{f:Func}{s:ChangeSpec}{apart fresh handsOn again:Bool}{W W':World}{args:Array Value}{v:Value}{ds gs:List (DataW H)}{before pa pv:List MemPlace}(hW:DataW.Whole enc P f.params.toList s.vars apart W args.toList ds gs before)(hres:∀(b:Nat)(sp:Nat->Bool)(hd:Bool),DataW.TrodAll enc P W' b sp hd f.resultTypes.toList (v.resultList f.resultTypes.size) (s.fn H (ds++gs)).results [])(hargs:∀sp:Nat->Bool,(∀p∈before,sp p.block=true)->DataW.TrodAll enc P W' 0 sp true f.params.toList args.toList (s.fn H (ds++gs)).args pa)(hvars:∀sp:Nat->Bool,(∀p∈before,sp p.block=true)->DataW.TrodVars enc P W' sp s.vars (s.fn H (ds++gs)).vars pv)(hps:before=pa++pv)(hb:Below W.heap.size W W')(hok:∀(j:Nat)(t:TypeId)(r:Value),f.resultTypes[j]? = some t->(v.resultList f.resultTypes.size)[j]? = some r->Value.okWide P W' .any 0 t r):
  s.post enc P f apart fresh handsOn again W args v W':=by
 have hlt:∀p∈before,p.block<W.heap.size:=fun p hp=>hW.lt p hp;have hold:∀p∈before,(fun b=>decide (b<W.heap.size)) p.block=true:=fun p hp=>by simpa using hlt p hp
 refine⟨ds,gs,before,[],pa,pv,hW,hres _ _ _,hargs _ hold,hvars _ hold,World.keptBut_mono (fun p hp=>⟨hp,?_⟩) (hb.frame (· ∈before)),fun _=>?_⟩
 ·rw[hps,Hr]at hp;exact Or.inr hp
 ·obtain⟨_,_,_,_,_,hz,hn⟩:=hW;refine⟨hok,_,_,([]++pa)++pv,⟨[]++pa,pv,trodAll_append (hargs _ (fun _ _=>rfl)) (hres _ _ _),hvars _ (fun _ _=>rfl),rfl,?_,?_⟩,?_⟩
  ·intro b off hp;have hin:MemPlace.cell b off∈before:=by rw[hps];simpa using hp
   rw[hb.frozen (hlt _ hin)];exact hz b off hin
  ·intro ha
   have:=hn ha
   rw[hps]at this;simpa using this
  ·intro p hp _;rw[hps];simpa using hp
end
end Go.Av
namespace Go.Av.Ap
open Go Go.Av
theorem dD:(a:bn)->aU a a=false
 |[]=>rfl
 |x:: a=>by simp[aU,dD a]
theorem gb:(a b c:bn)->aU a b=true->aU b c=true->aU a c=true
 |_,[],c,h,_=>by cases ‹bn› <;> simp[aU]at h
 |_,_:: _,[],_,h=>by simp[aU]at h
 |[],_:: _,_:: _,_,_=>by simp[aU]
 | x:: a,y:: b,z:: c,h1,h2=>by
  simp only[aU,HQ,GO,G0,Hy,UInt8.lt_iff_toNat_lt]at h1 h2 |-;rcases h1 with h1|⟨rfl,h1⟩
  ·rcases h2 with h2|⟨rfl,h2⟩
   ·exact .inl (by omega)
   ·exact .inl h1
  ·rcases h2 with h2|⟨rfl,h2⟩
   ·exact .inl h2
   ·exact .inr ⟨rfl,gb a b c h1 h2⟩
theorem iY:(a b:bn)->aU a b=false->a≠b->aU b a=true
 |[],[],_,h=>absurd rfl h
 |[],_:: _,h,_=>by simp[aU]at h
 |_:: _,[],_,_=>by simp[aU]
 | x:: a,y:: b,h1,h2=>by
  simp only[aU,Im,Ie,HQ,GO,G0,Hy,UInt8.lt_iff_toNat_lt]at h1 |-;by_cases e:x=y
  ·subst e;refine .inr ⟨rfl,iY a b ?_ fun e=>h2 (by rw[e])⟩;simpa using h1.2
  ·refine .inl ?_;have:x.toNat≠y.toNat:=fun e'=>e (UInt8.toNat_inj.1 e');omega
def sf(p f:bn):df p f=true↔aU p f=true:=by
 unfold df;rw[HC,Im];constructor
 ·rintro⟨h1,h2⟩;exact iY f p h1 (GX.1 h2)
 ·intro h;refine⟨?_,?_⟩
  ·cases hc:aU f p with
   |false=>rfl
   |true=>exact absurd (gb _ _ _ h hc) (by simp[dD])
  ·rw[GX];rintro rfl;rw[dD]at h;cases h
theorem kz{α:Type}{Q:α->α->Bool}{nm:α->bn}(hQ:∀x y,Q x y=true->aU (nm x) (nm y)=true):(l:List α)->f5 Q l=true->l.Pairwise fun x y=>aU (nm x) (nm y)=true
 |[],_=>.nil
 |[x],_=>by simp
 |x:: y:: r,h=>by
  simp only[f5,GO]at h;have ih:=kz hQ (y:: r) h.2;refine .cons (fun z hz=>?_) ih;have h1:=hQ _ _ h.1;rcases Hg.1 hz with rfl|hz
  ·exact h1
  ·exact gb _ _ _ h1 ((Ih.1 ih).1 z hz)
theorem oG{α:Type}{nm:α->bn}:{l:List α} ->(l.Pairwise fun x y=>aU (nm x) (nm y)=true)->{x:α} ->x∈l->l.find? (fun z=>nm z== nm x)=some x
 | y:: l,h,x,hx=>by
  rcases Hg.1 hx with rfl|hx
  ·simp
  ·have h1:=(Ih.1 h).1 x hx;have:(nm y== nm x)=false:=by
    rw[GX];intro e;rw[e,dD]at h1;cases h1
   simp only[List.find?_cons,this];exact oG (Ih.1 h).2 hx
theorem mR{α:Type}{p:α->Bool}:{l:List α} ->(∀z∈l,p z=false)->bz p l=none
 |[],_=>rfl
 |z:: l,h=>by simp[bz,mR (l:=l) fun y hy=>h y (by simp[hy]),h z (by simp)]
theorem oN{α:Type}{nm:α->bn}:{l:List α} ->(l.Pairwise fun x y=>aU (nm x) (nm y)=true)->{x:α} ->x∈l->bz (fun z=>nm z== nm x) l=some x
 | y:: l,h,x,hx=>by
  rcases Hg.1 hx with rfl|hx
  ·have:bz (fun z=>nm z== nm x) l=none:=mR fun z hz=>by
    rw[GX];intro e;have h1:=(Ih.1 h).1 z hz;rw[e,dD]at h1;cases h1
   simp[bz,this]
  ·simp[bz,oN (Ih.1 h).2 hx]
theorem hG:(d:Nat)->(t:Ty)->cp d t=true->bu t t=true
 |0,_,h=>by cases h
 |d+1,t,h=>by
  rw[cU]at h;simp only[GO,GT]at h;have hp:=kz (nm:=fun f:bN=>f.1) (fun x y h=>(sf _ _).1 h) _ h.2.2;rw[oi];simp only[Iq,HM,GT];intro f hf;rw[oN (nm:=fun f:bN=>f.1) hp hf];exact hG d f.2 (h.2.1 f hf).2
theorem oc{α:Type}{F:α->α->Bool}:{l:List α} ->(∀x∈l,F x x=true)->fA F l l=true
 |[],_=>rfl
 |x:: l,h=>by simp[fA,h x (by simp),oc (l:=l) fun y hy=>h y (by simp[hy])]
def gG(a b:Face):fQ a b=true↔a.module=b.module/\bL a=true/\bL b=true:=by
 unfold fQ;simp only[GO,Hy,and_assoc]
end Go.Av.Ap
namespace Go.Av
open Go.RowKit
section
variable {H:Type} {enc:TypeId×Value->H} {P:Program} {w w':World}
theorem iZ{base:Nat}{spare:Nat->Bool}{held:Bool}:∀ {ts:List TypeId} {vs:List Value} {ds:List (DataW H)} {ps:List MemPlace},DataW.TrodAll enc P w base spare held ts vs ds ps->(∀p∈ps,w.sameAt w' p)->DataW.TrodAll enc P w' base spare held ts vs ds ps
 |[],[],[],_,h,_=>h
 |_:: _,_:: _,_:: _,_,⟨p,q,⟨n,h1⟩,h2,e⟩,hs=>⟨p,q,⟨n,DataW.trod_carry n _ _ _ h1 (fun x hx=>hs x (by rw[e];exact Jd _ hx))⟩,iZ h2 (fun x hx=>hs x (by rw[e];exact IL _ hx)),e⟩
theorem qd(hb:Below w.heap.size w w'){p:MemPlace}(hp:p.block<w.heap.size):w.sameAt w' p:=by
 cases p with
 |cell b off=>
  have:=hb.block b hp
  show w'.cell? ⟨b,off,none⟩=w.cell? ⟨b,off,none⟩;simp only[World.cell?,this]
 |map b=>exact hb.block b hp
theorem sq{T:TypeId->Prop}(K:Kids P T)(hz:∀t e,T t->P.underlying t=some (.slice e)->0<P.cellsOf e){ts:List TypeId}{vs:List Value}{ds:List (DataW H)}{ps:List MemPlace}(hT:∀t∈ts,T t)(h:DataW.TrodAll enc P w 0 (fun _=>true) true ts vs ds ps)(hlt:∀p∈ps,p.block<w.heap.size)(hb:Below w.heap.size w w')(sp:Nat->Bool)(hsp:∀p∈ps,sp p.block=true):DataW.TrodAll enc P w' 0 sp true ts vs ds ps:=
 (iZ h fun p hp=>qd hb (hlt p hp)).respare K hz hT hsp
end
theorem ue{α:Type}(Q:Nat->α->Prop):∀n,(∀i,i<n->∃x,Q i x)->∃l:List α,l.length=n/\∀i x,l[i]? = some x->Q i x
 |0,_=>⟨[],rfl,fun i x h=>by simp at h⟩
 | n+1,h=>by
  obtain⟨l,h1,h2⟩:=ue Q n fun i hi=>h i (by omega);obtain⟨y,hy⟩:=h n (by omega);refine⟨l++[y],by simp[h1],fun i x hx=>?_⟩;by_cases hi:i<n
  ·rw[G9 (by omega)]at hx;exact h2 i x hx
  ·rw[Hf (by omega)]at hx;have hin:i-l.length=0:=by
    rcases HD (i-l.length)with h|h
    ·exact h
    ·rw[G1 (by simp;omega)]at hx;cases hx
   rw[hin]at hx;simp only[Hh,GN]at hx;subst hx;obtain rfl:i=n:=by omega
   exact hy
end Go.Av
namespace Go.Av
open Go.RowKit Go.WideShapes Go.ChangeShapes
section
variable {H:Type} (enc:TypeId×Value->H) (P:Program) (W:World)
def Rd{α:Type}(N:Nat)(t:TypeId)(cells:α->List AV)(Ok:α->Prop):Prop:=∀(base:Nat)(held:Bool)(n:Nat),n<N->∀(cs:List Value)(x:DataW H×List MemPlace),DataW.trod enc P W base (fun _=>true) held n t cs=some x->(∀k∈x.1.weights P t,k<=reachBytes)->∃a:α,aY (ky W) [] (cells a) cs/\Ok a
def y7{α:Type}(N:Nat)(tot:Nat)(o:Nat)(fs:List Field)(cells:α->List AV)(Ok:α->Prop):Prop:=∀(base:Nat)(held:Bool)(n:Nat),n<N->∀(cs:List Value)(xs:List (DataW H×List MemPlace)),cs.length=tot->
 xs.length=fs.length->(∀(i:Nat)(f:Field),fs[i]? = some f->DataW.trod enc P W base (fun _=>true) held n f.type ((cs.drop f.offset).take (P.cellsOf f.type))=xs[i]?)->(∀k∈DataW.weightsEach P (fs.map (·.type)) (xs.map (·.1)),k<=reachBytes)->∃a:α,aY (ky W) [] (cells a) (cs.drop o)/\Ok a
variable {enc P W} {α β:Type} {N:Nat} {t:TypeId}
theorem Rd.zero{cells:α->List AV}{Ok:α->Prop}:Rd enc P W 0 t cells Ok:=fun _ _ n hn=>absurd hn (by omega)
theorem Rd.le{cells:α->List AV}{Ok:α->Prop}(h:Rd enc P W N t cells Ok){M:Nat}(hm:M<=N):Rd enc P W M t cells Ok:=fun b hd n hn=>h b hd n (by omega)
theorem Rd.map{cells:α->List AV}{Ok:α->Prop}(h:Rd enc P W N t cells Ok)(g:α->β){cells':β->List AV}{Ok':β->Prop}(hc:∀a,cells' (g a)=cells a)(ho:∀a,Ok a->Ok' (g a)):Rd enc P W N t cells' Ok':=by
 intro b hd n hn cs x hx hw;obtain⟨a,h1,h2⟩:=h b hd n hn cs x hx hw;exact⟨g a,by rw[hc];exact h1,ho a h2⟩
theorem yx{k:IntKind}(ht:P.underlying t=some (.int k)):Rd enc P W N t (fun n:Int=>[.int k n]) (fun n=>(Lit.int k n).wf=true):=by
 intro b hd n hn cs x hx hw;obtain⟨b,rfl,_,hwf⟩:=DataW.trod_int ht hx;exact⟨b,by simp[aY,VR],hwf⟩
theorem tn(ht:P.underlying t=some .string):Rd enc P W N t (fun s:List UInt8=>[.str s]) (fun s=>s.length<=reachBytes):=by
 intro b hd n hn cs x hx hw;obtain⟨s,rfl,rfl,_⟩:=DataW.trod_string ht hx;exact⟨s.data.toList,by simp[aY,VR],hw _ (by simp[DataW.weights])⟩
def Dn(cells:α->List AV)(ev:α->AV)(sz:Nat):Prop:=∀(a:α)(S:ay)(β:List bj)(vs:List Value),aY S β (cells a) vs->vs.length=sz->∃v,VR S β (ev a) v/\v.cells.toList=vs
theorem kC{cells:α->List AV}{ev:α->AV}{sz:Nat}(he:∀a,ev a= .agg (cells a)):Dn cells ev sz:=fun a S β vs h hl=>⟨.agg vs.toArray,by rw[he];simp only[VR];exact⟨vs,rfl,h⟩,by simp[Value.cells]⟩
theorem iF{e:TypeId}:∀ {l:List (DataW H)} {d:DataW H},d∈l->∀k∈d.weights P e,k∈DataW.weightsAll P e l
 |x:: l,d,hd,k,hk=>by
  simp only[DataW.weightsAll,Hr];rcases Hg.1 hd with rfl|hd
  ·exact .inl hk
  ·exact .inr (iF hd k hk)
theorem ni{e:TypeId}{cells:α->List AV}{Ok:α->Prop}(h:Rd enc P W N e cells Ok)(ht:P.underlying t=some (.slice e)){sz by_:Nat}(hsz:P.cellsOf e=sz)(h0:0<sz)(hby:P.bytesOf e=by_){ev:α->AV}(hev:Dn cells ev sz):
  Rd enc P W N t (fun l:List α=>[.sl (l.map ev)]) (fun l=>l.length*by_<=reachBytes/\∀a∈l,Ok a):=by
 intro base hd n hn cs x hx hw;rcases DataW.trod_slice ht hx with⟨rfl,rfl⟩|⟨a,len,cap,elems,rest,m,rfl,rfl,rfl,hb,hle,hm,hlen,hel,hsp,_⟩
 ·exact⟨[],by simp only[aY,Jt,VR];exact⟨_,_,rfl,⟨none,0,rfl,GQ _,fun _=>rfl,fun q hq=>by cases hq⟩,rfl⟩,by simp,fun a ha=>by cases ha⟩
 obtain⟨hrl,hre⟩:=hsp rfl;rw[hsz]at hel hre;simp only[DataW.weights,ht,Hg,Hr,hby]at hw;have hspot:0<cap->a.spot=none:=by
  intro hc;have:∃y,(W.cells? base (a.add 0) sz).bind (DataW.trod enc P W base (fun _=>true) hd m e)=some y:=by
   by_cases h1:0<len
   ·have:=hel 0 h1
    rw[Ha (by omega)]at this;exact⟨_,by simpa using this⟩
   ·have:=hre 0 (by omega)
    rw[Ha (by omega)]at this;obtain rfl:len=0:=by omega
    exact⟨_,by simpa using this⟩
  obtain⟨y,hy⟩:=this;obtain⟨cs,hcs,_⟩:=JC.1 hy;obtain⟨_,hl,hc⟩:=World.cells?_some hcs;have h2:=hc 0 h0;rw[Ha (by omega)]at h2;have h3:=World.cell?_spot h2;have e:(a.add 0).add 0=a:=by unfold Addr.add;simp
  rwa [e]at h3
 have hx:∀i,i<len->∃y:α,(∃v,VR (ky W) [] (ev y) v/\v.cells.size=sz/\ek (ky W) a.block (a.off+i*sz) v.cells.toList)/\Ok y:=by
  intro i hi;have h1:=hel i hi;rw[Ha (by omega)]at h1;obtain⟨cs,hcs,htr⟩:=JC.1 h1;obtain⟨y,hy,hok⟩:=h base hd m (by omega) cs _ htr (fun k hk=>hw k (.inr (.inl (iF (HV.2 ⟨_,GY _,rfl⟩) k hk))));obtain⟨_,hl,hc⟩:=World.cells?_some hcs;obtain⟨v,hv,hvc⟩:=hev y _ _ cs hy hl;refine⟨y,⟨v,hv,by rw[<- HT,hvc,hl],fun j u hj=>?_⟩,hok⟩;rw[hvc]at hj;have hjl:j<sz:=by
   rcases Hb j cs.length with h|h
   ·omega
   ·rw[G1 h]at hj;cases hj
  have h2:=hc j hjl;rw[hj]at h2;unfold ky;have hs:=hspot (by omega);have e:(a.add (i*sz)).add j=⟨a.block,a.off+i*sz+j,none⟩:=by
   obtain⟨b,o,s⟩:=a;simp only at hs;subst hs;rw[add_plain,add_plain]
  rw[<- e];exact h2
 obtain⟨l,hl1,hl2⟩:=ue (fun i y=>(∃v,VR (ky W) [] (ev y) v/\v.cells.size=sz/\ek (ky W) a.block (a.off+i*sz) v.cells.toList)/\Ok y) len hx;refine⟨l,?_,?_,fun y hy=>?_⟩
 ·simp only[aY,VR,HS];refine⟨_,_,rfl,⟨some a,cap,by rw[hl1],by omega,(fun e=>by cases e),fun q hq=>?_⟩,rfl⟩;cases hq;refine⟨hspot,sz,.of_get fun i e he=>?_⟩;rw[HU,HO]at he;obtain⟨y,hy,rfl⟩:=he;exact (hl2 i y hy).1
 ·have:=hw _ (.inl rfl)
  simp only[HS]at this;have h3:=G7 by_ (show l.length<=elems.length+rest.length by omega);omega
 ·obtain⟨i,hi,e⟩:=List.getElem_of_mem hy;exact (hl2 i y (by rw[Ha hi,e])).2
theorem kh{tot:Nat}:y7 enc P W N tot tot [] (fun _:Unit=>[]) (fun _=>True):=fun base hd n hn cs xs hl _ _ _=>⟨(),by simp[aY,<- hl],trivial⟩
theorem dp{tot o k:Nat}{f:Field}{fs:List Field}{c1:α->List AV}{Ok1:α->Prop}{c2:β->List AV}{Ok2:β->Prop}(h1:Rd enc P W N f.type c1 Ok1)(ho:f.offset=o)(hk:P.cellsOf f.type=k)(h2:y7 enc P W N tot (o+k) fs c2 Ok2):
  y7 enc P W N tot o (f:: fs) (fun x:α×β=>c1 x.1++c2 x.2) (fun x=>Ok1 x.1/\Ok2 x.2):=by
 intro base hd n hn cs xs hl hx hf hw
 match xs,hx with
 |x:: xs,hx=>
  have hf0:=hf 0 f rfl;rw[ho,hk]at hf0;simp only[Hs,DataW.weightsEach,Hr]at hw;obtain⟨a,ha,oa⟩:=h1 base hd n hn _ x hf0 fun k hk=>hw k (.inl hk);obtain⟨b,hb,ob⟩:=h2 base hd n hn cs xs hl (by simpa using hx) (fun i g hg=>by simpa using hf (i+1) g (by simpa using hg)) fun k hk=>hw k (.inr hk);refine⟨(a,b),?_,oa,ob⟩
  have:=ha.append hb
  rwa [<- Jh,IJ]at this
theorem iQ{fs:Array Field}{tot:Nat}{cells:α->List AV}{Ok:α->Prop}(ht:P.underlying t=some (.struct fs))(hc:P.cellsOf t=tot)(h:y7 enc P W N tot 0 fs.toList cells Ok):Rd enc P W (N+1) t cells Ok:=by
 intro base hd n hn cs x hx hw;obtain⟨xs,m,rfl,rfl,hl,hxs,hf⟩:=DataW.trod_struct ht hx;simp only[DataW.weights,ht]at hw;obtain⟨a,h1,h2⟩:=h base hd m (by omega) cs xs (by rw[hl,hc]) (by simpa using hxs) (fun i f hi=>hf i f (by simpa using hi)) hw;exact⟨a,by simpa using h1,h2⟩
theorem CN{cells:α->List AV}{Ok:α->Prop}(h:∀N,Rd enc P W N t cells Ok){base:Nat}{held:Bool}{v:Value}{d:DataW H}{p:List MemPlace}(hd:DataW.Trod enc P W base (fun _=>true) held t v d p)(hw:∀k∈d.weights P t,k<=reachBytes):
  ∃a:α,aY (ky W) [] (cells a) v.cells.toList/\Ok a:=by
 obtain⟨n,hn⟩:=hd;exact h (n+1) base held n (by omega) _ _ hn hw
theorem mm{fs:Array Field}{r:Reach}{b0:Nat}{f:α->AV}{Ok:α->Prop}{cells:α->List AV}(h:∀N,Rd enc P W N t cells Ok)(hf:∀a,f a= .agg (cells a))(ht:P.underlying t=some (.struct fs)){base:Nat}{held:Bool}{v:Value}{d:DataW H}{p:List MemPlace}(hok:Value.okWide P W r b0 t v)(hd:DataW.Trod enc P W base (fun _=>true) held t v d p)(hw:∀k∈d.weights P t,k<=reachBytes):∃a:α,VR (ky W) [] (f a) v/\Ok a:=by
 obtain⟨cs,rfl,_⟩:=okWide_struct ht hok;obtain⟨a,h1,h2⟩:=CN h hd hw;refine⟨a,?_,h2⟩;rw[hf];simp only[VR];exact⟨cs.toList,by simp,h1⟩
theorem mC{ts:List TypeId}{ds:List (DataW H)}(h:(DataW.weightsEach P ts ds).all (· <=reachBytes)=true){j:Nat}{u:TypeId}{d:DataW H}(ht:ts[j]? = some u)(hd:ds[j]? = some d):∀k∈d.weights P u,k<=reachBytes:=fun k hk=>by
 have:=GT.1 h _ (DataW.weights_mem_each ht hd k hk)
 simpa using this
end
end Go.Av
