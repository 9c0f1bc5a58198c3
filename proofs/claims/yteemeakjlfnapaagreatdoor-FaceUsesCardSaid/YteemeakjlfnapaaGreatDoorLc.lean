/- The abstract evaluator of the model and plain laws, part 3: its soundness holds for every program whose table of types is the evaluator's. No further condition. -/
import Derived.Test.YteemeakjlfnapaaGreatDoorLb
import Derived.KernelRfl
import Derived.Below
import Derived.Lib.IndexMore
import Derived.Lib.Fields
import Derived.Lib.AtoiAll
import Derived.Lib.SplitLaws
import Derived.Shelf.SlSortCmp.WholeK
import Derived.Lib.Bytealg
import Derived.IntWalk
import Derived.ChangeSame
import Derived.OpenShut
set_option linter.defProp false
set_option linter.unusedSimpArgs false
set_option linter.unusedVariables false
namespace Go.Av
variable [Dr]
def a8{α:Type}(m:M α):Prop:=∃o,m=af o
def de{α:Type}(m:M α):Prop:=∀h,m h= .fail\/∃v,m h= .ok v h
def dC{α:Type}(m:M α):Prop:=∀h v h',m h≠.pan v h'
omit [Dr]in
theorem a8.read{α:Type}{m:M α}(h:a8 m):de m:=by
 obtain⟨o,rfl⟩:=h;intro h;cases o with
 |none=>exact .inl rfl
 |some v=>exact .inr ⟨v,rfl⟩
omit [Dr]in
theorem de.stay{α:Type}{m:M α}(g:de m):dC m:=by
 intro h v h' hh;rcases g h with g|⟨x,g⟩<;>rw[g]at hh<;>cases hh
omit [Dr]in
theorem a8.bnd{α β:Type}{m:M α}(h:a8 m)(f:α->β):a8 (ae m fun v=>M.pure (f v)):=by
 obtain⟨o,rfl⟩:=h;cases o with
 |none=>exact⟨none,rfl⟩
 |some v=>exact⟨some (f v),rfl⟩
omit [Dr]in
theorem de.bnd{α β:Type}{m:M α}(g:de m)(f:α->β):de (ae m fun v=>M.pure (f v)):=by
 intro h;simp only[Av.ae,M.pure];rcases g h with g|⟨x,g⟩<;>rw[g]
 ·exact .inl rfl
 ·exact .inr ⟨_,rfl⟩
omit [Dr]in
theorem dC.bnd{α β:Type}{m:M α}(g:dC m)(f:α->β):dC (ae m fun v=>M.pure (f v)):=by
 intro h v h' hh;simp only[Av.ae,M.pure]at hh;cases hm:m h<;>rw[hm]at hh<;>simp at hh;exact g _ _ _ hm
omit [Dr]in
theorem a8.lft{α:Type}(o:Option α):a8 (af o):=⟨o,rfl⟩
omit [Dr]in
theorem a8.pure{α:Type}(a:α):a8 (M.pure a):=⟨some a,rfl⟩
omit [Dr]in
theorem a8.fail{α:Type}:a8 (M.fail:M α):=⟨none,rfl⟩
def jm{α:Type}(m:M α):Prop:=∀h t v,m h= .ok v h->m (h++t)= .ok v (h++t)
def tk{α:Type}(m:M α):Prop:=∀h v h',m h= .ok v h'->∃t,h'=h++t
omit [Dr]in
theorem a8.app{α:Type}{m:M α}(h:a8 m):jm m:=by
 obtain⟨o,rfl⟩:=h;intro h t v hh;cases o with
 |none=>cases hh
 |some x=>cases hh;rfl
omit [Dr]in
theorem a8.nw{α:Type}{m:M α}(h:a8 m):tk m:=by
 obtain⟨o,rfl⟩:=h;intro h v h' hh;cases o with
 |none=>cases hh
 |some x=>cases hh;exact⟨[],by simp⟩
omit [Dr]in
theorem jm.bnd{α β:Type}{m:M α}(g:jm m/\de m)(f:α->β):jm (ae m fun v=>M.pure (f v))/\de (ae m fun v=>M.pure (f v)):=by
 refine⟨fun h t v hh=>?_,g.2.bnd f⟩;simp only[Av.ae,M.pure]at hh |-;rcases g.2 h with k|⟨x,k⟩
 ·rw[k]at hh;cases hh
 ·rw[k]at hh;cases hh;rw[g.1 h t x k]
omit [Dr]in
theorem tk.bnd{α β:Type}{m:M α}(g:tk m)(f:α->β):tk (ae m fun v=>M.pure (f v)):=by
 intro h v h' hh;simp only[Av.ae,M.pure]at hh;cases hm:m h<;>rw[hm]at hh<;>simp at hh;obtain⟨t,ht⟩:=g _ _ _ hm;exact⟨t,by rw[<- hh.2,ht]⟩
def bn(p:∀ {α:Type},M α->Prop):Act1->Prop
 |.dyn m _=>p m
 |.thr _=>False
 |_=>True
structure IsoPure (cx:Cx):Prop where
 iso:∀f args,cx.iso f=true->a8 (cx.call f args)
 nw:∀f args,cx.nw f=true->tk (cx.call f args)
section
variable {cx:Cx} {e:Env} {gid:Nat} {o:Oper}
omit [Dr]in
theorem bn.cond{p:∀ {α:Type},M α->Prop}{b:Bool}{x y:Act1}(h1:b=true->bn p x)(h2:b=false->bn p y):bn p (bif b then x else y):=by
 cases b with
 |true=>exact h1 rfl
 |false=>exact h2 rfl
omit [Dr]in
theorem bn.lft(o:Option AV)(sh:AV->Upd):bn a8 (.dyn (af o) sh):=a8.lft o
omit [Dr]in
theorem nr(T:TT)(t:TypeId)(x:AV):de (bz T t x):=by
 have key:∀x,de (fun h:Hp=>(match ai T t x with|some v=>R.ok v h|none=>.fail)):=by
  intro x h;cases hq:ai T t x with
  |none=>exact .inl rfl
  |some v=>exact .inr ⟨v,rfl⟩
 cases x with
 | hp l off=>
  intro h;simp only[bz];cases T t with
  |none=>exact .inl rfl
  | some ti=>
   cases h[l]? with
   |none=>exact .inl rfl
   | some cs=>
    simp only;cases ti.agg with
    |true=>
     simp only[Hr];split
     ·exact .inr ⟨_,rfl⟩
     ·exact .inl rfl
    |false=>
     simp only[Hw];cases cs[off]? with
     |none=>exact .inl rfl
     |some v=>exact .inr ⟨v,rfl⟩
 |_=>exact key _
omit [Dr]in
theorem sW(T:TT)(t:TypeId)(x y:AV):dC (bI T t x y):=by
 intro h v h' hh;unfold bI at hh;split at hh
 ·split at hh
  ·revert hh;generalize (_&&_:Bool)=b1;cases b1<;>simp
  ·cases hh
 ·cases hh
omit [Dr]in
theorem rA(T:TT)(t:TypeId)(x:AV):dC (qe T t x):=fun h v h' hh=>by cases hh
omit [Dr]in
theorem pw(cs:List AV):dC (newH cs):=by
 intro h v h' hh;unfold newH at hh;revert hh;generalize (_||_:Bool)=b1;cases b1<;>simp
omit [Dr]in
theorem wT(t:Nat)(cs:List AV):dC (wS t cs):=by
 intro h v h' hh;unfold wS at hh;split at hh
 ·revert hh;generalize List.any _ _=b1;cases b1<;>simp
 ·cases hh
omit [Dr]in
theorem qB:dC eE:=by
 intro h v h' hh;cases hh
omit [Dr]in
theorem uh(T:TT)(t:TypeId)(x k:AV)(ok:Bool):de (ey T t x k ok):=by
 intro h;unfold ey;cases iK h x with
 |none=>exact .inl rfl
 |some es=>
  simp only;cases l5 T t es k ok with
  |none=>exact .inl rfl
  |some v=>exact .inr ⟨v,rfl⟩
omit [Dr]in
theorem ww{h s:Hp}{x:AV}{es:List AV}(hh:iK h x=some es):iK (h++s) x=some es:=by
 unfold iK at hh |-;cases x with
 | mp l=>
  simp only at hh |-;cases hl:h[l]? with
  |none=>rw[hl]at hh;cases hh
  | some cs=>
   rw[hl]at hh;have hl':(h++s)[l]? = some cs:=by
    rw[I3,Ht (HN.1 hl).1,hl]
   rw[hl'];exact hh
 |_=>exact hh
omit [Dr]in
theorem wQ(T:TT)(t:TypeId)(x k:AV)(ok:Bool):jm (ey T t x k ok):=by
 intro h s v hh;unfold ey at hh |-;cases hs:iK h x with
 |none=>rw[hs]at hh;cases hh
 |some es=>
  rw[hs]at hh;rw[ww hs];simp only at hh |-;cases ha:l5 T t es k ok with
  |none=>rw[ha]at hh;cases hh
  |some u=>rw[ha]at hh;cases hh;rfl
omit [Dr]in
theorem sE(T:TT)(t:TypeId)(x:AV):dC (qG T t x):=fun h v h' hh=>by cases hh
omit [Dr]in
theorem rF(x:AV):de (mY x):=fun h=>.inl rfl
omit [Dr]in
theorem tQ(x:AV):jm (mY x):=fun h s v hh=>by cases hh
omit [Dr]in
theorem pF(T:TT)(t:TypeId)(x k y:AV):dC (kE T t x k y):=by
 intro h v h' hh;unfold kE at hh;split at hh
 ·cases hh
 ·revert hh;cases wn T 20 _ k with
  |false=>intro hh;cases hh
  | true=>
   simp only[Hr];intro hh;split at hh
   ·split at hh
    ·split at hh
     ·cases hh
     ·cases hh
    ·cases hh
   ·cases hh
omit [Dr]in
theorem wa(T:TT)(t:TypeId)(z:Bool)(x y:AV):dC (appH T t z x y):=by
 intro h v h' hh;unfold appH at hh;have hc:∀ {b:Bool} {r s:R AV},(∀v h',r≠.pan v h')->(∀v h',s≠.pan v h')->(bif b then r else s)≠.pan v h':=by
  intro b r s h1 h2;cases b
  ·exact h2 _ _
  ·exact h1 _ _
 split at hh
 ·cases hh
 ·split at hh
  ·split at hh
   ·cases hh
   ·split at hh
    ·cases hh
    ·refine hc (fun v h' hh=>?_) (fun v h' hh=>by cases hh) hh;split at hh
     ·revert hh;generalize List.isEmpty _=b1;generalize decide (_<=140737488355328)=b2;cases b1<;>cases b2<;>simp
     ·revert hh;generalize List.isEmpty _=b1;generalize decide (_<=140737488355328)=b2;cases z<;>cases b1<;>cases b2<;>simp
     ·split at hh
      ·cases hh
      ·revert hh;generalize (_&&_:Bool)=b1;generalize List.isEmpty _=b2;cases b1<;>cases b2<;>simp
     ·cases hh
  ·cases hh
omit [Dr]in
theorem vZ(T:TT)(t:TypeId)(x y:AV):dC (vY T t x y):=by
 intro h v h' hh;unfold vY at hh;have hc:∀ {b:Bool} {r s:R AV},(∀v h',r≠.pan v h')->(∀v h',s≠.pan v h')->(bif b then r else s)≠.pan v h':=by
  intro b r s h1 h2;cases b
  ·exact h2 _ _
  ·exact h1 _ _
 split at hh
 ·cases hh
 ·split at hh
  ·split at hh
   ·cases hh
   ·refine hc (fun v h' hh=>?_) (fun v h' hh=>by cases hh) hh;split at hh
    ·cases hh
    ·split at hh
     ·cases hh
     ·split at hh
      ·revert hh;generalize List.isEmpty _=b1;generalize decide (_<=140737488355328)=b2;cases b1<;>cases b2<;>simp
      ·split at hh
       ·cases hh
       ·revert hh;generalize (_&&_:Bool)=b1;generalize List.isEmpty _=b2;cases b1<;>cases b2<;>simp
      ·cases hh
  ·cases hh
omit [Dr]in
theorem rr(T:TT)(t n:Nat)(ps:List (Nat×AV)):dC (qb T t n ps):=fun h v h' hh=>by cases hh
omit [Dr]in
theorem pu(told:Bool)(x:Operand):bn a8 (gd told e gid x):=by
 unfold gd;split
 ·trivial
 ·exact bn.cond (fun _=>bn.cond (fun _=>trivial) (fun _=>trivial)) (fun _=>trivial)
omit [Dr]in
theorem uf(d:Option Tmp)(t:TypeId)(p:Nat):bn de (dx cx e d t p)/\(bC cx.ann.hl d=false->bn a8 (dx cx e d t p)):=by
 unfold dx;split
 ·split
  ·exact⟨trivial,fun _=>trivial⟩
  ·constructor
   ·exact bn.cond (fun _=>bn.cond (fun _=>trivial) (fun _=>bn.cond (fun _=>trivial) (fun _=>trivial))) (fun _=>trivial)
   ·exact fun _=>bn.cond (fun _=>bn.cond (fun _=>trivial) (fun _=>bn.cond (fun _=>trivial) (fun _=>trivial))) (fun _=>trivial)
 ·cases hm:bC cx.ann.hl d with
  |true=>exact⟨nr _ _ _,fun h=>by cases h⟩
  |false=>exact⟨(a8.lft _).read,fun _=>a8.lft _⟩
omit [Dr]in
theorem wP(T:TT)(t:TypeId)(x:AV):jm (bz T t x):=by
 intro h s v hh;have hk:∀y,(match ai T t y with|some v=>R.ok v h|none=>.fail)=R.ok v h->(match ai T t y with|some v=>R.ok v (h++s)|none=>.fail)=R.ok v (h++s):=by
  intro y hy;cases hq:ai T t y with
  |none=>rw[hq]at hy;cases hy
  |some u=>rw[hq]at hy;cases hy;rfl
 unfold bz at hh |-;cases x with
 | hp l off=>
  simp only at hh |-;cases hT:T t with
  |none=>rw[hT]at hh;cases hh
  | some ti=>
   rw[hT]at hh;cases hl:h[l]? with
   |none=>rw[hl]at hh;cases hh
   | some cs=>
    have hl':(h++s)[l]? = some cs:=by
     rw[I3]
     have:=(HN.1 hl).1
     rw[Ht this,hl]
    rw[hl]at hh;rw[hl'];simp only at hh |-;cases hag:ti.agg with
    |true=>
     rw[hag]at hh;simp only[Hr]at hh |-;split at hh
     ·rename_i hc;cases hh;rw[Ht hc]
     ·cases hh
    |false=>
     rw[hag]at hh;simp only[Hw]at hh |-;cases hq:cs[off]? with
     |none=>rw[hq]at hh;cases hh
     |some u=>rw[hq]at hh;cases hh;rfl
 |_=>exact hk _ hh
omit [Dr]in
theorem zq(d:Option Tmp)(t:TypeId)(p:Nat):bn (fun m=>jm m/\de m) (dx cx e d t p):=by
 unfold dx;split
 ·split
  ·trivial
  ·exact bn.cond (fun _=>bn.cond (fun _=>trivial) (fun _=>bn.cond (fun _=>trivial) (fun _=>trivial))) (fun _=>trivial)
 ·cases hm:bC cx.ann.hl d with
  |true=>exact⟨wP _ _ _,nr _ _ _⟩
  |false=>exact⟨(a8.lft _).app,(a8.lft _).read⟩
omit [Dr]in
theorem za{A:Act1}(h:bn dC A):bn dC (DL A):=by
 cases A with
 |bad=>trivial
 |stat u=>intro h v h' hh;cases hh
 |dyn m sh=>
  intro x v h' hh;simp only[Av.ae,uY]at hh;cases hm:m x<;>rw[hm]at hh<;>simp at hh;exact h _ _ _ hm
 |thr v=>exact h.elim
omit [Dr]in
theorem tY(t p i:Nat):bn a8 (fO cx e t p i):=by
 unfold fO;split
 ·split
  ·trivial
  ·split
   ·trivial
   ·split
    ·trivial
    ·exact bn.cond (fun _=>trivial) (fun _=>trivial)
 ·exact a8.lft _
omit [Dr]in
theorem ua(t p:Nat)(i:Operand):bn a8 (cV cx e t p i):=by
 unfold cV;split
 ·split
  ·split
   ·split
    ·trivial
    ·exact bn.cond (p:=a8) (fun _=>trivial) (fun _=>trivial)
   ·trivial
  ·trivial
 ·exact a8.lft _
omit [Dr]in
theorem uD(t p:Nat)(y:Operand):bn dC (eK cx e gid t p y):=by
 have hl:∀o:Option AV,dC (Av.af o):=fun o=>(a8.lft o).read.stay;unfold eK;split
 ·split
  ·trivial
  ·refine bn.cond (fun _=>bn.cond (fun _=>bn.cond (fun _=>hl _) (fun _=>trivial)) (fun _=>bn.cond (fun _=>hl _) (fun _=>bn.cond (fun _=>?_) (fun _=>trivial)))) (fun _=>trivial);split
   ·split
    ·exact hl _
    ·trivial
   ·exact bn.cond (fun _=>trivial) (fun _=>hl _)
 ·exact sW _ _ _ _
omit [Dr]in
theorem uC(t p:Nat)(y:Operand)(hl:ga (e.get p)=true):bn a8 (eK cx e gid t p y):=by
 have hl':∀o:Option AV,a8 (Av.af o):=fun o=>a8.lft o;unfold eK;cases hv:(e.get p).v with
 |val a=>simp[ga,hv]at hl
 | loc B off=>
  simp only;split
  ·trivial
  ·refine bn.cond (fun _=>bn.cond (fun _=>bn.cond (fun _=>hl' _) (fun _=>trivial)) (fun _=>bn.cond (fun _=>hl' _) (fun _=>bn.cond (fun _=>?_) (fun _=>trivial)))) (fun _=>trivial);split
   ·split
    ·exact hl' _
    ·trivial
   ·exact bn.cond (fun _=>trivial) (fun _=>hl' _)
omit [Dr]in
theorem iD(s t:Nat):bn dC (eH cx e gid s t)/\(bO cx.ann.kinds s .L≠.H->bO cx.ann.kinds s .L≠.B->bn a8 (eH cx e gid s t)):=by
 unfold eH;split
 ·exact⟨trivial,fun _ _=>trivial⟩
 ·cases hk:bO cx.ann.kinds s .L with
  |F=>exact⟨trivial,fun _ _=>trivial⟩
  |H=>exact⟨pw _,fun h=>absurd rfl h⟩
  |B=>exact⟨wT _ _,fun _ h=>absurd rfl h⟩
  |L=>exact⟨bn.cond (fun _=>trivial) (fun _=>trivial),fun _ _=>bn.cond (fun _=>trivial) (fun _=>trivial)⟩
  |S=>exact⟨bn.cond (fun _=>trivial) (fun _=>trivial),fun _ _=>bn.cond (fun _=>trivial) (fun _=>trivial)⟩
omit [Dr]in
theorem oR(s t:Nat)(x:Operand):bn dC (iU cx e s t x)/\(bO cx.ann.kinds s .F≠.H->bn a8 (iU cx e s t x)):=by
 have hl:∀o:Option AV,dC (Av.af o):=fun o=>(a8.lft o).read.stay;unfold iU;cases hk:bO cx.ann.kinds s .F with
 |F=>exact⟨trivial,fun _=>trivial⟩
 |H=>exact⟨pw _,fun h=>absurd rfl h⟩
 |B=>exact⟨trivial,fun _=>trivial⟩
 |L=>
  simp only;split
  ·exact⟨trivial,fun _=>trivial⟩
  ·exact⟨bn.cond (fun _=>hl _) (fun _=>trivial),fun _=>bn.cond (fun _=>a8.lft _) (fun _=>trivial)⟩
 |S=>
  simp only;split
  ·exact⟨trivial,fun _=>trivial⟩
  ·exact⟨bn.cond (fun _=>hl _) (fun _=>trivial),fun _=>bn.cond (fun _=>a8.lft _) (fun _=>trivial)⟩
structure Class (f:Foot) (A:Act1):Prop where
 stay:f.piv=false->bn dC A
 read:f.wh=false->bn de A
 pure:f.wh=false->f.rh=false->bn a8 A
 app:f.wh=false->bn (fun m=>jm m/\de m) A
 nw:f.nw=true->bn tk A
omit [Dr]in
theorem bn.imp{p q:∀ {α:Type},M α->Prop}(hpq:∀ {α:Type} (m:M α),p m->q m){A:Act1}(h:bn p A):bn q A:=by
 cases A<;>first|trivial|exact hpq _ h|exact h
omit [Dr]in
theorem Class.of_pure{f:Foot}{A:Act1}(h:bn a8 A):Class f A:=
 ⟨fun _=>h.imp fun _ g=>g.read.stay,fun _=>h.imp fun _ g=>g.read,fun _ _=>h,fun _=>h.imp fun _ g=>⟨g.app,g.read⟩,fun _=>h.imp fun _ g=>g.nw⟩
omit [Dr]in
theorem jm.nw{α:Type}{m:M α}(h:de m):tk m:=fun x v h' hh=>by
 rcases h x with g|⟨u,g⟩
 ·rw[g]at hh;cases hh
 ·rw[g]at hh;cases hh;exact⟨[],by simp⟩
omit [Dr]in
theorem Class.of_app{f:Foot}{A:Act1}(_hw:f.wh=false)(hr:f.rh=true)(h:bn (fun m=>jm m/\de m) A):Class f A:=
 ⟨fun _=>h.imp fun _ g=>g.2.stay,fun _=>h.imp fun _ g=>g.2,fun _ h=>by(rw[hr]at h;cases h),fun _=>h,fun _=>h.imp fun _ g=>jm.nw g.2⟩
omit [Dr]in
theorem oM(T:TT)(t:TypeId)(x y:AV):de (rf T t x y):=by
 intro h;unfold rf;cases oG h y with
 |none=>exact .inl rfl
 |some es=>
  simp only;cases dV T t x (.sl es)with
  |none=>exact .inl rfl
  |some v=>exact .inr ⟨v,rfl⟩
omit [Dr]in
theorem zW{h s:Hp}{y:AV}{es:List AV}(hh:oG h y=some es):oG (h++s) y=some es:=by
 unfold oG at hh |-;split at hh
 ·rename_i l off len sz ag;cases hl:h[l]? with
  |none=>rw[hl]at hh;cases hh
  | some cs=>
   rw[hl]at hh;have hl':(h++s)[l]? = some cs:=by
    rw[I3]
    have:=(HN.1 hl).1
    rw[Ht this,hl]
   simp only[hl'];exact hh
 ·exact hh
 ·exact hh
 ·cases hh
omit [Dr]in
theorem ri(T:TT)(t:TypeId)(x y:AV):jm (rf T t x y):=by
 intro h s v hh;unfold rf at hh |-;cases hs:oG h y with
 |none=>rw[hs]at hh;cases hh
 |some es=>
  rw[hs]at hh;rw[zW hs];simp only at hh |-;cases ha:dV T t x (.sl es)with
  |none=>rw[ha]at hh;cases hh
  |some u=>rw[ha]at hh;cases hh;rfl
omit [Dr]in
theorem Class.of_stay{f:Foot}{A:Act1}(hw:f.wh=true)(hn:f.nw=false)(h:bn dC A):Class f A:=
 ⟨fun _=>h,fun h=>by(rw[hw]at h;cases h),fun h=>by(rw[hw]at h;cases h),fun h=>by(rw[hw]at h;cases h),fun h=>by(rw[hn]at h;cases h)⟩
omit [Dr]in
theorem Class.of_piv{f:Foot}{A:Act1}(hw:f.wh=true)(h:f.piv=true)(hn:f.nw=true->bn tk A):Class f A:=
 ⟨fun h'=>by(rw[h]at h';cases h'),fun h=>by(rw[hw]at h;cases h),fun h=>by(rw[hw]at h;cases h),fun h=>by(rw[hw]at h;cases h),hn⟩
omit [Dr]in
theorem tG(hI:IsoPure cx){c:Call}(ho:o.op= .call c):Class (am cx o) (eI cx e gid o c):=by
 unfold eI;cases hc:c.callee with
 |invoke r m=>exact .of_pure trivial
 | value x=>
  cases x with
  | func f=>
   simp only;cases hfz:bC cx.ann.fz o.dst with
   | true=>
    simp only[Hr];cases hq:!(cx.iso f)&&!(cx.nw f)&&(cx.own f).isNone with
    |false=>exact .of_pure trivial
    |true=>
     simp only[Hq,Ib]at hq;exact .of_piv (by unfold am;rw[ho];simp only[hc,hq.1.1,Hw]) (by unfold am;rw[ho];simp only[hc,hq.1.1,Hw]) fun hn=>by unfold am at hn;rw[ho]at hn;simp only[hc,hq.1.1,Hw,hq.1.2]at hn;cases hn
   |false=>
   simp only[Hw];cases hi:cx.iso f with
   |true=>exact .of_pure (hI.iso f _ hi)
   |false=>exact .of_piv (by unfold am;rw[ho];simp only[hc,hi,Hw]) (by unfold am;rw[ho];simp only[hc,hi,Hw]) fun hn=>hI.nw f _ (by unfold am at hn;rw[ho]at hn;simpa only[hc,hi,Hw]using hn)
  |_=>exact .of_piv (by unfold am;rw[ho];simp only[hc]) (by unfold am;rw[ho];simp only[hc]) fun hn=>by unfold am at hn;rw[ho]at hn;simp[hc]at hn
 | builtin b=>
  cases b<;>simp only<;>(try exact .of_pure trivial)
  case clear=>
   have hw:(am cx o).wh=true/\(am cx o).nw=false:=by unfold am;rw[ho];simp only[hc];exact⟨trivial,trivial⟩
   split
   ·exact .of_stay hw.1 hw.2 (rA _ _ _)
   ·exact .of_pure trivial
  case append=>
   split
   ·cases hu:fH cx.T _ with
    |false=>exact .of_pure trivial
    | true=>
     simp only[IL,Hw];cases hha:bC cx.ann.ha o.dst with
     | true=>exact .of_stay (by unfold am;rw[ho];simp only[hc,hha,Hr]) (by unfold am;rw[ho];simp only[hc,hha,Hr]) (by
       cases bC cx.ann.hb o.dst with
       |true=>simp only[Hr];exact vZ _ _ _ _
       |false=>exact wa _ _ _ _ _)
     | false=>
      simp only[Hw];cases hhl:bC cx.ann.hl o.dst with
      | true=>
       refine .of_app (by unfold am;rw[ho];simp only[hc,hha,Hw]) (by unfold am;rw[ho];simp only[hc,hha,hhl,Hw]) ?_;simp only[Hr];refine bn.cond (fun _=>⟨ri _ _ _ _,oM _ _ _ _⟩) (fun _=>?_);split
       ·split
        ·trivial
        ·split
         ·trivial
         ·exact bn.cond (fun _=>⟨ri _ _ _ _,oM _ _ _ _⟩) (fun _=>trivial)
       ·trivial
      | false=>
       refine .of_pure ?_;simp only[Hw];refine bn.cond (fun _=>a8.lft _) (fun _=>?_);split
       ·split
        ·trivial
        ·split
         ·trivial
         ·exact bn.cond (fun _=>a8.lft _) (fun _=>trivial)
       ·trivial
   ·exact .of_pure trivial
  case len=>
   split
   ·exact .of_pure (a8.lft _)
   ·exact .of_pure trivial
  case min=>exact .of_pure (a8.lft _)
  case max=>exact .of_pure (a8.lft _)
omit [Dr]in
theorem dP(hI:IsoPure cx)(e:Env)(gid:Nat)(o:Oper):Class (am cx o) (eJ cx e gid o):=by
 unfold eJ;cases ho:o.op<;>simp only<;>(try exact .of_pure (a8.lft _))<;>(try exact .of_pure trivial)
 case binOp=>exact .of_pure (bn.cond (fun _=>trivial) fun _=>a8.lft _)
 case buildSlice t n ps=>
  cases hha:bC cx.ann.ha o.dst with
  |true=>exact .of_stay (by unfold am;rw[ho];simp only[hha,Hr]) (by unfold am;rw[ho];simp only[hha,Hr]) (rr _ _ _ _)
  |false=>exact .of_pure (a8.lft _)
 case move x=>exact .of_pure (pu _ x)
 case assign x=>exact .of_pure (pu _ x)
 case box t x=>
  cases hd:o.dst with
  |none=>exact .of_pure trivial
  |some s=>
   cases hk:bO cx.ann.kinds s .F with
   |H=>exact .of_stay (by unfold am;rw[ho];simp only[hd,hk]) (by unfold am;rw[ho];simp only[hd,hk]) (oR s t x).1
   |_=>exact .of_pure ((oR s t x).2 (by rw[hk];simp))
 case alloc t=>
  cases hd:o.dst with
  |none=>exact .of_pure trivial
  |some s=>
   cases hk:bO cx.ann.kinds s .L with
   |H=>exact .of_stay (by unfold am;rw[ho];simp only[hd,hk]) (by unfold am;rw[ho];simp only[hd,hk]) (iD s t).1
   |B=>exact .of_stay (by unfold am;rw[ho];simp only[hd,hk]) (by unfold am;rw[ho];simp only[hd,hk]) (iD s t).1
   |_=>exact .of_pure ((iD s t).2 (by rw[hk];simp) (by rw[hk];simp))
 case load t x=>
  cases x with
  |tmp p=>
   have h:=uf (cx:=cx) (e:=e) o.dst t p;simp only;cases hnl:bC cx.ann.nl o.dst&&ga (e.get p)with
   |true=>exact .of_pure trivial
   |false=>
   simp only[Hw];cases hz:bC cx.ann.fz o.dst with
   |true=>exact .of_stay (by unfold am;rw[ho];exact hz) (by unfold am;rw[ho]) (za (h.1.imp fun _ g=>g.stay))
   |false=>exact⟨fun _=>h.1.imp fun _ g=>g.stay,fun _=>h.1,fun _ hr=>h.2 (by unfold am at hr;rw[ho]at hr;exact hr),fun _=>zq o.dst t p,fun hn=>by unfold am at hn;rw[ho]at hn;cases hn⟩
  |_=>exact .of_pure trivial
 case store t x y=>
  cases x with
  | tmp p=>
   cases hd:o.dst with
   |some d=>exact .of_pure trivial
   | none=>
    simp only;cases hlw:ef cx.ann.lw p with
    |false=>exact .of_stay (by unfold am;rw[ho];simp[hlw]) (by unfold am;rw[ho]) (by simp only[J0,Hw];exact uD t p y)
    |true=>
     cases hlo:ga (e.get p)with
     |false=>exact .of_pure trivial
     |true=>exact .of_pure (by simp only[IL,Kt,Hw];exact uC t p y hlo)
  |_=>exact .of_pure trivial
 case nilCheck x=>
  cases x with
  |tmp p=>
   simp only;split
   ·exact .of_pure trivial
   ·exact .of_pure (a8.lft _)
  |_=>exact .of_pure trivial
 case fieldAddr t x i=>cases x<;>first|exact .of_pure (tY _ _ _)|exact .of_pure trivial
 case indexAddr t x i=>cases x<;>first|exact .of_pure (ua _ _ _)|exact .of_pure trivial
 case slice t x lo hi mx=>
  refine .of_pure (bn.cond (fun _=>?_) fun _=>a8.lft _);unfold kA;split
  ·split
   ·trivial
   ·split
    ·exact bn.cond (fun _=>a8.lft _) fun _=>trivial
    ·trivial
  ·trivial
 case makeMap t r=>exact .of_stay (by unfold am;rw[ho]) (by unfold am;rw[ho]) (bn.cond (fun _=>trivial) fun _=>qB)
 case lookup t x i ok=>exact .of_app (by unfold am;rw[ho]) (by unfold am;rw[ho]) ⟨wQ _ _ _ _ _,uh _ _ _ _ _⟩
 case mapUpdate t m k x=>exact .of_stay (by unfold am;rw[ho]) (by unfold am;rw[ho]) (by unfold iV;split;exact pF _ _ _ _ _;trivial)
 case insert t m k x=>exact .of_stay (by unfold am;rw[ho]) (by unfold am;rw[ho]) (by unfold iV;split;exact pF _ _ _ _ _;trivial)
 case range t x=>exact .of_stay (by unfold am;rw[ho]) (by unfold am;rw[ho]) (sE _ _ _)
 case entry x=>exact .of_app (by unfold am;rw[ho]) (by unfold am;rw[ho]) ⟨tQ _,rF _⟩
 case panic x=>
  refine .of_piv ?_ ?_ ?_
  ·unfold am;rw[ho]
  ·unfold am;rw[ho]
  ·intro hn;unfold am at hn;rw[ho]at hn;cases hn
 case call c=>exact tG hI ho
end
end Go.Av
namespace Go.Av
variable [Dr]
structure EqE (e e':Env):Prop where
 get:∀t,e'.get t=e.get t
 al:∀g,aC e'.al g=aC e.al g
 lb:∀B,bb e'.lb B=bb e.lb B
 lf:∀B,aT e'.sl B=aT e.sl B
omit [Dr]in
theorem EqE.refl(e:Env):EqE e e:=⟨fun _=>rfl,fun _=>rfl,fun _=>rfl,fun _=>rfl⟩
omit [Dr]in
theorem EqE.symm{e e':Env}(h:EqE e e'):EqE e' e:=⟨fun t=>(h.get t).symm,fun t=>(h.al t).symm,fun t=>(h.lb t).symm,fun t=>(h.lf t).symm⟩
omit [Dr]in
theorem EqE.trans{a b c:Env}(h:EqE a b)(g:EqE b c):EqE a c:=
 ⟨fun t=>(g.get t).trans (h.get t),fun t=>(g.al t).trans (h.al t),fun t=>(g.lb t).trans (h.lb t),fun t=>(g.lf t).trans (h.lf t)⟩
def RE:R Env->R Env->Prop
 |.fail,_=>True
 |.ok e h,r=>∃e',r= .ok e' h/\EqE e e'
 |.pan v h,r=>r= .pan v h
omit [Dr]in
theorem RE.refl(r:R Env):RE r r:=by
 cases r with
 |ok e h=>exact⟨e,rfl,.refl e⟩
 |pan v h=>exact rfl
 |fail=>trivial
omit [Dr]in
theorem RE.trans{a b c:R Env}(h:RE a b)(g:RE b c):RE a c:=by
 cases a with
 |ok e x=>
  obtain⟨e',rfl,h⟩:=h;obtain⟨e2,rfl,g⟩:=g;exact⟨e2,rfl,h.trans g⟩
 |pan v x=>cases h;exact g
 |fail=>trivial
omit [Dr]in
theorem gI(l r:List (Nat×Ent))(t:Nat):bw (l++r) t=if(∃x∈l,x.1=t)then bw l t else bw r t:=by
 induction l with
 |nil=>simp
 | cons x l ih=>
  obtain⟨k,y⟩:=x;rw[H8,bK,bK];by_cases hk:k=t
  ·subst hk;simp
  ·rw[if_neg hk,if_neg hk,ih];have:(∃x∈(k,y):: l,x.1=t)↔(∃x∈l,x.1=t):=by
    simp only[HO,exists_eq_or_imp];constructor
    ·rintro (h|h)
     ·exact absurd h hk
     ·exact h
    ·exact .inr
   simp only[this]
omit [Dr]in
theorem nA{l:List (Nat×Ent)}(r:List (Nat×Ent)){t:Nat}(h:∀x∈l,x.1≠t):bw (l++r) t=bw r t:=by
 rw[gI,if_neg];rintro⟨x,hx,ht⟩;exact h x hx ht
omit [Dr]in
theorem gJ(d:Option Tmp)(x:Ent)(r:List (Nat×Ent))(t:Nat):bw (ol d x r) t=if d=some t then x else bw r t:=by
 cases d with
 |none=>simp[ol]
 |some s=>simp only[ol,bK,Ho]
omit [Dr]in
theorem l7{l r s:List (Nat×Ent)}{t:Nat}(h:bw r t=bw s t):bw (l++r) t=bw (l++s) t:=by
 rw[gI,gI,h]
omit [Dr]in
theorem fA(l r:List (Nat×Ent))(B:Nat):aT (l++r) B=(aT l B&&aT r B):=by
 unfold aT;rw[List.all_append]
def kb(x:Ent)(B:Nat):Bool:=match x.v with
 |.loc C _=>!(Nat.beq C B)
 |.val _=>true
omit [Dr]in
theorem dL(d:Option Tmp)(x:Ent)(r:List (Nat×Ent))(B:Nat):aT (ol d x r) B=((d.isNone||kb x B)&&aT r B):=by
 cases d with
 |none=>simp[ol]
 |some t=>rfl
omit [Dr]in
theorem kq{l:List (Nat×Ent)}{B t C off:Nat}(h:aT l B=true)(ht:(bw l t).v= .loc C off):C≠B:=by
 induction l with
 |nil=>simp[bw,Ent.none]at ht
 | cons x l ih=>
  obtain⟨k,y⟩:=x;rw[bK]at ht;simp only[aT,Ip,Hq]at h;split at ht
  ·rw[ht]at h;have h1:=h.1;simp only[Ib]at h1;intro hc;rw[hc,Kd]at h1;cases h1
  ·exact ih (by unfold aT;exact h.2) ht
omit [Dr]in
theorem dI(l r:List (Nat×Option Nat))(g:Nat):aC (l++r) g=(match aC l g with|some z=>some z|none=>aC r g):=by
 induction l with
 |nil=>rfl
 |cons x l ih=>
  obtain⟨k,y⟩:=x;rw[H8,bB,bB];split
  ·rfl
  ·exact ih
omit [Dr]in
theorem lL{l:List (Nat×Option Nat)}{k g:Nat}(h:∀x∈l,x.1=k)(hg:g≠k):aC l g=none:=by
 induction l with
 |nil=>rfl
 | cons x l ih=>
  obtain⟨j,y⟩:=x;rw[bB,if_neg]
  ·exact ih fun x hx=>h x (by simp[hx])
  ·have:=h (j,y) (by simp)
   simp at this;omega
omit [Dr]in
theorem kp(r:List (Nat×Nat))(k B:Nat):bb (jr r k) B=if k=B then none else bb r B:=by
 induction r with
 |nil=>simp[jr,bb]
 | cons x r ih=>
  obtain⟨j,y⟩:=x;simp only[jr];by_cases hj:j=k
  ·subst hj;simp only[Kd,Hr,ih,dn];split<;>rfl
  ·have:Nat.beq j k=false:=by rw[IF];intro hh;exact hj (Hv hh)
   simp only[this,Hw,dn,ih];by_cases hg:j=B
   ·subst hg;rw[Ht rfl,if_neg (fun h=>hj h.symm),Ht rfl]
   ·rw[if_neg hg,if_neg hg]
omit [Dr]in
theorem EqE.upd{e e':Env}(h:EqE e e')(d:Option Tmp)(u:Upd):EqE (e.upd d u) (e'.upd d u):=by
 refine⟨fun t=>?_,fun g=>?_,fun B=>?_,fun B=>?_⟩
 ·show bw (ol d u.ent (u.ls++e'.sl)) t=bw (ol d u.ent (u.ls++e.sl)) t;rw[gJ,gJ,l7 (h.get t)]
 ·show aC (u.add++dD e'.al u.drop) g=aC (u.add++dD e.al u.drop) g;have:aC (dD e'.al u.drop) g=aC (dD e.al u.drop) g:=by
   cases u.drop with
   |none=>exact h.al g
   |some k=>simp only[dD,iC,h.al g]
  rw[dI,dI,this]
 ·show bb (jx (dv e'.lb u.unlb) u.lb) B=bb (jx (dv e.lb u.unlb) u.lb) B;have:bb (dv e'.lb u.unlb) B=bb (dv e.lb u.unlb) B:=by
   cases u.unlb with
   |none=>exact h.lb B
   |some k=>simp only[dv,kp,h.lb B]
  cases u.lb with
  |none=>exact this
  |some x=>
   obtain⟨k,n⟩:=x;simp only[jx,dn,this]
 ·show aT (ol d u.ent (u.ls++e'.sl)) B=aT (ol d u.ent (u.ls++e.sl)) B;rw[dL,dL,fA,fA,h.lf B]
section
variable {cx:Cx} {ops:Array Oper} {base:Nat}
def dO(ops:Array Oper)(o:Oper):List Nat:=match o.guard with
 |some (j,_)=>(match (ops[j]?).bind (·.dst)with|some t=>[t]|none=>[])
 |none=>[]
omit [Dr]in
theorem fa{i:Nat}{o:Oper}(ho:ops[i]? = some o):cB ops i=dO ops o++gC o:=by
 unfold cB dO;rw[ho];rfl
omit [Dr]in
theorem eT{e e':Env}{i:Nat}{o:Oper}(ho:ops[i]? = some o)(hg:∀t∈dO ops o,e'.get t=e.get t)(A:Agree cx o e e'){h:Hp}(hr:dU cx base ops i e h≠.fail):dU cx base ops i e' h=dU cx base ops i e h:=by
 unfold dU at hr |-;rw[ho]at hr;rw[ho];simp only at hr |-;have key:∀ {A':Act1->Act1} ,(∀h,dm (A' .bad) h= .fail)->dm (A' (eJ cx e ((base+i)*1000) o)) h≠.fail->dm (A' (eJ cx e' ((base+i)*1000) o)) h=dm (A' (eJ cx e ((base+i)*1000) o)) h:=by
  intro A' h1 h2;rw[wW A];intro hb;rw[hb]at h2;exact h2 (h1 h)
 cases hgd:o.guard with
 |none=>
  rw[hgd]at hr;exact key (A':=id) (fun _=>rfl) hr
 | some g=>
  obtain⟨j,want⟩:=g;rw[hgd]at hr;simp only at hr |-;cases hdj:cR ops j with
  |none=>rfl
  | some t=>
   rw[hdj]at hr;simp only at hr |-;cases hpl:dQ cx o with
   |false=>rfl
   | true=>
    rw[hpl]at hr;simp only[Hr]at hr |-;have ht:e'.get t=e.get t:=hg t (by unfold dO;rw[hgd];simp only;rw[show (ops[j]?).bind (·.dst)=some t from hdj];simp);have hav:e'.av t=e.av t:=by simp only[Env.av,ht]
    rw[hav];cases hq:e.av t with
    | bool b=>
     rw[hq]at hr;simp only[ir]at hr |-;cases hb:(b== want)with
     |false=>rfl
     |true=>
      rw[hb]at hr;exact key (A':=fI) (fun _=>rfl) hr
    |tup vs=>cases vs<;>rfl
    |_=>rfl
omit [Dr]in
theorem EqE.agree{e e':Env}(h:EqE e e')(o:Oper):Agree cx o e e':=
 ⟨fun t _=>h.get t,fun _=>⟨fun t _=>h.get t,h.lb⟩,fun _=>h.al,fun _ s _ hl=>by rw[h.lf];exact hl⟩
omit [Dr]in
theorem sV{e e':Env}(h:EqE e e')(i:Nat)(x:Hp):RE (stepG cx base ops i e x) (stepG cx base ops i e' x):=by
 unfold stepG;simp only[ae,M.pure];cases hr:dU cx base ops i e x with
 |fail=>trivial
 | _=>
  have ho:∃o,ops[i]? = some o:=by
   cases ho:ops[i]? with
   |none=>unfold dU at hr;rw[ho]at hr;cases hr
   |some o=>exact⟨o,rfl⟩
  obtain⟨o,ho⟩:=ho;rw[eT ho (fun t _=>h.get t) (h.agree o) (by rw[hr];simp),hr]
  first
   |exact⟨_,rfl,h.upd _ _⟩
   |exact rfl
omit [Dr]in
theorem RE.bind{m m':M Env}{x x':Hp}(h:RE (m x) (m' x')){f f':Env->M Env}(hf:∀e e' x,EqE e e'->RE (f e x) (f' e' x)):RE (ae m f x) (ae m' f' x'):=by
 simp only[ae];revert h;generalize m x=r;generalize m' x'=r';intro h;cases r with
 |ok e x=>obtain⟨e',rfl,h⟩:=h;exact hf e e' x h
 |pan v x=>cases h;exact rfl
 |fail=>trivial
omit [Dr]in
theorem kI:∀(l:List Nat){e e':Env}(_:EqE e e')(x:Hp),RE (aP cx base ops l e x) (aP cx base ops l e' x)
 |[],e,e',h,x=>⟨e',rfl,h⟩
 |i:: l,e,e',h,x=>by
  exact RE.bind (sV h i x) fun e e' x h=>kI l h x
end
end Go.Av
namespace Go.Av
variable [Dr]
omit [Dr]in
theorem sq{l:List Nat}{t:Nat}(h:t∈l):ef l t=true:=(fB l t).2 h
omit [Dr]in
theorem kv{l:List Nat}{d:Option Nat}(h:bC l d=false):∀t∈l,d≠some t:=by
 intro t ht hd;rw[hd]at h;simp only[bC]at h;rw[sq ht]at h;cases h
omit [Dr]in
theorem lx{a b:Option Nat}(h:clash a b=false):∀t,a=some t->b≠some t:=by
 intro t ha hb;rw[ha,hb]at h;simp[clash]at h
section
variable {cx:Cx} {ops:Array Oper} {base:Nat} {e:Env}
omit [Dr]in
theorem qO{gid:Nat}{f:Foot}{ss:Option Nat}{u:Upd}(h:Shape e gid f ss u):Shape e gid f ss (fk u):=
 ⟨fun _=>rfl,fun _=>rfl,fun _=>rfl,fun _ x h=>by simp[fk]at h,fun _=>rfl,fun _=>rfl,fun hw C off hh=>h.loc hw C off hh,fun x h=>by simp[fk]at h⟩
omit [Dr]in
theorem uE{p q:Upd->Prop}(hpq:∀u,p u->q (fk u)){A:Act1}(h:bR p A):bR q (fI A):=by
 cases A with
 |bad=>trivial
 |stat u=>exact hpq _ h
 |dyn m sh=>exact fun v=>hpq _ (h v)
 |thr v=>trivial
omit [Dr]in
theorem z8{p:∀ {α:Type},M α->Prop}{A:Act1}(h:bn p A):bn p (fI A):=by
 cases A<;>exact h
omit [Dr]in
theorem mF{i:Nat}{o:Oper}(ho:ops[i]? = some o){h h':Hp}{u:Upd}(hr:dU cx base ops i e h= .ok u h'):Shape e ((base+i)*1000) (am cx o) (bP o) u:=by
 unfold dU at hr;rw[ho]at hr;simp only at hr;cases hgd:o.guard with
 |none=>rw[hgd]at hr;exact i6 (jh _ _ _ _) hr
 | some g=>
  obtain⟨j,want⟩:=g;rw[hgd]at hr;simp only at hr;cases hdj:cR ops j with
  |none=>rw[hdj]at hr;cases hr
  | some t=>
   rw[hdj]at hr;simp only at hr;cases hpl:dQ cx o with
   |false=>rw[hpl]at hr;cases hr
   | true=>
    rw[hpl]at hr;simp only[Hr]at hr;have h0:∀ {h h':Hp},(M.pure (Upd.ofV (.tup [])):M Upd) h= .ok u h'->Shape e ((base+i)*1000) (am cx o) (bP o) u:=by
     intro h h' hh;cases hh;exact Shape.ofV ..
    generalize e.av t=q at hr;cases q with
    |bool b=>
     simp only[ir]at hr;cases hb:(b== want)with
     |false=>rw[hb]at hr;exact h0 hr
     |true=>rw[hb]at hr;exact i6 (uE (fun u=>qO) (jh _ _ _ _)) hr
    |tup vs=>
     cases vs with
     |nil=>exact h0 hr
     |cons v vs=>cases hr
    |_=>cases hr
omit [Dr]in
theorem uK{p:∀ {α:Type},M α->Prop}(h1:∀ {α:Type} (m:M α),a8 m->p m)(h2:∀ {α β:Type} (m:M α) (f:α->β),p m->p (ae m fun v=>M.pure (f v))){A:Act1}(h:bn p A):p (dm A):=by
 cases A with
 |bad=>exact h1 _ a8.fail
 |stat u=>exact h1 _ (a8.pure u)
 |dyn m sh=>exact h2 _ _ h
 |thr v=>exact h.elim
omit [Dr]in
theorem gQ{p:∀ {α:Type},M α->Prop}(h1:∀ {α:Type} (m:M α),a8 m->p m)(h2:∀ {α β:Type} (m:M α) (f:α->β),p m->p (ae m fun v=>M.pure (f v))){i:Nat}{o:Oper}(ho:ops[i]? = some o)(h:bn p (eJ cx e ((base+i)*1000) o)):p (dU cx base ops i e):=by
 unfold dU;rw[ho];simp only;cases hgd:o.guard with
 |none=>exact uK h1 h2 h
 | some g=>
  obtain⟨j,want⟩:=g;simp only;cases hdj:cR ops j with
  |none=>exact h1 _ a8.fail
  | some t=>
   simp only;cases hpl:dQ cx o with
   |false=>exact h1 _ a8.fail
   | true=>
    simp only[Hr];unfold ir;split
    ·rename_i b _;cases hb:(b== want)with
     |false=>exact h1 _ (a8.pure _)
     |true=>exact uK h1 h2 (z8 h)
    ·exact h1 _ (a8.pure _)
    ·exact h1 _ a8.fail
structure Small (ops:Array Oper):Prop where
 dst:∀(i:Nat)(o:Oper),ops[i]? = some o->∀t,o.dst=some t->t<1000
 src:∀(i:Nat)(o:Oper),ops[i]? = some o->∀t∈gC o,t<1000
omit [Dr]in
theorem Small.reads(hS:Small ops){i:Nat}{o:Oper}(ho:ops[i]? = some o):∀t∈cB ops i,t<1000:=by
 intro t ht;rw[fa ho,HV]at ht;rcases ht with ht|ht
 ·unfold dO at ht;split at ht
  ·rename_i j _ _;cases hj:ops[j]? with
   |none=>rw[hj]at ht;simp at ht
   |some oj=>
    rw[hj]at ht;simp only[I9]at ht;cases hd:oj.dst with
    |none=>rw[hd]at ht;simp at ht
    |some s=>rw[hd]at ht;simp at ht;rw[ht];exact hS.dst j oj hj s hd
  ·simp at ht
 ·exact hS.src i o ho t ht
omit [Dr]in
theorem li{gid:Nat}{x:Foot}{ss:Option Nat}{u:Upd}{d:Option Tmp}(hsh:Shape e gid x ss u){t:Nat}(h1:d≠some t)(h2:ss≠some t)(h3:t<1000):(e.upd d u).get t=e.get t:=by
 rw[bX,if_neg h1];refine nA _ fun y hy hyt=>?_;rcases hsh.keys y hy with h|h
 ·omega
 ·exact h2 (by rw[h,hyt])
omit [Dr]in
theorem zc{gid:Nat}{x:Foot}{ss:Option Nat}{u:Upd}{d:Option Tmp}(hsh:Shape e gid x ss u)(hw:x.wl=false){t:Nat}(h1:d≠some t):(e.upd d u).get t=e.get t:=by
 rw[bX,if_neg h1,hsh.ls hw];rfl
omit [Dr]in
theorem oJ{gid:Nat}{x:Foot}{ss:Option Nat}{u:Upd}{d:Option Tmp}{o:Oper}(hsh:Shape e gid x ss u)(hd:∀t,d=some t->t<1000)(hops:∀t∈gC o,d≠some t/\ss≠some t/\t<1000)(hloc:((am cx o).rl||(am cx o).wl)=true->x.wl=false)(hal:(am cx o).dr=true->x.ad=false/\x.dr=false):Agree cx o e (e.upd d u):=by
 refine⟨fun t ht=>li hsh (hops t ht).1 (hops t ht).2.1 (hops t ht).2.2,fun h=>⟨fun t ht=>zc hsh (hloc h) (fun hh=>Nat.not_lt.2 ht (hd t hh)),fun B=>?_⟩,fun h g=>?_,fun h s _ hl=>?_⟩
 ·show bb (jx (dv e.lb u.unlb) u.lb) B=bb e.lb B;rw[hsh.lb (hloc h),hsh.unlb (hloc h)];rfl
 ·show aC (u.add++dD e.al u.drop) g=aC e.al g;rw[hsh.noad (hal h).1,hsh.nodr (hal h).2];rfl
 ·have hw:=hloc (by rw[h];simp);show aT (ol d u.ent (u.ls++e.sl)) (ba s)=true;rw[hsh.ls hw,dL,Ir,hl,Jv];have:kb u.ent (ba s)=true:=by
   unfold kb;split
   ·rename_i C off hv;obtain⟨t,off',ht⟩:=hsh.loc hw C off hv
    have:=kq hl ht
    rw[Ib,IF];intro hh;exact this (Hv hh)
   ·rfl
  rw[this,Bool.or_true]
omit [Dr]in
theorem vV{gid:Nat}{x:Foot}{ss:Option Nat}{u:Upd}{d:Option Tmp}{o:Oper}(hsh:Shape e gid x ss u)(hd:∀t,d=some t->t<1000)(hops:∀t∈gC o,d≠some t/\ss≠some t/\t<1000)(hloc:((am cx o).rl||(am cx o).wl)=true->x.wl=false)(hal:(am cx o).dr=true->x.ad=false/\x.dr=false):Agree cx o (e.upd d u) e:=by
 have A:=oJ (cx:=cx) hsh hd hops hloc hal;refine⟨fun t ht=>(A.ops t ht).symm,fun h=>⟨fun t ht=>((A.loc h).1 t ht).symm,fun B=>((A.loc h).2 B).symm⟩,fun h g=>(A.al h g).symm,fun _ s _ hl=>?_⟩;have hl':aT (ol d u.ent (u.ls++e.sl)) (ba s)=true:=hl;rw[dL,fA]at hl';simp only[Hq]at hl';exact hl'.2.2
omit [Dr]in
theorem ta{gi gj:Nat}{x y:Foot}{si sj:Option Nat}{u v:Upd}{d f:Option Tmp}(hu:Shape e gi x si u)(hv:Shape e gj y sj v)(hy:y.wl=false)(hf:∀t,f=some t->t<1000)(hdf:∀t,d=some t->f≠some t)(hsf:∀t,si=some t->f≠some t)(hg:gi≠gj)(h1:x.dr=true->y.dr=false/\y.ad=false)(h2:x.ad=true->y.dr=false)(h3:x.ad=true->y.ad=true->x.wl=false):EqE ((e.upd d u).upd f v) ((e.upd f v).upd d u):=by
 have e1:=hv.ls hy;have e2:=hv.lb hy;have e3:=hv.unlb hy;refine⟨fun t=>?_,fun g=>?_,fun B=>?_,fun B=>?_⟩
 ·rw[bX,bX,e1];show (if d=some t then u.ent else bw (u.ls++ol f v.ent (v.ls++e.sl)) t)=if f=some t then v.ent else bw (ol d u.ent (u.ls++e.sl)) t;rw[e1,gJ,Ir];by_cases hft:f=some t
  ·rw[Ht hft,if_neg (fun h=>hdf t h hft),nA,gJ,Ht hft];intro z hz hzt;rcases hu.keys z hz with h|h
   ·exact Nat.not_lt.2 h (by rw[hzt];exact hf t hft)
   ·exact hsf z.1 h (by rw[hzt];exact hft)
  ·rw[if_neg hft];split
   ·rfl
   ·exact l7 (by rw[gJ,if_neg hft])
 ·show aC (u.add++dD (v.add++dD e.al v.drop) u.drop) g=aC (v.add++dD (u.add++dD e.al u.drop) v.drop) g;cases hxd:x.dr with
  |true=>
   obtain⟨h4,h5⟩:=h1 hxd;rw[hv.noad h5,hv.nodr h4];rfl
  | false=>
   rw[hu.nodr hxd];cases hxa:x.ad with
   |false=>rw[hu.noad hxa];rfl
   | true=>
    rw[hv.nodr (h2 hxa)];cases hya:y.ad with
    |false=>rw[hv.noad hya];rfl
    |true=>
     have k1:=hu.add (h3 hxa hya);have k2:=hv.add hy;show aC (u.add++(v.add++e.al)) g=aC (v.add++(u.add++e.al)) g;rw[dI,dI,dI,dI];by_cases hgi:g=gi
     ·rw[lL k2 (by omega)]
     ·rw[lL k1 hgi]
 ·show bb (jx (dv (jx (dv e.lb v.unlb) v.lb) u.unlb) u.lb) B=bb (jx (dv (jx (dv e.lb u.unlb) u.lb) v.unlb) v.lb) B;rw[e2,e3];rfl
 ·show aT (ol d u.ent (u.ls++ol f v.ent (v.ls++e.sl))) B=aT (ol f v.ent (v.ls++ol d u.ent (u.ls++e.sl))) B;simp only[dL,fA]
  ac_rfl
end
end Go.Av
namespace Go.Av
variable [Dr]
section
variable {cx:Cx} {ops:Array Oper} {base:Nat}
structure Ind (cx:Cx) (ops:Array Oper) (i j:Nat) (a b:Oper):Prop where
 ha:ops[i]? = some a
 hb:ops[j]? = some b
 piv:(am cx a).piv=false
 l1:(am cx a).wl=true->(am cx b).rl=false/\(am cx b).wl=false
 l2:(am cx a).rl=true->(am cx b).wl=false
 h1:(am cx a).wh=true->(am cx b).rh=false/\(am cx b).wh=false
 h2:(am cx a).rh=true->(am cx b).wh=false\/(am cx b).nw=true
 g1:(am cx a).dr=true->(am cx b).dr=false/\(am cx b).ad=false
 g2:(am cx a).ad=true->(am cx b).dr=false
 g3:(am cx a).ad=true->(am cx b).ad=true->(am cx a).wl=false/\(am cx b).wl=false
 r1:∀t∈cB ops j,a.dst≠some t
 r2:∀t∈cB ops i,b.dst≠some t
 s1:∀t∈cB ops j,bP a≠some t
 s2:∀t∈cB ops i,bP b≠some t
 c1:∀t,bP a=some t->b.dst≠some t
 c2:∀t,a.dst=some t->bP b≠some t
 c3:∀t,a.dst=some t->b.dst≠some t
omit [Dr]in
theorem wK{i j:Nat}(h:kk cx ops i j=true):∃a b,Ind cx ops i j a b:=by
 unfold kk at h;split at h
 ·rename_i a b ha hb;refine⟨a,b,?_⟩;simp only[Hq,Ib]at h;obtain⟨⟨⟨⟨⟨⟨⟨⟨⟨⟨⟨⟨⟨⟨k1,k2⟩,k3⟩,k4⟩,k5⟩,k6⟩,k7⟩,k8⟩,k9⟩,k10⟩,k11⟩,k12⟩,k13⟩,k14⟩,k15⟩:=h;refine⟨ha,hb,k1,fun q=>?_,fun q=>?_,fun q=>?_,fun q=>?_,fun q=>?_,fun q=>?_,fun q q'=>?_,kv k9,kv k10,kv k11,kv k12,lx k13,lx k14,lx k15⟩
  ·rw[q]at k2;simpa using k2
  ·rw[q]at k3;simpa using k3
  ·rw[q]at k4;simpa using k4
  ·rw[q]at k5;simp only[IA]at k5;cases hb:(am cx b).wh<;>simp_all
  ·rw[q]at k6;simpa using k6
  ·rw[q]at k7;simpa using k7
  ·rw[q,q']at k8;simpa using k8
 ·cases h
omit [Dr]in
theorem swap(hI:IsoPure cx)(hS:Small ops){i j:Nat}(hij:kk cx ops i j=true)(hne:i≠j)(e:Env)(h:Hp):
  RE (ae (stepG cx base ops i e) (stepG cx base ops j) h) (ae (stepG cx base ops j e) (stepG cx base ops i) h):=by
 obtain⟨a,b,I⟩:=wK hij;have hda:cR ops i=a.dst:=by simp[cR,I.ha]
 have hdb:cR ops j=b.dst:=by simp[cR,I.hb]
 unfold stepG;rw[hda,hdb];simp only[ae,M.pure];cases hri:dU cx base ops i e h with
 |fail=>trivial
 |pan v h'=>exact absurd hri (gQ (p:=@dC) (fun _ g=>g.read.stay) (fun _ f g=>g.bnd f) I.ha ((dP hI e _ a).stay I.piv) h v h')
 | ok u h1=>
  simp only;have shu:=mF I.ha hri;have hra:=fa (ops:=ops) I.ha;have hrb:=fa (ops:=ops) I.hb;have hbo:∀t∈gC b,a.dst≠some t/\bP a≠some t/\t<1000:=fun t ht=>⟨I.r1 t (by rw[hrb];simp[ht]),I.s1 t (by rw[hrb];simp[ht]),hS.src j b I.hb t ht⟩;have hao:∀t∈gC a,b.dst≠some t/\bP b≠some t/\t<1000:=fun t ht=>⟨I.r2 t (by rw[hra];simp[ht]),I.s2 t (by rw[hra];simp[ht]),hS.src i a I.ha t ht⟩;have Abwd:Agree cx b (e.upd a.dst u) e:=vV shu (hS.dst i a I.ha) hbo (fun q=>by
   cases hw:(am cx a).wl with
   |false=>rfl
   |true=>obtain⟨q1,q2⟩:=I.l1 hw;rw[q1,q2]at q;cases q) (fun q=>by
   constructor
   ·cases hw:(am cx a).ad with
    |false=>rfl
    |true=>have:=I.g2 hw;rw[this]at q;cases q
   ·cases hw:(am cx a).dr with
    |false=>rfl
    |true=>have:=(I.g1 hw).1;rw[this]at q;cases q)
  have hgb:∀t∈dO ops b,e.get t=(e.upd a.dst u).get t:=fun t ht=>by
   have htr:t∈cB ops j:=by rw[hrb];simp[ht]
   exact (li shu (I.r1 t htr) (I.s1 t htr) (hS.reads I.hb t htr)).symm
  -- the second, after the first
  cases hrj:dU cx base ops j (e.upd a.dst u) h1 with
  |fail=>trivial
  | pan v h2=>
   have hj:=eT (base:=base) I.hb hgb Abwd (h:=h1) (by rw[hrj];simp);rw[hrj]at hj
   -- j leaves: so it may write, and i did not touch the heap
   have hwb:(am cx b).wh=true:=by
    cases hw:(am cx b).wh with
    |true=>rfl
    |false=>exact absurd hj ((gQ (p:=@de) (fun _ g=>g.read) (fun _ f g=>g.bnd f) I.hb ((dP hI e _ b).read hw)).stay _ _ _)
   have hwa:(am cx a).wh=false:=by
    cases hw:(am cx a).wh with
    |false=>rfl
    |true=>have:=(I.h1 hw).2;rw[this]at hwb;cases hwb
   have hh:h1=h:=by
    have hR:de (dU cx base ops i e):=gQ (p:=@de) (fun _ g=>g.read) (fun _ f g=>g.bnd f) I.ha ((dP hI e _ a).read hwa);rcases hR h with hx|⟨u',hx⟩<;>rw[hri]at hx<;>cases hx;rfl
   subst hh;rw[hj];exact rfl
  | ok v h2=>
   have hj:=eT (base:=base) I.hb hgb Abwd (h:=h1) (by rw[hrj];simp);rw[hrj]at hj;have shv:=mF I.hb hj;have Afwd:Agree cx a e (e.upd b.dst v):=oJ shv (hS.dst j b I.hb) hao (fun q=>by
    cases hw:(am cx b).wl with
    |false=>rfl
    | true=>
     exfalso;cases hrl:(am cx a).rl with
     |true=>have:=I.l2 hrl;rw[this]at hw;cases hw
     |false=>
      rw[hrl]at q;have hwl:(am cx a).wl=true:=by simpa using q
      have:=(I.l1 hwl).2
      rw[this]at hw;cases hw) (fun q=>⟨(I.g1 q).2,(I.g1 q).1⟩)
   have hga:∀t∈dO ops a,(e.upd b.dst v).get t=e.get t:=fun t ht=>by
    have htr:t∈cB ops i:=by rw[hra];simp[ht]
    exact li shv (I.r2 t htr) (I.s2 t htr) (hS.reads I.ha t htr)
   have hcomm:EqE ((e.upd a.dst u).upd b.dst v) ((e.upd b.dst v).upd a.dst u):=by
    have hgij:(base+i)*1000≠(base+j)*1000:=by omega
    cases hwb:(am cx b).wl with
    |false=>
     exact ta shu shv hwb (hS.dst j b I.hb) I.c3 I.c1 hgij I.g1 I.g2 (fun q q'=>(I.g3 q q').1)
    | true=>
     have hwa:(am cx a).wl=false:=by
      cases hw:(am cx a).wl with
      |false=>rfl
      |true=>have:=(I.l1 hw).2;rw[this]at hwb;cases hwb
     refine (ta shv shu hwa (hS.dst i a I.ha) (fun t ht hh=>I.c3 t hh ht) (fun t ht hh=>I.c2 t hh ht) (Ne.symm hgij) (fun q=>⟨?_,?_⟩) (fun q=>?_) (fun q q'=>?_)).symm
     ·cases hw:(am cx a).dr with
      |false=>rfl
      |true=>have:=(I.g1 hw).1;rw[this]at q;cases q
     ·cases hw:(am cx a).ad with
      |false=>rfl
      |true=>have:=I.g2 hw;rw[this]at q;cases q
     ·cases hw:(am cx a).dr with
      |false=>rfl
      |true=>have:=(I.g1 hw).2;rw[this]at q;cases q
     ·have:=(I.g3 q' q).2;rw[this]at hwb;cases hwb
   cases hwa:(am cx a).wh with
   | false=>
    have hR:de (dU cx base ops i e):=gQ (p:=@de) (fun _ g=>g.read) (fun _ f g=>g.bnd f) I.ha ((dP hI e _ a).read hwa);have hh:h1=h:=by
     rcases hR h with hx|⟨u',hx⟩<;>rw[hri]at hx<;>cases hx;rfl
    subst hh;rw[hj];simp only;have hi2:dU cx base ops i e h2= .ok u h2:=by
     cases hra':(am cx a).rh with
     |false=>
      obtain⟨q,hq⟩:a8 (dU cx base ops i e):=gQ (p:=@a8) (fun _ g=>g) (fun _ f g=>g.bnd f) I.ha ((dP hI e _ a).pure hwa hra');rw[hq]at hri |-;cases q with
      |none=>cases hri
      |some u'=>cases hri;rfl
     | true=>
      rcases I.h2 hra' with hwb|hnw
      case inr=>
       have hNw:tk (dU cx base ops j e):=gQ (p:=@tk) (fun _ g=>g.nw) (fun _ f g=>g.bnd f) I.hb ((dP hI e _ b).nw hnw);have hAp:jm (dU cx base ops i e)/\de (dU cx base ops i e):=gQ (p:=fun m=>jm m/\de m) (fun _ g=>⟨g.app,g.read⟩) (fun _ f g=>jm.bnd g f) I.ha ((dP hI e _ a).app hwa);obtain⟨t,rfl⟩:=hNw _ _ _ hj;exact hAp.1 _ t _ hri
      have hRb:de (dU cx base ops j e):=gQ (p:=@de) (fun _ g=>g.read) (fun _ f g=>g.bnd f) I.hb ((dP hI e _ b).read hwb);rcases hRb h1 with hx|⟨u',hx⟩<;>rw[hj]at hx<;>cases hx;exact hri
    rw[eT I.ha hga Afwd (by rw[hi2];simp),hi2];exact⟨_,rfl,hcomm⟩
   | true=>
    obtain⟨hrb',hwb⟩:=I.h1 hwa;obtain⟨q,hq⟩:a8 (dU cx base ops j e):=gQ (p:=@a8) (fun _ g=>g) (fun _ f g=>g.bnd f) I.hb ((dP hI e _ b).pure hwb hrb');rw[hq]at hj |-;cases q with
    |none=>cases hj
    |some u'=>
     cases hj;simp only[af];rw[eT I.ha hga Afwd (by rw[hri];simp),hri];exact⟨_,rfl,hcomm⟩
omit [Dr]in
theorem Ca(hI:IsoPure cx)(hS:Small ops){i:Nat}(q:List Nat):∀(p:List Nat),(∀x∈p,kk cx ops x i=true/\x≠i)->∀(e:Env)(h:Hp),RE (aP cx base ops (p++i:: q) e h) (aP cx base ops (i:: (p++q)) e h)
 |[],_,e,h=>RE.refl _
 | x:: p,hp,e,h=>by
  have ih:=fun e h=>Ca hI hS q p (fun y hy=>hp y (by simp[hy])) e h;have h1:RE (aP cx base ops (x:: (p++i:: q)) e h) (aP cx base ops (x:: i:: (p++q)) e h):=by
   simp only[aP,ae]at ih |-;cases stepG cx base ops x e h with
   |ok e' h'=>exact ih e' h'
   |pan v h'=>exact rfl
   |fail=>trivial
  refine h1.trans ?_;have e1:aP cx base ops (x:: i:: (p++q)) e=ae (ae (stepG cx base ops x e) (stepG cx base ops i)) (aP cx base ops (p++q)):=by rw[fm];rfl
  have e2:aP cx base ops (i:: x:: (p++q)) e=ae (ae (stepG cx base ops i e) (stepG cx base ops x)) (aP cx base ops (p++q)):=by rw[fm];rfl
  show RE (aP cx base ops (x:: i:: (p++q)) e h) (aP cx base ops (i:: x:: (p++q)) e h);rw[e1,e2];exact RE.bind (swap hI hS (hp x (by simp)).1 (hp x (by simp)).2 e h) fun e e' x h=>kI _ h x
end
end Go.Av
namespace Go.Av
variable [Dr]
omit [Dr]in
theorem zP{a b:Option (Nat×Bool)}(h:vM a b=true):a=b:=by
 unfold vM at h;split at h
 ·rfl
 ·simp only[Hq,HX]at h;rw[Hv h.1,h.2]
 ·cases h
def fK(gs:List (Option (Nat×Bool)×List Nat)):List Nat:=gs.flatMap (·.2)
omit [Dr]in
theorem gz(ops:Array Oper):∀l:List Nat,fK (cT ops l)=l/\∀g∈cT ops l,∀i∈g.2,guardOf ops i=g.1
 |[]=>⟨rfl,by simp[cT]⟩
 | i :: is=>by
  obtain⟨h1,h2⟩:=gz ops is;simp only[cT];cases hg:cT ops is with
  |nil=>
   rw[hg]at h1;have:is=[]:=by simpa [fK]using h1.symm
   subst this;exact⟨rfl,by simp⟩
  | cons x r=>
   obtain⟨g,js⟩:=x;rw[hg]at h1 h2;simp only;cases hs:vM (guardOf ops i) g with
   | true=>
    refine⟨?_,fun y hy=>?_⟩
    ·simp only[Hr,fK,Jf,H8]at h1 |-;rw[h1]
    ·simp only[Hr,HO]at hy;rcases hy with rfl|hy
     ·intro k hk;simp only[HO]at hk;rcases hk with rfl|hk
      ·exact zP hs
      ·exact h2 (g,js) (by simp) k hk
     ·exact h2 y (by simp[hy])
   | false=>
    refine⟨?_,fun y hy=>?_⟩
    ·simp only[Hw,fK,Jf,H8,Ir]at h1 |-;rw[h1]
    ·simp only[Hw,HO]at hy;rcases hy with rfl|rfl|hy
     ·intro k hk;simp only[Im]at hk;subst hk;rfl
     ·exact h2 (g,js) (by simp)
     ·exact h2 y (by simp[hy])
omit [Dr]in
theorem rG{ρ:Type}(e:Env)(d:Option Tmp)(A:Act1)(k:Env->M ρ):kc e d A k=ae (dm A) fun u=>k (e.upd d u):=by
 cases A with
 |bad=>rfl
 |stat u=>rfl
 |dyn m sh=>simp only[kc,dm,fm,aV]
 |thr v=>rfl
omit [Dr]in
theorem we{α β:Type}{m:M α}{f g:α->M β}{h:Hp}(hfg:∀u h',m h= .ok u h'->f u h'=g u h'):ae m f h=ae m g h:=by
 simp only[ae];cases hm:m h with
 |ok u h'=>exact hfg u h' hm
 |pan v h'=>rfl
 |fail=>rfl
section
variable {cx:Cx} {ops:Array Oper} {base:Nat}
omit [Dr]in
theorem vU{i:Nat}{o:Oper}(ho:ops[i]? = some o)(hg:guardOf ops i=none)(e:Env):dU cx base ops i e=dm (eJ cx e ((base+i)*1000) o):=by
 have:o.guard=none:=by simpa [guardOf,ho]using hg
 unfold dU;rw[ho];simp only;rw[this]
omit [Dr]in
theorem kS{i j t:Nat}{want:Bool}{o:Oper}(ho:ops[i]? = some o)(hg:guardOf ops i=some (j,want))(hj:cR ops j=some t)(hp:dQ cx o=true)(e:Env):
  dU cx base ops i e=ir (e.av t) want (dm (fI (eJ cx e ((base+i)*1000) o))):=by
 have:o.guard=some (j,want):=by simpa [guardOf,ho]using hg
 unfold dU;rw[ho];simp only;rw[this];simp only;rw[hj];simp only;rw[hp];rfl
omit [Dr]in
theorem sL{ρ:Type}:∀(is:List Nat)(e:Env)(k:Env->M ρ)(_:∀i∈is,guardOf ops i=none),gp cx base ops false is e k=ae (aP cx base ops is e) k
 |[],e,k,_=>rfl
 | i:: is,e,k,hg=>by
  simp only[gp,aP];unfold stepG;cases ho:ops[i]? with
  |none=>unfold dU;rw[ho];rfl
  |some o=>
   simp only;rw[rG,vU ho (hg i (by simp)),fm,fm];have hd:cR ops i=o.dst:=by simp[cR,ho]
   rw[hd];congr 1;funext u;simp only[aV];exact sL is _ k fun j hj=>hg j (by simp[hj])
structure Turned (ds:List Nat) (e e':Env):Prop where
 get:∀t,t ∉ ds->e'.get t=e.get t
 al:e'.al=e.al
 lb:e'.lb=e.lb
 lf:∀B,aT e.sl B=true->aT e'.sl B=true
 ng:∀t∈ds,(e'.get t).g=none
omit [Dr]in
theorem Turned.step{ds:List Nat}{e e':Env}(H:Turned ds e e'){u:Upd}{d:Option Nat}(hls:u.ls=[])(hadd:u.add=[])(hdrop:u.drop=none)(hlb:u.lb=none)(hunlb:u.unlb=none)(hg:u.ent.g=none)(hloc:∀C off,u.ent.v= .loc C off->∃t off',(e'.get t).v= .loc C off'):Turned (d.toList++ds) e (e'.upd d u):=by
 have hget:∀t,(e'.upd d u).get t=if d=some t then u.ent else e'.get t:=fun t=>by rw[bX,hls];rfl
 refine⟨fun t ht=>?_,?_,?_,fun B hB=>?_,fun t ht=>?_⟩
 ·simp only[HV,not_or,Jh]at ht;rw[hget,if_neg ht.1];exact H.get t ht.2
 ·show u.add++dD e'.al u.drop=e.al;rw[hadd,hdrop];exact H.al
 ·show jx (dv e'.lb u.unlb) u.lb=e.lb;rw[hlb,hunlb];exact H.lb
 ·have h1:=H.lf B hB;show aT (ol d u.ent (u.ls++e'.sl)) B=true;rw[hls,dL,Ir,h1,Jv];have:kb u.ent B=true:=by
   unfold kb;split
   ·rename_i C off hv;obtain⟨t,off',ht⟩:=hloc C off hv
    have:=kq h1 ht
    rw[Ib,IF];intro hh;exact this (Hv hh)
   ·rfl
  rw[this,Bool.or_true]
 ·rw[hget];split
  ·exact hg
  ·rename_i hd;simp only[HV,Jh]at ht;rcases ht with ht|ht
   ·exact absurd ht hd
   ·exact H.ng t ht
omit [Dr]in
theorem Turned.refl(e:Env):Turned [] e e:=⟨fun _ _=>rfl,rfl,rfl,fun _ h=>h,fun t h=>by simp at h⟩
omit [Dr]in
theorem Turned.sub{ds ds':List Nat}{e e':Env}(H:Turned ds e e')(h:∀t,t∈ds↔t∈ds'):Turned ds' e e':=
 ⟨fun t ht=>H.get t fun hh=>ht ((h t).1 hh),H.al,H.lb,H.lf,fun t ht=>H.ng t ((h t).2 ht)⟩
structure GroupOk (cx:Cx) (ops:Array Oper) (j:Nat) (want:Bool) (t:Nat) (is:List Nat):Prop where
 hj:cR ops j=some t
 each:∀i∈is,∃o,ops[i]? = some o/\guardOf ops i=some (j,want)/\dQ cx o=true
 nt:t ∉ cj ops is
omit [Dr]in
theorem gm(i:Nat)(is:List Nat):∀t,t∈cj ops (i:: is)↔cR ops i=some t\/t∈cj ops is:=by
 intro t;unfold cj;simp only[JD,HO,exists_eq_or_imp]
omit [Dr]in
theorem GroupOk.tail{j:Nat}{want:Bool}{t i:Nat}{is:List Nat}(G:GroupOk cx ops j want t (i:: is)):GroupOk cx ops j want t is:=
 ⟨G.hj,fun k hk=>G.each k (by simp[hk]),fun h=>G.nt ((gm i is t).2 (.inr h))⟩
omit [Dr]in
theorem GroupOk.ne{j:Nat}{want:Bool}{t i:Nat}{is:List Nat}(G:GroupOk cx ops j want t (i:: is)):cR ops i≠some t:=fun h=>G.nt ((gm i is t).2 (.inl h))
omit [Dr]in
theorem io{A:Act1}{h h':Hp}{u:Upd}(hr:dm (fI A) h= .ok u h'):∃u0,dm A h= .ok u0 h'/\u=fk u0:=by
 rw[lK]at hr;cases hx:dm A h<;>rw[hx]at hr<;>simp at hr;exact⟨_,by rw[hr.2],hr.1.symm⟩
omit [Dr]in
theorem pH{ρ:Type}{j:Nat}{want:Bool}{t:Nat}:∀(is:List Nat)(e:Env)(k:Env->M ρ)(h:Hp),GroupOk cx ops j want t is->e.av t= .bool want->gp cx base ops true is e k h=ae (aP cx base ops is e) k h
 |[],e,k,h,_,_=>rfl
 |i:: is,e,k,h,G,hc=>by
  obtain⟨o,ho,hg,hp⟩:=G.each i (by simp);have hd:cR ops i=o.dst:=by simp[cR,ho]
  simp only[gp,aP,ho,Hr];rw[rG];unfold stepG;rw[kS ho hg G.hj hp,hc,fm,fm];simp only[ir,I8,Hr,aV,hd];refine we fun u h' hu=>?_;obtain⟨u0,hu0,rfl⟩:=io hu;refine pH is _ k h' G.tail ?_;have:(e.upd o.dst (fk u0)).get t=e.get t:=by rw[bX,if_neg (by rw[<- hd];exact G.ne)];rfl
  simp only[Env.av,this];exact hc
omit [Dr]in
theorem kN{j:Nat}{want:Bool}{t:Nat}:∀(is:List Nat)(e e':Env)(h h':Hp),GroupOk cx ops j want t is->e.av t= .bool want->aP cx base ops is e h= .ok e' h'->Turned (cj ops is) e e':=by
 have key:∀(is:List Nat)(e0 e e':Env)(ds:List Nat)(h h':Hp),GroupOk cx ops j want t is->e.av t= .bool want->Turned ds e0 e->aP cx base ops is e h= .ok e' h'->Turned (cj ops is++ds) e0 e':=by
  intro is
  induction is with
  |nil=>
   intro e0 e e' ds h h' _ _ H hr;cases hr;exact H
  | cons i is ih=>
   intro e0 e e' ds h h' G hc H hr;obtain⟨o,ho,hg,hp⟩:=G.each i (by simp);have hd:cR ops i=o.dst:=by simp[cR,ho]
   simp only[aP]at hr;unfold stepG at hr;rw[kS ho hg G.hj hp,hc,fm]at hr;simp only[ir,I8,Hr,hd,ae]at hr;cases hx:dm (fI (eJ cx e ((base+i)*1000) o)) h with
   |fail=>rw[hx]at hr;cases hr
   |pan v hh=>rw[hx]at hr;cases hr
   | ok u hh=>
    rw[hx]at hr;simp only at hr;obtain⟨u0,hu0,rfl⟩:=io hx;have hsh:=i6 (jh cx e ((base+i)*1000) o) hu0;simp only[dQ,Hq,Ib]at hp;have H2:=H.step (u:=fk u0) (d:=o.dst) rfl rfl rfl rfl rfl rfl (hsh.loc hp.1);refine (ih e0 _ e' _ hh h' G.tail ?_ H2 hr).sub fun s=>?_
    ·have:(e.upd o.dst (fk u0)).get t=e.get t:=by rw[bX,if_neg (by rw[<- hd];exact G.ne)];rfl
     simp only[Env.av,this];exact hc
    ·simp only[HV,gm,Jh,hd];constructor
     ·rintro (h|h|h)
      ·exact .inl (.inr h)
      ·exact .inl (.inl h)
      ·exact .inr h
     ·rintro ((h|h)|h)
      ·exact .inr (.inl h)
      ·exact .inl h
      ·exact .inr (.inr h)
 intro is e e' h h' G hc hr;exact (key is e e e' [] h h' G hc (.refl e) hr).sub (by simp)
def Off(c:AV)(want:Bool):Prop:=c= .tup []\/∃b,c= .bool b/\(b== want)=false
omit [Dr]in
theorem Off.look{c:AV}{want:Bool}(h:Off c want)(m:M Upd):ir c want m=M.pure (.ofV (.tup [])):=by
 rcases h with rfl|⟨b,rfl,hb⟩
 ·rfl
 ·simp only[ir,hb,Hw]
omit [Dr]in
theorem Bm{j:Nat}{want:Bool}{t:Nat}:∀(is:List Nat)(e:Env)(h:Hp),GroupOk cx ops j want t is->Off (e.av t) want->∃e',aP cx base ops is e h= .ok e' h/\Turned (cj ops is) e e'/\∀s∈cj ops is,e'.get s=⟨.val (.tup []),none⟩:=by
 have key:∀(is:List Nat)(e0 e:Env)(ds:List Nat)(h:Hp),GroupOk cx ops j want t is->Off (e.av t) want->Turned ds e0 e->(∀s∈ds,e.get s=⟨.val (.tup []),none⟩)->
   ∃e',aP cx base ops is e h= .ok e' h/\Turned (cj ops is++ds) e0 e'/\∀s∈cj ops is++ds,e'.get s=⟨.val (.tup []),none⟩:=by
  intro is
  induction is with
  |nil=>exact fun e0 e ds h _ _ H hds=>⟨e,rfl,H,hds⟩
  | cons i is ih=>
   intro e0 e ds h G hc H hds;obtain⟨o,ho,hg,hp⟩:=G.each i (by simp);have hd:cR ops i=o.dst:=by simp[cR,ho]
   have hget:∀s,(e.upd o.dst (.ofV (.tup []))).get s=if o.dst=some s then⟨.val (.tup []),none⟩else e.get s:=fun s=>by rw[bX];rfl
   have H2:=H.step (u:=.ofV (.tup [])) (d:=o.dst) rfl rfl rfl rfl rfl rfl (fun C off hh=>by cases hh);have hav:(e.upd o.dst (.ofV (.tup []))).av t=e.av t:=by
    have:(e.upd o.dst (.ofV (.tup []))).get t=e.get t:=by rw[hget,if_neg (by rw[<- hd];exact G.ne)]
    simp only[Env.av,this]
   obtain⟨e',h1,h2,h3⟩:=ih e0 (e.upd o.dst (.ofV (.tup []))) (o.dst.toList++ds) h G.tail (by rw[hav];exact hc) H2 (fun s hs=>by
    rw[hget];split
    ·rfl
    ·rename_i hn;simp only[HV,Jh]at hs;rcases hs with hs|hs
     ·exact absurd hs hn
     ·exact hds s hs)
   have hiff:∀s,s∈cj ops is++(o.dst.toList++ds)↔s∈cj ops (i:: is)++ds:=fun s=>by
    simp only[HV,gm,Jh,hd];constructor
    ·rintro (h|h|h)
     ·exact .inl (.inr h)
     ·exact .inl (.inl h)
     ·exact .inr h
    ·rintro ((h|h)|h)
     ·exact .inr (.inl h)
     ·exact .inl h
     ·exact .inr (.inr h)
   refine⟨e',?_,h2.sub hiff,fun s hs=>h3 s ((hiff s).2 hs)⟩;simp only[aP];unfold stepG;rw[kS ho hg G.hj hp,hc.look,hd];exact h1
 intro is e h G hc;obtain⟨e',h1,h2,h3⟩:=key is e e [] h G hc (.refl e) (by simp);exact⟨e',h1,h2.sub (by simp),fun s hs=>h3 s (by simp[hs])⟩
end
end Go.Av
namespace Go.Av
variable [Dr]
section
variable {cx:Cx} {ops:Array Oper} {base:Nat}
structure Rel (ops:Array Oper) (L:List Nat) (e2 e:Env):Prop where
 get:∀t,e2.get t=e.get t\/(e2.get t=Ent.none/\t<1000/\∀i∈L,t ∉ cB ops i)
 al:∀g,aC e2.al g=aC e.al g
 lb:∀B,bb e2.lb B=bb e.lb B
 lf:∀B,aT e2.sl B=true->aT e.sl B=true
omit [Dr]in
theorem Rel.refl(ops:Array Oper)(L:List Nat)(e:Env):Rel ops L e e:=⟨fun _=>.inl rfl,fun _=>rfl,fun _=>rfl,fun _ h=>h⟩
omit [Dr]in
theorem Rel.sub{L L':List Nat}{e2 e:Env}(H:Rel ops L e2 e)(h:∀i∈L',i∈L):Rel ops L' e2 e:=
 ⟨fun t=>(H.get t).imp id fun⟨h1,h2,h3⟩=>⟨h1,h2,fun i hi=>h3 i (h i hi)⟩,H.al,H.lb,H.lf⟩
omit [Dr]in
theorem Rel.read{L:List Nat}{e2 e:Env}(H:Rel ops L e2 e){i t:Nat}(hi:i∈L)(ht:t∈cB ops i):e.get t=e2.get t:=by
 rcases H.get t with h|⟨_,_,h⟩
 ·exact h.symm
 ·exact absurd ht (h i hi)
omit [Dr]in
theorem Rel.agree{L:List Nat}{e2 e:Env}(H:Rel ops L e2 e){i:Nat}{o:Oper}(hi:i∈L)(ho:ops[i]? = some o):Agree cx o e2 e:=by
 refine⟨fun t ht=>H.read hi (by rw[fa ho];simp[ht]),fun _=>⟨fun t ht=>?_,fun B=>(H.lb B).symm⟩,fun _ g=>(H.al g).symm,fun _ s _ hl=>H.lf _ hl⟩;rcases H.get t with h|⟨_,h,_⟩
 ·exact h.symm
 ·omega
omit [Dr]in
theorem Rel.upd{L:List Nat}{e2 e:Env}(H:Rel ops L e2 e)(d:Option Tmp)(u:Upd):Rel ops L (e2.upd d u) (e.upd d u):=by
 refine⟨fun t=>?_,fun g=>?_,fun B=>?_,fun B hB=>?_⟩
 ·rw[bX,bX];split
  ·exact .inl rfl
  ·rw[gI,gI];split
   ·exact .inl rfl
   ·exact H.get t
 ·show aC (u.add++dD e2.al u.drop) g=aC (u.add++dD e.al u.drop) g;have:aC (dD e2.al u.drop) g=aC (dD e.al u.drop) g:=by
   cases u.drop with
   |none=>exact H.al g
   |some k=>simp only[dD,iC,H.al g]
  rw[dI,dI,this]
 ·show bb (jx (dv e2.lb u.unlb) u.lb) B=bb (jx (dv e.lb u.unlb) u.lb) B;have:bb (dv e2.lb u.unlb) B=bb (dv e.lb u.unlb) B:=by
   cases u.unlb with
   |none=>exact H.lb B
   |some k=>simp only[dv,kp,H.lb B]
  cases u.lb with
  |none=>exact this
  |some x=>
   obtain⟨k,n⟩:=x;simp only[jx,dn,this]
 ·have hB':aT (ol d u.ent (u.ls++e2.sl)) B=true:=hB;show aT (ol d u.ent (u.ls++e.sl)) B=true;rw[dL,fA]at hB' |-;simp only[Hq]at hB' |-;exact⟨hB'.1,hB'.2.1,H.lf B hB'.2.2⟩
omit [Dr]in
theorem Rel.run:∀(is:List Nat){L:List Nat}{e2 e:Env}(_:Rel ops L e2 e)(_:∀i∈is,i∈L)(h:Hp),aP cx base ops is e2 h≠.fail->
  (∃e2' e' h',aP cx base ops is e2 h= .ok e2' h'/\aP cx base ops is e h= .ok e' h'/\Rel ops L e2' e')\/∃v h',aP cx base ops is e2 h= .pan v h'/\aP cx base ops is e h= .pan v h'
 |[],L,e2,e,H,_,h,_=>.inl ⟨e2,e,h,rfl,rfl,H⟩
 | i:: is,L,e2,e,H,hL,h,hr=>by
  simp only[aP]at hr |-;unfold stepG at hr |-;simp only[ae,M.pure]at hr |-;cases hx:dU cx base ops i e2 h with
  |fail=>rw[hx]at hr;exact absurd rfl hr
  | _ =>
   have ho:∃o,ops[i]? = some o:=by
    cases ho:ops[i]? with
    |none=>unfold dU at hx;rw[ho]at hx;cases hx
    |some o=>exact⟨o,rfl⟩
   obtain⟨o,ho⟩:=ho;have hi:=hL i (by simp);have hy:dU cx base ops i e h=dU cx base ops i e2 h:=eT ho (fun t ht=>H.read hi (by rw[fa ho];simp[ht])) (H.agree hi ho) (by rw[hx];simp);rw[hy,hx]
   first
    | rw[hx]at hr
      exact Rel.run is (H.upd _ _) (fun k hk=>hL k (by simp[hk])) _ hr
    |exact .inr ⟨_,_,rfl,rfl⟩
omit [Dr]in
theorem nd(e:Env):∀(ds:List Nat)(t:Nat),(forget e ds).get t=if t∈ds then Ent.none else e.get t
 |[],t=>by simp[forget]
 | d:: ds,t=>by
  show bw ((d,Ent.none):: (forget e ds).sl) t=_;rw[bK];by_cases hd:d=t
  ·subst hd;simp
  ·rw[if_neg hd]
   have:=nd e ds t
   simp only[Env.get]at this;rw[this];have hd':¬t=d:=fun h=>hd h.symm;simp[hd',Env.get]
omit [Dr]in
theorem lX(e:Env):∀(ds:List Nat),(forget e ds).al=e.al/\(forget e ds).lb=e.lb/\∀B,aT (forget e ds).sl B=aT e.sl B
 |[]=>⟨rfl,rfl,fun _=>rfl⟩
 |_d:: ds=>lX e ds
omit [Dr]in
theorem me(e:Env)(f:Nat->AV):∀(outs:List Nat)(pre:List AV)(t:Nat),(eN e (pre++outs.map f) pre.length outs).get t=if t∈outs then⟨.val (f t),none⟩else e.get t
 |[],pre,t=>by simp[eN]
 | d:: ds,pre,t=>by
  show bw ((d,⟨.val (nth (pre++(d:: ds).map f) pre.length),none⟩):: (eN e (pre++(d:: ds).map f) (pre.length+1) ds).sl) t=_;rw[bK];have hn:nth (pre++(d:: ds).map f) pre.length=f d:=by simp[nth]
  by_cases hd:d=t
  ·subst hd;rw[hn];simp
  ·rw[if_neg hd]
   have:=me e f ds (pre++[f d]) t
   simp only[ID,HZ,HG,HM,List.singleton_append]at this;simp only[Env.get,H3]at this |-;rw[this];have hd':¬t=d:=fun h=>hd h.symm;simp[hd']
omit [Dr]in
theorem kJ(e:Env)(vs:List AV):∀(outs:List Nat)(i:Nat),(eN e vs i outs).al=e.al/\(eN e vs i outs).lb=e.lb/\∀B,aT (eN e vs i outs).sl B=aT e.sl B
 |[],_i=>⟨rfl,rfl,fun _=>rfl⟩
 |_d:: ds,i=>kJ e vs ds (i+1)
omit [Dr]in
theorem uI(gs:List (Option (Nat×Bool)×List Nat))(t:Nat):uH ops gs t=true↔∃i∈fK gs,t∈cB ops i:=by
 unfold uH fK;simp only[List.any_eq_true,List.mem_flatMap,fB];constructor
 ·rintro⟨g,hg,i,hi,ht⟩;exact⟨i,⟨g,hg,hi⟩,ht⟩
 ·rintro⟨i,⟨g,hg,hi⟩,ht⟩;exact⟨g,hg,i,hi,ht⟩
omit [Dr]in
theorem Rel.close{is:List Nat}{gs:List (Option (Nat×Bool)×List Nat)}{e2 e e':Env}(H:Rel ops (is++fK gs) e2 e)(hS:Small ops)(T:Turned (cj ops is) e e'){vs:List AV}{f:Nat->AV}(hvs:vs=(cH ops is gs).map f)(hf:∀t∈cH ops is gs,e'.get t=⟨.val (f t),none⟩\/(f t= .any/\t<1000/\∀i∈fK gs,t ∉ cB ops i)):Rel ops (fK gs) (eN (forget e2 (cj ops is)) vs 0 (cH ops is gs)) e':=by
 have hr:=kJ (forget e2 (cj ops is)) vs (cH ops is gs) 0;have hr2:=lX e2 (cj ops is);refine⟨fun t=>?_,fun g=>?_,fun B=>?_,fun B hB=>?_⟩
 ·have hg:=me (forget e2 (cj ops is)) f (cH ops is gs) [] t;simp only[Ir,HM]at hg;rw[hvs,hg];split
  ·rename_i ht;rcases hf t ht with h|⟨h1,h2,h3⟩
   ·exact .inl h.symm
   ·exact .inr ⟨by rw[h1];rfl,h2,h3⟩
  ·rename_i ht;rw[nd];split
   ·rename_i hd;refine .inr ⟨rfl,?_,fun i hi hti=>ht ?_⟩
    ·unfold cj at hd;simp only[JD]at hd;obtain⟨i,hi,hd⟩:=hd;unfold cR at hd;cases hoi:ops[i]? with
     |none=>rw[hoi]at hd;simp at hd
     |some o=>rw[hoi]at hd;exact hS.dst i o hoi t hd
    ·unfold cH;rw[Kp];exact⟨hd,(uI gs t).2 ⟨i,hi,hti⟩⟩
   ·rename_i hd;rw[T.get t hd];rcases H.get t with h|⟨h1,h2,h3⟩
    ·exact .inl h
    ·exact .inr ⟨h1,h2,fun i hi=>h3 i (by simp[hi])⟩
 ·rw[hr.1,hr2.1,T.al];exact H.al g
 ·rw[hr.2.1,hr2.2.1,T.lb];exact H.lb B
 ·rw[hr.2.2,hr2.2.2]at hB;exact T.lf B (H.lf B hB)
omit [Dr]in
theorem nR(l m:List Nat):∀e:Env,aP cx base ops (l++m) e=ae (aP cx base ops l e) (aP cx base ops m):=by
 induction l with
 |nil=>intro e;rfl
 |cons i l ih=>
  intro e;show ae (stepG cx base ops i e) (aP cx base ops (l++m))=ae (ae (stepG cx base ops i e) (aP cx base ops l)) (aP cx base ops m);rw[fm];congr 1;funext e';exact ih e'
omit [Dr]in
theorem AX{x:Ent}(h1:jK x=true)(h2:x.g=none):x=⟨.val x.av,none⟩:=by
 obtain⟨v,g⟩:=x;cases v with
 |val a=>simp only at h2;subst h2;rfl
 |loc B off=>cases h1
omit [Dr]in
theorem gH{ρ:Type}(hS:Small ops):∀(gs:List (Option (Nat×Bool)×List Nat))(e2 e:Env)(k:Env->M ρ)(h:Hp),(∀g∈gs,∀i∈g.2,guardOf ops i=g.1)->Rel ops (fK gs) e2 e->dw cx base ops gs e2 k h≠.fail->
  (∃e2' e' h',dw cx base ops gs e2 k h=k e2' h'/\aP cx base ops (fK gs) e h= .ok e' h'/\Rel ops [] e2' e')\/∃v h',dw cx base ops gs e2 k h= .pan v h'/\aP cx base ops (fK gs) e h= .pan v h'
 |[],e2,e,k,h,_,H,_=>.inl ⟨e2,e,h,rfl,rfl,H⟩
 | (none,is):: gs,e2,e,k,h,hg,H,hr=>by
  have hg0:∀i∈is,guardOf ops i=none:=hg (none,is) (by simp);have hfl:fK ((none,is):: gs)=is++fK gs:=rfl;rw[hfl]at H |-;rw[nR];simp only[dw]at hr |-;rw[sL is e2 _ hg0]at hr |-;simp only[ae]at hr |-;have hr2:aP cx base ops is e2 h≠.fail:=fun hf=>by rw[hf]at hr;exact hr rfl
  rcases H.run (base:=base) (cx:=cx) is (fun i hi=>by simp[hi]) h hr2 with⟨e2',e',h',h1,h2,H'⟩|⟨v,h',h1,h2⟩
  ·rw[h1]at hr |-;rw[h2];exact gH hS gs e2' e' k h' (fun g hgg=>hg g (by simp[hgg])) (H'.sub fun i hi=>by simp[hi]) hr
  ·rw[h1,h2];exact .inr ⟨v,h',rfl,rfl⟩
 | (some (j,want),is):: gs,e2,e,k,h,hg,H,hr=>by
  have hg0:∀i∈is,guardOf ops i=some (j,want):=hg (some (j,want),is) (by simp);have hfl:fK ((some (j,want),is):: gs)=is++fK gs:=rfl;rw[hfl]at H |-;rw[nR];simp only[dw]at hr |-;cases hdj:cR ops j with
  |none=>rw[hdj]at hr;exact absurd rfl hr
  | some t=>
   rw[hdj]at hr;simp only at hr |-;revert hr;cases hc:((is.all fun i=>match ops[i]? with|some o=>dQ cx o&&o.dst.isSome|none=>false)&&!(ef (cj ops is) t))with
   |false=>intro hr;exact absurd rfl hr
   | true=>
    intro hr;simp only[Hr]at hr |-;simp only[Hq,Ib,Hx]at hc;have G:GroupOk cx ops j want t is:=by
     refine⟨hdj,fun i hi=>?_,fun ht=>?_⟩
     ·have:=hc.1 i hi
      cases hoi:ops[i]? with
      |none=>rw[hoi]at this;cases this
      |some o=>
       rw[hoi]at this;simp only[Hq]at this;exact⟨o,rfl,hg0 i hi,this.1⟩
     ·rw[(fB _ _).2 ht]at hc;exact Bool.noConfusion hc.2
    have htr:∀i∈is,t∈cB ops i:=fun i hi=>by
     obtain⟨o,ho,hgi,_⟩:=G.each i hi;rw[fa ho];have:o.guard=some (j,want):=by simpa [guardOf,ho]using hgi
     have:t∈dO ops o:=by
      unfold dO;rw[this];simp only;rw[show (ops[j]?).bind (·.dst)=some t from hdj];simp
     simp[this]
    -- the guard says yes
    cases is with
    | nil=>
     have hrn:∀e,aP cx base ops [] e=M.pure e:=fun _=>rfl;rw[hrn,aV];have ho:cH ops [] gs=[]:=rfl;have hd:cj ops []=[]:=rfl;rw[ho,hd]at hr |-;have hpure:∀ {q:AV} {m:M (List AV)},m h= .ok [] h->aw q want ([]:List Nat).length m h≠.fail->aw q want ([]:List Nat).length m h= .ok [] h:=by
      intro q m hm hne;cases q with
      |bool b=>
       simp only[aw];cases b== want with
       |true=>exact hm
       |false=>rfl
      |tup vs=>
       cases vs with
       |nil=>rfl
       |cons v vs=>exact absurd rfl hne
      |_=>exact absurd rfl hne
     simp only[ae]at hr |-;have hp:=hpure (q:=e2.av t) (m:=gp cx base ops true [] e2 fun e'=>bif ([]:List Nat).all (fun t=>jK (e'.get t))then M.pure (([]:List Nat).map e'.av)else M.fail) rfl (fun hf=>by rw[hf]at hr;exact hr rfl);rw[hp]at hr |-;exact gH hS gs e2 e k h (fun g hgg=>hg g (by simp[hgg])) (H.sub fun i hi=>by simp[hi]) hr
    |cons i0 is0=>
    have hav:e.av t=e2.av t:=by
     have:=H.read (i:=i0) (by simp) (htr i0 (by simp))
     simp only[Env.av,this]
    generalize hiseq:i0:: is0=is at *;have hoff:Off (e2.av t) want->(aw (e2.av t) want (cH ops is gs).length (gp cx base ops true is e2 fun e'=>bif (cH ops is gs).all (fun t=>jK (e'.get t))then M.pure ((cH ops is gs).map e'.av)else M.fail))=M.pure (List.replicate (cH ops is gs).length (.tup [])):=by
     rintro (hq|⟨b,hq,hb⟩)
     ·rw[hq];rfl
     ·rw[hq];simp only[aw,hb,Hw]
    have hcase:Off (e2.av t) want\/e2.av t= .bool want:=by
     cases hq:e2.av t with
     |bool b=>
      cases hb:(b== want)with
      |true=>right;simp at hb;rw[hb]
      |false=>exact .inl (.inr ⟨b,rfl,hb⟩)
     |tup vs=>
      cases vs with
      |nil=>exact .inl (.inl rfl)
      |cons v vs=>rw[hq]at hr;exact absurd rfl hr
     |_=>rw[hq]at hr;exact absurd rfl hr
    rcases hcase with ho|hy
    ·rw[hoff ho,aV]at hr |-;obtain⟨e',h1,T,h2⟩:=Bm (base:=base) is e h G (by rw[hav];exact ho);simp only[ae];rw[h1];refine gH hS gs _ e' k h (fun g hgg=>hg g (by simp[hgg])) (H.close hS T (f:=fun _=>.tup []) ?_ fun s hs=>.inl ?_) hr
     ·exact (List.map_const' ..).symm
     ·refine h2 s ?_;unfold cH at hs;exact (Kp.1 hs).1
    ·rw[hy]at hr |-;simp only[aw,I8,Hr,ae]at hr |-;rw[pH is e2 _ h G hy]at hr |-;simp only[ae]at hr |-;have hr2:aP cx base ops is e2 h≠.fail:=fun hf=>by rw[hf]at hr;exact hr rfl
     rcases H.run (base:=base) (cx:=cx) is (fun i hi=>by simp[hi]) h hr2 with⟨e2',e',h',h1,h2,H'⟩|⟨v,h',h1,h2⟩
     ·rw[h1]at hr |-;rw[h2];simp only at hr |-;have T2:=kN is e2 e2' h h' G hy h1;have T:=kN is e e' h h' G (by rw[hav];exact hy) h2;cases hv:(cH ops is gs).all (fun t=>jK (e2'.get t))with
      |false=>rw[hv]at hr;exact absurd rfl hr
      |true=>
       rw[hv]at hr;simp only[Hr,M.pure]at hr |-;refine gH hS gs _ e' k h' (fun g hgg=>hg g (by simp[hgg])) (H.close hS T (f:=e2'.av) rfl fun s hs=>?_) hr;have hsd:s∈cj ops is:=by unfold cH at hs;exact (Kp.1 hs).1
       have hval:=AX (Hx.1 hv s hs) (T2.ng s hsd);rcases H'.get s with h3|⟨h3,h4,h5⟩
       ·left;rw[<- h3];exact hval
       ·right;exact⟨by simp only[Env.av,h3];rfl,h4,fun i hi=>h5 i (by simp[hi])⟩
     ·rw[h1,h2];exact .inr ⟨v,h',rfl,rfl⟩
end
end Go.Av
namespace Go.Av
variable [Dr]
omit [Dr]in
theorem g9(acc:List Nat):∀(es:List Edge)(x:Nat),(gA acc es).testBit x=true↔∃e∈es,Region.binds .any e=true/\(e.on=x\/(acc.getD e.on 0).testBit x=true)
 |[],x=>by simp[gA]
 | e :: es,x=>by
  simp only[gA];cases hb:Region.binds .any e with
  | false=>
   simp only[Hw,g9 acc es x,HO];constructor
   ·rintro⟨e',he,h⟩;exact⟨e',.inr he,h⟩
   ·rintro⟨e',rfl|he,h⟩
    ·rw[hb]at h;exact absurd h.1 (by simp)
    ·exact⟨e',he,h⟩
  | true=>
   simp only[Hr,Nat.testBit_or,It,g9 acc es x,HO,Nat.testBit_two_pow,Hy];constructor
   ·rintro ((⟨e',he,h⟩|h)|h)
    ·exact⟨e',.inr he,h⟩
    ·exact⟨e,.inl rfl,hb,.inl h⟩
    ·exact⟨e,.inl rfl,hb,.inr h⟩
   ·rintro⟨e',rfl|he,h1,h2⟩
    ·rcases h2 with h2|h2
     ·exact .inl (.inr h2)
     ·exact .inr h2
    ·exact .inl (.inl ⟨e',he,h1,h2⟩)
omit [Dr]in
theorem oP:∀(os:List Oper)(acc:List Nat),∃r:List Nat,tx os acc=acc++r/\r.length=os.length/\∀(k:Nat)(o:Oper),os[k]? = some o->r[k]? = some (gA (acc++r.take k) o.after.toList)
 |[],acc=>⟨[],by simp[tx],rfl,by simp⟩
 | o:: os,acc=>by
  obtain⟨r,h1,h2,h3⟩:=oP os (acc++[gA acc o.after.toList]);refine⟨gA acc o.after.toList:: r,by simp[tx,h1],by simp[h2],fun k o' ho=>?_⟩;cases k with
  |zero=>simp at ho;subst ho;simp
  |succ k=>
   simp only[Jc,HY]at ho |-;rw[h3 k o' ho];simp
section
variable {ops:Array Oper}
def iE(ops:Array Oper):List Nat:=tx ops.toList []
omit [Dr]in
theorem yw{j:Nat}{o:Oper}(ho:ops[j]? = some o):(iE ops).length=ops.size/\(iE ops).getD j 0=gA ((iE ops).take j) o.after.toList:=by
 obtain⟨r,h1,h2,h3⟩:=oP ops.toList [];have h4:iE ops=r:=by unfold iE;rw[h1];simp
 rw[h4];refine⟨by simp[h2],?_⟩
 have:=h3 j o (by simpa using ho)
 rw[Ih,this];simp
omit [Dr]in
theorem wd{listed:Nat->Prop}(hcl:∀(j:Nat)(o:Oper),ops[j]? = some o->listed j->∀e∈o.after.toList,Region.binds .any e=true->listed e.on):
  ∀(j:Nat)(o:Oper),ops[j]? = some o->(∀e∈o.after.toList,Region.binds .any e=true->listed e.on)->∀x,((iE ops).getD j 0).testBit x=true->listed x:=by
 intro j
 induction j using Nat.strongRecOn with
 | _ j ih=>
  intro o ho hl x hx;obtain⟨hlen,hget⟩:=yw ho;rw[hget,g9]at hx;obtain⟨e,he,hb,hx|hx⟩:=hx
  ·rw[<- hx];exact hl e he hb
  ·by_cases hj:e.on<j
   ·have hjs:j<ops.size:=(H4.1 ho).1;have hos:ops[e.on]? = some ops[e.on]:=HW (by omega);have h1:((iE ops).take j).getD e.on 0=(iE ops).getD e.on 0:=by
     rw[Ih,Ih,HA,Ht hj]
    rw[h1]at hx;exact ih e.on hj _ hos (hcl e.on _ hos (hl e he hb)) x hx
   ·rw[Ih,HA,if_neg hj]at hx;simp at hx
def xt(cx:Cx)(ops:Array Oper)(i j:Nat):Prop:=((iE ops).getD i 0).testBit j=false/\(((iE ops).getD j 0).testBit i=true\/kk cx ops i j=true)
omit [Dr]in
theorem mb{cx:Cx}:∀ {l:List Nat},ia cx ops (iE ops) l=true->l.Pairwise (xt cx ops)/\∀i∈l,((iE ops).getD i 0).testBit i=false
 |[],_=>⟨.nil,by simp⟩
 |i:: l,h=>by
  simp only[ia,Hq,Ib,Hx,It]at h;obtain⟨⟨h1,h2⟩,h3⟩:=h;obtain⟨h4,h5⟩:=mb h3;refine⟨.cons (fun j hj=>h2 j hj) h4,fun k hk=>?_⟩;simp only[HO]at hk;rcases hk with rfl|hk
  ·exact h1
  ·exact h5 k hk
omit [Dr]in
theorem iJ:∀ {l:List Nat},distinct l=true->l.Nodup
 |[],_=>.nil
 |i:: l,h=>by
  simp only[distinct,Hq,Ib]at h;refine JC.2 ⟨fun hi=>?_,iJ h.2⟩;rw[(fB _ _).2 hi]at h;exact Bool.noConfusion h.1
variable {P:Program} {cx:Cx} {c:Entry} {N base:Nat}
theorem rD(hT:TOK P cx.T)(hC:cp P cx.own cx.call)(hI:IsoPure cx)(hO:OpsOk N cx ops)(hS:Small ops)(hbit:∀i x,((iE ops).getD i 0).testBit x=true->x<ops.size)(hself:∀i,i<ops.size->((iE ops).getD i 0).testBit i=false){Q:Exit->Act->World->Prop}:∀(n:Nat)(rest:List Nat)(listed:Array Bool)(D:List Nat)(e:Env)(h:Hp)(a:Act)(w:World),rest.length=n->listed.size=ops.size->rest.Nodup->
  (∀i,i∈rest↔i<ops.size/\listed.getD i true=false)->(∀i∈rest,i ∉ D)->(∀i∈D,i<ops.size)->
  (∀(j:Nat)(o:Oper),ops[j]? = some o->listed.getD j false=true->∀e∈o.after.toList,Region.binds .any e=true->listed.getD e.on false=true)->rest.Pairwise (xt cx ops)->
  dH c N (UD base D) e h a w->aP cx base ops rest e h≠.fail->
  (∀e0 e' h' a' w',aP cx base ops rest e h= .ok e0 h'->EqE e0 e'->dH c N (UR base ops.size) e' h' a' w'->a'.defers=a.defers->Q .normal a' w')->
  (∀pv h' v w' a',aP cx base ops rest e h= .pan pv h'->jw c pv h' v w'->a'.defers=a.defers->Q (.panic [{ v,recovered:=false }]) a' w')->wpAny P .any ops Q n listed a w
 |0,rest,listed,D,e,h,a,w,hlen,hsz,hnd,hmem,hdis,hD,hcl,hpw,H,hr,hn,hp=>by
  have:rest=[]:=H1 hlen;subst this;refine⟨?_,hn e e h a w rfl (.refl e) (H.wider (BB hD)) rfl⟩;refine List.eq_nil_iff_forall_not_mem.2 fun i hi=>?_;obtain⟨h0,o,ho,_⟩:=mem_ready.1 hi
  have:=(hmem i).2 ⟨(H4.1 ho).1,h0⟩
  simp at this
 | n + 1,rest,listed,D,e,h,a,w,hlen,hsz,hnd,hmem,hdis,hD,hcl,hpw,H,hr,hn,hp=>by
  have hgd:∀i,i<ops.size->listed.getD i true=listed.getD i false:=fun i hi=>by
   rw[HU,HU,HW (by omega)];rfl
  refine⟨fun hemp=>?_,fun i hi=>?_⟩
  ·exfalso;cases rest with
   |nil=>simp at hlen
   | cons r0 tl=>
    have hr0:=(hmem r0).1 (by simp);have hor:ops[r0]? = some ops[r0]:=HW hr0.1;have:r0∈Region.ready .any ops listed:=by
     refine mem_ready.2 ⟨hr0.2,_,hor,fun ed hed hb=>?_⟩;have hbt:((iE ops).getD r0 0).testBit ed.on=true:=by
      rw[(yw hor).2,g9];exact⟨ed,by simpa using hed,hb,.inl rfl⟩
     have hlt:=hbit r0 ed.on hbt;cases hl:listed.getD ed.on false with
     |true=>rfl
     | false=>
      have hin:=(hmem ed.on).2 ⟨hlt,by rw[hgd _ hlt];exact hl⟩;simp only[HO]at hin;rcases hin with hin|hin
      ·rw[hin]at hbt;rw[hself r0 hr0.1]at hbt;cases hbt
      ·have:=(IV.1 hpw).1 ed.on hin
       rw[this.1]at hbt;cases hbt
    rw[hemp]at this;simp at this
  ·obtain⟨h0,o,ho,hall⟩:=mem_ready.1 hi;have hlt:i<ops.size:=(H4.1 ho).1;have hin:=(hmem i).2 ⟨hlt,h0⟩;obtain⟨p,q,rfl⟩:=List.append_of_mem hin;have hnd':=hnd;rw[List.nodup_append]at hnd';have hni:i ∉ p++q:=by
    intro hm;rw[HV]at hm;rcases hm with hm|hm
    ·exact hnd'.2.2 i hm i (by simp) rfl
    ·exact (JC.1 hnd'.2.1).1 hm
   have hclo:=wd (ops:=ops) (listed:=fun j=>listed.getD j false=true) (fun j o ho hj ed hed hb=>hcl j o ho hj ed hed hb) i o ho (fun ed hed hb=>hall ed (by simpa using hed) hb);have hfront:∀x∈p,kk cx ops x i=true/\x≠i:=by
    intro x hx;have hpr:=(List.pairwise_append.1 hpw).2.2 x hx i (by simp);refine⟨?_,fun hxi=>hni (by rw[<- hxi];simp[hx])⟩;rcases hpr.2 with h1|h1
    ·have hxl:=hclo x h1;have hxr:=(hmem x).1 (by simp[hx]);rw[hgd x hxr.1]at hxr;rw[hxr.2]at hxl;cases hxl
    ·exact h1
   have hRE:=Ca (base:=base) hI hS q p hfront e h;have hr':aP cx base ops (i:: (p++q)) e h≠.fail:=by
    intro hf;rw[hf]at hRE;cases hx:aP cx base ops (p++i:: q) e h with
    |fail=>exact hr hx
    |ok e0 h0=>rw[hx]at hRE;obtain⟨_,h1,_⟩:=hRE;cases h1
    |pan v h0=>rw[hx]at hRE;cases hRE
   simp only[aP,ae]at hr';have hstep:∀ {r:R Env},aP cx base ops (i:: (p++q)) e h=r->aP cx base ops (i:: (p++q)) e h=r:=fun h=>h;simp only[aP,ae]at hRE;refine nW hT hC hO (hdis i hin) H (fun hf=>by rw[hf]at hr';exact hr' rfl) (fun e1 h1 a1 w1 hst hs hdf=>?_) (fun pv h1 v w1 hst hps=>?_)
   ·rw [hst]at hr' hRE;simp only at hr' hRE;refine rD hT hC hI hO hS hbit hself n (p++q) (listed.setIfInBounds i true) (i:: D) e1 h1 a1 w1 ?_ (by simp[hsz]) ?_ (fun k=>?_) (fun k hk=>?_) (fun k hk=>?_) (fun k o' ho' hk ed hed hb=>?_) ?_ hs hr' (fun e0 e' h' a' w' hok heq hsat hdf'=>?_) (fun pv h' v w' a' hok hps hdf'=>?_)
    ·simp only[HZ,HG]at hlen |-;omega
    ·exact hnd.sublist (List.Sublist.append (List.Sublist.refl p) (List.sublist_cons_self i q))
    ·have hset:k≠i->(listed.setIfInBounds i true).getD k true=listed.getD k true:=fun hk=>by
      rw[HU,HU,Jb (Ne.symm hk)]
     constructor
     ·intro hk;have hki:k≠i:=fun h=>hni (h▸hk);rw[hset hki];exact (hmem k).1 (by
       simp only[HV,HO]at hk |-;rcases hk with hk|hk
       ·exact .inl hk
       ·exact .inr (.inr hk))
     ·rintro⟨h1,h2⟩;have hki:k≠i:=by
       rintro rfl;rw[HU,Array.getElem?_setIfInBounds_self]at h2;rw[Ht (by omega)]at h2;simp at h2
      rw[hset hki]at h2
      have:=(hmem k).2 ⟨h1,h2⟩
      simp only[HV,HO]at this |-;rcases this with h|h|h
      ·exact .inl h
      ·exact absurd h hki
      ·exact .inr h
    ·simp only[HO,not_or];refine⟨fun hki=>hni (hki▸hk),hdis k ?_⟩;simp only[HV,HO]at hk |-;rcases hk with hk|hk
     ·exact .inl hk
     ·exact .inr (.inr hk)
    ·simp only[HO]at hk;rcases hk with rfl|hk
     ·exact hlt
     ·exact hD k hk
    ·have hmono:∀x,listed.getD x false=true->(listed.setIfInBounds i true).getD x false=true:=fun x hx=>getD_set_true hx;by_cases hki:k=i
     ·subst hki;rw[ho]at ho';cases ho';exact hmono _ (hall ed (by simpa using hed) hb)
     ·refine hmono _ (hcl k o' ho' ?_ ed hed hb);rw[HU,Jb (Ne.symm hki),<- HU]at hk;exact hk
    ·exact hpw.sublist (List.Sublist.append (List.Sublist.refl p) (List.sublist_cons_self i q))
    ·rw[hok]at hRE;cases hx:aP cx base ops (p++i:: q) e h with
     |fail=>exact absurd hx hr
     |ok ex hx'=>
      rw[hx]at hRE;obtain⟨e0',h2,h3⟩:=hRE;cases h2;exact hn ex e' _ a' w' hx (h3.trans heq) hsat (hdf'.trans hdf)
     |pan v h0=>rw[hx]at hRE;cases hRE
    ·rw[hok]at hRE;cases hx:aP cx base ops (p++i:: q) e h with
     |fail=>exact absurd hx hr
     |ok ex hx'=>rw[hx]at hRE;obtain⟨_,h1,_⟩:=hRE;cases h1
     |pan v0 h0=>
      rw[hx]at hRE;cases hRE;exact hp _ _ v w' a' hx hps (hdf'.trans hdf)
   ·rw[hst]at hRE;cases hx:aP cx base ops (p++i:: q) e h with
    |fail=>exact absurd hx hr
    |ok ex hx'=>rw[hx]at hRE;obtain⟨_,h1,_⟩:=hRE;cases h1
    |pan v0 h0=>
     rw[hx]at hRE;cases hRE;exact hp _ _ v w1 a hx hps rfl
end
end Go.Av
namespace Go.Av
variable [Dr]
structure IsoCall (cx:Cx):Prop where
 iso:∀f args,cx.iso f=true->∃x:Option (Bool×AV),∀h,cx.call f args h=(match x with|none=>.fail|some (true,v)=>.ok v h|some (false,v)=>.pan v h)
 nw:∀f args,cx.nw f=true->tk (cx.call f args)
omit [Dr]in
theorem IsoCall.draw{cx:Cx}(h:IsoCall cx):IsoPure (dS cx):=by
 refine⟨?_,fun f args hf=>?_⟩
 case refine_2=>
  have hn:=h.nw f args hf;show tk (bif cx.iso f then dz (cx.call f args)else cx.call f args);cases cx.iso f with
  |false=>exact hn
  |true=>
   intro hp v h' hh;simp only[Hr,dz]at hh;cases hq:cx.call f args hp with
   |ok a b=>rw[hq]at hh;cases hh;exact hn _ _ _ hq
   |pan a b=>rw[hq]at hh;cases hh
   |fail=>rw[hq]at hh;cases hh
 intro f args hf;have hf':cx.iso f=true:=hf;obtain⟨x,hx⟩:=h.iso f args hf';refine⟨match x with|some (true,v)=>some v|_=>none,?_⟩;show (bif cx.iso f then dz (cx.call f args)else cx.call f args)=_;rw[hf'];funext hp;simp only[Hr,dz,hx];rcases x with _|⟨b,v⟩
 ·rfl
 ·cases b<;>rfl
theorem cp.draw{P:Program}{cx:Cx}(h:cp P cx.own cx.call):cp P (dS cx).own (dS cx).call:=by
 intro f args hp S β w vs hr hg hw hh hv;have hcall:(dS cx).call f args hp=(bif cx.iso f then dz (cx.call f args) hp else cx.call f args hp):=by
  show (bif cx.iso f then dz (cx.call f args)else cx.call f args) hp=_;cases cx.iso f<;>rfl
 rw[hcall]at hr |-
 have key:∀r,r=cx.call f args hp->r≠.fail->Calls P f vs.toArray w (dc ((dS cx).own f) S β hp w r)/\(P.funcs[f]?).any (fun fn=>fn.body.isSome&&!(fn.name== "runtime.NumGoroutine"))=true:=by
  intro r hr1 hr2;subst hr1;exact h f args hp S β w vs hr2 hg hw hh hv
 cases hi:cx.iso f with
 |false=>rw[hi]at hr;exact key _ rfl hr
 |true=>
  rw[hi]at hr;simp only[Hr,dz]at hr |-;cases hx:cx.call f args hp with
  |ok v hq=>rw[hx]at hr;exact key _ hx.symm (by simp)
  |pan v hq=>rw[hx]at hr;exact absurd rfl hr
  |fail=>rw[hx]at hr;exact absurd rfl hr
def ix(c:Entry)(N:Nat)(e:Env)(h:Hp)(a:Act)(w:World):Prop:=dH c N (fun g=>g<e.nx*1000) e h a w
theorem dH.rel{c:Entry}{N:Nat}{U:Nat->Prop}{e2 e:Env}{h:Hp}{a:Act}{w:World}{ops:Array Oper}(H:dH c N U e h a w)(R:Rel ops [] e2 e):dH c N U e2 h a w:=by
 obtain⟨S,β,γ,lam,ω,F⟩:=H;refine⟨S,β,γ,lam,ω,F.weak (fun t=>?_) (fun t g hg=>?_) (fun g z hz=>by rw[R.al]at hz;exact hz) (fun B n hB=>by rw[R.lb]at hB;exact hB)⟩
 ·rcases R.get t with h|⟨h1,h2,_⟩
  ·exact .inl (by rw[h])
  ·exact .inr ⟨by rw[h1];rfl,h2⟩
 ·rcases R.get t with h|⟨h1,_⟩
  ·rw[h]at hg;exact hg
  ·rw[h1]at hg;cases hg
theorem dH.eqE{c:Entry}{N:Nat}{U:Nat->Prop}{e2 e:Env}{h:Hp}{a:Act}{w:World}(H:dH c N U e h a w)(R:EqE e e2):dH c N U e2 h a w:=by
 obtain⟨S,β,γ,lam,ω,F⟩:=H;exact⟨S,β,γ,lam,ω,F.weak (fun t=>.inl (by rw[R.get])) (fun t g hg=>by rw[R.get]at hg;exact hg) (fun g z hz=>by rw[R.al]at hz;exact hz) (fun B n hB=>by rw[R.lb]at hB;exact hB)⟩
theorem dH.nx{c:Entry}{N:Nat}{U:Nat->Prop}{e:Env}{h:Hp}{a:Act}{w:World}(n:Nat)(H:dH c N U e h a w):dH c N U { e with nx:=n } h a w:=by
 obtain⟨S,β,γ,lam,ω,F⟩:=H;exact⟨S,β,γ,lam,ω,F.weak (fun t=>.inl rfl) (fun t g hg=>hg) (fun g z hz=>hz) (fun B n hB=>hB)⟩
section
variable {P:Program} {cx:Cx} {c:Entry} {e:Env} {h:Hp} {a:Act} {w:World} {ops:Array Oper} {id:Nat}
omit [Dr]in
theorem ou{n:Nat}(hn:n<=1000)(hd:gG n ops=true)(hk:∀p,wM (bO cx.ann.kinds p .L)=true->p<n):OpsOk n cx ops/\Small ops:=by
 unfold gG at hd;rw[Array.all_eq_true_iff_forall_mem]at hd;have h1:∀(i:Nat)(o:Oper),ops[i]? = some o->(∀t,o.dst=some t->t<n)/\∀t∈gC o,t<1000:=by
  intro i o ho
  have:=hd o (Array.mem_of_getElem? ho)
  simp only[Hq,Hx,Hy]at this;refine⟨fun t ht=>?_,this.2⟩;have h2:=this.1;rw[ht]at h2;simpa using h2
 refine⟨⟨fun i o ho=>(h1 i o ho).1,fun i o ho x hx t hxt=>(h1 i o ho).2 t ?_,hk⟩,⟨fun i o ho t ht=>H6 ((h1 i o ho).1 t ht) hn,fun i o ho=>(h1 i o ho).2⟩⟩;subst hxt;exact JD.2 ⟨_,hx,rfl⟩
theorem wX{ρ:Type}(hT:TOK P cx.T)(hC:cp P cx.own cx.call)(hI:IsoCall cx)(hk:∀p,wM (bO cx.ann.kinds p .L)=true->p<cx.nt){draw:Bool}{k:Env->M ρ}(H:ix c cx.nt e h a w)(hr:lP cx id ops draw e k h≠.fail){Q:Exit->Act->World->Prop}(hn:∀e' h' a' w',lP cx id ops draw e k h=k e' h'->ix c cx.nt e' h' a' w'->a'.defers=a.defers->Q .normal a' w')(hp:∀pv h' v w' a',lP cx id ops draw e k h= .pan pv h'->jw c pv h' v w'->a'.defers=a.defers->Q (.panic [{ v,recovered:=false }]) a' w'):
  (Code.region id ops draw).wp P Q a w:=by
 have hN:cx.nt<=1000:=by obtain⟨S,β,γ,lam,ω,F⟩:=H;exact F.tsz.2
 have H0:dH c cx.nt (UD e.nx []) e h a w:=H.wider fun g hg=>.inl hg;unfold lP at hr hn hp;cases hds:gG cx.nt ops with
 |false=>rw[hds]at hr;exact absurd rfl hr
 | true=>
  obtain⟨hO,hS⟩:=ou (cx:=cx) hN hds hk;rw[hds]at hr hn hp;simp only[Hr]at hr hn hp;cases draw with
  | false=>
   simp only[Hw]at hr hn hp;obtain⟨hfl,hgs⟩:=gz ops (List.range ops.size);refine wp_region (pJ hT hC hO (List.range ops.size) [] e h a w List.nodup_range (by simp) H0 ?_ ?_ ?_)
   all_goals
    have hseq:=gH (cx:=cx) (base:=e.nx) hS (cT ops (List.range ops.size)) e e _ h hgs (.refl ops _ e) hr;rw[hfl]at hseq
   ·rcases hseq with⟨_,_,_,_,h2,_⟩|⟨_,_,_,h2⟩<;>rw[h2]<;>simp
   ·intro e' h' a' w' hok hsat hdf;rcases hseq with⟨e2',e'',h'',h1,h2,hR⟩|⟨_,_,_,h2⟩
    ·rw[h2]at hok;cases hok;refine hn _ _ a' w' h1 (dH.nx _ ((hsat.wider (BB ?_)).rel hR)) hdf;intro i hi;simpa using hi
    ·rw[h2]at hok;cases hok
   ·intro pv h' v w' a' hok hps hdf;rcases hseq with⟨e2',e'',h'',h1,h2,hR⟩|⟨_,_,h1,h2⟩
    ·rw[h2]at hok;cases hok
    ·rw[h2]at hok;cases hok;exact hp _ _ v w' a' h1 hps hdf
  | true=>
   simp only[Hr]at hr hn hp;generalize pD cx id ops.size=ord at hr hn hp;cases hdo:jI cx ops ord with
   |false=>rw[hdo]at hr;exact absurd rfl hr
   | true=>
    rw[hdo]at hr hn hp;simp only[Hr]at hr hn hp;simp only[jI,zD,Hq,Hx,Hy]at hdo;obtain⟨⟨⟨⟨⟨hlen,hmem⟩,hdist⟩,hlt⟩,hbits⟩,hpairs⟩:=hdo;have hlen':ord.length=ops.size:=Hv hlen;obtain⟨hpw,hself⟩:=mb (cx:=cx) (ops:=ops) hpairs;have hpw':ord.Pairwise (xt (dS cx) ops):=hpw;have hO':OpsOk cx.nt (dS cx) ops:=⟨hO.dst,hO.src,hO.kin⟩;obtain⟨hfl,hgs⟩:=gz ops ord;have hseq:=gH (cx:=dS cx) (base:=e.nx) hS (cT ops ord) e e _ h hgs (.refl ops _ e) hr;rw[hfl]at hseq;refine wp_region_draw fun t=>?_;have hsch:Region.schedule (P.follows .mixedOrders) ops t=Region.linearise .any ops t:=by
     simp only[Region.schedule,hT.mix,Bool.true_or,H7]
    rw[hsch];have hmem':∀i,i∈ord↔i<ops.size:=fun i=>⟨fun hi=>hlt i hi,fun hi=>(fB _ _).1 (hmem i (by simpa using hi))⟩;refine wpAny_sound ops.size t _ a _ (rD (cx:=dS cx) (c:=c) (N:=cx.nt) (base:=e.nx) hT hC.draw hI.draw hO' hS ?_ ?_ ops.size ord (Array.replicate ops.size false) [] e h a w.drew hlen' (by simp) (iJ hdist) ?_ (by simp) (by simp) ?_ hpw' ?_ ?_ ?_ ?_)
    ·intro i x hx;rcases HI x ops.size with h'|h'
     ·exact h'
     ·have hm:(iE ops).getD i 0<2 ^ ops.size:=by
       rw[Ih];cases hi:(iE ops)[i]? with
       |none=>simp;exact Nat.pow_pos (by omega)
       |some m=>exact hbits m (IB hi)
      rw[Nat.testBit_lt_two_pow (H6 hm (Nat.pow_le_pow_right (by omega) h'))]at hx;cases hx
    ·exact fun i hi=>hself i ((hmem' i).2 hi)
    ·intro i;rw[hmem'];constructor
     ·intro hi;refine⟨hi,?_⟩;rw[HU,Kh,Ht hi];rfl
     ·exact fun hi=>hi.1
    ·intro j o ho hj;exfalso;rw[HU,Kh]at hj;split at hj<;>simp at hj
    ·obtain⟨S,β,γ,lam,ω,F⟩:=H0;exact⟨S,β,γ,lam,ω,F.drew⟩
    ·rcases hseq with⟨_,_,_,_,h2,_⟩|⟨_,_,_,h2⟩<;>rw[h2]<;>simp
    ·intro e0 e' h' a' w' hok heq hsat hdf;rcases hseq with⟨e2',e'',h'',h1,h2,hR⟩|⟨_,_,_,h2⟩
     ·rw[h2]at hok;cases hok;exact hn _ _ a' w' h1 (dH.nx _ ((hsat.eqE heq.symm).rel hR)) hdf
     ·rw[h2]at hok;cases hok
    ·intro pv h' v w' a' hok hps hdf;rcases hseq with⟨e2',e'',h'',h1,h2,hR⟩|⟨_,_,h1,h2⟩
     ·rw[h2]at hok;cases hok
     ·rw[h2]at hok;cases hok;exact hp _ _ v w' a' h1 hps hdf
end
end Go.Av
namespace Go.Av
variable [Dr]
omit [Dr]in
theorem hP{e:Env}:∀(l:List (Nat×Option Nat))(used:List Nat)(vs:List AV),fC e l used=some vs->vs.length=l.length/\
  (∀(i:Nat)(t:Nat)(z:Option Nat),l[i]? = some (t,z)->∃a,vs[i]? = some a/\(e.get t).v= .val a/\∀sz,z=some sz->∃g z0,(e.get t).g=some g/\aC e.al g=some z0/\(z0=none\/z0=some sz)/\g ∉ used)/\
  ∀(i j:Nat)(t t' sz sz':Nat),i<j->l[i]? = some (t,some sz)->l[j]? = some (t',some sz')->(e.get t).g≠(e.get t').g
 |[],used,vs,h=>by
  simp only[fC,Ho]at h;subst h;exact⟨rfl,by simp,by simp⟩
 | (t,none):: r,used,vs,h=>by
  simp only[fC]at h;split at h
  ·rename_i a ha;split at h
   ·rename_i vs' hvs;simp only[Ho]at h;subst h;obtain⟨h1,h2,h3⟩:=hP r used vs' hvs;refine⟨by simp[h1],fun i t' z hi=>?_,fun i j t1 t2 sz1 sz2 hij hi hj=>?_⟩
    ·cases i with
     |zero=>
      simp only[HS,Ho,Ii]at hi;obtain⟨rfl,rfl⟩:=hi;exact⟨a,rfl,ha,fun sz hsz=>by cases hsz⟩
     |succ i=>simpa using h2 i t' z (by simpa using hi)
    ·cases i with
     |zero=>simp at hi
     |succ i=>
      cases j with
      |zero=>omega
      |succ j=>exact h3 i j t1 t2 sz1 sz2 (by omega) (by simpa using hi) (by simpa using hj)
   ·cases h
  ·cases h
 | (t, some sz):: r,used,vs,h=>by
  simp only[fC]at h;split at h
  ·rename_i a g ha hg;split at h
   ·cases h
   ·rename_i z0 hz0;have hcond:qP z0 (some sz)=true/\ef used g=false/\(match fC e r (g:: used)with|some vs=>some (a:: vs)|none=>none)=some vs:=by
     cases hm:ef used g with
     | true=>
      rw[hm]at h;cases z0 with
      |none=>cases h
      |some n=>
       simp only at h;cases hb:Nat.beq n sz<;>rw[hb]at h<;>cases h
     | false=>
      rw[hm]at h;cases z0 with
      |none=>exact⟨rfl,rfl,h⟩
      |some n=>
       simp only at h;cases hb:Nat.beq n sz with
       |true=>rw[hb]at h;exact⟨hb,rfl,h⟩
       |false=>rw[hb]at h;cases h
    obtain⟨hc1,hc2,h⟩:=hcond;have hc:=And.intro hc1 hc2
    ·split at h
     ·rename_i vs' hvs;simp only[Ho]at h;subst h;have hgu:g ∉ used:=fun hm=>by
       rw[(fB _ _).2 hm]at hc;exact Bool.noConfusion hc.2
      have hz:z0=none\/z0=some sz:=by
       cases z0 with
       |none=>exact .inl rfl
       |some n=>exact .inr (by rw[Hv hc.1])
      obtain⟨h1,h2,h3⟩:=hP r (g:: used) vs' hvs;refine⟨by simp[h1],fun i t' z hi=>?_,fun i j t1 t2 sz1 sz2 hij hi hj=>?_⟩
      ·cases i with
       |zero=>
        simp only[HS,Ho,Ii]at hi;obtain⟨rfl,rfl⟩:=hi;exact⟨a,rfl,ha,fun sz' hsz=>by cases hsz;exact⟨g,z0,hg,hz0,hz,hgu⟩⟩
       |succ i=>
        obtain⟨a',k1,k2,k3⟩:=h2 i t' z (by simpa using hi);refine⟨a',by simpa using k1,k2,fun sz' hsz=>?_⟩;obtain⟨g',z',m1,m2,m3,m4⟩:=k3 sz' hsz;exact⟨g',z',m1,m2,m3,fun hm=>m4 (by simp[hm])⟩
      ·cases i with
       | zero=>
        cases j with
        |zero=>omega
        |succ j=>
         simp only[HS,Ho,Ii]at hi;obtain⟨rfl,_⟩:=hi;obtain⟨a',k1,k2,k3⟩:=h2 j t2 (some sz2) (by simpa using hj);obtain⟨g',z',m1,m2,m3,m4⟩:=k3 sz2 rfl;rw[hg,m1];intro hh;simp only[Ho]at hh;exact m4 (by simp[hh])
       |succ i=>
        cases j with
        |zero=>omega
        |succ j=>exact h3 i j t1 t2 sz1 sz2 (by omega) (by simpa using hi) (by simpa using hj)
     ·cases h
  ·cases h
omit [Dr]in
theorem iw(vs:List AV)(r:List (Nat×Ent))(t:Nat):∀(l:List (Nat×Option Nat))(k:Nat),
  (∃(i:Nat)(z:Option Nat),l[i]? = some (t,z)/\bw (ca vs k l++r) t=⟨.val (nth vs (k+i)),z.map fun _=>k+i⟩)\/
  ((∀(i:Nat)(z:Option Nat),l[i]? ≠some (t,z))/\bw (ca vs k l++r) t=bw r t)
 |[],k=>.inr ⟨by simp,rfl⟩
 | (s,z):: l,k=>by
  have hh:ca vs k ((s,z):: l)=(s,⟨.val (nth vs k),z.map fun _=>k⟩):: ca vs (k+1) l:=by cases z<;>rfl
  rw[hh,H8,bK];by_cases hs:s=t
  ·subst hs;rw[Ht rfl];exact .inl ⟨0,z,rfl,rfl⟩
  ·rw[if_neg hs];rcases iw vs r t l (k+1)with⟨i,z',h1,h2⟩|⟨h1,h2⟩
   ·refine .inl ⟨i+1,z',by simpa using h1,?_⟩;rw[h2,show k+1+i=k+(i+1) by omega]
   ·refine .inr ⟨fun i z' hi=>?_,h2⟩;cases i with
    |zero=>simp at hi;exact hs hi.1
    |succ i=>exact h1 i z' (by simpa using hi)
omit [Dr]in
theorem fq:∀(l:List (Nat×Option Nat))(k g:Nat)(y:Option Nat),aC (gM k l) g=some y->∃(i t sz:Nat),l[i]? = some (t,some sz)/\g=k+i/\y=some sz
 |[],k,g,y,h=>by simp[gM,aC]at h
 |(s,none):: l,k,g,y,h=>by
  obtain⟨i,t,sz,h1,h2,h3⟩:=fq l (k+1) g y h;exact⟨i+1,t,sz,by simpa using h1,by omega,h3⟩
 | (s,some n):: l,k,g,y,h=>by
  simp only[gM,bB]at h;split at h
  ·rename_i hk;simp only[Ho]at h;exact⟨0,s,n,rfl,by omega,h.symm⟩
  ·obtain⟨i,t,sz,h1,h2,h3⟩:=fq l (k+1) g y h;exact⟨i+1,t,sz,by simpa using h1,by omega,h3⟩
omit [Dr]in
theorem lr(t:Nat):∀(l:List (Nat×Nat×Nat)),(∃B off,(t,B,off)∈l/\bw (l.map fun x=>(x.1,(⟨.loc x.2.1 x.2.2,none⟩:Ent))) t=⟨.loc B off,none⟩)\/bw (l.map fun x=>(x.1,(⟨.loc x.2.1 x.2.2,none⟩:Ent))) t=Ent.none
 |[]=>.inr rfl
 | (s,B,off):: l=>by
  rw[H3,bK];by_cases hs:s=t
  ·subst hs;rw[Ht rfl];exact .inl ⟨B,off,by simp,rfl⟩
  ·rw[if_neg hs];rcases lr t l with⟨B',off',h1,h2⟩|h
   ·exact .inl ⟨B',off',by simp[h1],h2⟩
   ·exact .inr h
omit [Dr]in
theorem ny{e:Env}:∀ {l:List (Nat×Nat×Nat)},nv e l=true->∀t B off,(t,B,off)∈l->(e.get t).v= .loc B off
 |[],_,t,B,off,h=>by simp at h
 | (s,B0,off0):: l,h,t,B,off,hm=>by
  simp only[nv,Hq]at h;simp only[HO,Ii]at hm;rcases hm with⟨rfl,rfl,rfl⟩|hm
  ·have h1:=h.1;split at h1
   ·rename_i B' off' hv;simp only[Hq]at h1;rw[hv,Hv h1.1,Hv h1.2]
   ·cases h1
  ·exact ny h.2 t B off hm
omit [Dr]in
theorem po{e:Env}:∀ {l:List (Nat×Nat)},sg e l=true->∀B n,bb l B=some n->bb e.lb B=some n
 |[],_,B,n,h=>by simp[bb]at h
 | (B0,n0):: l,h,B,n,hm=>by
  simp only[sg,Hq]at h;rw[dn]at hm;split at hm
  ·rename_i hB;subst hB;simp only[Ho]at hm;subst hm;have h1:=h.1;split at h1
   ·rename_i m hv;rw[hv,Hv h1]
   ·cases h1
  ·exact po h.2 B n hm
section
variable {c:Entry} {N:Nat} {e:Env} {h:Hp} {a:Act} {w:World}
open Classical in
theorem qT{ja:JA}{vs:List AV}(H:ix c N e h a w)(hp:pack ja e=some vs):ix c N (unpack ja vs) h a w:=by
 obtain⟨S,β,γ,lam,ω,F⟩:=H;unfold pack at hp;cases hlo:(nv e ja.locs&&sg e ja.lbs)with
 |false=>rw[hlo]at hp;cases hp
 | true=>
  rw[hlo]at hp;simp only[Hr]at hp;simp only[Hq]at hlo;obtain⟨hlen,hval,hdis⟩:=hP ja.vals [] vs hp
  -- the groups carried
  let gOf:Nat->Option Nat:=fun i=>match ja.vals[i]? with|some (t,some _)=>(e.get t).g|_=>none
  have hg1:∀i t sz,ja.vals[i]? = some (t,some sz)->∃g z0,gOf i=some g/\(e.get t).g=some g/\aC e.al g=some z0/\(z0=none\/z0=some sz):=by
   intro i t sz hi;obtain⟨a',_,_,h3⟩:=hval i t (some sz) hi;obtain⟨g,z0,k1,k2,k3,_⟩:=h3 sz rfl;refine⟨g,z0,?_,k1,k2,k3⟩;show (match ja.vals[i]? with|some (t,some _)=>(e.get t).g|_=>none)=some g;rw[hi];exact k1
  have hg2:∀i j g,gOf i=some g->gOf j=some g->i=j:=by
   have hex:∀i g,gOf i=some g->∃t sz,ja.vals[i]? = some (t,some sz)/\(e.get t).g=some g:=by
    intro i g hi;have hi':(match ja.vals[i]? with|some (t,some _)=>(e.get t).g|_=>none)=some g:=hi;split at hi'
    ·rename_i t sz ht;exact⟨t,sz,ht,hi'⟩
    ·cases hi'
   intro i j g hi hj;obtain⟨t,sz,k1,k2⟩:=hex i g hi;obtain⟨t',sz',m1,m2⟩:=hex j g hj;rcases Nat.lt_trichotomy i j with hlt|heq|hlt
   ·exact absurd (k2.trans m2.symm) (hdis i j t t' sz sz' hlt k1 m1)
   ·exact heq
   ·exact absurd (m2.trans k2.symm) (hdis j i t' t sz' sz hlt m1 k1)
  let γ':Nat->Value:=fun i=>match gOf i with|some g=>γ g|none=>undef
  let ω':Nat->Owner:=fun b=>match ω b with
   |.grp g=>if hx:∃i,gOf i=some g then .grp (Classical.choose hx)else .no
   |o=>o
  have hωg:∀b g i,ω b= .grp g->gOf i=some g->ω' b= .grp i:=by
   intro b g i hb hi;show (match ω b with|.grp g=>if hx:∃i,gOf i=some g then Owner.grp (Classical.choose hx)else .no|o=>o)= .grp i;rw[hb];simp only;have hx:∃i,gOf i=some g:=⟨i,hi⟩;rw[dif_pos hx,hg2 _ _ g (JN hx) hi]
  have hωo:∀b,(∀g,ω b≠.grp g)->ω' b=ω b:=by
   intro b hb;show (match ω b with|.grp g=>if hx:∃i,gOf i=some g then Owner.grp (Classical.choose hx)else .no|o=>o)=ω b;cases ho:ω b with
   |grp g=>exact absurd ho (hb g)
   |_=>rfl
  have hωn:∀b,ω' b≠.no->ω b≠.no:=by
   intro b hb ho;refine hb ?_;rw[hωo b (fun g hg=>by rw[ho]at hg;cases hg),ho]
  have hωx:∀b g,ω' b= .grp g->∃g',ω b= .grp g':=by
   intro b g hg;cases ho:ω b with
   |grp g'=>exact⟨g',rfl⟩
   |_=>rw[hωo b (fun g' h'=>by rw[ho]at h';cases h'),ho]at hg;cases hg
  -- the slots
  have hget:∀t,(∃(i:Nat)(z:Option Nat)(a':AV),ja.vals[i]? = some (t,z)/\(e.get t).v= .val a'/\(unpack ja vs).get t=⟨.val a',z.map fun _=>i⟩)\/(∃B off,(e.get t).v= .loc B off/\(unpack ja vs).get t=⟨.loc B off,none⟩)\/(unpack ja vs).get t=Ent.none:=by
   intro t;have hu:(unpack ja vs).get t=bw (ca vs 0 ja.vals++ja.locs.map fun x=>(x.1,(⟨.loc x.2.1 x.2.2,none⟩:Ent))) t:=rfl;rcases iw vs (ja.locs.map fun x=>(x.1,(⟨.loc x.2.1 x.2.2,none⟩:Ent))) t ja.vals 0 with⟨i,z,h1,h2⟩|⟨h1,h2⟩
   ·obtain⟨a',k1,k2,_⟩:=hval i t z h1;refine .inl ⟨i,z,a',h1,k2,?_⟩;rw[hu,h2,HJ];have:nth vs i=a':=by simp[nth,k1]
    rw[this]
   ·rcases lr t ja.locs with⟨B,off,k1,k2⟩|k
    ·exact .inr (.inl ⟨B,off,ny hlo.1 t B off k1,by rw[hu,h2,k2]⟩)
    ·exact .inr (.inr (by rw[hu,h2,k]))
  have hgg:∀t g,((unpack ja vs).get t).g=some g->∃sz,ja.vals[g]? = some (t,some sz):=by
   intro t g hg;rcases hget t with⟨i,z,a',h1,_,h3⟩|⟨_,_,_,h3⟩|h3
   ·rw[h3]at hg;cases z with
    |none=>simp at hg
    |some sz=>simp at hg;subst hg;exact⟨sz,h1⟩
   ·rw[h3]at hg;cases hg
   ·rw[h3]at hg;cases hg
  have hγ:∀t g,((unpack ja vs).get t).g=some g->∃g0 z0,(e.get t).g=some g0/\aC e.al g0=some z0/\γ' g=γ g0:=by
   intro t g hg;obtain⟨sz,h1⟩:=hgg t g hg;obtain⟨g0,z0,k1,k2,k3,_⟩:=hg1 g t sz h1;refine⟨g0,z0,k2,k3,?_⟩;show (match gOf g with|some g=>γ g|none=>undef)=γ g0;rw[k1]
  refine⟨S,β,γ',lam,ω',⟨F.wf,F.gro,F.keep,F.le,F.ext,F.hlen,fun l cs hl hcs=>?_,F.tsz,fun t ht=>?_,fun t g z ht hg hz=>?_,fun B n hB=>?_,fun g z hz=>?_,fun b hb=>⟨(F.mine b (hωn b hb)).1.imp (fun hE=>⟨hE.1,fun g hg=>by obtain⟨g',h'⟩:=hωx b g hg;exact hE.2 g' h'⟩) id,(F.mine b (hωn b hb)).2⟩,fun t g hg=>?_,fun g z hz=>?_⟩⟩
  ·rcases F.heap l cs hl hcs with⟨b,x,h1,h2,h3,h4⟩|⟨b,h1,h3,h4⟩
   ·exact .inl ⟨b,x,h1,h2,by rw[hωo b (fun g hg=>by rw[h3]at hg;cases hg)];exact h3,h4⟩
   ·exact .inr ⟨b,h1,by rw[hωo b (fun g hg=>by rw[h3]at hg;cases hg)];exact h3,h4⟩
  ·have hs:=F.slots t ht;rcases hget t with⟨i,z,a',_,h2,h3⟩|⟨B,off,h2,h3⟩|h3
   ·rw[h3];rw[h2]at hs;exact hs
   ·rw[h3];rw[h2]at hs;exact hs
   ·rw[h3];simp[Ent.none,ej,VR]
  ·obtain⟨g0,z0,k1,k2,k3⟩:=hγ t g hg;rw[k3];exact F.grps t g0 z0 ht k1 k2
  ·obtain⟨k1,k2,k3,b,x,k4,k5,k6,k7,k8⟩:=F.lblk B n (po hlo.2 B n hB);refine⟨k1,k2,k3,b,x,k4,k5,by rw[hωo b (fun g hg=>by rw[k6]at hg;cases hg)];exact k6,k7,fun i hi=>?_⟩;obtain⟨v,a',m1,m2,m3,m4⟩:=k8 i hi;have hgr:∀g z,((unpack ja vs).get (B+i)).g=some g->aC (unpack ja vs).al g=some z->v=γ' g:=by
    intro g z hg _;obtain⟨g0,z0,p1,p2,p3⟩:=hγ _ g hg;rw[p3];exact m4 g0 z0 p1 p2
   rcases hget (B+i)with⟨j,z,a2,_,h2,h3⟩|⟨B',off,h2,h3⟩|h3
   ·refine⟨v,a2,m1,by rw[h3],?_,hgr⟩;rw[m2]at h2;cases h2;exact m3
   ·rw[m2]at h2;cases h2
   ·exact⟨v,.any,m1,by rw[h3];rfl,by simp[VR],hgr⟩
  ·obtain⟨i,t,sz,h1,h2,h3⟩:=fq ja.vals 0 g z hz;rw[HJ]at h2;subst h2;obtain⟨g0,z0,k1,k2,k3,k4⟩:=hg1 g t sz h1;have hγ':γ' g=γ g0:=by
    show (match gOf g with|some g=>γ g|none=>undef)=γ g0;rw[k1]
   rw[hγ'];obtain⟨ad,len,cap,m1,m2,m3,m4⟩:=F.free g0 z0 k3;refine⟨ad,len,cap,m1,m2,m3,m4.imp id ?_⟩;rintro⟨sz',b,off,x,p1,p2,p3,p4,p5,p6⟩;have:sz'=sz:=by
    rcases k4 with k4|k4<;>rw[k4]at p1<;>cases p1;rfl
   subst this;exact⟨sz',b,off,x,h3,p2,p3,p4,hωg b g0 g p5 k1,p6⟩
  ·obtain⟨sz,h1⟩:=hgg t g hg;have:g<ja.vals.length:=by
    rcases HI g ja.vals.length with h|h
    ·exact h
    ·rw[Hz h]at h1;cases h1
   show g<ja.vals.length*1000;omega
  ·obtain⟨i,t,sz,h1,h2,h3⟩:=fq ja.vals 0 g z hz;have:i<ja.vals.length:=by
    rcases HI i ja.vals.length with h|h
    ·exact h
    ·rw[Hz h]at h1;cases h1
   show g<ja.vals.length*1000;omega
omit [Dr]in
theorem AY(d:Nat)(h:Hp):gy d h .any= .any:=by cases d<;>rfl
omit [Dr]in
theorem vC(g:AV->AV)(hg:g .any= .any)(vs:List AV)(i:Nat):nth (vs.map g) i=g (nth vs i):=by
 unfold nth;rw[Ih,Ih,Iy];cases vs[i]? with
 |none=>simp[hg]
 |some v=>rfl
structure Reval (g:AV->AV) (x y:Ent):Prop where
 gr:y.g=x.g
 v:(∃a,x.v= .val a/\y.v= .val (g a))\/(∃B off,x.v= .loc B off/\y.v= .loc B off)
omit [Dr]in
theorem fl(g:AV->AV)(hg:g .any= .any)(vs:List AV)(r:List (Nat×Ent))(hr:∀t,Reval g (bw r t) (bw r t))(t:Nat):∀(l:List (Nat×Option Nat))(k:Nat),
  Reval g (bw (ca vs k l++r) t) (bw (ca (vs.map g) k l++r) t)
 |[],k=>by simpa [ca]using hr t
 |(s,none):: l,k=>by
  simp only[ca,H8,bw];cases Nat.beq s t with
  |true=>exact⟨rfl,.inl ⟨_,rfl,by simp only[Hr];rw[vC g hg]⟩⟩
  |false=>exact fl g hg vs r hr t l (k+1)
 |(s,some z):: l,k=>by
  simp only[ca,H8,bw];cases Nat.beq s t with
  |true=>exact⟨rfl,.inl ⟨_,rfl,by simp only[Hr];rw[vC g hg]⟩⟩
  |false=>exact fl g hg vs r hr t l (k+1)
omit [Dr]in
theorem qS(g:AV->AV)(hg:g .any= .any)(ja:JA)(vs:List AV)(t:Nat):Reval g ((unpack ja vs).get t) ((unpack ja (vs.map g)).get t):=by
 refine fl g hg vs _ (fun t=>?_) t ja.vals 0;rcases lr t ja.locs with⟨B,off,_,k2⟩|k
 ·rw[k2];exact⟨rfl,.inr ⟨B,off,rfl,rfl⟩⟩
 ·rw[k];exact⟨rfl,.inl ⟨.any,rfl,by simp[Ent.none,hg]⟩⟩
theorem FR.reval{U:Nat->Prop}{S:ar}{β:List bj}{γ:Nat->Value}{lam:Nat->Option Nat}{ω:Nat->Owner}{e2:Env}{h2:Hp}{S2:ar}{ω2:Nat->Owner}{g:AV->AV}(F:FR c N U e h a w S β γ lam ω)(F2:FR c N U e h2 a w S2 β γ lam ω2)(hg:∀x v,VR S β x v->VR S2 β (g x) v)(hr:∀t,Reval g (e.get t) (e2.get t))(hal:e2.al=e.al)(hlb:e2.lb=e.lb):FR c N U e2 h2 a w S2 β γ lam ω2:=by
 refine⟨F2.wf,F2.gro,F2.keep,F2.le,F2.ext,F2.hlen,F2.heap,F2.tsz,fun t ht=>?_,fun t k z ht hk hz=>?_,fun B n hB=>?_,fun k z hz=>F2.free k z (by rw[<- hal];exact hz),F2.mine,fun t k hk=>?_,fun k z hz=>F2.used.2 k z (by rw[<- hal];exact hz)⟩
 ·have h1:=F.slots t ht;rcases (hr t).v with⟨x,q1,q2⟩|⟨B,off,q1,q2⟩
  ·rw[q1]at h1;rw[q2];exact hg _ _ h1
  ·rw[q1]at h1;rw[q2];exact h1
 ·rw[(hr t).gr]at hk;rw[hal]at hz;exact F2.grps t k z ht hk hz
 ·rw[hlb]at hB;obtain⟨k1,k2,k3,b,x,k4,k5,k6,k7,k8⟩:=F2.lblk B n hB;obtain⟨_,_,_,b',x',j4,j5,j6,j7,j8⟩:=F.lblk B n hB;rw[k4]at j4;cases j4;cases k5.inj j5;refine⟨k1,k2,k3,b,x,k4,k5,k6,k7,fun i hi=>?_⟩;obtain⟨v,a',m1,m2,m3,m4⟩:=k8 i hi;obtain⟨v',a'',n1,n2,n3,_⟩:=j8 i hi;rw[m1]at n1;cases n1;rcases (hr (B+i)).v with⟨y,q1,q2⟩|⟨B',off,q1,q2⟩
  ·rw[n2]at q1;cases q1;refine⟨v,g a'',m1,q2,hg _ _ n3,fun k z hk hz=>?_⟩;rw[(hr (B+i)).gr]at hk;rw[hal]at hz;exact m4 k z hk hz
  ·rw[n2]at q1;cases q1
 ·rw[(hr t).gr]at hk;exact F2.used.1 t k hk
theorem ow{ja:JA}{vs:List AV}(H:ix c N (unpack ja vs) h a w):ix c N (unpack ja (vs.map (gy 6 h))) (h.map fun _=>[]) a w:=by
 obtain⟨S,β,γ,lam,ω,F⟩:=H;obtain⟨S2,ω2,F2,hf⟩:=F.freeze;have F3:=F.reval F2 (g:=gy 6 h) (fun x v hx=>hf _ _ hx) (qS _ (AY 6 h) ja vs) (e2:=unpack ja (vs.map (gy 6 h))) rfl rfl;exact⟨S2,β,γ,lam,ω2,F3⟩
end
end Go.Av
namespace Go.Av
variable [Dr]
section
variable {P:Program} {cx:Cx} {c:Entry} {e:Env} {h:Hp} {a:Act} {w:World} {ops:Array Oper} {id:Nat}
theorem uu{ρ:Type}(hT:TOK P cx.T)(hC:cp P cx.own cx.call)(hI:IsoCall cx)(hk:∀p,wM (bO cx.ann.kinds p .L)=true->p<cx.nt){draw:Bool}{k:Env->M ρ}(H:ix c cx.nt e h a w)(hr:kX cx id ops draw e k h≠.fail){Q:Exit->Act->World->Prop}(hn:∀e' h' a' w',kX cx id ops draw e k h=k e' h'->ix c cx.nt e' h' a' w'->a'.defers=a.defers->Q .normal a' w')(hp:∀pv h' v w' a',kX cx id ops draw e k h= .pan pv h'->jw c pv h' v w'->a'.defers=a.defers->Q (.panic [{ v,recovered:=false }]) a' w'):
  (Code.region id ops draw).wp P Q a w:=wX hT hC hI hk H hr hn hp
end
end Go.Av
namespace Go.Av
variable [Dr]
section
variable {P:Program} {Q:Exit->Act->World->Prop} {b:Code}
def iB(P:Program)(c:Code)(Q:Exit->Act->World->Prop)(a:Act)(w:World):Prop:=
 ∀(b:Frame)(k:List Item)(cs:List Frame),∃e a' w',Q e a' w'/\Arrives P (lone (b.at a (.code c:: .inLoop c:: k)) cs w) b k cs e a' w'
omit [Dr]in
theorem iB.loop{a:Act}{w:World}(h:iB P b Q a w):(Code.loop b).wp P Q a w:=
 fun f k cs=>let ⟨e,a',w',q,r⟩:=h f k cs;⟨e,a',w',q,.of_steps (.one step_loop) r⟩
omit [Dr]in
theorem iB.round{a:Act}{w:World}(h:b.wp P (Exit.then (iB P b Q) Q) a w):iB P b Q a w:=by
 intro f k cs;obtain⟨e,a₁,w₁,hq,harr⟩:=h f (.inLoop b:: k) cs;cases e with
 |normal=>
  obtain⟨e₂,a₂,w₂,hq₂,harr₂⟩:=hq f k cs;exact⟨e₂,a₂,w₂,hq₂,.of_steps (Steps.trans harr (.one step_inLoop)) harr₂⟩
 |exit id=>exact⟨_,a₁,w₁,hq,.pass (x:=.inLoop b) rfl (fun _ _=>.inl (by simp)) harr⟩
 |goto l=>exact⟨_,a₁,w₁,hq,.pass (x:=.inLoop b) rfl (fun _ _=>.inl (by simp)) harr⟩
 |ret=>exact⟨_,a₁,w₁,hq,.pass (x:=.inLoop b) rfl (fun _ _=>.inl (by simp)) harr⟩
 |panic ch=>exact⟨_,a₁,w₁,hq,.pass (x:=.inLoop b) rfl (fun _ _=>.inl (by simp)) harr⟩
 |outgrown=>exact⟨_,a₁,w₁,hq,.pass (x:=.inLoop b) rfl (fun _ _=>.inl (by simp)) harr⟩
end
section
variable {P:Program} {cx:Cx} {c:Entry} {ρ:Type}
omit [Dr]in
theorem yV{fx:bV ρ}{id:Nat}{code:Code}{e:Env}{kn kr:Env->M ρ}{kx:Nat->Env->M ρ}(hc:∀b,code≠.loop b):
  ev cx fx (.block id code) e kn kx kr=ev cx fx code e kn (fun i e'=>bif Nat.beq i id then kn e' else kx i e') kr:=by
 cases code<;>first|rfl|exact absurd rfl (hc _)
def ub(cx:Cx)(x:Code):Option JA:=match j9 x with
 |some t=>lR cx.ann.joins t
 |none=>none
omit [Dr]in
theorem C5{fx:bV ρ}{x y:Code}{e:Env}{kn kr:Env->M ρ}{kx:Nat->Env->M ρ}:ev cx fx (.seq x y) e kn kx kr=(match ub cx x with
  |some ja=>jn (fun vs=>ev cx fx y (unpack ja vs) kn kx kr) fun j=>ev cx fx x e (nZ ja j) kx kr
  |none=>ev cx fx x e (fun e'=>ev cx fx y e' kn kx kr) kx kr):=by
 unfold ub;simp only[ev];cases j9 x with
 |none=>rfl
 |some t=>
  simp only;cases lR cx.ann.joins t<;>rfl
structure Posts (c:Entry) (N:Nat) (r:R ρ) (a:Act) (kn:Env->M ρ) (kx:Nat->Env->M ρ) (kr:Env->M ρ) (Q:Exit->Act->World->Prop):Prop where
 nrm:∀e' h' a' w',r=kn e' h'->ix c N e' h' a' w'->a'.defers=a.defers->Q .normal a' w'
 ext:∀i e' h' a' w',r=kx i e' h'->ix c N e' h' a' w'->a'.defers=a.defers->Q (.exit i) a' w'
 ret:∀e' h' a' w',r=kr e' h'->ix c N e' h' a' w'->a'.defers=a.defers->Q .ret a' w'
 pan:∀pv h' v w' a',r= .pan pv h'->jw c pv h' v w'->a'.defers=a.defers->Q (.panic [{ v,recovered:=false }]) a' w'
theorem qR{ja:JA}{j:List AV->M ρ}{e:Env}{h:Hp}{N:Nat}{a:Act}{w:World}(H:ix c N e h a w)(hr:nZ ja j e h≠.fail):∃vs h',nZ ja j e h=j vs h'/\ix c N (unpack ja vs) h' a w:=by
 unfold nZ at hr |-;cases hp:pack ja e with
 |none=>rw[hp]at hr;exact absurd rfl hr
 |some vs=>
  have hs:=qT H hp;simp only;cases ja.fz with
  |false=>exact⟨vs,h,rfl,hs⟩
  |true=>exact⟨_,_,rfl,ow hs⟩
theorem yW(hT:TOK P cx.T)(hC:cp P cx.own cx.call)(hI:IsoCall cx)(hk:∀p,wM (bO cx.ann.kinds p .L)=true->p<cx.nt)(m:Nat):∀(n:Nat)(code:Code),SizeOf.sizeOf code<n->
  ∀(e:Env)(h:Hp)(a:Act)(w:World)(kn:Env->M ρ)(kx:Nat->Env->M ρ)(kr:Env->M ρ)(Q:Exit->Act->World->Prop),ix c cx.nt e h a w->ev cx (cv m) code e kn kx kr h≠.fail->
  Posts c cx.nt (ev cx (cv m) code e kn kx kr h) a kn kx kr Q->code.wp P Q a w:=by
 intro n
 induction n with
 |zero=>intro code hn;omega
 | succ n ih=>
  intro code hn e h a w kn kx kr Q H hr hp;cases code<;>(try exact absurd rfl hr)
  case skip=>exact wp_skip (hp.nrm e h a w rfl H rfl)
  case exit id=>exact wp_exit (hp.ext id e h a w rfl H rfl)
  case ret=>exact wp_ret (hp.ret e h a w rfl H rfl)
  case region id ops draw=>exact uu hT hC hI hk H hr hp.nrm hp.pan
  case seq x y=>
   have hx:SizeOf.sizeOf x<n:=by simp at hn;omega
   have hy:SizeOf.sizeOf y<n:=by simp at hn;omega
   refine wp_seq ?_;rw[C5]at hr hp;generalize ub cx x=oj at hr hp;cases oj with
   |none=>
    simp only at hr hp;refine ih x hx e h a w _ kx kr _ H hr ⟨fun e' h' a' w' hok hs hd=>?_,fun i e' h' a' w' hok hs hd=>hp.ext i e' h' a' w' hok hs hd,fun e' h' a' w' hok hs hd=>hp.ret e' h' a' w' hok hs hd,fun pv h' v w' a' hok hs hd=>hp.pan pv h' v w' a' hok hs hd⟩;rw[hok]at hr hp;exact ih y hy e' h' a' w' kn kx kr Q hs hr ⟨fun e2 h2 a2 w2 k1 k2 k3=>hp.nrm e2 h2 a2 w2 k1 k2 (k3.trans hd),fun i e2 h2 a2 w2 k1 k2 k3=>hp.ext i e2 h2 a2 w2 k1 k2 (k3.trans hd),fun e2 h2 a2 w2 k1 k2 k3=>hp.ret e2 h2 a2 w2 k1 k2 (k3.trans hd),fun pv h2 v w2 a2 k1 k2 k3=>hp.pan pv h2 v w2 a2 k1 k2 (k3.trans hd)⟩
   |some ja=>
    simp only[jn]at hr hp;refine ih x hx e h a w _ kx kr _ H hr ⟨fun e' h' a' w' hok hs hd=>?_,fun i e' h' a' w' hok hs hd=>hp.ext i e' h' a' w' hok hs hd,fun e' h' a' w' hok hs hd=>hp.ret e' h' a' w' hok hs hd,fun pv h' v w' a' hok hs hd=>hp.pan pv h' v w' a' hok hs hd⟩;rw[hok]at hr hp;obtain⟨vs,h3,hj,hs3⟩:=qR hs hr;rw[hj]at hr hp;exact ih y hy (unpack ja vs) h3 a' w' kn kx kr Q hs3 hr ⟨fun e2 h2 a2 w2 k1 k2 k3=>hp.nrm e2 h2 a2 w2 k1 k2 (k3.trans hd),fun i e2 h2 a2 w2 k1 k2 k3=>hp.ext i e2 h2 a2 w2 k1 k2 (k3.trans hd),fun e2 h2 a2 w2 k1 k2 k3=>hp.ret e2 h2 a2 w2 k1 k2 (k3.trans hd),fun pv h2 v w2 a2 k1 k2 k3=>hp.pan pv h2 v w2 a2 k1 k2 (k3.trans hd)⟩
  case cond o x y=>
   have hx:SizeOf.sizeOf x<n:=by simp at hn;omega
   have hy:SizeOf.sizeOf y<n:=by simp at hn;omega
   cases o<;>(try exact absurd rfl hr)
   case const v=>
    simp only[ev]at hr hp
    have hav:∀b,cA v= .bool b->a.eval (.const v)= .bool b:=by
     intro b hb;show v= .bool b;cases v with
     |bool c=>simp only[cA,uR,AV.bool.injEq]at hb;rw[hb]
     |tuple vs=>simp only[cA]at hb;cases hvs:vs.isEmpty<;>rw[hvs]at hb<;>cases hb
     |pointer p=>cases p<;>(simp only[cA,uR]at hb;cases hb)
     |map p=>cases p<;>(simp only[cA,uR]at hb;cases hb)
     | slice p n m=>
      have hs:uR (.slice p n m)= .sl []\/uR (.slice p n m)= .any:=by
       cases p with
       |some q=>exact .inr rfl
       | none=>cases n with
        |succ n=>exact .inr rfl
        |zero=>cases m with
         |succ m=>exact .inr rfl
         |zero=>exact .inl rfl
      simp only[cA]at hb;rcases hs with hs|hs<;>rw[hs]at hb<;>cases hb
     |_=>simp only[cA,uR]at hb;cases hb
    cases hq:cA v<;>rw[hq]at hr hp<;>(try exact absurd rfl hr);rename_i b;cases b with
    |true=>exact wp_cond (hav true hq) (ih x hx e h a w kn kx kr Q H hr hp)
    |false=>exact wp_cond (hav false hq) (ih y hy e h a w kn kx kr Q H hr hp)
   rename_i t;simp only[ev]at hr hp;cases ht:decide (t<1000)with
   |false=>rw[ht]at hr;exact absurd rfl hr
   | true=>
    rw[ht]at hr hp;simp only[Hr]at hr hp;have htl:t<1000:=by simpa using ht
    have hav:∀b,e.av t= .bool b->a.eval (.tmp t)= .bool b:=by
     intro b hb;obtain⟨S,β,γ,lam,ω,F⟩:=H;have hs:=F.slots t htl;simp only[Env.av,Ent.av]at hb;cases hv:(e.get t).v with
     |val av=>
      rw[hv]at hs hb;simp only at hb;subst hb;simp only[ej,VR]at hs;exact hs
     |loc B off=>rw[hv]at hb;cases hb
    cases hq:e.av t<;>rw[hq]at hr hp<;>(try exact absurd rfl hr);rename_i b;cases b with
    |true=>exact wp_cond (hav true hq) (ih x hx e h a w kn kx kr Q H hr hp)
    |false=>exact wp_cond (hav false hq) (ih y hy e h a w kn kx kr Q H hr hp)
  case block id code=>
   refine wp_block ?_;by_cases hc:∃b,code= .loop b
   ·obtain⟨b,rfl⟩:=hc;have hb:SizeOf.sizeOf b<n:=by simp at hn;omega
    simp only[ev]at hr hp;cases hja:lR cx.ann.loops id with
    |none=>rw[hja]at hr;exact absurd rfl hr
    | some ja=>
     rw[hja]at hr hp;simp only at hr hp;refine iB.loop ?_;obtain⟨vs,h3,hj,hs3⟩:=qR H hr;rw[hj]at hr hp;have key:∀(k:Nat)(vs:List AV)(h:Hp)(a1:Act)(w:World),ix c cx.nt (unpack ja vs) h a1 w->a1.defers=a.defers->
       cv k (fun self vs=>ev cx (cv m) b (unpack ja vs) (nZ ja self) (fun i e'=>bif Nat.beq i id then kn e' else kx i e') kr) vs h≠.fail->
       Posts c cx.nt (cv k (fun self vs=>ev cx (cv m) b (unpack ja vs) (nZ ja self) (fun i e'=>bif Nat.beq i id then kn e' else kx i e') kr) vs h) a kn kx kr Q->iB P b (Exit.inBlock id Q) a1 w:=by
      intro k
      induction k with
      |zero=>intro vs h a1 w _ _ hr _;exact absurd rfl hr
      | succ k ihk=>
       intro vs h a1 w hs hd hr hp;simp only[cv]at hr hp;refine iB.round (ih b hb (unpack ja vs) h a1 w _ _ kr _ hs hr ⟨fun e' h' a' w' hok hs' hd'=>?_,fun i e' h' a' w' hok hs' hd'=>?_,fun e' h' a' w' hok hs' hd'=>hp.ret e' h' a' w' hok hs' (hd'.trans hd),fun pv h' v w' a' hok hs' hd'=>hp.pan pv h' v w' a' hok hs' (hd'.trans hd)⟩)
       ·rw[hok]at hr hp;obtain⟨vs',h4,hj',hs4⟩:=qR hs' hr;rw[hj']at hr hp;exact ihk vs' h4 a' w' hs4 (hd'.trans hd) hr hp
       ·cases hi:Nat.beq i id with
        |true=>
         rw[hi]at hok
         have:=Hv hi
         subst this;show Exit.inBlock i Q (.exit i) a' w';simp only[Exit.inBlock,H7];exact hp.nrm e' h' a' w' hok hs' (hd'.trans hd)
        |false=>
         rw[hi]at hok;have hne:i≠id:=fun hh=>by subst hh;simp at hi
         show Exit.inBlock id Q (.exit i) a' w';simp only[Exit.inBlock,if_neg hne];exact hp.ext i e' h' a' w' hok hs' (hd'.trans hd)
     exact key m vs h3 a w hs3 rfl hr hp
   ·have hc':∀b,code≠.loop b:=fun b hb=>hc ⟨b,hb⟩;rw[yV hc']at hr hp;have hs:SizeOf.sizeOf code<n:=by simp at hn;omega
    refine ih code hs e h a w kn _ kr _ H hr ⟨fun e' h' a' w' hok hs' hd'=>hp.nrm e' h' a' w' hok hs' hd',fun i e' h' a' w' hok hs' hd'=>?_,fun e' h' a' w' hok hs' hd'=>hp.ret e' h' a' w' hok hs' hd',fun pv h' v w' a' hok hs' hd'=>hp.pan pv h' v w' a' hok hs' hd'⟩;cases hi:Nat.beq i id with
    |true=>
     rw[hi]at hok
     have:=Hv hi
     subst this;show Exit.inBlock i Q (.exit i) a' w';simp only[Exit.inBlock,H7];exact hp.nrm e' h' a' w' hok hs' hd'
    |false=>
     rw[hi]at hok;have hne:i≠id:=fun hh=>by subst hh;simp at hi
     show Exit.inBlock id Q (.exit i) a' w';simp only[Exit.inBlock,if_neg hne];exact hp.ext i e' h' a' w' hok hs' hd'
end
end Go.Av
namespace Go.Av
variable [Dr]
omit [Dr]in
theorem mK:∀(args:List AV)(i t:Nat),bw (rj i args) t=if i<=t/\t<i+args.length then⟨.val (nth args (t-i)),none⟩else Ent.none
 |[],i,t=>by
  simp only[rj,bw,HM,IG];rw[if_neg (by omega)]
 | a:: as0,i,t=>by
  simp only[rj,bK,HG];by_cases h:i=t
  ·subst h;rw[Ht rfl,Ht (by omega)];simp[nth]
  ·rw[if_neg h,mK as0 (i+1) t];by_cases h2:i+1<=t/\t<i+1+as0.length
   ·rw[Ht h2,Ht (by omega)];have:t-i=(t-(i+1))+1:=by omega
    simp[nth,this]
   ·rw[if_neg h2,if_neg (by omega)]
section
variable {P:Program} {cx:Cx}
open Classical in
theorem uB{w:World}{S:ar}{β:List bj}{h:Hp}{args:List AV}{vs:List Value}{n:Nat}(hg:mm β h w)(hw:Wf S w)(hh:cf S β w h)(hv:aN S β args vs)(hn:args.length<=n)(hn2:n<=1000):
  ∃γ lam ω,FR { w,S,β,E:=bL β h,gok:=hg } n (fun g=>g<(mi args).nx*1000) (mi args) h { tmps:=vs.toArray++Array.replicate (n-vs.toArray.size) undef,defers:=[] } w S β γ lam ω:=by
 obtain⟨hlen,ω0,hr⟩:=hh;have hvl:=hv.length;have hget:∀t,(mi args).get t=if t<args.length then⟨.val (nth args t),none⟩else Ent.none:=fun t=>by
  have:=mK args 0 t
  simp only[H5,true_and,HJ,JV]at this;exact this
 let ω:Nat->Owner:=fun b=>if bL β h b then ω0 b else .no;refine⟨fun _=>undef,fun _=>none,ω,⟨hw,Gro.refl _,fun b _ _=>⟨rfl,fun _=>rfl⟩,ar.le_refl S,eP.refl β,hlen,fun l cs hl hcs=>?_,⟨?_,hn2⟩,fun t ht=>?_,fun t g z ht hg=>?_,fun B m hB=>?_,fun g z hz=>?_,fun b hb=>?_,fun t g hg=>?_,fun g z hz=>?_⟩⟩
 ·have hown:∀b n,β[l]? = some (b,n)->ω0 b= .heap l->ω b= .heap l:=fun b n h1 h3=>by
   show (if bL β h b then ω0 b else .no)=_;rw[Ht ⟨l,cs,_,hl,hcs,h1⟩];exact h3
  rcases hr l cs hl hcs with⟨b,x,h1,h2,h3,h4⟩|⟨b,h1,h3,h4⟩
  ·exact .inl ⟨b,x,h1,h2,hown b _ h1 h3,h4⟩
  ·exact .inr ⟨b,h1,hown b _ h1 h3,h4⟩
 ·simp;omega
 ·rw[hget];split
  ·rename_i hlt;have hx:args[t]? = some (nth args t):=by simp[nth,hlt]
   obtain⟨v,h1,h2⟩:=hv.get hx;have:(vs.toArray++Array.replicate (n-vs.toArray.size) undef).getD t undef=v:=by
    rw[HU,IR (by simp;omega)];simp[h1]
   rw[this];exact h2
  ·simp[Ent.none,ej,VR]
 ·rw[hget]at hg;split at hg<;>cases hg
 ·cases hB
 ·cases hz
 ·have hb':bL β h b:=by
   by_cases ho:bL β h b
   ·exact ho
   ·exact absurd (show ω b= .no from if_neg ho) hb
  obtain⟨l,cs,m,h1,h2,h3⟩:=hb';obtain⟨b',x,k1,k2,k3,_⟩:=hr.own h1 h2;rw[h3]at k1;cases k1;have hω:ω b= .heap l:=by
   show (if bL β h b then ω0 b else .no)=_;rw[Ht ⟨l,cs,_,h1,h2,h3⟩];exact k3
  exact⟨.inl ⟨⟨l,cs,_,h1,h2,h3⟩,fun g=>by rw[hω];simp⟩,k2⟩
 ·rw[hget]at hg;split at hg<;>cases hg
 ·cases hz
theorem start{w:World}{S:ar}{β:List bj}{h:Hp}{args:List AV}{vs:List Value}{n:Nat}(hg:mm β h w)(hw:Wf S w)(hh:cf S β w h)(hv:aN S β args vs)(hn:args.length<=n)(hn2:n<=1000):
  ix { w,S,β,E:=bL β h,gok:=hg } n (mi args) h { tmps:=vs.toArray++Array.replicate (n-vs.toArray.size) undef,defers:=[] } w:=⟨S,β,uB hg hw hh hv hn hn2⟩
def fP(tmps:Array Value):ResultVar->Sem Value
 |.tmp t=>pure (tmps.getD t undef)
 |.cell p t=>do loadVar t (<- asAddr (tmps.getD p undef))
omit [Dr]in
theorem nO(fn:Func)(tmps:Array Value):results fn tmps=(do let vs <- fn.results.mapM (fP tmps);pure (if h:vs.size=1 then vs[0]else .tuple vs)):=by
 unfold results;congr 1
theorem DD{c:Entry}{N:Nat}{U:Nat->Prop}{e:Env}{h:Hp}{a:Act}{w:World}{S:ar}{β:List bj}{γ:Nat->Value}{lam:Nat->Option Nat}{ω:Nat->Owner}(hT:TOK P cx.T)(F:FR c N U e h a w S β γ lam ω){r:ResultVar}{v:AV}(hr:sJ cx.T e r=some v):∃u,(fP a.tmps r).run P w= .ok u w/\VR S β v u:=by
 cases r with
 | tmp t=>
  simp only[sJ]at hr;cases ht:decide (t<1000)with
  |false=>rw[ht]at hr;cases hr
  | true=>
   rw[ht]at hr;simp only[Hr]at hr;have hs:=F.slots t (by simpa using ht);cases hv:(e.get t).v with
   |loc B off=>rw[hv]at hr;cases hr
   |val av=>
    rw[hv]at hr hs;simp only[Ho]at hr;subst hr;exact⟨_,by simp only[fP,Sem.run_pure],hs⟩
 | cell p t=>
  simp only[sJ]at hr;cases hp:decide (p<1000)with
  |false=>rw[hp]at hr;cases hr
  | true=>
   rw[hp]at hr;simp only[Hr]at hr;have hs:=F.slots p (by simpa using hp);cases hv:(e.get p).v with
   | loc B off=>
    rw[hv]at hr hs;cases ht:cx.T t with
    |none=>rw[ht]at hr;cases hr
    | some ti=>
     rw[ht]at hr;simp only at hr;cases hin:jo e B off ti.size with
     |false=>rw[hin]at hr;cases hr
     | true=>
      rw[hin]at hr;simp only[Hr]at hr;simp only[ej]at hs;obtain⟨b,hlam,hpv⟩:=hs;obtain⟨b',x,m,hm,hle,hlam',hrow,hms,hcells⟩:=F.locals hin;rw[hlam]at hlam';cases hlam';let f:Nat->Value:=fun i=>(x[off+i]?).getD undef;have hf:∀i,i<ti.size->x[off+i]? = some (f i):=fun i hi=>by
       obtain⟨v,_,hv',_⟩:=hcells i hi;show _=some ((x[off+i]?).getD undef);rw[hv'];rfl
      have hload:=lZ hT ht hrow f hf;have hexec:∀v,(loadVar t ⟨b,off,none⟩).run P w= .ok v w->(fP a.tmps (.cell p t)).run P w= .ok v w:=fun v hv'=>by
       simp only[fP];rw[hpv];simpa [asAddr]using hv'
      cases hag:ti.agg with
      |true=>
       rw[hag]at hr;simp only[Hr,Ho]at hr;subst hr;refine⟨_,hexec _ (hload.1 hag),?_⟩;simp only[VR];refine⟨_,rfl,nf ti.size fun i hi=>?_⟩;obtain⟨v,a',g1,g2,g3,_⟩:=hcells i hi;have:f i=v:=by show (x[off+i]?).getD undef=v;rw[g1];rfl
       rw[this];simp only[Env.av,Ent.av,g2];exact g3
      | false=>
       rw[hag]at hr;simp only[Hw]at hr;cases hone:decide (ti.size=1)with
       |false=>rw[hone]at hr;cases hr
       |true=>
        rw[hone]at hr;simp only[Hr,Ho]at hr;subst hr;have hone':ti.size=1:=by simpa using hone
        obtain⟨v,a',g1,g2,g3,g4⟩:=hcells 0 (by omega);simp only[IG]at g1 g2 g4;have hfv:f 0=v:=by show (x[off+0]?).getD undef=v;rw[IG,g1];rfl
        refine⟨v,hexec _ (hfv▸hload.2 hag hone'),?_⟩;simp only[Env.av,Ent.av,g2];exact g3
   | val av=>
    rw[hv]at hr hs;cases ht:cx.T t with
    |none=>rw[ht]at hr;cases hr
    |some ti=>
     rw[ht]at hr;simp only at hr;obtain⟨v,h1,h2⟩:=vp hT F.wf hr hs;refine⟨v,?_,h2⟩;unfold ai at hr;rw[ht]at hr;cases av<;>simp only[reduceCtorEq]at hr;simp only[ej,VR]at hs;obtain⟨b,off,vs,hpv,_,_⟩:=hs;simp only[fP];rw[hpv]at h1 |-;simpa [Instr.loadAt,Instr.sureAddr,asAddr]using h1
theorem uv{c:Entry}{N:Nat}{U:Nat->Prop}{e:Env}{h:Hp}{a:Act}{w:World}{S:ar}{β:List bj}{γ:Nat->Value}{lam:Nat->Option Nat}{ω:Nat->Owner}(hT:TOK P cx.T)(F:FR c N U e h a w S β γ lam ω){fn:Func}{vs:List AV}(hr:fb cx.T e fn.results.toList=some vs):∃u,(results fn a.tmps).run P w= .ok u w/\VR S β (ju vs) u:=by
 have key:∀(l:List ResultVar)(vs:List AV),fb cx.T e l=some vs->∃us:List Value,(l.mapM (fP a.tmps)).run P w= .ok us w/\aN S β vs us:=by
  intro l
  induction l with
  |nil=>intro vs h;simp only[fb,Ho]at h;subst h;exact⟨[],by simp,by simp[aN]⟩
  | cons r rs ih=>
   intro vs h;simp only[fb]at h;cases h1:sJ cx.T e r with
   |none=>rw[h1]at h;cases h
   | some v=>
    cases h2:fb cx.T e rs with
    |none=>rw[h1,h2]at h;cases h
    |some vs'=>
     rw[h1,h2]at h;simp only[Ho]at h;subst h;obtain⟨u,k1,k2⟩:=DD hT F h1;obtain⟨us,m1,m2⟩:=ih vs' h2;refine⟨u:: us,?_,by simp only[aN];exact⟨u,us,rfl,k2,m2⟩⟩;rw[List.mapM_cons,Sem.run_bind,k1,Result.andThen_ok,Sem.run_bind,m1,Result.andThen_ok,Sem.run_pure]
 obtain⟨us,k1,k2⟩:=key _ _ hr;have hlen:=k2.length;have hrun:(fn.results.mapM (fP a.tmps)).run P w= .ok us.toArray w:=by
  rw[Kc];rw[map_eq_pure_bind,Sem.run_bind,k1,Result.andThen_ok,Sem.run_pure]
 refine⟨if h:us.toArray.size=1 then us.toArray[0]else .tuple us.toArray,?_,?_⟩
 ·rw[nO,Sem.run_bind,hrun,Result.andThen_ok,Sem.run_pure]
 ·unfold ju;split
  ·rename_i v;cases us with
   |nil=>simp at hlen
   |cons u us=>
    cases us with
    |nil=>simp only[aN]at k2;obtain⟨x,xs,hx,hy,_⟩:=k2;simp at hx;simp[hx.1,hy]
    |cons u2 us=>simp at hlen
  ·rename_i hne;rw[dif_neg]
   ·simp only[VR];exact⟨us,rfl,k2⟩
   ·intro h1;have:vs.length=1:=by rw[<- hlen];simpa using h1
    match vs,this with
    |[v],_=>exact hne v rfl
end
end Go.Av
namespace Go.Av
variable [Dr]
omit [Dr]in
theorem sb{n:Nat}{ks:List (Nat×Kind)}(h:km n ks=true):∀p,wM (bO ks p .L)=true->p<n:=by
 intro p hp
 induction ks with
 |nil=>simp[bO,wM]at hp
 | cons x ks ih=>
  obtain⟨k,y⟩:=x;unfold km at h;simp only[Ip,Hq]at h;simp only[bO]at hp;cases hk:Nat.beq k p with
  |true=>
   rw[hk]at hp;simp only[Hr]at hp
   have:=h.1
   rw[hp]at this;have hk':=Hv hk;subst hk';simpa using this
  |false=>
   rw[hk]at hp;exact ih h.2 hp
section
variable {P:Program} {cx:Cx}
theorem Dy{c:Entry}{N:Nat}{U:Nat->Prop}{e:Env}{h:Hp}{a:Act}{w:World}{S:ar}{β:List bj}{γ:Nat->Value}{lam:Nat->Option Nat}{ω:Nat->Owner}(F:FR c N U e h a w S β γ lam ω){fn:Func}{sz:Nat}(ho:qD fn e sz=true){u:Value}(hu:(results fn a.tmps).run P w= .ok u w):pT c.w.heap.size S β w h sz u:=by
 unfold qD at ho;split at ho
 ·rename_i t hres;cases ht:decide (t<1000)with
  |false=>rw[ht]at ho;cases ho
  | true=>
   rw[ht]at ho;simp only[IA]at ho;split at ho
   ·rename_i g hg;split at ho
    ·rename_i z hz;have hgr:=F.grps t g z (by simpa using ht) hg hz;obtain⟨ad,len,cap,h1,h2,h3,h4⟩:=F.free g z hz;have hue:u=a.tmps.getD t undef:=by
      have hr:fn.results= #[.tmp t]:=by apply I0;simpa using hres
      rw[nO,hr]at hu;simp[fP]at hu;simpa using hu.symm
     rw[hue,hgr];refine⟨ad,len,cap,h1,h2,h3,h4.imp id ?_⟩;rintro⟨sz',b,off,x,k1,k2,k3,k4,k5,k6⟩;have hsz:sz'=sz:=by
      rw[k1]at ho;simp only[qP]at ho;exact Hv ho
     subst hsz;refine⟨b,off,x,k2,k3,k4,(F.mine b (by rw[k5];simp)).1.grp k5,fun hb=>?_,k6⟩;obtain⟨l,_,hl,_⟩:=F.hown hb;rw[k5]at hl;cases hl
    ·cases ho
   ·cases ho
 ·cases ho
omit [Dr]in
theorem zN{fn:Func}{own:Option Nat}{e:Env}{h:Hp}(hr:gL cx fn own e h≠.fail):∃rs,fb cx.T e fn.results.toList=some rs/\(gL cx fn own e h= .ok (ju rs) h\/(own=none/\gL cx fn own e h= .ok (gy 6 h (ju rs)) (h.map fun _=>[])))/\∀sz,own=some sz->qD fn e sz=true:=by
 have key:∀b z:Bool,(bif b then ae (af ((fb cx.T e fn.results.toList).map ju)) (bif z then(bif own.isSome then fun _=>M.fail else uY)else M.pure)else M.fail:M AV) h≠.fail->b=true/\∃rs,fb cx.T e fn.results.toList=some rs/\
   ((bif b then ae (af ((fb cx.T e fn.results.toList).map ju)) (bif z then(bif own.isSome then fun _=>M.fail else uY)else M.pure)else M.fail:M AV) h= .ok (ju rs) h\/
    (own=none/\(bif b then ae (af ((fb cx.T e fn.results.toList).map ju)) (bif z then(bif own.isSome then fun _=>M.fail else uY)else M.pure)else M.fail:M AV) h= .ok (gy 6 h (ju rs)) (h.map fun _=>[]))):=by
  intro b z hr;cases b with
  |false=>exact absurd rfl hr
  | true=>
   refine⟨rfl,?_⟩;cases hres:fb cx.T e fn.results.toList with
   |none=>rw[hres]at hr;exact absurd rfl hr
   | some rs=>
    rw[hres]at hr;cases z with
    |false=>exact⟨rs,rfl,.inl rfl⟩
    |true=>
     cases own with
     |none=>exact⟨rs,rfl,.inr ⟨rfl,rfl⟩⟩
     |some sz=>exact absurd rfl hr
 unfold gL at hr |-;cases own with
 |none=>
  obtain⟨_,rs,h1,h2⟩:=key true _ hr;exact⟨rs,h1,h2,fun sz hsz=>by cases hsz⟩
 |some sz=>
  obtain⟨h0,rs,h1,h2⟩:=key _ _ hr;exact⟨rs,h1,h2,fun sz' hsz=>by cases hsz;exact h0⟩
theorem fX(hT:TOK P cx.T)(hC:cp P cx.own cx.call)(hI:IsoCall cx)(m:Nat){f:FuncId}{fn:Func}(hf:P.funcs[f]? = some fn)(hnt:cx.nt=fn.ntmps){own:Option Nat}{args:List AV}{h:Hp}{S:ar}{β:List bj}{w:World}{vs:List Value}(hr:bH cx (cv m) fn own args h≠.fail)(hg:mm β h w)(hw:Wf S w)(hh:cf S β w h)(hv:aN S β args vs):Calls P f vs.toArray w (dc own S β h w (bH cx (cv m) fn own args h))/\fn.body.isSome=true:=by
 unfold bH at hr |-;cases hb:fn.body with
 |none=>rw[hb]at hr;exact absurd rfl hr
 | some code=>
  rw[hb]at hr;simp only at hr |-;refine⟨?_,rfl⟩;cases hc:(decide (args.length<=fn.ntmps)&&decide (fn.ntmps<=1000)&&km cx.nt cx.ann.kinds)with
  |false=>rw[hc]at hr;exact absurd rfl hr
  | true=>
   rw[hc]at hr;simp only[Hr]at hr |-;simp only[Hq,Hy]at hc;obtain⟨⟨hc1,hc2⟩,hc3⟩:=hc;have H:ix { w,S,β,E:=bL β h,gok:=hg } cx.nt (mi args) h { tmps:=vs.toArray++Array.replicate (fn.ntmps-vs.toArray.size) undef,defers:=[] } w:=by
    rw[hnt];exact start hg hw hh hv hc1 hc2
   have hret:∀(e':Env)(h':Hp)(a':Act)(w':World),ev cx (cv m) code (mi args) (gL cx fn own) (fun _ _=>M.fail) (gL cx fn own) h=gL cx fn own e' h'->
     ix { w,S,β,E:=bL β h,gok:=hg } cx.nt e' h' a' w'->∃v,(results fn a'.tmps).run P w'= .ok v w'/\dc own S β h w (ev cx (cv m) code (mi args) (gL cx fn own) (fun _ _=>M.fail) (gL cx fn own) h) (.returned v) w':=by
    intro e' h' a' w' hok hs;rw[hok]at hr |-;obtain⟨rs,hres,hret,hown⟩:=zN hr;obtain⟨S',β',γ,lam,ω,F⟩:=hs;obtain⟨u,hu1,hu2⟩:=uv (P:=P) hT F hres;rcases hret with hret|⟨rfl,hret⟩
    ·rw[hret];exact⟨u,hu1,S',β',u,rfl,hu2,F.out,fun sz hsz=>Dy F (hown sz hsz) hu1⟩
    ·rw[hret];obtain⟨S2,ω2,F2,hf⟩:=F.freeze;exact⟨u,hu1,S2,β',u,rfl,hf _ _ hu2,F2.out,fun sz hsz=>by cases hsz⟩
   refine calls_of_wp hf hb (yW hT hC hI (sb hc3) m _ code (Ke _) (mi args) h _ w _ _ _ _ H hr ⟨fun e' h' a' w' hok hs hd=>?_,fun i e' h' a' w' hok hs hd=>?_,fun e' h' a' w' hok hs hd=>?_,fun pv h' v w' a' hok hs hd=>?_⟩)
   ·exact⟨hd,hret e' h' a' w' hok hs⟩
   ·rw[hok]at hr;exact absurd rfl hr
   ·exact⟨hd,hret e' h' a' w' hok hs⟩
   ·refine⟨hd,?_⟩;rw[hok];obtain⟨S',β',hout,hvr⟩:=hs;exact⟨S',β',v,rfl,hvr,hout⟩
end
open Classical in
theorem vd{S:ar}{β:List bj}{w w':World}{h:Hp}(_hw:Wf S w)(hh:cf S β w h){β0:List bj}{h0:Hp}(hE:∀b,¬bL β0 h0 b){S':ar}{β':List bj}{h':Hp}(L:Left (bL β0 h0) S β0 w S' β' w' h'):∃S2,Left (bL β h) S β w S2 β w' h/\(∀a v,VR S' β' a v->VR S2 β (gy 6 h' a) v)/\∀sz v,pT w.heap.size S' β' w' h' sz v->pT w.heap.size S2 β w' h sz v:=by
 obtain⟨hlen,ω,hH⟩:=L.heap;have hnew:∀b,bL β' h' b->w.heap.size<=b:=fun b hb=>(L.owned b hb).resolve_left (hE b);let S2:ar:=fun b o=>if bL β' h' b then w'.cell? ⟨b,o,none⟩else S' b o;have hS2n:∀b,¬bL β' h' b->∀o,S2 b o=S' b o:=fun b hb o=>if_neg hb;have hS2y:∀b,bL β' h' b->∀o,S2 b o=w'.cell? ⟨b,o,none⟩:=fun b hb o=>Ht hb;have hle:S'.le S2:=by
  intro b o v hv;by_cases hb:bL β' h' b
  ·obtain⟨l,cs,n,h1,h2,h3⟩:=hb;obtain⟨b',x,k1,k2,k3,k5⟩:=hH.own h1 h2;rw[h3]at k1;cases k1;rw[k5]at hv;cases hv
  ·rw[hS2n b hb];exact hv
 have hrow:∀b,b<w.heap.size->w'.heap[b]? = w.heap[b]? /\∀o,S2 b o=S b o:=by
  intro b hb;have hk:=L.keep b hb (hE b);refine⟨hk.1,fun o=>?_⟩;rw[hS2n b (fun ho=>by have:=hnew b ho;omega)];exact hk.2 o
 have hwf:Wf S2 w':=by
  intro b o v hv;by_cases hb:bL β' h' b
  ·rw[hS2y b hb]at hv;exact hv
  ·rw[hS2n b hb]at hv;exact L.wf b o v hv
 obtain⟨hlen0,ω0,hH0⟩:=hh;have hlt0:∀b,bL β h b->b<w.heap.size:=by
  rintro b ⟨l,cs,n,h1,h2,h3⟩;obtain⟨b',x,k1,k2,_⟩:=hH0.own h1 h2;rw[h3]at k1;cases k1;exact k2
 have hle0:S.le S2:=ar.le_trans L.le hle;refine⟨S2,⟨hle0,eP.refl β,hwf,L.gro,fun b hb _=>hrow b hb,⟨hlen0,ω0,hH0.rows hle0 (eP.refl β) hlen0 fun l cs hl _=>.inl ⟨hl,fun b hb ho=>⟨ho,(hrow b hb).1,fun o h=>by rw[(hrow b hb).2];exact h⟩⟩⟩,fun b hb=>.inl hb⟩,fun a v hv=>qp hH hle (fun b o x hb hr=>?_) 6 a v hv,fun sz v=>?_⟩
 ·rw[hS2y b hb,hr.cell]
 ·rintro⟨ad,len,cap,k1,k2,k3,k4⟩;refine⟨ad,len,cap,k1,k2,k3,k4.imp id ?_⟩;rintro⟨b,off,x,p1,p2,p3,p4,p5,p6⟩;refine⟨b,off,x,p1,p2,p3,p4,fun hb=>?_,fun o ho=>by rw[hS2n b p5];exact p6 o ho⟩
  have:=hlt0 b hb
  omega
theorem zh{S:ar}{β:List bj}{w w':World}{h:Hp}{own:Option Nat}{m:List AV->M AV}{args:List AV}{en:Ending}(hw:Wf S w)(hh:cf S β w h)(hp:dc own S [] [] w (m (dy au args) []) en w'):dc own S β h w (nn m args h) en w':=by
 have key:=fun{S':ar} {β':List bj} {h':Hp} (L:Left (bL [] []) S [] w S' β' w' h')=>vd hw hh (by rintro b ⟨l,cs,n,h1,_⟩;simp at h1) L;unfold nn;cases hm:m (dy au args) []with
 |fail=>rw[hm]at hp;exact hp.elim
 |ok r h'=>
  rw[hm]at hp;obtain⟨S',β',v,h1,h2,h3,h4⟩:=hp;obtain⟨S2,k1,k2,k3⟩:=key h3;exact⟨S2,β,v,h1,k2 r v h2,k1,fun sz hsz=>k3 sz v (h4 sz hsz)⟩
 |pan r h'=>
  rw[hm]at hp;obtain⟨S',β',v,h1,h2,h3⟩:=hp;obtain⟨S2,k1,k2,k3⟩:=key h3;exact⟨S2,β,v,h1,k2 r v h2,k1⟩
structure GoodPg (P:Program) (p:Pg):Prop where
 tok:TOK P p.T
 funcs:∀f fn a,p.funcs f=some (fn,a)->P.funcs[f]? = some fn/\(fn.name== "runtime.NumGoroutine")=false
 other:∀f E,p.other f=some E->∀call,cp P p.own call->∀(args:List AV)(h:Hp)(S:ar)(β:List bj)(w:World)(vs:List Value),E call args h≠.fail->mm β h w->Wf S w->cf S β w h->aN S β args vs->
  Calls P f vs.toArray w (dc (p.own f) S β h w (E call args h))/\(P.funcs[f]?).any (fun fn=>fn.body.isSome&&!(fn.name== "runtime.NumGoroutine"))=true
 nw:∀f,p.nw f=true->∃E,p.other f=some E/\∀call args,tk (E call args)
omit [Dr]in
theorem cf.nil{S:ar}{w:World}:cf S [] w []:=⟨rfl,fun _=>.no,fun l cs hl=>by simp at hl⟩
theorem rH{P:Program}{p:Pg}(G:GoodPg P p)(m:Nat){call:FuncId->List AV->M AV}(hC:cp P p.own call)(hI:∀n a,IsoCall (p.cx call n a)):cp P p.own (gn p call (cv m)):=by
 intro f args h S β w vs hr hg hw hh hv;unfold gn at hr |-;cases ho:p.other f with
 |some E=>rw[ho]at hr;exact G.other f E ho call hC args h S β w vs hr hg hw hh hv
 | none=>
  rw[ho]at hr;simp only at hr |-;cases hf:p.funcs f with
  |none=>rw[hf]at hr;exact absurd rfl hr
  | some x=>
   obtain⟨fn,a⟩:=x;rw[hf]at hr;simp only at hr |-;obtain⟨hf1,hf2⟩:=G.funcs f fn a hf
   have hany:fn.body.isSome=true->(P.funcs[f]?).any (fun fn=>fn.body.isSome&&!(fn.name== "runtime.NumGoroutine"))=true:=by
    intro hb;rw[hf1];simp only[Option.any_some,hb,hf2,JF,JJ]
   cases hi:a.iso with
   |false=>
    rw[hi]at hr;simp only[Hw]at hr |-;obtain⟨h1,h2⟩:=fX (cx:=p.cx call fn.ntmps a) G.tok hC (hI _ _) m hf1 rfl hr hg hw hh hv;exact⟨h1,hany h2⟩
   | true=>
    rw[hi]at hr;simp only[Hr]at hr |-;have hr':bH (p.cx call fn.ntmps a) (cv m) fn (p.own f) (dy au args) []≠.fail:=by
     intro hf;unfold nn at hr;rw[hf]at hr;exact hr rfl
    obtain⟨h1,h2⟩:=fX (cx:=p.cx call fn.ntmps a) G.tok hC (hI _ _) m hf1 rfl hr' ⟨hg.1,fun b _ hb=>by obtain⟨l,_,_,h1,_⟩:=hb;simp at h1⟩ hw cf.nil (yL hv);exact⟨h1.mono fun en w' hp=>zh hw hh hp,hany h2⟩
omit [Dr]in
theorem tT(p:Pg)(hN:∀f,p.nw f=true->∃E,p.other f=some E/\∀call args,tk (E call args)):∀n k a,IsoCall (p.cx (cL p n) k a)
 |0,k,a=>⟨fun f args _=>⟨none,fun _=>rfl⟩,fun f args _ h v h' hh=>by cases hh⟩
 | n+1,k,a=>by
  refine⟨?_,fun f args hf=>?_⟩
  case refine_2=>
   obtain⟨E,hE,hn⟩:=hN f hf;have:(p.cx (cL p (n+1)) k a).call f args=E (cL p n) args:=by
    show gn p (cL p n) (cv n) f args=_;unfold gn;rw[hE]
   rw[this];exact hn _ _
  intro f args hi;have hi':p.iso f=true:=hi;unfold Pg.iso at hi';cases ho:p.other f with
  |some E=>rw[ho]at hi';cases hi'
  | none=>
   rw[ho]at hi';simp only at hi';cases hf:p.funcs f with
   |none=>rw[hf]at hi';cases hi'
   |some x=>
    obtain⟨fn,b⟩:=x;rw[hf]at hi';simp only at hi';refine⟨match bH (p.cx (cL p n) fn.ntmps b) (cv n) fn (p.own f) (dy au args) []with|.ok r h'=>some (true,gy 6 h' r)|.pan v h'=>some (false,gy 6 h' v)|.fail=>none,fun h=>?_⟩;show gn p (cL p n) (cv n) f args h=_;unfold gn;rw[ho];simp only;rw[hf];simp only[hi',Hr,nn];cases bH (p.cx (cL p n) fn.ntmps b) (cv n) fn (p.own f) (dy au args) []<;>rfl
theorem kd{P:Program}{p:Pg}(G:GoodPg P p):∀n,cp P p.own (cL p n)
 |0=>fun _f _args _h _S _β _w _vs hr=>absurd rfl hr
 |n+1=>rH G n (kd G n) fun k a=>tT p G.nw n k a
end Go.Av
namespace Go.Av
def zg{m:List AV->M AV}{ms:Nat->List AV->M AV}(h:bo m ms)(args:List AV):aK (nn m args) fun n=>nn (ms n) args:=by
 intro x;obtain⟨h1,h2⟩:=h (dy au args) []
 (try dsimp only at h1 h2)
 refine⟨fun hne=>?_,fun n hne=>?_⟩
 ·have hne':m (dy au args) []≠.fail:=fun hf=>hne (by simp only[nn,hf]);obtain⟨N,hN⟩:=h1 hne';refine⟨N,fun n hn=>?_⟩
  (try dsimp only)
  simp only[nn,hN n hn]
 ·(try dsimp only at hne |-)
  have hne':ms n (dy au args) []≠.fail:=fun hf=>hne (by simp only[nn,hf]);simp only[nn,h2 n hne']
def cQ(p:Pg):Prop:=∀f E,p.other f=some E->∀(call:FuncId->List AV->M AV)(calls:Nat->FuncId->List AV->M AV),(∀f,bo (call f) fun n=>calls n f)->bo (E call) fun n=>E (calls n)
section
variable {cx:Cx} {call:FuncId->List AV->M AV} {calls:Nat->FuncId->List AV->M AV} {fx:bV AV} {fxs:Nat->bV AV}
theorem tS(hc:∀f,bo (call f) fun n=>calls n f)(hfx:kQ fx fxs)(hfc:qX fx)(hfcs:∀n,qX (fxs n))(fn:Func)(own:Option Nat):
  bo (bH (cx.wc call) fx fn own) fun n=>bH (cx.wc (calls n)) (fxs n) fn own:=by
 intro args;unfold bH;cases fn.body with
 |none=>exact aK.const _
 | some c=>
  have key:∀b:Bool,aK (bif b then ev (cx.wc call) fx c (mi args) (gL (cx.wc call) fn own) (fun _ _=>M.fail) (gL (cx.wc call) fn own)else M.fail) fun n=>(bif b then ev (cx.wc (calls n)) (fxs n) c (mi args) (gL (cx.wc (calls n)) fn own) (fun _ _=>M.fail) (gL (cx.wc (calls n)) fn own)else M.fail):=by
   intro b;cases b with
   |false=>exact aK.const _
   |true=>
    have hr:bo (gL (cx.wc call) fn own) fun n=>gL (cx.wc (calls n)) fn own:=bo.const (gL cx fn own);exact C4 _ c (Ke _) call calls fx fxs hc hfx hfc hfcs (mi args) _ (fun n=>gL (cx.wc (calls n)) fn own) _ (fun _ _ _=>M.fail) _ (fun n=>gL (cx.wc (calls n)) fn own) hr (fun i=>bo.const _) hr
  exact key (decide (args.length<=fn.ntmps)&&decide (fn.ntmps<=1000)&&km cx.nt cx.ann.kinds)
theorem o5{p:Pg}(hO:cQ p)(hc:∀f,bo (call f) fun n=>calls n f)(hfx:kQ fx fxs)(hfc:qX fx)(hfcs:∀n,qX (fxs n))(f:FuncId):bo (gn p call fx f) fun n=>gn p (calls n) (fxs n) f:=by
 intro args;unfold gn;cases ho:p.other f with
 |some E=>exact hO f E ho call calls hc args
 | none=>
  simp only;cases p.funcs f with
  |none=>exact aK.const _
  |some x=>
   obtain⟨fn,a⟩:=x;simp only;have hb:=tS (cx:=p.cx call fn.ntmps a) hc hfx hfc hfcs fn (p.own f);cases a.iso with
   |true=>exact zg hb args
   |false=>exact hb args
end
theorem lO{p:Pg}(hO:cQ p):∀n f args,uJ (cL p n f args) (cL p (n+1) f args)
 |0,f,args=>fun x hne=>absurd rfl hne
 | n+1,f,args=>by
  have hc:∀f,bo (cL p (n+1) f) fun m=>(if m=0 then cL p n else cL p (n+1)) f:=by
   intro f args x;refine⟨fun _=>⟨1,fun m hm=>?_⟩,fun m hne=>?_⟩
   ·(try dsimp only)
    rw[if_neg (by omega)]
   ·(try dsimp only at hne |-)
    by_cases h0:m=0
    ·rw[Ht h0]at hne |-;exact lO hO n f args x hne
    ·rw[if_neg h0]
  have h:=o5 hO hc (rP n) (qn (n+1)) (fun m=>by
   by_cases h0:m=0
   ·rw[Ht h0];exact qn n
   ·rw[if_neg h0];exact qn (n+1)) f args
  intro x hne
  have:=(h x).2 0
  (try dsimp only at this)
  rw[Ht rfl,Ht rfl]at this;exact this hne
def ql{p:Pg}(hO:cQ p){n m:Nat}(h:n<=m)(f:FuncId)(args:List AV):uJ (cL p n f args) (cL p m f args):=by
 induction m with
 | zero => have:n=0:=by omega
           subst this;exact .refl _
 |succ m ih=>
  by_cases hn:n=m+1
  ·subst hn;exact .refl _
  ·exact (ih (by omega)).trans (lO hO m f args)
open Classical in
noncomputable def ah(p:Pg)(f:FuncId)(args:List AV):M AV:=fun h=>if hx:∃n,cL p n f args h≠.fail then cL p (Classical.choose hx) f args h else .fail
def jb{p:Pg}(hO:cQ p)(f:FuncId):bo (ah p f) fun n=>cL p n f:=by
 intro args h;refine oU (fun n m hnm hne=>ql hO hnm f args h hne) ?_;unfold ah;by_cases hx:∃n,cL p n f args h≠.fail
 ·left;simp only[dif_pos hx];exact⟨_,JN hx,rfl⟩
 ·right;simp only[dif_neg hx];exact⟨fun n=>Ka fun h=>hx ⟨n,h⟩,trivial⟩
def mA.uniq{α:Type}{a a':R α}{b:Nat->R α}(h:mA a b)(g:mA a' fun n=>b (n+1)):a=a':=by
 by_cases ha:a= .fail
 ·by_cases ha':a'= .fail
  ·rw[ha,ha']
  ·obtain⟨N,hN⟩:=g.1 ha';have h1:=hN N (Hu _)
   (try dsimp only at h1)
   exact (h.2 (N+1) (by rw[h1];exact ha')).symm.trans h1
 ·obtain⟨N,hN⟩:=h.1 ha;have h1:=hN (N+1) (by omega);have h2:=g.2 N
  (try dsimp only at h2)
  exact h1.symm.trans (h2 (by rw[h1];exact ha))
def mO{p:Pg}(hO:cQ p)(f:FuncId)(args:List AV):ah p f args=gn p (ah p) aj f args:=by
 funext h;have h1:=jb hO f args h;have h2:=o5 hO (fun f=>jb hO f) rO y6 (fun n=>qn n) f args h;exact h1.uniq h2
def iF[Dr]{P:Program}{p:Pg}(G:GoodPg P p)(hO:cQ p):cp P p.own (ah p):=by
 intro f args h S β w vs hr hg hw hh hv;obtain⟨N,hN⟩:=(jb hO f args h).1 hr;have h1:=hN N (Hu _)
 (try dsimp only at h1)
 rw[<- h1]at hr |-;exact kd G N f args h S β w vs hr hg hw hh hv
def yE{p:Pg}(hO:cQ p){n:Nat}{f:FuncId}{args:List AV}{h:Hp}{r:R AV}(hr:cL p n f args h=r)(hne:r≠.fail):ah p f args h=r:=by
 have:=(jb hO f args h).2 n (by(try dsimp only);rw[hr];exact hne)
 (try dsimp only at this)
 rw[<- this,hr]
end Go.Av
namespace Go.Av
section
variable {ρ:Type}
theorem bu{F:(List AV->M ρ)->List AV->M ρ}(hF:jq F)(vs:List AV):aj F vs=F (aj F) vs:=by
 funext h;exact (fw hF vs h).uniq (hF _ _ (fw hF) vs h)
theorem aA{c:AV}{x y:M ρ}{xs ys:Nat->M ρ}(hx:aK x xs)(hy:aK y ys):aK (ay c x y) fun n=>ay c (xs n) (ys n):=by
 unfold ay;cases c with
 |bool b=>cases b<;>first|exact hx|exact hy
 |_=>exact aK.const _
theorem wC{F:(List AV->M ρ)->List AV->M ρ}{Fs:Nat->(List AV->M ρ)->List AV->M ρ}(h1:cq F Fs)(h2:jq F)(h3:∀n,jq (Fs n)):bo (aj F) fun n=>aj (Fs n):=y6 F Fs h1 h2 h3
end
end Go.Av
namespace Go.Av
def aD(m:M AV):M AV:=fun h=>match m []with
 |.ok r h'=>.ok (gy 6 h' r) h
 |.pan v h'=>.pan (gy 6 h' v) h
 |.fail=>.fail
def ax{p:Pg}(hO:cQ p){f:FuncId}{fn:Func}{a:Ann}(h1:p.other f=none)(h2:p.funcs f=some (fn,a))(h3:a.iso=true)(args:List AV):
  ah p f args=aD (bH (p.cx (ah p) fn.ntmps a) aj fn (p.own f) (dy au args)):=by
 rw[mO hO];unfold gn;rw[h1];simp only;rw[h2];simp only[h3,Hr];rfl
def eW{p:Pg}(hO:cQ p){f:FuncId}{fn:Func}{a:Ann}(h1:p.other f=none)(h2:p.funcs f=some (fn,a))(h3:a.iso=false)(args:List AV):
  ah p f args=bH (p.cx (ah p) fn.ntmps a) aj fn (p.own f) args:=by
 rw[mO hO];unfold gn;rw[h1];simp only;rw[h2];simp only[h3,Hw]
def eq{p:Pg}(hO:cQ p){f:FuncId}{E:(FuncId->List AV->M AV)->List AV->M AV}(h1:p.other f=some E)(args:List AV):ah p f args=E (ah p) args:=by
 rw[mO hO];unfold gn;rw[h1]
def gX(T:TT)(t:TypeId):(FuncId->List AV->M AV)->List AV->M AV:=fun _ args=>match args with
 |[.sl es]=>af (dV T t (.sl []) (.sl es))
 |_=>M.fail
def cX(T:TT)(t:TypeId):(FuncId->List AV->M AV)->List AV->M AV:=fun _ args=>match args with
 |[.sl es]=>appH T t true (.sl []) (.sl es)
 |_=>M.fail
def tK(T:TT)(t:TypeId)(call:FuncId->List AV->M AV)(calls:Nat->FuncId->List AV->M AV):bo (gX T t call) fun n=>gX T t (calls n):=bo.const _
def mT(T:TT)(t:TypeId)(call:FuncId->List AV->M AV)(calls:Nat->FuncId->List AV->M AV):bo (cX T t call) fun n=>cX T t (calls n):=bo.const _
def cO{α:Type}{b:Bool}{x:α}{o:Option α}{y:α}(h:(bif b then some x else o)=some y):x=y\/o=some y:=by
 cases b with
 |true=>exact .inl (by simpa using h)
 |false=>exact .inr h
def oX(T:TT)(t:TypeId)(call:FuncId->List AV->M AV)(args:List AV):tk (cX T t call args):=by
 unfold cX;split
 ·rename_i y;intro h v h' hh;unfold appH at hh;split at hh
  ·cases hh
  ·split at hh
   ·split at hh
    ·cases hh
    ·split at hh
     ·cases hh
     ·rename_i bs _;revert hh;generalize (_&&_:Bool)=b1;cases b1 with
      |false=>intro hh;cases hh
      | true=>
       simp only[Hr];cases bs.isEmpty with
       |true=>intro hh;cases hh;exact⟨[],by simp⟩
       |false=>
        simp only[Hw];generalize decide (_<=140737488355328)=b2;cases b2 with
        |false=>intro hh;cases hh
        |true=>intro hh;cases hh;exact⟨_,rfl⟩
   ·cases hh
 ·intro h v h' hh;cases hh
end Go.Av
namespace Go.Av
variable [Dr]
open Go.RowKit
section
variable {S:ar} {β:List bj} {h:Hp} {w w':World}
omit [Dr]in
theorem cf.below(hh:cf S β w h){S':ar}(hb:∀b,b<w.heap.size->w'.heap[b]? = w.heap[b]? /\∀o,S' b o=S b o)(hle:S.le S'):cf S' β w' h:=by
 obtain⟨hlen,ω,hr⟩:=hh;exact⟨hlen,ω,hr.rows hle (eP.refl β) hlen fun l cs hl _=>.inl ⟨hl,fun b hlt ho=>⟨ho,(hb b hlt).1,fun o h=>by rw[(hb b hlt).2];exact h⟩⟩⟩
theorem uc(hw:Wf S w)(hh:cf S β w h)(hb:Below w.heap.size w w')(hd:Dr.on->w.drawn<=w'.drawn){S':ar}(hS:∀b,b<w.heap.size->∀o,S' b o=S b o)(hnew:∀b o v,w.heap.size<=b->S' b o=some v->w'.cell? ⟨b,o,none⟩=some v):
  Left (bL β h) S β w S' β w' h:=by
 have hle:S.le S':=fun b o v hv=>by rw[hS b (hw.lt hv)];exact hv
 refine⟨hle,eP.refl β,fun b o v hv=>?_,⟨hb.size,hb.os,hb.output,hb.tape,hd⟩,fun b hlt _=>⟨hb.block b hlt,hS b hlt⟩,hh.below (fun b hlt=>⟨hb.block b hlt,hS b hlt⟩) hle,fun b hb=>.inl hb⟩;rcases HI b w.heap.size with hlt|hge
 ·rw[hS b hlt]at hv;rw[cell_of_heap (hb.block b hlt)];exact hw b o v hv
 ·exact hnew b o v hge hv
theorem ci(hw:Wf S w)(hh:cf S β w h)(hb:Below w.heap.size w w')(hd:Dr.on->w.drawn<=w'.drawn){r:AV}{v:Value}(hv:VR S β r v):dc none S β h w (.ok r h) (.returned v) w':=
 ⟨S,β,v,rfl,hv,uc hw hh hb hd (fun _ _ _=>rfl) (fun b o v hge hv=>by have:=hw.lt hv;omega),fun sz hsz=>by cases hsz⟩
end
end Go.Av
namespace Go.Av
variable [Dr]
def gF:(FuncId->List AV->M AV)->List AV->M AV:=fun _ args=>match args with
 |[.str s,.str t]=>af (bif decide (s.length<4294967281)then some (.bool (Lib.contains s t))else none)
 |_=>M.fail
def wJ:List AV->Option Nat
 |[.hp l off]=>bif Nat.beq off 0 then some l else none
 |_=>none
omit [Dr]in
theorem rX{args:List AV}{l:Nat}(h:wJ args=some l):args=[.hp l 0]:=by
 unfold wJ at h;split at h
 ·rename_i l' off;cases ho:Nat.beq off 0 with
  |false=>rw[ho]at h;cases h
  |true=>
   rw[ho]at h;cases h;rw[Hv ho]
 ·cases h
def FP(ok:List (Nat×Nat))(l:Nat):List AV->Option (List AV)
 |.nilb t:: x:: r=>bif ok.any (fun p=>Nat.beq p.1 t&&Nat.ble p.2 (r.length+2))then some (.hp l 0:: x:: r)else none
 |.hp l' k:: r=>bif Nat.beq l' l&&Nat.beq k 0 then some (.hp l' k:: r)else none
 |_=>none
omit [Dr]in
theorem AB{ok:List (Nat×Nat)}{l:Nat}{cs cs':List AV}(h:FP ok l cs=some cs'):(∃t x r,cs= .nilb t:: x:: r/\cs'= .hp l 0:: x:: r/\∃n,(t,n)∈ok/\n<=r.length+2)\/(∃r,cs= .hp l 0:: r/\cs'=cs):=by
 unfold FP at h;split at h
 ·rename_i t x r;cases ho:ok.any (fun p=>Nat.beq p.1 t&&Nat.ble p.2 (r.length+2))with
  |false=>rw[ho]at h;cases h
  |true=>
   rw[ho]at h;cases h;obtain⟨p,hp,hq⟩:=List.any_eq_true.1 ho;rw[Hq]at hq;refine .inl ⟨t,x,r,rfl,rfl,p.2,?_,Jo hq.2⟩;rw[<- Hv hq.1];exact hp
 ·rename_i l' k r;cases ho:(Nat.beq l' l&&Nat.beq k 0)with
  |false=>rw[ho]at h;cases h
  |true=>
   rw[ho]at h;cases h;rw[Hq]at ho;have h1:=Hv ho.1;have h2:=Hv ho.2;subst h1 h2;exact .inr ⟨r,rfl,rfl⟩
 ·cases h
def gY(ok:List (Nat×Nat)):(FuncId->List AV->M AV)->List AV->M AV:=fun _ args h=>match wJ args with
 | some l=>(match h[l]? with
  |some cs=>(match FP ok l cs with
   |some cs'=>.ok (.tup []) (h.set l cs')
   |none=>.fail)
  |none=>.fail)
 |none=>.fail
def yB(e:Nat):AV->Option UInt8
 |.byt t n=>bif Nat.beq t e&&decide (0<=n)&&decide (n<256)then some (UInt8.ofNat n.toNat)else none
 |_=>none
def jz(e:Nat):List AV->Option (List UInt8)
 |[]=>some []
 |x:: r=>match yB e x,jz e r with
  |some b,some l=>some (b:: l)
  |_,_=>none
def stA:List AV->Option (Option (Nat×Nat))
 |.hp _ _:: .hs lb off len sz ag:: _=>bif Nat.beq off 0&&Nat.beq sz 1&&!ag&&Nat.blt 0 len&&Nat.ble len 140737488355328 then some (some (lb,len))else none
 |_:: .hn:: _=>some none
 |_=>none
omit [Dr]in
theorem zY{cs:List AV}{lb len:Nat}(h:stA cs=some (some (lb,len))):∃x r,cs=x:: .hs lb 0 len 1 false:: r/\0<len/\len<=140737488355328:=by
 unfold stA at h;split at h
 ·rename_i l k lb' off len' sz ag r;cases ho:(Nat.beq off 0&&Nat.beq sz 1&&!ag&&Nat.blt 0 len'&&Nat.ble len' 140737488355328)with
  |false=>rw[ho]at h;cases h
  |true=>
   rw[ho]at h;cases h;simp only[Hq,Ib]at ho;obtain⟨⟨⟨⟨h1,h2⟩,h3⟩,h4⟩,h5⟩:=ho;have h1:=Hv h1;have h2:=Hv h2;subst h1 h2 h3;exact⟨_,r,rfl,Jo h4,Jo h5⟩
 ·cases h
 ·cases h
omit [Dr]in
theorem zX{cs:List AV}(h:stA cs=some none):∃x r,cs=x:: .hn:: r:=by
 unfold stA at h;split at h
 ·rename_i l k lb' off len' sz ag r;cases ho:(Nat.beq off 0&&Nat.beq sz 1&&!ag&&Nat.blt 0 len'&&Nat.ble len' 140737488355328)with
  |false=>rw[ho]at h;cases h
  |true=>rw[ho]at h;cases h
 ·exact⟨_,_,rfl⟩
 ·cases h
def eA(e:Nat):(FuncId->List AV->M AV)->List AV->M AV:=fun _ args h=>match wJ args with
 | some l=>(match h[l]? with
  | some cs=>(match stA cs with
   |some none=>.ok (.str []) h
   | some (some (lb,len))=>(match h[lb]? with
    |some bs=>(match (bif Nat.ble len bs.length then jz e (bs.take len)else none)with
     |some s=>.ok (.str s) (h.set lb [])
     |none=>.fail)
    |none=>.fail)
   |none=>.fail)
  |none=>.fail)
 |none=>.fail
def rQ:AV->Option (List UInt8×Int×List AV)
 |.agg [.str n,.int .i64 k,.sl fs]=>some (n,k,fs)
 |_=>none
def eX:List AV->Option (List (List UInt8×Int×List AV))
 |[]=>some []
 |x:: r=>match rQ x,eX r with
  |some z,some l=>some (z:: l)
  |_,_=>none
def aJ{α:Type}(p:α->Bool):List α->Option α
 |[]=>none
 |z:: r=>match aJ p r with
  |some y=>some y
  |none=>bif p z then some z else none
def ug(l:List (List UInt8×Int×List AV))(name:List UInt8):AV:=match aJ (fun z=>z.1== name) l with
 |some z=>.tup [.agg [.int .i64 z.2.1,.sl z.2.2],.bool true]
 |none=>.tup [.agg [.int .i64 0,.sl []],.bool false]
def je:(FuncId->List AV->M AV)->List AV->M AV:=fun _ args=>match args with
 |[.sl es,.str name]=>(match eX es with
  |some l=>af (bif decide (l.length<=1000000000)then some (ug l name)else none)
  |none=>M.fail)
 |_=>M.fail
omit [Dr]in
theorem oA{α:Type}(p:α->Bool)(l:List α):aJ p l=l.reverse.find? p:=by
 induction l with
 |nil=>rfl
 |cons z r ih=>
  simp only[aJ,ih,List.reverse_cons,List.find?_append];cases r.reverse.find? p with
  |some y=>rfl
  |none=>cases h:p z<;>simp[h]
end Go.Av
namespace Go.Av
variable [Dr]
open Go.RowKit
def wq:Nat->Nat->List UInt8
 |0,_=>[]
 |f+1,u=>bif decide (u<10)then[UInt8.ofNat (48+u)]else wq f (u / 10)++[UInt8.ofNat (48+u % 10)]
omit [Dr]in
theorem qi:∀(f u:Nat),u<10 ^ (f+1)->wq (f+1) u=Lib.decDigits u
 | f,u,h=>by
  rw[Lib.decDigits];rw[show wq (f+1) u=bif decide (u<10)then[UInt8.ofNat (48+u)]else wq f (u / 10)++[UInt8.ofNat (48+u % 10)]from rfl];by_cases h10:u<10
  ·rw[dif_pos h10,Jp h10];rfl
  ·rw[dif_neg h10,Kq h10];cases f with
   |zero=>omega
   |succ f=>rw[qi f (u / 10) (by rw[Nat.pow_succ]at h;omega)];rfl
def zi(n:Int):List UInt8:=bif decide (n<0)then 45:: wq 20 n.natAbs else wq 20 n.toNat
omit [Dr]in
theorem zj{n:Int}(h0:-9223372036854775808<=n)(h1:n<=9223372036854775807):zi n=Lib.itoa n:=by
 unfold zi Lib.itoa;by_cases h:n<0
 ·rw[Jp h,Ht h];simp only[Hr];rw[qi 19 n.natAbs (by omega)]
 ·rw[Kq h,if_neg h];simp only[Hw];rw[qi 19 n.toNat (by omega)]
def ve:(FuncId->List AV->M AV)->List AV->M AV:=fun _ args=>match args with
 |[.int .i64 n]=>af (bif decide (-9223372036854775808<=n)&&decide (n<=9223372036854775807)then some (.str (zi n))else none)
 |_=>M.fail
def uN(t:TypeId)(s:List UInt8):AV:=match Lib.atoiAll s with
 |.ok v=>.tup [.int .i64 v,.nili]
 |.range=>.tup [.int .i64 (Lib.atoiSat s),.iface t .any]
 |_=>.tup [.int .i64 0,.iface t .any]
def uM(t:TypeId):(FuncId->List AV->M AV)->List AV->M AV:=fun _ args=>match args with
 |[.str s]=>af (bif decide (s.length<=281474976710656)then some (uN t s)else none)
 |_=>M.fail
end Go.Av
namespace Go.Av
open Go.RowKit Go.Sort Go.Proofs
section
variable [Dr]
theorem Left.grew(hd:Dr.on){S S':ar}{β β':List bj}{w w':World}{h':Hp}(L:Left (bL [] []) S β w S' β' w' h'):∃q os,w'=grow (w.drewN q) os:=by
 have hg:=L.gro;have hd:=hg.cnt hd;have hk:∀b,b<w.heap.size->w'.heap[b]? = w.heap[b]?:=fun b hb=>(L.keep b hb (by rintro⟨l,_,_,h1,_⟩;simp at h1)).1;refine⟨w'.drawn-w.drawn,w'.heap.extract w.heap.size w'.heap.size,?_⟩;have e1:w.heap++w'.heap.extract w.heap.size w'.heap.size=w'.heap:=by
  apply J3;intro i;by_cases hi:i<w.heap.size
  ·rw[IR hi,hk i hi]
  ·rw[Array.getElem?_append_right (by omega),Array.getElem?_extract];split
   ·rw[show w.heap.size+(i-w.heap.size)=i by omega]
   ·rw[Ig (by omega)]
 have e2:w.drawn+(w'.drawn-w.drawn)=w'.drawn:=by omega
 obtain⟨h1,h2,h3,h4,h5⟩:=w';obtain⟨g1,g2,g3,g4,g5⟩:=w;have a1:=hg.os;have a2:=hg.out;have a3:=hg.tape;simp only at a1 a2 a3 e1 e2;unfold grow World.drewN;simp only[e1,e2,a1,a2,a3]
end
theorem lU{α β:Type}(f:α->List β)(k:Nat)(hk:∀x,(f x).length=k)(hp:0<k):∀(l:List α)(t:Nat),(l.map f).flatten[t]? = (l[t / k]?).bind fun x=>(f x)[t % k]?
 |[],t=>by simp
 | x:: l,t=>by
  simp only[H3,JH];by_cases h:t<k
  ·rw[HC (by rw[hk];exact h),Nat.div_eq_of_lt h,JK h];simp
  ·rw[HL (by rw[hk];omega),hk,lU f k hk hp l (t-k)];rw[Nat.div_eq_sub_div hp (by omega:k<=t),Nat.mod_eq_sub_mod (by omega:k<=t)];simp
theorem lV{α β:Type}(f:α->List β)(k:Nat)(hk:∀x,(f x).length=k):∀(l:List α),(l.map f).flatten.length=l.length*k
 |[]=>by simp
 |x:: l=>by simp only[H3,JH,HZ,hk,lV f k hk l,HG,I6];omega
section
variable {α:Type} [Inhabited α]
theorem m8(enc:α->List Value)(k:Nat)(hk:∀x,(enc x).length=k)(hp:0<k)(d:Array α):(flatK enc k d).toList=(d.toList.map enc).flatten:=by
 apply JG;intro t;rw[lU enc k hk hp];by_cases ht:t<d.size*k
 ·have hd:t / k<d.size:=by rw[Nat.div_lt_iff_lt_mul hp];exact ht
  have hm:t % k<k:=Nat.mod_lt _ hp;have h1:=get_flatK enc k d t ht;rw[HP (flatK enc k d) t (by rw[size_flatK];exact ht),HP d _ hd,HP (enc _) _ (by rw[hk];exact hm)]at h1;rw[HF (by simpa using ht),Array.getElem_toList,h1,HR,HW hd];simp only[I9];rw[HF (by rw[hk];exact hm)]
 ·rw[Hz (by simp only[Io,size_flatK];omega),Hz (by simp only[Io];rw[Nat.le_div_iff_mul_le hp];omega)];rfl
theorem oD(F x:Array Value)(off:Nat)(hf:off+F.size<=x.size):putCells id off F x=(x.toList.take off++F.toList++x.toList.drop (off+F.size)).toArray:=by
 apply J3;intro t;unfold putCells;simp only[Array.getElem?_mapIdx,Is];by_cases h1:t<off
 ·rw[HC (by simp;omega),HC (by simp;omega),HA,Ht h1,HR,HW (by omega)];simp only[Iv];rw[if_neg (by omega)]
 ·by_cases h2:t<off+F.size
  ·rw[HC (by simp;omega),HL (by simp;omega)];have e:(x.toList.take off).length=off:=by simp;omega
   rw[e,HW (by omega:t<x.size),HR,HW (by omega:t-off<F.size)];simp only[Iv,id];rw[Ht ⟨by omega,h2⟩,HP F _ (by omega)]
  ·have e:(x.toList.take off++F.toList).length=off+F.size:=by simp;omega
   rw[HL (by rw[e];omega),e,Ik,HR,show off+F.size+(t-(off+F.size))=t by omega];cases x[t]? with
   |none=>rfl
   |some y=>simp only[Iv];rw[if_neg (by omega)]
theorem zV{w:World}{b:Nat}{x:Array Value}(hr:Row w b x)(enc:α->List Value)(k off n:Nat)(d:Array α)(os:Array Obj)(hf:off+d.size*k<=x.size):
  Row (sortWorldK enc k w b off n d os) b (x.toList.take off++(flatK enc k d).toList++x.toList.drop (off+(flatK enc k d).size)).toArray:=by
 have hlt:=hr.lt;obtain⟨e,he⟩:=hr;refine⟨e,?_⟩;rw[<- oD (flatK enc k d) x off (by rw[size_flatK];exact hf)];show ((w.heap.modify b (onCells (putCells id off (flatK enc k d))))++os)[b]? = _;rw[IR (by simpa using hlt),Jn,Ht rfl,he];rfl
theorem nU{w:World}{b b':Nat}(enc:α->List Value)(k off n:Nat)(d:Array α)(os:Array Obj)(hlt:b'<w.heap.size)(hb:b'≠b):(sortWorldK enc k w b off n d os).heap[b']? = w.heap[b']?:=by
 show ((w.heap.modify b (onCells (putCells id off (flatK enc k d))))++os)[b']? = _;rw[IR (by simpa using hlt),Jn,if_neg (fun h=>hb h.symm)]
theorem zU[Dr]{w:World}{b:Nat}(enc:α->List Value)(k off n:Nat)(d:Array α)(os:Array Obj):Gro w (sortWorldK enc k w b off n d os):=by
 refine⟨?_,rfl,rfl,rfl,fun _=>?_⟩
 ·show _<=((w.heap.modify b (onCells (putCells id off (flatK enc k d))))++os).size;simp
 ·show w.drawn<=w.drawn+n;omega
end
section
variable [Dr] {S:ar} {β:List bj} {h:Hp} {w w':World}
theorem zl(hw:Wf S w)(hh:cf S β w h){l b nb off:Nat}{cs acs:List AV}{vs:List Value}(hcs:h[l]? = some cs)(hne:cs≠[])(hb:β[l]? = some (b,nb))(hb0:nb≠0)(hvs:aN S β acs vs)(hle:off+acs.length<=cs.length)(hoc:cs.all aX=true)(hoa:acs.all aX=true)(hg:Gro w w')(hr:∀x,Row w b x->cs.length<=x.size->Row w' b (x.toList.take off++vs++x.toList.drop (off+vs.length)).toArray)(ho:∀b',b'<w.heap.size->b'≠b->w'.heap[b']? = w.heap[b']?):
  Left (bL β h) S β w S β w' (h.set l (setCells cs off acs)):=by
 obtain⟨hlen,ω,hH⟩:=hh;obtain⟨z,j1,j2,j3,j4,j5⟩:=dR.cells hH hcs hne hb hb0;rw[hb]at j1;cases j1;have hvl:=hvs.length;have hzs:cs.length<=z.size:=by
  have:=j4.length
  simp at this;omega
 have hrow:=hr z j2 hzs;have hll:l<h.length:=by
  rcases HI l h.length with k|k
  ·exact k
  ·rw[Hz k]at hcs;cases hcs
 have hown:∀b',bL β (h.set l (setCells cs off acs)) b'->bL β h b':=by
  rintro b' ⟨l',cs',n,k1,k2,k3⟩;by_cases hl:l'=l
  ·subst hl;exact⟨l',cs,n,hcs,hne,k3⟩
  ·rw[IM (fun e=>hl e.symm)]at k1;exact⟨l',cs',n,k1,k2,k3⟩
 refine⟨ar.le_refl S,eP.refl β,fun b' o v hv=>?_,hg,fun b' hb' hE=>?_,⟨by simpa using hlen,ω,dR.rows hH (ar.le_refl S) (eP.refl β) hlen fun l' cs' hl' hne'=>?_⟩,fun b' hb'=>.inl (hown b' hb')⟩
 ·have hne2:b'≠b:=by rintro rfl;rw[j5]at hv;cases hv
  rw[cell_of_heap (ho b' (hw.lt hv) hne2)];exact hw b' o v hv
 ·have hne2:b'≠b:=by rintro rfl;exact hE ⟨l,cs,_,hcs,hne,hb⟩
  exact⟨ho b' hb' hne2,fun _=>rfl⟩
 ·by_cases hl:l'=l
  ·subst hl;rw[IC hll]at hl';cases hl';refine .inr ⟨b,_,?_,hrow,j3,?_,j5,fun t ht=>?_⟩
   ·rw[hb];simp;omega
   ·rw[d8 _ _ _ (by omega)];have hsp:aN S β (setCells cs off acs) (((z.toList.take cs.length).take off++vs++(z.toList.take cs.length).drop (off+vs.length))):=by
     unfold setCells;rw[hvl];exact ((j4.take off).append hvs).append (j4.drop _)
    have heq:(z.toList.take off++vs++z.toList.drop (off+vs.length)).take cs.length=
      (z.toList.take cs.length).take off++vs++(z.toList.take cs.length).drop (off+vs.length):=by
     rw[I7,I7];have e1:(z.toList.take off).length=off:=by simp;omega
     rw[IU,IU];have e2:min cs.length off=off:=by omega
     have e3:min off cs.length=off:=by omega
     rw[e2,e3,e1];have e4:vs.take (cs.length-off)=vs:=IQ (by omega);rw[e4];congr 1;rw[Ku,HZ,e1];congr 2;omega
    show aN S β _ (List.take _ _);rw[show (z.toList.take off++vs++z.toList.drop (off+vs.length)).toArray.toList=(z.toList.take off++vs++z.toList.drop (off+vs.length))from rfl,heq];exact hsp
   ·rcases ht.setCells with g|g
    ·exact absurd g (gK hoc t)
    ·exact absurd g (gK hoa t)
  ·rw[IM (fun e=>hl e.symm)]at hl';refine .inl ⟨hl',fun b2 hlt hω=>⟨hω,ho b2 hlt ?_,fun o=>id⟩⟩;rintro rfl;rw[j3]at hω;cases hω;exact hl rfl
end
theorem Hk{S:ar}{β:List bj}:{ps qs:List AV} ->{vs:List Value} ->aN S β (ps++qs) vs->∃u v,vs=u++v/\aN S β ps u/\aN S β qs v
 |[],_,vs,h=>⟨[],vs,rfl,by simp[aN],h⟩
 |_:: ps,qs,vs,h=>by
  simp only[H8,aN]at h;obtain⟨x,xs,rfl,h1,h2⟩:=h;obtain⟨u,v,rfl,h3,h4⟩:=Hk h2;exact⟨x:: u,v,rfl,by simp only[aN];exact⟨x,u,rfl,h1,h3⟩,h4⟩
section
variable [Dr] {α:Type} [Inhabited α] {P:Program}
end
end Go.Av
namespace Go.Av
open Go.RowKit Go.Sort Go.Proofs
def dJ{α:Type}(k:Nat)(l:List α)(i:Nat):List α:=(l.drop (i*k)).take k
def oV{α:Type}{k n:Nat}{l:List α}(h:l.length=n*k){i:Nat}(hi:i<n):(dJ k l i).length=k:=by
 have:i*k+k<=n*k:=by rw[<- I6];exact HE _ hi
 simp only[dJ,Ix,Ki,h];omega
theorem mP{α:Type}{k:Nat}:(n:Nat)->{l:List α} ->l.length=n*k->((List.range n).map fun i=>dJ k l i).flatten=l
 |0,l,h=>by simp at h;simp[h]
 | n+1,l,h=>by
  rw[List.range_succ_eq_map,H3,List.map_map,JH];have e:((fun i=>dJ k l i) ∘ Nat.succ)=fun i=>dJ k (l.drop k) i:=by
   funext i;simp only[Function.comp,dJ,JE,I6];congr 2;omega
  rw[e,mP n (l:=l.drop k) (by rw[Ki,h,I6];omega)];simp[dJ,I2]
def aN.chunk{S:ar}{β:List bj}{cs:List AV}{vs:List Value}(h:aN S β cs vs)(k i:Nat):aN S β (dJ k cs i) (dJ k vs i):=(h.drop (i*k)).take k
def np:List AV->Option (List UInt8)
 |.str s:: _=>some s
 |_=>none
def wo(x y:List UInt8):Int:=if aR x y=true then -1 else if aR y x=true then 1 else 0
def EO(keys:List (List UInt8))(n:Nat)(i j:Nat):Int:=wo keys[i % n]! keys[j % n]!
def iv(keys:List (List UInt8)):List Nat:=(pdq (ltOf (EO keys keys.length)) (Array.range keys.length) 0 (Array.range keys.length).size (Lib.bitLen (Array.range keys.length).size) true true).toList
def sa:List (List AV)->Option (List (List UInt8))
 |[]=>some []
 | c:: r=>match np c with
  |none=>none
  |some s=>match sa r with
   |none=>none
   |some l=>some (s:: l)
theorem pj:{cs:List (List AV)} ->{ks:List (List UInt8)} ->sa cs=some ks->ks.length=cs.length/\∀(i:Nat)(c:List AV),cs[i]? = some c->np c=some ks[i]!
 |[],ks,h=>by
  cases h;exact⟨rfl,fun i c hc=>by simp at hc⟩
 | c:: r,ks,h=>by
  unfold sa at h;cases hc:np c with
  |none=>rw[hc]at h;cases h
  | some s=>
   rw[hc]at h;simp only at h;cases hr:sa r with
   |none=>rw[hr]at h;cases h
   |some l=>
    rw[hr]at h;cases h;obtain⟨h1,h2⟩:=pj hr;refine⟨by simp[h1],fun i d hd=>?_⟩;cases i with
    |zero=>simp at hd;subst hd;simpa using hc
    |succ i=>simpa using h2 i d (by simpa using hd)
def keysOf(k n:Nat)(row:List AV):Option (List (List UInt8)):=sa ((List.range n).map fun i=>dJ k row i)
def f8(k g:Nat):(FuncId->List AV->M AV)->List AV->M AV:=fun _ args h=>match args with
 |[.sl [],.fn (.func g') [] []]=>bif Nat.beq g' g then .ok (.tup []) h else .fail
 |[.hn,.fn (.func g') [] []]=>bif Nat.beq g' g then .ok (.tup []) h else .fail
 | [.hs l off len sz _,.fn (.func g') [] []]=>match h[l]? with
  |none=>.fail
  |some cs=>match keysOf k len ((cs.drop off).take (len*k))with
   |none=>.fail
   | some keys=>bif Nat.beq g' g&&Nat.beq sz k&&decide (0<len)&&decide (0<k)&&decide (off+len*k<=cs.length)&&decide (keys.length=len)&&decide (len<4611686018427387904)&&decide ((iv keys).length=len)&&cs.all aX
     then .ok (.tup []) (h.set l (setCells cs off ((iv keys).map fun i=>dJ k ((cs.drop off).take (len*k)) (i % len)).flatten))else .fail
 |_=>.fail
def g8:(FuncId->List AV->M AV)->List AV->M AV:=fun _ args=>match args with
 |[.str s,.int .u8 n]=>M.pure (.int .i64 (Lib.indexByte s n.toNat.toUInt8))
 |_=>M.fail
section
variable [Dr] {P:Program}
omit [Dr]in
theorem wN{S:ar}{β:List bj}{c:List AV}{s:List UInt8}{vs:List Value}(h:np c=some s)(hv:aN S β c vs):∃(x:ByteArray)(r:List Value),vs= .string x:: r/\x.data.toList=s:=by
 unfold np at h;split at h
 ·cases h;simp only[aN,VR]at hv;obtain⟨v,r,rfl,⟨x,rfl,hx⟩,_⟩:=hv;exact⟨x,r,rfl,hx⟩
 ·cases h
omit [Dr]in
theorem oL{k i:Nat}{l:List AV}{p:AV->Bool}(h:l.all p=true):(dJ k l i).all p=true:=by
 rw[Hx]at h|-;exact fun x hx=>h x (JU (IW hx))
theorem zd{f k g:Nat}(call:FuncId->List AV->M AV)
  (hcal:∀(w:World)(blk off cap:Nat)(keys:List (List UInt8))(ev:Nat->List Value),0<keys.length->(∀i,(ev i).length=k)->(∀i,∀v∈ev i,v.oneCell'=true)->(∀i,∃(x:ByteArray)(r:List Value),ev i= .string x:: r/\x.data.toList=keys[i % keys.length]!)->
   GOKw w->gN<=blk->HoldsK ev k w blk off (Array.range keys.length)->blk<w.heap.size->keys.length<4611686018427387904->
   Calls P f #[.slice (some ⟨blk,off,none⟩) keys.length cap,.func (.func g) #[] #[]] w fun e w'=>e= .returned (.tuple #[])/\∃n os,w'=sortWorldK ev k w blk off n (iv keys).toArray os)
  {l off len sz g':Nat} {ag:Bool} {h:Hp} {S:ar} {β:List bj} {w:World} {vs:List Value} (hr:f8 k g call [.hs l off len sz ag,.fn (.func g') [] []] h≠.fail) (hg:mm β h w) (hw:Wf S w) (hh:cf S β w h)
  (hv:aN S β [.hs l off len sz ag,.fn (.func g') [] []] vs):Calls P f vs.toArray w (dc none S β h w (f8 k g call [.hs l off len sz ag,.fn (.func g') [] []] h)):=by
 unfold f8 at hr |-;simp only at hr |-;cases hl:h[l]? with
 |none=>rw[hl]at hr;exact absurd rfl hr
 | some cs=>
  rw[hl]at hr;simp only at hr |-;generalize hrow:(cs.drop off).take (len*k)=row at hr |-;cases hd:keysOf k len row with
  |none=>rw[hd]at hr;exact absurd rfl hr
  | some keys=>
   rw[hd]at hr;simp only at hr |-;cases hc:(Nat.beq g' g&&Nat.beq sz k&&decide (0<len)&&decide (0<k)&&decide (off+len*k<=cs.length)&&decide (keys.length=len)&&decide (len<4611686018427387904)&&decide ((iv keys).length=len)&&cs.all aX)with
   |false=>rw[hc]at hr;exact absurd rfl hr
   | true=>
    simp only[Hq,Hy]at hc;obtain⟨⟨⟨⟨⟨⟨⟨⟨c1,c2⟩,c3⟩,hpos⟩,c4⟩,c5⟩,c6⟩,c7⟩,c8⟩:=hc;obtain rfl:=Hv c1;obtain rfl:=Hv c2;simp only[Hr];have hlk:0<len*sz:=Jd c3 hpos;have hne:cs≠[]:=by rintro rfl;simp at c4;omega
    simp only[aN]at hv;obtain⟨v1,r1,rfl,hv1,v2,r2,rfl,hv2,rfl⟩:=hv;obtain⟨⟨b,nb⟩,cap,hb,hb0,rfl,k1,k2⟩:=hv1.hs_pos c3;simp only[VR,aN]at hv2;obtain⟨y1,y2,rfl,rfl,rfl⟩:=hv2;have hh':=hh;obtain⟨hlen,ω,hH⟩:=hh;obtain⟨z,j1,j2,j3,j4,j5⟩:=dR.cells hH hl hne hb hb0;rw[hb]at j1;cases j1;have hzs:cs.length<=z.size:=by
     have:=j4.length
     simp at this;omega
    have hown:bL β h b:=⟨l,cs,_,hl,hne,hb⟩;have hgb:gN<=b:=by
     rcases HI b gN with k|k
     ·exact absurd hown (hg.2 b k)
     ·exact k
    have hrl:row.length=len*sz:=by rw[<- hrow,Ix,Ki];omega
    have hvx:=(j4.drop off).take (len*sz);rw[hrow]at hvx;generalize hvr:(((z.toList.take cs.length).drop off).take (len*sz))=vr at hvx;have hvl:vr.length=len*sz:=by rw[hvx.length,hrl]
    have hro:row.all aX=true:=by
     rw[Hx]at c8 |-;rw[<- hrow];exact fun x hx=>c8 x (JU (IW hx))
    have hmod:∀i,i % len<len:=fun i=>Nat.mod_lt _ c3;obtain⟨hk1,hk2⟩:=pj hd;let ev:Nat->List Value:=fun i=>dJ sz vr (i % len);have hev:∀i,(ev i).length=sz:=fun i=>oV hvl (hmod i);have hea:∀i,(dJ sz row (i % len)).length=sz:=fun i=>oV hrl (hmod i);have hre:∀i,aN S β (dJ sz row (i % len)) (ev i):=fun i=>hvx.chunk sz (i % len);have hrange:(List.range len).map ev=(List.range len).map fun i=>dJ sz vr i:=Jw fun i hi=>by
     show dJ sz vr (i % len)=_;rw[JK (List.mem_range.1 hi)]
    have hflat:(flatK ev sz (Array.range keys.length)).toList=vr:=by
     rw[m8 ev sz hev hpos,Array.toList_range,c5,hrange,mP len hvl]
    have hsz:(flatK ev sz (Array.range keys.length)).size=len*sz:=by rw[size_flatK];simp[c5]
    have hholds:HoldsK ev sz w b off (Array.range keys.length):=by
     intro j hj;rw[hsz]at hj;have e1:(flatK ev sz (Array.range keys.length))[j]! = z[off+j]'(by omega):=by
      have h1:(flatK ev sz (Array.range keys.length)).toList[j]? = z.toList[off+j]?:=by
       rw[hflat,<- hvr,HA,Ht hj,Ik,HA,Ht (by omega)]
      rw[HR,HR,HW (by omega),HW (by omega)]at h1;rw[HP _ j (by omega)];exact Option.some.inj h1
     rw[e1];refine⟨by rw[j2.cell,HW (by omega)];rfl,?_⟩;obtain⟨e,he⟩:=j2;simp[World.frozen?,he]
    have hkey:∀i,∃(x:ByteArray)(r:List Value),ev i= .string x:: r/\x.data.toList=keys[i % keys.length]!:=fun i=>by
     refine wN ?_ (hre i);rw[c5];exact hk2 (i % len) _ (by rw[Iy,List.getElem?_range (hmod i)];rfl)
    have hone:∀i,∀v∈ev i,v.oneCell'=true:=fun i=>zB (hre i) (oL hro);have hcall:=hcal w b off cap keys ev (by omega) hev hone hkey hg.1 hgb hholds j2.lt (by omega);rw[c5]at hcall;refine hcall.mono ?_;rintro e w' ⟨rfl,n,os,rfl⟩;have hfl2:=m8 ev sz hev hpos (iv keys).toArray;have hs2:(flatK ev sz (iv keys).toArray).size=len*sz:=by rw[size_flatK];simp[c7]
    have hal:((iv keys).map fun i=>dJ sz row (i % len)).flatten.length=len*sz:=by rw[lV (fun i=>dJ sz row (i % len)) sz hea,c7]
    have hvv:∀p:List Nat,aN S β (p.map fun i=>dJ sz row (i % len)).flatten (p.map ev).flatten:=by
     intro p
     induction p with
     |nil=>simp[aN]
     |cons i p ih=>simp only[H3,JH];exact (hre i).append ih
    have hok:((iv keys).map fun i=>dJ sz row (i % len)).flatten.all aX=true:=by
     rw[List.all_flatten,List.all_map];exact Hx.2 fun i _=>oL hro
    refine⟨S,β,_,rfl,by simp only[VR,aN];exact⟨[],rfl,rfl⟩,zl (vs:=(flatK ev sz (iv keys).toArray).toList) hw hh' hl hne hb hb0 (by rw[hfl2];exact hvv _) (by rw[hal];exact c4) c8 hok (zU ev sz off n _ os) (fun x hx hle=>?_) (fun b' hlt hne2=>nU ev sz off n _ os hlt hne2),fun _ hsz=>by cases hsz⟩
    have:=zV hx ev sz off n (iv keys).toArray os (by simp only[IY,c7];omega)
    exact this
end
end Go.Av
namespace Go.Av.Ap
abbrev bA:=List UInt8
inductive Val where
 |mk (kind n:Int) (names:List bA) (values:List Val)
instance:Inhabited Val:=⟨.mk 0 0 [] []⟩
inductive Exp where
 |mk (op n:Int) (s m:bA) (names:List bA) (args:List Exp)
instance:Inhabited Exp:=⟨.mk 0 0 [] [] [] []⟩
inductive Ty where
 |mk (kind:Int) (fields:List (bA×Ty))
instance:Inhabited Ty:=⟨.mk 0 []⟩
abbrev bi:=bA×Ty
structure Fun where
 name:bA
 pub:Bool
 params:List bi
 result:Ty
 effects:Int
 body:Exp
 deriving Inhabited
structure Mod where
 name:bA
 uses:List bA
 vars:List bi
 init:List Exp
 funcs:List Fun
 moves:Bool
 old:List bi
 forward:List Exp
 back:List Exp
 deriving Inhabited
def Val.kind:Val->Int|.mk k _ _ _=>k
def Val.n:Val->Int|.mk _ n _ _=>n
def Val.names:Val->List bA|.mk _ _ ns _=>ns
def Val.values:Val->List Val|.mk _ _ _ vs=>vs
def Exp.op:Exp->Int|.mk o _ _ _ _ _=>o
def Exp.n:Exp->Int|.mk _ n _ _ _ _=>n
def Exp.s:Exp->bA|.mk _ _ s _ _ _=>s
def Exp.m:Exp->bA|.mk _ _ _ m _ _=>m
def Exp.names:Exp->List bA|.mk _ _ _ _ ns _=>ns
def Exp.args:Exp->List Exp|.mk _ _ _ _ _ es=>es
def Ty.kind:Ty->Int|.mk k _=>k
def Ty.fields:Ty->List bi|.mk _ fs=>fs
@[simp] theorem Hn(a b c d):(Val.mk a b c d).kind=a:=rfl
@[simp] theorem Val.n_mk(a b c d):(Val.mk a b c d).n=b:=rfl
@[simp] theorem Hm(a b c d):(Val.mk a b c d).names=c:=rfl
@[simp] theorem Hl(a b c d):(Val.mk a b c d).values=d:=rfl
def Val.eta(v:Val):Val.mk v.kind v.n v.names v.values=v:=by cases v;rfl
def Exp.eta(e:Exp):Exp.mk e.op e.n e.s e.m e.names e.args=e:=by cases e;rfl
def Ty.eta(t:Ty):Ty.mk t.kind t.fields=t:=by cases t;rfl
def strs(l:List bA):AV:=.sl (l.map .str)
mutual
def Val.av:Val->AV
 |.mk k n ns vs=>.agg [.int .i64 k,.int .i64 n,strs ns,.sl (im vs)]
def im:List Val->List AV
 |[]=>[]
 |v:: vs=>v.av:: im vs
end
mutual
def Exp.cells:Exp->List AV
 |.mk o n s m ns es=>[.int .i64 o,.int .i64 n,.str s,.str m,strs ns,.sl (fG es)]
def fG:List Exp->List AV
 |[]=>[]
 |e:: es=>.agg e.cells:: fG es
end
def Exp.av(e:Exp):AV:=.agg e.cells
mutual
def Ty.cells:Ty->List AV
 |.mk k fs=>[.int .i64 k,.sl (dB fs)]
def dB:List (bA×Ty)->List AV
 |[]=>[]
 |f:: fs=>aZ f:: dB fs
def aZ:bA×Ty->AV
 |(n,t)=>.agg (.str n:: t.cells)
end
def Ty.av(t:Ty):AV:=.agg t.cells
def Fun.av(f:Fun):AV:=.agg ([.str f.name,.bool f.pub,.sl (dB f.params)]++f.result.cells++[.int .i64 f.effects]++f.body.cells)
def iz(l:List Fun):AV:=.sl (l.map Fun.av)
def Mod.av(m:Mod):AV:=.agg [.str m.name,strs m.uses,.sl (dB m.vars),.sl (fG m.init),iz m.funcs,.bool m.moves,.sl (dB m.old),.sl (fG m.forward),.sl (fG m.back)]
def vals(l:List Val):AV:=.sl (im l)
def cm(l:List Exp):AV:=.sl (fG l)
def az(l:List bi):AV:=.sl (dB l)
def Dj(l:List Mod):AV:=.sl (l.map Mod.av)
def ints(l:List Int):AV:=.sl (l.map (.int .i64))
structure Vars where
 module:bA
 values:List Val
 deriving Inhabited
structure Deed where
 effect:Int
 arg:Int
 answer:Int
 deriving DecidableEq,Inhabited
structure Call where
 module:bA
 func:bA
 args:List Val
 deriving Inhabited
def Vars.av(v:Vars):AV:=.agg [.str v.module,vals v.values]
def Deed.av(d:Deed):AV:=.agg [.int .i64 d.effect,.int .i64 d.arg,.int .i64 d.answer]
def Call.av(c:Call):AV:=.agg [.str c.module,.str c.func,vals c.args]
def og(l:List Vars):AV:=.sl (l.map Vars.av)
def deeds(l:List Deed):AV:=.sl (l.map Deed.av)
def calls(l:List Call):AV:=.sl (l.map Call.av)
structure Out where
 err:Int
 value:Val
 deeds:List Deed
 calls:List Call
 state:List Vars
def Out.av(o:Out):AV:=.agg [.int .i64 o.err,.int .i64 o.value.kind,.int .i64 o.value.n,strs o.value.names,vals o.value.values,Ap.deeds o.deeds,Ap.calls o.calls,og o.state]
theorem oe:(l:List Val)->im l=l.map Val.av
 |[]=>rfl
 |v:: l=>by simp[im,oe l]
theorem fZ:(l:List Exp)->fG l=l.map Exp.av
 |[]=>rfl
 |v:: l=>by simp[fG,fZ l,Exp.av]
theorem bZ:(l:List bi)->dB l=l.map aZ
 |[]=>rfl
 |v:: l=>by simp[dB,bZ l]
def Val.av_eq(v:Val):v.av= .agg [.int .i64 v.kind,.int .i64 v.n,strs v.names,vals v.values]:=by cases v;rfl
def Exp.cells_eq(e:Exp):e.cells=[.int .i64 e.op,.int .i64 e.n,.str e.s,.str e.m,strs e.names,cm e.args]:=by cases e;rfl
def Ty.cells_eq(t:Ty):t.cells=[.int .i64 t.kind,az t.fields]:=by cases t;simp[Ty.cells,az,Ty.kind,Ty.fields]
def f5(f:bi):aZ f= .agg [.str f.1,.int .i64 f.2.kind,az f.2.fields]:=by obtain⟨n,t⟩:=f;simp[aZ,Ty.cells_eq]
@[simp] theorem mE(v:Val):aa v.av=[.int .i64 v.kind,.int .i64 v.n,strs v.names,vals v.values]:=by rw[v.av_eq];rfl
@[simp] theorem bp(e:Exp):aa e.av=[.int .i64 e.op,.int .i64 e.n,.str e.s,.str e.m,strs e.names,cm e.args]:=by rw[Exp.av,e.cells_eq];rfl
@[simp] theorem cF(f:bi):aa (aZ f)=[.str f.1,.int .i64 f.2.kind,az f.2.fields]:=by rw[f5];rfl
@[simp] theorem bm(t:Ty):aa t.av=[.int .i64 t.kind,az t.fields]:=by rw[Ty.av,t.cells_eq];rfl
@[simp] theorem gP(f:Fun):aa f.av=[.str f.name,.bool f.pub,az f.params,.int .i64 f.result.kind,az f.result.fields,.int .i64 f.effects,.int .i64 f.body.op,.int .i64 f.body.n,.str f.body.s,.str f.body.m,strs f.body.names,cm f.body.args]:=by
 simp[Fun.av,aa,Ty.cells_eq,Exp.cells_eq,az]
@[simp] theorem cW(m:Mod):aa m.av=[.str m.name,strs m.uses,az m.vars,cm m.init,iz m.funcs,.bool m.moves,az m.old,cm m.forward,cm m.back]:=rfl
@[simp] theorem rS(v:Val):AV.agg [.int .i64 v.kind,.int .i64 v.n,strs v.names,vals v.values]=v.av:=(v.av_eq).symm
@[simp] theorem dX(e:Exp):AV.agg [.int .i64 e.op,.int .i64 e.n,.str e.s,.str e.m,strs e.names,cm e.args]=e.av:=by rw[Exp.av,e.cells_eq]
@[simp] theorem bW(t:Ty):AV.agg [.int .i64 t.kind,az t.fields]=t.av:=by rw[Ty.av,t.cells_eq]
@[simp] theorem f7(f:bi):AV.agg [.str f.1,.int .i64 f.2.kind,az f.2.fields]=aZ f:=(f5 f).symm
@[simp] theorem ki(f:Fun):AV.agg [.str f.name,.bool f.pub,az f.params,.int .i64 f.result.kind,az f.result.fields,.int .i64 f.effects,.int .i64 f.body.op,.int .i64 f.body.n,.str f.body.s,.str f.body.m,strs f.body.names,cm f.body.args]=f.av:=by
 simp[Fun.av,Ty.cells_eq,Exp.cells_eq,az]
@[simp] theorem na(m:Mod):AV.agg [.str m.name,strs m.uses,az m.vars,cm m.init,iz m.funcs,.bool m.moves,az m.old,cm m.forward,cm m.back]=m.av:=rfl
theorem dN{α:Type}(g:Nat->Nat->Nat->Nat->Bool->AV)(f:α->AV)(h:∀x,cl g (f x)=f x):(l:List α)->dy g (l.map f)=l.map f
 |[]=>rfl
 |x:: l=>by simp[dy,h x,dN g f h l]
@[simp] theorem uS(g:Nat->Nat->Nat->Nat->Bool->AV)(l:List bA):cl g (strs l)=strs l:=by
 simp[strs,cl,dN g AV.str (fun _=>rfl) l]
@[simp] theorem FT(g:Nat->Nat->Nat->Nat->Bool->AV)(l:List Int):cl g (ints l)=ints l:=by
 simp[ints,cl,dN g (AV.int .i64) (fun _=>rfl) l]
mutual
theorem Val.cl_av(g:Nat->Nat->Nat->Nat->Bool->AV):(v:Val)->cl g v.av=v.av
 |.mk k n ns vs=>by simp[Val.av,cl,dy,qU g vs]
theorem qU(g:Nat->Nat->Nat->Nat->Bool->AV):(l:List Val)->dy g (im l)=im l
 |[]=>rfl
 |v:: l=>by simp[im,dy,Val.cl_av g v,qU g l]
end
mutual
theorem Exp.cl_cells(g:Nat->Nat->Nat->Nat->Bool->AV):(e:Exp)->dy g e.cells=e.cells
 |.mk o n s m ns es=>by simp[Exp.cells,cl,dy,mq g es]
theorem mq(g:Nat->Nat->Nat->Nat->Bool->AV):(l:List Exp)->dy g (fG l)=fG l
 |[]=>rfl
 |e:: l=>by simp[fG,dy,cl,Exp.cl_cells g e,mq g l]
end
mutual
theorem Ty.cl_cells(g:Nat->Nat->Nat->Nat->Bool->AV):(t:Ty)->dy g t.cells=t.cells
 |.mk k fs=>by simp[Ty.cells,cl,dy,kh g fs]
theorem kh(g:Nat->Nat->Nat->Nat->Bool->AV):(l:List (bA×Ty))->dy g (dB l)=dB l
 |[]=>rfl
 |f:: l=>by simp[dB,dy,y7 g f,kh g l]
theorem y7(g:Nat->Nat->Nat->Nat->Bool->AV):(f:bA×Ty)->cl g (aZ f)=aZ f
 |(n,t)=>by simp[aZ,cl,dy,Ty.cl_cells g t]
end
@[simp] theorem CY(g:Nat->Nat->Nat->Nat->Bool->AV)(v:Val):cl g v.av=v.av:=v.cl_av g
@[simp] theorem AQ(g:Nat->Nat->Nat->Nat->Bool->AV)(l:List Val):cl g (vals l)=vals l:=by simp[vals,cl,qU]
@[simp] theorem qc(g:Nat->Nat->Nat->Nat->Bool->AV)(e:Exp):cl g e.av=e.av:=by simp[Exp.av,cl,Exp.cl_cells]
@[simp] theorem FS(g:Nat->Nat->Nat->Nat->Bool->AV)(l:List Exp):cl g (cm l)=cm l:=by simp[cm,cl,mq]
@[simp] theorem mS(g:Nat->Nat->Nat->Nat->Bool->AV)(t:Ty):cl g t.av=t.av:=by simp[Ty.av,cl,Ty.cl_cells]
@[simp] theorem yH(g:Nat->Nat->Nat->Nat->Bool->AV)(f:bi):cl g (aZ f)=aZ f:=y7 g f
@[simp] theorem j0(g:Nat->Nat->Nat->Nat->Bool->AV)(l:List bi):cl g (az l)=az l:=by simp[az,cl,kh]
theorem mV(g:Nat->Nat->Nat->Nat->Bool->AV):(a b:List AV)->dy g (a++b)=dy g a++dy g b
 |[],b=>rfl
 |x:: a,b=>by simp[dy,mV g a b]
@[simp] theorem yI(g:Nat->Nat->Nat->Nat->Bool->AV)(f:Fun):cl g f.av=f.av:=by
 simp[Fun.av,cl,dy,mV,kh,Ty.cl_cells,Exp.cl_cells]
@[simp] theorem AM(g:Nat->Nat->Nat->Nat->Bool->AV)(l:List Fun):cl g (iz l)=iz l:=by simp[iz,cl,dN g Fun.av (yI g)]
@[simp] theorem tJ(g:Nat->Nat->Nat->Nat->Bool->AV)(m:Mod):cl g m.av=m.av:=by
 simp[Mod.av,cl,dy,kh,mq,AM]
@[simp] theorem FU(g:Nat->Nat->Nat->Nat->Bool->AV)(l:List Mod):cl g (Dj l)=Dj l:=by simp[Dj,cl,dN g Mod.av (tJ g)]
@[simp] theorem yJ(g:Nat->Nat->Nat->Nat->Bool->AV)(k:IntKind)(n:Int):cl g (.int k n)= .int k n:=rfl
@[simp] theorem FQ(g:Nat->Nat->Nat->Nat->Bool->AV)(b:Bool):cl g (.bool b)= .bool b:=rfl
@[simp] theorem mR(g:Nat->Nat->Nat->Nat->Bool->AV)(s:bA):cl g (.str s)= .str s:=rfl
@[simp] theorem AR(g:Nat->Nat->Nat->Nat->Bool->AV)(v:Vars):cl g v.av=v.av:=by simp[Vars.av,cl,dy]
@[simp] theorem AL(g:Nat->Nat->Nat->Nat->Bool->AV)(v:Deed):cl g v.av=v.av:=by simp[Deed.av,cl,dy]
@[simp] theorem AK(g:Nat->Nat->Nat->Nat->Bool->AV)(v:Call):cl g v.av=v.av:=by simp[Call.av,cl,dy]
@[simp] theorem ET(g:Nat->Nat->Nat->Nat->Bool->AV)(l:List Vars):cl g (og l)=og l:=by simp[og,cl,dN g Vars.av (AR g)]
@[simp] theorem ER(g:Nat->Nat->Nat->Nat->Bool->AV)(l:List Deed):cl g (deeds l)=deeds l:=by simp[deeds,cl,dN g Deed.av (AL g)]
@[simp] theorem EQ(g:Nat->Nat->Nat->Nat->Bool->AV)(l:List Call):cl g (calls l)=calls l:=by simp[calls,cl,dN g Call.av (AK g)]
@[simp] theorem Gr(g:Nat->Nat->Nat->Nat->Bool->AV)(o:Out):cl g o.av=o.av:=by simp[Out.av,cl,dy]
@[simp] theorem lJ(v:Vars):aa v.av=[.str v.module,vals v.values]:=rfl
@[simp] theorem lI(v:Deed):aa v.av=[.int .i64 v.effect,.int .i64 v.arg,.int .i64 v.answer]:=rfl
@[simp] theorem lH(v:Call):aa v.av=[.str v.module,.str v.func,vals v.args]:=rfl
@[simp] theorem mD(o:Out):aa o.av=[.int .i64 o.err,.int .i64 o.value.kind,.int .i64 o.value.n,strs o.value.names,vals o.value.values,deeds o.deeds,calls o.calls,og o.state]:=rfl
@[simp] theorem pe(v:Vars):AV.agg [.str v.module,vals v.values]=v.av:=rfl
@[simp] theorem pc(v:Deed):AV.agg [.int .i64 v.effect,.int .i64 v.arg,.int .i64 v.answer]=v.av:=rfl
@[simp] theorem pb(v:Call):AV.agg [.str v.module,.str v.func,vals v.args]=v.av:=rfl
@[simp] theorem rR(o:Out):AV.agg [.int .i64 o.err,.int .i64 o.value.kind,.int .i64 o.value.n,strs o.value.names,vals o.value.values,deeds o.deeds,calls o.calls,og o.state]=o.av:=rfl
@[simp] theorem Ec(v:Vars):cD v.av=some 2:=rfl
@[simp] theorem Ea(v:Deed):cD v.av=some 3:=rfl
@[simp] theorem D9(v:Call):cD v.av=some 3:=rfl
@[simp] theorem FD(v:Out):cD v.av=some 8:=rfl
@[simp] theorem pB(v:Vars):ck 2 v.av=true:=by simp[ck,aX,vals]
@[simp] theorem pz(v:Deed):ck 3 v.av=true:=by simp[ck,aX]
@[simp] theorem py(v:Call):ck 3 v.av=true:=by simp[ck,aX,vals]
@[simp] theorem sx(v:Out):ck 8 v.av=true:=by simp[ck,aX,vals,strs,deeds,calls,og]
def Clean(a:AV):Prop:=∀g,cl g a=a
def Clean.frz{a:AV}(h:Clean a)(d:Nat)(hp:Hp):gy d hp a=a:=by
 cases d with
 |zero=>exact h _
 |succ d=>exact h _
def cr{a:AV}(h:Clean a):aD (M.pure a)=M.pure a:=by
 funext hp;simp only[aD,M.pure,h.frz]
@[simp] theorem jd(b:Bool):aD (M.pure (.bool b))=M.pure (.bool b):=cr fun _=>rfl
@[simp] theorem r9(k:IntKind)(n:Int):aD (M.pure (.int k n))=M.pure (.int k n):=cr fun _=>rfl
@[simp] theorem Fg(s:bA):aD (M.pure (.str s))=M.pure (.str s):=cr fun _=>rfl
@[simp] theorem Fh(v:Val):aD (M.pure v.av)=M.pure v.av:=cr fun g=>CY g v
@[simp] theorem DV(v:List Val):aD (M.pure (vals v))=M.pure (vals v):=cr fun g=>AQ g v
@[simp] theorem Fc(v:Exp):aD (M.pure v.av)=M.pure v.av:=cr fun g=>qc g v
@[simp] theorem Fe(v:Fun):aD (M.pure v.av)=M.pure v.av:=cr fun g=>yI g v
@[simp] theorem FF(v:Val):cD v.av=some 4:=by rw[v.av_eq];rfl
@[simp] theorem Fz(e:Exp):cD e.av=some 6:=by rw[Exp.av,e.cells_eq];rfl
@[simp] theorem FA(f:bi):cD (aZ f)=some 3:=by rw[f5];rfl
@[simp] theorem FW(t:Ty):cD t.av=some 2:=by rw[Ty.av,t.cells_eq];rfl
@[simp] theorem FB(f:Fun):cD f.av=some 12:=by simp[Fun.av,cD,Ty.cells_eq,Exp.cells_eq]
@[simp] theorem FC(m:Mod):cD m.av=some 9:=rfl
@[simp] theorem nJ(v:Val):ck 4 v.av=true:=by simp[ck,aX,strs,vals]
@[simp] theorem iT(e:Exp):ck 6 e.av=true:=by simp[ck,aX,strs,cm]
@[simp] theorem gb(f:bi):ck 3 (aZ f)=true:=by simp[ck,aX,az]
@[simp] theorem kw(f:Fun):ck 12 f.av=true:=by simp[ck,aX,az,strs,cm]
@[simp] theorem ky(m:Mod):ck 9 m.av=true:=by simp[ck,aX,az,strs,cm,iz]
@[simp] theorem zy(s:bA):ck 1 (.str s)=true:=rfl
@[simp] theorem zw(k:IntKind)(n:Int):ck 1 (.int k n)=true:=rfl
def cU{α:Type}{sz:Nat}{f:α->AV}(h:∀x,ck sz (f x)=true)(l:List α):cE sz (l.map f)=true:=by simp[cE,h]
@[simp] theorem D6(l:List bA):cE 1 (l.map AV.str)=true:=cU zy l
@[simp] theorem D2(l:List Int):cE 1 (l.map (AV.int .i64))=true:=cU (zw .i64) l
@[simp] theorem D7(l:List Val):cE 4 (im l)=true:=by rw[oe];exact cU nJ l
@[simp] theorem DY(l:List Exp):cE 6 (fG l)=true:=by rw[fZ];exact cU iT l
@[simp] theorem DZ(l:List bi):cE 3 (dB l)=true:=by rw[bZ];exact cU gb l
@[simp] theorem D1(l:List Fun):cE 12 (l.map Fun.av)=true:=cU kw l
@[simp] theorem D3(l:List Mod):cE 9 (l.map Mod.av)=true:=cU ky l
def nj{T:TT}{t e:Nat}{ti ei:TI}(ht:T t=some ti)(hk:ti.kind= .slice e)(he:T e=some ei){α:Type}{f:α->AV}(hs:∀x,cD (f x)=some ei.size){l:List α}{i:Nat}{x:α}(h:l[i]? = some x):
  ak T t (.sl (l.map f)) (.int .i64 (i:Int))=some (.ip (aa (f x))):=by
 unfold ak;rw[ht];simp only[hk,he];rw[if_neg (by omega)];have:(l.map f)[(i:Int).toNat]? = some (f x):=by rw[HH,Iy,h];rfl
 rw[this];simp only;rw[Ht (hs x)]
def cG{T:TT}{t e:Nat}{ti ei:TI}(ht:T t=some ti)(hk:ti.kind= .slice e)(he:T e=some ei){α:Type}[Inhabited α]{f:α->AV}(hs:∀x,cD (f x)=some ei.size){l:List α}{n:Int}(h0:0<=n)(h:n<(l.length:Int)):
  ak T t (.sl (l.map f)) (.int .i64 n)=some (.ip (aa (f l[n.toNat]!))):=by
 have hlt:n.toNat<l.length:=by omega
 have:=nj ht hk he hs (l:=l) (i:=n.toNat) (x:=l[n.toNat]!) (by rw[IX,HF hlt];rfl)
 rw[show ((n.toNat:Nat):Int)=n by omega]at this;exact this
def re{T:TT}{t e:Nat}{ti ei:TI}(ht:T t=some ti)(hk:ti.kind= .slice e)(he:T e=some ei){α:Type}{f:α->AV}(hs:∀x,ck ei.size (f x)=true){a b:List α}(h:(a.length+b.length)*ei.bytes<=140737488355328)(h0:0<ei.bytes):
  dV T t (.sl (a.map f)) (.sl (b.map f))=some (.sl ((a++b).map f)):=by
 unfold dV;rw[ht];simp only[hk,he,fJ];rw[cU hs,cU hs];simp[h,h0,iX]
def dM(l:List Ty):AV:=.sl (l.map Ty.av)
structure Sig where
 name:bA
 params:List Ty
 result:Ty
 effects:Int
 deriving Inhabited
structure Face where
 module:bA
 funcs:List Sig
 deriving Inhabited
structure Vsn where
 major:Int
 minor:Int
 patch:Int
 deriving Inhabited,DecidableEq
def Sig.cells(s:Sig):List AV:=[.str s.name,dM s.params,.int .i64 s.result.kind,az s.result.fields,.int .i64 s.effects]
def Sig.av(s:Sig):AV:=.agg s.cells
def sigs(l:List Sig):AV:=.sl (l.map Sig.av)
def Face.cells(f:Face):List AV:=[.str f.module,sigs f.funcs]
def Face.av(f:Face):AV:=.agg f.cells
def faces(l:List Face):AV:=.sl (l.map Face.av)
def Vsn.av(v:Vsn):AV:=.agg [.int .i64 v.major,.int .i64 v.minor,.int .i64 v.patch]
@[simp] theorem ee(s:Sig):aa s.av=[.str s.name,dM s.params,.int .i64 s.result.kind,az s.result.fields,.int .i64 s.effects]:=rfl
@[simp] theorem fu(f:Face):aa f.av=[.str f.module,sigs f.funcs]:=rfl
@[simp] theorem Cv(v:Vsn):aa v.av=[.int .i64 v.major,.int .i64 v.minor,.int .i64 v.patch]:=rfl
@[simp] theorem fy(s:Sig):AV.agg [.str s.name,dM s.params,.int .i64 s.result.kind,az s.result.fields,.int .i64 s.effects]=s.av:=rfl
@[simp] theorem pd(f:Face):AV.agg [.str f.module,sigs f.funcs]=f.av:=rfl
@[simp] theorem E5(v:Vsn):AV.agg [.int .i64 v.major,.int .i64 v.minor,.int .i64 v.patch]=v.av:=rfl
@[simp] theorem fN(t:Ty):ck 2 t.av=true:=by simp[ck,aX,az]
@[simp] theorem Ft(l:List Ty):cE 2 (l.map Ty.av)=true:=cU fN l
@[simp] theorem FE(s:Sig):cD s.av=some 5:=rfl
@[simp] theorem Eb(s:Face):cD s.av=some 2:=rfl
@[simp] theorem FG(s:Vsn):cD s.av=some 3:=rfl
@[simp] theorem nI(s:Sig):ck 5 s.av=true:=by simp[ck,aX,az,dM]
@[simp] theorem ly(s:Face):ck 2 s.av=true:=by simp[ck,aX,sigs]
@[simp] theorem Fq(s:Vsn):ck 3 s.av=true:=rfl
@[simp] theorem D5(l:List Sig):cE 5 (l.map Sig.av)=true:=cU nI l
@[simp] theorem Dn(l:List Face):cE 2 (l.map Face.av)=true:=cU ly l
@[simp] theorem yK(g:Nat->Nat->Nat->Nat->Bool->AV)(l:List Ty):cl g (dM l)=dM l:=by simp[dM,cl,dN g Ty.av (mS g)]
@[simp] theorem qd(g:Nat->Nat->Nat->Nat->Bool->AV)(s:Sig):cl g s.av=s.av:=by unfold Sig.av Sig.cells;simp only[cl,dy,yK,j0]
@[simp] theorem AP(g:Nat->Nat->Nat->Nat->Bool->AV)(l:List Sig):cl g (sigs l)=sigs l:=by simp[sigs,cl,dN g Sig.av (qd g)]
@[simp] theorem mo(g:Nat->Nat->Nat->Nat->Bool->AV)(s:Face):cl g s.av=s.av:=by unfold Face.av Face.cells;simp only[cl,dy,AP]
@[simp] theorem yG(g:Nat->Nat->Nat->Nat->Bool->AV)(l:List Face):cl g (faces l)=faces l:=by simp[faces,cl,dN g Face.av (mo g)]
@[simp] theorem Gs(g:Nat->Nat->Nat->Nat->Bool->AV)(s:Vsn):cl g s.av=s.av:=by unfold Vsn.av;simp only[cl,dy]
@[simp] theorem FV(v:Ty):aD (M.pure v.av)=M.pure v.av:=cr fun g=>mS g v
@[simp] theorem Ff(v:Sig):aD (M.pure v.av)=M.pure v.av:=cr fun g=>qd g v
@[simp] theorem DU(v:Face):aD (M.pure v.av)=M.pure v.av:=cr fun g=>mo g v
end Go.Av.Ap
namespace Go.Av
open Go.Av.Ap
def Bt:Nat->AV->Bool
 |0,_=>false
 |d+1,.agg [.int .i64 _,.sl fs]=>decide (fs.length<=100)&&fs.all fun f=>match f with
  |.agg [.str _,.int .i64 k,.sl gs]=>Bt d (.agg [.int .i64 k,.sl gs])
  |_=>false
 |_,_=>false
def jc:(FuncId->List AV->M AV)->List AV->M AV:=fun _ args=>match args with
 |[v]=>af (bif Bt 5 v then some v else none)
 |_=>M.fail
def sn:Nat->Ty->Prop
 |0,_=>False
 |d+1,t=>t.fields.length<=100/\∀f∈t.fields,sn d f.2
theorem zt:∀(d:Nat)(t:Ty),sn d t->sn (d+1) t
 |0,_,h=>h.elim
 |d+1,_t,h=>⟨h.1,fun f hf=>zt d f.2 (h.2 f hf)⟩
theorem Ab:∀(d:Nat)(t:Ty),sn d t->Bt d t.av=true
 |0,_,h=>h.elim
 | d+1,t,h=>by
  cases t with
  |mk k fs=>
   show Bt (d+1) (.agg [.int .i64 k,.sl (dB fs)])=true;simp only[Bt,Hq,Hy,Hx];refine⟨by rw[bZ,II];exact h.1,fun v hv=>?_⟩;rw[bZ]at hv;obtain⟨f,hf,rfl⟩:=IH.1 hv;rw[f5];show Bt d (.agg [.int .i64 f.2.kind,.sl (dB f.2.fields)])=true
   have:=Ab d f.2 (h.2 f hf)
   cases hf2:f.2 with
   |mk k2 gs=>rw[hf2]at this;exact this
theorem m0{α β:Type}{f:β->α}{P:β->Prop}:(l:List α)->(∀a∈l,∃b,a=f b/\P b)->∃m:List β,l=m.map f/\∀b∈m,P b
 |[],_=>⟨[],rfl,by simp⟩
 |a:: l,h=>by
  obtain⟨b,rfl,hb⟩:=h a Ic;obtain⟨m,rfl,hm⟩:=m0 l fun a ha=>h a (Ij _ ha);exact⟨b:: m,rfl,fun c hc=>by rcases HO.1 hc with rfl|hc;exact hb;exact hm c hc⟩
theorem s6:∀(d:Nat)(v:AV),Bt d v=true->∃t:Ty,v=t.av/\sn d t
 |0,_,h=>by cases h
 | d + 1,v,h=>by
  unfold Bt at h;split at h
  ·cases h
  ·rename_i k fs e;obtain rfl:=Nat.succ.inj e;simp only[Hq,Hy,Hx]at h;have key:∀a∈fs,∃f:bi,a=aZ f/\sn d f.2:=by
    intro a ha;have h2:=h.2 a ha;split at h2
    ·rename_i n k' gs;obtain⟨t,h3,h4⟩:=s6 d _ h2;refine⟨(n,t),?_,h4⟩;rw[f5];have h5:t.av= .agg [.int .i64 t.kind,az t.fields]:=by cases t;rfl
     rw[h5]at h3;simp only[AV.agg.injEq,JB,Kg]at h3;rw[<- h3.1,<- h3.2]
    ·cases h2
   obtain⟨m,rfl,hm⟩:=m0 fs key;refine⟨.mk k m,?_,?_,hm⟩
   ·show _=AV.agg [.int .i64 k,.sl (dB m)];rw[bZ]
   ·have:=h.1
    rw[II]at this;exact this
  ·cases h
end Go.Av
namespace Go.Av
variable [Dr]
section
variable {c:Entry} {N:Nat} {U:Nat->Prop} {e:Env} {h:Hp} {a:Act} {w:World} {S:ar} {β:List bj} {γ:Nat->Value} {lam:Nat->Option Nat} {ω:Nat->Owner}
theorem FR.dead(H:FR c N U e h a w S β γ lam ω){l b:Nat}(hd:∀cs,h[l]? = some cs->cs=[])(hb:ω b= .heap l)(hS:∀o,S b o=none){w':World}(hg:Gro w w')(hsz:w'.heap.size=w.heap.size)(hold:∀k,k≠b->w'.heap[k]? = w.heap[k]?):
  FR c N U e h a w' S β γ lam ω:=by
 have hωb:∀k,ω k≠.heap l->k≠b:=fun k hk=>by rintro rfl;exact hk hb
 have hother:∀k,ω k≠.heap l->w'.heap[k]? = w.heap[k]?:=fun k hk=>hold k (hωb k hk);refine⟨fun k o v hv=>?_,H.gro.trans hg,fun k hk hE=>?_,H.le,H.ext,H.hlen,?_,H.tsz,H.slots,H.grps,?_,?_,fun k hk=>⟨(H.mine k hk).1,by rw[hsz];exact (H.mine k hk).2⟩,H.used⟩
 ·have hkb:k≠b:=by rintro rfl;rw[hS]at hv;cases hv
  rw[cell_of_heap (hold k hkb)];exact H.wf k o v hv
 ·have hkb:k≠b:=by
   rintro rfl
   have:=(H.mine k (by rw[hb];simp)).1.low
   rcases this with h|h
   ·exact hE h
   ·omega
  have:=H.keep k hk hE
  exact⟨by rw[hold k hkb];exact this.1,this.2⟩
 ·refine H.heap.rows (ar.le_refl S) (eP.refl β) H.hlen fun j ds hj hne=>.inl ⟨hj,fun k _ ho=>⟨ho,hother k ?_,fun o h=>h⟩⟩;rw[ho];simp only[JQ,Owner.heap.injEq];rintro rfl;exact hne (hd ds hj)
 ·intro B n hB;obtain⟨k1,k2,k3,k,z,k4,k5,k6,k7,k8⟩:=H.lblk B n hB;exact⟨k1,k2,k3,k,z,k4,k5.of_eq (hother k (by rw[k6];simp)),k6,k7,k8⟩
 ·intro g z hg;obtain⟨a',len,cap,g1,g2,g3,g4⟩:=H.free g z hg;refine⟨a',len,cap,g1,g2,g3,g4.imp id ?_⟩;rintro⟨sz,k,off,z',k1,k2,k3,k4,k5,k6⟩;exact⟨sz,k,off,z',k1,k2,k3.of_eq (hother k (by rw[k5];simp)),k4,k5,k6⟩
end
section
variable {S:ar} {β:List bj} {h:Hp} {w:World}
theorem FR.cpost{e:Env}{h':Hp}{a:Act}{N:Nat}{U:Nat->Prop}{w':World}{S':ar}{β':List bj}{γ:Nat->Value}{lam:Nat->Option Nat}{ω:Nat->Owner}{hg:mm β h w}(F:FR { w,S,β,E:=bL β h,gok:=hg } N U e h' a w' S' β' γ lam ω){r:AV}{v:Value}(hv:VR S' β' r v):
  dc none S β h w (.ok r h') (.returned v) w':=⟨S',β',v,rfl,hv,F.out,fun sz hsz=>by cases hsz⟩
theorem tM(hg:mm β h w)(hw:Wf S w)(hh:cf S β w h){l b n:Nat}{cs cs':List AV}{x y:Array Value}(hl:h[l]? = some cs)(hne:cs≠[])(hb:β[l]? = some (b,n))(hrow:Row w b x)(hys:y.size=x.size)(hcs:aN S β cs' (y.toList.take cs'.length))(htag:∀t,cg t cs'->cg t cs):dc none S β h w (.ok (.tup []) (h.set l cs')) (.returned (.tuple #[])) (w.setRow b y):=by
 obtain⟨γ,lam,ω,F⟩:=uB (args:=[]) (vs:=[]) (n:=0) hg hw hh (by simp[aN]) (Hu _) (by omega);exact (F.turnH hl hne ⟨n,hb⟩ hrow hys hcs htag).cpost (by simp only[VR];exact⟨[],rfl,by simp[aN]⟩)
theorem tL(hg:mm β h w)(hw:Wf S w)(hh:cf S β w h){l b n:Nat}{cs:List AV}(hl:h[l]? = some cs)(hne:cs≠[])(hb:β[l]? = some (b,n)){w':World}(hgr:Gro w w')(hsz:w'.heap.size=w.heap.size)(hold:∀k,k≠b->w'.heap[k]? = w.heap[k]?){r:AV}{v:Value}(hv:VR S β r v):dc none S β h w (.ok r (h.set l [])) (.returned v) w':=by
 obtain⟨γ,lam,ω,F⟩:=uB (args:=[]) (vs:=[]) (n:=0) hg hw hh (by simp[aN]) (Hu _) (by omega);obtain⟨b',n',k1,k2,k3,k4⟩:=F.heap.own hl hne;rw[hb]at k1;simp only[Ho,Ii]at k1;obtain⟨rfl,rfl⟩:=k1;refine ((F.killH l).dead (l:=l) (fun cs' h'=>?_) k3 k4 hgr hsz hold).cpost hv;rw[IE]at h';simp only[H7]at h';split at h'
 ·simpa using h'.symm
 ·cases h'
end
end Go.Av
namespace Go.Av
variable [Dr]
theorem iI{P:Program}{cx:Cx}{own:Option Nat}(hT:TOK P cx.T)(hC:cp P cx.own cx.call)(hI:IsoCall cx){f:FuncId}{fn:Func}(hf:P.funcs[f]? = some fn)(hnt:cx.nt=fn.ntmps){E:List AV->Hp->R AV}(h0:∀h,E [] h= .ok (.sl []) h)(h1:∀e es h,bH cx (cv 0) fn own [.sl (e:: es)] h=E (e:: es) h)(h2:∀h,bH cx (cv 0) fn own [.hn] h= .ok (.sl []) h)(h3:∀l off h,bH cx (cv 0) fn own [.hs l off 0 1 false] h= .ok (.sl []) h){es:List AV}{h:Hp}{S:ar}{β:List bj}{w:World}{vs:List Value}(hr:E es h≠.fail)(hg:mm β h w)(hw:Wf S w)(hh:cf S β w h)(hv:aN S β [.sl es] vs):Calls P f vs.toArray w (dc own S β h w (E es h))/\fn.body.isSome=true:=by
 cases es with
 |cons e es=>
  rw[<- h1]at hr |-;exact fX hT hC hI 0 hf hnt hr hg hw hh hv
 | nil=>
  rw[h0];simp only[aN]at hv;obtain⟨v,_,rfl,hv,rfl⟩:=hv;have hv0:=hv;simp only[VR]at hv;obtain⟨a,cap,rfl,hc,hn,hq⟩:=hv;cases a with
  |none=>
   have hcap:=hn rfl;subst hcap;have hv2:aN S β [.hn] [.slice none ([]:List AV).length 0]:=by simp[aN,VR]
   have:=fX (own:=own) hT hC hI 0 hf hnt (args:=[.hn]) (h:=h) (by rw[h2];simp) hg hw hh hv2
   rw[h2]at this;exact this
  | some q=>
   obtain⟨hs,_⟩:=hq q rfl;have hX:cf S [(q.block,q.off+cap)] w [[]]:=⟨rfl,fun _=>.no,fun l cs hl hne=>by
    cases l with
    |zero=>simp at hl;exact absurd hl hne
    |succ l=>simp at hl⟩
   have hE:∀b,¬bL [(q.block,q.off+cap)] [[]] b:=by
    rintro b ⟨l,cs,n,k1,k2,_⟩;cases l with
    |zero=>simp at k1;exact k2 k1
    |succ l=>simp at k1
   have hv2:aN S [(q.block,q.off+cap)] [.hs 0 q.off 0 1 false] [.slice (some q) ([]:List AV).length cap]:=by
    simp only[aN,VR];rcases Il cap with h0|h0
    ·subst h0;exact⟨_,_,rfl,.inr ⟨trivial,q,rfl⟩,rfl⟩
    ·have hq':q=⟨q.block,q.off,none⟩:=by
      have:=hs h0
      cases q;simp_all
     exact⟨_,_,rfl,.inl ⟨(q.block,q.off+cap),cap,rfl,(by show q.off+cap≠0;omega),by rw[<- hq'];rfl,H5 _,by simp⟩,rfl⟩
   have:=fX (own:=own) hT hC hI 0 hf hnt (args:=[.hs 0 q.off 0 1 false]) (h:=[[]]) (by rw[h3];simp) ⟨hg.1,fun b _=>hE b⟩ hw hX hv2
   rw[h3]at this;refine⟨this.1.mono fun en w' hp=>?_,this.2⟩;obtain⟨S',β',v,k1,k2,k3,k4⟩:=hp;obtain⟨S2,j1,j2,j3⟩:=vd hw hh hE k3;exact⟨S2,β,v,k1,j2 (.sl []) v k2,j1,fun sz hsz=>j3 sz v (k4 sz hsz)⟩
end Go.Av
namespace Go.Av
attribute [simp] aV aG yz wg
@[simp] theorem aY{α:Type}(b:Bool)(x y:M α):ay (.bool b) x y=if b=true then x else y:=by cases b<;>rfl
def gv(b w:Bool)(y:AV):AV:=bif b== w then y else .tup []
@[simp] theorem GX(y:AV):gv false false y=y:=rfl
@[simp] theorem G0(y:AV):gv true true y=y:=rfl
@[simp] theorem GY(y:AV):gv false true y= .tup []:=rfl
@[simp] theorem GZ(y:AV):gv true false y= .tup []:=rfl
@[simp high] theorem AZ(b w:Bool)(y:AV):aw (.bool b) w 1 (M.pure [y])=M.pure [gv b w y]:=by cases b<;>cases w<;>rfl
@[simp high] theorem DO(b w c w2:Bool)(y:AV):aw (gv b w (.bool c)) w2 1 (M.pure [y])=M.pure [gv b w (gv c w2 y)]:=by cases b<;>cases w<;>cases c<;>cases w2<;>rfl
@[simp high] theorem DR(b w c e:Bool):aw (.bool b) w 1 (ae (af (aI (gv b w (.bool c)) (.bool true) (gv b w (gv c false (.bool e))))) fun v=>M.pure [v])=M.pure [gv b w (.bool (c||e))]:=by
 cases b<;>cases w<;>cases c<;>rfl
@[simp high] theorem Db(b w c e:Bool):aw (.bool b) w 1 (ae (af (aI (gv b w (.bool c)) (gv b w (gv c true (.bool e))) (.bool false))) fun v=>M.pure [v])=M.pure [gv b w (.bool (c&&e))]:=by
 cases b<;>cases w<;>cases c<;>rfl
@[simp high] theorem D8(b c:Bool):aI (.bool b) (gv b true (.bool c)) (.bool false)=some (.bool (b&&c)):=by cases b<;>rfl
@[simp high] theorem Fv(b c:Bool):aI (.bool b) (.bool true) (gv b false (.bool c))=some (.bool (b||c)):=by cases b<;>rfl
@[simp] theorem A0(w:Bool)(n:Nat)(m:M (List AV)):aw (.bool !w) w n m=M.pure (List.replicate n (.tup [])):=by cases w<;>rfl
@[simp] theorem eD(w:Bool)(n:Nat)(m:M (List AV)):aw (.bool w) w n m=m:=by cases w<;>rfl
@[simp] theorem DN(n:Nat)(m:M (List AV)):aw (.bool false) true n m=M.pure (List.replicate n (.tup [])):=rfl
@[simp] theorem DT(n:Nat)(m:M (List AV)):aw (.bool true) false n m=M.pure (List.replicate n (.tup [])):=rfl
@[simp] theorem Dc(w:Bool)(n:Nat)(m:M (List AV)):aw (.tup []) w n m=M.pure (List.replicate n (.tup [])):=rfl
@[simp] theorem ib(x y:AV):aI (.bool true) x y=some x:=rfl
@[simp] theorem sB(x y:AV):aI (.bool false) x y=some y:=rfl
@[simp] theorem a7(x:AV)(l:List AV):nth (x:: l) 0=x:=rfl
@[simp] theorem bc(x:AV)(l:List AV)(n:Nat):nth (x:: l) (n+1)=nth l n:=rfl
@[simp] theorem Gx{α:Type}(k:List AV->M α)(m:(List AV->M α)->M α):jn k m=m k:=rfl
@[simp] theorem e9{α:Type}(a:α):dz (M.pure a)=M.pure a:=rfl
@[simp] theorem il(b:Bool):fE .not (.bool b)=some (.bool !b):=rfl
@[simp] theorem ke(l:List AV)(i:Nat):aB (.tup l) i=l[i]?:=rfl
@[simp] theorem Cf:True:=trivial
@[simp] theorem Dk(l k:Nat):cI (.hp l k)=some (.hp l k):=rfl
@[simp] theorem Dl(cs:List AV):cI (.ip cs)=some (.ip cs):=rfl
@[simp] theorem eS(s:List UInt8):aa (.str s)=[.str s]:=rfl
@[simp] theorem Ct(k:IntKind)(n:Int):aa (.int k n)=[.int k n]:=rfl
@[simp] theorem mC(cs:List AV):aa (.agg cs)=cs:=rfl
@[simp] theorem d7(T:TT)(t:Nat)(a b:Int):ao T .add t (.int .i64 a) (.int .i64 b)=some (.int .i64 (IntKind.i64.wrap (a+b))):=rfl
@[simp] theorem qa(T:TT)(t:Nat)(a b:Int):ao T .sub t (.int .i64 a) (.int .i64 b)=some (.int .i64 (IntKind.i64.wrap (a-b))):=rfl
@[simp] theorem FO(T:TT)(t:Nat)(a b:Int):ao T .mul t (.int .i64 a) (.int .i64 b)=some (.int .i64 (IntKind.i64.wrap (a*b))):=rfl
@[simp] theorem bJ(T:TT)(t:Nat)(a b:Int):ao T .lss t (.int .i64 a) (.int .i64 b)=some (.bool (decide (a<b))):=rfl
@[simp] theorem jZ(T:TT)(t:Nat)(a b:Int):ao T .leq t (.int .i64 a) (.int .i64 b)=some (.bool (decide (a<=b))):=rfl
@[simp] theorem FN(T:TT)(t:Nat)(a b:Int):ao T .gtr t (.int .i64 a) (.int .i64 b)=some (.bool (decide (b<a))):=rfl
@[simp] theorem p8(T:TT)(t:Nat)(a b:Int):ao T .geq t (.int .i64 a) (.int .i64 b)=some (.bool (decide (b<=a))):=rfl
@[simp] theorem FM(T:TT)(t:Nat)(a b:Int):ao T .eql t (.int .i64 a) (.int .i64 b)=some (.bool (a== b)):=rfl
@[simp] theorem p9(T:TT)(t:Nat)(a b:Int):ao T .neq t (.int .i64 a) (.int .i64 b)=some (.bool (a != b)):=rfl
@[simp] theorem vR(T:TT)(t:Nat)(a b:List UInt8):ao T .eql t (.str a) (.str b)=some (.bool (a== b)):=rfl
@[simp] theorem F5(T:TT)(t:Nat)(a b:List UInt8):ao T .neq t (.str a) (.str b)=some (.bool !(a== b)):=rfl
@[simp] theorem F0(T:TT)(t:Nat)(a b:List UInt8):ao T .lss t (.str a) (.str b)=some (.bool (aR a b)):=rfl
@[simp] theorem FY(T:TT)(t:Nat)(a b:List UInt8):ao T .geq t (.str a) (.str b)=some (.bool !(aR a b)):=rfl
@[simp] theorem bN{n:Nat}{x:AV}(h:ck n x=true):aE n x=M.pure (.agg (aa x)):=by
 unfold aE gV;rw[h];rfl
@[simp] theorem aS{n:Nat}{x:AV}(h:ck n x=true):ap n [] x=M.pure (.agg (aa x)):=by
 unfold ap gV;rw[h];rfl
@[simp] theorem DW(b:Bool)(x:AV):iu b [x]=some x:=by simp[iu]
@[simp] theorem DX(b:Bool)(a c:Int):iu b [.int .i64 a,.int .i64 c]=some (.int .i64 (if b=true then max a c else min a c)):=by
 cases b
 ·simp only[iu,zu,Hw];congr 2;simp only[Int.min_def];split<;>split<;>simp_all<;>omega
 ·simp only[iu,zu,Hr];congr 2;simp only[Int.max_def];split<;>split<;>simp_all<;>omega
def dF{x:Int}(h1:-9223372036854775808<=x)(h2:x<=9223372036854775807):IntKind.i64.wrap x=x:=IntWalk.i64_in _ ⟨h1,h2⟩
def Af{n:Nat}(h:n<=4611686018427387904):IntKind.i64.wrap (n:Int)=(n:Int):=IntWalk.i64_in _ (by omega)
def be{n:Nat}(h:n<=4611686018427387904):IntKind.i64.wrap ((n:Int)+1)=((n+1:Nat):Int):=by
 rw[IntWalk.i64_in _ (by omega)];omega
def jl{n:Nat}(h:n<=4611686018427387904):IntKind.i64.wrap (((n+1:Nat):Int)-1)=(n:Int):=by
 rw[IntWalk.i64_in _ (by omega)];omega
namespace Ap
mutual
def Val.sz:Val->Nat
 |.mk _ _ ns vs=>1+ns.length+Ad vs
def Ad:List Val->Nat
 |[]=>0
 |v:: vs=>v.sz+Ad vs
end
end Ap
end Go.Av
namespace Go.Av
def bT{α:Type}(F:α->Bool):List α->Int->Int
 |[],_=>-1
 |x:: l,i=>if F x=true then i else bT F l (i+1)
theorem rY{α:Type}(F:α->Bool):(l:List α)->(i:Int)->0<=i->(0<=bT F l i↔l.any F=true)
 |[],i,_=>by simp[bT]
 |x:: l,i,h=>by
  simp only[bT];split
  ·rename_i hx;simp[hx,h]
  ·rename_i hx;rw[rY F l (i+1) (by omega)];simp[hx]
def lj{α:Type}(F:α->Bool)(l:List α):decide (0<=bT F l 0)=l.any F:=by
 have:=rY F l 0 (by omega)
 cases h:l.any F with
 |true=>simp[this.2 h]
 |false=>simp only[IZ];intro hh;rw[this.1 hh]at h;cases h
@[simp] theorem Cg(a b:Nat):((a:Int)== (b:Int))=(a== b):=by rw[IJ];simp;omega
@[simp] theorem Bh(a:Nat):((a:Int)== 0)=(a== 0):=by rw[IJ];simp
@[simp] theorem Ch(a b:Nat):((a:Int) != (b:Int))=(a != b):=by rw[IJ];simp;omega
def cd{α β:Type}(F:α->β->Bool):List α->List β->Bool
 |x:: l,y:: r=>F x y&&cd F l r
 |[],[]=>true
 |_,_=>false
theorem lM{α β:Type}(F:α->β->Bool):(a:List α)->(b:List β)->a.length≠b.length->cd F a b=false
 |[],[],h=>absurd rfl h
 |[],_:: _,_=>rfl
 |_:: _,[],_=>rfl
 |x:: a,y:: b,h=>by
  have:=lM F a b (by simpa using h)
  simp[cd,this]
end Go.Av
namespace Go.Av
open Ap
@[simp high] theorem CV(x:Val):aE 4 (Val.av x)=M.pure (Val.av x):=by rw[bN (nJ x),mE,rS]
@[simp high] theorem AJ(x:Val):ap 4 [] (Val.av x)=M.pure (Val.av x):=by rw[aS (nJ x),mE,rS]
@[simp high] theorem CQ(x:Exp):aE 6 (Exp.av x)=M.pure (Exp.av x):=by rw[bN (iT x),bp,dX]
@[simp high] theorem AD(x:Exp):ap 6 [] (Exp.av x)=M.pure (Exp.av x):=by rw[aS (iT x),bp,dX]
@[simp high] theorem tI(x:bi):aE 3 (aZ x)=M.pure (aZ x):=by rw[bN (gb x),cF,f7]
@[simp high] theorem AE(x:bi):ap 3 [] (aZ x)=M.pure (aZ x):=by rw[aS (gb x),cF,f7]
@[simp high] theorem CR(x:Fun):aE 12 (Fun.av x)=M.pure (Fun.av x):=by rw[bN (kw x),gP,ki]
@[simp high] theorem AF(x:Fun):ap 12 [] (Fun.av x)=M.pure (Fun.av x):=by rw[aS (kw x),gP,ki]
@[simp high] theorem CS(x:Mod):aE 9 (Mod.av x)=M.pure (Mod.av x):=by rw[bN (ky x),cW,na]
@[simp high] theorem AG(x:Mod):ap 9 [] (Mod.av x)=M.pure (Mod.av x):=by rw[aS (ky x),cW,na]
@[simp high] theorem BX(x:Vars):aE 2 (Vars.av x)=M.pure (Vars.av x):=by rw[bN (pB x),lJ,pe]
@[simp high] theorem Ak(x:Vars):ap 2 [] (Vars.av x)=M.pure (Vars.av x):=by rw[aS (pB x),lJ,pe]
@[simp high] theorem BW(x:Deed):aE 3 (Deed.av x)=M.pure (Deed.av x):=by rw[bN (pz x),lI,pc]
@[simp high] theorem Aj(x:Deed):ap 3 [] (Deed.av x)=M.pure (Deed.av x):=by rw[aS (pz x),lI,pc]
@[simp high] theorem BV(x:Ap.Call):aE 3 (Ap.Call.av x)=M.pure (Ap.Call.av x):=by rw[bN (py x),lH,pb]
@[simp high] theorem Ai(x:Ap.Call):ap 3 [] (Ap.Call.av x)=M.pure (Ap.Call.av x):=by rw[aS (py x),lH,pb]
@[simp high] theorem CU(x:Ap.Out):aE 8 (Ap.Out.av x)=M.pure (Ap.Out.av x):=by rw[bN (sx x),mD,rR]
@[simp high] theorem AH(x:Ap.Out):ap 8 [] (Ap.Out.av x)=M.pure (Ap.Out.av x):=by rw[aS (sx x),mD,rR]
@[simp] theorem fN(t:Ty):ck 2 t.av=true:=by simp[ck,aX,az]
@[simp high] theorem dA(x:Ty):aE 2 (Ty.av x)=M.pure (Ty.av x):=by rw[bN (fN x),bm,bW]
@[simp high] theorem iG(x:Ty):ap 2 [] (Ty.av x)=M.pure (Ty.av x):=by rw[aS (fN x),bm,bW]
end Go.Av
namespace Go.Av
@[simp] theorem Al(c:Prop)[Decidable c](a b:Bool):(if c then(M.pure (.bool a):M AV)else M.pure (.bool b))=M.pure (.bool (if c then a else b)):=by split<;>rfl
@[simp] theorem A1(c:Prop)[Decidable c](a b:Int):(if c then(M.pure (.int .i64 a):M AV)else M.pure (.int .i64 b))=M.pure (.int .i64 (if c then a else b)):=by split<;>rfl
def uW{F:(List AV->M AV)->List AV->M AV}(hF:∀vs,aj F vs=F (aj F) vs)(st:Nat->List AV)(n:Nat)(G:Nat->Bool)(hend:F (aj F) (st n)=M.pure (.bool true))(hstep:∀k,k<n->F (aj F) (st k)=if G k=true then aj F (st (k+1))else M.pure (.bool false)):
  ∀k,k<=n->aj F (st k)=M.pure (.bool ((List.range' k (n-k)).all G)):=by
 have key:∀r k,n-k=r->k<=n->aj F (st k)=M.pure (.bool ((List.range' k r).all G)):=by
  intro r
  induction r with
  |zero=>
   intro k hr hk;obtain rfl:k=n:=by omega
   rw[hF,hend];rfl
  |succ r ih=>
   intro k hr hk;rw[hF,hstep k (by omega),ih (k+1) (by omega) (by omega)];simp only[JL,Ip];cases G k<;>rfl
 exact fun k hk=>key (n-k) k rfl hk
def tm{α:Type}[Inhabited α](P:α->Bool)(l:List α):(List.range' 0 l.length).all (fun k=>P l[k]!)=l.all P:=by
 rw[IJ];simp only[Hx,J8];constructor
 ·intro h x hx;obtain⟨i,hi,rfl⟩:=List.getElem_of_mem hx
  have:=h i ⟨H5 _,by omega⟩
  rwa [HP l i hi]at this
 ·intro h k hk;have hk':k<l.length:=by omega
  rw[HP l k hk'];exact h _ (HD hk')
theorem mH{α β:Type}[Inhabited α][Inhabited β](P:α->β->Bool):(a:List α)->(b:List β)->a.length=b.length->(List.range' 0 a.length).all (fun k=>P a[k]! b[k]!)=cd P a b
 |[],[],_=>rfl
 | x:: a,y:: b,h=>by
  have ih:=mH P a b (by simpa using h);simp only[HG,JL,Ip,cd];congr 1;rw[<- ih];rw[IJ];simp only[Hx,J8];constructor
  ·intro h k hk
   have:=h (k+1) (by omega)
   simpa using this
  ·intro h k hk;obtain⟨j,rfl⟩:∃j,k=j+1:=⟨k-1,by omega⟩;simpa using h j (by omega)
 |[],_:: _,h=>by simp at h
 |_:: _,[],h=>by simp at h
end Go.Av
namespace Go.Av.Ap
open Go Go.Av
def Val.limN:Nat->Val->Prop
 |0,_=>True
 |n+1,v=>v.names.length<=140737488355328/\v.values.length<=140737488355328/\∀x∈v.values,x.limN n
def Val.Lim(v:Val):Prop:=∀n,v.limN n
def Exp.limN:Nat->Exp->Prop
 |0,_=>True
 |n+1,v=>v.names.length<=8796093022208/\v.args.length<=140737488355328/\∀x∈v.args,x.limN n
def Exp.Lim(v:Exp):Prop:=∀n,v.limN n
def Ty.limN:Nat->Ty->Prop
 |0,_=>True
 |n+1,v=>v.fields.length<=140737488355328/\∀x∈v.fields,x.2.limN n
def Ty.Lim(v:Ty):Prop:=∀n,v.limN n
def Val.Lim.names{v:Val}(h:v.Lim):v.names.length<=140737488355328:=(h 1).1
def Val.Lim.len{v:Val}(h:v.Lim):v.values.length<=140737488355328:=(h 1).2.1
def Val.Lim.kid{v:Val}(h:v.Lim){x:Val}(hx:x∈v.values):x.Lim:=fun n=>(h (n+1)).2.2 x hx
def Exp.Lim.names{v:Exp}(h:v.Lim):v.names.length<=8796093022208:=(h 1).1
def Exp.Lim.len{v:Exp}(h:v.Lim):v.args.length<=140737488355328:=(h 1).2.1
def Exp.Lim.kid{v:Exp}(h:v.Lim){x:Exp}(hx:x∈v.args):x.Lim:=fun n=>(h (n+1)).2.2 x hx
def Ty.Lim.len{v:Ty}(h:v.Lim):v.fields.length<=140737488355328:=(h 1).1
def Ty.Lim.kid{v:Ty}(h:v.Lim){x:bi}(hx:x∈v.fields):x.2.Lim:=fun n=>(h (n+1)).2 x hx
structure Fun.Lim (f:Fun):Prop where
 params:f.params.length<=140737488355328
 pty:∀x∈f.params,x.2.Lim
 result:f.result.Lim
 body:f.body.Lim
structure Mod.Lim (m:Mod):Prop where
 uses:m.uses.length<=140737488355328
 vars:m.vars.length<=140737488355328
 vty:∀x∈m.vars,x.2.Lim
 init:m.init.length<=140737488355328
 ies:∀e∈m.init,e.Lim
 funcs:m.funcs.length<=140737488355328
 fns:∀f∈m.funcs,f.Lim
 old:m.old.length<=140737488355328
 oty:∀x∈m.old,x.2.Lim
 forward:m.forward.length<=140737488355328
 fes:∀e∈m.forward,e.Lim
 back:m.back.length<=140737488355328
 bes:∀e∈m.back,e.Lim
end Go.Av.Ap
namespace Go.Av.Ap
open Go Go.Av
section
variable {α:Type} {f:α->AV} {sz:Nat}
def rowOf(f:α->AV)(l:List α):List AV:=(l.map f).flatMap aa
theorem ic(x:α)(l:List α):rowOf f (x:: l)=aa (f x)++rowOf f l:=by simp[rowOf]
theorem ff(hs:∀x,(aa (f x)).length=sz):(l:List α)->(rowOf f l).length=l.length*sz
 |[]=>by simp[rowOf]
 |x:: l=>by rw[ic,HZ,hs,ff hs l,HG,I6];omega
theorem ez(hs:∀x,(aa (f x)).length=sz):(l:List α)->(i:Nat)->(h:i<l.length)->((rowOf f l).drop (i*sz)).take sz=aa (f l[i])
 |x:: l,0,_=>by
  rw[ic,Jl,Ia,Ko (hs x)];rfl
 |x:: l,i+1,h=>by
  rw[ic,show (i+1)*sz=(aa (f x)).length+i*sz by rw[hs,I6];omega,List.drop_append,HQ (by omega),Kj,Ir];simpa using ez hs l i (by simpa using h)
theorem oF{cs xs:List AV}{off:Nat}(h:(cs.drop off).take xs.length=xs):setCells cs off xs=cs:=by
 unfold setCells
 conv=>lhs;rw[<- h]
 rw[ID];have:cs.take off++((cs.drop off).take xs.length++cs.drop (off+((cs.drop off).take xs.length).length))=cs:=by
  rw[h,<- JE]
  conv=>lhs;rw[show xs++List.drop xs.length (List.drop off cs)=(cs.drop off).take xs.length++List.drop xs.length (List.drop off cs) by rw[h]]
  rw[I2,I2]
 exact this
theorem lh(hs:∀x,(aa (f x)).length=sz)(hag:∀x,f x= .agg (aa (f x)))(hcl:∀x g,cl g (f x)=f x)(hz:0<sz){h:Hp}{q:Nat}{l:List α}(hq:h[q]? = some (rowOf f l))(d:Nat):
  gy (d+1) h (.hs q 0 l.length sz true)= .sl (l.map f):=by
 have hlen:=ff (f:=f) hs l;simp only[gy,cl,hq];have h1:(decide (0+l.length*sz<=(rowOf f l).length)&&decide (0<sz)&&(true||(Nat.beq sz 1&&(rowOf f l).all aX)))=true:=by
  simp[hlen,hz]
 rw[h1,Hr];congr 1;apply List.ext_getElem
 ·simp
 ·intro i h2 h3;have hi:i<l.length:=by simpa using h2
  simp only[List.getElem_map,List.getElem_range,HJ,Hr];rw[ez hs l i hi,<- hag];cases d with
  |zero=>exact hcl _ _
  |succ d=>exact hcl _ _
theorem mU{T:TT}{t e:Nat}{ti ei:TI}(ht:T t=some ti)(hk:ti.kind= .slice e)(he:T e=some ei)(h4:ei.size=sz)(hag:ei.agg=true)(hb:0<ei.bytes)(hz:0<sz)(hok:∀x,ck sz (f x)=true)(call:FuncId->List AV->M AV)(l:List α)(hc:l.length*ei.bytes<=140737488355328)(h:Hp):
  cX T t call [.sl (l.map f)] h=if l=[]then .ok (.sl []) h else .ok (.hs h.length 0 l.length sz true) (h++[rowOf f l]):=by
 have h1:cE sz (l.map f)=true:=cU hok l;cases l with
 |nil=>simp[cX,appH,ht,hk,he,fJ,hb,h4,iX,cE,hz]
 |cons v l=>
  have hne:((v:: l).map f).isEmpty=false:=rfl;unfold cX appH;simp only[ht,hk,he,fJ,h4,h1,hb,hz,iX,Iq,JJ,Hr,hne,Hw,II,hag];rw[Jp hc];simp[rowOf]
end
def pq{T:TT}{t:Nat}{ti:TI}{q off:Nat}{cs:List AV}{h:Hp}(ht:T t=some ti)(hag:ti.agg=true)(hq:h[q]? = some cs)(hle:off+ti.size<=cs.length):bz T t (.hp q off) h= .ok (.agg ((cs.drop off).take ti.size)) h:=by
 simp only[bz,ht,hq,hag,Hr];rw[Ht hle]
def mg{T:TT}{t:Nat}{ti:TI}{q off:Nat}{cs:List AV}{v:AV}{h:Hp}(ht:T t=some ti)(hq:h[q]? = some cs)(hok:ck ti.size v=true)(hle:off+ti.size<=cs.length)(h0:0<ti.size)(hsame:(cs.drop off).take (aa v).length=aa v):
  bI T t (.hp q off) v h= .ok (.tup []) h:=by
 simp only[bI,ht,hq,hok,Jp hle,Jp h0,JJ,Hr];rw[oF hsame];congr 1;obtain⟨hlt,hk⟩:=HN.1 hq;rw[<- hk];exact Jq hlt
end Go.Av.Ap
namespace Go.Av.Ap
open Go Go.Av
def mu(b:UInt8):Bool:=decide (97<=b.toNat)&&decide (b.toNat<=122)
def tO(b:UInt8):Bool:=decide (48<=b.toNat)&&decide (b.toNat<=57)
def mI(b:UInt8):Bool:=mu b||tO b
def mh(s:bA):Bool:=!(s== [])&&mu (s.headD 0)&&decide (s.length<=20)&&((s.takeWhile mI).length== s.length)
def jj:bA:=[32,97,110,100,32,98,97,99,107,32,98,111,111,108,32,99,108,111,99,107,32,101,108,115,101,32,102,97,108,115,101,32,102,105,108,101,115,32,102,110,32,102,111,114,119,97,114,100,32,103,101,116,32,105,102,32,105,110,32,105,110,116,32,108,101,116,32,109,111,100,117,108,101,32,109,111,118,101,32,110,101,116,32,110,111,116,32,111,114,32,112,117,98,32,115,101,99,114,101,116,115,32,115,101,116,32,116,104,101,110,32,116,114,117,101,32,117,115,101,32,118,97,114,32]
def bY(s:bA):Bool:=mh s&&!(Lib.contains jj ([32]++s++[32]))
def xg{s:bA}(h:mh s=true):s.length<=20:=by
 unfold mh at h;simp only[Hq,Hy]at h;exact h.1.2
def di(p f:bA):Bool:=!(aR f p||f== p)
def gE{α:Type}(Q:α->α->Bool):List α->Bool
 |x:: y:: r=>Q x y&&gE Q (y:: r)
 |_=>true
theorem rk{α:Type}[Inhabited α](Q:α->α->Bool):(l:List α)->(gE Q l=true↔∀k,k+1<l.length->Q l[k]! l[k+1]! = true)
 |[]=>by simp[gE]
 |[x]=>by simp[gE]
 | x:: y:: r=>by
  simp only[gE,Hq,rk Q (y:: r)];constructor
  ·rintro⟨h1,h2⟩ k hk;cases k with
   |zero=>simpa using h1
   |succ k=>simpa using h2 k (by simpa using hk)
  ·intro h;refine⟨by simpa using h 0 (by simp),fun k hk=>?_⟩;simpa using h (k+1) (by simpa using hk)
def uL{α:Type}[Inhabited α](P:α->Bool)(Q:α->α->Bool)(l:List α):(List.range' 0 l.length).all (fun k=>P l[k]! && (decide (k=0)||Q l[k-1]! l[k]!))=(l.all P&&gE Q l):=by
 rw[IJ,Hq,<- tm P l,rk];simp only[Hx,J8,Hq,It,Hy];constructor
 ·intro h;refine⟨fun k hk=>(h k hk).1,fun k hk=>?_⟩
  have:=(h (k+1) ⟨H5 _,by omega⟩).2
  rcases this with h0|h1
  ·omega
  ·simpa using h1
 ·rintro⟨h1,h2⟩ k hk;refine⟨h1 k hk,?_⟩;cases k with
  |zero=>exact .inl rfl
  |succ k=>exact .inr (by simpa using h2 k (by omega))
def b9:Nat->Ty->Bool
 |0,_=>false
 |d+1,t=>decide (0<=t.kind)&&decide (t.kind<3)&&decide (t.fields.length<=8)&&(t.kind== 2||t.fields.length== 0)&&(t.fields.all (fun f=>bY f.1&&b9 d f.2)&&gE (fun a b=>di a.1 b.1) t.fields)
theorem dp(d:Nat)(t:Ty):b9 (d+1) t=(decide (0<=t.kind)&&decide (t.kind<3)&&decide (t.fields.length<=8)&&(t.kind== 2||t.fields.length== 0)&&(t.fields.all (fun f=>bY f.1&&b9 d f.2)&&gE (fun a b=>di a.1 b.1) t.fields)):=rfl
abbrev aH(t:Ty):Bool:=b9 4 t
mutual
def pZ:Ty->Ty->Bool
 |.mk k fs,a=>a.kind== k&&mn fs a.fields
def mn:List (bA×Ty)->List bi->Bool
 |[],_=>true
 |f:: fs,l=>tz f l&&mn fs l
def tz:bA×Ty->List bi->Bool
 |(n,t),l=>match aJ (fun z=>z.1== n) l with
  |some z=>pZ t z.2
  |none=>false
end
def aO(a b:Ty):Bool:=pZ b a
theorem lN:(fs:List bi)->(l:List bi)->mn fs l=fs.all fun f=>tz f l
 |[],_=>rfl
 |f:: fs,l=>by simp[mn,lN fs l]
def i8(a b:Ty):aO a b=(a.kind== b.kind&&b.fields.all fun f=>match aJ (fun z=>z.1== f.1) a.fields with|some z=>aO z.2 f.2|none=>false):=by
 cases b with
 |mk k fs=>
  show pZ (.mk k fs) a=_;simp only[pZ,lN,Ty.kind,Ty.fields];congr 2;funext f;obtain⟨n,t⟩:=f;simp only[tz,aO]
def jp(a b:Ty):Bool:=aH a&&aH b&&aO a b
def cS(a b:Int):Int:=IntKind.i64.wrap (BitVec.ofInt 64 a &&& ~~~ BitVec.ofInt 64 b).toNat
def sZ(a b:Sig):Bool:=cd jp b.params a.params&&jp a.result b.result&&(cS a.effects b.effects== 0)
def qI(s:Sig):Bool:=bY s.name&&decide (s.params.length<=6)&&(cS s.effects 15== 0)&&aH s.result&&s.params.all aH
def vJ(f:Face):Bool:=bY f.module&&decide (f.funcs.length<=30)&&(f.funcs.all qI&&gE (fun a b=>aR a.name b.name) f.funcs)
def B9(f:Face)(name:bA):Option Sig:=f.funcs.find? fun s=>s.name== name
structure Sig.Lim (s:Sig):Prop where
 plen:s.params.length<=140737488355328
 ptys:∀t∈s.params,t.Lim
 result:s.result.Lim
structure Face.Lim (f:Face):Prop where
 len:f.funcs.length<=140737488355328
 sigs:∀s∈f.funcs,s.Lim
@[simp] theorem jG(x:Sig):aE 5 x.av=M.pure x.av:=by rw[bN (nI x),ee,fy]
@[simp] theorem gW(x:Sig):ap 5 [] x.av=M.pure x.av:=by rw[aS (nI x),ee,fy]
end Go.Av.Ap
namespace Go.Av
variable [Dr]
open Go.RowKit Go.WideShapes Go.ChangeShapes
theorem Left.below{S S':ar}{β β':List bj}{w w':World}{h':Hp}(L:Left (bL [] []) S β w S' β' w' h'):Below w.heap.size w w':=
 ⟨L.gro.os,L.gro.tape,L.gro.out,L.gro.size,fun k hk=>(L.keep k hk (by rintro⟨l,_,_,h1,_⟩;simp at h1)).1⟩
def iy(W:World):ar:=fun b o=>W.cell? ⟨b,o,none⟩
omit [Dr]in
theorem Ar(W:World):Wf (iy W) W:=fun _ _ _ h=>h
omit [Dr]in
theorem wI{W:World}(h:GOKw W):mm [] [] W:=⟨h,fun b _ ho=>by obtain⟨l,_,_,h1,_⟩:=ho;simp at h1⟩
theorem wO{P:Program}{p:Pg}(G:GoodPg P p)(hO:cQ p){f:FuncId}{args:List AV}{vs:List Value}{W:World}(hg:GOKw W)(hv:aN (iy W) [] args vs)(ht:ah p f args []= .ok (.bool true) []):Calls P f vs.toArray W fun e W'=>e= .returned (.bool true)/\Below W.heap.size W W':=by
 have h:=(iF G hO f args [] (iy W) [] W vs (by rw[ht];simp) (wI hg) (Ar W) ⟨rfl,fun _=>.no,fun l cs hl=>by simp at hl⟩ hv).1;rw[ht]at h;refine h.mono fun e W' hp=>?_;obtain⟨S',β',v,rfl,hv,L,_⟩:=hp;simp only[VR]at hv;subst hv;exact⟨rfl,L.below⟩
section
variable {H:Type} {enc:TypeId×Value->H} {P:Program}
omit [Dr]in
theorem oC{f:Func}{s:ChangeSpec}{apart fresh handsOn again:Bool}{W W':World}{args:Array Value}{v:Value}{ds gs:List (DataW H)}{before pa pv:List MemPlace}(hW:DataW.Whole enc P f.params.toList s.vars apart W args.toList ds gs before)(hres:∀(b:Nat)(sp:Nat->Bool)(hd:Bool),DataW.TrodAll enc P W' b sp hd f.resultTypes.toList (v.resultList f.resultTypes.size) (s.fn H (ds++gs)).results [])(hargs:∀sp:Nat->Bool,(∀p∈before,sp p.block=true)->DataW.TrodAll enc P W' 0 sp true f.params.toList args.toList (s.fn H (ds++gs)).args pa)(hvars:∀sp:Nat->Bool,(∀p∈before,sp p.block=true)->DataW.TrodVars enc P W' sp s.vars (s.fn H (ds++gs)).vars pv)(hps:before=pa++pv)(hb:Below W.heap.size W W')(hok:∀(j:Nat)(t:TypeId)(r:Value),f.resultTypes[j]? = some t->(v.resultList f.resultTypes.size)[j]? = some r->Value.okWide P W' .any 0 t r):
  s.post enc P f apart fresh handsOn again W args v W':=by
 have hlt:∀p∈before,p.block<W.heap.size:=fun p hp=>hW.lt p hp;have hold:∀p∈before,(fun b=>decide (b<W.heap.size)) p.block=true:=fun p hp=>by simpa using hlt p hp
 refine⟨ds,gs,before,[],pa,pv,hW,hres _ _ _,hargs _ hold,hvars _ hold,World.keptBut_mono (fun p hp=>⟨hp,?_⟩) (hb.frame (· ∈before)),fun _=>?_⟩
 ·rw[hps,HV]at hp;exact Or.inr hp
 ·obtain⟨_,_,_,_,_,hz,hn⟩:=hW;refine⟨hok,_,_,([]++pa)++pv,⟨[]++pa,pv,trodAll_append (hargs _ (fun _ _=>rfl)) (hres _ _ _),hvars _ (fun _ _=>rfl),rfl,?_,?_⟩,?_⟩
  ·intro b off hp;have hin:MemPlace.cell b off∈before:=by rw[hps];simpa using hp
   rw[hb.frozen (hlt _ hin)];exact hz b off hin
  ·intro ha
   have:=hn ha
   rw[hps]at this;simpa using this
  ·intro p hp _;rw[hps];simpa using hp
end
end Go.Av
