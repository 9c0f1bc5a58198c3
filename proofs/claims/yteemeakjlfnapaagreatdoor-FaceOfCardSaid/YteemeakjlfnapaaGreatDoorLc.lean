/- The abstract evaluator of the model and plain laws, part 3: its soundness holds for every program whose table of types is the evaluator's. No further condition. -/
import Derived.Test.YteemeakjlfnapaaGreatDoorLb
import Derived.KernelRfl
import Derived.Below
import Derived.Lib.IndexMore
import Derived.Lib.Fields
import Derived.Lib.AtoiAll
import Derived.Lib.SplitLaws
import Derived.Shelf.SlSortCmp.WholeK
import Derived.Lib.Bytealg
import Derived.IntWalk
import Derived.ChangeSame
import Derived.OpenShut
set_option linter.defProp false
set_option linter.unusedSimpArgs false
set_option linter.unusedVariables false
namespace Go.Av
variable [Dr]
def aQ{α:Type}(m:M α):Prop:=∃o,m=ah o
def cz{α:Type}(m:M α):Prop:=∀h,m h= .fail\/∃v,m h= .ok v h
def cU{α:Type}(m:M α):Prop:=∀h v h',m h≠.pan v h'
omit [Dr]in
theorem aQ.read{α:Type}{m:M α}(h:aQ m):cz m:=by
 obtain⟨o,rfl⟩:=h;intro h;cases o with
 |none=>exact .inl rfl
 |some v=>exact .inr ⟨v,rfl⟩
omit [Dr]in
theorem cz.stay{α:Type}{m:M α}(g:cz m):cU m:=by
 intro h v h' hh;rcases g h with g|⟨x,g⟩<;>rw[g]at hh<;>cases hh
omit [Dr]in
theorem aQ.bnd{α β:Type}{m:M α}(h:aQ m)(f:α->β):aQ (af m fun v=>M.pure (f v)):=by
 obtain⟨o,rfl⟩:=h;cases o with
 |none=>exact⟨none,rfl⟩
 |some v=>exact⟨some (f v),rfl⟩
omit [Dr]in
theorem cz.bnd{α β:Type}{m:M α}(g:cz m)(f:α->β):cz (af m fun v=>M.pure (f v)):=by
 intro h;simp only[Av.af,M.pure];rcases g h with g|⟨x,g⟩<;>rw[g]
 ·exact .inl rfl
 ·exact .inr ⟨_,rfl⟩
omit [Dr]in
theorem cU.bnd{α β:Type}{m:M α}(g:cU m)(f:α->β):cU (af m fun v=>M.pure (f v)):=by
 intro h v h' hh;simp only[Av.af,M.pure]at hh;cases hm:m h<;>rw[hm]at hh<;>simp at hh;exact g _ _ _ hm
omit [Dr]in
theorem aQ.lft{α:Type}(o:Option α):aQ (ah o):=⟨o,rfl⟩
omit [Dr]in
theorem aQ.pure{α:Type}(a:α):aQ (M.pure a):=⟨some a,rfl⟩
omit [Dr]in
theorem aQ.fail{α:Type}:aQ (M.fail:M α):=⟨none,rfl⟩
def hJ{α:Type}(m:M α):Prop:=∀h t v,m h= .ok v h->m (h++t)= .ok v (h++t)
def qG{α:Type}(m:M α):Prop:=∀h v h',m h= .ok v h'->∃t,h'=h++t
omit [Dr]in
theorem aQ.app{α:Type}{m:M α}(h:aQ m):hJ m:=by
 obtain⟨o,rfl⟩:=h;intro h t v hh;cases o with
 |none=>cases hh
 |some x=>cases hh;rfl
omit [Dr]in
theorem aQ.nw{α:Type}{m:M α}(h:aQ m):qG m:=by
 obtain⟨o,rfl⟩:=h;intro h v h' hh;cases o with
 |none=>cases hh
 |some x=>cases hh;exact⟨[],by simp⟩
omit [Dr]in
theorem hJ.bnd{α β:Type}{m:M α}(g:hJ m/\cz m)(f:α->β):hJ (af m fun v=>M.pure (f v))/\cz (af m fun v=>M.pure (f v)):=by
 refine⟨fun h t v hh=>?_,g.2.bnd f⟩;simp only[Av.af,M.pure]at hh |-;rcases g.2 h with k|⟨x,k⟩
 ·rw[k]at hh;cases hh
 ·rw[k]at hh;cases hh;rw[g.1 h t x k]
omit [Dr]in
theorem qG.bnd{α β:Type}{m:M α}(g:qG m)(f:α->β):qG (af m fun v=>M.pure (f v)):=by
 intro h v h' hh;simp only[Av.af,M.pure]at hh;cases hm:m h<;>rw[hm]at hh<;>simp at hh;obtain⟨t,ht⟩:=g _ _ _ hm;exact⟨t,by rw[<- hh.2,ht]⟩
def ba(p:∀ {α:Type},M α->Prop):Act1->Prop
 |.dyn m _=>p m
 |.thr _=>False
 |_=>True
structure IsoPure (cx:Cx):Prop where
 iso:∀f args,cx.iso f=true->aQ (cx.call f args)
 nw:∀f args,cx.nw f=true->qG (cx.call f args)
section
variable {cx:Cx} {e:Env} {gid:Nat} {o:Oper}
omit [Dr]in
theorem ba.cond{p:∀ {α:Type},M α->Prop}{b:Bool}{x y:Act1}(h1:b=true->ba p x)(h2:b=false->ba p y):ba p (bif b then x else y):=by
 cases b with
 |true=>exact h1 rfl
 |false=>exact h2 rfl
omit [Dr]in
theorem ba.lft(o:Option AV)(sh:AV->Upd):ba aQ (.dyn (ah o) sh):=aQ.lft o
omit [Dr]in
theorem lF(T:TT)(t:TypeId)(x:AV):cz (fu T t x):=by
 have key:∀x,cz (fun h:Hp=>(match ai T t x with|some v=>R.ok v h|none=>.fail)):=by
  intro x h;cases hq:ai T t x with
  |none=>exact .inl rfl
  |some v=>exact .inr ⟨v,rfl⟩
 cases x with
 | hp l off=>
  intro h;simp only[fu];cases T t with
  |none=>exact .inl rfl
  | some ti=>
   cases h[l]? with
   |none=>exact .inl rfl
   | some cs=>
    simp only;cases ti.agg with
    |true=>
     simp only[Dx];split
     ·exact .inr ⟨_,rfl⟩
     ·exact .inl rfl
    |false=>
     simp only[DF];cases cs[off]? with
     |none=>exact .inl rfl
     |some v=>exact .inr ⟨v,rfl⟩
 |_=>exact key _
omit [Dr]in
theorem qA(T:TT)(t:TypeId)(x y:AV):cU (fg T t x y):=by
 intro h v h' hh;unfold fg at hh;split at hh
 ·split at hh
  ·revert hh;generalize (_&&_:Bool)=b1;cases b1<;>simp
  ·cases hh
 ·cases hh
omit [Dr]in
theorem po(T:TT)(t:TypeId)(x:AV):cU (nU T t x):=fun h v h' hh=>by cases hh
omit [Dr]in
theorem nq(cs:List AV):cU (newH cs):=by
 intro h v h' hh;unfold newH at hh;revert hh;generalize (_||_:Bool)=b1;cases b1<;>simp
omit [Dr]in
theorem tL(t:Nat)(cs:List AV):cU (tK t cs):=by
 intro h v h' hh;unfold tK at hh;split at hh
 ·revert hh;generalize List.any _ _=b1;cases b1<;>simp
 ·cases hh
omit [Dr]in
theorem ov:cU eM:=by
 intro h v h' hh;cases hh
omit [Dr]in
theorem rC(T:TT)(t:TypeId)(x k:AV)(ok:Bool):cz (fJ T t x k ok):=by
 intro h;unfold fJ;cases iL h x with
 |none=>exact .inl rfl
 |some es=>
  simp only;cases lJ T t es k ok with
  |none=>exact .inl rfl
  |some v=>exact .inr ⟨v,rfl⟩
omit [Dr]in
theorem tj{h s:Hp}{x:AV}{es:List AV}(hh:iL h x=some es):iL (h++s) x=some es:=by
 unfold iL at hh |-;cases x with
 | mp l=>
  simp only at hh |-;cases hl:h[l]? with
  |none=>rw[hl]at hh;cases hh
  | some cs=>
   rw[hl]at hh;have hl':(h++s)[l]? = some cs:=by
    rw[Fe,DG (El.1 hl).1,hl]
   rw[hl'];exact hh
 |_=>exact hh
omit [Dr]in
theorem tI(T:TT)(t:TypeId)(x k:AV)(ok:Bool):hJ (fJ T t x k ok):=by
 intro h s v hh;unfold fJ at hh |-;cases hs:iL h x with
 |none=>rw[hs]at hh;cases hh
 |some es=>
  rw[hs]at hh;rw[tj hs];simp only at hh |-;cases ha:lJ T t es k ok with
  |none=>rw[ha]at hh;cases hh
  |some u=>rw[ha]at hh;cases hh;rfl
omit [Dr]in
theorem qi(T:TT)(t:TypeId)(x:AV):cU (oD T t x):=fun h v h' hh=>by cases hh
omit [Dr]in
theorem pt(x:AV):cz (lg x):=fun h=>.inl rfl
omit [Dr]in
theorem ra(x:AV):hJ (lg x):=fun h s v hh=>by cases hh
omit [Dr]in
theorem nB(T:TT)(t:TypeId)(x k y:AV):cU (mG T t x k y):=by
 intro h v h' hh;unfold mG at hh;split at hh
 ·cases hh
 ·revert hh;cases ta T 20 _ k with
  |false=>intro hh;cases hh
  | true=>
   simp only[Dx];intro hh;split at hh
   ·split at hh
    ·split at hh
     ·cases hh
     ·cases hh
    ·cases hh
   ·cases hh
omit [Dr]in
theorem sY(T:TT)(t:TypeId)(z:Bool)(x y:AV):cU (appH T t z x y):=by
 intro h v h' hh;unfold appH at hh;have hc:∀ {b:Bool} {r s:R AV},(∀v h',r≠.pan v h')->(∀v h',s≠.pan v h')->(bif b then r else s)≠.pan v h':=by
  intro b r s h1 h2;cases b
  ·exact h2 _ _
  ·exact h1 _ _
 split at hh
 ·cases hh
 ·split at hh
  ·split at hh
   ·cases hh
   ·split at hh
    ·cases hh
    ·refine hc (fun v h' hh=>?_) (fun v h' hh=>by cases hh) hh;split at hh
     ·revert hh;generalize List.isEmpty _=b1;generalize decide (_<=140737488355328)=b2;cases b1<;>cases b2<;>simp
     ·revert hh;generalize List.isEmpty _=b1;generalize decide (_<=140737488355328)=b2;cases z<;>cases b1<;>cases b2<;>simp
     ·split at hh
      ·cases hh
      ·revert hh;generalize (_&&_:Bool)=b1;generalize List.isEmpty _=b2;cases b1<;>cases b2<;>simp
     ·cases hh
  ·cases hh
omit [Dr]in
theorem sX(T:TT)(t:TypeId)(x y:AV):cU (sW T t x y):=by
 intro h v h' hh;unfold sW at hh;have hc:∀ {b:Bool} {r s:R AV},(∀v h',r≠.pan v h')->(∀v h',s≠.pan v h')->(bif b then r else s)≠.pan v h':=by
  intro b r s h1 h2;cases b
  ·exact h2 _ _
  ·exact h1 _ _
 split at hh
 ·cases hh
 ·split at hh
  ·split at hh
   ·cases hh
   ·refine hc (fun v h' hh=>?_) (fun v h' hh=>by cases hh) hh;split at hh
    ·cases hh
    ·split at hh
     ·cases hh
     ·split at hh
      ·revert hh;generalize List.isEmpty _=b1;generalize decide (_<=140737488355328)=b2;cases b1<;>cases b2<;>simp
      ·split at hh
       ·cases hh
       ·revert hh;generalize (_&&_:Bool)=b1;generalize List.isEmpty _=b2;cases b1<;>cases b2<;>simp
      ·cases hh
  ·cases hh
omit [Dr]in
theorem pf(T:TT)(t n:Nat)(ps:List (Nat×AV)):cU (nT T t n ps):=fun h v h' hh=>by cases hh
omit [Dr]in
theorem np(told:Bool)(x:Operand):ba aQ (ff told e gid x):=by
 unfold ff;split
 ·trivial
 ·exact ba.cond (fun _=>ba.cond (fun _=>trivial) (fun _=>trivial)) (fun _=>trivial)
omit [Dr]in
theorem rB(d:Option Tmp)(t:TypeId)(p:Nat):ba cz (cN cx e d t p)/\(bh cx.ann.hl d=false->ba aQ (cN cx e d t p)):=by
 unfold cN;split
 ·split
  ·exact⟨trivial,fun _=>trivial⟩
  ·constructor
   ·exact ba.cond (fun _=>ba.cond (fun _=>trivial) (fun _=>ba.cond (fun _=>trivial) (fun _=>trivial))) (fun _=>trivial)
   ·exact fun _=>ba.cond (fun _=>ba.cond (fun _=>trivial) (fun _=>ba.cond (fun _=>trivial) (fun _=>trivial))) (fun _=>trivial)
 ·cases hm:bh cx.ann.hl d with
  |true=>exact⟨lF _ _ _,fun h=>by cases h⟩
  |false=>exact⟨(aQ.lft _).read,fun _=>aQ.lft _⟩
omit [Dr]in
theorem tH(T:TT)(t:TypeId)(x:AV):hJ (fu T t x):=by
 intro h s v hh;have hk:∀y,(match ai T t y with|some v=>R.ok v h|none=>.fail)=R.ok v h->(match ai T t y with|some v=>R.ok v (h++s)|none=>.fail)=R.ok v (h++s):=by
  intro y hy;cases hq:ai T t y with
  |none=>rw[hq]at hy;cases hy
  |some u=>rw[hq]at hy;cases hy;rfl
 unfold fu at hh |-;cases x with
 | hp l off=>
  simp only at hh |-;cases hT:T t with
  |none=>rw[hT]at hh;cases hh
  | some ti=>
   rw[hT]at hh;cases hl:h[l]? with
   |none=>rw[hl]at hh;cases hh
   | some cs=>
    have hl':(h++s)[l]? = some cs:=by
     rw[Fe]
     have:=(El.1 hl).1
     rw[DG this,hl]
    rw[hl]at hh;rw[hl'];simp only at hh |-;cases hag:ti.agg with
    |true=>
     rw[hag]at hh;simp only[Dx]at hh |-;split at hh
     ·rename_i hc;cases hh;rw[DG hc]
     ·cases hh
    |false=>
     rw[hag]at hh;simp only[DF]at hh |-;cases hq:cs[off]? with
     |none=>rw[hq]at hh;cases hh
     |some u=>rw[hq]at hh;cases hh;rfl
 |_=>exact hk _ hh
omit [Dr]in
theorem vO(d:Option Tmp)(t:TypeId)(p:Nat):ba (fun m=>hJ m/\cz m) (cN cx e d t p):=by
 unfold cN;split
 ·split
  ·trivial
  ·exact ba.cond (fun _=>ba.cond (fun _=>trivial) (fun _=>ba.cond (fun _=>trivial) (fun _=>trivial))) (fun _=>trivial)
 ·cases hm:bh cx.ann.hl d with
  |true=>exact⟨tH _ _ _,lF _ _ _⟩
  |false=>exact⟨(aQ.lft _).app,(aQ.lft _).read⟩
omit [Dr]in
theorem vt{A:Act1}(h:ba cU A):ba cU (Ar A):=by
 cases A with
 |bad=>trivial
 |stat u=>intro h v h' hh;cases hh
 |dyn m sh=>
  intro x v h' hh;simp only[Av.af,sn]at hh;cases hm:m x<;>rw[hm]at hh<;>simp at hh;exact h _ _ _ hm
 |thr v=>exact h.elim
omit [Dr]in
theorem rk(t p i:Nat):ba aQ (eO cx e t p i):=by
 unfold eO;split
 ·split
  ·trivial
  ·split
   ·trivial
   ·split
    ·trivial
    ·exact ba.cond (fun _=>trivial) (fun _=>trivial)
 ·exact aQ.lft _
omit [Dr]in
theorem rr(t p:Nat)(i:Operand):ba aQ (cq cx e t p i):=by
 unfold cq;split
 ·split
  ·split
   ·split
    ·trivial
    ·exact ba.cond (p:=aQ) (fun _=>trivial) (fun _=>trivial)
   ·trivial
  ·trivial
 ·exact aQ.lft _
omit [Dr]in
theorem rU(t p:Nat)(y:Operand):ba cU (dQ cx e gid t p y):=by
 have hl:∀o:Option AV,cU (Av.ah o):=fun o=>(aQ.lft o).read.stay;unfold dQ;split
 ·split
  ·trivial
  ·refine ba.cond (fun _=>ba.cond (fun _=>ba.cond (fun _=>hl _) (fun _=>trivial)) (fun _=>ba.cond (fun _=>hl _) (fun _=>ba.cond (fun _=>?_) (fun _=>trivial)))) (fun _=>trivial);split
   ·split
    ·exact hl _
    ·trivial
   ·exact ba.cond (fun _=>trivial) (fun _=>hl _)
 ·exact qA _ _ _ _
omit [Dr]in
theorem rT(t p:Nat)(y:Operand)(hl:fc (e.get p)=true):ba aQ (dQ cx e gid t p y):=by
 have hl':∀o:Option AV,aQ (Av.ah o):=fun o=>aQ.lft o;unfold dQ;cases hv:(e.get p).v with
 |val a=>simp[fc,hv]at hl
 | loc B off=>
  simp only;split
  ·trivial
  ·refine ba.cond (fun _=>ba.cond (fun _=>ba.cond (fun _=>hl' _) (fun _=>trivial)) (fun _=>ba.cond (fun _=>hl' _) (fun _=>ba.cond (fun _=>?_) (fun _=>trivial)))) (fun _=>trivial);split
   ·split
    ·exact hl' _
    ·trivial
   ·exact ba.cond (fun _=>trivial) (fun _=>hl' _)
omit [Dr]in
theorem gB(s t:Nat):ba cU (dN cx e gid s t)/\(bq cx.ann.kinds s .L≠.H->bq cx.ann.kinds s .L≠.B->ba aQ (dN cx e gid s t)):=by
 unfold dN;split
 ·exact⟨trivial,fun _ _=>trivial⟩
 ·cases hk:bq cx.ann.kinds s .L with
  |F=>exact⟨trivial,fun _ _=>trivial⟩
  |H=>exact⟨nq _,fun h=>absurd rfl h⟩
  |B=>exact⟨tL _ _,fun _ h=>absurd rfl h⟩
  |L=>exact⟨ba.cond (fun _=>trivial) (fun _=>trivial),fun _ _=>ba.cond (fun _=>trivial) (fun _=>trivial)⟩
  |S=>exact⟨ba.cond (fun _=>trivial) (fun _=>trivial),fun _ _=>ba.cond (fun _=>trivial) (fun _=>trivial)⟩
omit [Dr]in
theorem mR(s t:Nat)(x:Operand):ba cU (gP cx e s t x)/\(bq cx.ann.kinds s .F≠.H->ba aQ (gP cx e s t x)):=by
 have hl:∀o:Option AV,cU (Av.ah o):=fun o=>(aQ.lft o).read.stay;unfold gP;cases hk:bq cx.ann.kinds s .F with
 |F=>exact⟨trivial,fun _=>trivial⟩
 |H=>exact⟨nq _,fun h=>absurd rfl h⟩
 |B=>exact⟨trivial,fun _=>trivial⟩
 |L=>
  simp only;split
  ·exact⟨trivial,fun _=>trivial⟩
  ·exact⟨ba.cond (fun _=>hl _) (fun _=>trivial),fun _=>ba.cond (fun _=>aQ.lft _) (fun _=>trivial)⟩
 |S=>
  simp only;split
  ·exact⟨trivial,fun _=>trivial⟩
  ·exact⟨ba.cond (fun _=>hl _) (fun _=>trivial),fun _=>ba.cond (fun _=>aQ.lft _) (fun _=>trivial)⟩
structure Class (f:Foot) (A:Act1):Prop where
 stay:f.piv=false->ba cU A
 read:f.wh=false->ba cz A
 pure:f.wh=false->f.rh=false->ba aQ A
 app:f.wh=false->ba (fun m=>hJ m/\cz m) A
 nw:f.nw=true->ba qG A
omit [Dr]in
theorem ba.imp{p q:∀ {α:Type},M α->Prop}(hpq:∀ {α:Type} (m:M α),p m->q m){A:Act1}(h:ba p A):ba q A:=by
 cases A<;>first|trivial|exact hpq _ h|exact h
omit [Dr]in
theorem Class.of_pure{f:Foot}{A:Act1}(h:ba aQ A):Class f A:=
 ⟨fun _=>h.imp fun _ g=>g.read.stay,fun _=>h.imp fun _ g=>g.read,fun _ _=>h,fun _=>h.imp fun _ g=>⟨g.app,g.read⟩,fun _=>h.imp fun _ g=>g.nw⟩
omit [Dr]in
theorem hJ.nw{α:Type}{m:M α}(h:cz m):qG m:=fun x v h' hh=>by
 rcases h x with g|⟨u,g⟩
 ·rw[g]at hh;cases hh
 ·rw[g]at hh;cases hh;exact⟨[],by simp⟩
omit [Dr]in
theorem Class.of_app{f:Foot}{A:Act1}(_hw:f.wh=false)(hr:f.rh=true)(h:ba (fun m=>hJ m/\cz m) A):Class f A:=
 ⟨fun _=>h.imp fun _ g=>g.2.stay,fun _=>h.imp fun _ g=>g.2,fun _ h=>by(rw[hr]at h;cases h),fun _=>h,fun _=>h.imp fun _ g=>hJ.nw g.2⟩
omit [Dr]in
theorem mN(T:TT)(t:TypeId)(x y:AV):cz (oZ T t x y):=by
 intro h;unfold oZ;cases mI h y with
 |none=>exact .inl rfl
 |some es=>
  simp only;cases eE T t x (.sl es)with
  |none=>exact .inl rfl
  |some v=>exact .inr ⟨v,rfl⟩
omit [Dr]in
theorem wy{h s:Hp}{y:AV}{es:List AV}(hh:mI h y=some es):mI (h++s) y=some es:=by
 unfold mI at hh |-;split at hh
 ·rename_i l off len sz ag;cases hl:h[l]? with
  |none=>rw[hl]at hh;cases hh
  | some cs=>
   rw[hl]at hh;have hl':(h++s)[l]? = some cs:=by
    rw[Fe]
    have:=(El.1 hl).1
    rw[DG this,hl]
   simp only[hl'];exact hh
 ·exact hh
 ·exact hh
 ·cases hh
omit [Dr]in
theorem o9(T:TT)(t:TypeId)(x y:AV):hJ (oZ T t x y):=by
 intro h s v hh;unfold oZ at hh |-;cases hs:mI h y with
 |none=>rw[hs]at hh;cases hh
 |some es=>
  rw[hs]at hh;rw[wy hs];simp only at hh |-;cases ha:eE T t x (.sl es)with
  |none=>rw[ha]at hh;cases hh
  |some u=>rw[ha]at hh;cases hh;rfl
omit [Dr]in
theorem Class.of_stay{f:Foot}{A:Act1}(hw:f.wh=true)(hn:f.nw=false)(h:ba cU A):Class f A:=
 ⟨fun _=>h,fun h=>by(rw[hw]at h;cases h),fun h=>by(rw[hw]at h;cases h),fun h=>by(rw[hw]at h;cases h),fun h=>by(rw[hn]at h;cases h)⟩
omit [Dr]in
theorem Class.of_piv{f:Foot}{A:Act1}(hw:f.wh=true)(h:f.piv=true)(hn:f.nw=true->ba qG A):Class f A:=
 ⟨fun h'=>by(rw[h]at h';cases h'),fun h=>by(rw[hw]at h;cases h),fun h=>by(rw[hw]at h;cases h),fun h=>by(rw[hw]at h;cases h),hn⟩
omit [Dr]in
theorem qU(hI:IsoPure cx){c:Call}(ho:o.op= .call c):Class (am cx o) (dO cx e gid o c):=by
 unfold dO;cases hc:c.callee with
 |invoke r m=>exact .of_pure trivial
 | value x=>
  cases x with
  | func f=>
   simp only;cases hfz:bh cx.ann.fz o.dst with
   | true=>
    simp only[Dx];cases hq:!(cx.iso f)&&!(cx.nw f)&&(cx.own f).isNone with
    |false=>exact .of_pure trivial
    |true=>
     simp only[Dy,Er]at hq;exact .of_piv (by unfold am;rw[ho];simp only[hc,hq.1.1,DF]) (by unfold am;rw[ho];simp only[hc,hq.1.1,DF]) fun hn=>by unfold am at hn;rw[ho]at hn;simp only[hc,hq.1.1,DF,hq.1.2]at hn;cases hn
   |false=>
   simp only[DF];cases hi:cx.iso f with
   |true=>exact .of_pure (hI.iso f _ hi)
   |false=>exact .of_piv (by unfold am;rw[ho];simp only[hc,hi,DF]) (by unfold am;rw[ho];simp only[hc,hi,DF]) fun hn=>hI.nw f _ (by unfold am at hn;rw[ho]at hn;simpa only[hc,hi,DF]using hn)
  |_=>exact .of_piv (by unfold am;rw[ho];simp only[hc]) (by unfold am;rw[ho];simp only[hc]) fun hn=>by unfold am at hn;rw[ho]at hn;simp[hc]at hn
 | builtin b=>
  cases b<;>simp only<;>(try exact .of_pure trivial)
  case clear=>
   have hw:(am cx o).wh=true/\(am cx o).nw=false:=by unfold am;rw[ho];simp only[hc];exact⟨trivial,trivial⟩
   split
   ·exact .of_stay hw.1 hw.2 (po _ _ _)
   ·exact .of_pure trivial
  case append=>
   split
   ·cases hu:eH cx.T _ with
    |false=>exact .of_pure trivial
    | true=>
     simp only[E4,DF];cases hha:bh cx.ann.ha o.dst with
     | true=>exact .of_stay (by unfold am;rw[ho];simp only[hc,hha,Dx]) (by unfold am;rw[ho];simp only[hc,hha,Dx]) (by
       cases bh cx.ann.hb o.dst with
       |true=>simp only[Dx];exact sX _ _ _ _
       |false=>exact sY _ _ _ _ _)
     | false=>
      simp only[DF];cases hhl:bh cx.ann.hl o.dst with
      | true=>
       refine .of_app (by unfold am;rw[ho];simp only[hc,hha,DF]) (by unfold am;rw[ho];simp only[hc,hha,hhl,DF]) ?_;simp only[Dx];refine ba.cond (fun _=>⟨o9 _ _ _ _,mN _ _ _ _⟩) (fun _=>?_);split
       ·split
        ·trivial
        ·split
         ·trivial
         ·exact ba.cond (fun _=>⟨o9 _ _ _ _,mN _ _ _ _⟩) (fun _=>trivial)
       ·trivial
      | false=>
       refine .of_pure ?_;simp only[DF];refine ba.cond (fun _=>aQ.lft _) (fun _=>?_);split
       ·split
        ·trivial
        ·split
         ·trivial
         ·exact ba.cond (fun _=>aQ.lft _) (fun _=>trivial)
       ·trivial
   ·exact .of_pure trivial
  case len=>
   split
   ·exact .of_pure (aQ.lft _)
   ·exact .of_pure trivial
  case min=>exact .of_pure (aQ.lft _)
  case max=>exact .of_pure (aQ.lft _)
omit [Dr]in
theorem dh(hI:IsoPure cx)(e:Env)(gid:Nat)(o:Oper):Class (am cx o) (dP cx e gid o):=by
 unfold dP;cases ho:o.op<;>simp only<;>(try exact .of_pure (aQ.lft _))<;>(try exact .of_pure trivial)
 case binOp=>exact .of_pure (ba.cond (fun _=>trivial) fun _=>aQ.lft _)
 case buildSlice t n ps=>
  cases hha:bh cx.ann.ha o.dst with
  |true=>exact .of_stay (by unfold am;rw[ho];simp only[hha,Dx]) (by unfold am;rw[ho];simp only[hha,Dx]) (pf _ _ _ _)
  |false=>exact .of_pure (aQ.lft _)
 case move x=>exact .of_pure (np _ x)
 case assign x=>exact .of_pure (np _ x)
 case box t x=>
  cases hd:o.dst with
  |none=>exact .of_pure trivial
  |some s=>
   cases hk:bq cx.ann.kinds s .F with
   |H=>exact .of_stay (by unfold am;rw[ho];simp only[hd,hk]) (by unfold am;rw[ho];simp only[hd,hk]) (mR s t x).1
   |_=>exact .of_pure ((mR s t x).2 (by rw[hk];simp))
 case alloc t=>
  cases hd:o.dst with
  |none=>exact .of_pure trivial
  |some s=>
   cases hk:bq cx.ann.kinds s .L with
   |H=>exact .of_stay (by unfold am;rw[ho];simp only[hd,hk]) (by unfold am;rw[ho];simp only[hd,hk]) (gB s t).1
   |B=>exact .of_stay (by unfold am;rw[ho];simp only[hd,hk]) (by unfold am;rw[ho];simp only[hd,hk]) (gB s t).1
   |_=>exact .of_pure ((gB s t).2 (by rw[hk];simp) (by rw[hk];simp))
 case load t x=>
  cases x with
  |tmp p=>
   have h:=rB (cx:=cx) (e:=e) o.dst t p;simp only;cases hnl:bh cx.ann.nl o.dst&&fc (e.get p)with
   |true=>exact .of_pure trivial
   |false=>
   simp only[DF];cases hz:bh cx.ann.fz o.dst with
   |true=>exact .of_stay (by unfold am;rw[ho];exact hz) (by unfold am;rw[ho]) (vt (h.1.imp fun _ g=>g.stay))
   |false=>exact⟨fun _=>h.1.imp fun _ g=>g.stay,fun _=>h.1,fun _ hr=>h.2 (by unfold am at hr;rw[ho]at hr;exact hr),fun _=>vO o.dst t p,fun hn=>by unfold am at hn;rw[ho]at hn;cases hn⟩
  |_=>exact .of_pure trivial
 case store t x y=>
  cases x with
  | tmp p=>
   cases hd:o.dst with
   |some d=>exact .of_pure trivial
   | none=>
    simp only;cases hlw:dB cx.ann.lw p with
    |false=>exact .of_stay (by unfold am;rw[ho];simp[hlw]) (by unfold am;rw[ho]) (by simp only[GJ,DF];exact rU t p y)
    |true=>
     cases hlo:fc (e.get p)with
     |false=>exact .of_pure trivial
     |true=>exact .of_pure (by simp only[E4,GG,DF];exact rT t p y hlo)
  |_=>exact .of_pure trivial
 case nilCheck x=>
  cases x with
  |tmp p=>
   simp only;split
   ·exact .of_pure trivial
   ·exact .of_pure (aQ.lft _)
  |_=>exact .of_pure trivial
 case fieldAddr t x i=>cases x<;>first|exact .of_pure (rk _ _ _)|exact .of_pure trivial
 case indexAddr t x i=>cases x<;>first|exact .of_pure (rr _ _ _)|exact .of_pure trivial
 case slice t x lo hi mx=>
  refine .of_pure (ba.cond (fun _=>?_) fun _=>aQ.lft _);unfold i8;split
  ·split
   ·trivial
   ·split
    ·exact ba.cond (fun _=>aQ.lft _) fun _=>trivial
    ·trivial
  ·trivial
 case makeMap t r=>exact .of_stay (by unfold am;rw[ho]) (by unfold am;rw[ho]) (ba.cond (fun _=>trivial) fun _=>ov)
 case lookup t x i ok=>exact .of_app (by unfold am;rw[ho]) (by unfold am;rw[ho]) ⟨tI _ _ _ _ _,rC _ _ _ _ _⟩
 case mapUpdate t m k x=>exact .of_stay (by unfold am;rw[ho]) (by unfold am;rw[ho]) (by unfold gQ;split;exact nB _ _ _ _ _;trivial)
 case insert t m k x=>exact .of_stay (by unfold am;rw[ho]) (by unfold am;rw[ho]) (by unfold gQ;split;exact nB _ _ _ _ _;trivial)
 case range t x=>exact .of_stay (by unfold am;rw[ho]) (by unfold am;rw[ho]) (qi _ _ _)
 case entry x=>exact .of_app (by unfold am;rw[ho]) (by unfold am;rw[ho]) ⟨ra _,pt _⟩
 case panic x=>
  refine .of_piv ?_ ?_ ?_
  ·unfold am;rw[ho]
  ·unfold am;rw[ho]
  ·intro hn;unfold am at hn;rw[ho]at hn;cases hn
 case call c=>exact qU hI ho
end
end Go.Av
namespace Go.Av
variable [Dr]
structure EqE (e e':Env):Prop where
 get:∀t,e'.get t=e.get t
 al:∀g,aA e'.al g=aA e.al g
 lb:∀B,aT e'.lb B=aT e.lb B
 lf:∀B,aK e'.sl B=aK e.sl B
omit [Dr]in
theorem EqE.refl(e:Env):EqE e e:=⟨fun _=>rfl,fun _=>rfl,fun _=>rfl,fun _=>rfl⟩
omit [Dr]in
theorem EqE.symm{e e':Env}(h:EqE e e'):EqE e' e:=⟨fun t=>(h.get t).symm,fun t=>(h.al t).symm,fun t=>(h.lb t).symm,fun t=>(h.lf t).symm⟩
omit [Dr]in
theorem EqE.trans{a b c:Env}(h:EqE a b)(g:EqE b c):EqE a c:=
 ⟨fun t=>(g.get t).trans (h.get t),fun t=>(g.al t).trans (h.al t),fun t=>(g.lb t).trans (h.lb t),fun t=>(g.lf t).trans (h.lf t)⟩
def RE:R Env->R Env->Prop
 |.fail,_=>True
 |.ok e h,r=>∃e',r= .ok e' h/\EqE e e'
 |.pan v h,r=>r= .pan v h
omit [Dr]in
theorem RE.refl(r:R Env):RE r r:=by
 cases r with
 |ok e h=>exact⟨e,rfl,.refl e⟩
 |pan v h=>exact rfl
 |fail=>trivial
omit [Dr]in
theorem RE.trans{a b c:R Env}(h:RE a b)(g:RE b c):RE a c:=by
 cases a with
 |ok e x=>
  obtain⟨e',rfl,h⟩:=h;obtain⟨e2,rfl,g⟩:=g;exact⟨e2,rfl,h.trans g⟩
 |pan v x=>cases h;exact g
 |fail=>trivial
omit [Dr]in
theorem fH(l r:List (Nat×Ent))(t:Nat):bd (l++r) t=if(∃x∈l,x.1=t)then bd l t else bd r t:=by
 induction l with
 |nil=>simp
 | cons x l ih=>
  obtain⟨k,y⟩:=x;rw[Eg,bm,bm];by_cases hk:k=t
  ·subst hk;simp
  ·rw[if_neg hk,if_neg hk,ih];have:(∃x∈(k,y):: l,x.1=t)↔(∃x∈l,x.1=t):=by
    simp only[DX,exists_eq_or_imp];constructor
    ·rintro (h|h)
     ·exact absurd h hk
     ·exact h
    ·exact .inr
   simp only[this]
omit [Dr]in
theorem lL{l:List (Nat×Ent)}(r:List (Nat×Ent)){t:Nat}(h:∀x∈l,x.1≠t):bd (l++r) t=bd r t:=by
 rw[fH,if_neg];rintro⟨x,hx,ht⟩;exact h x hx ht
omit [Dr]in
theorem fI(d:Option Tmp)(x:Ent)(r:List (Nat×Ent))(t:Nat):bd (mq d x r) t=if d=some t then x else bd r t:=by
 cases d with
 |none=>simp[mq]
 |some s=>simp only[mq,bm,Dw]
omit [Dr]in
theorem kh{l r s:List (Nat×Ent)}{t:Nat}(h:bd r t=bd s t):bd (l++r) t=bd (l++s) t:=by
 rw[fH,fH,h]
omit [Dr]in
theorem ez(l r:List (Nat×Ent))(B:Nat):aK (l++r) B=(aK l B&&aK r B):=by
 unfold aK;rw[List.all_append]
def iK(x:Ent)(B:Nat):Bool:=match x.v with
 |.loc C _=>!(Nat.beq C B)
 |.val _=>true
omit [Dr]in
theorem cZ(d:Option Tmp)(x:Ent)(r:List (Nat×Ent))(B:Nat):aK (mq d x r) B=((d.isNone||iK x B)&&aK r B):=by
 cases d with
 |none=>simp[mq]
 |some t=>rfl
omit [Dr]in
theorem iX{l:List (Nat×Ent)}{B t C off:Nat}(h:aK l B=true)(ht:(bd l t).v= .loc C off):C≠B:=by
 induction l with
 |nil=>simp[bd,Ent.none]at ht
 | cons x l ih=>
  obtain⟨k,y⟩:=x;rw[bm]at ht;simp only[aK,ES,Dy]at h;split at ht
  ·rw[ht]at h;have h1:=h.1;simp only[Er]at h1;intro hc;rw[hc,Gq]at h1;cases h1
  ·exact ih (by unfold aK;exact h.2) ht
omit [Dr]in
theorem cY(l r:List (Nat×Option Nat))(g:Nat):aA (l++r) g=(match aA l g with|some z=>some z|none=>aA r g):=by
 induction l with
 |nil=>rfl
 |cons x l ih=>
  obtain⟨k,y⟩:=x;rw[Eg,bg,bg];split
  ·rfl
  ·exact ih
omit [Dr]in
theorem jW{l:List (Nat×Option Nat)}{k g:Nat}(h:∀x∈l,x.1=k)(hg:g≠k):aA l g=none:=by
 induction l with
 |nil=>rfl
 | cons x l ih=>
  obtain⟨j,y⟩:=x;rw[bg,if_neg]
  ·exact ih fun x hx=>h x (by simp[hx])
  ·have:=h (j,y) (by simp)
   simp at this;omega
omit [Dr]in
theorem iW(r:List (Nat×Nat))(k B:Nat):aT (ib r k) B=if k=B then none else aT r B:=by
 induction r with
 |nil=>simp[ib,aT]
 | cons x r ih=>
  obtain⟨j,y⟩:=x;simp only[ib];by_cases hj:j=k
  ·subst hj;simp only[Gq,Dx,ih,cI];split<;>rfl
  ·have:Nat.beq j k=false:=by rw[EL];intro hh;exact hj (DC hh)
   simp only[this,DF,cI,ih];by_cases hg:j=B
   ·subst hg;rw[DG rfl,if_neg (fun h=>hj h.symm),DG rfl]
   ·rw[if_neg hg,if_neg hg]
omit [Dr]in
theorem EqE.upd{e e':Env}(h:EqE e e')(d:Option Tmp)(u:Upd):EqE (e.upd d u) (e'.upd d u):=by
 refine⟨fun t=>?_,fun g=>?_,fun B=>?_,fun B=>?_⟩
 ·show bd (mq d u.ent (u.ls++e'.sl)) t=bd (mq d u.ent (u.ls++e.sl)) t;rw[fI,fI,kh (h.get t)]
 ·show aA (u.add++cV e'.al u.drop) g=aA (u.add++cV e.al u.drop) g;have:aA (cV e'.al u.drop) g=aA (cV e.al u.drop) g:=by
   cases u.drop with
   |none=>exact h.al g
   |some k=>simp only[cV,gA,h.al g]
  rw[cY,cY,this]
 ·show aT (im (cL e'.lb u.unlb) u.lb) B=aT (im (cL e.lb u.unlb) u.lb) B;have:aT (cL e'.lb u.unlb) B=aT (cL e.lb u.unlb) B:=by
   cases u.unlb with
   |none=>exact h.lb B
   |some k=>simp only[cL,iW,h.lb B]
  cases u.lb with
  |none=>exact this
  |some x=>
   obtain⟨k,n⟩:=x;simp only[im,cI,this]
 ·show aK (mq d u.ent (u.ls++e'.sl)) B=aK (mq d u.ent (u.ls++e.sl)) B;rw[cZ,cZ,ez,ez,h.lf B]
section
variable {cx:Cx} {ops:Array Oper} {base:Nat}
def df(ops:Array Oper)(o:Oper):List Nat:=match o.guard with
 |some (j,_)=>(match (ops[j]?).bind (·.dst)with|some t=>[t]|none=>[])
 |none=>[]
omit [Dr]in
theorem d9{i:Nat}{o:Oper}(ho:ops[i]? = some o):bQ ops i=df ops o++fA o:=by
 unfold bQ df;rw[ho];rfl
omit [Dr]in
theorem dX{e e':Env}{i:Nat}{o:Oper}(ho:ops[i]? = some o)(hg:∀t∈df ops o,e'.get t=e.get t)(A:Agree cx o e e'){h:Hp}(hr:dn cx base ops i e h≠.fail):dn cx base ops i e' h=dn cx base ops i e h:=by
 unfold dn at hr |-;rw[ho]at hr;rw[ho];simp only at hr |-;have key:∀ {A':Act1->Act1} ,(∀h,cG (A' .bad) h= .fail)->cG (A' (dP cx e ((base+i)*1000) o)) h≠.fail->cG (A' (dP cx e' ((base+i)*1000) o)) h=cG (A' (dP cx e ((base+i)*1000) o)) h:=by
  intro A' h1 h2;rw[tP A];intro hb;rw[hb]at h2;exact h2 (h1 h)
 cases hgd:o.guard with
 |none=>
  rw[hgd]at hr;exact key (A':=id) (fun _=>rfl) hr
 | some g=>
  obtain⟨j,want⟩:=g;rw[hgd]at hr;simp only at hr |-;cases hdj:cm ops j with
  |none=>rfl
  | some t=>
   rw[hdj]at hr;simp only at hr |-;cases hpl:di cx o with
   |false=>rfl
   | true=>
    rw[hpl]at hr;simp only[Dx]at hr |-;have ht:e'.get t=e.get t:=hg t (by unfold df;rw[hgd];simp only;rw[show (ops[j]?).bind (·.dst)=some t from hdj];simp);have hav:e'.av t=e.av t:=by simp only[Env.av,ht]
    rw[hav];cases hq:e.av t with
    | bool b=>
     rw[hq]at hr;simp only[gm]at hr |-;cases hb:(b== want)with
     |false=>rfl
     |true=>
      rw[hb]at hr;exact key (A':=eI) (fun _=>rfl) hr
    |tup vs=>cases vs<;>rfl
    |_=>rfl
omit [Dr]in
theorem EqE.agree{e e':Env}(h:EqE e e')(o:Oper):Agree cx o e e':=
 ⟨fun t _=>h.get t,fun _=>⟨fun t _=>h.get t,h.lb⟩,fun _=>h.al,fun _ s _ hl=>by rw[h.lf];exact hl⟩
omit [Dr]in
theorem qz{e e':Env}(h:EqE e e')(i:Nat)(x:Hp):RE (stepG cx base ops i e x) (stepG cx base ops i e' x):=by
 unfold stepG;simp only[af,M.pure];cases hr:dn cx base ops i e x with
 |fail=>trivial
 | _=>
  have ho:∃o,ops[i]? = some o:=by
   cases ho:ops[i]? with
   |none=>unfold dn at hr;rw[ho]at hr;cases hr
   |some o=>exact⟨o,rfl⟩
  obtain⟨o,ho⟩:=ho;rw[dX ho (fun t _=>h.get t) (h.agree o) (by rw[hr];simp),hr]
  first
   |exact⟨_,rfl,h.upd _ _⟩
   |exact rfl
omit [Dr]in
theorem RE.bind{m m':M Env}{x x':Hp}(h:RE (m x) (m' x')){f f':Env->M Env}(hf:∀e e' x,EqE e e'->RE (f e x) (f' e' x)):RE (af m f x) (af m' f' x'):=by
 simp only[af];revert h;generalize m x=r;generalize m' x'=r';intro h;cases r with
 |ok e x=>obtain⟨e',rfl,h⟩:=h;exact hf e e' x h
 |pan v x=>cases h;exact rfl
 |fail=>trivial
omit [Dr]in
theorem jg:∀(l:List Nat){e e':Env}(_:EqE e e')(x:Hp),RE (aI cx base ops l e x) (aI cx base ops l e' x)
 |[],e,e',h,x=>⟨e',rfl,h⟩
 |i:: l,e,e',h,x=>by
  exact RE.bind (qz h i x) fun e e' x h=>jg l h x
end
end Go.Av
namespace Go.Av
variable [Dr]
omit [Dr]in
theorem p9{l:List Nat}{t:Nat}(h:t∈l):dB l t=true:=(eA l t).2 h
omit [Dr]in
theorem iZ{l:List Nat}{d:Option Nat}(h:bh l d=false):∀t∈l,d≠some t:=by
 intro t ht hd;rw[hd]at h;simp only[bh]at h;rw[p9 ht]at h;cases h
omit [Dr]in
theorem jL{a b:Option Nat}(h:clash a b=false):∀t,a=some t->b≠some t:=by
 intro t ha hb;rw[ha,hb]at h;simp[clash]at h
section
variable {cx:Cx} {ops:Array Oper} {base:Nat} {e:Env}
omit [Dr]in
theorem oL{gid:Nat}{f:Foot}{ss:Option Nat}{u:Upd}(h:Shape e gid f ss u):Shape e gid f ss (eg u):=
 ⟨fun _=>rfl,fun _=>rfl,fun _=>rfl,fun _ x h=>by simp[eg]at h,fun _=>rfl,fun _=>rfl,fun hw C off hh=>h.loc hw C off hh,fun x h=>by simp[eg]at h⟩
omit [Dr]in
theorem rV{p q:Upd->Prop}(hpq:∀u,p u->q (eg u)){A:Act1}(h:bu p A):bu q (eI A):=by
 cases A with
 |bad=>trivial
 |stat u=>exact hpq _ h
 |dyn m sh=>exact fun v=>hpq _ (h v)
 |thr v=>trivial
omit [Dr]in
theorem wD{p:∀ {α:Type},M α->Prop}{A:Act1}(h:ba p A):ba p (eI A):=by
 cases A<;>exact h
omit [Dr]in
theorem kO{i:Nat}{o:Oper}(ho:ops[i]? = some o){h h':Hp}{u:Upd}(hr:dn cx base ops i e h= .ok u h'):Shape e ((base+i)*1000) (am cx o) (br o) u:=by
 unfold dn at hr;rw[ho]at hr;simp only at hr;cases hgd:o.guard with
 |none=>rw[hgd]at hr;exact gU (gY _ _ _ _) hr
 | some g=>
  obtain⟨j,want⟩:=g;rw[hgd]at hr;simp only at hr;cases hdj:cm ops j with
  |none=>rw[hdj]at hr;cases hr
  | some t=>
   rw[hdj]at hr;simp only at hr;cases hpl:di cx o with
   |false=>rw[hpl]at hr;cases hr
   | true=>
    rw[hpl]at hr;simp only[Dx]at hr;have h0:∀ {h h':Hp},(M.pure (Upd.ofV (.tup [])):M Upd) h= .ok u h'->Shape e ((base+i)*1000) (am cx o) (br o) u:=by
     intro h h' hh;cases hh;exact Shape.ofV ..
    generalize e.av t=q at hr;cases q with
    |bool b=>
     simp only[gm]at hr;cases hb:(b== want)with
     |false=>rw[hb]at hr;exact h0 hr
     |true=>rw[hb]at hr;exact gU (rV (fun u=>oL) (gY _ _ _ _)) hr
    |tup vs=>
     cases vs with
     |nil=>exact h0 hr
     |cons v vs=>cases hr
    |_=>cases hr
omit [Dr]in
theorem r5{p:∀ {α:Type},M α->Prop}(h1:∀ {α:Type} (m:M α),aQ m->p m)(h2:∀ {α β:Type} (m:M α) (f:α->β),p m->p (af m fun v=>M.pure (f v))){A:Act1}(h:ba p A):p (cG A):=by
 cases A with
 |bad=>exact h1 _ aQ.fail
 |stat u=>exact h1 _ (aQ.pure u)
 |dyn m sh=>exact h2 _ _ h
 |thr v=>exact h.elim
omit [Dr]in
theorem fS{p:∀ {α:Type},M α->Prop}(h1:∀ {α:Type} (m:M α),aQ m->p m)(h2:∀ {α β:Type} (m:M α) (f:α->β),p m->p (af m fun v=>M.pure (f v))){i:Nat}{o:Oper}(ho:ops[i]? = some o)(h:ba p (dP cx e ((base+i)*1000) o)):p (dn cx base ops i e):=by
 unfold dn;rw[ho];simp only;cases hgd:o.guard with
 |none=>exact r5 h1 h2 h
 | some g=>
  obtain⟨j,want⟩:=g;simp only;cases hdj:cm ops j with
  |none=>exact h1 _ aQ.fail
  | some t=>
   simp only;cases hpl:di cx o with
   |false=>exact h1 _ aQ.fail
   | true=>
    simp only[Dx];unfold gm;split
    ·rename_i b _;cases hb:(b== want)with
     |false=>exact h1 _ (aQ.pure _)
     |true=>exact r5 h1 h2 (wD h)
    ·exact h1 _ (aQ.pure _)
    ·exact h1 _ aQ.fail
structure Small (ops:Array Oper):Prop where
 dst:∀(i:Nat)(o:Oper),ops[i]? = some o->∀t,o.dst=some t->t<1000
 src:∀(i:Nat)(o:Oper),ops[i]? = some o->∀t∈fA o,t<1000
omit [Dr]in
theorem Small.reads(hS:Small ops){i:Nat}{o:Oper}(ho:ops[i]? = some o):∀t∈bQ ops i,t<1000:=by
 intro t ht;rw[d9 ho,Ed]at ht;rcases ht with ht|ht
 ·unfold df at ht;split at ht
  ·rename_i j _ _;cases hj:ops[j]? with
   |none=>rw[hj]at ht;simp at ht
   |some oj=>
    rw[hj]at ht;simp only[Fh]at ht;cases hd:oj.dst with
    |none=>rw[hd]at ht;simp at ht
    |some s=>rw[hd]at ht;simp at ht;rw[ht];exact hS.dst j oj hj s hd
  ·simp at ht
 ·exact hS.src i o ho t ht
omit [Dr]in
theorem jF{gid:Nat}{x:Foot}{ss:Option Nat}{u:Upd}{d:Option Tmp}(hsh:Shape e gid x ss u){t:Nat}(h1:d≠some t)(h2:ss≠some t)(h3:t<1000):(e.upd d u).get t=e.get t:=by
 rw[bA,if_neg h1];refine lL _ fun y hy hyt=>?_;rcases hsh.keys y hy with h|h
 ·omega
 ·exact h2 (by rw[h,hyt])
omit [Dr]in
theorem vw{gid:Nat}{x:Foot}{ss:Option Nat}{u:Upd}{d:Option Tmp}(hsh:Shape e gid x ss u)(hw:x.wl=false){t:Nat}(h1:d≠some t):(e.upd d u).get t=e.get t:=by
 rw[bA,if_neg h1,hsh.ls hw];rfl
omit [Dr]in
theorem mL{gid:Nat}{x:Foot}{ss:Option Nat}{u:Upd}{d:Option Tmp}{o:Oper}(hsh:Shape e gid x ss u)(hd:∀t,d=some t->t<1000)(hops:∀t∈fA o,d≠some t/\ss≠some t/\t<1000)(hloc:((am cx o).rl||(am cx o).wl)=true->x.wl=false)(hal:(am cx o).dr=true->x.ad=false/\x.dr=false):Agree cx o e (e.upd d u):=by
 refine⟨fun t ht=>jF hsh (hops t ht).1 (hops t ht).2.1 (hops t ht).2.2,fun h=>⟨fun t ht=>vw hsh (hloc h) (fun hh=>Nat.not_lt.2 ht (hd t hh)),fun B=>?_⟩,fun h g=>?_,fun h s _ hl=>?_⟩
 ·show aT (im (cL e.lb u.unlb) u.lb) B=aT e.lb B;rw[hsh.lb (hloc h),hsh.unlb (hloc h)];rfl
 ·show aA (u.add++cV e.al u.drop) g=aA e.al g;rw[hsh.noad (hal h).1,hsh.nodr (hal h).2];rfl
 ·have hw:=hloc (by rw[h];simp);show aK (mq d u.ent (u.ls++e.sl)) (aR s)=true;rw[hsh.ls hw,cZ,Ez,hl,Gj];have:iK u.ent (aR s)=true:=by
   unfold iK;split
   ·rename_i C off hv;obtain⟨t,off',ht⟩:=hsh.loc hw C off hv
    have:=iX hl ht
    rw[Er,EL];intro hh;exact this (DC hh)
   ·rfl
  rw[this,Bool.or_true]
omit [Dr]in
theorem sU{gid:Nat}{x:Foot}{ss:Option Nat}{u:Upd}{d:Option Tmp}{o:Oper}(hsh:Shape e gid x ss u)(hd:∀t,d=some t->t<1000)(hops:∀t∈fA o,d≠some t/\ss≠some t/\t<1000)(hloc:((am cx o).rl||(am cx o).wl)=true->x.wl=false)(hal:(am cx o).dr=true->x.ad=false/\x.dr=false):Agree cx o (e.upd d u) e:=by
 have A:=mL (cx:=cx) hsh hd hops hloc hal;refine⟨fun t ht=>(A.ops t ht).symm,fun h=>⟨fun t ht=>((A.loc h).1 t ht).symm,fun B=>((A.loc h).2 B).symm⟩,fun h g=>(A.al h g).symm,fun _ s _ hl=>?_⟩;have hl':aK (mq d u.ent (u.ls++e.sl)) (aR s)=true:=hl;rw[cZ,ez]at hl';simp only[Dy]at hl';exact hl'.2.2
omit [Dr]in
theorem qF{gi gj:Nat}{x y:Foot}{si sj:Option Nat}{u v:Upd}{d f:Option Tmp}(hu:Shape e gi x si u)(hv:Shape e gj y sj v)(hy:y.wl=false)(hf:∀t,f=some t->t<1000)(hdf:∀t,d=some t->f≠some t)(hsf:∀t,si=some t->f≠some t)(hg:gi≠gj)(h1:x.dr=true->y.dr=false/\y.ad=false)(h2:x.ad=true->y.dr=false)(h3:x.ad=true->y.ad=true->x.wl=false):EqE ((e.upd d u).upd f v) ((e.upd f v).upd d u):=by
 have e1:=hv.ls hy;have e2:=hv.lb hy;have e3:=hv.unlb hy;refine⟨fun t=>?_,fun g=>?_,fun B=>?_,fun B=>?_⟩
 ·rw[bA,bA,e1];show (if d=some t then u.ent else bd (u.ls++mq f v.ent (v.ls++e.sl)) t)=if f=some t then v.ent else bd (mq d u.ent (u.ls++e.sl)) t;rw[e1,fI,Ez];by_cases hft:f=some t
  ·rw[DG hft,if_neg (fun h=>hdf t h hft),lL,fI,DG hft];intro z hz hzt;rcases hu.keys z hz with h|h
   ·exact Nat.not_lt.2 h (by rw[hzt];exact hf t hft)
   ·exact hsf z.1 h (by rw[hzt];exact hft)
  ·rw[if_neg hft];split
   ·rfl
   ·exact kh (by rw[fI,if_neg hft])
 ·show aA (u.add++cV (v.add++cV e.al v.drop) u.drop) g=aA (v.add++cV (u.add++cV e.al u.drop) v.drop) g;cases hxd:x.dr with
  |true=>
   obtain⟨h4,h5⟩:=h1 hxd;rw[hv.noad h5,hv.nodr h4];rfl
  | false=>
   rw[hu.nodr hxd];cases hxa:x.ad with
   |false=>rw[hu.noad hxa];rfl
   | true=>
    rw[hv.nodr (h2 hxa)];cases hya:y.ad with
    |false=>rw[hv.noad hya];rfl
    |true=>
     have k1:=hu.add (h3 hxa hya);have k2:=hv.add hy;show aA (u.add++(v.add++e.al)) g=aA (v.add++(u.add++e.al)) g;rw[cY,cY,cY,cY];by_cases hgi:g=gi
     ·rw[jW k2 (by omega)]
     ·rw[jW k1 hgi]
 ·show aT (im (cL (im (cL e.lb v.unlb) v.lb) u.unlb) u.lb) B=aT (im (cL (im (cL e.lb u.unlb) u.lb) v.unlb) v.lb) B;rw[e2,e3];rfl
 ·show aK (mq d u.ent (u.ls++mq f v.ent (v.ls++e.sl))) B=aK (mq f v.ent (v.ls++mq d u.ent (u.ls++e.sl))) B;simp only[cZ,ez]
  ac_rfl
end
end Go.Av
namespace Go.Av
variable [Dr]
section
variable {cx:Cx} {ops:Array Oper} {base:Nat}
structure Ind (cx:Cx) (ops:Array Oper) (i j:Nat) (a b:Oper):Prop where
 ha:ops[i]? = some a
 hb:ops[j]? = some b
 piv:(am cx a).piv=false
 l1:(am cx a).wl=true->(am cx b).rl=false/\(am cx b).wl=false
 l2:(am cx a).rl=true->(am cx b).wl=false
 h1:(am cx a).wh=true->(am cx b).rh=false/\(am cx b).wh=false
 h2:(am cx a).rh=true->(am cx b).wh=false\/(am cx b).nw=true
 g1:(am cx a).dr=true->(am cx b).dr=false/\(am cx b).ad=false
 g2:(am cx a).ad=true->(am cx b).dr=false
 g3:(am cx a).ad=true->(am cx b).ad=true->(am cx a).wl=false/\(am cx b).wl=false
 r1:∀t∈bQ ops j,a.dst≠some t
 r2:∀t∈bQ ops i,b.dst≠some t
 s1:∀t∈bQ ops j,br a≠some t
 s2:∀t∈bQ ops i,br b≠some t
 c1:∀t,br a=some t->b.dst≠some t
 c2:∀t,a.dst=some t->br b≠some t
 c3:∀t,a.dst=some t->b.dst≠some t
omit [Dr]in
theorem tA{i j:Nat}(h:iS cx ops i j=true):∃a b,Ind cx ops i j a b:=by
 unfold iS at h;split at h
 ·rename_i a b ha hb;refine⟨a,b,?_⟩;simp only[Dy,Er]at h;obtain⟨⟨⟨⟨⟨⟨⟨⟨⟨⟨⟨⟨⟨⟨k1,k2⟩,k3⟩,k4⟩,k5⟩,k6⟩,k7⟩,k8⟩,k9⟩,k10⟩,k11⟩,k12⟩,k13⟩,k14⟩,k15⟩:=h;refine⟨ha,hb,k1,fun q=>?_,fun q=>?_,fun q=>?_,fun q=>?_,fun q=>?_,fun q=>?_,fun q q'=>?_,iZ k9,iZ k10,iZ k11,iZ k12,jL k13,jL k14,jL k15⟩
  ·rw[q]at k2;simpa using k2
  ·rw[q]at k3;simpa using k3
  ·rw[q]at k4;simpa using k4
  ·rw[q]at k5;simp only[E5]at k5;cases hb:(am cx b).wh<;>simp_all
  ·rw[q]at k6;simpa using k6
  ·rw[q]at k7;simpa using k7
  ·rw[q,q']at k8;simpa using k8
 ·cases h
omit [Dr]in
theorem swap(hI:IsoPure cx)(hS:Small ops){i j:Nat}(hij:iS cx ops i j=true)(hne:i≠j)(e:Env)(h:Hp):
  RE (af (stepG cx base ops i e) (stepG cx base ops j) h) (af (stepG cx base ops j e) (stepG cx base ops i) h):=by
 obtain⟨a,b,I⟩:=tA hij;have hda:cm ops i=a.dst:=by simp[cm,I.ha]
 have hdb:cm ops j=b.dst:=by simp[cm,I.hb]
 unfold stepG;rw[hda,hdb];simp only[af,M.pure];cases hri:dn cx base ops i e h with
 |fail=>trivial
 |pan v h'=>exact absurd hri (fS (p:=@cU) (fun _ g=>g.read.stay) (fun _ f g=>g.bnd f) I.ha ((dh hI e _ a).stay I.piv) h v h')
 | ok u h1=>
  simp only;have shu:=kO I.ha hri;have hra:=d9 (ops:=ops) I.ha;have hrb:=d9 (ops:=ops) I.hb;have hbo:∀t∈fA b,a.dst≠some t/\br a≠some t/\t<1000:=fun t ht=>⟨I.r1 t (by rw[hrb];simp[ht]),I.s1 t (by rw[hrb];simp[ht]),hS.src j b I.hb t ht⟩;have hao:∀t∈fA a,b.dst≠some t/\br b≠some t/\t<1000:=fun t ht=>⟨I.r2 t (by rw[hra];simp[ht]),I.s2 t (by rw[hra];simp[ht]),hS.src i a I.ha t ht⟩;have Abwd:Agree cx b (e.upd a.dst u) e:=sU shu (hS.dst i a I.ha) hbo (fun q=>by
   cases hw:(am cx a).wl with
   |false=>rfl
   |true=>obtain⟨q1,q2⟩:=I.l1 hw;rw[q1,q2]at q;cases q) (fun q=>by
   constructor
   ·cases hw:(am cx a).ad with
    |false=>rfl
    |true=>have:=I.g2 hw;rw[this]at q;cases q
   ·cases hw:(am cx a).dr with
    |false=>rfl
    |true=>have:=(I.g1 hw).1;rw[this]at q;cases q)
  have hgb:∀t∈df ops b,e.get t=(e.upd a.dst u).get t:=fun t ht=>by
   have htr:t∈bQ ops j:=by rw[hrb];simp[ht]
   exact (jF shu (I.r1 t htr) (I.s1 t htr) (hS.reads I.hb t htr)).symm
  -- the second, after the first
  cases hrj:dn cx base ops j (e.upd a.dst u) h1 with
  |fail=>trivial
  | pan v h2=>
   have hj:=dX (base:=base) I.hb hgb Abwd (h:=h1) (by rw[hrj];simp);rw[hrj]at hj
   -- j leaves: so it may write, and i did not touch the heap
   have hwb:(am cx b).wh=true:=by
    cases hw:(am cx b).wh with
    |true=>rfl
    |false=>exact absurd hj ((fS (p:=@cz) (fun _ g=>g.read) (fun _ f g=>g.bnd f) I.hb ((dh hI e _ b).read hw)).stay _ _ _)
   have hwa:(am cx a).wh=false:=by
    cases hw:(am cx a).wh with
    |false=>rfl
    |true=>have:=(I.h1 hw).2;rw[this]at hwb;cases hwb
   have hh:h1=h:=by
    have hR:cz (dn cx base ops i e):=fS (p:=@cz) (fun _ g=>g.read) (fun _ f g=>g.bnd f) I.ha ((dh hI e _ a).read hwa);rcases hR h with hx|⟨u',hx⟩<;>rw[hri]at hx<;>cases hx;rfl
   subst hh;rw[hj];exact rfl
  | ok v h2=>
   have hj:=dX (base:=base) I.hb hgb Abwd (h:=h1) (by rw[hrj];simp);rw[hrj]at hj;have shv:=kO I.hb hj;have Afwd:Agree cx a e (e.upd b.dst v):=mL shv (hS.dst j b I.hb) hao (fun q=>by
    cases hw:(am cx b).wl with
    |false=>rfl
    | true=>
     exfalso;cases hrl:(am cx a).rl with
     |true=>have:=I.l2 hrl;rw[this]at hw;cases hw
     |false=>
      rw[hrl]at q;have hwl:(am cx a).wl=true:=by simpa using q
      have:=(I.l1 hwl).2
      rw[this]at hw;cases hw) (fun q=>⟨(I.g1 q).2,(I.g1 q).1⟩)
   have hga:∀t∈df ops a,(e.upd b.dst v).get t=e.get t:=fun t ht=>by
    have htr:t∈bQ ops i:=by rw[hra];simp[ht]
    exact jF shv (I.r2 t htr) (I.s2 t htr) (hS.reads I.ha t htr)
   have hcomm:EqE ((e.upd a.dst u).upd b.dst v) ((e.upd b.dst v).upd a.dst u):=by
    have hgij:(base+i)*1000≠(base+j)*1000:=by omega
    cases hwb:(am cx b).wl with
    |false=>
     exact qF shu shv hwb (hS.dst j b I.hb) I.c3 I.c1 hgij I.g1 I.g2 (fun q q'=>(I.g3 q q').1)
    | true=>
     have hwa:(am cx a).wl=false:=by
      cases hw:(am cx a).wl with
      |false=>rfl
      |true=>have:=(I.l1 hw).2;rw[this]at hwb;cases hwb
     refine (qF shv shu hwa (hS.dst i a I.ha) (fun t ht hh=>I.c3 t hh ht) (fun t ht hh=>I.c2 t hh ht) (GH hgij) (fun q=>⟨?_,?_⟩) (fun q=>?_) (fun q q'=>?_)).symm
     ·cases hw:(am cx a).dr with
      |false=>rfl
      |true=>have:=(I.g1 hw).1;rw[this]at q;cases q
     ·cases hw:(am cx a).ad with
      |false=>rfl
      |true=>have:=I.g2 hw;rw[this]at q;cases q
     ·cases hw:(am cx a).dr with
      |false=>rfl
      |true=>have:=(I.g1 hw).2;rw[this]at q;cases q
     ·have:=(I.g3 q' q).2;rw[this]at hwb;cases hwb
   cases hwa:(am cx a).wh with
   | false=>
    have hR:cz (dn cx base ops i e):=fS (p:=@cz) (fun _ g=>g.read) (fun _ f g=>g.bnd f) I.ha ((dh hI e _ a).read hwa);have hh:h1=h:=by
     rcases hR h with hx|⟨u',hx⟩<;>rw[hri]at hx<;>cases hx;rfl
    subst hh;rw[hj];simp only;have hi2:dn cx base ops i e h2= .ok u h2:=by
     cases hra':(am cx a).rh with
     |false=>
      obtain⟨q,hq⟩:aQ (dn cx base ops i e):=fS (p:=@aQ) (fun _ g=>g) (fun _ f g=>g.bnd f) I.ha ((dh hI e _ a).pure hwa hra');rw[hq]at hri |-;cases q with
      |none=>cases hri
      |some u'=>cases hri;rfl
     | true=>
      rcases I.h2 hra' with hwb|hnw
      case inr=>
       have hNw:qG (dn cx base ops j e):=fS (p:=@qG) (fun _ g=>g.nw) (fun _ f g=>g.bnd f) I.hb ((dh hI e _ b).nw hnw);have hAp:hJ (dn cx base ops i e)/\cz (dn cx base ops i e):=fS (p:=fun m=>hJ m/\cz m) (fun _ g=>⟨g.app,g.read⟩) (fun _ f g=>hJ.bnd g f) I.ha ((dh hI e _ a).app hwa);obtain⟨t,rfl⟩:=hNw _ _ _ hj;exact hAp.1 _ t _ hri
      have hRb:cz (dn cx base ops j e):=fS (p:=@cz) (fun _ g=>g.read) (fun _ f g=>g.bnd f) I.hb ((dh hI e _ b).read hwb);rcases hRb h1 with hx|⟨u',hx⟩<;>rw[hj]at hx<;>cases hx;exact hri
    rw[dX I.ha hga Afwd (by rw[hi2];simp),hi2];exact⟨_,rfl,hcomm⟩
   | true=>
    obtain⟨hrb',hwb⟩:=I.h1 hwa;obtain⟨q,hq⟩:aQ (dn cx base ops j e):=fS (p:=@aQ) (fun _ g=>g) (fun _ f g=>g.bnd f) I.hb ((dh hI e _ b).pure hwb hrb');rw[hq]at hj |-;cases q with
    |none=>cases hj
    |some u'=>
     cases hj;simp only[ah];rw[dX I.ha hga Afwd (by rw[hri];simp),hri];exact⟨_,rfl,hcomm⟩
omit [Dr]in
theorem yw(hI:IsoPure cx)(hS:Small ops){i:Nat}(q:List Nat):∀(p:List Nat),(∀x∈p,iS cx ops x i=true/\x≠i)->∀(e:Env)(h:Hp),RE (aI cx base ops (p++i:: q) e h) (aI cx base ops (i:: (p++q)) e h)
 |[],_,e,h=>RE.refl _
 | x:: p,hp,e,h=>by
  have ih:=fun e h=>yw hI hS q p (fun y hy=>hp y (by simp[hy])) e h;have h1:RE (aI cx base ops (x:: (p++i:: q)) e h) (aI cx base ops (x:: i:: (p++q)) e h):=by
   simp only[aI,af]at ih |-;cases stepG cx base ops x e h with
   |ok e' h'=>exact ih e' h'
   |pan v h'=>exact rfl
   |fail=>trivial
  refine h1.trans ?_;have e1:aI cx base ops (x:: i:: (p++q)) e=af (af (stepG cx base ops x e) (stepG cx base ops i)) (aI cx base ops (p++q)):=by rw[ek];rfl
  have e2:aI cx base ops (i:: x:: (p++q)) e=af (af (stepG cx base ops i e) (stepG cx base ops x)) (aI cx base ops (p++q)):=by rw[ek];rfl
  show RE (aI cx base ops (x:: i:: (p++q)) e h) (aI cx base ops (i:: x:: (p++q)) e h);rw[e1,e2];exact RE.bind (swap hI hS (hp x (by simp)).1 (hp x (by simp)).2 e h) fun e e' x h=>jg _ h x
end
end Go.Av
namespace Go.Av
variable [Dr]
omit [Dr]in
theorem wm{a b:Option (Nat×Bool)}(h:sN a b=true):a=b:=by
 unfold sN at h;split at h
 ·rfl
 ·simp only[Dy,EU]at h;rw[DC h.1,h.2]
 ·cases h
def eK(gs:List (Option (Nat×Bool)×List Nat)):List Nat:=gs.flatMap (·.2)
omit [Dr]in
theorem fv(ops:Array Oper):∀l:List Nat,eK (cn ops l)=l/\∀g∈cn ops l,∀i∈g.2,guardOf ops i=g.1
 |[]=>⟨rfl,by simp[cn]⟩
 | i :: is=>by
  obtain⟨h1,h2⟩:=fv ops is;simp only[cn];cases hg:cn ops is with
  |nil=>
   rw[hg]at h1;have:is=[]:=by simpa [eK]using h1.symm
   subst this;exact⟨rfl,by simp⟩
  | cons x r=>
   obtain⟨g,js⟩:=x;rw[hg]at h1 h2;simp only;cases hs:sN (guardOf ops i) g with
   | true=>
    refine⟨?_,fun y hy=>?_⟩
    ·simp only[Dx,eK,Ft,Eg]at h1 |-;rw[h1]
    ·simp only[Dx,DX]at hy;rcases hy with rfl|hy
     ·intro k hk;simp only[DX]at hk;rcases hk with rfl|hk
      ·exact wm hs
      ·exact h2 (g,js) (by simp) k hk
     ·exact h2 y (by simp[hy])
   | false=>
    refine⟨?_,fun y hy=>?_⟩
    ·simp only[DF,eK,Ft,Eg,Ez]at h1 |-;rw[h1]
    ·simp only[DF,DX]at hy;rcases hy with rfl|rfl|hy
     ·intro k hk;simp only[FL]at hk;subst hk;rfl
     ·exact h2 (g,js) (by simp)
     ·exact h2 y (by simp[hy])
omit [Dr]in
theorem pu{ρ:Type}(e:Env)(d:Option Tmp)(A:Act1)(k:Env->M ρ):iM e d A k=af (cG A) fun u=>k (e.upd d u):=by
 cases A with
 |bad=>rfl
 |stat u=>rfl
 |dyn m sh=>simp only[iM,cG,ek,aX]
 |thr v=>rfl
omit [Dr]in
theorem s4{α β:Type}{m:M α}{f g:α->M β}{h:Hp}(hfg:∀u h',m h= .ok u h'->f u h'=g u h'):af m f h=af m g h:=by
 simp only[af];cases hm:m h with
 |ok u h'=>exact hfg u h' hm
 |pan v h'=>rfl
 |fail=>rfl
section
variable {cx:Cx} {ops:Array Oper} {base:Nat}
omit [Dr]in
theorem sT{i:Nat}{o:Oper}(ho:ops[i]? = some o)(hg:guardOf ops i=none)(e:Env):dn cx base ops i e=cG (dP cx e ((base+i)*1000) o):=by
 have:o.guard=none:=by simpa [guardOf,ho]using hg
 unfold dn;rw[ho];simp only;rw[this]
omit [Dr]in
theorem jq{i j t:Nat}{want:Bool}{o:Oper}(ho:ops[i]? = some o)(hg:guardOf ops i=some (j,want))(hj:cm ops j=some t)(hp:di cx o=true)(e:Env):
  dn cx base ops i e=gm (e.av t) want (cG (eI (dP cx e ((base+i)*1000) o))):=by
 have:o.guard=some (j,want):=by simpa [guardOf,ho]using hg
 unfold dn;rw[ho];simp only;rw[this];simp only;rw[hj];simp only;rw[hp];rfl
omit [Dr]in
theorem qp{ρ:Type}:∀(is:List Nat)(e:Env)(k:Env->M ρ)(_:∀i∈is,guardOf ops i=none),fp cx base ops false is e k=af (aI cx base ops is e) k
 |[],e,k,_=>rfl
 | i:: is,e,k,hg=>by
  simp only[fp,aI];unfold stepG;cases ho:ops[i]? with
  |none=>unfold dn;rw[ho];rfl
  |some o=>
   simp only;rw[pu,sT ho (hg i (by simp)),ek,ek];have hd:cm ops i=o.dst:=by simp[cm,ho]
   rw[hd];congr 1;funext u;simp only[aX];exact qp is _ k fun j hj=>hg j (by simp[hj])
structure Turned (ds:List Nat) (e e':Env):Prop where
 get:∀t,t ∉ ds->e'.get t=e.get t
 al:e'.al=e.al
 lb:e'.lb=e.lb
 lf:∀B,aK e.sl B=true->aK e'.sl B=true
 ng:∀t∈ds,(e'.get t).g=none
omit [Dr]in
theorem Turned.step{ds:List Nat}{e e':Env}(H:Turned ds e e'){u:Upd}{d:Option Nat}(hls:u.ls=[])(hadd:u.add=[])(hdrop:u.drop=none)(hlb:u.lb=none)(hunlb:u.unlb=none)(hg:u.ent.g=none)(hloc:∀C off,u.ent.v= .loc C off->∃t off',(e'.get t).v= .loc C off'):Turned (d.toList++ds) e (e'.upd d u):=by
 have hget:∀t,(e'.upd d u).get t=if d=some t then u.ent else e'.get t:=fun t=>by rw[bA,hls];rfl
 refine⟨fun t ht=>?_,?_,?_,fun B hB=>?_,fun t ht=>?_⟩
 ·simp only[Ed,not_or,Fv]at ht;rw[hget,if_neg ht.1];exact H.get t ht.2
 ·show u.add++cV e'.al u.drop=e.al;rw[hadd,hdrop];exact H.al
 ·show im (cL e'.lb u.unlb) u.lb=e.lb;rw[hlb,hunlb];exact H.lb
 ·have h1:=H.lf B hB;show aK (mq d u.ent (u.ls++e'.sl)) B=true;rw[hls,cZ,Ez,h1,Gj];have:iK u.ent B=true:=by
   unfold iK;split
   ·rename_i C off hv;obtain⟨t,off',ht⟩:=hloc C off hv
    have:=iX h1 ht
    rw[Er,EL];intro hh;exact this (DC hh)
   ·rfl
  rw[this,Bool.or_true]
 ·rw[hget];split
  ·exact hg
  ·rename_i hd;simp only[Ed,Fv]at ht;rcases ht with ht|ht
   ·exact absurd ht hd
   ·exact H.ng t ht
omit [Dr]in
theorem Turned.refl(e:Env):Turned [] e e:=⟨fun _ _=>rfl,rfl,rfl,fun _ h=>h,fun t h=>by simp at h⟩
omit [Dr]in
theorem Turned.sub{ds ds':List Nat}{e e':Env}(H:Turned ds e e')(h:∀t,t∈ds↔t∈ds'):Turned ds' e e':=
 ⟨fun t ht=>H.get t fun hh=>ht ((h t).1 hh),H.al,H.lb,H.lf,fun t ht=>H.ng t ((h t).2 ht)⟩
structure GroupOk (cx:Cx) (ops:Array Oper) (j:Nat) (want:Bool) (t:Nat) (is:List Nat):Prop where
 hj:cm ops j=some t
 each:∀i∈is,∃o,ops[i]? = some o/\guardOf ops i=some (j,want)/\di cx o=true
 nt:t ∉ bF ops is
omit [Dr]in
theorem fo(i:Nat)(is:List Nat):∀t,t∈bF ops (i:: is)↔cm ops i=some t\/t∈bF ops is:=by
 intro t;unfold bF;simp only[FM,DX,exists_eq_or_imp]
omit [Dr]in
theorem GroupOk.tail{j:Nat}{want:Bool}{t i:Nat}{is:List Nat}(G:GroupOk cx ops j want t (i:: is)):GroupOk cx ops j want t is:=
 ⟨G.hj,fun k hk=>G.each k (by simp[hk]),fun h=>G.nt ((fo i is t).2 (.inr h))⟩
omit [Dr]in
theorem GroupOk.ne{j:Nat}{want:Bool}{t i:Nat}{is:List Nat}(G:GroupOk cx ops j want t (i:: is)):cm ops i≠some t:=fun h=>G.nt ((fo i is t).2 (.inl h))
omit [Dr]in
theorem gk{A:Act1}{h h':Hp}{u:Upd}(hr:cG (eI A) h= .ok u h'):∃u0,cG A h= .ok u0 h'/\u=eg u0:=by
 rw[jV]at hr;cases hx:cG A h<;>rw[hx]at hr<;>simp at hr;exact⟨_,by rw[hr.2],hr.1.symm⟩
omit [Dr]in
theorem nC{ρ:Type}{j:Nat}{want:Bool}{t:Nat}:∀(is:List Nat)(e:Env)(k:Env->M ρ)(h:Hp),GroupOk cx ops j want t is->e.av t= .bool want->fp cx base ops true is e k h=af (aI cx base ops is e) k h
 |[],e,k,h,_,_=>rfl
 |i:: is,e,k,h,G,hc=>by
  obtain⟨o,ho,hg,hp⟩:=G.each i (by simp);have hd:cm ops i=o.dst:=by simp[cm,ho]
  simp only[fp,aI,ho,Dx];rw[pu];unfold stepG;rw[jq ho hg G.hj hp,hc,ek,ek];simp only[gm,FE,Dx,aX,hd];refine s4 fun u h' hu=>?_;obtain⟨u0,hu0,rfl⟩:=gk hu;refine nC is _ k h' G.tail ?_;have:(e.upd o.dst (eg u0)).get t=e.get t:=by rw[bA,if_neg (by rw[<- hd];exact G.ne)];rfl
  simp only[Env.av,this];exact hc
omit [Dr]in
theorem jl{j:Nat}{want:Bool}{t:Nat}:∀(is:List Nat)(e e':Env)(h h':Hp),GroupOk cx ops j want t is->e.av t= .bool want->aI cx base ops is e h= .ok e' h'->Turned (bF ops is) e e':=by
 have key:∀(is:List Nat)(e0 e e':Env)(ds:List Nat)(h h':Hp),GroupOk cx ops j want t is->e.av t= .bool want->Turned ds e0 e->aI cx base ops is e h= .ok e' h'->Turned (bF ops is++ds) e0 e':=by
  intro is
  induction is with
  |nil=>
   intro e0 e e' ds h h' _ _ H hr;cases hr;exact H
  | cons i is ih=>
   intro e0 e e' ds h h' G hc H hr;obtain⟨o,ho,hg,hp⟩:=G.each i (by simp);have hd:cm ops i=o.dst:=by simp[cm,ho]
   simp only[aI]at hr;unfold stepG at hr;rw[jq ho hg G.hj hp,hc,ek]at hr;simp only[gm,FE,Dx,hd,af]at hr;cases hx:cG (eI (dP cx e ((base+i)*1000) o)) h with
   |fail=>rw[hx]at hr;cases hr
   |pan v hh=>rw[hx]at hr;cases hr
   | ok u hh=>
    rw[hx]at hr;simp only at hr;obtain⟨u0,hu0,rfl⟩:=gk hx;have hsh:=gU (gY cx e ((base+i)*1000) o) hu0;simp only[di,Dy,Er]at hp;have H2:=H.step (u:=eg u0) (d:=o.dst) rfl rfl rfl rfl rfl rfl (hsh.loc hp.1);refine (ih e0 _ e' _ hh h' G.tail ?_ H2 hr).sub fun s=>?_
    ·have:(e.upd o.dst (eg u0)).get t=e.get t:=by rw[bA,if_neg (by rw[<- hd];exact G.ne)];rfl
     simp only[Env.av,this];exact hc
    ·simp only[Ed,fo,Fv,hd];constructor
     ·rintro (h|h|h)
      ·exact .inl (.inr h)
      ·exact .inl (.inl h)
      ·exact .inr h
     ·rintro ((h|h)|h)
      ·exact .inr (.inl h)
      ·exact .inl h
      ·exact .inr (.inr h)
 intro is e e' h h' G hc hr;exact (key is e e e' [] h h' G hc (.refl e) hr).sub (by simp)
def Off(c:AV)(want:Bool):Prop:=c= .tup []\/∃b,c= .bool b/\(b== want)=false
omit [Dr]in
theorem Off.look{c:AV}{want:Bool}(h:Off c want)(m:M Upd):gm c want m=M.pure (.ofV (.tup [])):=by
 rcases h with rfl|⟨b,rfl,hb⟩
 ·rfl
 ·simp only[gm,hb,DF]
omit [Dr]in
theorem xP{j:Nat}{want:Bool}{t:Nat}:∀(is:List Nat)(e:Env)(h:Hp),GroupOk cx ops j want t is->Off (e.av t) want->∃e',aI cx base ops is e h= .ok e' h/\Turned (bF ops is) e e'/\∀s∈bF ops is,e'.get s=⟨.val (.tup []),none⟩:=by
 have key:∀(is:List Nat)(e0 e:Env)(ds:List Nat)(h:Hp),GroupOk cx ops j want t is->Off (e.av t) want->Turned ds e0 e->(∀s∈ds,e.get s=⟨.val (.tup []),none⟩)->
   ∃e',aI cx base ops is e h= .ok e' h/\Turned (bF ops is++ds) e0 e'/\∀s∈bF ops is++ds,e'.get s=⟨.val (.tup []),none⟩:=by
  intro is
  induction is with
  |nil=>exact fun e0 e ds h _ _ H hds=>⟨e,rfl,H,hds⟩
  | cons i is ih=>
   intro e0 e ds h G hc H hds;obtain⟨o,ho,hg,hp⟩:=G.each i (by simp);have hd:cm ops i=o.dst:=by simp[cm,ho]
   have hget:∀s,(e.upd o.dst (.ofV (.tup []))).get s=if o.dst=some s then⟨.val (.tup []),none⟩else e.get s:=fun s=>by rw[bA];rfl
   have H2:=H.step (u:=.ofV (.tup [])) (d:=o.dst) rfl rfl rfl rfl rfl rfl (fun C off hh=>by cases hh);have hav:(e.upd o.dst (.ofV (.tup []))).av t=e.av t:=by
    have:(e.upd o.dst (.ofV (.tup []))).get t=e.get t:=by rw[hget,if_neg (by rw[<- hd];exact G.ne)]
    simp only[Env.av,this]
   obtain⟨e',h1,h2,h3⟩:=ih e0 (e.upd o.dst (.ofV (.tup []))) (o.dst.toList++ds) h G.tail (by rw[hav];exact hc) H2 (fun s hs=>by
    rw[hget];split
    ·rfl
    ·rename_i hn;simp only[Ed,Fv]at hs;rcases hs with hs|hs
     ·exact absurd hs hn
     ·exact hds s hs)
   have hiff:∀s,s∈bF ops is++(o.dst.toList++ds)↔s∈bF ops (i:: is)++ds:=fun s=>by
    simp only[Ed,fo,Fv,hd];constructor
    ·rintro (h|h|h)
     ·exact .inl (.inr h)
     ·exact .inl (.inl h)
     ·exact .inr h
    ·rintro ((h|h)|h)
     ·exact .inr (.inl h)
     ·exact .inl h
     ·exact .inr (.inr h)
   refine⟨e',?_,h2.sub hiff,fun s hs=>h3 s ((hiff s).2 hs)⟩;simp only[aI];unfold stepG;rw[jq ho hg G.hj hp,hc.look,hd];exact h1
 intro is e h G hc;obtain⟨e',h1,h2,h3⟩:=key is e e [] h G hc (.refl e) (by simp);exact⟨e',h1,h2.sub (by simp),fun s hs=>h3 s (by simp[hs])⟩
end
end Go.Av
namespace Go.Av
variable [Dr]
section
variable {cx:Cx} {ops:Array Oper} {base:Nat}
structure Rel (ops:Array Oper) (L:List Nat) (e2 e:Env):Prop where
 get:∀t,e2.get t=e.get t\/(e2.get t=Ent.none/\t<1000/\∀i∈L,t ∉ bQ ops i)
 al:∀g,aA e2.al g=aA e.al g
 lb:∀B,aT e2.lb B=aT e.lb B
 lf:∀B,aK e2.sl B=true->aK e.sl B=true
omit [Dr]in
theorem Rel.refl(ops:Array Oper)(L:List Nat)(e:Env):Rel ops L e e:=⟨fun _=>.inl rfl,fun _=>rfl,fun _=>rfl,fun _ h=>h⟩
omit [Dr]in
theorem Rel.sub{L L':List Nat}{e2 e:Env}(H:Rel ops L e2 e)(h:∀i∈L',i∈L):Rel ops L' e2 e:=
 ⟨fun t=>(H.get t).imp id fun⟨h1,h2,h3⟩=>⟨h1,h2,fun i hi=>h3 i (h i hi)⟩,H.al,H.lb,H.lf⟩
omit [Dr]in
theorem Rel.read{L:List Nat}{e2 e:Env}(H:Rel ops L e2 e){i t:Nat}(hi:i∈L)(ht:t∈bQ ops i):e.get t=e2.get t:=by
 rcases H.get t with h|⟨_,_,h⟩
 ·exact h.symm
 ·exact absurd ht (h i hi)
omit [Dr]in
theorem Rel.agree{L:List Nat}{e2 e:Env}(H:Rel ops L e2 e){i:Nat}{o:Oper}(hi:i∈L)(ho:ops[i]? = some o):Agree cx o e2 e:=by
 refine⟨fun t ht=>H.read hi (by rw[d9 ho];simp[ht]),fun _=>⟨fun t ht=>?_,fun B=>(H.lb B).symm⟩,fun _ g=>(H.al g).symm,fun _ s _ hl=>H.lf _ hl⟩;rcases H.get t with h|⟨_,h,_⟩
 ·exact h.symm
 ·omega
omit [Dr]in
theorem Rel.upd{L:List Nat}{e2 e:Env}(H:Rel ops L e2 e)(d:Option Tmp)(u:Upd):Rel ops L (e2.upd d u) (e.upd d u):=by
 refine⟨fun t=>?_,fun g=>?_,fun B=>?_,fun B hB=>?_⟩
 ·rw[bA,bA];split
  ·exact .inl rfl
  ·rw[fH,fH];split
   ·exact .inl rfl
   ·exact H.get t
 ·show aA (u.add++cV e2.al u.drop) g=aA (u.add++cV e.al u.drop) g;have:aA (cV e2.al u.drop) g=aA (cV e.al u.drop) g:=by
   cases u.drop with
   |none=>exact H.al g
   |some k=>simp only[cV,gA,H.al g]
  rw[cY,cY,this]
 ·show aT (im (cL e2.lb u.unlb) u.lb) B=aT (im (cL e.lb u.unlb) u.lb) B;have:aT (cL e2.lb u.unlb) B=aT (cL e.lb u.unlb) B:=by
   cases u.unlb with
   |none=>exact H.lb B
   |some k=>simp only[cL,iW,H.lb B]
  cases u.lb with
  |none=>exact this
  |some x=>
   obtain⟨k,n⟩:=x;simp only[im,cI,this]
 ·have hB':aK (mq d u.ent (u.ls++e2.sl)) B=true:=hB;show aK (mq d u.ent (u.ls++e.sl)) B=true;rw[cZ,ez]at hB' |-;simp only[Dy]at hB' |-;exact⟨hB'.1,hB'.2.1,H.lf B hB'.2.2⟩
omit [Dr]in
theorem Rel.run:∀(is:List Nat){L:List Nat}{e2 e:Env}(_:Rel ops L e2 e)(_:∀i∈is,i∈L)(h:Hp),aI cx base ops is e2 h≠.fail->
  (∃e2' e' h',aI cx base ops is e2 h= .ok e2' h'/\aI cx base ops is e h= .ok e' h'/\Rel ops L e2' e')\/∃v h',aI cx base ops is e2 h= .pan v h'/\aI cx base ops is e h= .pan v h'
 |[],L,e2,e,H,_,h,_=>.inl ⟨e2,e,h,rfl,rfl,H⟩
 | i:: is,L,e2,e,H,hL,h,hr=>by
  simp only[aI]at hr |-;unfold stepG at hr |-;simp only[af,M.pure]at hr |-;cases hx:dn cx base ops i e2 h with
  |fail=>rw[hx]at hr;exact absurd rfl hr
  | _ =>
   have ho:∃o,ops[i]? = some o:=by
    cases ho:ops[i]? with
    |none=>unfold dn at hx;rw[ho]at hx;cases hx
    |some o=>exact⟨o,rfl⟩
   obtain⟨o,ho⟩:=ho;have hi:=hL i (by simp);have hy:dn cx base ops i e h=dn cx base ops i e2 h:=dX ho (fun t ht=>H.read hi (by rw[d9 ho];simp[ht])) (H.agree hi ho) (by rw[hx];simp);rw[hy,hx]
   first
    | rw[hx]at hr
      exact Rel.run is (H.upd _ _) (fun k hk=>hL k (by simp[hk])) _ hr
    |exact .inr ⟨_,_,rfl,rfl⟩
omit [Dr]in
theorem lr(e:Env):∀(ds:List Nat)(t:Nat),(forget e ds).get t=if t∈ds then Ent.none else e.get t
 |[],t=>by simp[forget]
 | d:: ds,t=>by
  show bd ((d,Ent.none):: (forget e ds).sl) t=_;rw[bm];by_cases hd:d=t
  ·subst hd;simp
  ·rw[if_neg hd]
   have:=lr e ds t
   simp only[Env.get]at this;rw[this];have hd':¬t=d:=fun h=>hd h.symm;simp[hd',Env.get]
omit [Dr]in
theorem ke(e:Env):∀(ds:List Nat),(forget e ds).al=e.al/\(forget e ds).lb=e.lb/\∀B,aK (forget e ds).sl B=aK e.sl B
 |[]=>⟨rfl,rfl,fun _=>rfl⟩
 |_d:: ds=>ke e ds
omit [Dr]in
theorem km(e:Env)(f:Nat->AV):∀(outs:List Nat)(pre:List AV)(t:Nat),(dS e (pre++outs.map f) pre.length outs).get t=if t∈outs then⟨.val (f t),none⟩else e.get t
 |[],pre,t=>by simp[dS]
 | d:: ds,pre,t=>by
  show bd ((d,⟨.val (nth (pre++(d:: ds).map f) pre.length),none⟩):: (dS e (pre++(d:: ds).map f) (pre.length+1) ds).sl) t=_;rw[bm];have hn:nth (pre++(d:: ds).map f) pre.length=f d:=by simp[nth]
  by_cases hd:d=t
  ·subst hd;rw[hn];simp
  ·rw[if_neg hd]
   have:=km e f ds (pre++[f d]) t
   simp only[EP,Eb,D4,D3,List.singleton_append]at this;simp only[Env.get,D8]at this |-;rw[this];have hd':¬t=d:=fun h=>hd h.symm;simp[hd']
omit [Dr]in
theorem jh(e:Env)(vs:List AV):∀(outs:List Nat)(i:Nat),(dS e vs i outs).al=e.al/\(dS e vs i outs).lb=e.lb/\∀B,aK (dS e vs i outs).sl B=aK e.sl B
 |[],_i=>⟨rfl,rfl,fun _=>rfl⟩
 |_d:: ds,i=>jh e vs ds (i+1)
omit [Dr]in
theorem rY(gs:List (Option (Nat×Bool)×List Nat))(t:Nat):rX ops gs t=true↔∃i∈eK gs,t∈bQ ops i:=by
 unfold rX eK;simp only[List.any_eq_true,List.mem_flatMap,eA];constructor
 ·rintro⟨g,hg,i,hi,ht⟩;exact⟨i,⟨g,hg,hi⟩,ht⟩
 ·rintro⟨i,⟨g,hg,hi⟩,ht⟩;exact⟨g,hg,i,hi,ht⟩
omit [Dr]in
theorem Rel.close{is:List Nat}{gs:List (Option (Nat×Bool)×List Nat)}{e2 e e':Env}(H:Rel ops (is++eK gs) e2 e)(hS:Small ops)(T:Turned (bF ops is) e e'){vs:List AV}{f:Nat->AV}(hvs:vs=(bX ops is gs).map f)(hf:∀t∈bX ops is gs,e'.get t=⟨.val (f t),none⟩\/(f t= .any/\t<1000/\∀i∈eK gs,t ∉ bQ ops i)):Rel ops (eK gs) (dS (forget e2 (bF ops is)) vs 0 (bX ops is gs)) e':=by
 have hr:=jh (forget e2 (bF ops is)) vs (bX ops is gs) 0;have hr2:=ke e2 (bF ops is);refine⟨fun t=>?_,fun g=>?_,fun B=>?_,fun B hB=>?_⟩
 ·have hg:=km (forget e2 (bF ops is)) f (bX ops is gs) [] t;simp only[Ez,D3]at hg;rw[hvs,hg];split
  ·rename_i ht;rcases hf t ht with h|⟨h1,h2,h3⟩
   ·exact .inl h.symm
   ·exact .inr ⟨by rw[h1];rfl,h2,h3⟩
  ·rename_i ht;rw[lr];split
   ·rename_i hd;refine .inr ⟨rfl,?_,fun i hi hti=>ht ?_⟩
    ·unfold bF at hd;simp only[FM]at hd;obtain⟨i,hi,hd⟩:=hd;unfold cm at hd;cases hoi:ops[i]? with
     |none=>rw[hoi]at hd;simp at hd
     |some o=>rw[hoi]at hd;exact hS.dst i o hoi t hd
    ·unfold bX;rw[EW];exact⟨hd,(rY gs t).2 ⟨i,hi,hti⟩⟩
   ·rename_i hd;rw[T.get t hd];rcases H.get t with h|⟨h1,h2,h3⟩
    ·exact .inl h
    ·exact .inr ⟨h1,h2,fun i hi=>h3 i (by simp[hi])⟩
 ·rw[hr.1,hr2.1,T.al];exact H.al g
 ·rw[hr.2.1,hr2.2.1,T.lb];exact H.lb B
 ·rw[hr.2.2,hr2.2.2]at hB;exact T.lf B (H.lf B hB)
omit [Dr]in
theorem mb(l m:List Nat):∀e:Env,aI cx base ops (l++m) e=af (aI cx base ops l e) (aI cx base ops m):=by
 induction l with
 |nil=>intro e;rfl
 |cons i l ih=>
  intro e;show af (stepG cx base ops i e) (aI cx base ops (l++m))=af (af (stepG cx base ops i e) (aI cx base ops l)) (aI cx base ops m);rw[ek];congr 1;funext e';exact ih e'
omit [Dr]in
theorem xu{x:Ent}(h1:iw x=true)(h2:x.g=none):x=⟨.val x.av,none⟩:=by
 obtain⟨v,g⟩:=x;cases v with
 |val a=>simp only at h2;subst h2;rfl
 |loc B off=>cases h1
omit [Dr]in
theorem fF{ρ:Type}(hS:Small ops):∀(gs:List (Option (Nat×Bool)×List Nat))(e2 e:Env)(k:Env->M ρ)(h:Hp),(∀g∈gs,∀i∈g.2,guardOf ops i=g.1)->Rel ops (eK gs) e2 e->cM cx base ops gs e2 k h≠.fail->
  (∃e2' e' h',cM cx base ops gs e2 k h=k e2' h'/\aI cx base ops (eK gs) e h= .ok e' h'/\Rel ops [] e2' e')\/∃v h',cM cx base ops gs e2 k h= .pan v h'/\aI cx base ops (eK gs) e h= .pan v h'
 |[],e2,e,k,h,_,H,_=>.inl ⟨e2,e,h,rfl,rfl,H⟩
 | (none,is):: gs,e2,e,k,h,hg,H,hr=>by
  have hg0:∀i∈is,guardOf ops i=none:=hg (none,is) (by simp);have hfl:eK ((none,is):: gs)=is++eK gs:=rfl;rw[hfl]at H |-;rw[mb];simp only[cM]at hr |-;rw[qp is e2 _ hg0]at hr |-;simp only[af]at hr |-;have hr2:aI cx base ops is e2 h≠.fail:=fun hf=>by rw[hf]at hr;exact hr rfl
  rcases H.run (base:=base) (cx:=cx) is (fun i hi=>by simp[hi]) h hr2 with⟨e2',e',h',h1,h2,H'⟩|⟨v,h',h1,h2⟩
  ·rw[h1]at hr |-;rw[h2];exact fF hS gs e2' e' k h' (fun g hgg=>hg g (by simp[hgg])) (H'.sub fun i hi=>by simp[hi]) hr
  ·rw[h1,h2];exact .inr ⟨v,h',rfl,rfl⟩
 | (some (j,want),is):: gs,e2,e,k,h,hg,H,hr=>by
  have hg0:∀i∈is,guardOf ops i=some (j,want):=hg (some (j,want),is) (by simp);have hfl:eK ((some (j,want),is):: gs)=is++eK gs:=rfl;rw[hfl]at H |-;rw[mb];simp only[cM]at hr |-;cases hdj:cm ops j with
  |none=>rw[hdj]at hr;exact absurd rfl hr
  | some t=>
   rw[hdj]at hr;simp only at hr |-;revert hr;cases hc:((is.all fun i=>match ops[i]? with|some o=>di cx o&&o.dst.isSome|none=>false)&&!(dB (bF ops is) t))with
   |false=>intro hr;exact absurd rfl hr
   | true=>
    intro hr;simp only[Dx]at hr |-;simp only[Dy,Er,DL]at hc;have G:GroupOk cx ops j want t is:=by
     refine⟨hdj,fun i hi=>?_,fun ht=>?_⟩
     ·have:=hc.1 i hi
      cases hoi:ops[i]? with
      |none=>rw[hoi]at this;cases this
      |some o=>
       rw[hoi]at this;simp only[Dy]at this;exact⟨o,rfl,hg0 i hi,this.1⟩
     ·rw[(eA _ _).2 ht]at hc;exact Bool.noConfusion hc.2
    have htr:∀i∈is,t∈bQ ops i:=fun i hi=>by
     obtain⟨o,ho,hgi,_⟩:=G.each i hi;rw[d9 ho];have:o.guard=some (j,want):=by simpa [guardOf,ho]using hgi
     have:t∈df ops o:=by
      unfold df;rw[this];simp only;rw[show (ops[j]?).bind (·.dst)=some t from hdj];simp
     simp[this]
    -- the guard says yes
    cases is with
    | nil=>
     have hrn:∀e,aI cx base ops [] e=M.pure e:=fun _=>rfl;rw[hrn,aX];have ho:bX ops [] gs=[]:=rfl;have hd:bF ops []=[]:=rfl;rw[ho,hd]at hr |-;have hpure:∀ {q:AV} {m:M (List AV)},m h= .ok [] h->au q want ([]:List Nat).length m h≠.fail->au q want ([]:List Nat).length m h= .ok [] h:=by
      intro q m hm hne;cases q with
      |bool b=>
       simp only[au];cases b== want with
       |true=>exact hm
       |false=>rfl
      |tup vs=>
       cases vs with
       |nil=>rfl
       |cons v vs=>exact absurd rfl hne
      |_=>exact absurd rfl hne
     simp only[af]at hr |-;have hp:=hpure (q:=e2.av t) (m:=fp cx base ops true [] e2 fun e'=>bif ([]:List Nat).all (fun t=>iw (e'.get t))then M.pure (([]:List Nat).map e'.av)else M.fail) rfl (fun hf=>by rw[hf]at hr;exact hr rfl);rw[hp]at hr |-;exact fF hS gs e2 e k h (fun g hgg=>hg g (by simp[hgg])) (H.sub fun i hi=>by simp[hi]) hr
    |cons i0 is0=>
    have hav:e.av t=e2.av t:=by
     have:=H.read (i:=i0) (by simp) (htr i0 (by simp))
     simp only[Env.av,this]
    generalize hiseq:i0:: is0=is at *;have hoff:Off (e2.av t) want->(au (e2.av t) want (bX ops is gs).length (fp cx base ops true is e2 fun e'=>bif (bX ops is gs).all (fun t=>iw (e'.get t))then M.pure ((bX ops is gs).map e'.av)else M.fail))=M.pure (List.replicate (bX ops is gs).length (.tup [])):=by
     rintro (hq|⟨b,hq,hb⟩)
     ·rw[hq];rfl
     ·rw[hq];simp only[au,hb,DF]
    have hcase:Off (e2.av t) want\/e2.av t= .bool want:=by
     cases hq:e2.av t with
     |bool b=>
      cases hb:(b== want)with
      |true=>right;simp at hb;rw[hb]
      |false=>exact .inl (.inr ⟨b,rfl,hb⟩)
     |tup vs=>
      cases vs with
      |nil=>exact .inl (.inl rfl)
      |cons v vs=>rw[hq]at hr;exact absurd rfl hr
     |_=>rw[hq]at hr;exact absurd rfl hr
    rcases hcase with ho|hy
    ·rw[hoff ho,aX]at hr |-;obtain⟨e',h1,T,h2⟩:=xP (base:=base) is e h G (by rw[hav];exact ho);simp only[af];rw[h1];refine fF hS gs _ e' k h (fun g hgg=>hg g (by simp[hgg])) (H.close hS T (f:=fun _=>.tup []) ?_ fun s hs=>.inl ?_) hr
     ·exact (List.map_const' ..).symm
     ·refine h2 s ?_;unfold bX at hs;exact (EW.1 hs).1
    ·rw[hy]at hr |-;simp only[au,FE,Dx,af]at hr |-;rw[nC is e2 _ h G hy]at hr |-;simp only[af]at hr |-;have hr2:aI cx base ops is e2 h≠.fail:=fun hf=>by rw[hf]at hr;exact hr rfl
     rcases H.run (base:=base) (cx:=cx) is (fun i hi=>by simp[hi]) h hr2 with⟨e2',e',h',h1,h2,H'⟩|⟨v,h',h1,h2⟩
     ·rw[h1]at hr |-;rw[h2];simp only at hr |-;have T2:=jl is e2 e2' h h' G hy h1;have T:=jl is e e' h h' G (by rw[hav];exact hy) h2;cases hv:(bX ops is gs).all (fun t=>iw (e2'.get t))with
      |false=>rw[hv]at hr;exact absurd rfl hr
      |true=>
       rw[hv]at hr;simp only[Dx,M.pure]at hr |-;refine fF hS gs _ e' k h' (fun g hgg=>hg g (by simp[hgg])) (H.close hS T (f:=e2'.av) rfl fun s hs=>?_) hr;have hsd:s∈bF ops is:=by unfold bX at hs;exact (EW.1 hs).1
       have hval:=xu (DL.1 hv s hs) (T2.ng s hsd);rcases H'.get s with h3|⟨h3,h4,h5⟩
       ·left;rw[<- h3];exact hval
       ·right;exact⟨by simp only[Env.av,h3];rfl,h4,fun i hi=>h5 i (by simp[hi])⟩
     ·rw[h1,h2];exact .inr ⟨v,h',rfl,rfl⟩
end
end Go.Av
namespace Go.Av
variable [Dr]
omit [Dr]in
theorem fZ(acc:List Nat):∀(es:List Edge)(x:Nat),(fw acc es).testBit x=true↔∃e∈es,Region.binds .any e=true/\(e.on=x\/(acc.getD e.on 0).testBit x=true)
 |[],x=>by simp[fw]
 | e :: es,x=>by
  simp only[fw];cases hb:Region.binds .any e with
  | false=>
   simp only[DF,fZ acc es x,DX];constructor
   ·rintro⟨e',he,h⟩;exact⟨e',.inr he,h⟩
   ·rintro⟨e',rfl|he,h⟩
    ·rw[hb]at h;exact absurd h.1 (by simp)
    ·exact⟨e',he,h⟩
  | true=>
   simp only[Dx,Nat.testBit_or,EG,fZ acc es x,DX,Nat.testBit_two_pow,DK];constructor
   ·rintro ((⟨e',he,h⟩|h)|h)
    ·exact⟨e',.inr he,h⟩
    ·exact⟨e,.inl rfl,hb,.inl h⟩
    ·exact⟨e,.inl rfl,hb,.inr h⟩
   ·rintro⟨e',rfl|he,h1,h2⟩
    ·rcases h2 with h2|h2
     ·exact .inl (.inr h2)
     ·exact .inr h2
    ·exact .inl (.inl ⟨e',he,h1,h2⟩)
omit [Dr]in
theorem mQ:∀(os:List Oper)(acc:List Nat),∃r:List Nat,qP os acc=acc++r/\r.length=os.length/\∀(k:Nat)(o:Oper),os[k]? = some o->r[k]? = some (fw (acc++r.take k) o.after.toList)
 |[],acc=>⟨[],by simp[qP],rfl,by simp⟩
 | o:: os,acc=>by
  obtain⟨r,h1,h2,h3⟩:=mQ os (acc++[fw acc o.after.toList]);refine⟨fw acc o.after.toList:: r,by simp[qP,h1],by simp[h2],fun k o' ho=>?_⟩;cases k with
  |zero=>simp at ho;subst ho;simp
  |succ k=>
   simp only[Gz,Eo]at ho |-;rw[h3 k o' ho];simp
section
variable {ops:Array Oper}
def gC(ops:Array Oper):List Nat:=qP ops.toList []
omit [Dr]in
theorem uE{j:Nat}{o:Oper}(ho:ops[j]? = some o):(gC ops).length=ops.size/\(gC ops).getD j 0=fw ((gC ops).take j) o.after.toList:=by
 obtain⟨r,h1,h2,h3⟩:=mQ ops.toList [];have h4:gC ops=r:=by unfold gC;rw[h1];simp
 rw[h4];refine⟨by simp[h2],?_⟩
 have:=h3 j o (by simpa using ho)
 rw[Ek,this];simp
omit [Dr]in
theorem sZ{listed:Nat->Prop}(hcl:∀(j:Nat)(o:Oper),ops[j]? = some o->listed j->∀e∈o.after.toList,Region.binds .any e=true->listed e.on):
  ∀(j:Nat)(o:Oper),ops[j]? = some o->(∀e∈o.after.toList,Region.binds .any e=true->listed e.on)->∀x,((gC ops).getD j 0).testBit x=true->listed x:=by
 intro j
 induction j using Nat.strongRecOn with
 | _ j ih=>
  intro o ho hl x hx;obtain⟨hlen,hget⟩:=uE ho;rw[hget,fZ]at hx;obtain⟨e,he,hb,hx|hx⟩:=hx
  ·rw[<- hx];exact hl e he hb
  ·by_cases hj:e.on<j
   ·have hjs:j<ops.size:=(Ea.1 ho).1;have hos:ops[e.on]? = some ops[e.on]:=D6 (by omega);have h1:((gC ops).take j).getD e.on 0=(gC ops).getD e.on 0:=by
     rw[Ek,Ek,DJ,DG hj]
    rw[h1]at hx;exact ih e.on hj _ hos (hcl e.on _ hos (hl e he hb)) x hx
   ·rw[Ek,DJ,if_neg hj]at hx;simp at hx
def t8(cx:Cx)(ops:Array Oper)(i j:Nat):Prop:=((gC ops).getD i 0).testBit j=false/\(((gC ops).getD j 0).testBit i=true\/iS cx ops i j=true)
omit [Dr]in
theorem kj{cx:Cx}:∀ {l:List Nat},gb cx ops (gC ops) l=true->l.Pairwise (t8 cx ops)/\∀i∈l,((gC ops).getD i 0).testBit i=false
 |[],_=>⟨.nil,by simp⟩
 |i:: l,h=>by
  simp only[gb,Dy,Er,DL,EG]at h;obtain⟨⟨h1,h2⟩,h3⟩:=h;obtain⟨h4,h5⟩:=kj h3;refine⟨.cons (fun j hj=>h2 j hj) h4,fun k hk=>?_⟩;simp only[DX]at hk;rcases hk with rfl|hk
  ·exact h1
  ·exact h5 k hk
omit [Dr]in
theorem gF:∀ {l:List Nat},distinct l=true->l.Nodup
 |[],_=>.nil
 |i:: l,h=>by
  simp only[distinct,Dy,Er]at h;refine Fb.2 ⟨fun hi=>?_,gF h.2⟩;rw[(eA _ _).2 hi]at h;exact Bool.noConfusion h.1
variable {P:Program} {cx:Cx} {c:Entry} {N base:Nat}
theorem pq(hT:TOK P cx.T)(hC:bI P cx.own cx.call)(hI:IsoPure cx)(hO:OpsOk N cx ops)(hS:Small ops)(hbit:∀i x,((gC ops).getD i 0).testBit x=true->x<ops.size)(hself:∀i,i<ops.size->((gC ops).getD i 0).testBit i=false){Q:Exit->Act->World->Prop}:∀(n:Nat)(rest:List Nat)(listed:Array Bool)(D:List Nat)(e:Env)(h:Hp)(a:Act)(w:World),rest.length=n->listed.size=ops.size->rest.Nodup->
  (∀i,i∈rest↔i<ops.size/\listed.getD i true=false)->(∀i∈rest,i ∉ D)->(∀i∈D,i<ops.size)->
  (∀(j:Nat)(o:Oper),ops[j]? = some o->listed.getD j false=true->∀e∈o.after.toList,Region.binds .any e=true->listed.getD e.on false=true)->rest.Pairwise (t8 cx ops)->
  cX c N (UD base D) e h a w->aI cx base ops rest e h≠.fail->
  (∀e0 e' h' a' w',aI cx base ops rest e h= .ok e0 h'->EqE e0 e'->cX c N (UR base ops.size) e' h' a' w'->a'.defers=a.defers->Q .normal a' w')->
  (∀pv h' v w' a',aI cx base ops rest e h= .pan pv h'->ij c pv h' v w'->a'.defers=a.defers->Q (.panic [{ v,recovered:=false }]) a' w')->wpAny P .any ops Q n listed a w
 |0,rest,listed,D,e,h,a,w,hlen,hsz,hnd,hmem,hdis,hD,hcl,hpw,H,hr,hn,hp=>by
  have:rest=[]:=DZ hlen;subst this;refine⟨?_,hn e e h a w rfl (.refl e) (H.wider (xZ hD)) rfl⟩;refine List.eq_nil_iff_forall_not_mem.2 fun i hi=>?_;obtain⟨h0,o,ho,_⟩:=mem_ready.1 hi
  have:=(hmem i).2 ⟨(Ea.1 ho).1,h0⟩
  simp at this
 | n + 1,rest,listed,D,e,h,a,w,hlen,hsz,hnd,hmem,hdis,hD,hcl,hpw,H,hr,hn,hp=>by
  have hgd:∀i,i<ops.size->listed.getD i true=listed.getD i false:=fun i hi=>by
   rw[D5,D5,D6 (by omega)];rfl
  refine⟨fun hemp=>?_,fun i hi=>?_⟩
  ·exfalso;cases rest with
   |nil=>simp at hlen
   | cons r0 tl=>
    have hr0:=(hmem r0).1 (by simp);have hor:ops[r0]? = some ops[r0]:=D6 hr0.1;have:r0∈Region.ready .any ops listed:=by
     refine mem_ready.2 ⟨hr0.2,_,hor,fun ed hed hb=>?_⟩;have hbt:((gC ops).getD r0 0).testBit ed.on=true:=by
      rw[(uE hor).2,fZ];exact⟨ed,by simpa using hed,hb,.inl rfl⟩
     have hlt:=hbit r0 ed.on hbt;cases hl:listed.getD ed.on false with
     |true=>rfl
     | false=>
      have hin:=(hmem ed.on).2 ⟨hlt,by rw[hgd _ hlt];exact hl⟩;simp only[DX]at hin;rcases hin with hin|hin
      ·rw[hin]at hbt;rw[hself r0 hr0.1]at hbt;cases hbt
      ·have:=(FN.1 hpw).1 ed.on hin
       rw[this.1]at hbt;cases hbt
    rw[hemp]at this;simp at this
  ·obtain⟨h0,o,ho,hall⟩:=mem_ready.1 hi;have hlt:i<ops.size:=(Ea.1 ho).1;have hin:=(hmem i).2 ⟨hlt,h0⟩;obtain⟨p,q,rfl⟩:=List.append_of_mem hin;have hnd':=hnd;rw[List.nodup_append]at hnd';have hni:i ∉ p++q:=by
    intro hm;rw[Ed]at hm;rcases hm with hm|hm
    ·exact hnd'.2.2 i hm i (by simp) rfl
    ·exact (Fb.1 hnd'.2.1).1 hm
   have hclo:=sZ (ops:=ops) (listed:=fun j=>listed.getD j false=true) (fun j o ho hj ed hed hb=>hcl j o ho hj ed hed hb) i o ho (fun ed hed hb=>hall ed (by simpa using hed) hb);have hfront:∀x∈p,iS cx ops x i=true/\x≠i:=by
    intro x hx;have hpr:=(List.pairwise_append.1 hpw).2.2 x hx i (by simp);refine⟨?_,fun hxi=>hni (by rw[<- hxi];simp[hx])⟩;rcases hpr.2 with h1|h1
    ·have hxl:=hclo x h1;have hxr:=(hmem x).1 (by simp[hx]);rw[hgd x hxr.1]at hxr;rw[hxr.2]at hxl;cases hxl
    ·exact h1
   have hRE:=yw (base:=base) hI hS q p hfront e h;have hr':aI cx base ops (i:: (p++q)) e h≠.fail:=by
    intro hf;rw[hf]at hRE;cases hx:aI cx base ops (p++i:: q) e h with
    |fail=>exact hr hx
    |ok e0 h0=>rw[hx]at hRE;obtain⟨_,h1,_⟩:=hRE;cases h1
    |pan v h0=>rw[hx]at hRE;cases hRE
   simp only[aI,af]at hr';have hstep:∀ {r:R Env},aI cx base ops (i:: (p++q)) e h=r->aI cx base ops (i:: (p++q)) e h=r:=fun h=>h;simp only[aI,af]at hRE;refine mg hT hC hO (hdis i hin) H (fun hf=>by rw[hf]at hr';exact hr' rfl) (fun e1 h1 a1 w1 hst hs hdf=>?_) (fun pv h1 v w1 hst hps=>?_)
   ·rw [hst]at hr' hRE;simp only at hr' hRE;refine pq hT hC hI hO hS hbit hself n (p++q) (listed.setIfInBounds i true) (i:: D) e1 h1 a1 w1 ?_ (by simp[hsz]) ?_ (fun k=>?_) (fun k hk=>?_) (fun k hk=>?_) (fun k o' ho' hk ed hed hb=>?_) ?_ hs hr' (fun e0 e' h' a' w' hok heq hsat hdf'=>?_) (fun pv h' v w' a' hok hps hdf'=>?_)
    ·simp only[Eb,D4]at hlen |-;omega
    ·exact hnd.sublist (List.Sublist.append (List.Sublist.refl p) (List.sublist_cons_self i q))
    ·have hset:k≠i->(listed.setIfInBounds i true).getD k true=listed.getD k true:=fun hk=>by
      rw[D5,D5,Fl (GH hk)]
     constructor
     ·intro hk;have hki:k≠i:=fun h=>hni (h▸hk);rw[hset hki];exact (hmem k).1 (by
       simp only[Ed,DX]at hk |-;rcases hk with hk|hk
       ·exact .inl hk
       ·exact .inr (.inr hk))
     ·rintro⟨h1,h2⟩;have hki:k≠i:=by
       rintro rfl;rw[D5,Array.getElem?_setIfInBounds_self]at h2;rw[DG (by omega)]at h2;simp at h2
      rw[hset hki]at h2
      have:=(hmem k).2 ⟨h1,h2⟩
      simp only[Ed,DX]at this |-;rcases this with h|h|h
      ·exact .inl h
      ·exact absurd h hki
      ·exact .inr h
    ·simp only[DX,not_or];refine⟨fun hki=>hni (hki▸hk),hdis k ?_⟩;simp only[Ed,DX]at hk |-;rcases hk with hk|hk
     ·exact .inl hk
     ·exact .inr (.inr hk)
    ·simp only[DX]at hk;rcases hk with rfl|hk
     ·exact hlt
     ·exact hD k hk
    ·have hmono:∀x,listed.getD x false=true->(listed.setIfInBounds i true).getD x false=true:=fun x hx=>getD_set_true hx;by_cases hki:k=i
     ·subst hki;rw[ho]at ho';cases ho';exact hmono _ (hall ed (by simpa using hed) hb)
     ·refine hmono _ (hcl k o' ho' ?_ ed hed hb);rw[D5,Fl (GH hki),<- D5]at hk;exact hk
    ·exact hpw.sublist (List.Sublist.append (List.Sublist.refl p) (List.sublist_cons_self i q))
    ·rw[hok]at hRE;cases hx:aI cx base ops (p++i:: q) e h with
     |fail=>exact absurd hx hr
     |ok ex hx'=>
      rw[hx]at hRE;obtain⟨e0',h2,h3⟩:=hRE;cases h2;exact hn ex e' _ a' w' hx (h3.trans heq) hsat (hdf'.trans hdf)
     |pan v h0=>rw[hx]at hRE;cases hRE
    ·rw[hok]at hRE;cases hx:aI cx base ops (p++i:: q) e h with
     |fail=>exact absurd hx hr
     |ok ex hx'=>rw[hx]at hRE;obtain⟨_,h1,_⟩:=hRE;cases h1
     |pan v0 h0=>
      rw[hx]at hRE;cases hRE;exact hp _ _ v w' a' hx hps (hdf'.trans hdf)
   ·rw[hst]at hRE;cases hx:aI cx base ops (p++i:: q) e h with
    |fail=>exact absurd hx hr
    |ok ex hx'=>rw[hx]at hRE;obtain⟨_,h1,_⟩:=hRE;cases h1
    |pan v0 h0=>
     rw[hx]at hRE;cases hRE;exact hp _ _ v w1 a hx hps rfl
end
end Go.Av
namespace Go.Av
variable [Dr]
structure IsoCall (cx:Cx):Prop where
 iso:∀f args,cx.iso f=true->∃x:Option (Bool×AV),∀h,cx.call f args h=(match x with|none=>.fail|some (true,v)=>.ok v h|some (false,v)=>.pan v h)
 nw:∀f args,cx.nw f=true->qG (cx.call f args)
omit [Dr]in
theorem IsoCall.draw{cx:Cx}(h:IsoCall cx):IsoPure (dm cx):=by
 refine⟨?_,fun f args hf=>?_⟩
 case refine_2=>
  have hn:=h.nw f args hf;show qG (bif cx.iso f then ca (cx.call f args)else cx.call f args);cases cx.iso f with
  |false=>exact hn
  |true=>
   intro hp v h' hh;simp only[Dx,ca]at hh;cases hq:cx.call f args hp with
   |ok a b=>rw[hq]at hh;cases hh;exact hn _ _ _ hq
   |pan a b=>rw[hq]at hh;cases hh
   |fail=>rw[hq]at hh;cases hh
 intro f args hf;have hf':cx.iso f=true:=hf;obtain⟨x,hx⟩:=h.iso f args hf';refine⟨match x with|some (true,v)=>some v|_=>none,?_⟩;show (bif cx.iso f then ca (cx.call f args)else cx.call f args)=_;rw[hf'];funext hp;simp only[Dx,ca,hx];rcases x with _|⟨b,v⟩
 ·rfl
 ·cases b<;>rfl
theorem bI.draw{P:Program}{cx:Cx}(h:bI P cx.own cx.call):bI P (dm cx).own (dm cx).call:=by
 intro f args hp S β w vs hr hg hw hh hv;have hcall:(dm cx).call f args hp=(bif cx.iso f then ca (cx.call f args) hp else cx.call f args hp):=by
  show (bif cx.iso f then ca (cx.call f args)else cx.call f args) hp=_;cases cx.iso f<;>rfl
 rw[hcall]at hr |-
 have key:∀r,r=cx.call f args hp->r≠.fail->Calls P f vs.toArray w (cF ((dm cx).own f) S β hp w r)/\(P.funcs[f]?).any (fun fn=>fn.body.isSome&&!(fn.name== "runtime.NumGoroutine"))=true:=by
  intro r hr1 hr2;subst hr1;exact h f args hp S β w vs hr2 hg hw hh hv
 cases hi:cx.iso f with
 |false=>rw[hi]at hr;exact key _ rfl hr
 |true=>
  rw[hi]at hr;simp only[Dx,ca]at hr |-;cases hx:cx.call f args hp with
  |ok v hq=>rw[hx]at hr;exact key _ hx.symm (by simp)
  |pan v hq=>rw[hx]at hr;exact absurd rfl hr
  |fail=>rw[hx]at hr;exact absurd rfl hr
def gu(c:Entry)(N:Nat)(e:Env)(h:Hp)(a:Act)(w:World):Prop:=cX c N (fun g=>g<e.nx*1000) e h a w
theorem cX.rel{c:Entry}{N:Nat}{U:Nat->Prop}{e2 e:Env}{h:Hp}{a:Act}{w:World}{ops:Array Oper}(H:cX c N U e h a w)(R:Rel ops [] e2 e):cX c N U e2 h a w:=by
 obtain⟨S,β,γ,lam,ω,F⟩:=H;refine⟨S,β,γ,lam,ω,F.weak (fun t=>?_) (fun t g hg=>?_) (fun g z hz=>by rw[R.al]at hz;exact hz) (fun B n hB=>by rw[R.lb]at hB;exact hB)⟩
 ·rcases R.get t with h|⟨h1,h2,_⟩
  ·exact .inl (by rw[h])
  ·exact .inr ⟨by rw[h1];rfl,h2⟩
 ·rcases R.get t with h|⟨h1,_⟩
  ·rw[h]at hg;exact hg
  ·rw[h1]at hg;cases hg
theorem cX.eqE{c:Entry}{N:Nat}{U:Nat->Prop}{e2 e:Env}{h:Hp}{a:Act}{w:World}(H:cX c N U e h a w)(R:EqE e e2):cX c N U e2 h a w:=by
 obtain⟨S,β,γ,lam,ω,F⟩:=H;exact⟨S,β,γ,lam,ω,F.weak (fun t=>.inl (by rw[R.get])) (fun t g hg=>by rw[R.get]at hg;exact hg) (fun g z hz=>by rw[R.al]at hz;exact hz) (fun B n hB=>by rw[R.lb]at hB;exact hB)⟩
theorem cX.nx{c:Entry}{N:Nat}{U:Nat->Prop}{e:Env}{h:Hp}{a:Act}{w:World}(n:Nat)(H:cX c N U e h a w):cX c N U { e with nx:=n } h a w:=by
 obtain⟨S,β,γ,lam,ω,F⟩:=H;exact⟨S,β,γ,lam,ω,F.weak (fun t=>.inl rfl) (fun t g hg=>hg) (fun g z hz=>hz) (fun B n hB=>hB)⟩
section
variable {P:Program} {cx:Cx} {c:Entry} {e:Env} {h:Hp} {a:Act} {w:World} {ops:Array Oper} {id:Nat}
omit [Dr]in
theorem my{n:Nat}(hn:n<=1000)(hd:fC n ops=true)(hk:∀p,tD (bq cx.ann.kinds p .L)=true->p<n):OpsOk n cx ops/\Small ops:=by
 unfold fC at hd;rw[Array.all_eq_true_iff_forall_mem]at hd;have h1:∀(i:Nat)(o:Oper),ops[i]? = some o->(∀t,o.dst=some t->t<n)/\∀t∈fA o,t<1000:=by
  intro i o ho
  have:=hd o (Array.mem_of_getElem? ho)
  simp only[Dy,DL,DK]at this;refine⟨fun t ht=>?_,this.2⟩;have h2:=this.1;rw[ht]at h2;simpa using h2
 refine⟨⟨fun i o ho=>(h1 i o ho).1,fun i o ho x hx t hxt=>(h1 i o ho).2 t ?_,hk⟩,⟨fun i o ho t ht=>Ec ((h1 i o ho).1 t ht) hn,fun i o ho=>(h1 i o ho).2⟩⟩;subst hxt;exact FM.2 ⟨_,hx,rfl⟩
theorem tS{ρ:Type}(hT:TOK P cx.T)(hC:bI P cx.own cx.call)(hI:IsoCall cx)(hk:∀p,tD (bq cx.ann.kinds p .L)=true->p<cx.nt){draw:Bool}{k:Env->M ρ}(H:gu c cx.nt e h a w)(hr:j0 cx id ops draw e k h≠.fail){Q:Exit->Act->World->Prop}(hn:∀e' h' a' w',j0 cx id ops draw e k h=k e' h'->gu c cx.nt e' h' a' w'->a'.defers=a.defers->Q .normal a' w')(hp:∀pv h' v w' a',j0 cx id ops draw e k h= .pan pv h'->ij c pv h' v w'->a'.defers=a.defers->Q (.panic [{ v,recovered:=false }]) a' w'):
  (Code.region id ops draw).wp P Q a w:=by
 have hN:cx.nt<=1000:=by obtain⟨S,β,γ,lam,ω,F⟩:=H;exact F.tsz.2
 have H0:cX c cx.nt (UD e.nx []) e h a w:=H.wider fun g hg=>.inl hg;unfold j0 at hr hn hp;cases hds:fC cx.nt ops with
 |false=>rw[hds]at hr;exact absurd rfl hr
 | true=>
  obtain⟨hO,hS⟩:=my (cx:=cx) hN hds hk;rw[hds]at hr hn hp;simp only[Dx]at hr hn hp;cases draw with
  | false=>
   simp only[DF]at hr hn hp;obtain⟨hfl,hgs⟩:=fv ops (List.range ops.size);refine wp_region (nE hT hC hO (List.range ops.size) [] e h a w List.nodup_range (by simp) H0 ?_ ?_ ?_)
   all_goals
    have hseq:=fF (cx:=cx) (base:=e.nx) hS (cn ops (List.range ops.size)) e e _ h hgs (.refl ops _ e) hr;rw[hfl]at hseq
   ·rcases hseq with⟨_,_,_,_,h2,_⟩|⟨_,_,_,h2⟩<;>rw[h2]<;>simp
   ·intro e' h' a' w' hok hsat hdf;rcases hseq with⟨e2',e'',h'',h1,h2,hR⟩|⟨_,_,_,h2⟩
    ·rw[h2]at hok;cases hok;refine hn _ _ a' w' h1 (cX.nx _ ((hsat.wider (xZ ?_)).rel hR)) hdf;intro i hi;simpa using hi
    ·rw[h2]at hok;cases hok
   ·intro pv h' v w' a' hok hps hdf;rcases hseq with⟨e2',e'',h'',h1,h2,hR⟩|⟨_,_,h1,h2⟩
    ·rw[h2]at hok;cases hok
    ·rw[h2]at hok;cases hok;exact hp _ _ v w' a' h1 hps hdf
  | true=>
   simp only[Dx]at hr hn hp;generalize nz cx id ops.size=ord at hr hn hp;cases hdo:iu cx ops ord with
   |false=>rw[hdo]at hr;exact absurd rfl hr
   | true=>
    rw[hdo]at hr hn hp;simp only[Dx]at hr hn hp;simp only[iu,wd,Dy,DL,DK]at hdo;obtain⟨⟨⟨⟨⟨hlen,hmem⟩,hdist⟩,hlt⟩,hbits⟩,hpairs⟩:=hdo;have hlen':ord.length=ops.size:=DC hlen;obtain⟨hpw,hself⟩:=kj (cx:=cx) (ops:=ops) hpairs;have hpw':ord.Pairwise (t8 (dm cx) ops):=hpw;have hO':OpsOk cx.nt (dm cx) ops:=⟨hO.dst,hO.src,hO.kin⟩;obtain⟨hfl,hgs⟩:=fv ops ord;have hseq:=fF (cx:=dm cx) (base:=e.nx) hS (cn ops ord) e e _ h hgs (.refl ops _ e) hr;rw[hfl]at hseq;refine wp_region_draw fun t=>?_;have hsch:Region.schedule (P.follows .mixedOrders) ops t=Region.linearise .any ops t:=by
     simp only[Region.schedule,hT.mix,Bool.true_or,Ep]
    rw[hsch];have hmem':∀i,i∈ord↔i<ops.size:=fun i=>⟨fun hi=>hlt i hi,fun hi=>(eA _ _).1 (hmem i (by simpa using hi))⟩;refine wpAny_sound ops.size t _ a _ (pq (cx:=dm cx) (c:=c) (N:=cx.nt) (base:=e.nx) hT hC.draw hI.draw hO' hS ?_ ?_ ops.size ord (Array.replicate ops.size false) [] e h a w.drew hlen' (by simp) (gF hdist) ?_ (by simp) (by simp) ?_ hpw' ?_ ?_ ?_ ?_)
    ·intro i x hx;rcases DU x ops.size with h'|h'
     ·exact h'
     ·have hm:(gC ops).getD i 0<2 ^ ops.size:=by
       rw[Ek];cases hi:(gC ops)[i]? with
       |none=>simp;exact Nat.pow_pos (by omega)
       |some m=>exact hbits m (ET hi)
      rw[Nat.testBit_lt_two_pow (Ec hm (Nat.pow_le_pow_right (by omega) h'))]at hx;cases hx
    ·exact fun i hi=>hself i ((hmem' i).2 hi)
    ·intro i;rw[hmem'];constructor
     ·intro hi;refine⟨hi,?_⟩;rw[D5,Gv,DG hi];rfl
     ·exact fun hi=>hi.1
    ·intro j o ho hj;exfalso;rw[D5,Gv]at hj;split at hj<;>simp at hj
    ·obtain⟨S,β,γ,lam,ω,F⟩:=H0;exact⟨S,β,γ,lam,ω,F.drew⟩
    ·rcases hseq with⟨_,_,_,_,h2,_⟩|⟨_,_,_,h2⟩<;>rw[h2]<;>simp
    ·intro e0 e' h' a' w' hok heq hsat hdf;rcases hseq with⟨e2',e'',h'',h1,h2,hR⟩|⟨_,_,_,h2⟩
     ·rw[h2]at hok;cases hok;exact hn _ _ a' w' h1 (cX.nx _ ((hsat.eqE heq.symm).rel hR)) hdf
     ·rw[h2]at hok;cases hok
    ·intro pv h' v w' a' hok hps hdf;rcases hseq with⟨e2',e'',h'',h1,h2,hR⟩|⟨_,_,h1,h2⟩
     ·rw[h2]at hok;cases hok
     ·rw[h2]at hok;cases hok;exact hp _ _ v w' a' h1 hps hdf
end
end Go.Av
namespace Go.Av
variable [Dr]
omit [Dr]in
theorem ga{e:Env}:∀(l:List (Nat×Option Nat))(used:List Nat)(vs:List AV),eB e l used=some vs->vs.length=l.length/\
  (∀(i:Nat)(t:Nat)(z:Option Nat),l[i]? = some (t,z)->∃a,vs[i]? = some a/\(e.get t).v= .val a/\∀sz,z=some sz->∃g z0,(e.get t).g=some g/\aA e.al g=some z0/\(z0=none\/z0=some sz)/\g ∉ used)/\
  ∀(i j:Nat)(t t' sz sz':Nat),i<j->l[i]? = some (t,some sz)->l[j]? = some (t',some sz')->(e.get t).g≠(e.get t').g
 |[],used,vs,h=>by
  simp only[eB,Dw]at h;subst h;exact⟨rfl,by simp,by simp⟩
 | (t,none):: r,used,vs,h=>by
  simp only[eB]at h;split at h
  ·rename_i a ha;split at h
   ·rename_i vs' hvs;simp only[Dw]at h;subst h;obtain⟨h1,h2,h3⟩:=ga r used vs' hvs;refine⟨by simp[h1],fun i t' z hi=>?_,fun i j t1 t2 sz1 sz2 hij hi hj=>?_⟩
    ·cases i with
     |zero=>
      simp only[D9,Dw,Em]at hi;obtain⟨rfl,rfl⟩:=hi;exact⟨a,rfl,ha,fun sz hsz=>by cases hsz⟩
     |succ i=>simpa using h2 i t' z (by simpa using hi)
    ·cases i with
     |zero=>simp at hi
     |succ i=>
      cases j with
      |zero=>omega
      |succ j=>exact h3 i j t1 t2 sz1 sz2 (by omega) (by simpa using hi) (by simpa using hj)
   ·cases h
  ·cases h
 | (t, some sz):: r,used,vs,h=>by
  simp only[eB]at h;split at h
  ·rename_i a g ha hg;split at h
   ·cases h
   ·rename_i z0 hz0;have hcond:oM z0 (some sz)=true/\dB used g=false/\(match eB e r (g:: used)with|some vs=>some (a:: vs)|none=>none)=some vs:=by
     cases hm:dB used g with
     | true=>
      rw[hm]at h;cases z0 with
      |none=>cases h
      |some n=>
       simp only at h;cases hb:Nat.beq n sz<;>rw[hb]at h<;>cases h
     | false=>
      rw[hm]at h;cases z0 with
      |none=>exact⟨rfl,rfl,h⟩
      |some n=>
       simp only at h;cases hb:Nat.beq n sz with
       |true=>rw[hb]at h;exact⟨hb,rfl,h⟩
       |false=>rw[hb]at h;cases h
    obtain⟨hc1,hc2,h⟩:=hcond;have hc:=And.intro hc1 hc2
    ·split at h
     ·rename_i vs' hvs;simp only[Dw]at h;subst h;have hgu:g ∉ used:=fun hm=>by
       rw[(eA _ _).2 hm]at hc;exact Bool.noConfusion hc.2
      have hz:z0=none\/z0=some sz:=by
       cases z0 with
       |none=>exact .inl rfl
       |some n=>exact .inr (by rw[DC hc.1])
      obtain⟨h1,h2,h3⟩:=ga r (g:: used) vs' hvs;refine⟨by simp[h1],fun i t' z hi=>?_,fun i j t1 t2 sz1 sz2 hij hi hj=>?_⟩
      ·cases i with
       |zero=>
        simp only[D9,Dw,Em]at hi;obtain⟨rfl,rfl⟩:=hi;exact⟨a,rfl,ha,fun sz' hsz=>by cases hsz;exact⟨g,z0,hg,hz0,hz,hgu⟩⟩
       |succ i=>
        obtain⟨a',k1,k2,k3⟩:=h2 i t' z (by simpa using hi);refine⟨a',by simpa using k1,k2,fun sz' hsz=>?_⟩;obtain⟨g',z',m1,m2,m3,m4⟩:=k3 sz' hsz;exact⟨g',z',m1,m2,m3,fun hm=>m4 (by simp[hm])⟩
      ·cases i with
       | zero=>
        cases j with
        |zero=>omega
        |succ j=>
         simp only[D9,Dw,Em]at hi;obtain⟨rfl,_⟩:=hi;obtain⟨a',k1,k2,k3⟩:=h2 j t2 (some sz2) (by simpa using hj);obtain⟨g',z',m1,m2,m3,m4⟩:=k3 sz2 rfl;rw[hg,m1];intro hh;simp only[Dw]at hh;exact m4 (by simp[hh])
       |succ i=>
        cases j with
        |zero=>omega
        |succ j=>exact h3 i j t1 t2 sz1 sz2 (by omega) (by simpa using hi) (by simpa using hj)
     ·cases h
  ·cases h
omit [Dr]in
theorem gt(vs:List AV)(r:List (Nat×Ent))(t:Nat):∀(l:List (Nat×Option Nat))(k:Nat),
  (∃(i:Nat)(z:Option Nat),l[i]? = some (t,z)/\bd (bB vs k l++r) t=⟨.val (nth vs (k+i)),z.map fun _=>k+i⟩)\/
  ((∀(i:Nat)(z:Option Nat),l[i]? ≠some (t,z))/\bd (bB vs k l++r) t=bd r t)
 |[],k=>.inr ⟨by simp,rfl⟩
 | (s,z):: l,k=>by
  have hh:bB vs k ((s,z):: l)=(s,⟨.val (nth vs k),z.map fun _=>k⟩):: bB vs (k+1) l:=by cases z<;>rfl
  rw[hh,Eg,bm];by_cases hs:s=t
  ·subst hs;rw[DG rfl];exact .inl ⟨0,z,rfl,rfl⟩
  ·rw[if_neg hs];rcases gt vs r t l (k+1)with⟨i,z',h1,h2⟩|⟨h1,h2⟩
   ·refine .inl ⟨i+1,z',by simpa using h1,?_⟩;rw[h2,show k+1+i=k+(i+1) by omega]
   ·refine .inr ⟨fun i z' hi=>?_,h2⟩;cases i with
    |zero=>simp at hi;exact hs hi.1
    |succ i=>exact h1 i z' (by simpa using hi)
omit [Dr]in
theorem eq:∀(l:List (Nat×Option Nat))(k g:Nat)(y:Option Nat),aA (fQ k l) g=some y->∃(i t sz:Nat),l[i]? = some (t,some sz)/\g=k+i/\y=some sz
 |[],k,g,y,h=>by simp[fQ,aA]at h
 |(s,none):: l,k,g,y,h=>by
  obtain⟨i,t,sz,h1,h2,h3⟩:=eq l (k+1) g y h;exact⟨i+1,t,sz,by simpa using h1,by omega,h3⟩
 | (s,some n):: l,k,g,y,h=>by
  simp only[fQ,bg]at h;split at h
  ·rename_i hk;simp only[Dw]at h;exact⟨0,s,n,rfl,by omega,h.symm⟩
  ·obtain⟨i,t,sz,h1,h2,h3⟩:=eq l (k+1) g y h;exact⟨i+1,t,sz,by simpa using h1,by omega,h3⟩
omit [Dr]in
theorem jK(t:Nat):∀(l:List (Nat×Nat×Nat)),(∃B off,(t,B,off)∈l/\bd (l.map fun x=>(x.1,(⟨.loc x.2.1 x.2.2,none⟩:Ent))) t=⟨.loc B off,none⟩)\/bd (l.map fun x=>(x.1,(⟨.loc x.2.1 x.2.2,none⟩:Ent))) t=Ent.none
 |[]=>.inr rfl
 | (s,B,off):: l=>by
  rw[D8,bm];by_cases hs:s=t
  ·subst hs;rw[DG rfl];exact .inl ⟨B,off,by simp,rfl⟩
  ·rw[if_neg hs];rcases jK t l with⟨B',off',h1,h2⟩|h
   ·exact .inl ⟨B',off',by simp[h1],h2⟩
   ·exact .inr h
omit [Dr]in
theorem lI{e:Env}:∀ {l:List (Nat×Nat×Nat)},lH e l=true->∀t B off,(t,B,off)∈l->(e.get t).v= .loc B off
 |[],_,t,B,off,h=>by simp at h
 | (s,B0,off0):: l,h,t,B,off,hm=>by
  simp only[lH,Dy]at h;simp only[DX,Em]at hm;rcases hm with⟨rfl,rfl,rfl⟩|hm
  ·have h1:=h.1;split at h1
   ·rename_i B' off' hv;simp only[Dy]at h1;rw[hv,DC h1.1,DC h1.2]
   ·cases h1
  ·exact lI h.2 t B off hm
omit [Dr]in
theorem nj{e:Env}:∀ {l:List (Nat×Nat)},pY e l=true->∀B n,aT l B=some n->aT e.lb B=some n
 |[],_,B,n,h=>by simp[aT]at h
 | (B0,n0):: l,h,B,n,hm=>by
  simp only[pY,Dy]at h;rw[cI]at hm;split at hm
  ·rename_i hB;subst hB;simp only[Dw]at hm;subst hm;have h1:=h.1;split at h1
   ·rename_i m hv;rw[hv,DC h1]
   ·cases h1
  ·exact nj h.2 B n hm
section
variable {c:Entry} {N:Nat} {e:Env} {h:Hp} {a:Act} {w:World}
open Classical in
theorem oQ{ja:JA}{vs:List AV}(H:gu c N e h a w)(hp:pack ja e=some vs):gu c N (unpack ja vs) h a w:=by
 obtain⟨S,β,γ,lam,ω,F⟩:=H;unfold pack at hp;cases hlo:(lH e ja.locs&&pY e ja.lbs)with
 |false=>rw[hlo]at hp;cases hp
 | true=>
  rw[hlo]at hp;simp only[Dx]at hp;simp only[Dy]at hlo;obtain⟨hlen,hval,hdis⟩:=ga ja.vals [] vs hp
  -- the groups carried
  let gOf:Nat->Option Nat:=fun i=>match ja.vals[i]? with|some (t,some _)=>(e.get t).g|_=>none
  have hg1:∀i t sz,ja.vals[i]? = some (t,some sz)->∃g z0,gOf i=some g/\(e.get t).g=some g/\aA e.al g=some z0/\(z0=none\/z0=some sz):=by
   intro i t sz hi;obtain⟨a',_,_,h3⟩:=hval i t (some sz) hi;obtain⟨g,z0,k1,k2,k3,_⟩:=h3 sz rfl;refine⟨g,z0,?_,k1,k2,k3⟩;show (match ja.vals[i]? with|some (t,some _)=>(e.get t).g|_=>none)=some g;rw[hi];exact k1
  have hg2:∀i j g,gOf i=some g->gOf j=some g->i=j:=by
   have hex:∀i g,gOf i=some g->∃t sz,ja.vals[i]? = some (t,some sz)/\(e.get t).g=some g:=by
    intro i g hi;have hi':(match ja.vals[i]? with|some (t,some _)=>(e.get t).g|_=>none)=some g:=hi;split at hi'
    ·rename_i t sz ht;exact⟨t,sz,ht,hi'⟩
    ·cases hi'
   intro i j g hi hj;obtain⟨t,sz,k1,k2⟩:=hex i g hi;obtain⟨t',sz',m1,m2⟩:=hex j g hj;rcases Nat.lt_trichotomy i j with hlt|heq|hlt
   ·exact absurd (k2.trans m2.symm) (hdis i j t t' sz sz' hlt k1 m1)
   ·exact heq
   ·exact absurd (m2.trans k2.symm) (hdis j i t' t sz' sz hlt m1 k1)
  let γ':Nat->Value:=fun i=>match gOf i with|some g=>γ g|none=>undef
  let ω':Nat->Owner:=fun b=>match ω b with
   |.grp g=>if hx:∃i,gOf i=some g then .grp (Classical.choose hx)else .no
   |o=>o
  have hωg:∀b g i,ω b= .grp g->gOf i=some g->ω' b= .grp i:=by
   intro b g i hb hi;show (match ω b with|.grp g=>if hx:∃i,gOf i=some g then Owner.grp (Classical.choose hx)else .no|o=>o)= .grp i;rw[hb];simp only;have hx:∃i,gOf i=some g:=⟨i,hi⟩;rw[dif_pos hx,hg2 _ _ g (FW hx) hi]
  have hωo:∀b,(∀g,ω b≠.grp g)->ω' b=ω b:=by
   intro b hb;show (match ω b with|.grp g=>if hx:∃i,gOf i=some g then Owner.grp (Classical.choose hx)else .no|o=>o)=ω b;cases ho:ω b with
   |grp g=>exact absurd ho (hb g)
   |_=>rfl
  have hωn:∀b,ω' b≠.no->ω b≠.no:=by
   intro b hb ho;refine hb ?_;rw[hωo b (fun g hg=>by rw[ho]at hg;cases hg),ho]
  have hωx:∀b g,ω' b= .grp g->∃g',ω b= .grp g':=by
   intro b g hg;cases ho:ω b with
   |grp g'=>exact⟨g',rfl⟩
   |_=>rw[hωo b (fun g' h'=>by rw[ho]at h';cases h'),ho]at hg;cases hg
  -- the slots
  have hget:∀t,(∃(i:Nat)(z:Option Nat)(a':AV),ja.vals[i]? = some (t,z)/\(e.get t).v= .val a'/\(unpack ja vs).get t=⟨.val a',z.map fun _=>i⟩)\/(∃B off,(e.get t).v= .loc B off/\(unpack ja vs).get t=⟨.loc B off,none⟩)\/(unpack ja vs).get t=Ent.none:=by
   intro t;have hu:(unpack ja vs).get t=bd (bB vs 0 ja.vals++ja.locs.map fun x=>(x.1,(⟨.loc x.2.1 x.2.2,none⟩:Ent))) t:=rfl;rcases gt vs (ja.locs.map fun x=>(x.1,(⟨.loc x.2.1 x.2.2,none⟩:Ent))) t ja.vals 0 with⟨i,z,h1,h2⟩|⟨h1,h2⟩
   ·obtain⟨a',k1,k2,_⟩:=hval i t z h1;refine .inl ⟨i,z,a',h1,k2,?_⟩;rw[hu,h2,DW];have:nth vs i=a':=by simp[nth,k1]
    rw[this]
   ·rcases jK t ja.locs with⟨B,off,k1,k2⟩|k
    ·exact .inr (.inl ⟨B,off,lI hlo.1 t B off k1,by rw[hu,h2,k2]⟩)
    ·exact .inr (.inr (by rw[hu,h2,k]))
  have hgg:∀t g,((unpack ja vs).get t).g=some g->∃sz,ja.vals[g]? = some (t,some sz):=by
   intro t g hg;rcases hget t with⟨i,z,a',h1,_,h3⟩|⟨_,_,_,h3⟩|h3
   ·rw[h3]at hg;cases z with
    |none=>simp at hg
    |some sz=>simp at hg;subst hg;exact⟨sz,h1⟩
   ·rw[h3]at hg;cases hg
   ·rw[h3]at hg;cases hg
  have hγ:∀t g,((unpack ja vs).get t).g=some g->∃g0 z0,(e.get t).g=some g0/\aA e.al g0=some z0/\γ' g=γ g0:=by
   intro t g hg;obtain⟨sz,h1⟩:=hgg t g hg;obtain⟨g0,z0,k1,k2,k3,_⟩:=hg1 g t sz h1;refine⟨g0,z0,k2,k3,?_⟩;show (match gOf g with|some g=>γ g|none=>undef)=γ g0;rw[k1]
  refine⟨S,β,γ',lam,ω',⟨F.wf,F.gro,F.keep,F.le,F.ext,F.hlen,fun l cs hl hcs=>?_,F.tsz,fun t ht=>?_,fun t g z ht hg hz=>?_,fun B n hB=>?_,fun g z hz=>?_,fun b hb=>⟨(F.mine b (hωn b hb)).1.imp (fun hE=>⟨hE.1,fun g hg=>by obtain⟨g',h'⟩:=hωx b g hg;exact hE.2 g' h'⟩) id,(F.mine b (hωn b hb)).2⟩,fun t g hg=>?_,fun g z hz=>?_⟩⟩
  ·rcases F.heap l cs hl hcs with⟨b,x,h1,h2,h3,h4⟩|⟨b,h1,h3,h4⟩
   ·exact .inl ⟨b,x,h1,h2,by rw[hωo b (fun g hg=>by rw[h3]at hg;cases hg)];exact h3,h4⟩
   ·exact .inr ⟨b,h1,by rw[hωo b (fun g hg=>by rw[h3]at hg;cases hg)];exact h3,h4⟩
  ·have hs:=F.slots t ht;rcases hget t with⟨i,z,a',_,h2,h3⟩|⟨B,off,h2,h3⟩|h3
   ·rw[h3];rw[h2]at hs;exact hs
   ·rw[h3];rw[h2]at hs;exact hs
   ·rw[h3];simp[Ent.none,dD,VR]
  ·obtain⟨g0,z0,k1,k2,k3⟩:=hγ t g hg;rw[k3];exact F.grps t g0 z0 ht k1 k2
  ·obtain⟨k1,k2,k3,b,x,k4,k5,k6,k7,k8⟩:=F.lblk B n (nj hlo.2 B n hB);refine⟨k1,k2,k3,b,x,k4,k5,by rw[hωo b (fun g hg=>by rw[k6]at hg;cases hg)];exact k6,k7,fun i hi=>?_⟩;obtain⟨v,a',m1,m2,m3,m4⟩:=k8 i hi;have hgr:∀g z,((unpack ja vs).get (B+i)).g=some g->aA (unpack ja vs).al g=some z->v=γ' g:=by
    intro g z hg _;obtain⟨g0,z0,p1,p2,p3⟩:=hγ _ g hg;rw[p3];exact m4 g0 z0 p1 p2
   rcases hget (B+i)with⟨j,z,a2,_,h2,h3⟩|⟨B',off,h2,h3⟩|h3
   ·refine⟨v,a2,m1,by rw[h3],?_,hgr⟩;rw[m2]at h2;cases h2;exact m3
   ·rw[m2]at h2;cases h2
   ·exact⟨v,.any,m1,by rw[h3];rfl,by simp[VR],hgr⟩
  ·obtain⟨i,t,sz,h1,h2,h3⟩:=eq ja.vals 0 g z hz;rw[DW]at h2;subst h2;obtain⟨g0,z0,k1,k2,k3,k4⟩:=hg1 g t sz h1;have hγ':γ' g=γ g0:=by
    show (match gOf g with|some g=>γ g|none=>undef)=γ g0;rw[k1]
   rw[hγ'];obtain⟨ad,len,cap,m1,m2,m3,m4⟩:=F.free g0 z0 k3;refine⟨ad,len,cap,m1,m2,m3,m4.imp id ?_⟩;rintro⟨sz',b,off,x,p1,p2,p3,p4,p5,p6⟩;have:sz'=sz:=by
    rcases k4 with k4|k4<;>rw[k4]at p1<;>cases p1;rfl
   subst this;exact⟨sz',b,off,x,h3,p2,p3,p4,hωg b g0 g p5 k1,p6⟩
  ·obtain⟨sz,h1⟩:=hgg t g hg;have:g<ja.vals.length:=by
    rcases DU g ja.vals.length with h|h
    ·exact h
    ·rw[DI h]at h1;cases h1
   show g<ja.vals.length*1000;omega
  ·obtain⟨i,t,sz,h1,h2,h3⟩:=eq ja.vals 0 g z hz;have:i<ja.vals.length:=by
    rcases DU i ja.vals.length with h|h
    ·exact h
    ·rw[DI h]at h1;cases h1
   show g<ja.vals.length*1000;omega
omit [Dr]in
theorem xw(d:Nat)(h:Hp):gx d h .any= .any:=by cases d<;>rfl
omit [Dr]in
theorem sG(g:AV->AV)(hg:g .any= .any)(vs:List AV)(i:Nat):nth (vs.map g) i=g (nth vs i):=by
 unfold nth;rw[Ek,Ek,ED];cases vs[i]? with
 |none=>simp[hg]
 |some v=>rfl
structure Reval (g:AV->AV) (x y:Ent):Prop where
 gr:y.g=x.g
 v:(∃a,x.v= .val a/\y.v= .val (g a))\/(∃B off,x.v= .loc B off/\y.v= .loc B off)
omit [Dr]in
theorem eh(g:AV->AV)(hg:g .any= .any)(vs:List AV)(r:List (Nat×Ent))(hr:∀t,Reval g (bd r t) (bd r t))(t:Nat):∀(l:List (Nat×Option Nat))(k:Nat),
  Reval g (bd (bB vs k l++r) t) (bd (bB (vs.map g) k l++r) t)
 |[],k=>by simpa [bB]using hr t
 |(s,none):: l,k=>by
  simp only[bB,Eg,bd];cases Nat.beq s t with
  |true=>exact⟨rfl,.inl ⟨_,rfl,by simp only[Dx];rw[sG g hg]⟩⟩
  |false=>exact eh g hg vs r hr t l (k+1)
 |(s,some z):: l,k=>by
  simp only[bB,Eg,bd];cases Nat.beq s t with
  |true=>exact⟨rfl,.inl ⟨_,rfl,by simp only[Dx];rw[sG g hg]⟩⟩
  |false=>exact eh g hg vs r hr t l (k+1)
omit [Dr]in
theorem oP(g:AV->AV)(hg:g .any= .any)(ja:JA)(vs:List AV)(t:Nat):Reval g ((unpack ja vs).get t) ((unpack ja (vs.map g)).get t):=by
 refine eh g hg vs _ (fun t=>?_) t ja.vals 0;rcases jK t ja.locs with⟨B,off,_,k2⟩|k
 ·rw[k2];exact⟨rfl,.inr ⟨B,off,rfl,rfl⟩⟩
 ·rw[k];exact⟨rfl,.inl ⟨.any,rfl,by simp[Ent.none,hg]⟩⟩
theorem FR.reval{U:Nat->Prop}{S:ap}{β:List a8}{γ:Nat->Value}{lam:Nat->Option Nat}{ω:Nat->Owner}{e2:Env}{h2:Hp}{S2:ap}{ω2:Nat->Owner}{g:AV->AV}(F:FR c N U e h a w S β γ lam ω)(F2:FR c N U e h2 a w S2 β γ lam ω2)(hg:∀x v,VR S β x v->VR S2 β (g x) v)(hr:∀t,Reval g (e.get t) (e2.get t))(hal:e2.al=e.al)(hlb:e2.lb=e.lb):FR c N U e2 h2 a w S2 β γ lam ω2:=by
 refine⟨F2.wf,F2.gro,F2.keep,F2.le,F2.ext,F2.hlen,F2.heap,F2.tsz,fun t ht=>?_,fun t k z ht hk hz=>?_,fun B n hB=>?_,fun k z hz=>F2.free k z (by rw[<- hal];exact hz),F2.mine,fun t k hk=>?_,fun k z hz=>F2.used.2 k z (by rw[<- hal];exact hz)⟩
 ·have h1:=F.slots t ht;rcases (hr t).v with⟨x,q1,q2⟩|⟨B,off,q1,q2⟩
  ·rw[q1]at h1;rw[q2];exact hg _ _ h1
  ·rw[q1]at h1;rw[q2];exact h1
 ·rw[(hr t).gr]at hk;rw[hal]at hz;exact F2.grps t k z ht hk hz
 ·rw[hlb]at hB;obtain⟨k1,k2,k3,b,x,k4,k5,k6,k7,k8⟩:=F2.lblk B n hB;obtain⟨_,_,_,b',x',j4,j5,j6,j7,j8⟩:=F.lblk B n hB;rw[k4]at j4;cases j4;cases k5.inj j5;refine⟨k1,k2,k3,b,x,k4,k5,k6,k7,fun i hi=>?_⟩;obtain⟨v,a',m1,m2,m3,m4⟩:=k8 i hi;obtain⟨v',a'',n1,n2,n3,_⟩:=j8 i hi;rw[m1]at n1;cases n1;rcases (hr (B+i)).v with⟨y,q1,q2⟩|⟨B',off,q1,q2⟩
  ·rw[n2]at q1;cases q1;refine⟨v,g a'',m1,q2,hg _ _ n3,fun k z hk hz=>?_⟩;rw[(hr (B+i)).gr]at hk;rw[hal]at hz;exact m4 k z hk hz
  ·rw[n2]at q1;cases q1
 ·rw[(hr t).gr]at hk;exact F2.used.1 t k hk
theorem mA{ja:JA}{vs:List AV}(H:gu c N (unpack ja vs) h a w):gu c N (unpack ja (vs.map (gx 6 h))) (h.map fun _=>[]) a w:=by
 obtain⟨S,β,γ,lam,ω,F⟩:=H;obtain⟨S2,ω2,F2,hf⟩:=F.freeze;have F3:=F.reval F2 (g:=gx 6 h) (fun x v hx=>hf _ _ hx) (oP _ (xw 6 h) ja vs) (e2:=unpack ja (vs.map (gx 6 h))) rfl rfl;exact⟨S2,β,γ,lam,ω2,F3⟩
end
end Go.Av
namespace Go.Av
variable [Dr]
section
variable {P:Program} {cx:Cx} {c:Entry} {e:Env} {h:Hp} {a:Act} {w:World} {ops:Array Oper} {id:Nat}
theorem rK{ρ:Type}(hT:TOK P cx.T)(hC:bI P cx.own cx.call)(hI:IsoCall cx)(hk:∀p,tD (bq cx.ann.kinds p .L)=true->p<cx.nt){draw:Bool}{k:Env->M ρ}(H:gu c cx.nt e h a w)(hr:jv cx id ops draw e k h≠.fail){Q:Exit->Act->World->Prop}(hn:∀e' h' a' w',jv cx id ops draw e k h=k e' h'->gu c cx.nt e' h' a' w'->a'.defers=a.defers->Q .normal a' w')(hp:∀pv h' v w' a',jv cx id ops draw e k h= .pan pv h'->ij c pv h' v w'->a'.defers=a.defers->Q (.panic [{ v,recovered:=false }]) a' w'):
  (Code.region id ops draw).wp P Q a w:=tS hT hC hI hk H hr hn hp
end
end Go.Av
namespace Go.Av
variable [Dr]
section
variable {P:Program} {Q:Exit->Act->World->Prop} {b:Code}
def gz(P:Program)(c:Code)(Q:Exit->Act->World->Prop)(a:Act)(w:World):Prop:=
 ∀(b:Frame)(k:List Item)(cs:List Frame),∃e a' w',Q e a' w'/\Arrives P (lone (b.at a (.code c:: .inLoop c:: k)) cs w) b k cs e a' w'
omit [Dr]in
theorem gz.loop{a:Act}{w:World}(h:gz P b Q a w):(Code.loop b).wp P Q a w:=
 fun f k cs=>let ⟨e,a',w',q,r⟩:=h f k cs;⟨e,a',w',q,.of_steps (.one step_loop) r⟩
omit [Dr]in
theorem gz.round{a:Act}{w:World}(h:b.wp P (Exit.then (gz P b Q) Q) a w):gz P b Q a w:=by
 intro f k cs;obtain⟨e,a₁,w₁,hq,harr⟩:=h f (.inLoop b:: k) cs;cases e with
 |normal=>
  obtain⟨e₂,a₂,w₂,hq₂,harr₂⟩:=hq f k cs;exact⟨e₂,a₂,w₂,hq₂,.of_steps (Steps.trans harr (.one step_inLoop)) harr₂⟩
 |exit id=>exact⟨_,a₁,w₁,hq,.pass (x:=.inLoop b) rfl (fun _ _=>.inl (by simp)) harr⟩
 |goto l=>exact⟨_,a₁,w₁,hq,.pass (x:=.inLoop b) rfl (fun _ _=>.inl (by simp)) harr⟩
 |ret=>exact⟨_,a₁,w₁,hq,.pass (x:=.inLoop b) rfl (fun _ _=>.inl (by simp)) harr⟩
 |panic ch=>exact⟨_,a₁,w₁,hq,.pass (x:=.inLoop b) rfl (fun _ _=>.inl (by simp)) harr⟩
 |outgrown=>exact⟨_,a₁,w₁,hq,.pass (x:=.inLoop b) rfl (fun _ _=>.inl (by simp)) harr⟩
end
section
variable {P:Program} {cx:Cx} {c:Entry} {ρ:Type}
omit [Dr]in
theorem uZ{fx:b9 ρ}{id:Nat}{code:Code}{e:Env}{kn kr:Env->M ρ}{kx:Nat->Env->M ρ}(hc:∀b,code≠.loop b):
  ev cx fx (.block id code) e kn kx kr=ev cx fx code e kn (fun i e'=>bif Nat.beq i id then kn e' else kx i e') kr:=by
 cases code<;>first|rfl|exact absurd rfl (hc _)
def rt(cx:Cx)(x:Code):Option JA:=match iI x with
 |some t=>j9 cx.ann.joins t
 |none=>none
omit [Dr]in
theorem zF{fx:b9 ρ}{x y:Code}{e:Env}{kn kr:Env->M ρ}{kx:Nat->Env->M ρ}:ev cx fx (.seq x y) e kn kx kr=(match rt cx x with
  |some ja=>jn (fun vs=>ev cx fx y (unpack ja vs) kn kx kr) fun j=>ev cx fx x e (mi ja j) kx kr
  |none=>ev cx fx x e (fun e'=>ev cx fx y e' kn kx kr) kx kr):=by
 unfold rt;simp only[ev];cases iI x with
 |none=>rfl
 |some t=>
  simp only;cases j9 cx.ann.joins t<;>rfl
structure Posts (c:Entry) (N:Nat) (r:R ρ) (a:Act) (kn:Env->M ρ) (kx:Nat->Env->M ρ) (kr:Env->M ρ) (Q:Exit->Act->World->Prop):Prop where
 nrm:∀e' h' a' w',r=kn e' h'->gu c N e' h' a' w'->a'.defers=a.defers->Q .normal a' w'
 ext:∀i e' h' a' w',r=kx i e' h'->gu c N e' h' a' w'->a'.defers=a.defers->Q (.exit i) a' w'
 ret:∀e' h' a' w',r=kr e' h'->gu c N e' h' a' w'->a'.defers=a.defers->Q .ret a' w'
 pan:∀pv h' v w' a',r= .pan pv h'->ij c pv h' v w'->a'.defers=a.defers->Q (.panic [{ v,recovered:=false }]) a' w'
theorem oO{ja:JA}{j:List AV->M ρ}{e:Env}{h:Hp}{N:Nat}{a:Act}{w:World}(H:gu c N e h a w)(hr:mi ja j e h≠.fail):∃vs h',mi ja j e h=j vs h'/\gu c N (unpack ja vs) h' a w:=by
 unfold mi at hr |-;cases hp:pack ja e with
 |none=>rw[hp]at hr;exact absurd rfl hr
 |some vs=>
  have hs:=oQ H hp;simp only;cases ja.fz with
  |false=>exact⟨vs,h,rfl,hs⟩
  |true=>exact⟨_,_,rfl,mA hs⟩
theorem vd(hT:TOK P cx.T)(hC:bI P cx.own cx.call)(hI:IsoCall cx)(hk:∀p,tD (bq cx.ann.kinds p .L)=true->p<cx.nt)(m:Nat):∀(n:Nat)(code:Code),SizeOf.sizeOf code<n->
  ∀(e:Env)(h:Hp)(a:Act)(w:World)(kn:Env->M ρ)(kx:Nat->Env->M ρ)(kr:Env->M ρ)(Q:Exit->Act->World->Prop),gu c cx.nt e h a w->ev cx (bU m) code e kn kx kr h≠.fail->
  Posts c cx.nt (ev cx (bU m) code e kn kx kr h) a kn kx kr Q->code.wp P Q a w:=by
 intro n
 induction n with
 |zero=>intro code hn;omega
 | succ n ih=>
  intro code hn e h a w kn kx kr Q H hr hp;cases code<;>(try exact absurd rfl hr)
  case skip=>exact wp_skip (hp.nrm e h a w rfl H rfl)
  case exit id=>exact wp_exit (hp.ext id e h a w rfl H rfl)
  case ret=>exact wp_ret (hp.ret e h a w rfl H rfl)
  case region id ops draw=>exact rK hT hC hI hk H hr hp.nrm hp.pan
  case seq x y=>
   have hx:SizeOf.sizeOf x<n:=by simp at hn;omega
   have hy:SizeOf.sizeOf y<n:=by simp at hn;omega
   refine wp_seq ?_;rw[zF]at hr hp;generalize rt cx x=oj at hr hp;cases oj with
   |none=>
    simp only at hr hp;refine ih x hx e h a w _ kx kr _ H hr ⟨fun e' h' a' w' hok hs hd=>?_,fun i e' h' a' w' hok hs hd=>hp.ext i e' h' a' w' hok hs hd,fun e' h' a' w' hok hs hd=>hp.ret e' h' a' w' hok hs hd,fun pv h' v w' a' hok hs hd=>hp.pan pv h' v w' a' hok hs hd⟩;rw[hok]at hr hp;exact ih y hy e' h' a' w' kn kx kr Q hs hr ⟨fun e2 h2 a2 w2 k1 k2 k3=>hp.nrm e2 h2 a2 w2 k1 k2 (k3.trans hd),fun i e2 h2 a2 w2 k1 k2 k3=>hp.ext i e2 h2 a2 w2 k1 k2 (k3.trans hd),fun e2 h2 a2 w2 k1 k2 k3=>hp.ret e2 h2 a2 w2 k1 k2 (k3.trans hd),fun pv h2 v w2 a2 k1 k2 k3=>hp.pan pv h2 v w2 a2 k1 k2 (k3.trans hd)⟩
   |some ja=>
    simp only[jn]at hr hp;refine ih x hx e h a w _ kx kr _ H hr ⟨fun e' h' a' w' hok hs hd=>?_,fun i e' h' a' w' hok hs hd=>hp.ext i e' h' a' w' hok hs hd,fun e' h' a' w' hok hs hd=>hp.ret e' h' a' w' hok hs hd,fun pv h' v w' a' hok hs hd=>hp.pan pv h' v w' a' hok hs hd⟩;rw[hok]at hr hp;obtain⟨vs,h3,hj,hs3⟩:=oO hs hr;rw[hj]at hr hp;exact ih y hy (unpack ja vs) h3 a' w' kn kx kr Q hs3 hr ⟨fun e2 h2 a2 w2 k1 k2 k3=>hp.nrm e2 h2 a2 w2 k1 k2 (k3.trans hd),fun i e2 h2 a2 w2 k1 k2 k3=>hp.ext i e2 h2 a2 w2 k1 k2 (k3.trans hd),fun e2 h2 a2 w2 k1 k2 k3=>hp.ret e2 h2 a2 w2 k1 k2 (k3.trans hd),fun pv h2 v w2 a2 k1 k2 k3=>hp.pan pv h2 v w2 a2 k1 k2 (k3.trans hd)⟩
  case cond o x y=>
   have hx:SizeOf.sizeOf x<n:=by simp at hn;omega
   have hy:SizeOf.sizeOf y<n:=by simp at hn;omega
   cases o<;>(try exact absurd rfl hr)
   case const v=>
    simp only[ev]at hr hp
    have hav:∀b,cA v= .bool b->a.eval (.const v)= .bool b:=by
     intro b hb;show v= .bool b;cases v with
     |bool c=>simp only[cA,sb,AV.bool.injEq]at hb;rw[hb]
     |tuple vs=>simp only[cA]at hb;cases hvs:vs.isEmpty<;>rw[hvs]at hb<;>cases hb
     |pointer p=>cases p<;>(simp only[cA,sb]at hb;cases hb)
     |map p=>cases p<;>(simp only[cA,sb]at hb;cases hb)
     | slice p n m=>
      have hs:sb (.slice p n m)= .sl []\/sb (.slice p n m)= .any:=by
       cases p with
       |some q=>exact .inr rfl
       | none=>cases n with
        |succ n=>exact .inr rfl
        |zero=>cases m with
         |succ m=>exact .inr rfl
         |zero=>exact .inl rfl
      simp only[cA]at hb;rcases hs with hs|hs<;>rw[hs]at hb<;>cases hb
     |_=>simp only[cA,sb]at hb;cases hb
    cases hq:cA v<;>rw[hq]at hr hp<;>(try exact absurd rfl hr);rename_i b;cases b with
    |true=>exact wp_cond (hav true hq) (ih x hx e h a w kn kx kr Q H hr hp)
    |false=>exact wp_cond (hav false hq) (ih y hy e h a w kn kx kr Q H hr hp)
   rename_i t;simp only[ev]at hr hp;cases ht:decide (t<1000)with
   |false=>rw[ht]at hr;exact absurd rfl hr
   | true=>
    rw[ht]at hr hp;simp only[Dx]at hr hp;have htl:t<1000:=by simpa using ht
    have hav:∀b,e.av t= .bool b->a.eval (.tmp t)= .bool b:=by
     intro b hb;obtain⟨S,β,γ,lam,ω,F⟩:=H;have hs:=F.slots t htl;simp only[Env.av,Ent.av]at hb;cases hv:(e.get t).v with
     |val av=>
      rw[hv]at hs hb;simp only at hb;subst hb;simp only[dD,VR]at hs;exact hs
     |loc B off=>rw[hv]at hb;cases hb
    cases hq:e.av t<;>rw[hq]at hr hp<;>(try exact absurd rfl hr);rename_i b;cases b with
    |true=>exact wp_cond (hav true hq) (ih x hx e h a w kn kx kr Q H hr hp)
    |false=>exact wp_cond (hav false hq) (ih y hy e h a w kn kx kr Q H hr hp)
  case block id code=>
   refine wp_block ?_;by_cases hc:∃b,code= .loop b
   ·obtain⟨b,rfl⟩:=hc;have hb:SizeOf.sizeOf b<n:=by simp at hn;omega
    simp only[ev]at hr hp;cases hja:j9 cx.ann.loops id with
    |none=>rw[hja]at hr;exact absurd rfl hr
    | some ja=>
     rw[hja]at hr hp;simp only at hr hp;refine gz.loop ?_;obtain⟨vs,h3,hj,hs3⟩:=oO H hr;rw[hj]at hr hp;have key:∀(k:Nat)(vs:List AV)(h:Hp)(a1:Act)(w:World),gu c cx.nt (unpack ja vs) h a1 w->a1.defers=a.defers->
       bU k (fun self vs=>ev cx (bU m) b (unpack ja vs) (mi ja self) (fun i e'=>bif Nat.beq i id then kn e' else kx i e') kr) vs h≠.fail->
       Posts c cx.nt (bU k (fun self vs=>ev cx (bU m) b (unpack ja vs) (mi ja self) (fun i e'=>bif Nat.beq i id then kn e' else kx i e') kr) vs h) a kn kx kr Q->gz P b (Exit.inBlock id Q) a1 w:=by
      intro k
      induction k with
      |zero=>intro vs h a1 w _ _ hr _;exact absurd rfl hr
      | succ k ihk=>
       intro vs h a1 w hs hd hr hp;simp only[bU]at hr hp;refine gz.round (ih b hb (unpack ja vs) h a1 w _ _ kr _ hs hr ⟨fun e' h' a' w' hok hs' hd'=>?_,fun i e' h' a' w' hok hs' hd'=>?_,fun e' h' a' w' hok hs' hd'=>hp.ret e' h' a' w' hok hs' (hd'.trans hd),fun pv h' v w' a' hok hs' hd'=>hp.pan pv h' v w' a' hok hs' (hd'.trans hd)⟩)
       ·rw[hok]at hr hp;obtain⟨vs',h4,hj',hs4⟩:=oO hs' hr;rw[hj']at hr hp;exact ihk vs' h4 a' w' hs4 (hd'.trans hd) hr hp
       ·cases hi:Nat.beq i id with
        |true=>
         rw[hi]at hok
         have:=DC hi
         subst this;show Exit.inBlock i Q (.exit i) a' w';simp only[Exit.inBlock,Ep];exact hp.nrm e' h' a' w' hok hs' (hd'.trans hd)
        |false=>
         rw[hi]at hok;have hne:i≠id:=fun hh=>by subst hh;simp at hi
         show Exit.inBlock id Q (.exit i) a' w';simp only[Exit.inBlock,if_neg hne];exact hp.ext i e' h' a' w' hok hs' (hd'.trans hd)
     exact key m vs h3 a w hs3 rfl hr hp
   ·have hc':∀b,code≠.loop b:=fun b hb=>hc ⟨b,hb⟩;rw[uZ hc']at hr hp;have hs:SizeOf.sizeOf code<n:=by simp at hn;omega
    refine ih code hs e h a w kn _ kr _ H hr ⟨fun e' h' a' w' hok hs' hd'=>hp.nrm e' h' a' w' hok hs' hd',fun i e' h' a' w' hok hs' hd'=>?_,fun e' h' a' w' hok hs' hd'=>hp.ret e' h' a' w' hok hs' hd',fun pv h' v w' a' hok hs' hd'=>hp.pan pv h' v w' a' hok hs' hd'⟩;cases hi:Nat.beq i id with
    |true=>
     rw[hi]at hok
     have:=DC hi
     subst this;show Exit.inBlock i Q (.exit i) a' w';simp only[Exit.inBlock,Ep];exact hp.nrm e' h' a' w' hok hs' hd'
    |false=>
     rw[hi]at hok;have hne:i≠id:=fun hh=>by subst hh;simp at hi
     show Exit.inBlock id Q (.exit i) a' w';simp only[Exit.inBlock,if_neg hne];exact hp.ext i e' h' a' w' hok hs' hd'
end
end Go.Av
namespace Go.Av
variable [Dr]
omit [Dr]in
theorem kQ:∀(args:List AV)(i t:Nat),bd (pb i args) t=if i<=t/\t<i+args.length then⟨.val (nth args (t-i)),none⟩else Ent.none
 |[],i,t=>by
  simp only[pb,bd,D3,EM];rw[if_neg (by omega)]
 | a:: as0,i,t=>by
  simp only[pb,bm,D4];by_cases h:i=t
  ·subst h;rw[DG rfl,DG (by omega)];simp[nth]
  ·rw[if_neg h,kQ as0 (i+1) t];by_cases h2:i+1<=t/\t<i+1+as0.length
   ·rw[DG h2,DG (by omega)];have:t-i=(t-(i+1))+1:=by omega
    simp[nth,this]
   ·rw[if_neg h2,if_neg (by omega)]
section
variable {P:Program} {cx:Cx}
open Classical in
theorem rS{w:World}{S:ap}{β:List a8}{h:Hp}{args:List AV}{vs:List Value}{n:Nat}(hg:kJ β h w)(hw:Wf S w)(hh:bJ S β w h)(hv:aG S β args vs)(hn:args.length<=n)(hn2:n<=1000):
  ∃γ lam ω,FR { w,S,β,E:=bn β h,gok:=hg } n (fun g=>g<(ku args).nx*1000) (ku args) h { tmps:=vs.toArray++Array.replicate (n-vs.toArray.size) undef,defers:=[] } w S β γ lam ω:=by
 obtain⟨hlen,ω0,hr⟩:=hh;have hvl:=hv.length;have hget:∀t,(ku args).get t=if t<args.length then⟨.val (nth args t),none⟩else Ent.none:=fun t=>by
  have:=kQ args 0 t
  simp only[Ef,true_and,DW,F8]at this;exact this
 let ω:Nat->Owner:=fun b=>if bn β h b then ω0 b else .no;refine⟨fun _=>undef,fun _=>none,ω,⟨hw,Gro.refl _,fun b _ _=>⟨rfl,fun _=>rfl⟩,ap.le_refl S,dT.refl β,hlen,fun l cs hl hcs=>?_,⟨?_,hn2⟩,fun t ht=>?_,fun t g z ht hg=>?_,fun B m hB=>?_,fun g z hz=>?_,fun b hb=>?_,fun t g hg=>?_,fun g z hz=>?_⟩⟩
 ·have hown:∀b n,β[l]? = some (b,n)->ω0 b= .heap l->ω b= .heap l:=fun b n h1 h3=>by
   show (if bn β h b then ω0 b else .no)=_;rw[DG ⟨l,cs,_,hl,hcs,h1⟩];exact h3
  rcases hr l cs hl hcs with⟨b,x,h1,h2,h3,h4⟩|⟨b,h1,h3,h4⟩
  ·exact .inl ⟨b,x,h1,h2,hown b _ h1 h3,h4⟩
  ·exact .inr ⟨b,h1,hown b _ h1 h3,h4⟩
 ·simp;omega
 ·rw[hget];split
  ·rename_i hlt;have hx:args[t]? = some (nth args t):=by simp[nth,hlt]
   obtain⟨v,h1,h2⟩:=hv.get hx;have:(vs.toArray++Array.replicate (n-vs.toArray.size) undef).getD t undef=v:=by
    rw[D5,E0 (by simp;omega)];simp[h1]
   rw[this];exact h2
  ·simp[Ent.none,dD,VR]
 ·rw[hget]at hg;split at hg<;>cases hg
 ·cases hB
 ·cases hz
 ·have hb':bn β h b:=by
   by_cases ho:bn β h b
   ·exact ho
   ·exact absurd (show ω b= .no from if_neg ho) hb
  obtain⟨l,cs,m,h1,h2,h3⟩:=hb';obtain⟨b',x,k1,k2,k3,_⟩:=hr.own h1 h2;rw[h3]at k1;cases k1;have hω:ω b= .heap l:=by
   show (if bn β h b then ω0 b else .no)=_;rw[DG ⟨l,cs,_,h1,h2,h3⟩];exact k3
  exact⟨.inl ⟨⟨l,cs,_,h1,h2,h3⟩,fun g=>by rw[hω];simp⟩,k2⟩
 ·rw[hget]at hg;split at hg<;>cases hg
 ·cases hz
theorem start{w:World}{S:ap}{β:List a8}{h:Hp}{args:List AV}{vs:List Value}{n:Nat}(hg:kJ β h w)(hw:Wf S w)(hh:bJ S β w h)(hv:aG S β args vs)(hn:args.length<=n)(hn2:n<=1000):
  gu { w,S,β,E:=bn β h,gok:=hg } n (ku args) h { tmps:=vs.toArray++Array.replicate (n-vs.toArray.size) undef,defers:=[] } w:=⟨S,β,rS hg hw hh hv hn hn2⟩
def eP(tmps:Array Value):ResultVar->Sem Value
 |.tmp t=>pure (tmps.getD t undef)
 |.cell p t=>do loadVar t (<- asAddr (tmps.getD p undef))
omit [Dr]in
theorem lZ(fn:Func)(tmps:Array Value):results fn tmps=(do let vs <- fn.results.mapM (eP tmps);pure (if h:vs.size=1 then vs[0]else .tuple vs)):=by
 unfold results;congr 1
theorem Ai{c:Entry}{N:Nat}{U:Nat->Prop}{e:Env}{h:Hp}{a:Act}{w:World}{S:ap}{β:List a8}{γ:Nat->Value}{lam:Nat->Option Nat}{ω:Nat->Owner}(hT:TOK P cx.T)(F:FR c N U e h a w S β γ lam ω){r:ResultVar}{v:AV}(hr:ql cx.T e r=some v):∃u,(eP a.tmps r).run P w= .ok u w/\VR S β v u:=by
 cases r with
 | tmp t=>
  simp only[ql]at hr;cases ht:decide (t<1000)with
  |false=>rw[ht]at hr;cases hr
  | true=>
   rw[ht]at hr;simp only[Dx]at hr;have hs:=F.slots t (by simpa using ht);cases hv:(e.get t).v with
   |loc B off=>rw[hv]at hr;cases hr
   |val av=>
    rw[hv]at hr hs;simp only[Dw]at hr;subst hr;exact⟨_,by simp only[eP,Sem.run_pure],hs⟩
 | cell p t=>
  simp only[ql]at hr;cases hp:decide (p<1000)with
  |false=>rw[hp]at hr;cases hr
  | true=>
   rw[hp]at hr;simp only[Dx]at hr;have hs:=F.slots p (by simpa using hp);cases hv:(e.get p).v with
   | loc B off=>
    rw[hv]at hr hs;cases ht:cx.T t with
    |none=>rw[ht]at hr;cases hr
    | some ti=>
     rw[ht]at hr;simp only at hr;cases hin:hP e B off ti.size with
     |false=>rw[hin]at hr;cases hr
     | true=>
      rw[hin]at hr;simp only[Dx]at hr;simp only[dD]at hs;obtain⟨b,hlam,hpv⟩:=hs;obtain⟨b',x,m,hm,hle,hlam',hrow,hms,hcells⟩:=F.locals hin;rw[hlam]at hlam';cases hlam';let f:Nat->Value:=fun i=>(x[off+i]?).getD undef;have hf:∀i,i<ti.size->x[off+i]? = some (f i):=fun i hi=>by
       obtain⟨v,_,hv',_⟩:=hcells i hi;show _=some ((x[off+i]?).getD undef);rw[hv'];rfl
      have hload:=kg hT ht hrow f hf;have hexec:∀v,(loadVar t ⟨b,off,none⟩).run P w= .ok v w->(eP a.tmps (.cell p t)).run P w= .ok v w:=fun v hv'=>by
       simp only[eP];rw[hpv];simpa [asAddr]using hv'
      cases hag:ti.agg with
      |true=>
       rw[hag]at hr;simp only[Dx,Dw]at hr;subst hr;refine⟨_,hexec _ (hload.1 hag),?_⟩;simp only[VR];refine⟨_,rfl,lx ti.size fun i hi=>?_⟩;obtain⟨v,a',g1,g2,g3,_⟩:=hcells i hi;have:f i=v:=by show (x[off+i]?).getD undef=v;rw[g1];rfl
       rw[this];simp only[Env.av,Ent.av,g2];exact g3
      | false=>
       rw[hag]at hr;simp only[DF]at hr;cases hone:decide (ti.size=1)with
       |false=>rw[hone]at hr;cases hr
       |true=>
        rw[hone]at hr;simp only[Dx,Dw]at hr;subst hr;have hone':ti.size=1:=by simpa using hone
        obtain⟨v,a',g1,g2,g3,g4⟩:=hcells 0 (by omega);simp only[EM]at g1 g2 g4;have hfv:f 0=v:=by show (x[off+0]?).getD undef=v;rw[EM,g1];rfl
        refine⟨v,hexec _ (hfv▸hload.2 hag hone'),?_⟩;simp only[Env.av,Ent.av,g2];exact g3
   | val av=>
    rw[hv]at hr hs;cases ht:cx.T t with
    |none=>rw[ht]at hr;cases hr
    |some ti=>
     rw[ht]at hr;simp only at hr;obtain⟨v,h1,h2⟩:=sy hT F.wf hr hs;refine⟨v,?_,h2⟩;unfold ai at hr;rw[ht]at hr;cases av<;>simp only[reduceCtorEq]at hr;simp only[dD,VR]at hs;obtain⟨b,off,vs,hpv,_,_⟩:=hs;simp only[eP];rw[hpv]at h1 |-;simpa [Instr.loadAt,Instr.sureAddr,asAddr]using h1
theorem rL{c:Entry}{N:Nat}{U:Nat->Prop}{e:Env}{h:Hp}{a:Act}{w:World}{S:ap}{β:List a8}{γ:Nat->Value}{lam:Nat->Option Nat}{ω:Nat->Owner}(hT:TOK P cx.T)(F:FR c N U e h a w S β γ lam ω){fn:Func}{vs:List AV}(hr:ea cx.T e fn.results.toList=some vs):∃u,(results fn a.tmps).run P w= .ok u w/\VR S β (ig vs) u:=by
 have key:∀(l:List ResultVar)(vs:List AV),ea cx.T e l=some vs->∃us:List Value,(l.mapM (eP a.tmps)).run P w= .ok us w/\aG S β vs us:=by
  intro l
  induction l with
  |nil=>intro vs h;simp only[ea,Dw]at h;subst h;exact⟨[],by simp,by simp[aG]⟩
  | cons r rs ih=>
   intro vs h;simp only[ea]at h;cases h1:ql cx.T e r with
   |none=>rw[h1]at h;cases h
   | some v=>
    cases h2:ea cx.T e rs with
    |none=>rw[h1,h2]at h;cases h
    |some vs'=>
     rw[h1,h2]at h;simp only[Dw]at h;subst h;obtain⟨u,k1,k2⟩:=Ai hT F h1;obtain⟨us,m1,m2⟩:=ih vs' h2;refine⟨u:: us,?_,by simp only[aG];exact⟨u,us,rfl,k2,m2⟩⟩;rw[List.mapM_cons,Sem.run_bind,k1,Result.andThen_ok,Sem.run_bind,m1,Result.andThen_ok,Sem.run_pure]
 obtain⟨us,k1,k2⟩:=key _ _ hr;have hlen:=k2.length;have hrun:(fn.results.mapM (eP a.tmps)).run P w= .ok us.toArray w:=by
  rw[Gp];rw[map_eq_pure_bind,Sem.run_bind,k1,Result.andThen_ok,Sem.run_pure]
 refine⟨if h:us.toArray.size=1 then us.toArray[0]else .tuple us.toArray,?_,?_⟩
 ·rw[lZ,Sem.run_bind,hrun,Result.andThen_ok,Sem.run_pure]
 ·unfold ig;split
  ·rename_i v;cases us with
   |nil=>simp at hlen
   |cons u us=>
    cases us with
    |nil=>simp only[aG]at k2;obtain⟨x,xs,hx,hy,_⟩:=k2;simp at hx;simp[hx.1,hy]
    |cons u2 us=>simp at hlen
  ·rename_i hne;rw[dif_neg]
   ·simp only[VR];exact⟨us,rfl,k2⟩
   ·intro h1;have:vs.length=1:=by rw[<- hlen];simpa using h1
    match vs,this with
    |[v],_=>exact hne v rfl
end
end Go.Av
namespace Go.Av
variable [Dr]
omit [Dr]in
theorem pT{n:Nat}{ks:List (Nat×Kind)}(h:iU n ks=true):∀p,tD (bq ks p .L)=true->p<n:=by
 intro p hp
 induction ks with
 |nil=>simp[bq,tD]at hp
 | cons x ks ih=>
  obtain⟨k,y⟩:=x;unfold iU at h;simp only[ES,Dy]at h;simp only[bq]at hp;cases hk:Nat.beq k p with
  |true=>
   rw[hk]at hp;simp only[Dx]at hp
   have:=h.1
   rw[hp]at this;have hk':=DC hk;subst hk';simpa using this
  |false=>
   rw[hk]at hp;exact ih h.2 hp
section
variable {P:Program} {cx:Cx}
theorem Ad{c:Entry}{N:Nat}{U:Nat->Prop}{e:Env}{h:Hp}{a:Act}{w:World}{S:ap}{β:List a8}{γ:Nat->Value}{lam:Nat->Option Nat}{ω:Nat->Owner}(F:FR c N U e h a w S β γ lam ω){fn:Func}{sz:Nat}(ho:oz fn e sz=true){u:Value}(hu:(results fn a.tmps).run P w= .ok u w):nL c.w.heap.size S β w h sz u:=by
 unfold oz at ho;split at ho
 ·rename_i t hres;cases ht:decide (t<1000)with
  |false=>rw[ht]at ho;cases ho
  | true=>
   rw[ht]at ho;simp only[E5]at ho;split at ho
   ·rename_i g hg;split at ho
    ·rename_i z hz;have hgr:=F.grps t g z (by simpa using ht) hg hz;obtain⟨ad,len,cap,h1,h2,h3,h4⟩:=F.free g z hz;have hue:u=a.tmps.getD t undef:=by
      have hr:fn.results= #[.tmp t]:=by apply E8;simpa using hres
      rw[lZ,hr]at hu;simp[eP]at hu;simpa using hu.symm
     rw[hue,hgr];refine⟨ad,len,cap,h1,h2,h3,h4.imp id ?_⟩;rintro⟨sz',b,off,x,k1,k2,k3,k4,k5,k6⟩;have hsz:sz'=sz:=by
      rw[k1]at ho;simp only[oM]at ho;exact DC ho
     subst hsz;refine⟨b,off,x,k2,k3,k4,(F.mine b (by rw[k5];simp)).1.grp k5,fun hb=>?_,k6⟩;obtain⟨l,_,hl,_⟩:=F.hown hb;rw[k5]at hl;cases hl
    ·cases ho
   ·cases ho
 ·cases ho
omit [Dr]in
theorem wj{fn:Func}{own:Option Nat}{e:Env}{h:Hp}(hr:fP cx fn own e h≠.fail):∃rs,ea cx.T e fn.results.toList=some rs/\(fP cx fn own e h= .ok (ig rs) h\/(own=none/\fP cx fn own e h= .ok (gx 6 h (ig rs)) (h.map fun _=>[])))/\∀sz,own=some sz->oz fn e sz=true:=by
 have key:∀b z:Bool,(bif b then af (ah ((ea cx.T e fn.results.toList).map ig)) (bif z then(bif own.isSome then fun _=>M.fail else sn)else M.pure)else M.fail:M AV) h≠.fail->b=true/\∃rs,ea cx.T e fn.results.toList=some rs/\
   ((bif b then af (ah ((ea cx.T e fn.results.toList).map ig)) (bif z then(bif own.isSome then fun _=>M.fail else sn)else M.pure)else M.fail:M AV) h= .ok (ig rs) h\/
    (own=none/\(bif b then af (ah ((ea cx.T e fn.results.toList).map ig)) (bif z then(bif own.isSome then fun _=>M.fail else sn)else M.pure)else M.fail:M AV) h= .ok (gx 6 h (ig rs)) (h.map fun _=>[]))):=by
  intro b z hr;cases b with
  |false=>exact absurd rfl hr
  | true=>
   refine⟨rfl,?_⟩;cases hres:ea cx.T e fn.results.toList with
   |none=>rw[hres]at hr;exact absurd rfl hr
   | some rs=>
    rw[hres]at hr;cases z with
    |false=>exact⟨rs,rfl,.inl rfl⟩
    |true=>
     cases own with
     |none=>exact⟨rs,rfl,.inr ⟨rfl,rfl⟩⟩
     |some sz=>exact absurd rfl hr
 unfold fP at hr |-;cases own with
 |none=>
  obtain⟨_,rs,h1,h2⟩:=key true _ hr;exact⟨rs,h1,h2,fun sz hsz=>by cases hsz⟩
 |some sz=>
  obtain⟨h0,rs,h1,h2⟩:=key _ _ hr;exact⟨rs,h1,h2,fun sz' hsz=>by cases hsz;exact h0⟩
theorem eV(hT:TOK P cx.T)(hC:bI P cx.own cx.call)(hI:IsoCall cx)(m:Nat){f:FuncId}{fn:Func}(hf:P.funcs[f]? = some fn)(hnt:cx.nt=fn.ntmps){own:Option Nat}{args:List AV}{h:Hp}{S:ap}{β:List a8}{w:World}{vs:List Value}(hr:bz cx (bU m) fn own args h≠.fail)(hg:kJ β h w)(hw:Wf S w)(hh:bJ S β w h)(hv:aG S β args vs):Calls P f vs.toArray w (cF own S β h w (bz cx (bU m) fn own args h))/\fn.body.isSome=true:=by
 unfold bz at hr |-;cases hb:fn.body with
 |none=>rw[hb]at hr;exact absurd rfl hr
 | some code=>
  rw[hb]at hr;simp only at hr |-;refine⟨?_,rfl⟩;cases hc:(decide (args.length<=fn.ntmps)&&decide (fn.ntmps<=1000)&&iU cx.nt cx.ann.kinds)with
  |false=>rw[hc]at hr;exact absurd rfl hr
  | true=>
   rw[hc]at hr;simp only[Dx]at hr |-;simp only[Dy,DK]at hc;obtain⟨⟨hc1,hc2⟩,hc3⟩:=hc;have H:gu { w,S,β,E:=bn β h,gok:=hg } cx.nt (ku args) h { tmps:=vs.toArray++Array.replicate (fn.ntmps-vs.toArray.size) undef,defers:=[] } w:=by
    rw[hnt];exact start hg hw hh hv hc1 hc2
   have hret:∀(e':Env)(h':Hp)(a':Act)(w':World),ev cx (bU m) code (ku args) (fP cx fn own) (fun _ _=>M.fail) (fP cx fn own) h=fP cx fn own e' h'->
     gu { w,S,β,E:=bn β h,gok:=hg } cx.nt e' h' a' w'->∃v,(results fn a'.tmps).run P w'= .ok v w'/\cF own S β h w (ev cx (bU m) code (ku args) (fP cx fn own) (fun _ _=>M.fail) (fP cx fn own) h) (.returned v) w':=by
    intro e' h' a' w' hok hs;rw[hok]at hr |-;obtain⟨rs,hres,hret,hown⟩:=wj hr;obtain⟨S',β',γ,lam,ω,F⟩:=hs;obtain⟨u,hu1,hu2⟩:=rL (P:=P) hT F hres;rcases hret with hret|⟨rfl,hret⟩
    ·rw[hret];exact⟨u,hu1,S',β',u,rfl,hu2,F.out,fun sz hsz=>Ad F (hown sz hsz) hu1⟩
    ·rw[hret];obtain⟨S2,ω2,F2,hf⟩:=F.freeze;exact⟨u,hu1,S2,β',u,rfl,hf _ _ hu2,F2.out,fun sz hsz=>by cases hsz⟩
   refine calls_of_wp hf hb (vd hT hC hI (pT hc3) m _ code (Gt _) (ku args) h _ w _ _ _ _ H hr ⟨fun e' h' a' w' hok hs hd=>?_,fun i e' h' a' w' hok hs hd=>?_,fun e' h' a' w' hok hs hd=>?_,fun pv h' v w' a' hok hs hd=>?_⟩)
   ·exact⟨hd,hret e' h' a' w' hok hs⟩
   ·rw[hok]at hr;exact absurd rfl hr
   ·exact⟨hd,hret e' h' a' w' hok hs⟩
   ·refine⟨hd,?_⟩;rw[hok];obtain⟨S',β',hout,hvr⟩:=hs;exact⟨S',β',v,rfl,hvr,hout⟩
end
open Classical in
theorem sr{S:ap}{β:List a8}{w w':World}{h:Hp}(_hw:Wf S w)(hh:bJ S β w h){β0:List a8}{h0:Hp}(hE:∀b,¬bn β0 h0 b){S':ap}{β':List a8}{h':Hp}(L:Left (bn β0 h0) S β0 w S' β' w' h'):∃S2,Left (bn β h) S β w S2 β w' h/\(∀a v,VR S' β' a v->VR S2 β (gx 6 h' a) v)/\∀sz v,nL w.heap.size S' β' w' h' sz v->nL w.heap.size S2 β w' h sz v:=by
 obtain⟨hlen,ω,hH⟩:=L.heap;have hnew:∀b,bn β' h' b->w.heap.size<=b:=fun b hb=>(L.owned b hb).resolve_left (hE b);let S2:ap:=fun b o=>if bn β' h' b then w'.cell? ⟨b,o,none⟩else S' b o;have hS2n:∀b,¬bn β' h' b->∀o,S2 b o=S' b o:=fun b hb o=>if_neg hb;have hS2y:∀b,bn β' h' b->∀o,S2 b o=w'.cell? ⟨b,o,none⟩:=fun b hb o=>DG hb;have hle:S'.le S2:=by
  intro b o v hv;by_cases hb:bn β' h' b
  ·obtain⟨l,cs,n,h1,h2,h3⟩:=hb;obtain⟨b',x,k1,k2,k3,k5⟩:=hH.own h1 h2;rw[h3]at k1;cases k1;rw[k5]at hv;cases hv
  ·rw[hS2n b hb];exact hv
 have hrow:∀b,b<w.heap.size->w'.heap[b]? = w.heap[b]? /\∀o,S2 b o=S b o:=by
  intro b hb;have hk:=L.keep b hb (hE b);refine⟨hk.1,fun o=>?_⟩;rw[hS2n b (fun ho=>by have:=hnew b ho;omega)];exact hk.2 o
 have hwf:Wf S2 w':=by
  intro b o v hv;by_cases hb:bn β' h' b
  ·rw[hS2y b hb]at hv;exact hv
  ·rw[hS2n b hb]at hv;exact L.wf b o v hv
 obtain⟨hlen0,ω0,hH0⟩:=hh;have hlt0:∀b,bn β h b->b<w.heap.size:=by
  rintro b ⟨l,cs,n,h1,h2,h3⟩;obtain⟨b',x,k1,k2,_⟩:=hH0.own h1 h2;rw[h3]at k1;cases k1;exact k2
 have hle0:S.le S2:=ap.le_trans L.le hle;refine⟨S2,⟨hle0,dT.refl β,hwf,L.gro,fun b hb _=>hrow b hb,⟨hlen0,ω0,hH0.rows hle0 (dT.refl β) hlen0 fun l cs hl _=>.inl ⟨hl,fun b hb ho=>⟨ho,(hrow b hb).1,fun o h=>by rw[(hrow b hb).2];exact h⟩⟩⟩,fun b hb=>.inl hb⟩,fun a v hv=>oe hH hle (fun b o x hb hr=>?_) 6 a v hv,fun sz v=>?_⟩
 ·rw[hS2y b hb,hr.cell]
 ·rintro⟨ad,len,cap,k1,k2,k3,k4⟩;refine⟨ad,len,cap,k1,k2,k3,k4.imp id ?_⟩;rintro⟨b,off,x,p1,p2,p3,p4,p5,p6⟩;refine⟨b,off,x,p1,p2,p3,p4,fun hb=>?_,fun o ho=>by rw[hS2n b p5];exact p6 o ho⟩
  have:=hlt0 b hb
  omega
theorem vE{S:ap}{β:List a8}{w w':World}{h:Hp}{own:Option Nat}{m:List AV->M AV}{args:List AV}{en:Ending}(hw:Wf S w)(hh:bJ S β w h)(hp:cF own S [] [] w (m (dz ax args) []) en w'):cF own S β h w (lD m args h) en w':=by
 have key:=fun{S':ap} {β':List a8} {h':Hp} (L:Left (bn [] []) S [] w S' β' w' h')=>sr hw hh (by rintro b ⟨l,cs,n,h1,_⟩;simp at h1) L;unfold lD;cases hm:m (dz ax args) []with
 |fail=>rw[hm]at hp;exact hp.elim
 |ok r h'=>
  rw[hm]at hp;obtain⟨S',β',v,h1,h2,h3,h4⟩:=hp;obtain⟨S2,k1,k2,k3⟩:=key h3;exact⟨S2,β,v,h1,k2 r v h2,k1,fun sz hsz=>k3 sz v (h4 sz hsz)⟩
 |pan r h'=>
  rw[hm]at hp;obtain⟨S',β',v,h1,h2,h3⟩:=hp;obtain⟨S2,k1,k2,k3⟩:=key h3;exact⟨S2,β,v,h1,k2 r v h2,k1⟩
structure GoodPg (P:Program) (p:Pg):Prop where
 tok:TOK P p.T
 funcs:∀f fn a,p.funcs f=some (fn,a)->P.funcs[f]? = some fn/\(fn.name== "runtime.NumGoroutine")=false
 other:∀f E,p.other f=some E->∀call,bI P p.own call->∀(args:List AV)(h:Hp)(S:ap)(β:List a8)(w:World)(vs:List Value),E call args h≠.fail->kJ β h w->Wf S w->bJ S β w h->aG S β args vs->
  Calls P f vs.toArray w (cF (p.own f) S β h w (E call args h))/\(P.funcs[f]?).any (fun fn=>fn.body.isSome&&!(fn.name== "runtime.NumGoroutine"))=true
 nw:∀f,p.nw f=true->∃E,p.other f=some E/\∀call args,qG (E call args)
omit [Dr]in
theorem bJ.nil{S:ap}{w:World}:bJ S [] w []:=⟨rfl,fun _=>.no,fun l cs hl=>by simp at hl⟩
theorem pw{P:Program}{p:Pg}(G:GoodPg P p)(m:Nat){call:FuncId->List AV->M AV}(hC:bI P p.own call)(hI:∀n a,IsoCall (p.cx call n a)):bI P p.own (fD p call (bU m)):=by
 intro f args h S β w vs hr hg hw hh hv;unfold fD at hr |-;cases ho:p.other f with
 |some E=>rw[ho]at hr;exact G.other f E ho call hC args h S β w vs hr hg hw hh hv
 | none=>
  rw[ho]at hr;simp only at hr |-;cases hf:p.funcs f with
  |none=>rw[hf]at hr;exact absurd rfl hr
  | some x=>
   obtain⟨fn,a⟩:=x;rw[hf]at hr;simp only at hr |-;obtain⟨hf1,hf2⟩:=G.funcs f fn a hf
   have hany:fn.body.isSome=true->(P.funcs[f]?).any (fun fn=>fn.body.isSome&&!(fn.name== "runtime.NumGoroutine"))=true:=by
    intro hb;rw[hf1];simp only[Option.any_some,hb,hf2,Gd,Gk]
   cases hi:a.iso with
   |false=>
    rw[hi]at hr;simp only[DF]at hr |-;obtain⟨h1,h2⟩:=eV (cx:=p.cx call fn.ntmps a) G.tok hC (hI _ _) m hf1 rfl hr hg hw hh hv;exact⟨h1,hany h2⟩
   | true=>
    rw[hi]at hr;simp only[Dx]at hr |-;have hr':bz (p.cx call fn.ntmps a) (bU m) fn (p.own f) (dz ax args) []≠.fail:=by
     intro hf;unfold lD at hr;rw[hf]at hr;exact hr rfl
    obtain⟨h1,h2⟩:=eV (cx:=p.cx call fn.ntmps a) G.tok hC (hI _ _) m hf1 rfl hr' ⟨hg.1,fun b _ hb=>by obtain⟨l,_,_,h1,_⟩:=hb;simp at h1⟩ hw bJ.nil (uQ hv);exact⟨h1.mono fun en w' hp=>vE hw hh hp,hany h2⟩
omit [Dr]in
theorem re(p:Pg)(hN:∀f,p.nw f=true->∃E,p.other f=some E/\∀call args,qG (E call args)):∀n k a,IsoCall (p.cx (cg p n) k a)
 |0,k,a=>⟨fun f args _=>⟨none,fun _=>rfl⟩,fun f args _ h v h' hh=>by cases hh⟩
 | n+1,k,a=>by
  refine⟨?_,fun f args hf=>?_⟩
  case refine_2=>
   obtain⟨E,hE,hn⟩:=hN f hf;have:(p.cx (cg p (n+1)) k a).call f args=E (cg p n) args:=by
    show fD p (cg p n) (bU n) f args=_;unfold fD;rw[hE]
   rw[this];exact hn _ _
  intro f args hi;have hi':p.iso f=true:=hi;unfold Pg.iso at hi';cases ho:p.other f with
  |some E=>rw[ho]at hi';cases hi'
  | none=>
   rw[ho]at hi';simp only at hi';cases hf:p.funcs f with
   |none=>rw[hf]at hi';cases hi'
   |some x=>
    obtain⟨fn,b⟩:=x;rw[hf]at hi';simp only at hi';refine⟨match bz (p.cx (cg p n) fn.ntmps b) (bU n) fn (p.own f) (dz ax args) []with|.ok r h'=>some (true,gx 6 h' r)|.pan v h'=>some (false,gx 6 h' v)|.fail=>none,fun h=>?_⟩;show fD p (cg p n) (bU n) f args h=_;unfold fD;rw[ho];simp only;rw[hf];simp only[hi',Dx,lD];cases bz (p.cx (cg p n) fn.ntmps b) (bU n) fn (p.own f) (dz ax args) []<;>rfl
theorem iN{P:Program}{p:Pg}(G:GoodPg P p):∀n,bI P p.own (cg p n)
 |0=>fun _f _args _h _S _β _w _vs hr=>absurd rfl hr
 |n+1=>pw G n (iN G n) fun k a=>re p G.nw n k a
end Go.Av
namespace Go.Av
def vC{m:List AV->M AV}{ms:Nat->List AV->M AV}(h:a6 m ms)(args:List AV):aE (lD m args) fun n=>lD (ms n) args:=by
 intro x;obtain⟨h1,h2⟩:=h (dz ax args) []
 (try dsimp only at h1 h2)
 refine⟨fun hne=>?_,fun n hne=>?_⟩
 ·have hne':m (dz ax args) []≠.fail:=fun hf=>hne (by simp only[lD,hf]);obtain⟨N,hN⟩:=h1 hne';refine⟨N,fun n hn=>?_⟩
  (try dsimp only)
  simp only[lD,hN n hn]
 ·(try dsimp only at hne |-)
  have hne':ms n (dz ax args) []≠.fail:=fun hf=>hne (by simp only[lD,hf]);simp only[lD,h2 n hne']
def cC(p:Pg):Prop:=∀f E,p.other f=some E->∀(call:FuncId->List AV->M AV)(calls:Nat->FuncId->List AV->M AV),(∀f,a6 (call f) fun n=>calls n f)->a6 (E call) fun n=>E (calls n)
section
variable {cx:Cx} {call:FuncId->List AV->M AV} {calls:Nat->FuncId->List AV->M AV} {fx:b9 AV} {fxs:Nat->b9 AV}
theorem rc(hc:∀f,a6 (call f) fun n=>calls n f)(hfx:jo fx fxs)(hfc:oT fx)(hfcs:∀n,oT (fxs n))(fn:Func)(own:Option Nat):
  a6 (bz (cx.wc call) fx fn own) fun n=>bz (cx.wc (calls n)) (fxs n) fn own:=by
 intro args;unfold bz;cases fn.body with
 |none=>exact aE.const _
 | some c=>
  have key:∀b:Bool,aE (bif b then ev (cx.wc call) fx c (ku args) (fP (cx.wc call) fn own) (fun _ _=>M.fail) (fP (cx.wc call) fn own)else M.fail) fun n=>(bif b then ev (cx.wc (calls n)) (fxs n) c (ku args) (fP (cx.wc (calls n)) fn own) (fun _ _=>M.fail) (fP (cx.wc (calls n)) fn own)else M.fail):=by
   intro b;cases b with
   |false=>exact aE.const _
   |true=>
    have hr:a6 (fP (cx.wc call) fn own) fun n=>fP (cx.wc (calls n)) fn own:=a6.const (fP cx fn own);exact zE _ c (Gt _) call calls fx fxs hc hfx hfc hfcs (ku args) _ (fun n=>fP (cx.wc (calls n)) fn own) _ (fun _ _ _=>M.fail) _ (fun n=>fP (cx.wc (calls n)) fn own) hr (fun i=>a6.const _) hr
  exact key (decide (args.length<=fn.ntmps)&&decide (fn.ntmps<=1000)&&iU cx.nt cx.ann.kinds)
theorem m5{p:Pg}(hO:cC p)(hc:∀f,a6 (call f) fun n=>calls n f)(hfx:jo fx fxs)(hfc:oT fx)(hfcs:∀n,oT (fxs n))(f:FuncId):a6 (fD p call fx f) fun n=>fD p (calls n) (fxs n) f:=by
 intro args;unfold fD;cases ho:p.other f with
 |some E=>exact hO f E ho call calls hc args
 | none=>
  simp only;cases p.funcs f with
  |none=>exact aE.const _
  |some x=>
   obtain⟨fn,a⟩:=x;simp only;have hb:=rc (cx:=p.cx call fn.ntmps a) hc hfx hfc hfcs fn (p.own f);cases a.iso with
   |true=>exact vC hb args
   |false=>exact hb args
end
theorem jZ{p:Pg}(hO:cC p):∀n f args,rZ (cg p n f args) (cg p (n+1) f args)
 |0,f,args=>fun x hne=>absurd rfl hne
 | n+1,f,args=>by
  have hc:∀f,a6 (cg p (n+1) f) fun m=>(if m=0 then cg p n else cg p (n+1)) f:=by
   intro f args x;refine⟨fun _=>⟨1,fun m hm=>?_⟩,fun m hne=>?_⟩
   ·(try dsimp only)
    rw[if_neg (by omega)]
   ·(try dsimp only at hne |-)
    by_cases h0:m=0
    ·rw[DG h0]at hne |-;exact jZ hO n f args x hne
    ·rw[if_neg h0]
  have h:=m5 hO hc (pD n) (oc (n+1)) (fun m=>by
   by_cases h0:m=0
   ·rw[DG h0];exact oc n
   ·rw[if_neg h0];exact oc (n+1)) f args
  intro x hne
  have:=(h x).2 0
  (try dsimp only at this)
  rw[DG rfl,DG rfl]at this;exact this hne
def nY{p:Pg}(hO:cC p){n m:Nat}(h:n<=m)(f:FuncId)(args:List AV):rZ (cg p n f args) (cg p m f args):=by
 induction m with
 | zero => have:n=0:=by omega
           subst this;exact .refl _
 |succ m ih=>
  by_cases hn:n=m+1
  ·subst hn;exact .refl _
  ·exact (ih (by omega)).trans (jZ hO m f args)
open Classical in
noncomputable def ak(p:Pg)(f:FuncId)(args:List AV):M AV:=fun h=>if hx:∃n,cg p n f args h≠.fail then cg p (Classical.choose hx) f args h else .fail
def gV{p:Pg}(hO:cC p)(f:FuncId):a6 (ak p f) fun n=>cg p n f:=by
 intro args h;refine mU (fun n m hnm hne=>nY hO hnm f args h hne) ?_;unfold ak;by_cases hx:∃n,cg p n f args h≠.fail
 ·left;simp only[dif_pos hx];exact⟨_,FW hx,rfl⟩
 ·right;simp only[dif_neg hx];exact⟨fun n=>Gm fun h=>hx ⟨n,h⟩,trivial⟩
def kK.uniq{α:Type}{a a':R α}{b:Nat->R α}(h:kK a b)(g:kK a' fun n=>b (n+1)):a=a':=by
 by_cases ha:a= .fail
 ·by_cases ha':a'= .fail
  ·rw[ha,ha']
  ·obtain⟨N,hN⟩:=g.1 ha';have h1:=hN N (DD _)
   (try dsimp only at h1)
   exact (h.2 (N+1) (by rw[h1];exact ha')).symm.trans h1
 ·obtain⟨N,hN⟩:=h.1 ha;have h1:=hN (N+1) (by omega);have h2:=g.2 N
  (try dsimp only at h2)
  exact h1.symm.trans (h2 (by rw[h1];exact ha))
def pm{p:Pg}(hO:cC p)(f:FuncId)(args:List AV):ak p f args=fD p (ak p) aj f args:=by
 funext h;have h1:=gV hO f args h;have h2:=m5 hO (fun f=>gV hO f) pC vp (fun n=>oc n) f args h;exact h1.uniq h2
def gD[Dr]{P:Program}{p:Pg}(G:GoodPg P p)(hO:cC p):bI P p.own (ak p):=by
 intro f args h S β w vs hr hg hw hh hv;obtain⟨N,hN⟩:=(gV hO f args h).1 hr;have h1:=hN N (DD _)
 (try dsimp only at h1)
 rw[<- h1]at hr |-;exact iN G N f args h S β w vs hr hg hw hh hv
def uM{p:Pg}(hO:cC p){n:Nat}{f:FuncId}{args:List AV}{h:Hp}{r:R AV}(hr:cg p n f args h=r)(hne:r≠.fail):ak p f args h=r:=by
 have:=(gV hO f args h).2 n (by(try dsimp only);rw[hr];exact hne)
 (try dsimp only at this)
 rw[<- this,hr]
end Go.Av
namespace Go.Av
section
variable {ρ:Type}
theorem bi{F:(List AV->M ρ)->List AV->M ρ}(hF:hQ F)(vs:List AV):aj F vs=F (aj F) vs:=by
 funext h;exact (ew hF vs h).uniq (hF _ _ (ew hF) vs h)
theorem aw{c:AV}{x y:M ρ}{xs ys:Nat->M ρ}(hx:aE x xs)(hy:aE y ys):aE (aB c x y) fun n=>aB c (xs n) (ys n):=by
 unfold aB;cases c with
 |bool b=>cases b<;>first|exact hx|exact hy
 |_=>exact aE.const _
theorem zN{k:List AV->M ρ}{ks:Nat->List AV->M ρ}{m:(List AV->M ρ)->M ρ}{ms:Nat->(List AV->M ρ)->M ρ}(hk:a6 k ks)(hm:∀j js,a6 j js->aE (m j) fun n=>ms n (js n)):aE (jn k m) fun n=>jn (ks n) (ms n):=
 hm k ks hk
theorem m9{F:(List AV->M ρ)->List AV->M ρ}{Fs:Nat->(List AV->M ρ)->List AV->M ρ}(h1:bW F Fs)(h2:hQ F)(h3:∀n,hQ (Fs n)):a6 (aj F) fun n=>aj (Fs n):=vp F Fs h1 h2 h3
end
end Go.Av
namespace Go.Av
def aH(m:M AV):M AV:=fun h=>match m []with
 |.ok r h'=>.ok (gx 6 h' r) h
 |.pan v h'=>.pan (gx 6 h' v) h
 |.fail=>.fail
def az{p:Pg}(hO:cC p){f:FuncId}{fn:Func}{a:Ann}(h1:p.other f=none)(h2:p.funcs f=some (fn,a))(h3:a.iso=true)(args:List AV):
  ak p f args=aH (bz (p.cx (ak p) fn.ntmps a) aj fn (p.own f) (dz ax args)):=by
 rw[pm hO];unfold fD;rw[h1];simp only;rw[h2];simp only[h3,Dx];rfl
def eu{p:Pg}(hO:cC p){f:FuncId}{E:(FuncId->List AV->M AV)->List AV->M AV}(h1:p.other f=some E)(args:List AV):ak p f args=E (ak p) args:=by
 rw[pm hO];unfold fD;rw[h1]
def cv(T:TT)(t:TypeId):(FuncId->List AV->M AV)->List AV->M AV:=fun _ args=>match args with
 |[.sl es]=>appH T t true (.sl []) (.sl es)
 |_=>M.fail
def kW(T:TT)(t:TypeId)(call:FuncId->List AV->M AV)(calls:Nat->FuncId->List AV->M AV):a6 (cv T t call) fun n=>cv T t (calls n):=a6.const _
def cE{α:Type}{b:Bool}{x:α}{o:Option α}{y:α}(h:(bif b then some x else o)=some y):x=y\/o=some y:=by
 cases b with
 |true=>exact .inl (by simpa using h)
 |false=>exact .inr h
def mY(T:TT)(t:TypeId)(call:FuncId->List AV->M AV)(args:List AV):qG (cv T t call args):=by
 unfold cv;split
 ·rename_i y;intro h v h' hh;unfold appH at hh;split at hh
  ·cases hh
  ·split at hh
   ·split at hh
    ·cases hh
    ·split at hh
     ·cases hh
     ·rename_i bs _;revert hh;generalize (_&&_:Bool)=b1;cases b1 with
      |false=>intro hh;cases hh
      | true=>
       simp only[Dx];cases bs.isEmpty with
       |true=>intro hh;cases hh;exact⟨[],by simp⟩
       |false=>
        simp only[DF];generalize decide (_<=140737488355328)=b2;cases b2 with
        |false=>intro hh;cases hh
        |true=>intro hh;cases hh;exact⟨_,rfl⟩
   ·cases hh
 ·intro h v h' hh;cases hh
end Go.Av
namespace Go.Av
variable [Dr]
open Go.RowKit
section
variable {S:ap} {β:List a8} {h:Hp} {w w':World}
omit [Dr]in
theorem bJ.below(hh:bJ S β w h){S':ap}(hb:∀b,b<w.heap.size->w'.heap[b]? = w.heap[b]? /\∀o,S' b o=S b o)(hle:S.le S'):bJ S' β w' h:=by
 obtain⟨hlen,ω,hr⟩:=hh;exact⟨hlen,ω,hr.rows hle (dT.refl β) hlen fun l cs hl _=>.inl ⟨hl,fun b hlt ho=>⟨ho,(hb b hlt).1,fun o h=>by rw[(hb b hlt).2];exact h⟩⟩⟩
theorem ru(hw:Wf S w)(hh:bJ S β w h)(hb:Below w.heap.size w w')(hd:Dr.on->w.drawn<=w'.drawn){S':ap}(hS:∀b,b<w.heap.size->∀o,S' b o=S b o)(hnew:∀b o v,w.heap.size<=b->S' b o=some v->w'.cell? ⟨b,o,none⟩=some v):
  Left (bn β h) S β w S' β w' h:=by
 have hle:S.le S':=fun b o v hv=>by rw[hS b (hw.lt hv)];exact hv
 refine⟨hle,dT.refl β,fun b o v hv=>?_,⟨hb.size,hb.os,hb.output,hb.tape,hd⟩,fun b hlt _=>⟨hb.block b hlt,hS b hlt⟩,hh.below (fun b hlt=>⟨hb.block b hlt,hS b hlt⟩) hle,fun b hb=>.inl hb⟩;rcases DU b w.heap.size with hlt|hge
 ·rw[hS b hlt]at hv;rw[cell_of_heap (hb.block b hlt)];exact hw b o v hv
 ·exact hnew b o v hge hv
theorem bE(hw:Wf S w)(hh:bJ S β w h)(hb:Below w.heap.size w w')(hd:Dr.on->w.drawn<=w'.drawn){r:AV}{v:Value}(hv:VR S β r v):cF none S β h w (.ok r h) (.returned v) w':=
 ⟨S,β,v,rfl,hv,ru hw hh hb hd (fun _ _ _=>rfl) (fun b o v hge hv=>by have:=hw.lt hv;omega),fun sz hsz=>by cases hsz⟩
end
end Go.Av
namespace Go.Av
variable [Dr]
def fB:(FuncId->List AV->M AV)->List AV->M AV:=fun _ args=>match args with
 |[.str s,.str t]=>ah (bif decide (s.length<4294967281)then some (.bool (Lib.contains s t))else none)
 |_=>M.fail
def tx:List AV->Option Nat
 |[.hp l off]=>bif Nat.beq off 0 then some l else none
 |_=>none
omit [Dr]in
theorem pK{args:List AV}{l:Nat}(h:tx args=some l):args=[.hp l 0]:=by
 unfold tx at h;split at h
 ·rename_i l' off;cases ho:Nat.beq off 0 with
  |false=>rw[ho]at h;cases h
  |true=>
   rw[ho]at h;cases h;rw[DC ho]
 ·cases h
def Cm(ok:List (Nat×Nat))(l:Nat):List AV->Option (List AV)
 |.nilb t:: x:: r=>bif ok.any (fun p=>Nat.beq p.1 t&&Nat.ble p.2 (r.length+2))then some (.hp l 0:: x:: r)else none
 |.hp l' k:: r=>bif Nat.beq l' l&&Nat.beq k 0 then some (.hp l' k:: r)else none
 |_=>none
omit [Dr]in
theorem wZ{ok:List (Nat×Nat)}{l:Nat}{cs cs':List AV}(h:Cm ok l cs=some cs'):(∃t x r,cs= .nilb t:: x:: r/\cs'= .hp l 0:: x:: r/\∃n,(t,n)∈ok/\n<=r.length+2)\/(∃r,cs= .hp l 0:: r/\cs'=cs):=by
 unfold Cm at h;split at h
 ·rename_i t x r;cases ho:ok.any (fun p=>Nat.beq p.1 t&&Nat.ble p.2 (r.length+2))with
  |false=>rw[ho]at h;cases h
  |true=>
   rw[ho]at h;cases h;obtain⟨p,hp,hq⟩:=List.any_eq_true.1 ho;rw[Dy]at hq;refine .inl ⟨t,x,r,rfl,rfl,p.2,?_,FB hq.2⟩;rw[<- DC hq.1];exact hp
 ·rename_i l' k r;cases ho:(Nat.beq l' l&&Nat.beq k 0)with
  |false=>rw[ho]at h;cases h
  |true=>
   rw[ho]at h;cases h;rw[Dy]at ho;have h1:=DC ho.1;have h2:=DC ho.2;subst h1 h2;exact .inr ⟨r,rfl,rfl⟩
 ·cases h
def fV(ok:List (Nat×Nat)):(FuncId->List AV->M AV)->List AV->M AV:=fun _ args h=>match tx args with
 | some l=>(match h[l]? with
  |some cs=>(match Cm ok l cs with
   |some cs'=>.ok (.tup []) (h.set l cs')
   |none=>.fail)
  |none=>.fail)
 |none=>.fail
def uJ(e:Nat):AV->Option UInt8
 |.byt t n=>bif Nat.beq t e&&decide (0<=n)&&decide (n<256)then some (UInt8.ofNat n.toNat)else none
 |_=>none
def io(e:Nat):List AV->Option (List UInt8)
 |[]=>some []
 |x:: r=>match uJ e x,io e r with
  |some b,some l=>some (b:: l)
  |_,_=>none
def stA:List AV->Option (Option (Nat×Nat))
 |.hp _ _:: .hs lb off len sz ag:: _=>bif Nat.beq off 0&&Nat.beq sz 1&&!ag&&Nat.blt 0 len&&Nat.ble len 140737488355328 then some (some (lb,len))else none
 |_:: .hn:: _=>some none
 |_=>none
omit [Dr]in
theorem wA{cs:List AV}{lb len:Nat}(h:stA cs=some (some (lb,len))):∃x r,cs=x:: .hs lb 0 len 1 false:: r/\0<len/\len<=140737488355328:=by
 unfold stA at h;split at h
 ·rename_i l k lb' off len' sz ag r;cases ho:(Nat.beq off 0&&Nat.beq sz 1&&!ag&&Nat.blt 0 len'&&Nat.ble len' 140737488355328)with
  |false=>rw[ho]at h;cases h
  |true=>
   rw[ho]at h;cases h;simp only[Dy,Er]at ho;obtain⟨⟨⟨⟨h1,h2⟩,h3⟩,h4⟩,h5⟩:=ho;have h1:=DC h1;have h2:=DC h2;subst h1 h2 h3;exact⟨_,r,rfl,FB h4,FB h5⟩
 ·cases h
 ·cases h
omit [Dr]in
theorem wz{cs:List AV}(h:stA cs=some none):∃x r,cs=x:: .hn:: r:=by
 unfold stA at h;split at h
 ·rename_i l k lb' off len' sz ag r;cases ho:(Nat.beq off 0&&Nat.beq sz 1&&!ag&&Nat.blt 0 len'&&Nat.ble len' 140737488355328)with
  |false=>rw[ho]at h;cases h
  |true=>rw[ho]at h;cases h
 ·exact⟨_,_,rfl⟩
 ·cases h
def dK(e:Nat):(FuncId->List AV->M AV)->List AV->M AV:=fun _ args h=>match tx args with
 | some l=>(match h[l]? with
  | some cs=>(match stA cs with
   |some none=>.ok (.str []) h
   | some (some (lb,len))=>(match h[lb]? with
    |some bs=>(match (bif Nat.ble len bs.length then io e (bs.take len)else none)with
     |some s=>.ok (.str s) (h.set lb [])
     |none=>.fail)
    |none=>.fail)
   |none=>.fail)
  |none=>.fail)
 |none=>.fail
def sk:AV->Option (List UInt8×Int×List AV)
 |.agg [.str n,.int .i64 k,.sl fs]=>some (n,k,fs)
 |_=>none
def eZ:List AV->Option (List (List UInt8×Int×List AV))
 |[]=>some []
 |x:: r=>match sk x,eZ r with
  |some z,some l=>some (z:: l)
  |_,_=>none
def gn{α:Type}(p:α->Bool):List α->Option α
 |[]=>none
 |z:: r=>match gn p r with
  |some y=>some y
  |none=>bif p z then some z else none
def vQ(l:List (List UInt8×Int×List AV))(name:List UInt8):AV:=match gn (fun z=>z.1== name) l with
 |some z=>.tup [.agg [.int .i64 z.2.1,.sl z.2.2],.bool true]
 |none=>.tup [.agg [.int .i64 0,.sl []],.bool false]
def kF:(FuncId->List AV->M AV)->List AV->M AV:=fun _ args=>match args with
 |[.sl es,.str name]=>(match eZ es with
  |some l=>ah (bif decide (l.length<=1000000000)then some (vQ l name)else none)
  |none=>M.fail)
 |_=>M.fail
omit [Dr]in
theorem mC{α:Type}(p:α->Bool)(l:List α):gn p l=l.reverse.find? p:=by
 induction l with
 |nil=>rfl
 |cons z r ih=>
  simp only[gn,ih,List.reverse_cons,List.find?_append];cases r.reverse.find? p with
  |some y=>rfl
  |none=>cases h:p z<;>simp[h]
end Go.Av
namespace Go.Av
variable [Dr]
open Go.RowKit
def tc:Nat->Nat->List UInt8
 |0,_=>[]
 |f+1,u=>bif decide (u<10)then[UInt8.ofNat (48+u)]else tc f (u / 10)++[UInt8.ofNat (48+u % 10)]
omit [Dr]in
theorem nV:∀(f u:Nat),u<10 ^ (f+1)->tc (f+1) u=Lib.decDigits u
 | f,u,h=>by
  rw[Lib.decDigits];rw[show tc (f+1) u=bif decide (u<10)then[UInt8.ofNat (48+u)]else tc f (u / 10)++[UInt8.ofNat (48+u % 10)]from rfl];by_cases h10:u<10
  ·rw[dif_pos h10,EO h10];rfl
  ·rw[dif_neg h10,GF h10];cases f with
   |zero=>omega
   |succ f=>rw[nV f (u / 10) (by rw[Nat.pow_succ]at h;omega)];rfl
def vF(n:Int):List UInt8:=bif decide (n<0)then 45:: tc 20 n.natAbs else tc 20 n.toNat
omit [Dr]in
theorem vG{n:Int}(h0:-9223372036854775808<=n)(h1:n<=9223372036854775807):vF n=Lib.itoa n:=by
 unfold vF Lib.itoa;by_cases h:n<0
 ·rw[EO h,DG h];simp only[Dx];rw[nV 19 n.natAbs (by omega)]
 ·rw[GF h,if_neg h];simp only[DF];rw[nV 19 n.toNat (by omega)]
def su:(FuncId->List AV->M AV)->List AV->M AV:=fun _ args=>match args with
 |[.int .i64 n]=>ah (bif decide (-9223372036854775808<=n)&&decide (n<=9223372036854775807)then some (.str (vF n))else none)
 |_=>M.fail
def r7(t:TypeId)(s:List UInt8):AV:=match Lib.atoiAll s with
 |.ok v=>.tup [.int .i64 v,.nili]
 |.range=>.tup [.int .i64 (Lib.atoiSat s),.iface t .any]
 |_=>.tup [.int .i64 0,.iface t .any]
def r6(t:TypeId):(FuncId->List AV->M AV)->List AV->M AV:=fun _ args=>match args with
 |[.str s]=>ah (bif decide (s.length<=281474976710656)then some (r7 t s)else none)
 |_=>M.fail
end Go.Av
namespace Go.Av
open Go.RowKit Go.Sort Go.Proofs
section
variable [Dr]
theorem Left.grew(hd:Dr.on){S S':ap}{β β':List a8}{w w':World}{h':Hp}(L:Left (bn [] []) S β w S' β' w' h'):∃q os,w'=grow (w.drewN q) os:=by
 have hg:=L.gro;have hd:=hg.cnt hd;have hk:∀b,b<w.heap.size->w'.heap[b]? = w.heap[b]?:=fun b hb=>(L.keep b hb (by rintro⟨l,_,_,h1,_⟩;simp at h1)).1;refine⟨w'.drawn-w.drawn,w'.heap.extract w.heap.size w'.heap.size,?_⟩;have e1:w.heap++w'.heap.extract w.heap.size w'.heap.size=w'.heap:=by
  apply Gg;intro i;by_cases hi:i<w.heap.size
  ·rw[E0 hi,hk i hi]
  ·rw[Array.getElem?_append_right (by omega),Array.getElem?_extract];split
   ·rw[show w.heap.size+(i-w.heap.size)=i by omega]
   ·rw[Ej (by omega)]
 have e2:w.drawn+(w'.drawn-w.drawn)=w'.drawn:=by omega
 obtain⟨h1,h2,h3,h4,h5⟩:=w';obtain⟨g1,g2,g3,g4,g5⟩:=w;have a1:=hg.os;have a2:=hg.out;have a3:=hg.tape;simp only at a1 a2 a3 e1 e2;unfold grow World.drewN;simp only[e1,e2,a1,a2,a3]
end
theorem kc{α β:Type}(f:α->List β)(k:Nat)(hk:∀x,(f x).length=k)(hp:0<k):∀(l:List α)(t:Nat),(l.map f).flatten[t]? = (l[t / k]?).bind fun x=>(f x)[t % k]?
 |[],t=>by simp
 | x:: l,t=>by
  simp only[D8,FS];by_cases h:t<k
  ·rw[DN (by rw[hk];exact h),Nat.div_eq_of_lt h,FC h];simp
  ·rw[DY (by rw[hk];omega),hk,kc f k hk hp l (t-k)];rw[Nat.div_eq_sub_div hp (by omega:k<=t),Nat.mod_eq_sub_mod (by omega:k<=t)];simp
theorem kd{α β:Type}(f:α->List β)(k:Nat)(hk:∀x,(f x).length=k):∀(l:List α),(l.map f).flatten.length=l.length*k
 |[]=>by simp
 |x:: l=>by simp only[D8,FS,Eb,hk,kd f k hk l,D4,Ff];omega
section
variable {α:Type} [Inhabited α]
theorem ll(enc:α->List Value)(k:Nat)(hk:∀x,(enc x).length=k)(hp:0<k)(d:Array α):(flatK enc k d).toList=(d.toList.map enc).flatten:=by
 apply FP;intro t;rw[kc enc k hk hp];by_cases ht:t<d.size*k
 ·have hd:t / k<d.size:=by rw[Nat.div_lt_iff_lt_mul hp];exact ht
  have hm:t % k<k:=GK _ hp;have h1:=get_flatK enc k d t ht;rw[D2 (flatK enc k d) t (by rw[size_flatK];exact ht),D2 d _ hd,D2 (enc _) _ (by rw[hk];exact hm)]at h1;rw[DR (by simpa using ht),Array.getElem_toList,h1,D1,D6 hd];simp only[Fh];rw[DR (by rw[hk];exact hm)]
 ·rw[DI (by simp only[En,size_flatK];omega),DI (by simp only[En];rw[Nat.le_div_iff_mul_le hp];omega)];rfl
theorem mF(F x:Array Value)(off:Nat)(hf:off+F.size<=x.size):putCells id off F x=(x.toList.take off++F.toList++x.toList.drop (off+F.size)).toArray:=by
 apply Gg;intro t;unfold putCells;simp only[Array.getElem?_mapIdx,Ex];by_cases h1:t<off
 ·rw[DN (by simp;omega),DN (by simp;omega),DJ,DG h1,D1,D6 (by omega)];simp only[EC];rw[if_neg (by omega)]
 ·by_cases h2:t<off+F.size
  ·rw[DN (by simp;omega),DY (by simp;omega)];have e:(x.toList.take off).length=off:=by simp;omega
   rw[e,D6 (by omega:t<x.size),D1,D6 (by omega:t-off<F.size)];simp only[EC,id];rw[DG ⟨by omega,h2⟩,D2 F _ (by omega)]
  ·have e:(x.toList.take off++F.toList).length=off+F.size:=by simp;omega
   rw[DY (by rw[e];omega),e,Es,D1,show off+F.size+(t-(off+F.size))=t by omega];cases x[t]? with
   |none=>rfl
   |some y=>simp only[EC];rw[if_neg (by omega)]
theorem wx{w:World}{b:Nat}{x:Array Value}(hr:Row w b x)(enc:α->List Value)(k off n:Nat)(d:Array α)(os:Array Obj)(hf:off+d.size*k<=x.size):
  Row (sortWorldK enc k w b off n d os) b (x.toList.take off++(flatK enc k d).toList++x.toList.drop (off+(flatK enc k d).size)).toArray:=by
 have hlt:=hr.lt;obtain⟨e,he⟩:=hr;refine⟨e,?_⟩;rw[<- mF (flatK enc k d) x off (by rw[size_flatK];exact hf)];show ((w.heap.modify b (onCells (putCells id off (flatK enc k d))))++os)[b]? = _;rw[E0 (by simpa using hlt),FA,DG rfl,he];rfl
theorem me{w:World}{b b':Nat}(enc:α->List Value)(k off n:Nat)(d:Array α)(os:Array Obj)(hlt:b'<w.heap.size)(hb:b'≠b):(sortWorldK enc k w b off n d os).heap[b']? = w.heap[b']?:=by
 show ((w.heap.modify b (onCells (putCells id off (flatK enc k d))))++os)[b']? = _;rw[E0 (by simpa using hlt),FA,if_neg (fun h=>hb h.symm)]
theorem ww[Dr]{w:World}{b:Nat}(enc:α->List Value)(k off n:Nat)(d:Array α)(os:Array Obj):Gro w (sortWorldK enc k w b off n d os):=by
 refine⟨?_,rfl,rfl,rfl,fun _=>?_⟩
 ·show _<=((w.heap.modify b (onCells (putCells id off (flatK enc k d))))++os).size;simp
 ·show w.drawn<=w.drawn+n;omega
end
section
variable [Dr] {S:ap} {β:List a8} {h:Hp} {w w':World}
theorem vJ(hw:Wf S w)(hh:bJ S β w h){l b nb off:Nat}{cs acs:List AV}{vs:List Value}(hcs:h[l]? = some cs)(hne:cs≠[])(hb:β[l]? = some (b,nb))(hb0:nb≠0)(hvs:aG S β acs vs)(hle:off+acs.length<=cs.length)(hoc:cs.all aL=true)(hoa:acs.all aL=true)(hg:Gro w w')(hr:∀x,Row w b x->cs.length<=x.size->Row w' b (x.toList.take off++vs++x.toList.drop (off+vs.length)).toArray)(ho:∀b',b'<w.heap.size->b'≠b->w'.heap[b']? = w.heap[b']?):
  Left (bn β h) S β w S β w' (h.set l (setCells cs off acs)):=by
 obtain⟨hlen,ω,hH⟩:=hh;obtain⟨z,j1,j2,j3,j4,j5⟩:=dl.cells hH hcs hne hb hb0;rw[hb]at j1;cases j1;have hvl:=hvs.length;have hzs:cs.length<=z.size:=by
  have:=j4.length
  simp at this;omega
 have hrow:=hr z j2 hzs;have hll:l<h.length:=by
  rcases DU l h.length with k|k
  ·exact k
  ·rw[DI k]at hcs;cases hcs
 have hown:∀b',bn β (h.set l (setCells cs off acs)) b'->bn β h b':=by
  rintro b' ⟨l',cs',n,k1,k2,k3⟩;by_cases hl:l'=l
  ·subst hl;exact⟨l',cs,n,hcs,hne,k3⟩
  ·rw[List.getElem?_set_ne (fun e=>hl e.symm)]at k1;exact⟨l',cs',n,k1,k2,k3⟩
 refine⟨ap.le_refl S,dT.refl β,fun b' o v hv=>?_,hg,fun b' hb' hE=>?_,⟨by simpa using hlen,ω,dl.rows hH (ap.le_refl S) (dT.refl β) hlen fun l' cs' hl' hne'=>?_⟩,fun b' hb'=>.inl (hown b' hb')⟩
 ·have hne2:b'≠b:=by rintro rfl;rw[j5]at hv;cases hv
  rw[cell_of_heap (ho b' (hw.lt hv) hne2)];exact hw b' o v hv
 ·have hne2:b'≠b:=by rintro rfl;exact hE ⟨l,cs,_,hcs,hne,hb⟩
  exact⟨ho b' hb' hne2,fun _=>rfl⟩
 ·by_cases hl:l'=l
  ·subst hl;rw[Fa hll]at hl';cases hl';refine .inr ⟨b,_,?_,hrow,j3,?_,j5,fun t ht=>?_⟩
   ·rw[hb];simp;omega
   ·rw[dv _ _ _ (by omega)];have hsp:aG S β (setCells cs off acs) (((z.toList.take cs.length).take off++vs++(z.toList.take cs.length).drop (off+vs.length))):=by
     unfold setCells;rw[hvl];exact ((j4.take off).append hvs).append (j4.drop _)
    have heq:(z.toList.take off++vs++z.toList.drop (off+vs.length)).take cs.length=
      (z.toList.take cs.length).take off++vs++(z.toList.take cs.length).drop (off+vs.length):=by
     rw[Fg,Fg];have e1:(z.toList.take off).length=off:=by simp;omega
     rw[E1,E1];have e2:min cs.length off=off:=by omega
     have e3:min off cs.length=off:=by omega
     rw[e2,e3,e1];have e4:vs.take (cs.length-off)=vs:=EZ (by omega);rw[e4];congr 1;rw[GI,Eb,e1];congr 2;omega
    show aG S β _ (List.take _ _);rw[show (z.toList.take off++vs++z.toList.drop (off+vs.length)).toArray.toList=(z.toList.take off++vs++z.toList.drop (off+vs.length))from rfl,heq];exact hsp
   ·rcases ht.setCells with g|g
    ·exact absurd g (fK hoc t)
    ·exact absurd g (fK hoa t)
  ·rw[List.getElem?_set_ne (fun e=>hl e.symm)]at hl';refine .inl ⟨hl',fun b2 hlt hω=>⟨hω,ho b2 hlt ?_,fun o=>id⟩⟩;rintro rfl;rw[j3]at hω;cases hω;exact hl rfl
end
theorem Ds{S:ap}{β:List a8}:{ps qs:List AV} ->{vs:List Value} ->aG S β (ps++qs) vs->∃u v,vs=u++v/\aG S β ps u/\aG S β qs v
 |[],_,vs,h=>⟨[],vs,rfl,by simp[aG],h⟩
 |_:: ps,qs,vs,h=>by
  simp only[Eg,aG]at h;obtain⟨x,xs,rfl,h1,h2⟩:=h;obtain⟨u,v,rfl,h3,h4⟩:=Ds h2;exact⟨x:: u,v,rfl,by simp only[aG];exact⟨x,u,rfl,h1,h3⟩,h4⟩
section
variable [Dr] {α:Type} [Inhabited α] {P:Program}
end
end Go.Av
namespace Go.Av
open Go.RowKit Go.Sort Go.Proofs
def cH{α:Type}(k:Nat)(l:List α)(i:Nat):List α:=(l.drop (i*k)).take k
def mV{α:Type}{k n:Nat}{l:List α}(h:l.length=n*k){i:Nat}(hi:i<n):(cH k l i).length=k:=by
 have:i*k+k<=n*k:=by rw[<- Ff];exact DO _ hi
 simp only[cH,EA,Gw,h];omega
theorem kS{α:Type}{k:Nat}:(n:Nat)->{l:List α} ->l.length=n*k->((List.range n).map fun i=>cH k l i).flatten=l
 |0,l,h=>by simp at h;simp[h]
 | n+1,l,h=>by
  rw[List.range_succ_eq_map,D8,Fy,FS];have e:((fun i=>cH k l i) ∘ Nat.succ)=fun i=>cH k (l.drop k) i:=by
   funext i;simp only[Function.comp,cH,FO,Ff];congr 2;omega
  rw[e,kS n (l:=l.drop k) (by rw[Gw,h,Ff];omega)];simp[cH,Fc]
def aG.chunk{S:ap}{β:List a8}{cs:List AV}{vs:List Value}(h:aG S β cs vs)(k i:Nat):aG S β (cH k cs i) (cH k vs i):=(h.drop (i*k)).take k
def jG:List AV->Option (List UInt8)
 |.str s:: _=>some s
 |_=>none
def q3(x y:List UInt8):Int:=if aC x y=true then -1 else if aC y x=true then 1 else 0
def wN(keys:List (List UInt8))(n:Nat)(i j:Nat):Int:=q3 keys[i % n]! keys[j % n]!
def dH(keys:List (List UInt8)):List Nat:=(pdq (ltOf (wN keys keys.length)) (Array.range keys.length) 0 (Array.range keys.length).size (Lib.bitLen (Array.range keys.length).size) true true).toList
def lE:List (List AV)->Option (List (List UInt8))
 |[]=>some []
 | c:: r=>match jG c with
  |none=>none
  |some s=>match lE r with
   |none=>none
   |some l=>some (s:: l)
theorem ni:{cs:List (List AV)} ->{ks:List (List UInt8)} ->lE cs=some ks->ks.length=cs.length/\∀(i:Nat)(c:List AV),cs[i]? = some c->jG c=some ks[i]!
 |[],ks,h=>by
  cases h;exact⟨rfl,fun i c hc=>by simp at hc⟩
 | c:: r,ks,h=>by
  unfold lE at h;cases hc:jG c with
  |none=>rw[hc]at h;cases h
  | some s=>
   rw[hc]at h;simp only at h;cases hr:lE r with
   |none=>rw[hr]at h;cases h
   |some l=>
    rw[hr]at h;cases h;obtain⟨h1,h2⟩:=ni hr;refine⟨by simp[h1],fun i d hd=>?_⟩;cases i with
    |zero=>simp at hd;subst hd;simpa using hc
    |succ i=>simpa using h2 i d (by simpa using hd)
theorem pS{nm:List AV->List UInt8}:{cs:List (List AV)} ->(∀c∈cs,jG c=some (nm c))->lE cs=some (cs.map nm)
 |[],_=>rfl
 |c:: r,h=>by simp[lE,h c (by simp),pS (cs:=r) fun d hd=>h d (by simp[hd])]
def keysOf(k n:Nat)(row:List AV):Option (List (List UInt8)):=lE ((List.range n).map fun i=>cH k row i)
def dZ(k g:Nat):(FuncId->List AV->M AV)->List AV->M AV:=fun _ args h=>match args with
 |[.sl [],.fn (.func g') [] []]=>bif Nat.beq g' g then .ok (.tup []) h else .fail
 |[.hn,.fn (.func g') [] []]=>bif Nat.beq g' g then .ok (.tup []) h else .fail
 | [.hs l off len sz _,.fn (.func g') [] []]=>match h[l]? with
  |none=>.fail
  |some cs=>match keysOf k len ((cs.drop off).take (len*k))with
   |none=>.fail
   | some keys=>bif Nat.beq g' g&&Nat.beq sz k&&decide (0<len)&&decide (0<k)&&decide (off+len*k<=cs.length)&&decide (keys.length=len)&&decide (len<4611686018427387904)&&decide ((dH keys).length=len)&&cs.all aL
     then .ok (.tup []) (h.set l (setCells cs off ((dH keys).map fun i=>cH k ((cs.drop off).take (len*k)) (i % len)).flatten))else .fail
 |_=>.fail
def fY:(FuncId->List AV->M AV)->List AV->M AV:=fun _ args=>match args with
 |[.str s,.int .u8 n]=>M.pure (.int .i64 (Lib.indexByte s n.toNat.toUInt8))
 |_=>M.fail
section
variable [Dr] {P:Program}
omit [Dr]in
theorem tE{S:ap}{β:List a8}{c:List AV}{s:List UInt8}{vs:List Value}(h:jG c=some s)(hv:aG S β c vs):∃(x:ByteArray)(r:List Value),vs= .string x:: r/\x.data.toList=s:=by
 unfold jG at h;split at h
 ·cases h;simp only[aG,VR]at hv;obtain⟨v,r,rfl,⟨x,rfl,hx⟩,_⟩:=hv;exact⟨x,r,rfl,hx⟩
 ·cases h
omit [Dr]in
theorem mM{k i:Nat}{l:List AV}{p:AV->Bool}(h:l.all p=true):(cH k l i).all p=true:=by
 rw[DL]at h|-;exact fun x hx=>h x (F7 (E2 hx))
theorem vz{f k g:Nat}(call:FuncId->List AV->M AV)
  (hcal:∀(w:World)(blk off cap:Nat)(keys:List (List UInt8))(ev:Nat->List Value),0<keys.length->(∀i,(ev i).length=k)->(∀i,∀v∈ev i,v.oneCell'=true)->(∀i,∃(x:ByteArray)(r:List Value),ev i= .string x:: r/\x.data.toList=keys[i % keys.length]!)->
   GOKw w->gN<=blk->HoldsK ev k w blk off (Array.range keys.length)->blk<w.heap.size->keys.length<4611686018427387904->
   Calls P f #[.slice (some ⟨blk,off,none⟩) keys.length cap,.func (.func g) #[] #[]] w fun e w'=>e= .returned (.tuple #[])/\∃n os,w'=sortWorldK ev k w blk off n (dH keys).toArray os)
  {l off len sz g':Nat} {ag:Bool} {h:Hp} {S:ap} {β:List a8} {w:World} {vs:List Value} (hr:dZ k g call [.hs l off len sz ag,.fn (.func g') [] []] h≠.fail) (hg:kJ β h w) (hw:Wf S w) (hh:bJ S β w h)
  (hv:aG S β [.hs l off len sz ag,.fn (.func g') [] []] vs):Calls P f vs.toArray w (cF none S β h w (dZ k g call [.hs l off len sz ag,.fn (.func g') [] []] h)):=by
 unfold dZ at hr |-;simp only at hr |-;cases hl:h[l]? with
 |none=>rw[hl]at hr;exact absurd rfl hr
 | some cs=>
  rw[hl]at hr;simp only at hr |-;generalize hrow:(cs.drop off).take (len*k)=row at hr |-;cases hd:keysOf k len row with
  |none=>rw[hd]at hr;exact absurd rfl hr
  | some keys=>
   rw[hd]at hr;simp only at hr |-;cases hc:(Nat.beq g' g&&Nat.beq sz k&&decide (0<len)&&decide (0<k)&&decide (off+len*k<=cs.length)&&decide (keys.length=len)&&decide (len<4611686018427387904)&&decide ((dH keys).length=len)&&cs.all aL)with
   |false=>rw[hc]at hr;exact absurd rfl hr
   | true=>
    simp only[Dy,DK]at hc;obtain⟨⟨⟨⟨⟨⟨⟨⟨c1,c2⟩,c3⟩,hpos⟩,c4⟩,c5⟩,c6⟩,c7⟩,c8⟩:=hc;obtain rfl:=DC c1;obtain rfl:=DC c2;simp only[Dx];have hlk:0<len*sz:=Fp c3 hpos;have hne:cs≠[]:=by rintro rfl;simp at c4;omega
    simp only[aG]at hv;obtain⟨v1,r1,rfl,hv1,v2,r2,rfl,hv2,rfl⟩:=hv;obtain⟨⟨b,nb⟩,cap,hb,hb0,rfl,k1,k2⟩:=hv1.hs_pos c3;simp only[VR,aG]at hv2;obtain⟨y1,y2,rfl,rfl,rfl⟩:=hv2;have hh':=hh;obtain⟨hlen,ω,hH⟩:=hh;obtain⟨z,j1,j2,j3,j4,j5⟩:=dl.cells hH hl hne hb hb0;rw[hb]at j1;cases j1;have hzs:cs.length<=z.size:=by
     have:=j4.length
     simp at this;omega
    have hown:bn β h b:=⟨l,cs,_,hl,hne,hb⟩;have hgb:gN<=b:=by
     rcases DU b gN with k|k
     ·exact absurd hown (hg.2 b k)
     ·exact k
    have hrl:row.length=len*sz:=by rw[<- hrow,EA,Gw];omega
    have hvx:=(j4.drop off).take (len*sz);rw[hrow]at hvx;generalize hvr:(((z.toList.take cs.length).drop off).take (len*sz))=vr at hvx;have hvl:vr.length=len*sz:=by rw[hvx.length,hrl]
    have hro:row.all aL=true:=by
     rw[DL]at c8 |-;rw[<- hrow];exact fun x hx=>c8 x (F7 (E2 hx))
    have hmod:∀i,i % len<len:=fun i=>GK _ c3;obtain⟨hk1,hk2⟩:=ni hd;let ev:Nat->List Value:=fun i=>cH sz vr (i % len);have hev:∀i,(ev i).length=sz:=fun i=>mV hvl (hmod i);have hea:∀i,(cH sz row (i % len)).length=sz:=fun i=>mV hrl (hmod i);have hre:∀i,aG S β (cH sz row (i % len)) (ev i):=fun i=>hvx.chunk sz (i % len);have hrange:(List.range len).map ev=(List.range len).map fun i=>cH sz vr i:=Fj fun i hi=>by
     show cH sz vr (i % len)=_;rw[FC (List.mem_range.1 hi)]
    have hflat:(flatK ev sz (Array.range keys.length)).toList=vr:=by
     rw[ll ev sz hev hpos,Array.toList_range,c5,hrange,kS len hvl]
    have hsz:(flatK ev sz (Array.range keys.length)).size=len*sz:=by rw[size_flatK];simp[c5]
    have hholds:HoldsK ev sz w b off (Array.range keys.length):=by
     intro j hj;rw[hsz]at hj;have e1:(flatK ev sz (Array.range keys.length))[j]! = z[off+j]'(by omega):=by
      have h1:(flatK ev sz (Array.range keys.length)).toList[j]? = z.toList[off+j]?:=by
       rw[hflat,<- hvr,DJ,DG hj,Es,DJ,DG (by omega)]
      rw[D1,D1,D6 (by omega),D6 (by omega)]at h1;rw[D2 _ j (by omega)];exact Option.some.inj h1
     rw[e1];refine⟨by rw[j2.cell,D6 (by omega)];rfl,?_⟩;obtain⟨e,he⟩:=j2;simp[World.frozen?,he]
    have hkey:∀i,∃(x:ByteArray)(r:List Value),ev i= .string x:: r/\x.data.toList=keys[i % keys.length]!:=fun i=>by
     refine tE ?_ (hre i);rw[c5];exact hk2 (i % len) _ (by rw[ED,List.getElem?_range (hmod i)];rfl)
    have hone:∀i,∀v∈ev i,v.oneCell'=true:=fun i=>wa (hre i) (mM hro);have hcall:=hcal w b off cap keys ev (by omega) hev hone hkey hg.1 hgb hholds j2.lt (by omega);rw[c5]at hcall;refine hcall.mono ?_;rintro e w' ⟨rfl,n,os,rfl⟩;have hfl2:=ll ev sz hev hpos (dH keys).toArray;have hs2:(flatK ev sz (dH keys).toArray).size=len*sz:=by rw[size_flatK];simp[c7]
    have hal:((dH keys).map fun i=>cH sz row (i % len)).flatten.length=len*sz:=by rw[kd (fun i=>cH sz row (i % len)) sz hea,c7]
    have hvv:∀p:List Nat,aG S β (p.map fun i=>cH sz row (i % len)).flatten (p.map ev).flatten:=by
     intro p
     induction p with
     |nil=>simp[aG]
     |cons i p ih=>simp only[D8,FS];exact (hre i).append ih
    have hok:((dH keys).map fun i=>cH sz row (i % len)).flatten.all aL=true:=by
     rw[List.all_flatten,List.all_map];exact DL.2 fun i _=>mM hro
    refine⟨S,β,_,rfl,by simp only[VR,aG];exact⟨[],rfl,rfl⟩,vJ (vs:=(flatK ev sz (dH keys).toArray).toList) hw hh' hl hne hb hb0 (by rw[hfl2];exact hvv _) (by rw[hal];exact c4) c8 hok (ww ev sz off n _ os) (fun x hx hle=>?_) (fun b' hlt hne2=>me ev sz off n _ os hlt hne2),fun _ hsz=>by cases hsz⟩
    have:=wx hx ev sz off n (dH keys).toArray os (by simp only[E3,c7];omega)
    exact this
end
end Go.Av
namespace Go.Av.Ap
abbrev bT:=List UInt8
inductive Val where
 |mk (kind n:Int) (names:List bT) (values:List Val)
instance:Inhabited Val:=⟨.mk 0 0 [] []⟩
inductive Exp where
 |mk (op n:Int) (s m:bT) (names:List bT) (args:List Exp)
instance:Inhabited Exp:=⟨.mk 0 0 [] [] [] []⟩
inductive Ty where
 |mk (kind:Int) (fields:List (bT×Ty))
instance:Inhabited Ty:=⟨.mk 0 []⟩
abbrev eQ:=bT×Ty
structure Fun where
 name:bT
 pub:Bool
 params:List eQ
 result:Ty
 effects:Int
 body:Exp
 deriving Inhabited
structure Mod where
 name:bT
 uses:List bT
 vars:List eQ
 init:List Exp
 funcs:List Fun
 moves:Bool
 old:List eQ
 forward:List Exp
 back:List Exp
 deriving Inhabited
def Val.kind:Val->Int|.mk k _ _ _=>k
def Val.n:Val->Int|.mk _ n _ _=>n
def Val.names:Val->List bT|.mk _ _ ns _=>ns
def Val.values:Val->List Val|.mk _ _ _ vs=>vs
def Exp.op:Exp->Int|.mk o _ _ _ _ _=>o
def Exp.n:Exp->Int|.mk _ n _ _ _ _=>n
def Exp.s:Exp->bT|.mk _ _ s _ _ _=>s
def Exp.m:Exp->bT|.mk _ _ _ m _ _=>m
def Exp.names:Exp->List bT|.mk _ _ _ _ ns _=>ns
def Exp.args:Exp->List Exp|.mk _ _ _ _ _ es=>es
def Ty.kind:Ty->Int|.mk k _=>k
def Ty.fields:Ty->List eQ|.mk _ fs=>fs
@[simp] theorem Dv(a b c d):(Val.mk a b c d).kind=a:=rfl
@[simp] theorem Val.n_mk(a b c d):(Val.mk a b c d).n=b:=rfl
@[simp] theorem Du(a b c d):(Val.mk a b c d).names=c:=rfl
@[simp] theorem Dt(a b c d):(Val.mk a b c d).values=d:=rfl
def Val.eta(v:Val):Val.mk v.kind v.n v.names v.values=v:=by cases v;rfl
def Exp.eta(e:Exp):Exp.mk e.op e.n e.s e.m e.names e.args=e:=by cases e;rfl
def Ty.eta(t:Ty):Ty.mk t.kind t.fields=t:=by cases t;rfl
def strs(l:List bT):AV:=.sl (l.map .str)
mutual
def Val.av:Val->AV
 |.mk k n ns vs=>.agg [.int .i64 k,.int .i64 n,strs ns,.sl (gh vs)]
def gh:List Val->List AV
 |[]=>[]
 |v:: vs=>v.av:: gh vs
end
mutual
def Exp.cells:Exp->List AV
 |.mk o n s m ns es=>[.int .i64 o,.int .i64 n,.str s,.str m,strs ns,.sl (eG es)]
def eG:List Exp->List AV
 |[]=>[]
 |e:: es=>.agg e.cells:: eG es
end
def Exp.av(e:Exp):AV:=.agg e.cells
mutual
def Ty.cells:Ty->List AV
 |.mk k fs=>[.int .i64 k,.sl (dA fs)]
def dA:List (bT×Ty)->List AV
 |[]=>[]
 |f:: fs=>be f:: dA fs
def be:bT×Ty->AV
 |(n,t)=>.agg (.str n:: t.cells)
end
def Ty.av(t:Ty):AV:=.agg t.cells
def Fun.av(f:Fun):AV:=.agg ([.str f.name,.bool f.pub,.sl (dA f.params)]++f.result.cells++[.int .i64 f.effects]++f.body.cells)
def bY(l:List Fun):AV:=.sl (l.map Fun.av)
def Mod.av(m:Mod):AV:=.agg [.str m.name,strs m.uses,.sl (dA m.vars),.sl (eG m.init),bY m.funcs,.bool m.moves,.sl (dA m.old),.sl (eG m.forward),.sl (eG m.back)]
def vals(l:List Val):AV:=.sl (gh l)
def bG(l:List Exp):AV:=.sl (eG l)
def aN(l:List eQ):AV:=.sl (dA l)
def zR(l:List Mod):AV:=.sl (l.map Mod.av)
def ints(l:List Int):AV:=.sl (l.map (.int .i64))
structure Vars where
 module:bT
 values:List Val
 deriving Inhabited
structure Deed where
 effect:Int
 arg:Int
 answer:Int
 deriving DecidableEq,Inhabited
structure Call where
 module:bT
 func:bT
 args:List Val
 deriving Inhabited
def Vars.av(v:Vars):AV:=.agg [.str v.module,vals v.values]
def Deed.av(d:Deed):AV:=.agg [.int .i64 d.effect,.int .i64 d.arg,.int .i64 d.answer]
def Call.av(c:Call):AV:=.agg [.str c.module,.str c.func,vals c.args]
def ml(l:List Vars):AV:=.sl (l.map Vars.av)
def deeds(l:List Deed):AV:=.sl (l.map Deed.av)
def calls(l:List Call):AV:=.sl (l.map Call.av)
structure Out where
 err:Int
 value:Val
 deeds:List Deed
 calls:List Call
 state:List Vars
def Out.av(o:Out):AV:=.agg [.int .i64 o.err,.int .i64 o.value.kind,.int .i64 o.value.n,strs o.value.names,vals o.value.values,Ap.deeds o.deeds,Ap.calls o.calls,ml o.state]
theorem mj:(l:List Val)->gh l=l.map Val.av
 |[]=>rfl
 |v:: l=>by simp[gh,mj l]
theorem eW:(l:List Exp)->eG l=l.map Exp.av
 |[]=>rfl
 |v:: l=>by simp[eG,eW l,Exp.av]
theorem cw:(l:List eQ)->dA l=l.map be
 |[]=>rfl
 |v:: l=>by simp[dA,cw l]
def Val.av_eq(v:Val):v.av= .agg [.int .i64 v.kind,.int .i64 v.n,strs v.names,vals v.values]:=by cases v;rfl
def Exp.cells_eq(e:Exp):e.cells=[.int .i64 e.op,.int .i64 e.n,.str e.s,.str e.m,strs e.names,bG e.args]:=by cases e;rfl
def Ty.cells_eq(t:Ty):t.cells=[.int .i64 t.kind,aN t.fields]:=by cases t;simp[Ty.cells,aN,Ty.kind,Ty.fields]
def fE(f:eQ):be f= .agg [.str f.1,.int .i64 f.2.kind,aN f.2.fields]:=by obtain⟨n,t⟩:=f;simp[be,Ty.cells_eq]
@[simp] theorem kN(v:Val):ab v.av=[.int .i64 v.kind,.int .i64 v.n,strs v.names,vals v.values]:=by rw[v.av_eq];rfl
@[simp] theorem cr(e:Exp):ab e.av=[.int .i64 e.op,.int .i64 e.n,.str e.s,.str e.m,strs e.names,bG e.args]:=by rw[Exp.av,e.cells_eq];rfl
@[simp] theorem ct(f:eQ):ab (be f)=[.str f.1,.int .i64 f.2.kind,aN f.2.fields]:=by rw[fE];rfl
@[simp] theorem bK(t:Ty):ab t.av=[.int .i64 t.kind,aN t.fields]:=by rw[Ty.av,t.cells_eq];rfl
@[simp] theorem dW(f:Fun):ab f.av=[.str f.name,.bool f.pub,aN f.params,.int .i64 f.result.kind,aN f.result.fields,.int .i64 f.effects,.int .i64 f.body.op,.int .i64 f.body.n,.str f.body.s,.str f.body.m,strs f.body.names,bG f.body.args]:=by
 simp[Fun.av,ab,Ty.cells_eq,Exp.cells_eq,aN]
@[simp] theorem cu(m:Mod):ab m.av=[.str m.name,strs m.uses,aN m.vars,bG m.init,bY m.funcs,.bool m.moves,aN m.old,bG m.forward,bG m.back]:=rfl
@[simp] theorem pF(v:Val):AV.agg [.int .i64 v.kind,.int .i64 v.n,strs v.names,vals v.values]=v.av:=(v.av_eq).symm
@[simp] theorem dq(e:Exp):AV.agg [.int .i64 e.op,.int .i64 e.n,.str e.s,.str e.m,strs e.names,bG e.args]=e.av:=by rw[Exp.av,e.cells_eq]
@[simp] theorem de(t:Ty):AV.agg [.int .i64 t.kind,aN t.fields]=t.av:=by rw[Ty.av,t.cells_eq]
@[simp] theorem e9(f:eQ):AV.agg [.str f.1,.int .i64 f.2.kind,aN f.2.fields]=be f:=(fE f).symm
@[simp] theorem fa(f:Fun):AV.agg [.str f.name,.bool f.pub,aN f.params,.int .i64 f.result.kind,aN f.result.fields,.int .i64 f.effects,.int .i64 f.body.op,.int .i64 f.body.n,.str f.body.s,.str f.body.m,strs f.body.names,bG f.body.args]=f.av:=by
 simp[Fun.av,Ty.cells_eq,Exp.cells_eq,aN]
@[simp] theorem lq(m:Mod):AV.agg [.str m.name,strs m.uses,aN m.vars,bG m.init,bY m.funcs,.bool m.moves,aN m.old,bG m.forward,bG m.back]=m.av:=rfl
theorem dc{α:Type}(g:Nat->Nat->Nat->Nat->Bool->AV)(f:α->AV)(h:∀x,cl g (f x)=f x):(l:List α)->dz g (l.map f)=l.map f
 |[]=>rfl
 |x:: l=>by simp[dz,h x,dc g f h l]
@[simp] theorem Cq(g:Nat->Nat->Nat->Nat->Bool->AV)(l:List bT):cl g (strs l)=strs l:=by
 simp[strs,cl,dc g AV.str (fun _=>rfl) l]
@[simp] theorem Co(g:Nat->Nat->Nat->Nat->Bool->AV)(l:List Int):cl g (ints l)=ints l:=by
 simp[ints,cl,dc g (AV.int .i64) (fun _=>rfl) l]
mutual
theorem Val.cl_av(g:Nat->Nat->Nat->Nat->Bool->AV):(v:Val)->cl g v.av=v.av
 |.mk k n ns vs=>by simp[Val.av,cl,dz,oR g vs]
theorem oR(g:Nat->Nat->Nat->Nat->Bool->AV):(l:List Val)->dz g (gh l)=gh l
 |[]=>rfl
 |v:: l=>by simp[gh,dz,Val.cl_av g v,oR g l]
end
mutual
theorem Exp.cl_cells(g:Nat->Nat->Nat->Nat->Bool->AV):(e:Exp)->dz g e.cells=e.cells
 |.mk o n s m ns es=>by simp[Exp.cells,cl,dz,kB g es]
theorem kB(g:Nat->Nat->Nat->Nat->Bool->AV):(l:List Exp)->dz g (eG l)=eG l
 |[]=>rfl
 |e:: l=>by simp[eG,dz,cl,Exp.cl_cells g e,kB g l]
end
mutual
theorem Ty.cl_cells(g:Nat->Nat->Nat->Nat->Bool->AV):(t:Ty)->dz g t.cells=t.cells
 |.mk k fs=>by simp[Ty.cells,cl,dz,iQ g fs]
theorem iQ(g:Nat->Nat->Nat->Nat->Bool->AV):(l:List (bT×Ty))->dz g (dA l)=dA l
 |[]=>rfl
 |f:: l=>by simp[dA,dz,vq g f,iQ g l]
theorem vq(g:Nat->Nat->Nat->Nat->Bool->AV):(f:bT×Ty)->cl g (be f)=be f
 |(n,t)=>by simp[be,cl,dz,Ty.cl_cells g t]
end
@[simp] theorem zx(g:Nat->Nat->Nat->Nat->Bool->AV)(v:Val):cl g v.av=v.av:=v.cl_av g
@[simp] theorem xp(g:Nat->Nat->Nat->Nat->Bool->AV)(l:List Val):cl g (vals l)=vals l:=by simp[vals,cl,oR]
@[simp] theorem zt(g:Nat->Nat->Nat->Nat->Bool->AV)(e:Exp):cl g e.av=e.av:=by simp[Exp.av,cl,Exp.cl_cells]
@[simp] theorem xk(g:Nat->Nat->Nat->Nat->Bool->AV)(l:List Exp):cl g (bG l)=bG l:=by simp[bG,cl,kB]
@[simp] theorem kV(g:Nat->Nat->Nat->Nat->Bool->AV)(t:Ty):cl g t.av=t.av:=by simp[Ty.av,cl,Ty.cl_cells]
@[simp] theorem zu(g:Nat->Nat->Nat->Nat->Bool->AV)(f:eQ):cl g (be f)=be f:=vq g f
@[simp] theorem kA(g:Nat->Nat->Nat->Nat->Bool->AV)(l:List eQ):cl g (aN l)=aN l:=by simp[aN,cl,iQ]
theorem kY(g:Nat->Nat->Nat->Nat->Bool->AV):(a b:List AV)->dz g (a++b)=dz g a++dz g b
 |[],b=>rfl
 |x:: a,b=>by simp[dz,kY g a b]
@[simp] theorem uO(g:Nat->Nat->Nat->Nat->Bool->AV)(f:Fun):cl g f.av=f.av:=by
 simp[Fun.av,cl,dz,kY,iQ,Ty.cl_cells,Exp.cl_cells]
@[simp] theorem xl(g:Nat->Nat->Nat->Nat->Bool->AV)(l:List Fun):cl g (bY l)=bY l:=by simp[bY,cl,dc g Fun.av (uO g)]
@[simp] theorem kU(g:Nat->Nat->Nat->Nat->Bool->AV)(m:Mod):cl g m.av=m.av:=by
 simp[Mod.av,cl,dz,iQ,kB,xl]
@[simp] theorem Cp(g:Nat->Nat->Nat->Nat->Bool->AV)(l:List Mod):cl g (zR l)=zR l:=by simp[zR,cl,dc g Mod.av (kU g)]
@[simp] theorem uP(g:Nat->Nat->Nat->Nat->Bool->AV)(k:IntKind)(n:Int):cl g (.int k n)= .int k n:=rfl
@[simp] theorem Cn(g:Nat->Nat->Nat->Nat->Bool->AV)(b:Bool):cl g (.bool b)= .bool b:=rfl
@[simp] theorem qY(g:Nat->Nat->Nat->Nat->Bool->AV)(s:bT):cl g (.str s)= .str s:=rfl
@[simp] theorem xq(g:Nat->Nat->Nat->Nat->Bool->AV)(v:Vars):cl g v.av=v.av:=by simp[Vars.av,cl,dz]
@[simp] theorem xj(g:Nat->Nat->Nat->Nat->Bool->AV)(v:Deed):cl g v.av=v.av:=by simp[Deed.av,cl,dz]
@[simp] theorem xi(g:Nat->Nat->Nat->Nat->Bool->AV)(v:Call):cl g v.av=v.av:=by simp[Call.av,cl,dz]
@[simp] theorem BB(g:Nat->Nat->Nat->Nat->Bool->AV)(l:List Vars):cl g (ml l)=ml l:=by simp[ml,cl,dc g Vars.av (xq g)]
@[simp] theorem Bw(g:Nat->Nat->Nat->Nat->Bool->AV)(l:List Deed):cl g (deeds l)=deeds l:=by simp[deeds,cl,dc g Deed.av (xj g)]
@[simp] theorem Bv(g:Nat->Nat->Nat->Nat->Bool->AV)(l:List Call):cl g (calls l)=calls l:=by simp[calls,cl,dc g Call.av (xi g)]
@[simp] theorem CS(g:Nat->Nat->Nat->Nat->Bool->AV)(o:Out):cl g o.av=o.av:=by simp[Out.av,cl,dz]
@[simp] theorem jU(v:Vars):ab v.av=[.str v.module,vals v.values]:=rfl
@[simp] theorem jT(v:Deed):ab v.av=[.int .i64 v.effect,.int .i64 v.arg,.int .i64 v.answer]:=rfl
@[simp] theorem jS(v:Call):ab v.av=[.str v.module,.str v.func,vals v.args]:=rfl
@[simp] theorem kM(o:Out):ab o.av=[.int .i64 o.err,.int .i64 o.value.kind,.int .i64 o.value.n,strs o.value.names,vals o.value.values,deeds o.deeds,calls o.calls,ml o.state]:=rfl
@[simp] theorem nd(v:Vars):AV.agg [.str v.module,vals v.values]=v.av:=rfl
@[simp] theorem nc(v:Deed):AV.agg [.int .i64 v.effect,.int .i64 v.arg,.int .i64 v.answer]=v.av:=rfl
@[simp] theorem na(v:Call):AV.agg [.str v.module,.str v.func,vals v.args]=v.av:=rfl
@[simp] theorem pE(o:Out):AV.agg [.int .i64 o.err,.int .i64 o.value.kind,.int .i64 o.value.n,strs o.value.names,vals o.value.values,deeds o.deeds,calls o.calls,ml o.state]=o.av:=rfl
@[simp] theorem AU(v:Vars):bS v.av=some 2:=rfl
@[simp] theorem AQ(v:Deed):bS v.av=some 3:=rfl
@[simp] theorem AP(v:Call):bS v.av=some 3:=rfl
@[simp] theorem Cb(v:Out):bS v.av=some 8:=rfl
@[simp] theorem ny(v:Vars):bH 2 v.av=true:=by simp[bH,aL,vals]
@[simp] theorem nu(v:Deed):bH 3 v.av=true:=by simp[bH,aL]
@[simp] theorem nr(v:Call):bH 3 v.av=true:=by simp[bH,aL,vals]
@[simp] theorem qd(v:Out):bH 8 v.av=true:=by simp[bH,aL,vals,strs,deeds,calls,ml]
def Clean(a:AV):Prop:=∀g,cl g a=a
def Clean.frz{a:AV}(h:Clean a)(d:Nat)(hp:Hp):gx d hp a=a:=by
 cases d with
 |zero=>exact h _
 |succ d=>exact h _
def cj{a:AV}(h:Clean a):aH (M.pure a)=M.pure a:=by
 funext hp;simp only[aH,M.pure,h.frz]
@[simp] theorem fG(b:Bool):aH (M.pure (.bool b))=M.pure (.bool b):=cj fun _=>rfl
@[simp] theorem vD(k:IntKind)(n:Int):aH (M.pure (.int k n))=M.pure (.int k n):=cj fun _=>rfl
@[simp] theorem BU(s:bT):aH (M.pure (.str s))=M.pure (.str s):=cj fun _=>rfl
@[simp] theorem BV(v:Val):aH (M.pure v.av)=M.pure v.av:=cj fun g=>zx g v
@[simp] theorem AA(v:List Val):aH (M.pure (vals v))=M.pure (vals v):=cj fun g=>xp g v
@[simp] theorem BQ(v:Exp):aH (M.pure v.av)=M.pure v.av:=cj fun g=>zt g v
@[simp] theorem BR(v:Fun):aH (M.pure v.av)=M.pure v.av:=cj fun g=>uO g v
@[simp] theorem Cd(v:Val):bS v.av=some 4:=by rw[v.av_eq];rfl
@[simp] theorem B7(e:Exp):bS e.av=some 6:=by rw[Exp.av,e.cells_eq];rfl
@[simp] theorem B8(f:eQ):bS (be f)=some 3:=by rw[fE];rfl
@[simp] theorem Cs(t:Ty):bS t.av=some 2:=by rw[Ty.av,t.cells_eq];rfl
@[simp] theorem B9(f:Fun):bS f.av=some 12:=by simp[Fun.av,bS,Ty.cells_eq,Exp.cells_eq]
@[simp] theorem Ca(m:Mod):bS m.av=some 9:=rfl
@[simp] theorem lS(v:Val):bH 4 v.av=true:=by simp[bH,aL,strs,vals]
@[simp] theorem fM(e:Exp):bH 6 e.av=true:=by simp[bH,aL,strs,bG]
@[simp] theorem gM(f:eQ):bH 3 (be f)=true:=by simp[bH,aL,aN]
@[simp] theorem fN(f:Fun):bH 12 f.av=true:=by simp[bH,aL,aN,strs,bG]
@[simp] theorem i6(m:Mod):bH 9 m.av=true:=by simp[bH,aL,aN,strs,bG,bY]
@[simp] theorem vY(s:bT):bH 1 (.str s)=true:=rfl
@[simp] theorem vW(k:IntKind)(n:Int):bH 1 (.int k n)=true:=rfl
def cp{α:Type}{sz:Nat}{f:α->AV}(h:∀x,bH sz (f x)=true)(l:List α):bV sz (l.map f)=true:=by simp[bV,h]
@[simp] theorem AL(l:List bT):bV 1 (l.map AV.str)=true:=cp vY l
@[simp] theorem AG(l:List Int):bV 1 (l.map (AV.int .i64))=true:=cp (vW .i64) l
@[simp] theorem AM(l:List Val):bV 4 (gh l)=true:=by rw[mj];exact cp lS l
@[simp] theorem AD(l:List Exp):bV 6 (eG l)=true:=by rw[eW];exact cp fM l
@[simp] theorem AE(l:List eQ):bV 3 (dA l)=true:=by rw[cw];exact cp gM l
@[simp] theorem AF(l:List Fun):bV 12 (l.map Fun.av)=true:=cp fN l
@[simp] theorem AH(l:List Mod):bV 9 (l.map Mod.av)=true:=cp i6 l
def lB{T:TT}{t e:Nat}{ti ei:TI}(ht:T t=some ti)(hk:ti.kind= .slice e)(he:T e=some ei){α:Type}{f:α->AV}(hs:∀x,bS (f x)=some ei.size){l:List α}{i:Nat}{x:α}(h:l[i]? = some x):
  ao T t (.sl (l.map f)) (.int .i64 (i:Int))=some (.ip (ab (f x))):=by
 unfold ao;rw[ht];simp only[hk,he];rw[if_neg (by omega)];have:(l.map f)[(i:Int).toNat]? = some (f x):=by rw[DT,ED,h];rfl
 rw[this];simp only;rw[DG (hs x)]
def cD{T:TT}{t e:Nat}{ti ei:TI}(ht:T t=some ti)(hk:ti.kind= .slice e)(he:T e=some ei){α:Type}[Inhabited α]{f:α->AV}(hs:∀x,bS (f x)=some ei.size){l:List α}{n:Int}(h0:0<=n)(h:n<(l.length:Int)):
  ao T t (.sl (l.map f)) (.int .i64 n)=some (.ip (ab (f l[n.toNat]!))):=by
 have hlt:n.toNat<l.length:=by omega
 have:=lB ht hk he hs (l:=l) (i:=n.toNat) (x:=l[n.toNat]!) (by rw[F9,DR hlt];rfl)
 rw[show ((n.toNat:Nat):Int)=n by omega]at this;exact this
def oY{T:TT}{t e:Nat}{ti ei:TI}(ht:T t=some ti)(hk:ti.kind= .slice e)(he:T e=some ei){α:Type}{f:α->AV}(hs:∀x,bH ei.size (f x)=true){a b:List α}(h:(a.length+b.length)*ei.bytes<=140737488355328)(h0:0<ei.bytes):
  eE T t (.sl (a.map f)) (.sl (b.map f))=some (.sl ((a++b).map f)):=by
 unfold eE;rw[ht];simp only[hk,he,eJ];rw[cp hs,cp hs];simp[h,h0,gR]
def ky(l:List Ty):AV:=.sl (l.map Ty.av)
structure Sig where
 name:bT
 params:List Ty
 result:Ty
 effects:Int
 deriving Inhabited
structure Face where
 module:bT
 funcs:List Sig
 deriving Inhabited
structure Vsn where
 major:Int
 minor:Int
 patch:Int
 deriving Inhabited,DecidableEq
def Sig.cells(s:Sig):List AV:=[.str s.name,ky s.params,.int .i64 s.result.kind,aN s.result.fields,.int .i64 s.effects]
def Sig.av(s:Sig):AV:=.agg s.cells
def sigs(l:List Sig):AV:=.sl (l.map Sig.av)
def Face.cells(f:Face):List AV:=[.str f.module,sigs f.funcs]
def Face.av(f:Face):AV:=.agg f.cells
def vg(l:List Face):AV:=.sl (l.map Face.av)
def Vsn.av(v:Vsn):AV:=.agg [.int .i64 v.major,.int .i64 v.minor,.int .i64 v.patch]
@[simp] theorem dx(s:Sig):ab s.av=[.str s.name,ky s.params,.int .i64 s.result.kind,aN s.result.fields,.int .i64 s.effects]:=rfl
@[simp] theorem fk(f:Face):ab f.av=[.str f.module,sigs f.funcs]:=rfl
@[simp] theorem yP(v:Vsn):ab v.av=[.int .i64 v.major,.int .i64 v.minor,.int .i64 v.patch]:=rfl
@[simp] theorem fb(s:Sig):AV.agg [.str s.name,ky s.params,.int .i64 s.result.kind,aN s.result.fields,.int .i64 s.effects]=s.av:=rfl
@[simp] theorem tq(f:Face):AV.agg [.str f.module,sigs f.funcs]=f.av:=rfl
@[simp] theorem BK(v:Vsn):AV.agg [.int .i64 v.major,.int .i64 v.minor,.int .i64 v.patch]=v.av:=rfl
@[simp] theorem f7(t:Ty):bH 2 t.av=true:=by simp[bH,aL,aN]
@[simp] theorem B2(l:List Ty):bV 2 (l.map Ty.av)=true:=cp f7 l
@[simp] theorem Cc(s:Sig):bS s.av=some 5:=rfl
@[simp] theorem AR(s:Face):bS s.av=some 2:=rfl
@[simp] theorem Ce(s:Vsn):bS s.av=some 3:=rfl
@[simp] theorem gO(s:Sig):bH 5 s.av=true:=by simp[bH,aL,aN,ky]
@[simp] theorem nv(s:Face):bH 2 s.av=true:=by simp[bH,aL,sigs]
@[simp] theorem B1(s:Vsn):bH 3 s.av=true:=rfl
@[simp] theorem AK(l:List Sig):bV 5 (l.map Sig.av)=true:=cp gO l
@[simp] theorem zV(l:List Face):bV 2 (l.map Face.av)=true:=cp nv l
@[simp] theorem zw(g:Nat->Nat->Nat->Nat->Bool->AV)(l:List Ty):cl g (ky l)=ky l:=by simp[ky,cl,dc g Ty.av (kV g)]
@[simp] theorem qX(g:Nat->Nat->Nat->Nat->Bool->AV)(s:Sig):cl g s.av=s.av:=by unfold Sig.av Sig.cells;simp only[cl,dz,zw,kA]
@[simp] theorem xo(g:Nat->Nat->Nat->Nat->Bool->AV)(l:List Sig):cl g (sigs l)=sigs l:=by simp[sigs,cl,dc g Sig.av (qX g)]
@[simp] theorem kz(g:Nat->Nat->Nat->Nat->Bool->AV)(s:Face):cl g s.av=s.av:=by unfold Face.av Face.cells;simp only[cl,dz,xo]
@[simp] theorem Bz(g:Nat->Nat->Nat->Nat->Bool->AV)(l:List Face):cl g (vg l)=vg l:=by simp[vg,cl,dc g Face.av (kz g)]
@[simp] theorem CU(g:Nat->Nat->Nat->Nat->Bool->AV)(s:Vsn):cl g s.av=s.av:=by unfold Vsn.av;simp only[cl,dz]
@[simp] theorem Cr(v:Ty):aH (M.pure v.av)=M.pure v.av:=cj fun g=>kV g v
@[simp] theorem BS(v:Sig):aH (M.pure v.av)=M.pure v.av:=cj fun g=>qX g v
@[simp] theorem Az(v:Face):aH (M.pure v.av)=M.pure v.av:=cj fun g=>kz g v
end Go.Av.Ap
namespace Go.Av
open Go.Av.Ap
def xW:Nat->AV->Bool
 |0,_=>false
 |d+1,.agg [.int .i64 _,.sl fs]=>decide (fs.length<=100)&&fs.all fun f=>match f with
  |.agg [.str _,.int .i64 k,.sl gs]=>xW d (.agg [.int .i64 k,.sl gs])
  |_=>false
 |_,_=>false
def gW:(FuncId->List AV->M AV)->List AV->M AV:=fun _ args=>match args with
 |[v]=>ah (bif xW 5 v then some v else none)
 |_=>M.fail
def p8:Nat->Ty->Prop
 |0,_=>False
 |d+1,t=>t.fields.length<=100/\∀f∈t.fields,p8 d f.2
theorem vR:∀(d:Nat)(t:Ty),p8 d t->p8 (d+1) t
 |0,_,h=>h.elim
 |d+1,_t,h=>⟨h.1,fun f hf=>vR d f.2 (h.2 f hf)⟩
theorem wE:∀(d:Nat)(t:Ty),p8 d t->xW d t.av=true
 |0,_,h=>h.elim
 | d+1,t,h=>by
  cases t with
  |mk k fs=>
   show xW (d+1) (.agg [.int .i64 k,.sl (dA fs)])=true;simp only[xW,Dy,DK,DL];refine⟨by rw[cw,D7];exact h.1,fun v hv=>?_⟩;rw[cw]at hv;obtain⟨f,hf,rfl⟩:=Ey.1 hv;rw[fE];show xW d (.agg [.int .i64 f.2.kind,.sl (dA f.2.fields)])=true
   have:=wE d f.2 (h.2 f hf)
   cases hf2:f.2 with
   |mk k2 gs=>rw[hf2]at this;exact this
theorem li{α β:Type}{f:β->α}{P:β->Prop}:(l:List α)->(∀a∈l,∃b,a=f b/\P b)->∃m:List β,l=m.map f/\∀b∈m,P b
 |[],_=>⟨[],rfl,by simp⟩
 |a:: l,h=>by
  obtain⟨b,rfl,hb⟩:=h a Ew;obtain⟨m,rfl,hm⟩:=li l fun a ha=>h a (EI _ ha);exact⟨b:: m,rfl,fun c hc=>by rcases DX.1 hc with rfl|hc;exact hb;exact hm c hc⟩
theorem qD:∀(d:Nat)(v:AV),xW d v=true->∃t:Ty,v=t.av/\p8 d t
 |0,_,h=>by cases h
 | d + 1,v,h=>by
  unfold xW at h;split at h
  ·cases h
  ·rename_i k fs e;obtain rfl:=Nat.succ.inj e;simp only[Dy,DK,DL]at h;have key:∀a∈fs,∃f:eQ,a=be f/\p8 d f.2:=by
    intro a ha;have h2:=h.2 a ha;split at h2
    ·rename_i n k' gs;obtain⟨t,h3,h4⟩:=qD d _ h2;refine⟨(n,t),?_,h4⟩;rw[fE];have h5:t.av= .agg [.int .i64 t.kind,aN t.fields]:=by cases t;rfl
     rw[h5]at h3;simp only[AV.agg.injEq,FJ,Gu]at h3;rw[<- h3.1,<- h3.2]
    ·cases h2
   obtain⟨m,rfl,hm⟩:=li fs key;refine⟨.mk k m,?_,?_,hm⟩
   ·show _=AV.agg [.int .i64 k,.sl (dA m)];rw[cw]
   ·have:=h.1
    rw[D7]at this;exact this
  ·cases h
end Go.Av
namespace Go.Av
variable [Dr]
section
variable {c:Entry} {N:Nat} {U:Nat->Prop} {e:Env} {h:Hp} {a:Act} {w:World} {S:ap} {β:List a8} {γ:Nat->Value} {lam:Nat->Option Nat} {ω:Nat->Owner}
theorem FR.dead(H:FR c N U e h a w S β γ lam ω){l b:Nat}(hd:∀cs,h[l]? = some cs->cs=[])(hb:ω b= .heap l)(hS:∀o,S b o=none){w':World}(hg:Gro w w')(hsz:w'.heap.size=w.heap.size)(hold:∀k,k≠b->w'.heap[k]? = w.heap[k]?):
  FR c N U e h a w' S β γ lam ω:=by
 have hωb:∀k,ω k≠.heap l->k≠b:=fun k hk=>by rintro rfl;exact hk hb
 have hother:∀k,ω k≠.heap l->w'.heap[k]? = w.heap[k]?:=fun k hk=>hold k (hωb k hk);refine⟨fun k o v hv=>?_,H.gro.trans hg,fun k hk hE=>?_,H.le,H.ext,H.hlen,?_,H.tsz,H.slots,H.grps,?_,?_,fun k hk=>⟨(H.mine k hk).1,by rw[hsz];exact (H.mine k hk).2⟩,H.used⟩
 ·have hkb:k≠b:=by rintro rfl;rw[hS]at hv;cases hv
  rw[cell_of_heap (hold k hkb)];exact H.wf k o v hv
 ·have hkb:k≠b:=by
   rintro rfl
   have:=(H.mine k (by rw[hb];simp)).1.low
   rcases this with h|h
   ·exact hE h
   ·omega
  have:=H.keep k hk hE
  exact⟨by rw[hold k hkb];exact this.1,this.2⟩
 ·refine H.heap.rows (ap.le_refl S) (dT.refl β) H.hlen fun j ds hj hne=>.inl ⟨hj,fun k _ ho=>⟨ho,hother k ?_,fun o h=>h⟩⟩;rw[ho];simp only[F0,Owner.heap.injEq];rintro rfl;exact hne (hd ds hj)
 ·intro B n hB;obtain⟨k1,k2,k3,k,z,k4,k5,k6,k7,k8⟩:=H.lblk B n hB;exact⟨k1,k2,k3,k,z,k4,k5.of_eq (hother k (by rw[k6];simp)),k6,k7,k8⟩
 ·intro g z hg;obtain⟨a',len,cap,g1,g2,g3,g4⟩:=H.free g z hg;refine⟨a',len,cap,g1,g2,g3,g4.imp id ?_⟩;rintro⟨sz,k,off,z',k1,k2,k3,k4,k5,k6⟩;exact⟨sz,k,off,z',k1,k2,k3.of_eq (hother k (by rw[k5];simp)),k4,k5,k6⟩
end
section
variable {S:ap} {β:List a8} {h:Hp} {w:World}
theorem FR.cpost{e:Env}{h':Hp}{a:Act}{N:Nat}{U:Nat->Prop}{w':World}{S':ap}{β':List a8}{γ:Nat->Value}{lam:Nat->Option Nat}{ω:Nat->Owner}{hg:kJ β h w}(F:FR { w,S,β,E:=bn β h,gok:=hg } N U e h' a w' S' β' γ lam ω){r:AV}{v:Value}(hv:VR S' β' r v):
  cF none S β h w (.ok r h') (.returned v) w':=⟨S',β',v,rfl,hv,F.out,fun sz hsz=>by cases hsz⟩
theorem q5(hg:kJ β h w)(hw:Wf S w)(hh:bJ S β w h){l b n:Nat}{cs cs':List AV}{x y:Array Value}(hl:h[l]? = some cs)(hne:cs≠[])(hb:β[l]? = some (b,n))(hrow:Row w b x)(hys:y.size=x.size)(hcs:aG S β cs' (y.toList.take cs'.length))(htag:∀t,bD t cs'->bD t cs):cF none S β h w (.ok (.tup []) (h.set l cs')) (.returned (.tuple #[])) (w.setRow b y):=by
 obtain⟨γ,lam,ω,F⟩:=rS (args:=[]) (vs:=[]) (n:=0) hg hw hh (by simp[aG]) (DD _) (by omega);exact (F.turnH hl hne ⟨n,hb⟩ hrow hys hcs htag).cpost (by simp only[VR];exact⟨[],rfl,by simp[aG]⟩)
theorem q4(hg:kJ β h w)(hw:Wf S w)(hh:bJ S β w h){l b n:Nat}{cs:List AV}(hl:h[l]? = some cs)(hne:cs≠[])(hb:β[l]? = some (b,n)){w':World}(hgr:Gro w w')(hsz:w'.heap.size=w.heap.size)(hold:∀k,k≠b->w'.heap[k]? = w.heap[k]?){r:AV}{v:Value}(hv:VR S β r v):cF none S β h w (.ok r (h.set l [])) (.returned v) w':=by
 obtain⟨γ,lam,ω,F⟩:=rS (args:=[]) (vs:=[]) (n:=0) hg hw hh (by simp[aG]) (DD _) (by omega);obtain⟨b',n',k1,k2,k3,k4⟩:=F.heap.own hl hne;rw[hb]at k1;simp only[Dw,Em]at k1;obtain⟨rfl,rfl⟩:=k1;refine ((F.killH l).dead (l:=l) (fun cs' h'=>?_) k3 k4 hgr hsz hold).cpost hv;rw[EK]at h';simp only[Ep]at h';split at h'
 ·simpa using h'.symm
 ·cases h'
end
end Go.Av
namespace Go.Av
variable [Dr]
theorem jY{P:Program}{cx:Cx}{own:Option Nat}(hT:TOK P cx.T)(hC:bI P cx.own cx.call)(hI:IsoCall cx){f:FuncId}{fn:Func}(hf:P.funcs[f]? = some fn)(hnt:cx.nt=fn.ntmps){E:List AV->Hp->R AV}(h0:∀h,E [] h= .ok (.sl []) h)(h1:∀e es h,bz cx (bU 0) fn own [.sl (e:: es)] h=E (e:: es) h)(h2:∀h,bz cx (bU 0) fn own [.hn] h= .ok (.sl []) h)(h3:∀l off h,bz cx (bU 0) fn own [.hs l off 0 1 false] h= .ok (.sl []) h){es:List AV}{h:Hp}{S:ap}{β:List a8}{w:World}{vs:List Value}(hr:E es h≠.fail)(hg:kJ β h w)(hw:Wf S w)(hh:bJ S β w h)(hv:aG S β [.sl es] vs):Calls P f vs.toArray w (cF own S β h w (E es h))/\fn.body.isSome=true:=by
 cases es with
 |cons e es=>
  rw[<- h1]at hr |-;exact eV hT hC hI 0 hf hnt hr hg hw hh hv
 | nil=>
  rw[h0];simp only[aG]at hv;obtain⟨v,_,rfl,hv,rfl⟩:=hv;have hv0:=hv;simp only[VR]at hv;obtain⟨a,cap,rfl,hc,hn,hq⟩:=hv;cases a with
  |none=>
   have hcap:=hn rfl;subst hcap;have hv2:aG S β [.hn] [.slice none ([]:List AV).length 0]:=by simp[aG,VR]
   have:=eV (own:=own) hT hC hI 0 hf hnt (args:=[.hn]) (h:=h) (by rw[h2];simp) hg hw hh hv2
   rw[h2]at this;exact this
  | some q=>
   obtain⟨hs,_⟩:=hq q rfl;have hX:bJ S [(q.block,q.off+cap)] w [[]]:=⟨rfl,fun _=>.no,fun l cs hl hne=>by
    cases l with
    |zero=>simp at hl;exact absurd hl hne
    |succ l=>simp at hl⟩
   have hE:∀b,¬bn [(q.block,q.off+cap)] [[]] b:=by
    rintro b ⟨l,cs,n,k1,k2,_⟩;cases l with
    |zero=>simp at k1;exact k2 k1
    |succ l=>simp at k1
   have hv2:aG S [(q.block,q.off+cap)] [.hs 0 q.off 0 1 false] [.slice (some q) ([]:List AV).length cap]:=by
    simp only[aG,VR];rcases Eh cap with h0|h0
    ·subst h0;exact⟨_,_,rfl,.inr ⟨trivial,q,rfl⟩,rfl⟩
    ·have hq':q=⟨q.block,q.off,none⟩:=by
      have:=hs h0
      cases q;simp_all
     exact⟨_,_,rfl,.inl ⟨(q.block,q.off+cap),cap,rfl,(by show q.off+cap≠0;omega),by rw[<- hq'];rfl,Ef _,by simp⟩,rfl⟩
   have:=eV (own:=own) hT hC hI 0 hf hnt (args:=[.hs 0 q.off 0 1 false]) (h:=[[]]) (by rw[h3];simp) ⟨hg.1,fun b _=>hE b⟩ hw hX hv2
   rw[h3]at this;refine⟨this.1.mono fun en w' hp=>?_,this.2⟩;obtain⟨S',β',v,k1,k2,k3,k4⟩:=hp;obtain⟨S2,j1,j2,j3⟩:=sr hw hh hE k3;exact⟨S2,β,v,k1,j2 (.sl []) v k2,j1,fun sz hsz=>j3 sz v (k4 sz hsz)⟩
end Go.Av
namespace Go.Av
attribute [simp] aX aO uG s5
@[simp] theorem bb{α:Type}(b:Bool)(x y:M α):aB (.bool b) x y=if b=true then x else y:=by cases b<;>rfl
def gv(b w:Bool)(y:AV):AV:=bif b== w then y else .tup []
@[simp] theorem C6(y:AV):gv false false y=y:=rfl
@[simp] theorem Da(y:AV):gv true true y=y:=rfl
@[simp] theorem C7(y:AV):gv false true y= .tup []:=rfl
@[simp] theorem C8(y:AV):gv true false y= .tup []:=rfl
@[simp high] theorem xx(b w:Bool)(y:AV):au (.bool b) w 1 (M.pure [y])=M.pure [gv b w y]:=by cases b<;>cases w<;>rfl
@[simp high] theorem Aw(b w c w2:Bool)(y:AV):au (gv b w (.bool c)) w2 1 (M.pure [y])=M.pure [gv b w (gv c w2 y)]:=by cases b<;>cases w<;>cases c<;>cases w2<;>rfl
@[simp high] theorem Ax(b w c e:Bool):au (.bool b) w 1 (af (ah (aD (gv b w (.bool c)) (.bool true) (gv b w (gv c false (.bool e))))) fun v=>M.pure [v])=M.pure [gv b w (.bool (c||e))]:=by
 cases b<;>cases w<;>cases c<;>rfl
@[simp high] theorem zK(b w c e:Bool):au (.bool b) w 1 (af (ah (aD (gv b w (.bool c)) (gv b w (gv c true (.bool e))) (.bool false))) fun v=>M.pure [v])=M.pure [gv b w (.bool (c&&e))]:=by
 cases b<;>cases w<;>cases c<;>rfl
@[simp high] theorem AO(b c:Bool):aD (.bool b) (gv b true (.bool c)) (.bool false)=some (.bool (b&&c)):=by cases b<;>rfl
@[simp high] theorem B4(b c:Bool):aD (.bool b) (.bool true) (gv b false (.bool c))=some (.bool (b||c)):=by cases b<;>rfl
@[simp] theorem xy(w:Bool)(n:Nat)(m:M (List AV)):au (.bool !w) w n m=M.pure (List.replicate n (.tup [])):=by cases w<;>rfl
@[simp] theorem dM(w:Bool)(n:Nat)(m:M (List AV)):au (.bool w) w n m=m:=by cases w<;>rfl
@[simp] theorem Au(n:Nat)(m:M (List AV)):au (.bool false) true n m=M.pure (List.replicate n (.tup [])):=rfl
@[simp] theorem Ay(n:Nat)(m:M (List AV)):au (.bool true) false n m=M.pure (List.replicate n (.tup [])):=rfl
@[simp] theorem zL(w:Bool)(n:Nat)(m:M (List AV)):au (.tup []) w n m=M.pure (List.replicate n (.tup [])):=rfl
@[simp] theorem gd(x y:AV):aD (.bool true) x y=some x:=rfl
@[simp] theorem qg(x y:AV):aD (.bool false) x y=some y:=rfl
@[simp] theorem aY(x:AV)(l:List AV):nth (x:: l) 0=x:=rfl
@[simp] theorem a7(x:AV)(l:List AV)(n:Nat):nth (x:: l) (n+1)=nth l n:=rfl
@[simp] theorem vH{α:Type}(k:List AV->M α)(m:(List AV->M α)->M α):jn k m=m k:=rfl
@[simp] theorem fe{α:Type}(a:α):ca (M.pure a)=M.pure a:=rfl
@[simp] theorem kH(b:Bool):fh .not (.bool b)=some (.bool !b):=rfl
@[simp] theorem xv(l:List AV)(i:Nat):dp (.tup l) i=l[i]?:=rfl
@[simp] theorem yz:True:=trivial
@[simp] theorem zS(l k:Nat):iY (.hp l k)=some (.hp l k):=rfl
@[simp] theorem zT(cs:List AV):iY (.ip cs)=some (.ip cs):=rfl
@[simp] theorem il(s:List UInt8):ab (.str s)=[.str s]:=rfl
@[simp] theorem yN(k:IntKind)(n:Int):ab (.int k n)=[.int k n]:=rfl
@[simp] theorem yM(cs:List AV):ab (.agg cs)=cs:=rfl
@[simp] theorem ej(T:TT)(t:Nat)(a b:Int):ar T .add t (.int .i64 a) (.int .i64 b)=some (.int .i64 (IntKind.i64.wrap (a+b))):=rfl
@[simp] theorem nS(T:TT)(t:Nat)(a b:Int):ar T .sub t (.int .i64 a) (.int .i64 b)=some (.int .i64 (IntKind.i64.wrap (a-b))):=rfl
@[simp] theorem Cl(T:TT)(t:Nat)(a b:Int):ar T .mul t (.int .i64 a) (.int .i64 b)=some (.int .i64 (IntKind.i64.wrap (a*b))):=rfl
@[simp] theorem bL(T:TT)(t:Nat)(a b:Int):ar T .lss t (.int .i64 a) (.int .i64 b)=some (.bool (decide (a<b))):=rfl
@[simp] theorem iG(T:TT)(t:Nat)(a b:Int):ar T .leq t (.int .i64 a) (.int .i64 b)=some (.bool (decide (a<=b))):=rfl
@[simp] theorem Ck(T:TT)(t:Nat)(a b:Int):ar T .gtr t (.int .i64 a) (.int .i64 b)=some (.bool (decide (b<a))):=rfl
@[simp] theorem r9(T:TT)(t:Nat)(a b:Int):ar T .geq t (.int .i64 a) (.int .i64 b)=some (.bool (decide (b<=a))):=rfl
@[simp] theorem Cj(T:TT)(t:Nat)(a b:Int):ar T .eql t (.int .i64 a) (.int .i64 b)=some (.bool (a== b)):=rfl
@[simp] theorem wW(T:TT)(t:Nat)(a b:Int):ar T .neq t (.int .i64 a) (.int .i64 b)=some (.bool (a != b)):=rfl
@[simp] theorem Ct(T:TT)(t:Nat)(a b:List UInt8):ar T .eql t (.str a) (.str b)=some (.bool (a== b)):=rfl
@[simp] theorem Cy(T:TT)(t:Nat)(a b:List UInt8):ar T .neq t (.str a) (.str b)=some (.bool !(a== b)):=rfl
@[simp] theorem Cw(T:TT)(t:Nat)(a b:List UInt8):ar T .lss t (.str a) (.str b)=some (.bool (aC a b)):=rfl
@[simp] theorem Cu(T:TT)(t:Nat)(a b:List UInt8):ar T .geq t (.str a) (.str b)=some (.bool !(aC a b)):=rfl
@[simp] theorem bv{n:Nat}{x:AV}(h:bH n x=true):aZ n x=M.pure (.agg (ab x)):=by
 unfold aZ fU;rw[h];rfl
@[simp] theorem aP{n:Nat}{x:AV}(h:bH n x=true):ay n [] x=M.pure (.agg (ab x)):=by
 unfold ay fU;rw[h];rfl
@[simp] theorem AB(b:Bool)(x:AV):gq b [x]=some x:=by simp[gq]
@[simp] theorem AC(b:Bool)(a c:Int):gq b [.int .i64 a,.int .i64 c]=some (.int .i64 (if b=true then max a c else min a c)):=by
 cases b
 ·simp only[gq,vT,DF];congr 2;simp only[Int.min_def];split<;>split<;>simp_all<;>omega
 ·simp only[gq,vT,Dx];congr 2;simp only[Int.max_def];split<;>split<;>simp_all<;>omega
def dw{x:Int}(h1:-9223372036854775808<=x)(h2:x<=9223372036854775807):IntKind.i64.wrap x=x:=IntWalk.i64_in _ ⟨h1,h2⟩
def wH{n:Nat}(h:n<=4611686018427387904):IntKind.i64.wrap (n:Int)=(n:Int):=IntWalk.i64_in _ (by omega)
def aU{n:Nat}(h:n<=4611686018427387904):IntKind.i64.wrap ((n:Int)+1)=((n+1:Nat):Int):=by
 rw[IntWalk.i64_in _ (by omega)];omega
def hG{n:Nat}(h:n<=4611686018427387904):IntKind.i64.wrap (((n+1:Nat):Int)-1)=(n:Int):=by
 rw[IntWalk.i64_in _ (by omega)];omega
namespace Ap
mutual
def Val.sz:Val->Nat
 |.mk _ _ ns vs=>1+ns.length+wF vs
def wF:List Val->Nat
 |[]=>0
 |v:: vs=>v.sz+wF vs
end
end Ap
end Go.Av
namespace Go.Av
def dG{α:Type}(F:α->Bool):List α->Int->Int
 |[],_=>-1
 |x:: l,i=>if F x=true then i else dG F l (i+1)
theorem pL{α:Type}(F:α->Bool):(l:List α)->(i:Int)->0<=i->(0<=dG F l i↔l.any F=true)
 |[],i,_=>by simp[dG]
 |x:: l,i,h=>by
  simp only[dG];split
  ·rename_i hx;simp[hx,h]
  ·rename_i hx;rw[pL F l (i+1) (by omega)];simp[hx]
def tz{α:Type}(F:α->Bool)(l:List α):decide (0<=dG F l 0)=l.any F:=by
 have:=pL F l 0 (by omega)
 cases h:l.any F with
 |true=>simp[this.2 h]
 |false=>simp only[E6];intro hh;rw[this.1 hh]at h;cases h
@[simp] theorem yA(a b:Nat):((a:Int)== (b:Int))=(a== b):=by rw[FK];simp;omega
@[simp] theorem xL(a:Nat):((a:Int)== 0)=(a== 0):=by rw[FK];simp
@[simp] theorem yB(a b:Nat):((a:Int) != (b:Int))=(a != b):=by rw[FK];simp;omega
end Go.Av
namespace Go.Av
open Ap
@[simp high] theorem zq(x:Val):aZ 4 (Val.av x)=M.pure (Val.av x):=by rw[bv (lS x),kN,pF]
@[simp high] theorem xg(x:Val):ay 4 [] (Val.av x)=M.pure (Val.av x):=by rw[aP (lS x),kN,pF]
@[simp high] theorem zm(x:Exp):aZ 6 (Exp.av x)=M.pure (Exp.av x):=by rw[bv (fM x),cr,dq]
@[simp high] theorem xb(x:Exp):ay 6 [] (Exp.av x)=M.pure (Exp.av x):=by rw[aP (fM x),cr,dq]
@[simp high] theorem kR(x:eQ):aZ 3 (be x)=M.pure (be x):=by rw[bv (gM x),ct,e9]
@[simp high] theorem xc(x:eQ):ay 3 [] (be x)=M.pure (be x):=by rw[aP (gM x),ct,e9]
@[simp high] theorem zn(x:Fun):aZ 12 (Fun.av x)=M.pure (Fun.av x):=by rw[bv (fN x),dW,fa]
@[simp high] theorem xd(x:Fun):ay 12 [] (Fun.av x)=M.pure (Fun.av x):=by rw[aP (fN x),dW,fa]
@[simp high] theorem zo(x:Mod):aZ 9 (Mod.av x)=M.pure (Mod.av x):=by rw[bv (i6 x),cu,lq]
@[simp high] theorem xe(x:Mod):ay 9 [] (Mod.av x)=M.pure (Mod.av x):=by rw[aP (i6 x),cu,lq]
@[simp high] theorem yr(x:Vars):aZ 2 (Vars.av x)=M.pure (Vars.av x):=by rw[bv (ny x),jU,nd]
@[simp high] theorem wM(x:Vars):ay 2 [] (Vars.av x)=M.pure (Vars.av x):=by rw[aP (ny x),jU,nd]
@[simp high] theorem yq(x:Deed):aZ 3 (Deed.av x)=M.pure (Deed.av x):=by rw[bv (nu x),jT,nc]
@[simp high] theorem wL(x:Deed):ay 3 [] (Deed.av x)=M.pure (Deed.av x):=by rw[aP (nu x),jT,nc]
@[simp high] theorem yp(x:Ap.Call):aZ 3 (Ap.Call.av x)=M.pure (Ap.Call.av x):=by rw[bv (nr x),jS,na]
@[simp high] theorem wK(x:Ap.Call):ay 3 [] (Ap.Call.av x)=M.pure (Ap.Call.av x):=by rw[aP (nr x),jS,na]
@[simp high] theorem zp(x:Ap.Out):aZ 8 (Ap.Out.av x)=M.pure (Ap.Out.av x):=by rw[bv (qd x),kM,pE]
@[simp high] theorem xf(x:Ap.Out):ay 8 [] (Ap.Out.av x)=M.pure (Ap.Out.av x):=by rw[aP (qd x),kM,pE]
@[simp] theorem f7(t:Ty):bH 2 t.av=true:=by simp[bH,aL,aN]
@[simp high] theorem jr(x:Ty):aZ 2 (Ty.av x)=M.pure (Ty.av x):=by rw[bv (f7 x),bK,de]
@[simp high] theorem jX(x:Ty):ay 2 [] (Ty.av x)=M.pure (Ty.av x):=by rw[aP (f7 x),bK,de]
end Go.Av
namespace Go.Av
@[simp] theorem wO(c:Prop)[Decidable c](a b:Bool):(if c then(M.pure (.bool a):M AV)else M.pure (.bool b))=M.pure (.bool (if c then a else b)):=by split<;>rfl
@[simp] theorem xz(c:Prop)[Decidable c](a b:Int):(if c then(M.pure (.int .i64 a):M AV)else M.pure (.int .i64 b))=M.pure (.int .i64 (if c then a else b)):=by split<;>rfl
def od{F:(List AV->M AV)->List AV->M AV}(hF:∀vs,aj F vs=F (aj F) vs)(st:Nat->List AV)(n:Nat)(G:Nat->Bool)(hend:F (aj F) (st n)=M.pure (.bool true))(hstep:∀k,k<n->F (aj F) (st k)=if G k=true then aj F (st (k+1))else M.pure (.bool false)):
  ∀k,k<=n->aj F (st k)=M.pure (.bool ((List.range' k (n-k)).all G)):=by
 have key:∀r k,n-k=r->k<=n->aj F (st k)=M.pure (.bool ((List.range' k r).all G)):=by
  intro r
  induction r with
  |zero=>
   intro k hr hk;obtain rfl:k=n:=by omega
   rw[hF,hend];rfl
  |succ r ih=>
   intro k hr hk;rw[hF,hstep k (by omega),ih (k+1) (by omega) (by omega)];simp only[Gr,ES];cases G k<;>rfl
 exact fun k hk=>key (n-k) k rfl hk
def qH{α:Type}[Inhabited α](P:α->Bool)(l:List α):(List.range' 0 l.length).all (fun k=>P l[k]!)=l.all P:=by
 rw[FK];simp only[DL,List.mem_range'_1];constructor
 ·intro h x hx;obtain⟨i,hi,rfl⟩:=List.getElem_of_mem hx
  have:=h i ⟨Ef _,by omega⟩
  rwa [D2 l i hi]at this
 ·intro h k hk;have hk':k<l.length:=by omega
  rw[D2 l k hk'];exact h _ (DV hk')
end Go.Av
namespace Go.Av.Ap
open Go Go.Av
def Val.limN:Nat->Val->Prop
 |0,_=>True
 |n+1,v=>v.names.length<=140737488355328/\v.values.length<=140737488355328/\∀x∈v.values,x.limN n
def Val.Lim(v:Val):Prop:=∀n,v.limN n
def Exp.limN:Nat->Exp->Prop
 |0,_=>True
 |n+1,v=>v.names.length<=8796093022208/\v.args.length<=140737488355328/\∀x∈v.args,x.limN n
def Exp.Lim(v:Exp):Prop:=∀n,v.limN n
def Ty.limN:Nat->Ty->Prop
 |0,_=>True
 |n+1,v=>v.fields.length<=140737488355328/\∀x∈v.fields,x.2.limN n
def Ty.Lim(v:Ty):Prop:=∀n,v.limN n
def Val.Lim.names{v:Val}(h:v.Lim):v.names.length<=140737488355328:=(h 1).1
def Val.Lim.len{v:Val}(h:v.Lim):v.values.length<=140737488355328:=(h 1).2.1
def Val.Lim.kid{v:Val}(h:v.Lim){x:Val}(hx:x∈v.values):x.Lim:=fun n=>(h (n+1)).2.2 x hx
def Exp.Lim.names{v:Exp}(h:v.Lim):v.names.length<=8796093022208:=(h 1).1
def Exp.Lim.len{v:Exp}(h:v.Lim):v.args.length<=140737488355328:=(h 1).2.1
def Exp.Lim.kid{v:Exp}(h:v.Lim){x:Exp}(hx:x∈v.args):x.Lim:=fun n=>(h (n+1)).2.2 x hx
def Ty.Lim.len{v:Ty}(h:v.Lim):v.fields.length<=140737488355328:=(h 1).1
def Ty.Lim.kid{v:Ty}(h:v.Lim){x:eQ}(hx:x∈v.fields):x.2.Lim:=fun n=>(h (n+1)).2 x hx
structure Fun.Lim (f:Fun):Prop where
 params:f.params.length<=140737488355328
 pty:∀x∈f.params,x.2.Lim
 result:f.result.Lim
 body:f.body.Lim
structure Mod.Lim (m:Mod):Prop where
 uses:m.uses.length<=140737488355328
 vars:m.vars.length<=140737488355328
 vty:∀x∈m.vars,x.2.Lim
 init:m.init.length<=140737488355328
 ies:∀e∈m.init,e.Lim
 funcs:m.funcs.length<=140737488355328
 fns:∀f∈m.funcs,f.Lim
 old:m.old.length<=140737488355328
 oty:∀x∈m.old,x.2.Lim
 forward:m.forward.length<=140737488355328
 fes:∀e∈m.forward,e.Lim
 back:m.back.length<=140737488355328
 bes:∀e∈m.back,e.Lim
end Go.Av.Ap
namespace Go.Av.Ap
open Go Go.Av
section
variable {α:Type} {f:α->AV} {sz:Nat}
def rowOf(f:α->AV)(l:List α):List AV:=(l.map f).flatMap ab
theorem ge(x:α)(l:List α):rowOf f (x:: l)=ab (f x)++rowOf f l:=by simp[rowOf]
theorem dj(hs:∀x,(ab (f x)).length=sz):(l:List α)->(rowOf f l).length=l.length*sz
 |[]=>by simp[rowOf]
 |x:: l=>by rw[ge,Eb,hs,dj hs l,D4,Ff];omega
theorem da(hs:∀x,(ab (f x)).length=sz):(l:List α)->(i:Nat)->(h:i<l.length)->((rowOf f l).drop (i*sz)).take sz=ab (f l[i])
 |x:: l,0,_=>by
  rw[ge,Fz,Ev,GE (hs x)];rfl
 |x:: l,i+1,h=>by
  rw[ge,show (i+1)*sz=(ab (f x)).length+i*sz by rw[hs,Ff];omega,List.drop_append,EB (by omega),Gy,Ez];simpa using da hs l i (by simpa using h)
theorem mH{cs xs:List AV}{off:Nat}(h:(cs.drop off).take xs.length=xs):setCells cs off xs=cs:=by
 unfold setCells
 conv=>lhs;rw[<- h]
 rw[EP];have:cs.take off++((cs.drop off).take xs.length++cs.drop (off+((cs.drop off).take xs.length).length))=cs:=by
  rw[h,<- FO]
  conv=>lhs;rw[show xs++List.drop xs.length (List.drop off cs)=(cs.drop off).take xs.length++List.drop xs.length (List.drop off cs) by rw[h]]
  rw[Fc,Fc]
 exact this
theorem jE(hs:∀x,(ab (f x)).length=sz)(hag:∀x,f x= .agg (ab (f x)))(hcl:∀x g,cl g (f x)=f x)(hz:0<sz){h:Hp}{q:Nat}{l:List α}(hq:h[q]? = some (rowOf f l))(d:Nat):
  gx (d+1) h (.hs q 0 l.length sz true)= .sl (l.map f):=by
 have hlen:=dj (f:=f) hs l;simp only[gx,cl,hq];have h1:(decide (0+l.length*sz<=(rowOf f l).length)&&decide (0<sz)&&(true||(Nat.beq sz 1&&(rowOf f l).all aL)))=true:=by
  simp[hlen,hz]
 rw[h1,Dx];congr 1;apply FU
 ·simp
 ·intro i h2 h3;have hi:i<l.length:=by simpa using h2
  simp only[FF,Gh,DW,Dx];rw[da hs l i hi,<- hag];cases d with
  |zero=>exact hcl _ _
  |succ d=>exact hcl _ _
theorem kX{T:TT}{t e:Nat}{ti ei:TI}(ht:T t=some ti)(hk:ti.kind= .slice e)(he:T e=some ei)(h4:ei.size=sz)(hag:ei.agg=true)(hb:0<ei.bytes)(hz:0<sz)(hok:∀x,bH sz (f x)=true)(call:FuncId->List AV->M AV)(l:List α)(hc:l.length*ei.bytes<=140737488355328)(h:Hp):
  cv T t call [.sl (l.map f)] h=if l=[]then .ok (.sl []) h else .ok (.hs h.length 0 l.length sz true) (h++[rowOf f l]):=by
 have h1:bV sz (l.map f)=true:=cp hok l;cases l with
 |nil=>simp[cv,appH,ht,hk,he,eJ,hb,h4,gR,bV,hz]
 |cons v l=>
  have hne:((v:: l).map f).isEmpty=false:=rfl;unfold cv appH;simp only[ht,hk,he,eJ,h4,h1,hb,hz,gR,EN,Gk,Dx,hne,DF,D7,hag];rw[EO hc];simp[rowOf]
end
def nk{T:TT}{t:Nat}{ti:TI}{q off:Nat}{cs:List AV}{h:Hp}(ht:T t=some ti)(hag:ti.agg=true)(hq:h[q]? = some cs)(hle:off+ti.size<=cs.length):fu T t (.hp q off) h= .ok (.agg ((cs.drop off).take ti.size)) h:=by
 simp only[fu,ht,hq,hag,Dx];rw[DG hle]
def kp{T:TT}{t:Nat}{ti:TI}{q off:Nat}{cs:List AV}{v:AV}{h:Hp}(ht:T t=some ti)(hq:h[q]? = some cs)(hok:bH ti.size v=true)(hle:off+ti.size<=cs.length)(h0:0<ti.size)(hsame:(cs.drop off).take (ab v).length=ab v):
  fg T t (.hp q off) v h= .ok (.tup []) h:=by
 simp only[fg,ht,hq,hok,EO hle,EO h0,Gk,Dx];rw[mH hsame];congr 1;obtain⟨hlt,hk⟩:=El.1 hq;rw[<- hk];exact List.set_getElem_self hlt
end Go.Av.Ap
namespace Go.Av.Ap
open Go Go.Av
def kE(b:UInt8):Bool:=decide (97<=b.toNat)&&decide (b.toNat<=122)
def q7(b:UInt8):Bool:=decide (48<=b.toNat)&&decide (b.toNat<=57)
def kP(b:UInt8):Bool:=kE b||q7 b
def kq(s:bT):Bool:=!(s== [])&&kE (s.headD 0)&&decide (s.length<=20)&&((s.takeWhile kP).length== s.length)
def gZ:bT:=[32,97,110,100,32,98,97,99,107,32,98,111,111,108,32,99,108,111,99,107,32,101,108,115,101,32,102,97,108,115,101,32,102,105,108,101,115,32,102,110,32,102,111,114,119,97,114,100,32,103,101,116,32,105,102,32,105,110,32,105,110,116,32,108,101,116,32,109,111,100,117,108,101,32,109,111,118,101,32,110,101,116,32,110,111,116,32,111,114,32,112,117,98,32,115,101,99,114,101,116,115,32,115,101,116,32,116,104,101,110,32,116,114,117,101,32,117,115,101,32,118,97,114,32]
def bw(s:bT):Bool:=kq s&&!(Lib.contains gZ ([32]++s++[32]))
def tY{s:bT}(h:kq s=true):s.length<=20:=by
 unfold kq at h;simp only[Dy,DK]at h;exact h.1.2
def dy(p f:bT):Bool:=!(aC f p||f== p)
def gw{α:Type}(Q:α->α->Bool):List α->Bool
 |x:: y:: r=>Q x y&&gw Q (y:: r)
 |_=>true
theorem pc{α:Type}[Inhabited α](Q:α->α->Bool):(l:List α)->(gw Q l=true↔∀k,k+1<l.length->Q l[k]! l[k+1]! = true)
 |[]=>by simp[gw]
 |[x]=>by simp[gw]
 | x:: y:: r=>by
  simp only[gw,Dy,pc Q (y:: r)];constructor
  ·rintro⟨h1,h2⟩ k hk;cases k with
   |zero=>simpa using h1
   |succ k=>simpa using h2 k (by simpa using hk)
  ·intro h;refine⟨by simpa using h 0 (by simp),fun k hk=>?_⟩;simpa using h (k+1) (by simpa using hk)
def nP{α:Type}[Inhabited α](P:α->Bool)(Q:α->α->Bool)(l:List α):(List.range' 0 l.length).all (fun k=>P l[k]! && (decide (k=0)||Q l[k-1]! l[k]!))=(l.all P&&gw Q l):=by
 rw[FK,Dy,<- qH P l,pc];simp only[DL,List.mem_range'_1,Dy,EG,DK];constructor
 ·intro h;refine⟨fun k hk=>(h k hk).1,fun k hk=>?_⟩
  have:=(h (k+1) ⟨Ef _,by omega⟩).2
  rcases this with h0|h1
  ·omega
  ·simpa using h1
 ·rintro⟨h1,h2⟩ k hk;refine⟨h1 k hk,?_⟩;cases k with
  |zero=>exact .inl rfl
  |succ k=>exact .inr (by simpa using h2 k (by omega))
def cT:Nat->Ty->Bool
 |0,_=>false
 |d+1,t=>decide (0<=t.kind)&&decide (t.kind<3)&&decide (t.fields.length<=8)&&(t.kind== 2||t.fields.length== 0)&&(t.fields.all (fun f=>bw f.1&&cT d f.2)&&gw (fun a b=>dy a.1 b.1) t.fields)
theorem kl(d:Nat)(t:Ty):cT (d+1) t=(decide (0<=t.kind)&&decide (t.kind<3)&&decide (t.fields.length<=8)&&(t.kind== 2||t.fields.length== 0)&&(t.fields.all (fun f=>bw f.1&&cT d f.2)&&gw (fun a b=>dy a.1 b.1) t.fields)):=rfl
abbrev cO(t:Ty):Bool:=cT 4 t
mutual
def zg:Ty->Ty->Bool
 |.mk k fs,a=>a.kind== k&&r8 fs a.fields
def r8:List (bT×Ty)->List eQ->Bool
 |[],_=>true
 |f:: fs,l=>zh f l&&r8 fs l
def zh:bT×Ty->List eQ->Bool
 |(n,t),l=>match gn (fun z=>z.1== n) l with
  |some z=>zg t z.2
  |none=>false
end
def eL(a b:Int):Int:=IntKind.i64.wrap (BitVec.ofInt 64 a &&& ~~~ BitVec.ofInt 64 b).toNat
def eb(s:Sig):Bool:=bw s.name&&decide (s.params.length<=6)&&(eL s.effects 15== 0)&&cO s.result&&s.params.all cO
def g7(f:Face):Bool:=bw f.module&&decide (f.funcs.length<=30)&&(f.funcs.all eb&&gw (fun a b=>aC a.name b.name) f.funcs)
def sf(f:Face)(name:bT):Option Sig:=f.funcs.find? fun s=>s.name== name
structure Sig.Lim (s:Sig):Prop where
 plen:s.params.length<=140737488355328
 ptys:∀t∈s.params,t.Lim
 result:s.result.Lim
structure Face.Lim (f:Face):Prop where
 len:f.funcs.length<=140737488355328
 sigs:∀s∈f.funcs,s.Lim
@[simp] theorem qW(x:Sig):aZ 5 x.av=M.pure x.av:=by rw[bv (gO x),dx,fb]
@[simp] theorem iH(x:Sig):ay 5 [] x.av=M.pure x.av:=by rw[aP (gO x),dx,fb]
end Go.Av.Ap
namespace Go.Av
variable [Dr]
open Go.RowKit Go.WideShapes Go.ChangeShapes
theorem Left.below{S S':ap}{β β':List a8}{w w':World}{h':Hp}(L:Left (bn [] []) S β w S' β' w' h'):Below w.heap.size w w':=
 ⟨L.gro.os,L.gro.tape,L.gro.out,L.gro.size,fun k hk=>(L.keep k hk (by rintro⟨l,_,_,h1,_⟩;simp at h1)).1⟩
def hM(W:World):ap:=fun b o=>W.cell? ⟨b,o,none⟩
omit [Dr]in
theorem wS(W:World):Wf (hM W) W:=fun _ _ _ h=>h
omit [Dr]in
theorem tw{W:World}(h:GOKw W):kJ [] [] W:=⟨h,fun b _ ho=>by obtain⟨l,_,_,h1,_⟩:=ho;simp at h1⟩
theorem tG{P:Program}{p:Pg}(G:GoodPg P p)(hO:cC p){f:FuncId}{args:List AV}{vs:List Value}{W:World}(hg:GOKw W)(hv:aG (hM W) [] args vs)(ht:ak p f args []= .ok (.bool true) []):Calls P f vs.toArray W fun e W'=>e= .returned (.bool true)/\Below W.heap.size W W':=by
 have h:=(gD G hO f args [] (hM W) [] W vs (by rw[ht];simp) (tw hg) (wS W) ⟨rfl,fun _=>.no,fun l cs hl=>by simp at hl⟩ hv).1;rw[ht]at h;refine h.mono fun e W' hp=>?_;obtain⟨S',β',v,rfl,hv,L,_⟩:=hp;simp only[VR]at hv;subst hv;exact⟨rfl,L.below⟩
section
variable {H:Type} {enc:TypeId×Value->H} {P:Program}
omit [Dr]in
theorem mE{f:Func}{s:ChangeSpec}{apart fresh handsOn again:Bool}{W W':World}{args:Array Value}{v:Value}{ds gs:List (DataW H)}{before pa pv:List MemPlace}(hW:DataW.Whole enc P f.params.toList s.vars apart W args.toList ds gs before)(hres:∀(b:Nat)(sp:Nat->Bool)(hd:Bool),DataW.TrodAll enc P W' b sp hd f.resultTypes.toList (v.resultList f.resultTypes.size) (s.fn H (ds++gs)).results [])(hargs:∀sp:Nat->Bool,(∀p∈before,sp p.block=true)->DataW.TrodAll enc P W' 0 sp true f.params.toList args.toList (s.fn H (ds++gs)).args pa)(hvars:∀sp:Nat->Bool,(∀p∈before,sp p.block=true)->DataW.TrodVars enc P W' sp s.vars (s.fn H (ds++gs)).vars pv)(hps:before=pa++pv)(hb:Below W.heap.size W W')(hok:∀(j:Nat)(t:TypeId)(r:Value),f.resultTypes[j]? = some t->(v.resultList f.resultTypes.size)[j]? = some r->Value.okWide P W' .any 0 t r):
  s.post enc P f apart fresh handsOn again W args v W':=by
 have hlt:∀p∈before,p.block<W.heap.size:=fun p hp=>hW.lt p hp;have hold:∀p∈before,(fun b=>decide (b<W.heap.size)) p.block=true:=fun p hp=>by simpa using hlt p hp
 refine⟨ds,gs,before,[],pa,pv,hW,hres _ _ _,hargs _ hold,hvars _ hold,World.keptBut_mono (fun p hp=>⟨hp,?_⟩) (hb.frame (· ∈before)),fun _=>?_⟩
 ·rw[hps,Ed]at hp;exact Or.inr hp
 ·obtain⟨_,_,_,_,_,hz,hn⟩:=hW;refine⟨hok,_,_,([]++pa)++pv,⟨[]++pa,pv,trodAll_append (hargs _ (fun _ _=>rfl)) (hres _ _ _),hvars _ (fun _ _=>rfl),rfl,?_,?_⟩,?_⟩
  ·intro b off hp;have hin:MemPlace.cell b off∈before:=by rw[hps];simpa using hp
   rw[hb.frozen (hlt _ hin)];exact hz b off hin
  ·intro ha
   have:=hn ha
   rw[hps]at this;simpa using this
  ·intro p hp _;rw[hps];simpa using hp
end
end Go.Av
namespace Go.Av.Ap
open Go Go.Av
theorem db:(a:bT)->aC a a=false
 |[]=>rfl
 |x:: a=>by simp[aC,db a]
theorem cQ:(a b c:bT)->aC a b=true->aC b c=true->aC a c=true
 |_,[],c,h,_=>by cases ‹bT› <;> simp[aC]at h
 |_,_:: _,[],_,h=>by simp[aC]at h
 |[],_:: _,_:: _,_,_=>by simp[aC]
 | x:: a,y:: b,z:: c,h1,h2=>by
  simp only[aC,EG,Dy,DK,EU,UInt8.lt_iff_toNat_lt]at h1 h2 |-;rcases h1 with h1|⟨rfl,h1⟩
  ·rcases h2 with h2|⟨rfl,h2⟩
   ·exact .inl (by omega)
   ·exact .inl h1
  ·rcases h2 with h2|⟨rfl,h2⟩
   ·exact .inl h2
   ·exact .inr ⟨rfl,cQ a b c h1 h2⟩
theorem dt:(a b:bT)->aC a b=false->a≠b->aC b a=true
 |[],[],_,h=>absurd rfl h
 |[],_:: _,h,_=>by simp[aC]at h
 |_:: _,[],_,_=>by simp[aC]
 | x:: a,y:: b,h1,h2=>by
  simp only[aC,FD,E6,EG,Dy,DK,EU,UInt8.lt_iff_toNat_lt]at h1 |-;by_cases e:x=y
  ·subst e;refine .inr ⟨rfl,dt a b ?_ fun e=>h2 (by rw[e])⟩;simpa using h1.2
  ·refine .inl ?_;have:x.toNat≠y.toNat:=fun e'=>e (UInt8.toNat_inj.1 e');omega
end Go.Av.Ap
