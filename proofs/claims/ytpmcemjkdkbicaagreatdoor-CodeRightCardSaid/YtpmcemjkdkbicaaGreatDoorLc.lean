/- The abstract evaluator of the model and plain laws, part 3: its soundness holds for every program whose table of types is the evaluator's. No further condition. -/
import Derived.Test.YtpmcemjkdkbicaaGreatDoorLb
import Derived.KernelRfl
import Derived.Below
import Derived.Lib.IndexMore
import Derived.Lib.Fields
import Derived.Lib.AtoiAll
import Derived.Lib.SplitLaws
import Derived.Shelf.SlSortCmp.WholeK
import Derived.Lib.Bytealg
import Derived.ChangeSame
import Derived.OpenShut
import Derived.ChangeReads
import Derived.ReadAgain
import Derived.Deep.Slices
import Derived.WideShapes
import Derived.SizedLaws
import Derived.IntWalk
set_option linter.defProp false
set_option linter.unusedSimpArgs false
set_option linter.unusedVariables false
namespace Go.Av
variable [Dr]
def bv{α:Type}(m:M α):Prop:=∃o,m=af o
def dF{α:Type}(m:M α):Prop:=∀h,m h= .fail\/∃v,m h= .ok v h
def d4{α:Type}(m:M α):Prop:=∀h v h',m h≠.pan v h'
omit [Dr]in
theorem bv.read{α:Type}{m:M α}(h:bv m):dF m:=by
 obtain⟨o,rfl⟩:=h;intro h;cases o with
 |none=>exact .inl rfl
 |some v=>exact .inr ⟨v,rfl⟩
omit [Dr]in
theorem dF.stay{α:Type}{m:M α}(g:dF m):d4 m:=by
 intro h v h' hh;rcases g h with g|⟨x,g⟩<;>rw[g]at hh<;>cases hh
omit [Dr]in
theorem bv.bnd{α β:Type}{m:M α}(h:bv m)(f:α->β):bv (ae m fun v=>M.pure (f v)):=by
 obtain⟨o,rfl⟩:=h;cases o with
 |none=>exact⟨none,rfl⟩
 |some v=>exact⟨some (f v),rfl⟩
omit [Dr]in
theorem dF.bnd{α β:Type}{m:M α}(g:dF m)(f:α->β):dF (ae m fun v=>M.pure (f v)):=by
 intro h;simp only[Av.ae,M.pure];rcases g h with g|⟨x,g⟩<;>rw[g]
 ·exact .inl rfl
 ·exact .inr ⟨_,rfl⟩
omit [Dr]in
theorem d4.bnd{α β:Type}{m:M α}(g:d4 m)(f:α->β):d4 (ae m fun v=>M.pure (f v)):=by
 intro h v h' hh;simp only[Av.ae,M.pure]at hh;cases hm:m h<;>rw[hm]at hh<;>simp at hh;exact g _ _ _ hm
omit [Dr]in
theorem bv.lft{α:Type}(o:Option α):bv (af o):=⟨o,rfl⟩
omit [Dr]in
theorem bv.pure{α:Type}(a:α):bv (M.pure a):=⟨some a,rfl⟩
omit [Dr]in
theorem bv.fail{α:Type}:bv (M.fail:M α):=⟨none,rfl⟩
def kI{α:Type}(m:M α):Prop:=∀h t v,m h= .ok v h->m (h++t)= .ok v (h++t)
def xw{α:Type}(m:M α):Prop:=∀h v h',m h= .ok v h'->∃t,h'=h++t
omit [Dr]in
theorem bv.app{α:Type}{m:M α}(h:bv m):kI m:=by
 obtain⟨o,rfl⟩:=h;intro h t v hh;cases o with
 |none=>cases hh
 |some x=>cases hh;rfl
omit [Dr]in
theorem bv.nw{α:Type}{m:M α}(h:bv m):xw m:=by
 obtain⟨o,rfl⟩:=h;intro h v h' hh;cases o with
 |none=>cases hh
 |some x=>cases hh;exact⟨[],by simp⟩
omit [Dr]in
theorem kI.bnd{α β:Type}{m:M α}(g:kI m/\dF m)(f:α->β):kI (ae m fun v=>M.pure (f v))/\dF (ae m fun v=>M.pure (f v)):=by
 refine⟨fun h t v hh=>?_,g.2.bnd f⟩;simp only[Av.ae,M.pure]at hh |-;rcases g.2 h with k|⟨x,k⟩
 ·rw[k]at hh;cases hh
 ·rw[k]at hh;cases hh;rw[g.1 h t x k]
omit [Dr]in
theorem xw.bnd{α β:Type}{m:M α}(g:xw m)(f:α->β):xw (ae m fun v=>M.pure (f v)):=by
 intro h v h' hh;simp only[Av.ae,M.pure]at hh;cases hm:m h<;>rw[hm]at hh<;>simp at hh;obtain⟨t,ht⟩:=g _ _ _ hm;exact⟨t,by rw[<- hh.2,ht]⟩
def bP(p:∀ {α:Type},M α->Prop):Act1->Prop
 |.dyn m _=>p m
 |.thr _=>False
 |_=>True
structure IsoPure (cx:Cx):Prop where
 iso:∀f args,cx.iso f=true->bv (cx.call f args)
 nw:∀f args,cx.nw f=true->xw (cx.call f args)
section
variable {cx:Cx} {e:Env} {gid:Nat} {o:Oper}
omit [Dr]in
theorem bP.cond{p:∀ {α:Type},M α->Prop}{b:Bool}{x y:Act1}(h1:b=true->bP p x)(h2:b=false->bP p y):bP p (bif b then x else y):=by
 cases b with
 |true=>exact h1 rfl
 |false=>exact h2 rfl
omit [Dr]in
theorem bP.lft(o:Option AV)(sh:AV->Upd):bP bv (.dyn (af o) sh):=bv.lft o
omit [Dr]in
theorem pE(T:TT)(t:TypeId)(x:AV):dF (bj T t x):=by
 have key:∀x,dF (fun h:Hp=>(match aj T t x with|some v=>R.ok v h|none=>.fail)):=by
  intro x h;cases hq:aj T t x with
  |none=>exact .inl rfl
  |some v=>exact .inr ⟨v,rfl⟩
 cases x with
 | hp l off=>
  intro h;simp only[bj];cases T t with
  |none=>exact .inl rfl
  | some ti=>
   cases h[l]? with
   |none=>exact .inl rfl
   | some cs=>
    simp only;cases ti.agg with
    |true=>
     simp only[LF];split
     ·exact .inr ⟨_,rfl⟩
     ·exact .inl rfl
    |false=>
     simp only[LL];cases cs[off]? with
     |none=>exact .inl rfl
     |some v=>exact .inr ⟨v,rfl⟩
 |_=>exact key _
omit [Dr]in
theorem vw(T:TT)(t:TypeId)(x y:AV):d4 (bI T t x y):=by
 intro h v h' hh;unfold bI at hh;split at hh
 ·split at hh
  ·revert hh;generalize (_&&_:Bool)=b1;cases b1<;>simp
  ·cases hh
 ·cases hh
omit [Dr]in
theorem tM(T:TT)(t:TypeId)(x:AV):d4 (sn T t x):=fun h v h' hh=>by cases hh
omit [Dr]in
theorem ru(cs:List AV):d4 (newH cs):=by
 intro h v h' hh;unfold newH at hh;revert hh;generalize (_||_:Bool)=b1;cases b1<;>simp
omit [Dr]in
theorem zA(t:Nat)(cs:List AV):d4 (uN t cs):=by
 intro h v h' hh;unfold uN at hh;split at hh
 ·revert hh;generalize List.any _ _=b1;cases b1<;>simp
 ·cases hh
omit [Dr]in
theorem sS:d4 fB:=by
 intro h v h' hh;cases hh
omit [Dr]in
theorem wT(T:TT)(t:TypeId)(x k:AV)(ok:Bool):dF (eO T t x k ok):=by
 intro h;unfold eO;cases jR h x with
 |none=>exact .inl rfl
 |some es=>
  simp only;cases nP T t es k ok with
  |none=>exact .inl rfl
  |some v=>exact .inr ⟨v,rfl⟩
omit [Dr]in
theorem yW{h s:Hp}{x:AV}{es:List AV}(hh:jR h x=some es):jR (h++s) x=some es:=by
 unfold jR at hh |-;cases x with
 | mp l=>
  simp only at hh |-;cases hl:h[l]? with
  |none=>rw[hl]at hh;cases hh
  | some cs=>
   rw[hl]at hh;have hl':(h++s)[l]? = some cs:=by
    rw[Np,LC (Mf.1 hl).1,hl]
   rw[hl'];exact hh
 |_=>exact hh
omit [Dr]in
theorem zv(T:TT)(t:TypeId)(x k:AV)(ok:Bool):kI (eO T t x k ok):=by
 intro h s v hh;unfold eO at hh |-;cases hs:jR h x with
 |none=>rw[hs]at hh;cases hh
 |some es=>
  rw[hs]at hh;rw[yW hs];simp only at hh |-;cases ha:nP T t es k ok with
  |none=>rw[ha]at hh;cases hh
  |some u=>rw[ha]at hh;cases hh;rfl
omit [Dr]in
theorem uU(T:TT)(t:TypeId)(x:AV):d4 (sY T t x):=fun h v h' hh=>by cases hh
omit [Dr]in
theorem tT(x:AV):dF (oY x):=fun h=>.inl rfl
omit [Dr]in
theorem wy(x:AV):kI (oY x):=fun h s v hh=>by cases hh
omit [Dr]in
theorem rF(T:TT)(t:TypeId)(x k y:AV):d4 (mi T t x k y):=by
 intro h v h' hh;unfold mi at hh;split at hh
 ·cases hh
 ·revert hh;cases yS T 20 _ k with
  |false=>intro hh;cases hh
  | true=>
   simp only[LF];intro hh;split at hh
   ·split at hh
    ·split at hh
     ·cases hh
     ·cases hh
    ·cases hh
   ·cases hh
omit [Dr]in
theorem yH(T:TT)(t:TypeId)(z:Bool)(x y:AV):d4 (appH T t z x y):=by
 intro h v h' hh;unfold appH at hh;have hc:∀ {b:Bool} {r s:R AV},(∀v h',r≠.pan v h')->(∀v h',s≠.pan v h')->(bif b then r else s)≠.pan v h':=by
  intro b r s h1 h2;cases b
  ·exact h2 _ _
  ·exact h1 _ _
 split at hh
 ·cases hh
 ·split at hh
  ·split at hh
   ·cases hh
   ·split at hh
    ·cases hh
    ·refine hc (fun v h' hh=>?_) (fun v h' hh=>by cases hh) hh;split at hh
     ·revert hh;generalize List.isEmpty _=b1;generalize decide (_<=140737488355328)=b2;cases b1<;>cases b2<;>simp
     ·revert hh;generalize List.isEmpty _=b1;generalize decide (_<=140737488355328)=b2;cases z<;>cases b1<;>cases b2<;>simp
     ·split at hh
      ·cases hh
      ·revert hh;generalize (_&&_:Bool)=b1;generalize List.isEmpty _=b2;cases b1<;>cases b2<;>simp
     ·cases hh
  ·cases hh
omit [Dr]in
theorem yG(T:TT)(t:TypeId)(x y:AV):d4 (oH T t x y):=by
 intro h v h' hh;unfold oH at hh;have hc:∀ {b:Bool} {r s:R AV},(∀v h',r≠.pan v h')->(∀v h',s≠.pan v h')->(bif b then r else s)≠.pan v h':=by
  intro b r s h1 h2;cases b
  ·exact h2 _ _
  ·exact h1 _ _
 split at hh
 ·cases hh
 ·split at hh
  ·split at hh
   ·cases hh
   ·refine hc (fun v h' hh=>?_) (fun v h' hh=>by cases hh) hh;split at hh
    ·cases hh
    ·split at hh
     ·cases hh
     ·split at hh
      ·revert hh;generalize List.isEmpty _=b1;generalize decide (_<=140737488355328)=b2;cases b1<;>cases b2<;>simp
      ·split at hh
       ·cases hh
       ·revert hh;generalize (_&&_:Bool)=b1;generalize List.isEmpty _=b2;cases b1<;>cases b2<;>simp
      ·cases hh
  ·cases hh
omit [Dr]in
theorem tC(T:TT)(t n:Nat)(ps:List (Nat×AV)):d4 (se T t n ps):=fun h v h' hh=>by cases hh
omit [Dr]in
theorem wV(T:TT)(t:Nat)(x y:AV):d4 (l7 T t x y):=by
 intro h v h' hh;unfold l7 at hh;split at hh
 ·split at hh
  ·cases hh
  ·split at hh
   ·split at hh
    ·cases hh
    ·revert hh;generalize (_&&_:Bool)=b1;cases b1<;>simp
   ·cases hh
 ·cases hh
omit [Dr]in
theorem rr(told:Bool)(x:Operand):bP bv (ib told e gid x):=by
 unfold ib;split
 ·trivial
 ·exact bP.cond (fun _=>bP.cond (fun _=>trivial) (fun _=>trivial)) (fun _=>trivial)
omit [Dr]in
theorem wR(d:Option Tmp)(t:TypeId)(p:Nat):bP dF (dV cx e d t p)/\(bR cx.ann.hl d=false->bP bv (dV cx e d t p)):=by
 unfold dV;split
 ·split
  ·exact⟨trivial,fun _=>trivial⟩
  ·constructor
   ·exact bP.cond (fun _=>bP.cond (fun _=>trivial) (fun _=>bP.cond (fun _=>trivial) (fun _=>trivial))) (fun _=>trivial)
   ·exact fun _=>bP.cond (fun _=>bP.cond (fun _=>trivial) (fun _=>bP.cond (fun _=>trivial) (fun _=>trivial))) (fun _=>trivial)
 ·cases hm:bR cx.ann.hl d with
  |true=>exact⟨pE _ _ _,fun h=>by cases h⟩
  |false=>exact⟨(bv.lft _).read,fun _=>bv.lft _⟩
omit [Dr]in
theorem zu(T:TT)(t:TypeId)(x:AV):kI (bj T t x):=by
 intro h s v hh;have hk:∀y,(match aj T t y with|some v=>R.ok v h|none=>.fail)=R.ok v h->(match aj T t y with|some v=>R.ok v (h++s)|none=>.fail)=R.ok v (h++s):=by
  intro y hy;cases hq:aj T t y with
  |none=>rw[hq]at hy;cases hy
  |some u=>rw[hq]at hy;cases hy;rfl
 unfold bj at hh |-;cases x with
 | hp l off=>
  simp only at hh |-;cases hT:T t with
  |none=>rw[hT]at hh;cases hh
  | some ti=>
   rw[hT]at hh;cases hl:h[l]? with
   |none=>rw[hl]at hh;cases hh
   | some cs=>
    have hl':(h++s)[l]? = some cs:=by
     rw[Np]
     have:=(Mf.1 hl).1
     rw[LC this,hl]
    rw[hl]at hh;rw[hl'];simp only at hh |-;cases hag:ti.agg with
    |true=>
     rw[hag]at hh;simp only[LF]at hh |-;split at hh
     ·rename_i hc;cases hh;rw[LC hc]
     ·cases hh
    |false=>
     rw[hag]at hh;simp only[LL]at hh |-;cases hq:cs[off]? with
     |none=>rw[hq]at hh;cases hh
     |some u=>rw[hq]at hh;cases hh;rfl
 |_=>exact hk _ hh
omit [Dr]in
theorem Bt(d:Option Tmp)(t:TypeId)(p:Nat):bP (fun m=>kI m/\dF m) (dV cx e d t p):=by
 unfold dV;split
 ·split
  ·trivial
  ·exact bP.cond (fun _=>bP.cond (fun _=>trivial) (fun _=>bP.cond (fun _=>trivial) (fun _=>trivial))) (fun _=>trivial)
 ·cases hm:bR cx.ann.hl d with
  |true=>exact⟨zu _ _ _,pE _ _ _⟩
  |false=>exact⟨(bv.lft _).app,(bv.lft _).read⟩
omit [Dr]in
theorem A8{A:Act1}(h:bP d4 A):bP d4 (G1 A):=by
 cases A with
 |bad=>trivial
 |stat u=>intro h v h' hh;cases hh
 |dyn m sh=>
  intro x v h' hh;simp only[Av.ae,xQ]at hh;cases hm:m x<;>rw[hm]at hh<;>simp at hh;exact h _ _ _ hm
 |thr v=>exact h.elim
omit [Dr]in
theorem wF(t p i:Nat):bP bv (gK cx e t p i):=by
 unfold gK;split
 ·split
  ·trivial
  ·split
   ·trivial
   ·split
    ·trivial
    ·exact bP.cond (fun _=>trivial) (fun _=>trivial)
 ·exact bv.lft _
omit [Dr]in
theorem wK(t p:Nat)(i:Operand):bP bv (dA cx e t p i):=by
 unfold dA;split
 ·split
  ·split
   ·split
    ·trivial
    ·exact bP.cond (p:=bv) (fun _=>trivial) (fun _=>trivial)
   ·trivial
  ·trivial
 ·exact bv.lft _
omit [Dr]in
theorem xo(t p:Nat)(y:Operand):bP d4 (fE cx e gid t p y):=by
 have hl:∀o:Option AV,d4 (Av.af o):=fun o=>(bv.lft o).read.stay;unfold fE;split
 ·split
  ·trivial
  ·refine bP.cond (fun _=>bP.cond (fun _=>bP.cond (fun _=>hl _) (fun _=>trivial)) (fun _=>bP.cond (fun _=>hl _) (fun _=>bP.cond (fun _=>?_) (fun _=>trivial)))) (fun _=>trivial);split
   ·split
    ·exact hl _
    ·trivial
   ·exact bP.cond (fun _=>trivial) (fun _=>hl _)
 ·exact vw _ _ _ _
omit [Dr]in
theorem xn(t p:Nat)(y:Operand)(hl:ia (e.get p)=true):bP bv (fE cx e gid t p y):=by
 have hl':∀o:Option AV,bv (Av.af o):=fun o=>bv.lft o;unfold fE;cases hv:(e.get p).v with
 |val a=>simp[ia,hv]at hl
 | loc B off=>
  simp only;split
  ·trivial
  ·refine bP.cond (fun _=>bP.cond (fun _=>bP.cond (fun _=>hl' _) (fun _=>trivial)) (fun _=>bP.cond (fun _=>hl' _) (fun _=>bP.cond (fun _=>?_) (fun _=>trivial)))) (fun _=>trivial);split
   ·split
    ·exact hl' _
    ·trivial
   ·exact bP.cond (fun _=>trivial) (fun _=>hl' _)
omit [Dr]in
theorem jM(s t:Nat):bP d4 (fC cx e gid s t)/\(cy cx.ann.kinds s .L≠.H->cy cx.ann.kinds s .L≠.B->bP bv (fC cx e gid s t)):=by
 unfold fC;split
 ·exact⟨trivial,fun _ _=>trivial⟩
 ·cases hk:cy cx.ann.kinds s .L with
  |F=>exact⟨trivial,fun _ _=>trivial⟩
  |H=>exact⟨ru _,fun h=>absurd rfl h⟩
  |B=>exact⟨zA _ _,fun _ h=>absurd rfl h⟩
  |L=>exact⟨bP.cond (fun _=>trivial) (fun _=>trivial),fun _ _=>bP.cond (fun _=>trivial) (fun _=>trivial)⟩
  |S=>exact⟨bP.cond (fun _=>trivial) (fun _=>trivial),fun _ _=>bP.cond (fun _=>trivial) (fun _=>trivial)⟩
omit [Dr]in
theorem qU(s t:Nat)(x:Operand):bP d4 (kd cx e s t x)/\(cy cx.ann.kinds s .F≠.H->bP bv (kd cx e s t x)):=by
 have hl:∀o:Option AV,d4 (Av.af o):=fun o=>(bv.lft o).read.stay;unfold kd;cases hk:cy cx.ann.kinds s .F with
 |F=>exact⟨trivial,fun _=>trivial⟩
 |H=>exact⟨ru _,fun h=>absurd rfl h⟩
 |B=>exact⟨trivial,fun _=>trivial⟩
 |L=>
  simp only;split
  ·exact⟨trivial,fun _=>trivial⟩
  ·exact⟨bP.cond (fun _=>hl _) (fun _=>trivial),fun _=>bP.cond (fun _=>bv.lft _) (fun _=>trivial)⟩
 |S=>
  simp only;split
  ·exact⟨trivial,fun _=>trivial⟩
  ·exact⟨bP.cond (fun _=>hl _) (fun _=>trivial),fun _=>bP.cond (fun _=>bv.lft _) (fun _=>trivial)⟩
structure Class (f:Foot) (A:Act1):Prop where
 stay:f.piv=false->bP d4 A
 read:f.wh=false->bP dF A
 pure:f.wh=false->f.rh=false->bP bv A
 app:f.wh=false->bP (fun m=>kI m/\dF m) A
 nw:f.nw=true->bP xw A
omit [Dr]in
theorem bP.imp{p q:∀ {α:Type},M α->Prop}(hpq:∀ {α:Type} (m:M α),p m->q m){A:Act1}(h:bP p A):bP q A:=by
 cases A<;>first|trivial|exact hpq _ h|exact h
omit [Dr]in
theorem Class.of_pure{f:Foot}{A:Act1}(h:bP bv A):Class f A:=
 ⟨fun _=>h.imp fun _ g=>g.read.stay,fun _=>h.imp fun _ g=>g.read,fun _ _=>h,fun _=>h.imp fun _ g=>⟨g.app,g.read⟩,fun _=>h.imp fun _ g=>g.nw⟩
omit [Dr]in
theorem kI.nw{α:Type}{m:M α}(h:dF m):xw m:=fun x v h' hh=>by
 rcases h x with g|⟨u,g⟩
 ·rw[g]at hh;cases hh
 ·rw[g]at hh;cases hh;exact⟨[],by simp⟩
omit [Dr]in
theorem Class.of_app{f:Foot}{A:Act1}(_hw:f.wh=false)(hr:f.rh=true)(h:bP (fun m=>kI m/\dF m) A):Class f A:=
 ⟨fun _=>h.imp fun _ g=>g.2.stay,fun _=>h.imp fun _ g=>g.2,fun _ h=>by(rw[hr]at h;cases h),fun _=>h,fun _=>h.imp fun _ g=>kI.nw g.2⟩
omit [Dr]in
theorem qO(T:TT)(t:TypeId)(x y:AV):dF (tv T t x y):=by
 intro h;unfold tv;cases qJ h y with
 |none=>exact .inl rfl
 |some es=>
  simp only;cases dm T t x (.sl es)with
  |none=>exact .inl rfl
  |some v=>exact .inr ⟨v,rfl⟩
omit [Dr]in
theorem Ce{h s:Hp}{y:AV}{es:List AV}(hh:qJ h y=some es):qJ (h++s) y=some es:=by
 unfold qJ at hh |-;split at hh
 ·rename_i l off len sz ag;cases hl:h[l]? with
  |none=>rw[hl]at hh;cases hh
  | some cs=>
   rw[hl]at hh;have hl':(h++s)[l]? = some cs:=by
    rw[Np]
    have:=(Mf.1 hl).1
    rw[LC this,hl]
   simp only[hl'];exact hh
 ·exact hh
 ·exact hh
 ·cases hh
omit [Dr]in
theorem tw(T:TT)(t:TypeId)(x y:AV):kI (tv T t x y):=by
 intro h s v hh;unfold tv at hh |-;cases hs:qJ h y with
 |none=>rw[hs]at hh;cases hh
 |some es=>
  rw[hs]at hh;rw[Ce hs];simp only at hh |-;cases ha:dm T t x (.sl es)with
  |none=>rw[ha]at hh;cases hh
  |some u=>rw[ha]at hh;cases hh;rfl
omit [Dr]in
theorem Class.of_stay{f:Foot}{A:Act1}(hw:f.wh=true)(hn:f.nw=false)(h:bP d4 A):Class f A:=
 ⟨fun _=>h,fun h=>by(rw[hw]at h;cases h),fun h=>by(rw[hw]at h;cases h),fun h=>by(rw[hw]at h;cases h),fun h=>by(rw[hn]at h;cases h)⟩
omit [Dr]in
theorem Class.of_piv{f:Foot}{A:Act1}(hw:f.wh=true)(h:f.piv=true)(hn:f.nw=true->bP xw A):Class f A:=
 ⟨fun h'=>by(rw[h]at h';cases h'),fun h=>by(rw[hw]at h;cases h),fun h=>by(rw[hw]at h;cases h),fun h=>by(rw[hw]at h;cases h),hn⟩
omit [Dr]in
theorem wb(hI:IsoPure cx){c:Call}(ho:o.op= .call c):Class (aA cx o) (fD cx e gid o c):=by
 unfold fD;cases hc:c.callee with
 |invoke r m=>exact .of_pure trivial
 | value x=>
  cases x with
  | func f=>
   simp only;cases hfz:bR cx.ann.fz o.dst with
   | true=>
    simp only[LF];cases hq:!(cx.iso f)&&!(cx.nw f)&&(cx.own f).isNone with
    |false=>exact .of_pure trivial
    |true=>
     simp only[LD,MA]at hq;exact .of_piv (by unfold aA;rw[ho];simp only[hc,hq.1.1,LL]) (by unfold aA;rw[ho];simp only[hc,hq.1.1,LL]) fun hn=>by unfold aA at hn;rw[ho]at hn;simp only[hc,hq.1.1,LL,hq.1.2]at hn;cases hn
   |false=>
   simp only[LL];cases hi:cx.iso f with
   |true=>exact .of_pure (hI.iso f _ hi)
   |false=>exact .of_piv (by unfold aA;rw[ho];simp only[hc,hi,LL]) (by unfold aA;rw[ho];simp only[hc,hi,LL]) fun hn=>hI.nw f _ (by unfold aA at hn;rw[ho]at hn;simpa only[hc,hi,LL]using hn)
  |_=>exact .of_piv (by unfold aA;rw[ho];simp only[hc]) (by unfold aA;rw[ho];simp only[hc]) fun hn=>by unfold aA at hn;rw[ho]at hn;simp[hc]at hn
 | builtin b=>
  cases b<;>simp only<;>(try exact .of_pure trivial)
  case clear=>
   have hw:(aA cx o).wh=true/\(aA cx o).nw=false:=by unfold aA;rw[ho];simp only[hc];exact⟨trivial,trivial⟩
   split
   ·exact .of_stay hw.1 hw.2 (tM _ _ _)
   ·exact .of_pure trivial
  case append=>
   split
   ·cases hu:gz cx.T _ with
    |false=>exact .of_pure trivial
    | true=>
     simp only[ME,LL];cases hha:bR cx.ann.ha o.dst with
     | true=>exact .of_stay (by unfold aA;rw[ho];simp only[hc,hha,LF]) (by unfold aA;rw[ho];simp only[hc,hha,LF]) (by
       cases bR cx.ann.hb o.dst with
       |true=>simp only[LF];exact yG _ _ _ _
       |false=>exact yH _ _ _ _ _)
     | false=>
      simp only[LL];cases hhl:bR cx.ann.hl o.dst with
      | true=>
       refine .of_app (by unfold aA;rw[ho];simp only[hc,hha,LL]) (by unfold aA;rw[ho];simp only[hc,hha,hhl,LL]) ?_;simp only[LF];refine bP.cond (fun _=>⟨tw _ _ _ _,qO _ _ _ _⟩) (fun _=>?_);split
       ·split
        ·trivial
        ·split
         ·trivial
         ·exact bP.cond (fun _=>⟨tw _ _ _ _,qO _ _ _ _⟩) (fun _=>trivial)
       ·trivial
      | false=>
       refine .of_pure ?_;simp only[LL];refine bP.cond (fun _=>bv.lft _) (fun _=>?_);split
       ·split
        ·trivial
        ·split
         ·trivial
         ·exact bP.cond (fun _=>bv.lft _) (fun _=>trivial)
       ·trivial
   ·exact .of_pure trivial
  case len=>
   split
   ·exact .of_pure (bv.lft _)
   ·exact .of_pure trivial
  case min=>exact .of_pure (bv.lft _)
  case max=>exact .of_pure (bv.lft _)
omit [Dr]in
theorem eJ(hI:IsoPure cx)(e:Env)(gid:Nat)(o:Oper):Class (aA cx o) (fq cx e gid o):=by
 unfold fq;cases ho:o.op<;>simp only<;>(try exact .of_pure (bv.lft _))<;>(try exact .of_pure trivial)
 case binOp=>exact .of_pure (bP.cond (fun _=>trivial) fun _=>bv.lft _)
 case buildSlice t n ps=>
  cases hha:bR cx.ann.ha o.dst with
  |true=>exact .of_stay (by unfold aA;rw[ho];simp only[hha,LF]) (by unfold aA;rw[ho];simp only[hha,LF]) (tC _ _ _ _)
  |false=>exact .of_pure (bv.lft _)
 case makeSlice t x y=>
  cases hha:bR cx.ann.ha o.dst with
  |true=>exact .of_stay (by unfold aA;rw[ho];simp only[hha,LF]) (by unfold aA;rw[ho];simp only[hha,LF]) (wV _ _ _ _)
  |false=>exact .of_pure (bv.lft _)
 case move x=>exact .of_pure (rr _ x)
 case assign x=>exact .of_pure (rr _ x)
 case box t x=>
  cases hd:o.dst with
  |none=>exact .of_pure trivial
  |some s=>
   cases hk:cy cx.ann.kinds s .F with
   |H=>exact .of_stay (by unfold aA;rw[ho];simp only[hd,hk]) (by unfold aA;rw[ho];simp only[hd,hk]) (qU s t x).1
   |_=>exact .of_pure ((qU s t x).2 (by rw[hk];simp))
 case alloc t=>
  cases hd:o.dst with
  |none=>exact .of_pure trivial
  |some s=>
   cases hk:cy cx.ann.kinds s .L with
   |H=>exact .of_stay (by unfold aA;rw[ho];simp only[hd,hk]) (by unfold aA;rw[ho];simp only[hd,hk]) (jM s t).1
   |B=>exact .of_stay (by unfold aA;rw[ho];simp only[hd,hk]) (by unfold aA;rw[ho];simp only[hd,hk]) (jM s t).1
   |_=>exact .of_pure ((jM s t).2 (by rw[hk];simp) (by rw[hk];simp))
 case load t x=>
  cases x with
  |tmp p=>
   have h:=wR (cx:=cx) (e:=e) o.dst t p;simp only;cases hnl:bR cx.ann.nl o.dst&&ia (e.get p)with
   |true=>exact .of_pure trivial
   |false=>
   simp only[LL];cases hz:bR cx.ann.fz o.dst with
   |true=>exact .of_stay (by unfold aA;rw[ho];exact hz) (by unfold aA;rw[ho]) (A8 (h.1.imp fun _ g=>g.stay))
   |false=>exact⟨fun _=>h.1.imp fun _ g=>g.stay,fun _=>h.1,fun _ hr=>h.2 (by unfold aA at hr;rw[ho]at hr;exact hr),fun _=>Bt o.dst t p,fun hn=>by unfold aA at hn;rw[ho]at hn;cases hn⟩
  |_=>exact .of_pure trivial
 case store t x y=>
  cases x with
  | tmp p=>
   cases hd:o.dst with
   |some d=>exact .of_pure trivial
   | none=>
    simp only;cases hlw:fb cx.ann.lw p with
    |false=>exact .of_stay (by unfold aA;rw[ho];simp[hlw]) (by unfold aA;rw[ho]) (by simp only[Nt,LL];exact xo t p y)
    |true=>
     cases hlo:ia (e.get p)with
     |false=>exact .of_pure trivial
     |true=>exact .of_pure (by simp only[ME,N4,LL];exact xn t p y hlo)
  |_=>exact .of_pure trivial
 case nilCheck x=>
  cases x with
  |tmp p=>
   simp only;split
   ·exact .of_pure trivial
   ·exact .of_pure (bv.lft _)
  |_=>exact .of_pure trivial
 case fieldAddr t x i=>cases x<;>first|exact .of_pure (wF _ _ _)|exact .of_pure trivial
 case indexAddr t x i=>cases x<;>first|exact .of_pure (wK _ _ _)|exact .of_pure (bv.lft _)|exact .of_pure trivial
 case slice t x lo hi mx=>
  refine .of_pure (bP.cond (fun _=>?_) fun _=>bv.lft _);unfold me;split
  ·split
   ·trivial
   ·split
    ·exact bP.cond (fun _=>bv.lft _) fun _=>trivial
    ·trivial
  ·trivial
 case makeMap t r=>exact .of_stay (by unfold aA;rw[ho]) (by unfold aA;rw[ho]) (bP.cond (fun _=>trivial) fun _=>sS)
 case lookup t x i ok=>exact .of_app (by unfold aA;rw[ho]) (by unfold aA;rw[ho]) ⟨zv _ _ _ _ _,wT _ _ _ _ _⟩
 case mapUpdate t m k x=>exact .of_stay (by unfold aA;rw[ho]) (by unfold aA;rw[ho]) (by unfold ke;split;exact rF _ _ _ _ _;trivial)
 case insert t m k x=>exact .of_stay (by unfold aA;rw[ho]) (by unfold aA;rw[ho]) (by unfold ke;split;exact rF _ _ _ _ _;trivial)
 case range t x=>exact .of_stay (by unfold aA;rw[ho]) (by unfold aA;rw[ho]) (uU _ _ _)
 case entry x=>exact .of_app (by unfold aA;rw[ho]) (by unfold aA;rw[ho]) ⟨wy _,tT _⟩
 case panic x=>
  refine .of_piv ?_ ?_ ?_
  ·unfold aA;rw[ho]
  ·unfold aA;rw[ho]
  ·intro hn;unfold aA at hn;rw[ho]at hn;cases hn
 case call c=>exact wb hI ho
end
end Go.Av
namespace Go.Av
variable [Dr]
structure EqE (e e':Env):Prop where
 get:∀t,e'.get t=e.get t
 al:∀g,aP e'.al g=aP e.al g
 lb:∀B,bC e'.lb B=bC e.lb B
 lf:∀B,bd e'.sl B=bd e.sl B
omit [Dr]in
theorem EqE.refl(e:Env):EqE e e:=⟨fun _=>rfl,fun _=>rfl,fun _=>rfl,fun _=>rfl⟩
omit [Dr]in
theorem EqE.symm{e e':Env}(h:EqE e e'):EqE e' e:=⟨fun t=>(h.get t).symm,fun t=>(h.al t).symm,fun t=>(h.lb t).symm,fun t=>(h.lf t).symm⟩
omit [Dr]in
theorem EqE.trans{a b c:Env}(h:EqE a b)(g:EqE b c):EqE a c:=
 ⟨fun t=>(g.get t).trans (h.get t),fun t=>(g.al t).trans (h.al t),fun t=>(g.lb t).trans (h.lb t),fun t=>(g.lf t).trans (h.lf t)⟩
def RE:R Env->R Env->Prop
 |.fail,_=>True
 |.ok e h,r=>∃e',r= .ok e' h/\EqE e e'
 |.pan v h,r=>r= .pan v h
omit [Dr]in
theorem RE.refl(r:R Env):RE r r:=by
 cases r with
 |ok e h=>exact⟨e,rfl,.refl e⟩
 |pan v h=>exact rfl
 |fail=>trivial
omit [Dr]in
theorem RE.trans{a b c:R Env}(h:RE a b)(g:RE b c):RE a c:=by
 cases a with
 |ok e x=>
  obtain⟨e',rfl,h⟩:=h;obtain⟨e2,rfl,g⟩:=g;exact⟨e2,rfl,h.trans g⟩
 |pan v x=>cases h;exact g
 |fail=>trivial
omit [Dr]in
theorem iP(l r:List (Nat×Ent))(t:Nat):bY (l++r) t=if(∃x∈l,x.1=t)then bY l t else bY r t:=by
 induction l with
 |nil=>simp
 | cons x l ih=>
  obtain⟨k,y⟩:=x;rw[Mg,cr,cr];by_cases hk:k=t
  ·subst hk;simp
  ·rw[if_neg hk,if_neg hk,ih];have:(∃x∈(k,y):: l,x.1=t)↔(∃x∈l,x.1=t):=by
    simp only[LU,exists_eq_or_imp];constructor
    ·rintro (h|h)
     ·exact absurd h hk
     ·exact h
    ·exact .inr
   simp only[this]
omit [Dr]in
theorem pJ{l:List (Nat×Ent)}(r:List (Nat×Ent)){t:Nat}(h:∀x∈l,x.1≠t):bY (l++r) t=bY r t:=by
 rw[iP,if_neg];rintro⟨x,hx,ht⟩;exact h x hx ht
omit [Dr]in
theorem iQ(d:Option Tmp)(x:Ent)(r:List (Nat×Ent))(t:Nat):bY (qu d x r) t=if d=some t then x else bY r t:=by
 cases d with
 |none=>simp[qu]
 |some s=>simp only[qu,cr,LA]
omit [Dr]in
theorem nQ{l r s:List (Nat×Ent)}{t:Nat}(h:bY r t=bY s t):bY (l++r) t=bY (l++s) t:=by
 rw[iP,iP,h]
omit [Dr]in
theorem gp(l r:List (Nat×Ent))(B:Nat):bd (l++r) B=(bd l B&&bd r B):=by
 unfold bd;rw[List.all_append]
def lL(x:Ent)(B:Nat):Bool:=match x.v with
 |.loc C _=>!(Nat.beq C B)
 |.val _=>true
omit [Dr]in
theorem eD(d:Option Tmp)(x:Ent)(r:List (Nat×Ent))(B:Nat):bd (qu d x r) B=((d.isNone||lL x B)&&bd r B):=by
 cases d with
 |none=>simp[qu]
 |some t=>rfl
omit [Dr]in
theorem l6{l:List (Nat×Ent)}{B t C off:Nat}(h:bd l B=true)(ht:(bY l t).v= .loc C off):C≠B:=by
 induction l with
 |nil=>simp[bY,Ent.none]at ht
 | cons x l ih=>
  obtain⟨k,y⟩:=x;rw[cr]at ht;simp only[bd,MQ,LD]at h;split at ht
  ·rw[ht]at h;have h1:=h.1;simp only[MA]at h1;intro hc;rw[hc,Oj]at h1;cases h1
  ·exact ih (by unfold bd;exact h.2) ht
omit [Dr]in
theorem eu(l r:List (Nat×Option Nat))(g:Nat):aP (l++r) g=(match aP l g with|some z=>some z|none=>aP r g):=by
 induction l with
 |nil=>rfl
 |cons x l ih=>
  obtain⟨k,y⟩:=x;rw[Mg,bZ,bZ];split
  ·rfl
  ·exact ih
omit [Dr]in
theorem nz{l:List (Nat×Option Nat)}{k g:Nat}(h:∀x∈l,x.1=k)(hg:g≠k):aP l g=none:=by
 induction l with
 |nil=>rfl
 | cons x l ih=>
  obtain⟨j,y⟩:=x;rw[bZ,if_neg]
  ·exact ih fun x hx=>h x (by simp[hx])
  ·have:=h (j,y) (by simp)
   simp at this;omega
omit [Dr]in
theorem l5(r:List (Nat×Nat))(k B:Nat):bC (kR r k) B=if k=B then none else bC r B:=by
 induction r with
 |nil=>simp[kR,bC]
 | cons x r ih=>
  obtain⟨j,y⟩:=x;simp only[kR];by_cases hj:j=k
  ·subst hj;simp only[Oj,LF,ih,dN];split<;>rfl
  ·have:Nat.beq j k=false:=by rw[MY];intro hh;exact hj (LN hh)
   simp only[this,LL,dN,ih];by_cases hg:j=B
   ·subst hg;rw[LC rfl,if_neg (fun h=>hj h.symm),LC rfl]
   ·rw[if_neg hg,if_neg hg]
omit [Dr]in
theorem EqE.upd{e e':Env}(h:EqE e e')(d:Option Tmp)(u:Upd):EqE (e.upd d u) (e'.upd d u):=by
 refine⟨fun t=>?_,fun g=>?_,fun B=>?_,fun B=>?_⟩
 ·show bY (qu d u.ent (u.ls++e'.sl)) t=bY (qu d u.ent (u.ls++e.sl)) t;rw[iQ,iQ,nQ (h.get t)]
 ·show aP (u.add++ef e'.al u.drop) g=aP (u.add++ef e.al u.drop) g;have:aP (ef e'.al u.drop) g=aP (ef e.al u.drop) g:=by
   cases u.drop with
   |none=>exact h.al g
   |some k=>simp only[ef,jL,h.al g]
  rw[eu,eu,this]
 ·show bC (lc (dS e'.lb u.unlb) u.lb) B=bC (lc (dS e.lb u.unlb) u.lb) B;have:bC (dS e'.lb u.unlb) B=bC (dS e.lb u.unlb) B:=by
   cases u.unlb with
   |none=>exact h.lb B
   |some k=>simp only[dS,l5,h.lb B]
  cases u.lb with
  |none=>exact this
  |some x=>
   obtain⟨k,n⟩:=x;simp only[lc,dN,this]
 ·show bd (qu d u.ent (u.ls++e'.sl)) B=bd (qu d u.ent (u.ls++e.sl)) B;rw[eD,eD,gp,gp,h.lf B]
section
variable {cx:Cx} {ops:Array Oper} {base:Nat}
def eI(ops:Array Oper)(o:Oper):List Nat:=match o.guard with
 |some (j,_)=>(match (ops[j]?).bind (·.dst)with|some t=>[t]|none=>[])
 |none=>[]
omit [Dr]in
theorem fY{i:Nat}{o:Oper}(ho:ops[i]? = some o):c8 ops i=eI ops o++iD o:=by
 unfold c8 eI;rw[ho];rfl
omit [Dr]in
theorem fP{e e':Env}{i:Nat}{o:Oper}(ho:ops[i]? = some o)(hg:∀t∈eI ops o,e'.get t=e.get t)(A:Agree cx o e e'){h:Hp}(hr:eU cx base ops i e h≠.fail):eU cx base ops i e' h=eU cx base ops i e h:=by
 unfold eU at hr |-;rw[ho]at hr;rw[ho];simp only at hr |-;have key:∀ {A':Act1->Act1} ,(∀h,dL (A' .bad) h= .fail)->dL (A' (fq cx e ((base+i)*1000) o)) h≠.fail->dL (A' (fq cx e' ((base+i)*1000) o)) h=dL (A' (fq cx e ((base+i)*1000) o)) h:=by
  intro A' h1 h2;rw[zD A];intro hb;rw[hb]at h2;exact h2 (h1 h)
 cases hgd:o.guard with
 |none=>
  rw[hgd]at hr;exact key (A':=id) (fun _=>rfl) hr
 | some g=>
  obtain⟨j,want⟩:=g;rw[hgd]at hr;simp only at hr |-;cases hdj:dy ops j with
  |none=>rfl
  | some t=>
   rw[hdj]at hr;simp only at hr |-;cases hpl:eM cx o with
   |false=>rfl
   | true=>
    rw[hpl]at hr;simp only[LF]at hr |-;have ht:e'.get t=e.get t:=hg t (by unfold eI;rw[hgd];simp only;rw[show (ops[j]?).bind (·.dst)=some t from hdj];simp);have hav:e'.av t=e.av t:=by simp only[Env.av,ht]
    rw[hav];cases hq:e.av t with
    | bool b=>
     rw[hq]at hr;simp only[jx]at hr |-;cases hb:(b== want)with
     |false=>rfl
     |true=>
      rw[hb]at hr;exact key (A':=gD) (fun _=>rfl) hr
    |tup vs=>cases vs<;>rfl
    |_=>rfl
omit [Dr]in
theorem EqE.agree{e e':Env}(h:EqE e e')(o:Oper):Agree cx o e e':=
 ⟨fun t _=>h.get t,fun _=>⟨fun t _=>h.get t,h.lb⟩,fun _=>h.al,fun _ s _ hl=>by rw[h.lf];exact hl⟩
omit [Dr]in
theorem vu{e e':Env}(h:EqE e e')(i:Nat)(x:Hp):RE (stepG cx base ops i e x) (stepG cx base ops i e' x):=by
 unfold stepG;simp only[ae,M.pure];cases hr:eU cx base ops i e x with
 |fail=>trivial
 | _=>
  have ho:∃o,ops[i]? = some o:=by
   cases ho:ops[i]? with
   |none=>unfold eU at hr;rw[ho]at hr;cases hr
   |some o=>exact⟨o,rfl⟩
  obtain⟨o,ho⟩:=ho;rw[fP ho (fun t _=>h.get t) (h.agree o) (by rw[hr];simp),hr]
  first
   |exact⟨_,rfl,h.upd _ _⟩
   |exact rfl
omit [Dr]in
theorem RE.bind{m m':M Env}{x x':Hp}(h:RE (m x) (m' x')){f f':Env->M Env}(hf:∀e e' x,EqE e e'->RE (f e x) (f' e' x)):RE (ae m f x) (ae m' f' x'):=by
 simp only[ae];revert h;generalize m x=r;generalize m' x'=r';intro h;cases r with
 |ok e x=>obtain⟨e',rfl,h⟩:=h;exact hf e e' x h
 |pan v x=>cases h;exact rfl
 |fail=>trivial
omit [Dr]in
theorem ml:∀(l:List Nat){e e':Env}(_:EqE e e')(x:Hp),RE (bb cx base ops l e x) (bb cx base ops l e' x)
 |[],e,e',h,x=>⟨e',rfl,h⟩
 |i:: l,e,e',h,x=>by
  exact RE.bind (vu h i x) fun e e' x h=>ml l h x
end
end Go.Av
namespace Go.Av
variable [Dr]
omit [Dr]in
theorem uK{l:List Nat}{t:Nat}(h:t∈l):fb l t=true:=(gq l t).2 h
omit [Dr]in
theorem mb{l:List Nat}{d:Option Nat}(h:bR l d=false):∀t∈l,d≠some t:=by
 intro t ht hd;rw[hd]at h;simp only[bR]at h;rw[uK ht]at h;cases h
omit [Dr]in
theorem m8{a b:Option Nat}(h:clash a b=false):∀t,a=some t->b≠some t:=by
 intro t ha hb;rw[ha,hb]at h;simp[clash]at h
section
variable {cx:Cx} {ops:Array Oper} {base:Nat} {e:Env}
omit [Dr]in
theorem s9{gid:Nat}{f:Foot}{ss:Option Nat}{u:Upd}(h:Shape e gid f ss u):Shape e gid f ss (ga u):=
 ⟨fun _=>rfl,fun _=>rfl,fun _=>rfl,fun _ x h=>by simp[ga]at h,fun _=>rfl,fun _=>rfl,fun hw C off hh=>h.loc hw C off hh,fun x h=>by simp[ga]at h⟩
omit [Dr]in
theorem xp{p q:Upd->Prop}(hpq:∀u,p u->q (ga u)){A:Act1}(h:cE p A):cE q (gD A):=by
 cases A with
 |bad=>trivial
 |stat u=>exact hpq _ h
 |dyn m sh=>exact fun v=>hpq _ (h v)
 |thr v=>trivial
omit [Dr]in
theorem Ci{p:∀ {α:Type},M α->Prop}{A:Act1}(h:bP p A):bP p (gD A):=by
 cases A<;>exact h
omit [Dr]in
theorem oF{i:Nat}{o:Oper}(ho:ops[i]? = some o){h h':Hp}{u:Upd}(hr:eU cx base ops i e h= .ok u h'):Shape e ((base+i)*1000) (aA cx o) (cz o) u:=by
 unfold eU at hr;rw[ho]at hr;simp only at hr;cases hgd:o.guard with
 |none=>rw[hgd]at hr;exact ku (kE _ _ _ _) hr
 | some g=>
  obtain⟨j,want⟩:=g;rw[hgd]at hr;simp only at hr;cases hdj:dy ops j with
  |none=>rw[hdj]at hr;cases hr
  | some t=>
   rw[hdj]at hr;simp only at hr;cases hpl:eM cx o with
   |false=>rw[hpl]at hr;cases hr
   | true=>
    rw[hpl]at hr;simp only[LF]at hr;have h0:∀ {h h':Hp},(M.pure (Upd.ofV (.tup [])):M Upd) h= .ok u h'->Shape e ((base+i)*1000) (aA cx o) (cz o) u:=by
     intro h h' hh;cases hh;exact Shape.ofV ..
    generalize e.av t=q at hr;cases q with
    |bool b=>
     simp only[jx]at hr;cases hb:(b== want)with
     |false=>rw[hb]at hr;exact h0 hr
     |true=>rw[hb]at hr;exact ku (xp (fun u=>s9) (kE _ _ _ _)) hr
    |tup vs=>
     cases vs with
     |nil=>exact h0 hr
     |cons v vs=>cases hr
    |_=>cases hr
omit [Dr]in
theorem xx{p:∀ {α:Type},M α->Prop}(h1:∀ {α:Type} (m:M α),bv m->p m)(h2:∀ {α β:Type} (m:M α) (f:α->β),p m->p (ae m fun v=>M.pure (f v))){A:Act1}(h:bP p A):p (dL A):=by
 cases A with
 |bad=>exact h1 _ bv.fail
 |stat u=>exact h1 _ (bv.pure u)
 |dyn m sh=>exact h2 _ _ h
 |thr v=>exact h.elim
omit [Dr]in
theorem i8{p:∀ {α:Type},M α->Prop}(h1:∀ {α:Type} (m:M α),bv m->p m)(h2:∀ {α β:Type} (m:M α) (f:α->β),p m->p (ae m fun v=>M.pure (f v))){i:Nat}{o:Oper}(ho:ops[i]? = some o)(h:bP p (fq cx e ((base+i)*1000) o)):p (eU cx base ops i e):=by
 unfold eU;rw[ho];simp only;cases hgd:o.guard with
 |none=>exact xx h1 h2 h
 | some g=>
  obtain⟨j,want⟩:=g;simp only;cases hdj:dy ops j with
  |none=>exact h1 _ bv.fail
  | some t=>
   simp only;cases hpl:eM cx o with
   |false=>exact h1 _ bv.fail
   | true=>
    simp only[LF];unfold jx;split
    ·rename_i b _;cases hb:(b== want)with
     |false=>exact h1 _ (bv.pure _)
     |true=>exact xx h1 h2 (Ci h)
    ·exact h1 _ (bv.pure _)
    ·exact h1 _ bv.fail
structure Small (ops:Array Oper):Prop where
 dst:∀(i:Nat)(o:Oper),ops[i]? = some o->∀t,o.dst=some t->t<1000
 src:∀(i:Nat)(o:Oper),ops[i]? = some o->∀t∈iD o,t<1000
omit [Dr]in
theorem Small.reads(hS:Small ops){i:Nat}{o:Oper}(ho:ops[i]? = some o):∀t∈c8 ops i,t<1000:=by
 intro t ht;rw[fY ho,L3]at ht;rcases ht with ht|ht
 ·unfold eI at ht;split at ht
  ·rename_i j _ _;cases hj:ops[j]? with
   |none=>rw[hj]at ht;simp at ht
   |some oj=>
    rw[hj]at ht;simp only[NP]at ht;cases hd:oj.dst with
    |none=>rw[hd]at ht;simp at ht
    |some s=>rw[hd]at ht;simp at ht;rw[ht];exact hS.dst j oj hj s hd
  ·simp at ht
 ·exact hS.src i o ho t ht
omit [Dr]in
theorem mS{gid:Nat}{x:Foot}{ss:Option Nat}{u:Upd}{d:Option Tmp}(hsh:Shape e gid x ss u){t:Nat}(h1:d≠some t)(h2:ss≠some t)(h3:t<1000):(e.upd d u).get t=e.get t:=by
 rw[cH,if_neg h1];refine pJ _ fun y hy hyt=>?_;rcases hsh.keys y hy with h|h
 ·omega
 ·exact h2 (by rw[h,hyt])
omit [Dr]in
theorem Ba{gid:Nat}{x:Foot}{ss:Option Nat}{u:Upd}{d:Option Tmp}(hsh:Shape e gid x ss u)(hw:x.wl=false){t:Nat}(h1:d≠some t):(e.upd d u).get t=e.get t:=by
 rw[cH,if_neg h1,hsh.ls hw];rfl
omit [Dr]in
theorem qN{gid:Nat}{x:Foot}{ss:Option Nat}{u:Upd}{d:Option Tmp}{o:Oper}(hsh:Shape e gid x ss u)(hd:∀t,d=some t->t<1000)(hops:∀t∈iD o,d≠some t/\ss≠some t/\t<1000)(hloc:((aA cx o).rl||(aA cx o).wl)=true->x.wl=false)(hal:(aA cx o).dr=true->x.ad=false/\x.dr=false):Agree cx o e (e.upd d u):=by
 refine⟨fun t ht=>mS hsh (hops t ht).1 (hops t ht).2.1 (hops t ht).2.2,fun h=>⟨fun t ht=>Ba hsh (hloc h) (fun hh=>Nat.not_lt.2 ht (hd t hh)),fun B=>?_⟩,fun h g=>?_,fun h s _ hl=>?_⟩
 ·show bC (lc (dS e.lb u.unlb) u.lb) B=bC e.lb B;rw[hsh.lb (hloc h),hsh.unlb (hloc h)];rfl
 ·show aP (u.add++ef e.al u.drop) g=aP e.al g;rw[hsh.noad (hal h).1,hsh.nodr (hal h).2];rfl
 ·have hw:=hloc (by rw[h];simp);show bd (qu d u.ent (u.ls++e.sl)) (bw s)=true;rw[hsh.ls hw,eD,Mn,hl,OC];have:lL u.ent (bw s)=true:=by
   unfold lL;split
   ·rename_i C off hv;obtain⟨t,off',ht⟩:=hsh.loc hw C off hv
    have:=l6 hl ht
    rw[MA,MY];intro hh;exact this (LN hh)
   ·rfl
  rw[this,Bool.or_true]
omit [Dr]in
theorem yC{gid:Nat}{x:Foot}{ss:Option Nat}{u:Upd}{d:Option Tmp}{o:Oper}(hsh:Shape e gid x ss u)(hd:∀t,d=some t->t<1000)(hops:∀t∈iD o,d≠some t/\ss≠some t/\t<1000)(hloc:((aA cx o).rl||(aA cx o).wl)=true->x.wl=false)(hal:(aA cx o).dr=true->x.ad=false/\x.dr=false):Agree cx o (e.upd d u) e:=by
 have A:=qN (cx:=cx) hsh hd hops hloc hal;refine⟨fun t ht=>(A.ops t ht).symm,fun h=>⟨fun t ht=>((A.loc h).1 t ht).symm,fun B=>((A.loc h).2 B).symm⟩,fun h g=>(A.al h g).symm,fun _ s _ hl=>?_⟩;have hl':bd (qu d u.ent (u.ls++e.sl)) (bw s)=true:=hl;rw[eD,gp]at hl';simp only[LD]at hl';exact hl'.2.2
omit [Dr]in
theorem vE{gi gj:Nat}{x y:Foot}{si sj:Option Nat}{u v:Upd}{d f:Option Tmp}(hu:Shape e gi x si u)(hv:Shape e gj y sj v)(hy:y.wl=false)(hf:∀t,f=some t->t<1000)(hdf:∀t,d=some t->f≠some t)(hsf:∀t,si=some t->f≠some t)(hg:gi≠gj)(h1:x.dr=true->y.dr=false/\y.ad=false)(h2:x.ad=true->y.dr=false)(h3:x.ad=true->y.ad=true->x.wl=false):EqE ((e.upd d u).upd f v) ((e.upd f v).upd d u):=by
 have e1:=hv.ls hy;have e2:=hv.lb hy;have e3:=hv.unlb hy;refine⟨fun t=>?_,fun g=>?_,fun B=>?_,fun B=>?_⟩
 ·rw[cH,cH,e1];show (if d=some t then u.ent else bY (u.ls++qu f v.ent (v.ls++e.sl)) t)=if f=some t then v.ent else bY (qu d u.ent (u.ls++e.sl)) t;rw[e1,iQ,Mn];by_cases hft:f=some t
  ·rw[LC hft,if_neg (fun h=>hdf t h hft),pJ,iQ,LC hft];intro z hz hzt;rcases hu.keys z hz with h|h
   ·exact Nat.not_lt.2 h (by rw[hzt];exact hf t hft)
   ·exact hsf z.1 h (by rw[hzt];exact hft)
  ·rw[if_neg hft];split
   ·rfl
   ·exact nQ (by rw[iQ,if_neg hft])
 ·show aP (u.add++ef (v.add++ef e.al v.drop) u.drop) g=aP (v.add++ef (u.add++ef e.al u.drop) v.drop) g;cases hxd:x.dr with
  |true=>
   obtain⟨h4,h5⟩:=h1 hxd;rw[hv.noad h5,hv.nodr h4];rfl
  | false=>
   rw[hu.nodr hxd];cases hxa:x.ad with
   |false=>rw[hu.noad hxa];rfl
   | true=>
    rw[hv.nodr (h2 hxa)];cases hya:y.ad with
    |false=>rw[hv.noad hya];rfl
    |true=>
     have k1:=hu.add (h3 hxa hya);have k2:=hv.add hy;show aP (u.add++(v.add++e.al)) g=aP (v.add++(u.add++e.al)) g;rw[eu,eu,eu,eu];by_cases hgi:g=gi
     ·rw[nz k2 (by omega)]
     ·rw[nz k1 hgi]
 ·show bC (lc (dS (lc (dS e.lb v.unlb) v.lb) u.unlb) u.lb) B=bC (lc (dS (lc (dS e.lb u.unlb) u.lb) v.unlb) v.lb) B;rw[e2,e3];rfl
 ·show bd (qu d u.ent (u.ls++qu f v.ent (v.ls++e.sl))) B=bd (qu f v.ent (v.ls++qu d u.ent (u.ls++e.sl))) B;simp only[eD,gp]
  ac_rfl
end
end Go.Av
namespace Go.Av
variable [Dr]
section
variable {cx:Cx} {ops:Array Oper} {base:Nat}
structure Ind (cx:Cx) (ops:Array Oper) (i j:Nat) (a b:Oper):Prop where
 ha:ops[i]? = some a
 hb:ops[j]? = some b
 piv:(aA cx a).piv=false
 l1:(aA cx a).wl=true->(aA cx b).rl=false/\(aA cx b).wl=false
 l2:(aA cx a).rl=true->(aA cx b).wl=false
 h1:(aA cx a).wh=true->(aA cx b).rh=false/\(aA cx b).wh=false
 h2:(aA cx a).rh=true->(aA cx b).wh=false\/(aA cx b).nw=true
 g1:(aA cx a).dr=true->(aA cx b).dr=false/\(aA cx b).ad=false
 g2:(aA cx a).ad=true->(aA cx b).dr=false
 g3:(aA cx a).ad=true->(aA cx b).ad=true->(aA cx a).wl=false/\(aA cx b).wl=false
 r1:∀t∈c8 ops j,a.dst≠some t
 r2:∀t∈c8 ops i,b.dst≠some t
 s1:∀t∈c8 ops j,cz a≠some t
 s2:∀t∈c8 ops i,cz b≠some t
 c1:∀t,cz a=some t->b.dst≠some t
 c2:∀t,a.dst=some t->cz b≠some t
 c3:∀t,a.dst=some t->b.dst≠some t
omit [Dr]in
theorem zk{i j:Nat}(h:lW cx ops i j=true):∃a b,Ind cx ops i j a b:=by
 unfold lW at h;split at h
 ·rename_i a b ha hb;refine⟨a,b,?_⟩;simp only[LD,MA]at h;obtain⟨⟨⟨⟨⟨⟨⟨⟨⟨⟨⟨⟨⟨⟨k1,k2⟩,k3⟩,k4⟩,k5⟩,k6⟩,k7⟩,k8⟩,k9⟩,k10⟩,k11⟩,k12⟩,k13⟩,k14⟩,k15⟩:=h;refine⟨ha,hb,k1,fun q=>?_,fun q=>?_,fun q=>?_,fun q=>?_,fun q=>?_,fun q=>?_,fun q q'=>?_,mb k9,mb k10,mb k11,mb k12,m8 k13,m8 k14,m8 k15⟩
  ·rw[q]at k2;simpa using k2
  ·rw[q]at k3;simpa using k3
  ·rw[q]at k4;simpa using k4
  ·rw[q]at k5;simp only[MV]at k5;cases hb:(aA cx b).wh<;>simp_all
  ·rw[q]at k6;simpa using k6
  ·rw[q]at k7;simpa using k7
  ·rw[q,q']at k8;simpa using k8
 ·cases h
omit [Dr]in
theorem swap(hI:IsoPure cx)(hS:Small ops){i j:Nat}(hij:lW cx ops i j=true)(hne:i≠j)(e:Env)(h:Hp):
  RE (ae (stepG cx base ops i e) (stepG cx base ops j) h) (ae (stepG cx base ops j e) (stepG cx base ops i) h):=by
 obtain⟨a,b,I⟩:=zk hij;have hda:dy ops i=a.dst:=by simp[dy,I.ha]
 have hdb:dy ops j=b.dst:=by simp[dy,I.hb]
 unfold stepG;rw[hda,hdb];simp only[ae,M.pure];cases hri:eU cx base ops i e h with
 |fail=>trivial
 |pan v h'=>exact absurd hri (i8 (p:=@d4) (fun _ g=>g.read.stay) (fun _ f g=>g.bnd f) I.ha ((eJ hI e _ a).stay I.piv) h v h')
 | ok u h1=>
  simp only;have shu:=oF I.ha hri;have hra:=fY (ops:=ops) I.ha;have hrb:=fY (ops:=ops) I.hb;have hbo:∀t∈iD b,a.dst≠some t/\cz a≠some t/\t<1000:=fun t ht=>⟨I.r1 t (by rw[hrb];simp[ht]),I.s1 t (by rw[hrb];simp[ht]),hS.src j b I.hb t ht⟩;have hao:∀t∈iD a,b.dst≠some t/\cz b≠some t/\t<1000:=fun t ht=>⟨I.r2 t (by rw[hra];simp[ht]),I.s2 t (by rw[hra];simp[ht]),hS.src i a I.ha t ht⟩;have Abwd:Agree cx b (e.upd a.dst u) e:=yC shu (hS.dst i a I.ha) hbo (fun q=>by
   cases hw:(aA cx a).wl with
   |false=>rfl
   |true=>obtain⟨q1,q2⟩:=I.l1 hw;rw[q1,q2]at q;cases q) (fun q=>by
   constructor
   ·cases hw:(aA cx a).ad with
    |false=>rfl
    |true=>have:=I.g2 hw;rw[this]at q;cases q
   ·cases hw:(aA cx a).dr with
    |false=>rfl
    |true=>have:=(I.g1 hw).1;rw[this]at q;cases q)
  have hgb:∀t∈eI ops b,e.get t=(e.upd a.dst u).get t:=fun t ht=>by
   have htr:t∈c8 ops j:=by rw[hrb];simp[ht]
   exact (mS shu (I.r1 t htr) (I.s1 t htr) (hS.reads I.hb t htr)).symm
  -- the second, after the first
  cases hrj:eU cx base ops j (e.upd a.dst u) h1 with
  |fail=>trivial
  | pan v h2=>
   have hj:=fP (base:=base) I.hb hgb Abwd (h:=h1) (by rw[hrj];simp);rw[hrj]at hj
   -- j leaves: so it may write, and i did not touch the heap
   have hwb:(aA cx b).wh=true:=by
    cases hw:(aA cx b).wh with
    |true=>rfl
    |false=>exact absurd hj ((i8 (p:=@dF) (fun _ g=>g.read) (fun _ f g=>g.bnd f) I.hb ((eJ hI e _ b).read hw)).stay _ _ _)
   have hwa:(aA cx a).wh=false:=by
    cases hw:(aA cx a).wh with
    |false=>rfl
    |true=>have:=(I.h1 hw).2;rw[this]at hwb;cases hwb
   have hh:h1=h:=by
    have hR:dF (eU cx base ops i e):=i8 (p:=@dF) (fun _ g=>g.read) (fun _ f g=>g.bnd f) I.ha ((eJ hI e _ a).read hwa);rcases hR h with hx|⟨u',hx⟩<;>rw[hri]at hx<;>cases hx;rfl
   subst hh;rw[hj];exact rfl
  | ok v h2=>
   have hj:=fP (base:=base) I.hb hgb Abwd (h:=h1) (by rw[hrj];simp);rw[hrj]at hj;have shv:=oF I.hb hj;have Afwd:Agree cx a e (e.upd b.dst v):=qN shv (hS.dst j b I.hb) hao (fun q=>by
    cases hw:(aA cx b).wl with
    |false=>rfl
    | true=>
     exfalso;cases hrl:(aA cx a).rl with
     |true=>have:=I.l2 hrl;rw[this]at hw;cases hw
     |false=>
      rw[hrl]at q;have hwl:(aA cx a).wl=true:=by simpa using q
      have:=(I.l1 hwl).2
      rw[this]at hw;cases hw) (fun q=>⟨(I.g1 q).2,(I.g1 q).1⟩)
   have hga:∀t∈eI ops a,(e.upd b.dst v).get t=e.get t:=fun t ht=>by
    have htr:t∈c8 ops i:=by rw[hra];simp[ht]
    exact mS shv (I.r2 t htr) (I.s2 t htr) (hS.reads I.ha t htr)
   have hcomm:EqE ((e.upd a.dst u).upd b.dst v) ((e.upd b.dst v).upd a.dst u):=by
    have hgij:(base+i)*1000≠(base+j)*1000:=by omega
    cases hwb:(aA cx b).wl with
    |false=>
     exact vE shu shv hwb (hS.dst j b I.hb) I.c3 I.c1 hgij I.g1 I.g2 (fun q q'=>(I.g3 q q').1)
    | true=>
     have hwa:(aA cx a).wl=false:=by
      cases hw:(aA cx a).wl with
      |false=>rfl
      |true=>have:=(I.l1 hw).2;rw[this]at hwb;cases hwb
     refine (vE shv shu hwa (hS.dst i a I.ha) (fun t ht hh=>I.c3 t hh ht) (fun t ht hh=>I.c2 t hh ht) (OZ hgij) (fun q=>⟨?_,?_⟩) (fun q=>?_) (fun q q'=>?_)).symm
     ·cases hw:(aA cx a).dr with
      |false=>rfl
      |true=>have:=(I.g1 hw).1;rw[this]at q;cases q
     ·cases hw:(aA cx a).ad with
      |false=>rfl
      |true=>have:=I.g2 hw;rw[this]at q;cases q
     ·cases hw:(aA cx a).dr with
      |false=>rfl
      |true=>have:=(I.g1 hw).2;rw[this]at q;cases q
     ·have:=(I.g3 q' q).2;rw[this]at hwb;cases hwb
   cases hwa:(aA cx a).wh with
   | false=>
    have hR:dF (eU cx base ops i e):=i8 (p:=@dF) (fun _ g=>g.read) (fun _ f g=>g.bnd f) I.ha ((eJ hI e _ a).read hwa);have hh:h1=h:=by
     rcases hR h with hx|⟨u',hx⟩<;>rw[hri]at hx<;>cases hx;rfl
    subst hh;rw[hj];simp only;have hi2:eU cx base ops i e h2= .ok u h2:=by
     cases hra':(aA cx a).rh with
     |false=>
      obtain⟨q,hq⟩:bv (eU cx base ops i e):=i8 (p:=@bv) (fun _ g=>g) (fun _ f g=>g.bnd f) I.ha ((eJ hI e _ a).pure hwa hra');rw[hq]at hri |-;cases q with
      |none=>cases hri
      |some u'=>cases hri;rfl
     | true=>
      rcases I.h2 hra' with hwb|hnw
      case inr=>
       have hNw:xw (eU cx base ops j e):=i8 (p:=@xw) (fun _ g=>g.nw) (fun _ f g=>g.bnd f) I.hb ((eJ hI e _ b).nw hnw);have hAp:kI (eU cx base ops i e)/\dF (eU cx base ops i e):=i8 (p:=fun m=>kI m/\dF m) (fun _ g=>⟨g.app,g.read⟩) (fun _ f g=>kI.bnd g f) I.ha ((eJ hI e _ a).app hwa);obtain⟨t,rfl⟩:=hNw _ _ _ hj;exact hAp.1 _ t _ hri
      have hRb:dF (eU cx base ops j e):=i8 (p:=@dF) (fun _ g=>g.read) (fun _ f g=>g.bnd f) I.hb ((eJ hI e _ b).read hwb);rcases hRb h1 with hx|⟨u',hx⟩<;>rw[hj]at hx<;>cases hx;exact hri
    rw[fP I.ha hga Afwd (by rw[hi2];simp),hi2];exact⟨_,rfl,hcomm⟩
   | true=>
    obtain⟨hrb',hwb⟩:=I.h1 hwa;obtain⟨q,hq⟩:bv (eU cx base ops j e):=i8 (p:=@bv) (fun _ g=>g) (fun _ f g=>g.bnd f) I.hb ((eJ hI e _ b).pure hwb hrb');rw[hq]at hj |-;cases q with
    |none=>cases hj
    |some u'=>
     cases hj;simp only[af];rw[fP I.ha hga Afwd (by rw[hri];simp),hri];exact⟨_,rfl,hcomm⟩
omit [Dr]in
theorem FG(hI:IsoPure cx)(hS:Small ops){i:Nat}(q:List Nat):∀(p:List Nat),(∀x∈p,lW cx ops x i=true/\x≠i)->∀(e:Env)(h:Hp),RE (bb cx base ops (p++i:: q) e h) (bb cx base ops (i:: (p++q)) e h)
 |[],_,e,h=>RE.refl _
 | x:: p,hp,e,h=>by
  have ih:=fun e h=>FG hI hS q p (fun y hy=>hp y (by simp[hy])) e h;have h1:RE (bb cx base ops (x:: (p++i:: q)) e h) (bb cx base ops (x:: i:: (p++q)) e h):=by
   simp only[bb,ae]at ih |-;cases stepG cx base ops x e h with
   |ok e' h'=>exact ih e' h'
   |pan v h'=>exact rfl
   |fail=>trivial
  refine h1.trans ?_;have e1:bb cx base ops (x:: i:: (p++q)) e=ae (ae (stepG cx base ops x e) (stepG cx base ops i)) (bb cx base ops (p++q)):=by rw[ge];rfl
  have e2:bb cx base ops (i:: x:: (p++q)) e=ae (ae (stepG cx base ops i e) (stepG cx base ops x)) (bb cx base ops (p++q)):=by rw[ge];rfl
  show RE (bb cx base ops (x:: i:: (p++q)) e h) (bb cx base ops (i:: x:: (p++q)) e h);rw[e1,e2];exact RE.bind (swap hI hS (hp x (by simp)).1 (hp x (by simp)).2 e h) fun e e' x h=>ml _ h x
end
end Go.Av
namespace Go.Av
variable [Dr]
omit [Dr]in
theorem B7{a b:Option (Nat×Bool)}(h:yq a b=true):a=b:=by
 unfold yq at h;split at h
 ·rfl
 ·simp only[LD,MF]at h;rw[LN h.1,h.2]
 ·cases h
def gE(gs:List (Option (Nat×Bool)×List Nat)):List Nat:=gs.flatMap (·.2)
omit [Dr]in
theorem iB(ops:Array Oper):∀l:List Nat,gE (dz ops l)=l/\∀g∈dz ops l,∀i∈g.2,guardOf ops i=g.1
 |[]=>⟨rfl,by simp[dz]⟩
 | i :: is=>by
  obtain⟨h1,h2⟩:=iB ops is;simp only[dz];cases hg:dz ops is with
  |nil=>
   rw[hg]at h1;have:is=[]:=by simpa [gE]using h1.symm
   subst this;exact⟨rfl,by simp⟩
  | cons x r=>
   obtain⟨g,js⟩:=x;rw[hg]at h1 h2;simp only;cases hs:yq (guardOf ops i) g with
   | true=>
    refine⟨?_,fun y hy=>?_⟩
    ·simp only[LF,gE,M5,Mg]at h1 |-;rw[h1]
    ·simp only[LF,LU]at hy;rcases hy with rfl|hy
     ·intro k hk;simp only[LU]at hk;rcases hk with rfl|hk
      ·exact B7 hs
      ·exact h2 (g,js) (by simp) k hk
     ·exact h2 y (by simp[hy])
   | false=>
    refine⟨?_,fun y hy=>?_⟩
    ·simp only[LL,gE,M5,Mg,Mn]at h1 |-;rw[h1]
    ·simp only[LL,LU]at hy;rcases hy with rfl|rfl|hy
     ·intro k hk;simp only[L5]at hk;subst hk;rfl
     ·exact h2 (g,js) (by simp)
     ·exact h2 y (by simp[hy])
omit [Dr]in
theorem tU{ρ:Type}(e:Env)(d:Option Tmp)(A:Act1)(k:Env->M ρ):lM e d A k=ae (dL A) fun u=>k (e.upd d u):=by
 cases A with
 |bad=>rfl
 |stat u=>rfl
 |dyn m sh=>simp only[lM,dL,ge,ax]
 |thr v=>rfl
omit [Dr]in
theorem yL{α β:Type}{m:M α}{f g:α->M β}{h:Hp}(hfg:∀u h',m h= .ok u h'->f u h'=g u h'):ae m f h=ae m g h:=by
 simp only[ae];cases hm:m h with
 |ok u h'=>exact hfg u h' hm
 |pan v h'=>rfl
 |fail=>rfl
section
variable {cx:Cx} {ops:Array Oper} {base:Nat}
omit [Dr]in
theorem yB{i:Nat}{o:Oper}(ho:ops[i]? = some o)(hg:guardOf ops i=none)(e:Env):eU cx base ops i e=dL (fq cx e ((base+i)*1000) o):=by
 have:o.guard=none:=by simpa [guardOf,ho]using hg
 unfold eU;rw[ho];simp only;rw[this]
omit [Dr]in
theorem mG{i j t:Nat}{want:Bool}{o:Oper}(ho:ops[i]? = some o)(hg:guardOf ops i=some (j,want))(hj:dy ops j=some t)(hp:eM cx o=true)(e:Env):
  eU cx base ops i e=jx (e.av t) want (dL (gD (fq cx e ((base+i)*1000) o))):=by
 have:o.guard=some (j,want):=by simpa [guardOf,ho]using hg
 unfold eU;rw[ho];simp only;rw[this];simp only;rw[hj];simp only;rw[hp];rfl
omit [Dr]in
theorem vd{ρ:Type}:∀(is:List Nat)(e:Env)(k:Env->M ρ)(_:∀i∈is,guardOf ops i=none),iw cx base ops false is e k=ae (bb cx base ops is e) k
 |[],e,k,_=>rfl
 | i:: is,e,k,hg=>by
  simp only[iw,bb];unfold stepG;cases ho:ops[i]? with
  |none=>unfold eU;rw[ho];rfl
  |some o=>
   simp only;rw[tU,yB ho (hg i (by simp)),ge,ge];have hd:dy ops i=o.dst:=by simp[dy,ho]
   rw[hd];congr 1;funext u;simp only[ax];exact vd is _ k fun j hj=>hg j (by simp[hj])
structure Turned (ds:List Nat) (e e':Env):Prop where
 get:∀t,t ∉ ds->e'.get t=e.get t
 al:e'.al=e.al
 lb:e'.lb=e.lb
 lf:∀B,bd e.sl B=true->bd e'.sl B=true
 ng:∀t∈ds,(e'.get t).g=none
omit [Dr]in
theorem Turned.step{ds:List Nat}{e e':Env}(H:Turned ds e e'){u:Upd}{d:Option Nat}(hls:u.ls=[])(hadd:u.add=[])(hdrop:u.drop=none)(hlb:u.lb=none)(hunlb:u.unlb=none)(hg:u.ent.g=none)(hloc:∀C off,u.ent.v= .loc C off->∃t off',(e'.get t).v= .loc C off'):Turned (d.toList++ds) e (e'.upd d u):=by
 have hget:∀t,(e'.upd d u).get t=if d=some t then u.ent else e'.get t:=fun t=>by rw[cH,hls];rfl
 refine⟨fun t ht=>?_,?_,?_,fun B hB=>?_,fun t ht=>?_⟩
 ·simp only[L3,not_or,NG]at ht;rw[hget,if_neg ht.1];exact H.get t ht.2
 ·show u.add++ef e'.al u.drop=e.al;rw[hadd,hdrop];exact H.al
 ·show lc (dS e'.lb u.unlb) u.lb=e.lb;rw[hlb,hunlb];exact H.lb
 ·have h1:=H.lf B hB;show bd (qu d u.ent (u.ls++e'.sl)) B=true;rw[hls,eD,Mn,h1,OC];have:lL u.ent B=true:=by
   unfold lL;split
   ·rename_i C off hv;obtain⟨t,off',ht⟩:=hloc C off hv
    have:=l6 h1 ht
    rw[MA,MY];intro hh;exact this (LN hh)
   ·rfl
  rw[this,Bool.or_true]
 ·rw[hget];split
  ·exact hg
  ·rename_i hd;simp only[L3,NG]at ht;rcases ht with ht|ht
   ·exact absurd ht hd
   ·exact H.ng t ht
omit [Dr]in
theorem Turned.refl(e:Env):Turned [] e e:=⟨fun _ _=>rfl,rfl,rfl,fun _ h=>h,fun t h=>by simp at h⟩
omit [Dr]in
theorem Turned.sub{ds ds':List Nat}{e e':Env}(H:Turned ds e e')(h:∀t,t∈ds↔t∈ds'):Turned ds' e e':=
 ⟨fun t ht=>H.get t fun hh=>ht ((h t).1 hh),H.al,H.lb,H.lf,fun t ht=>H.ng t ((h t).2 ht)⟩
structure GroupOk (cx:Cx) (ops:Array Oper) (j:Nat) (want:Bool) (t:Nat) (is:List Nat):Prop where
 hj:dy ops j=some t
 each:∀i∈is,∃o,ops[i]? = some o/\guardOf ops i=some (j,want)/\eM cx o=true
 nt:t ∉ cO ops is
omit [Dr]in
theorem ir(i:Nat)(is:List Nat):∀t,t∈cO ops (i:: is)↔dy ops i=some t\/t∈cO ops is:=by
 intro t;unfold cO;simp only[N3,LU,exists_eq_or_imp]
omit [Dr]in
theorem GroupOk.tail{j:Nat}{want:Bool}{t i:Nat}{is:List Nat}(G:GroupOk cx ops j want t (i:: is)):GroupOk cx ops j want t is:=
 ⟨G.hj,fun k hk=>G.each k (by simp[hk]),fun h=>G.nt ((ir i is t).2 (.inr h))⟩
omit [Dr]in
theorem GroupOk.ne{j:Nat}{want:Bool}{t i:Nat}{is:List Nat}(G:GroupOk cx ops j want t (i:: is)):dy ops i≠some t:=fun h=>G.nt ((ir i is t).2 (.inl h))
omit [Dr]in
theorem jv{A:Act1}{h h':Hp}{u:Upd}(hr:dL (gD A) h= .ok u h'):∃u0,dL A h= .ok u0 h'/\u=ga u0:=by
 rw[ny]at hr;cases hx:dL A h<;>rw[hx]at hr<;>simp at hr;exact⟨_,by rw[hr.2],hr.1.symm⟩
omit [Dr]in
theorem rK{ρ:Type}{j:Nat}{want:Bool}{t:Nat}:∀(is:List Nat)(e:Env)(k:Env->M ρ)(h:Hp),GroupOk cx ops j want t is->e.av t= .bool want->iw cx base ops true is e k h=ae (bb cx base ops is e) k h
 |[],e,k,h,_,_=>rfl
 |i:: is,e,k,h,G,hc=>by
  obtain⟨o,ho,hg,hp⟩:=G.each i (by simp);have hd:dy ops i=o.dst:=by simp[dy,ho]
  simp only[iw,bb,ho,LF];rw[tU];unfold stepG;rw[mG ho hg G.hj hp,hc,ge,ge];simp only[jx,Nc,LF,ax,hd];refine yL fun u h' hu=>?_;obtain⟨u0,hu0,rfl⟩:=jv hu;refine rK is _ k h' G.tail ?_;have:(e.upd o.dst (ga u0)).get t=e.get t:=by rw[cH,if_neg (by rw[<- hd];exact G.ne)];rfl
  simp only[Env.av,this];exact hc
omit [Dr]in
theorem mz{j:Nat}{want:Bool}{t:Nat}:∀(is:List Nat)(e e':Env)(h h':Hp),GroupOk cx ops j want t is->e.av t= .bool want->bb cx base ops is e h= .ok e' h'->Turned (cO ops is) e e':=by
 have key:∀(is:List Nat)(e0 e e':Env)(ds:List Nat)(h h':Hp),GroupOk cx ops j want t is->e.av t= .bool want->Turned ds e0 e->bb cx base ops is e h= .ok e' h'->Turned (cO ops is++ds) e0 e':=by
  intro is
  induction is with
  |nil=>
   intro e0 e e' ds h h' _ _ H hr;cases hr;exact H
  | cons i is ih=>
   intro e0 e e' ds h h' G hc H hr;obtain⟨o,ho,hg,hp⟩:=G.each i (by simp);have hd:dy ops i=o.dst:=by simp[dy,ho]
   simp only[bb]at hr;unfold stepG at hr;rw[mG ho hg G.hj hp,hc,ge]at hr;simp only[jx,Nc,LF,hd,ae]at hr;cases hx:dL (gD (fq cx e ((base+i)*1000) o)) h with
   |fail=>rw[hx]at hr;cases hr
   |pan v hh=>rw[hx]at hr;cases hr
   | ok u hh=>
    rw[hx]at hr;simp only at hr;obtain⟨u0,hu0,rfl⟩:=jv hx;have hsh:=ku (kE cx e ((base+i)*1000) o) hu0;simp only[eM,LD,MA]at hp;have H2:=H.step (u:=ga u0) (d:=o.dst) rfl rfl rfl rfl rfl rfl (hsh.loc hp.1);refine (ih e0 _ e' _ hh h' G.tail ?_ H2 hr).sub fun s=>?_
    ·have:(e.upd o.dst (ga u0)).get t=e.get t:=by rw[cH,if_neg (by rw[<- hd];exact G.ne)];rfl
     simp only[Env.av,this];exact hc
    ·simp only[L3,ir,NG,hd];constructor
     ·rintro (h|h|h)
      ·exact .inl (.inr h)
      ·exact .inl (.inl h)
      ·exact .inr h
     ·rintro ((h|h)|h)
      ·exact .inr (.inl h)
      ·exact .inl h
      ·exact .inr (.inr h)
 intro is e e' h h' G hc hr;exact (key is e e e' [] h h' G hc (.refl e) hr).sub (by simp)
def Off(c:AV)(want:Bool):Prop:=c= .tup []\/∃b,c= .bool b/\(b== want)=false
omit [Dr]in
theorem Off.look{c:AV}{want:Bool}(h:Off c want)(m:M Upd):jx c want m=M.pure (.ofV (.tup [])):=by
 rcases h with rfl|⟨b,rfl,hb⟩
 ·rfl
 ·simp only[jx,hb,LL]
omit [Dr]in
theorem DU{j:Nat}{want:Bool}{t:Nat}:∀(is:List Nat)(e:Env)(h:Hp),GroupOk cx ops j want t is->Off (e.av t) want->∃e',bb cx base ops is e h= .ok e' h/\Turned (cO ops is) e e'/\∀s∈cO ops is,e'.get s=⟨.val (.tup []),none⟩:=by
 have key:∀(is:List Nat)(e0 e:Env)(ds:List Nat)(h:Hp),GroupOk cx ops j want t is->Off (e.av t) want->Turned ds e0 e->(∀s∈ds,e.get s=⟨.val (.tup []),none⟩)->
   ∃e',bb cx base ops is e h= .ok e' h/\Turned (cO ops is++ds) e0 e'/\∀s∈cO ops is++ds,e'.get s=⟨.val (.tup []),none⟩:=by
  intro is
  induction is with
  |nil=>exact fun e0 e ds h _ _ H hds=>⟨e,rfl,H,hds⟩
  | cons i is ih=>
   intro e0 e ds h G hc H hds;obtain⟨o,ho,hg,hp⟩:=G.each i (by simp);have hd:dy ops i=o.dst:=by simp[dy,ho]
   have hget:∀s,(e.upd o.dst (.ofV (.tup []))).get s=if o.dst=some s then⟨.val (.tup []),none⟩else e.get s:=fun s=>by rw[cH];rfl
   have H2:=H.step (u:=.ofV (.tup [])) (d:=o.dst) rfl rfl rfl rfl rfl rfl (fun C off hh=>by cases hh);have hav:(e.upd o.dst (.ofV (.tup []))).av t=e.av t:=by
    have:(e.upd o.dst (.ofV (.tup []))).get t=e.get t:=by rw[hget,if_neg (by rw[<- hd];exact G.ne)]
    simp only[Env.av,this]
   obtain⟨e',h1,h2,h3⟩:=ih e0 (e.upd o.dst (.ofV (.tup []))) (o.dst.toList++ds) h G.tail (by rw[hav];exact hc) H2 (fun s hs=>by
    rw[hget];split
    ·rfl
    ·rename_i hn;simp only[L3,NG]at hs;rcases hs with hs|hs
     ·exact absurd hs hn
     ·exact hds s hs)
   have hiff:∀s,s∈cO ops is++(o.dst.toList++ds)↔s∈cO ops (i:: is)++ds:=fun s=>by
    simp only[L3,ir,NG,hd];constructor
    ·rintro (h|h|h)
     ·exact .inl (.inr h)
     ·exact .inl (.inl h)
     ·exact .inr h
    ·rintro ((h|h)|h)
     ·exact .inr (.inl h)
     ·exact .inl h
     ·exact .inr (.inr h)
   refine⟨e',?_,h2.sub hiff,fun s hs=>h3 s ((hiff s).2 hs)⟩;simp only[bb];unfold stepG;rw[mG ho hg G.hj hp,hc.look,hd];exact h1
 intro is e h G hc;obtain⟨e',h1,h2,h3⟩:=key is e e [] h G hc (.refl e) (by simp);exact⟨e',h1,h2.sub (by simp),fun s hs=>h3 s (by simp[hs])⟩
end
end Go.Av
namespace Go.Av
variable [Dr]
section
variable {cx:Cx} {ops:Array Oper} {base:Nat}
structure Rel (ops:Array Oper) (L:List Nat) (e2 e:Env):Prop where
 get:∀t,e2.get t=e.get t\/(e2.get t=Ent.none/\t<1000/\∀i∈L,t ∉ c8 ops i)
 al:∀g,aP e2.al g=aP e.al g
 lb:∀B,bC e2.lb B=bC e.lb B
 lf:∀B,bd e2.sl B=true->bd e.sl B=true
omit [Dr]in
theorem Rel.refl(ops:Array Oper)(L:List Nat)(e:Env):Rel ops L e e:=⟨fun _=>.inl rfl,fun _=>rfl,fun _=>rfl,fun _ h=>h⟩
omit [Dr]in
theorem Rel.sub{L L':List Nat}{e2 e:Env}(H:Rel ops L e2 e)(h:∀i∈L',i∈L):Rel ops L' e2 e:=
 ⟨fun t=>(H.get t).imp id fun⟨h1,h2,h3⟩=>⟨h1,h2,fun i hi=>h3 i (h i hi)⟩,H.al,H.lb,H.lf⟩
omit [Dr]in
theorem Rel.read{L:List Nat}{e2 e:Env}(H:Rel ops L e2 e){i t:Nat}(hi:i∈L)(ht:t∈c8 ops i):e.get t=e2.get t:=by
 rcases H.get t with h|⟨_,_,h⟩
 ·exact h.symm
 ·exact absurd ht (h i hi)
omit [Dr]in
theorem Rel.agree{L:List Nat}{e2 e:Env}(H:Rel ops L e2 e){i:Nat}{o:Oper}(hi:i∈L)(ho:ops[i]? = some o):Agree cx o e2 e:=by
 refine⟨fun t ht=>H.read hi (by rw[fY ho];simp[ht]),fun _=>⟨fun t ht=>?_,fun B=>(H.lb B).symm⟩,fun _ g=>(H.al g).symm,fun _ s _ hl=>H.lf _ hl⟩;rcases H.get t with h|⟨_,h,_⟩
 ·exact h.symm
 ·omega
omit [Dr]in
theorem Rel.upd{L:List Nat}{e2 e:Env}(H:Rel ops L e2 e)(d:Option Tmp)(u:Upd):Rel ops L (e2.upd d u) (e.upd d u):=by
 refine⟨fun t=>?_,fun g=>?_,fun B=>?_,fun B hB=>?_⟩
 ·rw[cH,cH];split
  ·exact .inl rfl
  ·rw[iP,iP];split
   ·exact .inl rfl
   ·exact H.get t
 ·show aP (u.add++ef e2.al u.drop) g=aP (u.add++ef e.al u.drop) g;have:aP (ef e2.al u.drop) g=aP (ef e.al u.drop) g:=by
   cases u.drop with
   |none=>exact H.al g
   |some k=>simp only[ef,jL,H.al g]
  rw[eu,eu,this]
 ·show bC (lc (dS e2.lb u.unlb) u.lb) B=bC (lc (dS e.lb u.unlb) u.lb) B;have:bC (dS e2.lb u.unlb) B=bC (dS e.lb u.unlb) B:=by
   cases u.unlb with
   |none=>exact H.lb B
   |some k=>simp only[dS,l5,H.lb B]
  cases u.lb with
  |none=>exact this
  |some x=>
   obtain⟨k,n⟩:=x;simp only[lc,dN,this]
 ·have hB':bd (qu d u.ent (u.ls++e2.sl)) B=true:=hB;show bd (qu d u.ent (u.ls++e.sl)) B=true;rw[eD,gp]at hB' |-;simp only[LD]at hB' |-;exact⟨hB'.1,hB'.2.1,H.lf B hB'.2.2⟩
omit [Dr]in
theorem Rel.run:∀(is:List Nat){L:List Nat}{e2 e:Env}(_:Rel ops L e2 e)(_:∀i∈is,i∈L)(h:Hp),bb cx base ops is e2 h≠.fail->
  (∃e2' e' h',bb cx base ops is e2 h= .ok e2' h'/\bb cx base ops is e h= .ok e' h'/\Rel ops L e2' e')\/∃v h',bb cx base ops is e2 h= .pan v h'/\bb cx base ops is e h= .pan v h'
 |[],L,e2,e,H,_,h,_=>.inl ⟨e2,e,h,rfl,rfl,H⟩
 | i:: is,L,e2,e,H,hL,h,hr=>by
  simp only[bb]at hr |-;unfold stepG at hr |-;simp only[ae,M.pure]at hr |-;cases hx:eU cx base ops i e2 h with
  |fail=>rw[hx]at hr;exact absurd rfl hr
  | _ =>
   have ho:∃o,ops[i]? = some o:=by
    cases ho:ops[i]? with
    |none=>unfold eU at hx;rw[ho]at hx;cases hx
    |some o=>exact⟨o,rfl⟩
   obtain⟨o,ho⟩:=ho;have hi:=hL i (by simp);have hy:eU cx base ops i e h=eU cx base ops i e2 h:=fP ho (fun t ht=>H.read hi (by rw[fY ho];simp[ht])) (H.agree hi ho) (by rw[hx];simp);rw[hy,hx]
   first
    | rw[hx]at hr
      exact Rel.run is (H.upd _ _) (fun k hk=>hL k (by simp[hk])) _ hr
    |exact .inr ⟨_,_,rfl,rfl⟩
omit [Dr]in
theorem pe(e:Env):∀(ds:List Nat)(t:Nat),(forget e ds).get t=if t∈ds then Ent.none else e.get t
 |[],t=>by simp[forget]
 | d:: ds,t=>by
  show bY ((d,Ent.none):: (forget e ds).sl) t=_;rw[cr];by_cases hd:d=t
  ·subst hd;simp
  ·rw[if_neg hd]
   have:=pe e ds t
   simp only[Env.get]at this;rw[this];have hd':¬t=d:=fun h=>hd h.symm;simp[hd',Env.get]
omit [Dr]in
theorem nJ(e:Env):∀(ds:List Nat),(forget e ds).al=e.al/\(forget e ds).lb=e.lb/\∀B,bd (forget e ds).sl B=bd e.sl B
 |[]=>⟨rfl,rfl,fun _=>rfl⟩
 |_d:: ds=>nJ e ds
omit [Dr]in
theorem nY(e:Env)(f:Nat->AV):∀(outs:List Nat)(pre:List AV)(t:Nat),(fH e (pre++outs.map f) pre.length outs).get t=if t∈outs then⟨.val (f t),none⟩else e.get t
 |[],pre,t=>by simp[fH]
 | d:: ds,pre,t=>by
  show bY ((d,⟨.val (nth (pre++(d:: ds).map f) pre.length),none⟩):: (fH e (pre++(d:: ds).map f) (pre.length+1) ds).sl) t=_;rw[cr];have hn:nth (pre++(d:: ds).map f) pre.length=f d:=by simp[nth]
  by_cases hd:d=t
  ·subst hd;rw[hn];simp
  ·rw[if_neg hd]
   have:=nY e f ds (pre++[f d]) t
   simp only[Mz,L4,LQ,Mb,List.singleton_append]at this;simp only[Env.get,Mi]at this |-;rw[this];have hd':¬t=d:=fun h=>hd h.symm;simp[hd']
omit [Dr]in
theorem mn(e:Env)(vs:List AV):∀(outs:List Nat)(i:Nat),(fH e vs i outs).al=e.al/\(fH e vs i outs).lb=e.lb/\∀B,bd (fH e vs i outs).sl B=bd e.sl B
 |[],_i=>⟨rfl,rfl,fun _=>rfl⟩
 |_d:: ds,i=>mn e vs ds (i+1)
omit [Dr]in
theorem xv(gs:List (Option (Nat×Bool)×List Nat))(t:Nat):xu ops gs t=true↔∃i∈gE gs,t∈c8 ops i:=by
 unfold xu gE;simp only[ON,Nh,gq];constructor
 ·rintro⟨g,hg,i,hi,ht⟩;exact⟨i,⟨g,hg,hi⟩,ht⟩
 ·rintro⟨i,⟨g,hg,hi⟩,ht⟩;exact⟨g,hg,i,hi,ht⟩
omit [Dr]in
theorem Rel.close{is:List Nat}{gs:List (Option (Nat×Bool)×List Nat)}{e2 e e':Env}(H:Rel ops (is++gE gs) e2 e)(hS:Small ops)(T:Turned (cO ops is) e e'){vs:List AV}{f:Nat->AV}(hvs:vs=(df ops is gs).map f)(hf:∀t∈df ops is gs,e'.get t=⟨.val (f t),none⟩\/(f t= .any/\t<1000/\∀i∈gE gs,t ∉ c8 ops i)):Rel ops (gE gs) (fH (forget e2 (cO ops is)) vs 0 (df ops is gs)) e':=by
 have hr:=mn (forget e2 (cO ops is)) vs (df ops is gs) 0;have hr2:=nJ e2 (cO ops is);refine⟨fun t=>?_,fun g=>?_,fun B=>?_,fun B hB=>?_⟩
 ·have hg:=nY (forget e2 (cO ops is)) f (df ops is gs) [] t;simp only[Mn,Mb]at hg;rw[hvs,hg];split
  ·rename_i ht;rcases hf t ht with h|⟨h1,h2,h3⟩
   ·exact .inl h.symm
   ·exact .inr ⟨by rw[h1];rfl,h2,h3⟩
  ·rename_i ht;rw[pe];split
   ·rename_i hd;refine .inr ⟨rfl,?_,fun i hi hti=>ht ?_⟩
    ·unfold cO at hd;simp only[N3]at hd;obtain⟨i,hi,hd⟩:=hd;unfold dy at hd;cases hoi:ops[i]? with
     |none=>rw[hoi]at hd;simp at hd
     |some o=>rw[hoi]at hd;exact hS.dst i o hoi t hd
    ·unfold df;rw[OY];exact⟨hd,(xv gs t).2 ⟨i,hi,hti⟩⟩
   ·rename_i hd;rw[T.get t hd];rcases H.get t with h|⟨h1,h2,h3⟩
    ·exact .inl h
    ·exact .inr ⟨h1,h2,fun i hi=>h3 i (by simp[hi])⟩
 ·rw[hr.1,hr2.1,T.al];exact H.al g
 ·rw[hr.2.1,hr2.2.1,T.lb];exact H.lb B
 ·rw[hr.2.2,hr2.2.2]at hB;exact T.lf B (H.lf B hB)
omit [Dr]in
theorem qc(l m:List Nat):∀e:Env,bb cx base ops (l++m) e=ae (bb cx base ops l e) (bb cx base ops m):=by
 induction l with
 |nil=>intro e;rfl
 |cons i l ih=>
  intro e;show ae (stepG cx base ops i e) (bb cx base ops (l++m))=ae (ae (stepG cx base ops i e) (bb cx base ops l)) (bb cx base ops m);rw[ge];congr 1;funext e';exact ih e'
omit [Dr]in
theorem Dk{x:Ent}(h1:lr x=true)(h2:x.g=none):x=⟨.val x.av,none⟩:=by
 obtain⟨v,g⟩:=x;cases v with
 |val a=>simp only at h2;subst h2;rfl
 |loc B off=>cases h1
omit [Dr]in
theorem iO{ρ:Type}(hS:Small ops):∀(gs:List (Option (Nat×Bool)×List Nat))(e2 e:Env)(k:Env->M ρ)(h:Hp),(∀g∈gs,∀i∈g.2,guardOf ops i=g.1)->Rel ops (gE gs) e2 e->dT cx base ops gs e2 k h≠.fail->
  (∃e2' e' h',dT cx base ops gs e2 k h=k e2' h'/\bb cx base ops (gE gs) e h= .ok e' h'/\Rel ops [] e2' e')\/∃v h',dT cx base ops gs e2 k h= .pan v h'/\bb cx base ops (gE gs) e h= .pan v h'
 |[],e2,e,k,h,_,H,_=>.inl ⟨e2,e,h,rfl,rfl,H⟩
 | (none,is):: gs,e2,e,k,h,hg,H,hr=>by
  have hg0:∀i∈is,guardOf ops i=none:=hg (none,is) (by simp);have hfl:gE ((none,is):: gs)=is++gE gs:=rfl;rw[hfl]at H |-;rw[qc];simp only[dT]at hr |-;rw[vd is e2 _ hg0]at hr |-;simp only[ae]at hr |-;have hr2:bb cx base ops is e2 h≠.fail:=fun hf=>by rw[hf]at hr;exact hr rfl
  rcases H.run (base:=base) (cx:=cx) is (fun i hi=>by simp[hi]) h hr2 with⟨e2',e',h',h1,h2,H'⟩|⟨v,h',h1,h2⟩
  ·rw[h1]at hr |-;rw[h2];exact iO hS gs e2' e' k h' (fun g hgg=>hg g (by simp[hgg])) (H'.sub fun i hi=>by simp[hi]) hr
  ·rw[h1,h2];exact .inr ⟨v,h',rfl,rfl⟩
 | (some (j,want),is):: gs,e2,e,k,h,hg,H,hr=>by
  have hg0:∀i∈is,guardOf ops i=some (j,want):=hg (some (j,want),is) (by simp);have hfl:gE ((some (j,want),is):: gs)=is++gE gs:=rfl;rw[hfl]at H |-;rw[qc];simp only[dT]at hr |-;cases hdj:dy ops j with
  |none=>rw[hdj]at hr;exact absurd rfl hr
  | some t=>
   rw[hdj]at hr;simp only at hr |-;revert hr;cases hc:((is.all fun i=>match ops[i]? with|some o=>eM cx o&&o.dst.isSome|none=>false)&&!(fb (cO ops is) t))with
   |false=>intro hr;exact absurd rfl hr
   | true=>
    intro hr;simp only[LF]at hr |-;simp only[LD,MA,LO]at hc;have G:GroupOk cx ops j want t is:=by
     refine⟨hdj,fun i hi=>?_,fun ht=>?_⟩
     ·have:=hc.1 i hi
      cases hoi:ops[i]? with
      |none=>rw[hoi]at this;cases this
      |some o=>
       rw[hoi]at this;simp only[LD]at this;exact⟨o,rfl,hg0 i hi,this.1⟩
     ·rw[(gq _ _).2 ht]at hc;exact Bool.noConfusion hc.2
    have htr:∀i∈is,t∈c8 ops i:=fun i hi=>by
     obtain⟨o,ho,hgi,_⟩:=G.each i hi;rw[fY ho];have:o.guard=some (j,want):=by simpa [guardOf,ho]using hgi
     have:t∈eI ops o:=by
      unfold eI;rw[this];simp only;rw[show (ops[j]?).bind (·.dst)=some t from hdj];simp
     simp[this]
    -- the guard says yes
    cases is with
    | nil=>
     have hrn:∀e,bb cx base ops [] e=M.pure e:=fun _=>rfl;rw[hrn,ax];have ho:df ops [] gs=[]:=rfl;have hd:cO ops []=[]:=rfl;rw[ho,hd]at hr |-;have hpure:∀ {q:AV} {m:M (List AV)},m h= .ok [] h->ay q want ([]:List Nat).length m h≠.fail->ay q want ([]:List Nat).length m h= .ok [] h:=by
      intro q m hm hne;cases q with
      |bool b=>
       simp only[ay];cases b== want with
       |true=>exact hm
       |false=>rfl
      |tup vs=>
       cases vs with
       |nil=>rfl
       |cons v vs=>exact absurd rfl hne
      |_=>exact absurd rfl hne
     simp only[ae]at hr |-;have hp:=hpure (q:=e2.av t) (m:=iw cx base ops true [] e2 fun e'=>bif ([]:List Nat).all (fun t=>lr (e'.get t))then M.pure (([]:List Nat).map e'.av)else M.fail) rfl (fun hf=>by rw[hf]at hr;exact hr rfl);rw[hp]at hr |-;exact iO hS gs e2 e k h (fun g hgg=>hg g (by simp[hgg])) (H.sub fun i hi=>by simp[hi]) hr
    |cons i0 is0=>
    have hav:e.av t=e2.av t:=by
     have:=H.read (i:=i0) (by simp) (htr i0 (by simp))
     simp only[Env.av,this]
    generalize hiseq:i0:: is0=is at *;have hoff:Off (e2.av t) want->(ay (e2.av t) want (df ops is gs).length (iw cx base ops true is e2 fun e'=>bif (df ops is gs).all (fun t=>lr (e'.get t))then M.pure ((df ops is gs).map e'.av)else M.fail))=M.pure (List.replicate (df ops is gs).length (.tup [])):=by
     rintro (hq|⟨b,hq,hb⟩)
     ·rw[hq];rfl
     ·rw[hq];simp only[ay,hb,LL]
    have hcase:Off (e2.av t) want\/e2.av t= .bool want:=by
     cases hq:e2.av t with
     |bool b=>
      cases hb:(b== want)with
      |true=>right;simp at hb;rw[hb]
      |false=>exact .inl (.inr ⟨b,rfl,hb⟩)
     |tup vs=>
      cases vs with
      |nil=>exact .inl (.inl rfl)
      |cons v vs=>rw[hq]at hr;exact absurd rfl hr
     |_=>rw[hq]at hr;exact absurd rfl hr
    rcases hcase with ho|hy
    ·rw[hoff ho,ax]at hr |-;obtain⟨e',h1,T,h2⟩:=DU (base:=base) is e h G (by rw[hav];exact ho);simp only[ae];rw[h1];refine iO hS gs _ e' k h (fun g hgg=>hg g (by simp[hgg])) (H.close hS T (f:=fun _=>.tup []) ?_ fun s hs=>.inl ?_) hr
     ·exact (List.map_const' ..).symm
     ·refine h2 s ?_;unfold df at hs;exact (OY.1 hs).1
    ·rw[hy]at hr |-;simp only[ay,Nc,LF,ae]at hr |-;rw[rK is e2 _ h G hy]at hr |-;simp only[ae]at hr |-;have hr2:bb cx base ops is e2 h≠.fail:=fun hf=>by rw[hf]at hr;exact hr rfl
     rcases H.run (base:=base) (cx:=cx) is (fun i hi=>by simp[hi]) h hr2 with⟨e2',e',h',h1,h2,H'⟩|⟨v,h',h1,h2⟩
     ·rw[h1]at hr |-;rw[h2];simp only at hr |-;have T2:=mz is e2 e2' h h' G hy h1;have T:=mz is e e' h h' G (by rw[hav];exact hy) h2;cases hv:(df ops is gs).all (fun t=>lr (e2'.get t))with
      |false=>rw[hv]at hr;exact absurd rfl hr
      |true=>
       rw[hv]at hr;simp only[LF,M.pure]at hr |-;refine iO hS gs _ e' k h' (fun g hgg=>hg g (by simp[hgg])) (H.close hS T (f:=e2'.av) rfl fun s hs=>?_) hr;have hsd:s∈cO ops is:=by unfold df at hs;exact (OY.1 hs).1
       have hval:=Dk (LO.1 hv s hs) (T2.ng s hsd);rcases H'.get s with h3|⟨h3,h4,h5⟩
       ·left;rw[<- h3];exact hval
       ·right;exact⟨by simp only[Env.av,h3];rfl,h4,fun i hi=>h5 i (by simp[hi])⟩
     ·rw[h1,h2];exact .inr ⟨v,h',rfl,rfl⟩
end
end Go.Av
namespace Go.Av
variable [Dr]
omit [Dr]in
theorem jj(acc:List Nat):∀(es:List Edge)(x:Nat),(iC acc es).testBit x=true↔∃e∈es,Region.binds .any e=true/\(e.on=x\/(acc.getD e.on 0).testBit x=true)
 |[],x=>by simp[iC]
 | e :: es,x=>by
  simp only[iC];cases hb:Region.binds .any e with
  | false=>
   simp only[LL,jj acc es x,LU];constructor
   ·rintro⟨e',he,h⟩;exact⟨e',.inr he,h⟩
   ·rintro⟨e',rfl|he,h⟩
    ·rw[hb]at h;exact absurd h.1 (by simp)
    ·exact⟨e',he,h⟩
  | true=>
   simp only[LF,Nat.testBit_or,ML,jj acc es x,LU,Nat.testBit_two_pow,LB];constructor
   ·rintro ((⟨e',he,h⟩|h)|h)
    ·exact⟨e',.inr he,h⟩
    ·exact⟨e,.inl rfl,hb,.inl h⟩
    ·exact⟨e,.inl rfl,hb,.inr h⟩
   ·rintro⟨e',rfl|he,h1,h2⟩
    ·rcases h2 with h2|h2
     ·exact .inl (.inr h2)
     ·exact .inr h2
    ·exact .inl (.inl ⟨e',he,h1,h2⟩)
omit [Dr]in
theorem qS:∀(os:List Oper)(acc:List Nat),∃r:List Nat,vX os acc=acc++r/\r.length=os.length/\∀(k:Nat)(o:Oper),os[k]? = some o->r[k]? = some (iC (acc++r.take k) o.after.toList)
 |[],acc=>⟨[],by simp[vX],rfl,by simp⟩
 | o:: os,acc=>by
  obtain⟨r,h1,h2,h3⟩:=qS os (acc++[iC acc o.after.toList]);refine⟨iC acc o.after.toList:: r,by simp[vX,h1],by simp[h2],fun k o' ho=>?_⟩;cases k with
  |zero=>simp at ho;subst ho;simp
  |succ k=>
   simp only[Mo,Mt]at ho |-;rw[h3 k o' ho];simp
section
variable {ops:Array Oper}
def jO(ops:Array Oper):List Nat:=vX ops.toList []
omit [Dr]in
theorem Al{j:Nat}{o:Oper}(ho:ops[j]? = some o):(jO ops).length=ops.size/\(jO ops).getD j 0=iC ((jO ops).take j) o.after.toList:=by
 obtain⟨r,h1,h2,h3⟩:=qS ops.toList [];have h4:jO ops=r:=by unfold jO;rw[h1];simp
 rw[h4];refine⟨by simp[h2],?_⟩
 have:=h3 j o (by simpa using ho)
 rw[Mm,this];simp
omit [Dr]in
theorem yK{listed:Nat->Prop}(hcl:∀(j:Nat)(o:Oper),ops[j]? = some o->listed j->∀e∈o.after.toList,Region.binds .any e=true->listed e.on):
  ∀(j:Nat)(o:Oper),ops[j]? = some o->(∀e∈o.after.toList,Region.binds .any e=true->listed e.on)->∀x,((jO ops).getD j 0).testBit x=true->listed x:=by
 intro j
 induction j using Nat.strongRecOn with
 | _ j ih=>
  intro o ho hl x hx;obtain⟨hlen,hget⟩:=Al ho;rw[hget,jj]at hx;obtain⟨e,he,hb,hx|hx⟩:=hx
  ·rw[<- hx];exact hl e he hb
  ·by_cases hj:e.on<j
   ·have hjs:j<ops.size:=(Ml.1 ho).1;have hos:ops[e.on]? = some ops[e.on]:=MU (by omega);have h1:((jO ops).take j).getD e.on 0=(jO ops).getD e.on 0:=by
     rw[Mm,Mm,LW,LC hj]
    rw[h1]at hx;exact ih e.on hj _ hos (hcl e.on _ hos (hl e he hb)) x hx
   ·rw[Mm,LW,if_neg hj]at hx;simp at hx
def zQ(cx:Cx)(ops:Array Oper)(i j:Nat):Prop:=((jO ops).getD i 0).testBit j=false/\(((jO ops).getD j 0).testBit i=true\/lW cx ops i j=true)
omit [Dr]in
theorem nT{cx:Cx}:∀ {l:List Nat},jq cx ops (jO ops) l=true->l.Pairwise (zQ cx ops)/\∀i∈l,((jO ops).getD i 0).testBit i=false
 |[],_=>⟨.nil,by simp⟩
 |i:: l,h=>by
  simp only[jq,LD,MA,LO,ML]at h;obtain⟨⟨h1,h2⟩,h3⟩:=h;obtain⟨h4,h5⟩:=nT h3;refine⟨.cons (fun j hj=>h2 j hj) h4,fun k hk=>?_⟩;simp only[LU]at hk;rcases hk with rfl|hk
  ·exact h1
  ·exact h5 k hk
omit [Dr]in
theorem jQ:∀ {l:List Nat},distinct l=true->l.Nodup
 |[],_=>.nil
 |i:: l,h=>by
  simp only[distinct,LD,MA]at h;refine NZ.2 ⟨fun hi=>?_,jQ h.2⟩;rw[(gq _ _).2 hi]at h;exact Bool.noConfusion h.1
variable {P:Program} {cx:Cx} {c:Entry} {N base:Nat}
theorem tQ(hT:TOK P cx.T)(hC:cS P cx.own cx.call)(hI:IsoPure cx)(hO:OpsOk N cx ops)(hS:Small ops)(hbit:∀i x,((jO ops).getD i 0).testBit x=true->x<ops.size)(hself:∀i,i<ops.size->((jO ops).getD i 0).testBit i=false){Q:Exit->Act->World->Prop}:∀(n:Nat)(rest:List Nat)(listed:Array Bool)(D:List Nat)(e:Env)(h:Hp)(a:Act)(w:World),rest.length=n->listed.size=ops.size->rest.Nodup->
  (∀i,i∈rest↔i<ops.size/\listed.getD i true=false)->(∀i∈rest,i ∉ D)->(∀i∈D,i<ops.size)->
  (∀(j:Nat)(o:Oper),ops[j]? = some o->listed.getD j false=true->∀e∈o.after.toList,Region.binds .any e=true->listed.getD e.on false=true)->rest.Pairwise (zQ cx ops)->
  ej c N (UD base D) e h a w->bb cx base ops rest e h≠.fail->
  (∀e0 e' h' a' w',bb cx base ops rest e h= .ok e0 h'->EqE e0 e'->ej c N (UR base ops.size) e' h' a' w'->a'.defers=a.defers->Q .normal a' w')->
  (∀pv h' v w' a',bb cx base ops rest e h= .pan pv h'->kZ c pv h' v w'->a'.defers=a.defers->Q (.panic [{ v,recovered:=false }]) a' w')->wpAny P .any ops Q n listed a w
 |0,rest,listed,D,e,h,a,w,hlen,hsz,hnd,hmem,hdis,hD,hcl,hpw,H,hr,hn,hp=>by
  have:rest=[]:=Mk hlen;subst this;refine⟨?_,hn e e h a w rfl (.refl e) (H.wider (Ef hD)) rfl⟩;refine List.eq_nil_iff_forall_not_mem.2 fun i hi=>?_;obtain⟨h0,o,ho,_⟩:=mem_ready.1 hi
  have:=(hmem i).2 ⟨(Ml.1 ho).1,h0⟩
  simp at this
 | n + 1,rest,listed,D,e,h,a,w,hlen,hsz,hnd,hmem,hdis,hD,hcl,hpw,H,hr,hn,hp=>by
  have hgd:∀i,i<ops.size->listed.getD i true=listed.getD i false:=fun i hi=>by
   rw[Mh,Mh,MU (by omega)];rfl
  refine⟨fun hemp=>?_,fun i hi=>?_⟩
  ·exfalso;cases rest with
   |nil=>simp at hlen
   | cons r0 tl=>
    have hr0:=(hmem r0).1 (by simp);have hor:ops[r0]? = some ops[r0]:=MU hr0.1;have:r0∈Region.ready .any ops listed:=by
     refine mem_ready.2 ⟨hr0.2,_,hor,fun ed hed hb=>?_⟩;have hbt:((jO ops).getD r0 0).testBit ed.on=true:=by
      rw[(Al hor).2,jj];exact⟨ed,by simpa using hed,hb,.inl rfl⟩
     have hlt:=hbit r0 ed.on hbt;cases hl:listed.getD ed.on false with
     |true=>rfl
     | false=>
      have hin:=(hmem ed.on).2 ⟨hlt,by rw[hgd _ hlt];exact hl⟩;simp only[LU]at hin;rcases hin with hin|hin
      ·rw[hin]at hbt;rw[hself r0 hr0.1]at hbt;cases hbt
      ·have:=(List.pairwise_cons.1 hpw).1 ed.on hin
       rw[this.1]at hbt;cases hbt
    rw[hemp]at this;simp at this
  ·obtain⟨h0,o,ho,hall⟩:=mem_ready.1 hi;have hlt:i<ops.size:=(Ml.1 ho).1;have hin:=(hmem i).2 ⟨hlt,h0⟩;obtain⟨p,q,rfl⟩:=List.append_of_mem hin;have hnd':=hnd;rw[List.nodup_append]at hnd';have hni:i ∉ p++q:=by
    intro hm;rw[L3]at hm;rcases hm with hm|hm
    ·exact hnd'.2.2 i hm i (by simp) rfl
    ·exact (NZ.1 hnd'.2.1).1 hm
   have hclo:=yK (ops:=ops) (listed:=fun j=>listed.getD j false=true) (fun j o ho hj ed hed hb=>hcl j o ho hj ed hed hb) i o ho (fun ed hed hb=>hall ed (by simpa using hed) hb);have hfront:∀x∈p,lW cx ops x i=true/\x≠i:=by
    intro x hx;have hpr:=(List.pairwise_append.1 hpw).2.2 x hx i (by simp);refine⟨?_,fun hxi=>hni (by rw[<- hxi];simp[hx])⟩;rcases hpr.2 with h1|h1
    ·have hxl:=hclo x h1;have hxr:=(hmem x).1 (by simp[hx]);rw[hgd x hxr.1]at hxr;rw[hxr.2]at hxl;cases hxl
    ·exact h1
   have hRE:=FG (base:=base) hI hS q p hfront e h;have hr':bb cx base ops (i:: (p++q)) e h≠.fail:=by
    intro hf;rw[hf]at hRE;cases hx:bb cx base ops (p++i:: q) e h with
    |fail=>exact hr hx
    |ok e0 h0=>rw[hx]at hRE;obtain⟨_,h1,_⟩:=hRE;cases h1
    |pan v h0=>rw[hx]at hRE;cases hRE
   simp only[bb,ae]at hr';have hstep:∀ {r:R Env},bb cx base ops (i:: (p++q)) e h=r->bb cx base ops (i:: (p++q)) e h=r:=fun h=>h;simp only[bb,ae]at hRE;refine qk hT hC hO (hdis i hin) H (fun hf=>by rw[hf]at hr';exact hr' rfl) (fun e1 h1 a1 w1 hst hs hdf=>?_) (fun pv h1 v w1 hst hps=>?_)
   ·rw [hst]at hr' hRE;simp only at hr' hRE;refine tQ hT hC hI hO hS hbit hself n (p++q) (listed.setIfInBounds i true) (i:: D) e1 h1 a1 w1 ?_ (by simp[hsz]) ?_ (fun k=>?_) (fun k hk=>?_) (fun k hk=>?_) (fun k o' ho' hk ed hed hb=>?_) ?_ hs hr' (fun e0 e' h' a' w' hok heq hsat hdf'=>?_) (fun pv h' v w' a' hok hps hdf'=>?_)
    ·simp only[L4,LQ]at hlen |-;omega
    ·exact hnd.sublist (List.Sublist.append (List.Sublist.refl p) (List.sublist_cons_self i q))
    ·have hset:k≠i->(listed.setIfInBounds i true).getD k true=listed.getD k true:=fun hk=>by
      rw[Mh,Mh,Nz (OZ hk)]
     constructor
     ·intro hk;have hki:k≠i:=fun h=>hni (h▸hk);rw[hset hki];exact (hmem k).1 (by
       simp only[L3,LU]at hk |-;rcases hk with hk|hk
       ·exact .inl hk
       ·exact .inr (.inr hk))
     ·rintro⟨h1,h2⟩;have hki:k≠i:=by
       rintro rfl;rw[Mh,Array.getElem?_setIfInBounds_self]at h2;rw[LC (by omega)]at h2;simp at h2
      rw[hset hki]at h2
      have:=(hmem k).2 ⟨h1,h2⟩
      simp only[L3,LU]at this |-;rcases this with h|h|h
      ·exact .inl h
      ·exact absurd h hki
      ·exact .inr h
    ·simp only[LU,not_or];refine⟨fun hki=>hni (hki▸hk),hdis k ?_⟩;simp only[L3,LU]at hk |-;rcases hk with hk|hk
     ·exact .inl hk
     ·exact .inr (.inr hk)
    ·simp only[LU]at hk;rcases hk with rfl|hk
     ·exact hlt
     ·exact hD k hk
    ·have hmono:∀x,listed.getD x false=true->(listed.setIfInBounds i true).getD x false=true:=fun x hx=>getD_set_true hx;by_cases hki:k=i
     ·subst hki;rw[ho]at ho';cases ho';exact hmono _ (hall ed (by simpa using hed) hb)
     ·refine hmono _ (hcl k o' ho' ?_ ed hed hb);rw[Mh,Nz (OZ hki),<- Mh]at hk;exact hk
    ·exact hpw.sublist (List.Sublist.append (List.Sublist.refl p) (List.sublist_cons_self i q))
    ·rw[hok]at hRE;cases hx:bb cx base ops (p++i:: q) e h with
     |fail=>exact absurd hx hr
     |ok ex hx'=>
      rw[hx]at hRE;obtain⟨e0',h2,h3⟩:=hRE;cases h2;exact hn ex e' _ a' w' hx (h3.trans heq) hsat (hdf'.trans hdf)
     |pan v h0=>rw[hx]at hRE;cases hRE
    ·rw[hok]at hRE;cases hx:bb cx base ops (p++i:: q) e h with
     |fail=>exact absurd hx hr
     |ok ex hx'=>rw[hx]at hRE;obtain⟨_,h1,_⟩:=hRE;cases h1
     |pan v0 h0=>
      rw[hx]at hRE;cases hRE;exact hp _ _ v w' a' hx hps (hdf'.trans hdf)
   ·rw[hst]at hRE;cases hx:bb cx base ops (p++i:: q) e h with
    |fail=>exact absurd hx hr
    |ok ex hx'=>rw[hx]at hRE;obtain⟨_,h1,_⟩:=hRE;cases h1
    |pan v0 h0=>
     rw[hx]at hRE;cases hRE;exact hp _ _ v w1 a hx hps rfl
end
end Go.Av
namespace Go.Av
variable [Dr]
structure IsoCall (cx:Cx):Prop where
 iso:∀f args,cx.iso f=true->∃x:Option (Bool×AV),∀h,cx.call f args h=(match x with|none=>.fail|some (true,v)=>.ok v h|some (false,v)=>.pan v h)
 nw:∀f args,cx.nw f=true->xw (cx.call f args)
omit [Dr]in
theorem IsoCall.draw{cx:Cx}(h:IsoCall cx):IsoPure (eT cx):=by
 refine⟨?_,fun f args hf=>?_⟩
 case refine_2=>
  have hn:=h.nw f args hf;show xw (bif cx.iso f then cW (cx.call f args)else cx.call f args);cases cx.iso f with
  |false=>exact hn
  |true=>
   intro hp v h' hh;simp only[LF,cW]at hh;cases hq:cx.call f args hp with
   |ok a b=>rw[hq]at hh;cases hh;exact hn _ _ _ hq
   |pan a b=>rw[hq]at hh;cases hh
   |fail=>rw[hq]at hh;cases hh
 intro f args hf;have hf':cx.iso f=true:=hf;obtain⟨x,hx⟩:=h.iso f args hf';refine⟨match x with|some (true,v)=>some v|_=>none,?_⟩;show (bif cx.iso f then cW (cx.call f args)else cx.call f args)=_;rw[hf'];funext hp;simp only[LF,cW,hx];rcases x with _|⟨b,v⟩
 ·rfl
 ·cases b<;>rfl
theorem cS.draw{P:Program}{cx:Cx}(h:cS P cx.own cx.call):cS P (eT cx).own (eT cx).call:=by
 intro f args hp S β w vs hr hg hw hh hv;have hcall:(eT cx).call f args hp=(bif cx.iso f then cW (cx.call f args) hp else cx.call f args hp):=by
  show (bif cx.iso f then cW (cx.call f args)else cx.call f args) hp=_;cases cx.iso f<;>rfl
 rw[hcall]at hr |-
 have key:∀r,r=cx.call f args hp->r≠.fail->Calls P f vs.toArray w (ee ((eT cx).own f) S β hp w r)/\(P.funcs[f]?).any (fun fn=>fn.body.isSome&&!(fn.name== "runtime.NumGoroutine"))=true:=by
  intro r hr1 hr2;subst hr1;exact h f args hp S β w vs hr2 hg hw hh hv
 cases hi:cx.iso f with
 |false=>rw[hi]at hr;exact key _ rfl hr
 |true=>
  rw[hi]at hr;simp only[LF,cW]at hr |-;cases hx:cx.call f args hp with
  |ok v hq=>rw[hx]at hr;exact key _ hx.symm (by simp)
  |pan v hq=>rw[hx]at hr;exact absurd rfl hr
  |fail=>rw[hx]at hr;exact absurd rfl hr
def jE(c:Entry)(N:Nat)(e:Env)(h:Hp)(a:Act)(w:World):Prop:=ej c N (fun g=>g<e.nx*1000) e h a w
theorem ej.rel{c:Entry}{N:Nat}{U:Nat->Prop}{e2 e:Env}{h:Hp}{a:Act}{w:World}{ops:Array Oper}(H:ej c N U e h a w)(R:Rel ops [] e2 e):ej c N U e2 h a w:=by
 obtain⟨S,β,γ,lam,ω,F⟩:=H;refine⟨S,β,γ,lam,ω,F.weak (fun t=>?_) (fun t g hg=>?_) (fun g z hz=>by rw[R.al]at hz;exact hz) (fun B n hB=>by rw[R.lb]at hB;exact hB)⟩
 ·rcases R.get t with h|⟨h1,h2,_⟩
  ·exact .inl (by rw[h])
  ·exact .inr ⟨by rw[h1];rfl,h2⟩
 ·rcases R.get t with h|⟨h1,_⟩
  ·rw[h]at hg;exact hg
  ·rw[h1]at hg;cases hg
theorem ej.eqE{c:Entry}{N:Nat}{U:Nat->Prop}{e2 e:Env}{h:Hp}{a:Act}{w:World}(H:ej c N U e h a w)(R:EqE e e2):ej c N U e2 h a w:=by
 obtain⟨S,β,γ,lam,ω,F⟩:=H;exact⟨S,β,γ,lam,ω,F.weak (fun t=>.inl (by rw[R.get])) (fun t g hg=>by rw[R.get]at hg;exact hg) (fun g z hz=>by rw[R.al]at hz;exact hz) (fun B n hB=>by rw[R.lb]at hB;exact hB)⟩
theorem ej.nx{c:Entry}{N:Nat}{U:Nat->Prop}{e:Env}{h:Hp}{a:Act}{w:World}(n:Nat)(H:ej c N U e h a w):ej c N U { e with nx:=n } h a w:=by
 obtain⟨S,β,γ,lam,ω,F⟩:=H;exact⟨S,β,γ,lam,ω,F.weak (fun t=>.inl rfl) (fun t g hg=>hg) (fun g z hz=>hz) (fun B n hB=>hB)⟩
section
variable {P:Program} {cx:Cx} {c:Entry} {e:Env} {h:Hp} {a:Act} {w:World} {ops:Array Oper} {id:Nat}
omit [Dr]in
theorem qA{n:Nat}(hn:n<=1000)(hd:iM n ops=true)(hk:∀p,zp (cy cx.ann.kinds p .L)=true->p<n):OpsOk n cx ops/\Small ops:=by
 unfold iM at hd;rw[Array.all_eq_true_iff_forall_mem]at hd;have h1:∀(i:Nat)(o:Oper),ops[i]? = some o->(∀t,o.dst=some t->t<n)/\∀t∈iD o,t<1000:=by
  intro i o ho
  have:=hd o (Array.mem_of_getElem? ho)
  simp only[LD,LO,LB]at this;refine⟨fun t ht=>?_,this.2⟩;have h2:=this.1;rw[ht]at h2;simpa using h2
 refine⟨⟨fun i o ho=>(h1 i o ho).1,fun i o ho x hx t hxt=>(h1 i o ho).2 t ?_,hk⟩,⟨fun i o ho t ht=>Mr ((h1 i o ho).1 t ht) hn,fun i o ho=>(h1 i o ho).2⟩⟩;subst hxt;exact N3.2 ⟨_,hx,rfl⟩
theorem zF{ρ:Type}(hT:TOK P cx.T)(hC:cS P cx.own cx.call)(hI:IsoCall cx)(hk:∀p,zp (cy cx.ann.kinds p .L)=true->p<cx.nt){draw:Bool}{k:Env->M ρ}(H:jE c cx.nt e h a w)(hr:nE cx id ops draw e k h≠.fail){Q:Exit->Act->World->Prop}(hn:∀e' h' a' w',nE cx id ops draw e k h=k e' h'->jE c cx.nt e' h' a' w'->a'.defers=a.defers->Q .normal a' w')(hp:∀pv h' v w' a',nE cx id ops draw e k h= .pan pv h'->kZ c pv h' v w'->a'.defers=a.defers->Q (.panic [{ v,recovered:=false }]) a' w'):
  (Code.region id ops draw).wp P Q a w:=by
 have hN:cx.nt<=1000:=by obtain⟨S,β,γ,lam,ω,F⟩:=H;exact F.tsz.2
 have H0:ej c cx.nt (UD e.nx []) e h a w:=H.wider fun g hg=>.inl hg;unfold nE at hr hn hp;cases hds:iM cx.nt ops with
 |false=>rw[hds]at hr;exact absurd rfl hr
 | true=>
  obtain⟨hO,hS⟩:=qA (cx:=cx) hN hds hk;rw[hds]at hr hn hp;simp only[LF]at hr hn hp;cases draw with
  | false=>
   simp only[LL]at hr hn hp;obtain⟨hfl,hgs⟩:=iB ops (List.range ops.size);refine wp_region (rM hT hC hO (List.range ops.size) [] e h a w List.nodup_range (by simp) H0 ?_ ?_ ?_)
   all_goals
    have hseq:=iO (cx:=cx) (base:=e.nx) hS (dz ops (List.range ops.size)) e e _ h hgs (.refl ops _ e) hr;rw[hfl]at hseq
   ·rcases hseq with⟨_,_,_,_,h2,_⟩|⟨_,_,_,h2⟩<;>rw[h2]<;>simp
   ·intro e' h' a' w' hok hsat hdf;rcases hseq with⟨e2',e'',h'',h1,h2,hR⟩|⟨_,_,_,h2⟩
    ·rw[h2]at hok;cases hok;refine hn _ _ a' w' h1 (ej.nx _ ((hsat.wider (Ef ?_)).rel hR)) hdf;intro i hi;simpa using hi
    ·rw[h2]at hok;cases hok
   ·intro pv h' v w' a' hok hps hdf;rcases hseq with⟨e2',e'',h'',h1,h2,hR⟩|⟨_,_,h1,h2⟩
    ·rw[h2]at hok;cases hok
    ·rw[h2]at hok;cases hok;exact hp _ _ v w' a' h1 hps hdf
  | true=>
   simp only[LF]at hr hn hp;generalize rE cx id ops.size=ord at hr hn hp;cases hdo:lj cx ops ord with
   |false=>rw[hdo]at hr;exact absurd rfl hr
   | true=>
    rw[hdo]at hr hn hp;simp only[LF]at hr hn hp;simp only[lj,BN,LD,LO,LB]at hdo;obtain⟨⟨⟨⟨⟨hlen,hmem⟩,hdist⟩,hlt⟩,hbits⟩,hpairs⟩:=hdo;have hlen':ord.length=ops.size:=LN hlen;obtain⟨hpw,hself⟩:=nT (cx:=cx) (ops:=ops) hpairs;have hpw':ord.Pairwise (zQ (eT cx) ops):=hpw;have hO':OpsOk cx.nt (eT cx) ops:=⟨hO.dst,hO.src,hO.kin⟩;obtain⟨hfl,hgs⟩:=iB ops ord;have hseq:=iO (cx:=eT cx) (base:=e.nx) hS (dz ops ord) e e _ h hgs (.refl ops _ e) hr;rw[hfl]at hseq;refine wp_region_draw fun t=>?_;have hsch:Region.schedule (P.follows .mixedOrders) ops t=Region.linearise .any ops t:=by
     simp only[Region.schedule,hT.mix,Bool.true_or,Mc]
    rw[hsch];have hmem':∀i,i∈ord↔i<ops.size:=fun i=>⟨fun hi=>hlt i hi,fun hi=>(gq _ _).1 (hmem i (by simpa using hi))⟩;refine wpAny_sound ops.size t _ a _ (tQ (cx:=eT cx) (c:=c) (N:=cx.nt) (base:=e.nx) hT hC.draw hI.draw hO' hS ?_ ?_ ops.size ord (Array.replicate ops.size false) [] e h a w.drew hlen' (by simp) (jQ hdist) ?_ (by simp) (by simp) ?_ hpw' ?_ ?_ ?_ ?_)
    ·intro i x hx;rcases L8 x ops.size with h'|h'
     ·exact h'
     ·have hm:(jO ops).getD i 0<2 ^ ops.size:=by
       rw[Mm];cases hi:(jO ops)[i]? with
       |none=>simp;exact Nat.pow_pos (by omega)
       |some m=>exact hbits m (MS hi)
      rw[Nat.testBit_lt_two_pow (Mr hm (Nat.pow_le_pow_right (by omega) h'))]at hx;cases hx
    ·exact fun i hi=>hself i ((hmem' i).2 hi)
    ·intro i;rw[hmem'];constructor
     ·intro hi;refine⟨hi,?_⟩;rw[Mh,OO,LC hi];rfl
     ·exact fun hi=>hi.1
    ·intro j o ho hj;exfalso;rw[Mh,OO]at hj;split at hj<;>simp at hj
    ·obtain⟨S,β,γ,lam,ω,F⟩:=H0;exact⟨S,β,γ,lam,ω,F.drew⟩
    ·rcases hseq with⟨_,_,_,_,h2,_⟩|⟨_,_,_,h2⟩<;>rw[h2]<;>simp
    ·intro e0 e' h' a' w' hok heq hsat hdf;rcases hseq with⟨e2',e'',h'',h1,h2,hR⟩|⟨_,_,_,h2⟩
     ·rw[h2]at hok;cases hok;exact hn _ _ a' w' h1 (ej.nx _ ((hsat.eqE heq.symm).rel hR)) hdf
     ·rw[h2]at hok;cases hok
    ·intro pv h' v w' a' hok hps hdf;rcases hseq with⟨e2',e'',h'',h1,h2,hR⟩|⟨_,_,h1,h2⟩
     ·rw[h2]at hok;cases hok
     ·rw[h2]at hok;cases hok;exact hp _ _ v w' a' h1 hps hdf
end
end Go.Av
namespace Go.Av
variable [Dr]
omit [Dr]in
theorem jp{e:Env}:∀(l:List (Nat×Option Nat))(used:List Nat)(vs:List AV),gt e l used=some vs->vs.length=l.length/\
  (∀(i:Nat)(t:Nat)(z:Option Nat),l[i]? = some (t,z)->∃a,vs[i]? = some a/\(e.get t).v= .val a/\∀sz,z=some sz->∃g z0,(e.get t).g=some g/\aP e.al g=some z0/\(z0=none\/z0=some sz)/\g ∉ used)/\
  ∀(i j:Nat)(t t' sz sz':Nat),i<j->l[i]? = some (t,some sz)->l[j]? = some (t',some sz')->(e.get t).g≠(e.get t').g
 |[],used,vs,h=>by
  simp only[gt,LA]at h;subst h;exact⟨rfl,by simp,by simp⟩
 | (t,none):: r,used,vs,h=>by
  simp only[gt]at h;split at h
  ·rename_i a ha;split at h
   ·rename_i vs' hvs;simp only[LA]at h;subst h;obtain⟨h1,h2,h3⟩:=jp r used vs' hvs;refine⟨by simp[h1],fun i t' z hi=>?_,fun i j t1 t2 sz1 sz2 hij hi hj=>?_⟩
    ·cases i with
     |zero=>
      simp only[LV,LA,Mv]at hi;obtain⟨rfl,rfl⟩:=hi;exact⟨a,rfl,ha,fun sz hsz=>by cases hsz⟩
     |succ i=>simpa using h2 i t' z (by simpa using hi)
    ·cases i with
     |zero=>simp at hi
     |succ i=>
      cases j with
      |zero=>omega
      |succ j=>exact h3 i j t1 t2 sz1 sz2 (by omega) (by simpa using hi) (by simpa using hj)
   ·cases h
  ·cases h
 | (t, some sz):: r,used,vs,h=>by
  simp only[gt]at h;split at h
  ·rename_i a g ha hg;split at h
   ·cases h
   ·rename_i z0 hz0;have hcond:tb z0 (some sz)=true/\fb used g=false/\(match gt e r (g:: used)with|some vs=>some (a:: vs)|none=>none)=some vs:=by
     cases hm:fb used g with
     | true=>
      rw[hm]at h;cases z0 with
      |none=>cases h
      |some n=>
       simp only at h;cases hb:Nat.beq n sz<;>rw[hb]at h<;>cases h
     | false=>
      rw[hm]at h;cases z0 with
      |none=>exact⟨rfl,rfl,h⟩
      |some n=>
       simp only at h;cases hb:Nat.beq n sz with
       |true=>rw[hb]at h;exact⟨hb,rfl,h⟩
       |false=>rw[hb]at h;cases h
    obtain⟨hc1,hc2,h⟩:=hcond;have hc:=And.intro hc1 hc2
    ·split at h
     ·rename_i vs' hvs;simp only[LA]at h;subst h;have hgu:g ∉ used:=fun hm=>by
       rw[(gq _ _).2 hm]at hc;exact Bool.noConfusion hc.2
      have hz:z0=none\/z0=some sz:=by
       cases z0 with
       |none=>exact .inl rfl
       |some n=>exact .inr (by rw[LN hc.1])
      obtain⟨h1,h2,h3⟩:=jp r (g:: used) vs' hvs;refine⟨by simp[h1],fun i t' z hi=>?_,fun i j t1 t2 sz1 sz2 hij hi hj=>?_⟩
      ·cases i with
       |zero=>
        simp only[LV,LA,Mv]at hi;obtain⟨rfl,rfl⟩:=hi;exact⟨a,rfl,ha,fun sz' hsz=>by cases hsz;exact⟨g,z0,hg,hz0,hz,hgu⟩⟩
       |succ i=>
        obtain⟨a',k1,k2,k3⟩:=h2 i t' z (by simpa using hi);refine⟨a',by simpa using k1,k2,fun sz' hsz=>?_⟩;obtain⟨g',z',m1,m2,m3,m4⟩:=k3 sz' hsz;exact⟨g',z',m1,m2,m3,fun hm=>m4 (by simp[hm])⟩
      ·cases i with
       | zero=>
        cases j with
        |zero=>omega
        |succ j=>
         simp only[LV,LA,Mv]at hi;obtain⟨rfl,_⟩:=hi;obtain⟨a',k1,k2,k3⟩:=h2 j t2 (some sz2) (by simpa using hj);obtain⟨g',z',m1,m2,m3,m4⟩:=k3 sz2 rfl;rw[hg,m1];intro hh;simp only[LA]at hh;exact m4 (by simp[hh])
       |succ i=>
        cases j with
        |zero=>omega
        |succ j=>exact h3 i j t1 t2 sz1 sz2 (by omega) (by simpa using hi) (by simpa using hj)
     ·cases h
  ·cases h
omit [Dr]in
theorem jz(vs:List AV)(r:List (Nat×Ent))(t:Nat):∀(l:List (Nat×Option Nat))(k:Nat),
  (∃(i:Nat)(z:Option Nat),l[i]? = some (t,z)/\bY (cL vs k l++r) t=⟨.val (nth vs (k+i)),z.map fun _=>k+i⟩)\/
  ((∀(i:Nat)(z:Option Nat),l[i]? ≠some (t,z))/\bY (cL vs k l++r) t=bY r t)
 |[],k=>.inr ⟨by simp,rfl⟩
 | (s,z):: l,k=>by
  have hh:cL vs k ((s,z):: l)=(s,⟨.val (nth vs k),z.map fun _=>k⟩):: cL vs (k+1) l:=by cases z<;>rfl
  rw[hh,Mg,cr];by_cases hs:s=t
  ·subst hs;rw[LC rfl];exact .inl ⟨0,z,rfl,rfl⟩
  ·rw[if_neg hs];rcases jz vs r t l (k+1)with⟨i,z',h1,h2⟩|⟨h1,h2⟩
   ·refine .inl ⟨i+1,z',by simpa using h1,?_⟩;rw[h2,show k+1+i=k+(i+1) by omega]
   ·refine .inr ⟨fun i z' hi=>?_,h2⟩;cases i with
    |zero=>simp at hi;exact hs hi.1
    |succ i=>exact h1 i z' (by simpa using hi)
omit [Dr]in
theorem gm:∀(l:List (Nat×Option Nat))(k g:Nat)(y:Option Nat),aP (iV k l) g=some y->∃(i t sz:Nat),l[i]? = some (t,some sz)/\g=k+i/\y=some sz
 |[],k,g,y,h=>by simp[iV,aP]at h
 |(s,none):: l,k,g,y,h=>by
  obtain⟨i,t,sz,h1,h2,h3⟩:=gm l (k+1) g y h;exact⟨i+1,t,sz,by simpa using h1,by omega,h3⟩
 | (s,some n):: l,k,g,y,h=>by
  simp only[iV,bZ]at h;split at h
  ·rename_i hk;simp only[LA]at h;exact⟨0,s,n,rfl,by omega,h.symm⟩
  ·obtain⟨i,t,sz,h1,h2,h3⟩:=gm l (k+1) g y h;exact⟨i+1,t,sz,by simpa using h1,by omega,h3⟩
omit [Dr]in
theorem m0(t:Nat):∀(l:List (Nat×Nat×Nat)),(∃B off,(t,B,off)∈l/\bY (l.map fun x=>(x.1,(⟨.loc x.2.1 x.2.2,none⟩:Ent))) t=⟨.loc B off,none⟩)\/bY (l.map fun x=>(x.1,(⟨.loc x.2.1 x.2.2,none⟩:Ent))) t=Ent.none
 |[]=>.inr rfl
 | (s,B,off):: l=>by
  rw[Mi,cr];by_cases hs:s=t
  ·subst hs;rw[LC rfl];exact .inl ⟨B,off,by simp,rfl⟩
  ·rw[if_neg hs];rcases m0 t l with⟨B',off',h1,h2⟩|h
   ·exact .inl ⟨B',off',by simp[h1],h2⟩
   ·exact .inr h
omit [Dr]in
theorem pH{e:Env}:∀ {l:List (Nat×Nat×Nat)},pG e l=true->∀t B off,(t,B,off)∈l->(e.get t).v= .loc B off
 |[],_,t,B,off,h=>by simp at h
 | (s,B0,off0):: l,h,t,B,off,hm=>by
  simp only[pG,LD]at h;simp only[LU,Mv]at hm;rcases hm with⟨rfl,rfl,rfl⟩|hm
  ·have h1:=h.1;split at h1
   ·rename_i B' off' hv;simp only[LD]at h1;rw[hv,LN h1.1,LN h1.2]
   ·cases h1
  ·exact pH h.2 t B off hm
omit [Dr]in
theorem rq{e:Env}:∀ {l:List (Nat×Nat)},uF e l=true->∀B n,bC l B=some n->bC e.lb B=some n
 |[],_,B,n,h=>by simp[bC]at h
 | (B0,n0):: l,h,B,n,hm=>by
  simp only[uF,LD]at h;rw[dN]at hm;split at hm
  ·rename_i hB;subst hB;simp only[LA]at hm;subst hm;have h1:=h.1;split at h1
   ·rename_i m hv;rw[hv,LN h1]
   ·cases h1
  ·exact rq h.2 B n hm
section
variable {c:Entry} {N:Nat} {e:Env} {h:Hp} {a:Act} {w:World}
open Classical in
theorem tg{ja:JA}{vs:List AV}(H:jE c N e h a w)(hp:pack ja e=some vs):jE c N (unpack ja vs) h a w:=by
 obtain⟨S,β,γ,lam,ω,F⟩:=H;unfold pack at hp;cases hlo:(pG e ja.locs&&uF e ja.lbs)with
 |false=>rw[hlo]at hp;cases hp
 | true=>
  rw[hlo]at hp;simp only[LF]at hp;simp only[LD]at hlo;obtain⟨hlen,hval,hdis⟩:=jp ja.vals [] vs hp
  -- the groups carried
  let gOf:Nat->Option Nat:=fun i=>match ja.vals[i]? with|some (t,some _)=>(e.get t).g|_=>none
  have hg1:∀i t sz,ja.vals[i]? = some (t,some sz)->∃g z0,gOf i=some g/\(e.get t).g=some g/\aP e.al g=some z0/\(z0=none\/z0=some sz):=by
   intro i t sz hi;obtain⟨a',_,_,h3⟩:=hval i t (some sz) hi;obtain⟨g,z0,k1,k2,k3,_⟩:=h3 sz rfl;refine⟨g,z0,?_,k1,k2,k3⟩;show (match ja.vals[i]? with|some (t,some _)=>(e.get t).g|_=>none)=some g;rw[hi];exact k1
  have hg2:∀i j g,gOf i=some g->gOf j=some g->i=j:=by
   have hex:∀i g,gOf i=some g->∃t sz,ja.vals[i]? = some (t,some sz)/\(e.get t).g=some g:=by
    intro i g hi;have hi':(match ja.vals[i]? with|some (t,some _)=>(e.get t).g|_=>none)=some g:=hi;split at hi'
    ·rename_i t sz ht;exact⟨t,sz,ht,hi'⟩
    ·cases hi'
   intro i j g hi hj;obtain⟨t,sz,k1,k2⟩:=hex i g hi;obtain⟨t',sz',m1,m2⟩:=hex j g hj;rcases Nat.lt_trichotomy i j with hlt|heq|hlt
   ·exact absurd (k2.trans m2.symm) (hdis i j t t' sz sz' hlt k1 m1)
   ·exact heq
   ·exact absurd (m2.trans k2.symm) (hdis j i t' t sz' sz hlt m1 k1)
  let γ':Nat->Value:=fun i=>match gOf i with|some g=>γ g|none=>undef
  let ω':Nat->Owner:=fun b=>match ω b with
   |.grp g=>if hx:∃i,gOf i=some g then .grp (Classical.choose hx)else .no
   |o=>o
  have hωg:∀b g i,ω b= .grp g->gOf i=some g->ω' b= .grp i:=by
   intro b g i hb hi;show (match ω b with|.grp g=>if hx:∃i,gOf i=some g then Owner.grp (Classical.choose hx)else .no|o=>o)= .grp i;rw[hb];simp only;have hx:∃i,gOf i=some g:=⟨i,hi⟩;rw[dif_pos hx,hg2 _ _ g (Oc hx) hi]
  have hωo:∀b,(∀g,ω b≠.grp g)->ω' b=ω b:=by
   intro b hb;show (match ω b with|.grp g=>if hx:∃i,gOf i=some g then Owner.grp (Classical.choose hx)else .no|o=>o)=ω b;cases ho:ω b with
   |grp g=>exact absurd ho (hb g)
   |_=>rfl
  have hωn:∀b,ω' b≠.no->ω b≠.no:=by
   intro b hb ho;refine hb ?_;rw[hωo b (fun g hg=>by rw[ho]at hg;cases hg),ho]
  have hωx:∀b g,ω' b= .grp g->∃g',ω b= .grp g':=by
   intro b g hg;cases ho:ω b with
   |grp g'=>exact⟨g',rfl⟩
   |_=>rw[hωo b (fun g' h'=>by rw[ho]at h';cases h'),ho]at hg;cases hg
  -- the slots
  have hget:∀t,(∃(i:Nat)(z:Option Nat)(a':AV),ja.vals[i]? = some (t,z)/\(e.get t).v= .val a'/\(unpack ja vs).get t=⟨.val a',z.map fun _=>i⟩)\/(∃B off,(e.get t).v= .loc B off/\(unpack ja vs).get t=⟨.loc B off,none⟩)\/(unpack ja vs).get t=Ent.none:=by
   intro t;have hu:(unpack ja vs).get t=bY (cL vs 0 ja.vals++ja.locs.map fun x=>(x.1,(⟨.loc x.2.1 x.2.2,none⟩:Ent))) t:=rfl;rcases jz vs (ja.locs.map fun x=>(x.1,(⟨.loc x.2.1 x.2.2,none⟩:Ent))) t ja.vals 0 with⟨i,z,h1,h2⟩|⟨h1,h2⟩
   ·obtain⟨a',k1,k2,_⟩:=hval i t z h1;refine .inl ⟨i,z,a',h1,k2,?_⟩;rw[hu,h2,Ma];have:nth vs i=a':=by simp[nth,k1]
    rw[this]
   ·rcases m0 t ja.locs with⟨B,off,k1,k2⟩|k
    ·exact .inr (.inl ⟨B,off,pH hlo.1 t B off k1,by rw[hu,h2,k2]⟩)
    ·exact .inr (.inr (by rw[hu,h2,k]))
  have hgg:∀t g,((unpack ja vs).get t).g=some g->∃sz,ja.vals[g]? = some (t,some sz):=by
   intro t g hg;rcases hget t with⟨i,z,a',h1,_,h3⟩|⟨_,_,_,h3⟩|h3
   ·rw[h3]at hg;cases z with
    |none=>simp at hg
    |some sz=>simp at hg;subst hg;exact⟨sz,h1⟩
   ·rw[h3]at hg;cases hg
   ·rw[h3]at hg;cases hg
  have hγ:∀t g,((unpack ja vs).get t).g=some g->∃g0 z0,(e.get t).g=some g0/\aP e.al g0=some z0/\γ' g=γ g0:=by
   intro t g hg;obtain⟨sz,h1⟩:=hgg t g hg;obtain⟨g0,z0,k1,k2,k3,_⟩:=hg1 g t sz h1;refine⟨g0,z0,k2,k3,?_⟩;show (match gOf g with|some g=>γ g|none=>undef)=γ g0;rw[k1]
  refine⟨S,β,γ',lam,ω',⟨F.wf,F.gro,F.keep,F.le,F.ext,F.hlen,fun l cs hl hcs=>?_,F.tsz,fun t ht=>?_,fun t g z ht hg hz=>?_,fun B n hB=>?_,fun g z hz=>?_,fun b hb=>⟨(F.mine b (hωn b hb)).1.imp (fun hE=>⟨hE.1,fun g hg=>by obtain⟨g',h'⟩:=hωx b g hg;exact hE.2 g' h'⟩) id,(F.mine b (hωn b hb)).2⟩,fun t g hg=>?_,fun g z hz=>?_⟩⟩
  ·rcases F.heap l cs hl hcs with⟨b,x,h1,h2,h3,h4⟩|⟨b,h1,h3,h4⟩
   ·exact .inl ⟨b,x,h1,h2,by rw[hωo b (fun g hg=>by rw[h3]at hg;cases hg)];exact h3,h4⟩
   ·exact .inr ⟨b,h1,by rw[hωo b (fun g hg=>by rw[h3]at hg;cases hg)];exact h3,h4⟩
  ·have hs:=F.slots t ht;rcases hget t with⟨i,z,a',_,h2,h3⟩|⟨B,off,h2,h3⟩|h3
   ·rw[h3];rw[h2]at hs;exact hs
   ·rw[h3];rw[h2]at hs;exact hs
   ·rw[h3];simp[Ent.none,fg,VR]
  ·obtain⟨g0,z0,k1,k2,k3⟩:=hγ t g hg;rw[k3];exact F.grps t g0 z0 ht k1 k2
  ·obtain⟨k1,k2,k3,b,x,k4,k5,k6,k7,k8⟩:=F.lblk B n (rq hlo.2 B n hB);refine⟨k1,k2,k3,b,x,k4,k5,by rw[hωo b (fun g hg=>by rw[k6]at hg;cases hg)];exact k6,k7,fun i hi=>?_⟩;obtain⟨v,a',m1,m2,m3,m4⟩:=k8 i hi;have hgr:∀g z,((unpack ja vs).get (B+i)).g=some g->aP (unpack ja vs).al g=some z->v=γ' g:=by
    intro g z hg _;obtain⟨g0,z0,p1,p2,p3⟩:=hγ _ g hg;rw[p3];exact m4 g0 z0 p1 p2
   rcases hget (B+i)with⟨j,z,a2,_,h2,h3⟩|⟨B',off,h2,h3⟩|h3
   ·refine⟨v,a2,m1,by rw[h3],?_,hgr⟩;rw[m2]at h2;cases h2;exact m3
   ·rw[m2]at h2;cases h2
   ·exact⟨v,.any,m1,by rw[h3];rfl,by simp[VR],hgr⟩
  ·obtain⟨i,t,sz,h1,h2,h3⟩:=gm ja.vals 0 g z hz;rw[Ma]at h2;subst h2;obtain⟨g0,z0,k1,k2,k3,k4⟩:=hg1 g t sz h1;have hγ':γ' g=γ g0:=by
    show (match gOf g with|some g=>γ g|none=>undef)=γ g0;rw[k1]
   rw[hγ'];obtain⟨ad,len,cap,m1,m2,m3,m4⟩:=F.free g0 z0 k3;refine⟨ad,len,cap,m1,m2,m3,m4.imp id ?_⟩;rintro⟨sz',b,off,x,p1,p2,p3,p4,p5,p6⟩;have:sz'=sz:=by
    rcases k4 with k4|k4<;>rw[k4]at p1<;>cases p1;rfl
   subst this;exact⟨sz',b,off,x,h3,p2,p3,p4,hωg b g0 g p5 k1,p6⟩
  ·obtain⟨sz,h1⟩:=hgg t g hg;have:g<ja.vals.length:=by
    rcases L8 g ja.vals.length with h|h
    ·exact h
    ·rw[LR h]at h1;cases h1
   show g<ja.vals.length*1000;omega
  ·obtain⟨i,t,sz,h1,h2,h3⟩:=gm ja.vals 0 g z hz;have:i<ja.vals.length:=by
    rcases L8 i ja.vals.length with h|h
    ·exact h
    ·rw[LR h]at h1;cases h1
   show g<ja.vals.length*1000;omega
omit [Dr]in
theorem Dn(d:Nat)(h:Hp):fV d h .any= .any:=by cases d<;>rfl
omit [Dr]in
theorem yh(g:AV->AV)(hg:g .any= .any)(vs:List AV)(i:Nat):nth (vs.map g) i=g (nth vs i):=by
 unfold nth;rw[Mm,Mm,MH];cases vs[i]? with
 |none=>simp[hg]
 |some v=>rfl
structure Reval (g:AV->AV) (x y:Ent):Prop where
 gr:y.g=x.g
 v:(∃a,x.v= .val a/\y.v= .val (g a))\/(∃B off,x.v= .loc B off/\y.v= .loc B off)
omit [Dr]in
theorem gb(g:AV->AV)(hg:g .any= .any)(vs:List AV)(r:List (Nat×Ent))(hr:∀t,Reval g (bY r t) (bY r t))(t:Nat):∀(l:List (Nat×Option Nat))(k:Nat),
  Reval g (bY (cL vs k l++r) t) (bY (cL (vs.map g) k l++r) t)
 |[],k=>by simpa [cL]using hr t
 |(s,none):: l,k=>by
  simp only[cL,Mg,bY];cases Nat.beq s t with
  |true=>exact⟨rfl,.inl ⟨_,rfl,by simp only[LF];rw[yh g hg]⟩⟩
  |false=>exact gb g hg vs r hr t l (k+1)
 |(s,some z):: l,k=>by
  simp only[cL,Mg,bY];cases Nat.beq s t with
  |true=>exact⟨rfl,.inl ⟨_,rfl,by simp only[LF];rw[yh g hg]⟩⟩
  |false=>exact gb g hg vs r hr t l (k+1)
omit [Dr]in
theorem tf(g:AV->AV)(hg:g .any= .any)(ja:JA)(vs:List AV)(t:Nat):Reval g ((unpack ja vs).get t) ((unpack ja (vs.map g)).get t):=by
 refine gb g hg vs _ (fun t=>?_) t ja.vals 0;rcases m0 t ja.locs with⟨B,off,_,k2⟩|k
 ·rw[k2];exact⟨rfl,.inr ⟨B,off,rfl,rfl⟩⟩
 ·rw[k];exact⟨rfl,.inl ⟨.any,rfl,by simp[Ent.none,hg]⟩⟩
theorem FR.reval{U:Nat->Prop}{S:aF}{β:List bO}{γ:Nat->Value}{lam:Nat->Option Nat}{ω:Nat->Owner}{e2:Env}{h2:Hp}{S2:aF}{ω2:Nat->Owner}{g:AV->AV}(F:FR c N U e h a w S β γ lam ω)(F2:FR c N U e h2 a w S2 β γ lam ω2)(hg:∀x v,VR S β x v->VR S2 β (g x) v)(hr:∀t,Reval g (e.get t) (e2.get t))(hal:e2.al=e.al)(hlb:e2.lb=e.lb):FR c N U e2 h2 a w S2 β γ lam ω2:=by
 refine⟨F2.wf,F2.gro,F2.keep,F2.le,F2.ext,F2.hlen,F2.heap,F2.tsz,fun t ht=>?_,fun t k z ht hk hz=>?_,fun B n hB=>?_,fun k z hz=>F2.free k z (by rw[<- hal];exact hz),F2.mine,fun t k hk=>?_,fun k z hz=>F2.used.2 k z (by rw[<- hal];exact hz)⟩
 ·have h1:=F.slots t ht;rcases (hr t).v with⟨x,q1,q2⟩|⟨B,off,q1,q2⟩
  ·rw[q1]at h1;rw[q2];exact hg _ _ h1
  ·rw[q1]at h1;rw[q2];exact h1
 ·rw[(hr t).gr]at hk;rw[hal]at hz;exact F2.grps t k z ht hk hz
 ·rw[hlb]at hB;obtain⟨k1,k2,k3,b,x,k4,k5,k6,k7,k8⟩:=F2.lblk B n hB;obtain⟨_,_,_,b',x',j4,j5,j6,j7,j8⟩:=F.lblk B n hB;rw[k4]at j4;cases j4;cases k5.inj j5;refine⟨k1,k2,k3,b,x,k4,k5,k6,k7,fun i hi=>?_⟩;obtain⟨v,a',m1,m2,m3,m4⟩:=k8 i hi;obtain⟨v',a'',n1,n2,n3,_⟩:=j8 i hi;rw[m1]at n1;cases n1;rcases (hr (B+i)).v with⟨y,q1,q2⟩|⟨B',off,q1,q2⟩
  ·rw[n2]at q1;cases q1;refine⟨v,g a'',m1,q2,hg _ _ n3,fun k z hk hz=>?_⟩;rw[(hr (B+i)).gr]at hk;rw[hal]at hz;exact m4 k z hk hz
  ·rw[n2]at q1;cases q1
 ·rw[(hr t).gr]at hk;exact F2.used.1 t k hk
theorem qC{ja:JA}{vs:List AV}(H:jE c N (unpack ja vs) h a w):jE c N (unpack ja (vs.map (fV 6 h))) (h.map fun _=>[]) a w:=by
 obtain⟨S,β,γ,lam,ω,F⟩:=H;obtain⟨S2,ω2,F2,hf⟩:=F.freeze;have F3:=F.reval F2 (g:=fV 6 h) (fun x v hx=>hf _ _ hx) (tf _ (Dn 6 h) ja vs) (e2:=unpack ja (vs.map (fV 6 h))) rfl rfl;exact⟨S2,β,γ,lam,ω2,F3⟩
end
end Go.Av
namespace Go.Av
variable [Dr]
section
variable {P:Program} {cx:Cx} {c:Entry} {e:Env} {h:Hp} {a:Act} {w:World} {ops:Array Oper} {id:Nat}
theorem xc{ρ:Type}(hT:TOK P cx.T)(hC:cS P cx.own cx.call)(hI:IsoCall cx)(hk:∀p,zp (cy cx.ann.kinds p .L)=true->p<cx.nt){draw:Bool}{k:Env->M ρ}(H:jE c cx.nt e h a w)(hr:mM cx id ops draw e k h≠.fail){Q:Exit->Act->World->Prop}(hn:∀e' h' a' w',mM cx id ops draw e k h=k e' h'->jE c cx.nt e' h' a' w'->a'.defers=a.defers->Q .normal a' w')(hp:∀pv h' v w' a',mM cx id ops draw e k h= .pan pv h'->kZ c pv h' v w'->a'.defers=a.defers->Q (.panic [{ v,recovered:=false }]) a' w'):
  (Code.region id ops draw).wp P Q a w:=zF hT hC hI hk H hr hn hp
end
end Go.Av
namespace Go.Av
variable [Dr]
section
variable {P:Program} {Q:Exit->Act->World->Prop} {b:Code}
def jJ(P:Program)(c:Code)(Q:Exit->Act->World->Prop)(a:Act)(w:World):Prop:=
 ∀(b:Frame)(k:List Item)(cs:List Frame),∃e a' w',Q e a' w'/\Arrives P (lone (b.at a (.code c:: .inLoop c:: k)) cs w) b k cs e a' w'
omit [Dr]in
theorem jJ.loop{a:Act}{w:World}(h:jJ P b Q a w):(Code.loop b).wp P Q a w:=
 fun f k cs=>let ⟨e,a',w',q,r⟩:=h f k cs;⟨e,a',w',q,.of_steps (.one step_loop) r⟩
omit [Dr]in
theorem jJ.round{a:Act}{w:World}(h:b.wp P (Exit.then (jJ P b Q) Q) a w):jJ P b Q a w:=by
 intro f k cs;obtain⟨e,a₁,w₁,hq,harr⟩:=h f (.inLoop b:: k) cs;cases e with
 |normal=>
  obtain⟨e₂,a₂,w₂,hq₂,harr₂⟩:=hq f k cs;exact⟨e₂,a₂,w₂,hq₂,.of_steps (Steps.trans harr (.one step_inLoop)) harr₂⟩
 |exit id=>exact⟨_,a₁,w₁,hq,.pass (x:=.inLoop b) rfl (fun _ _=>.inl (by simp)) harr⟩
 |goto l=>exact⟨_,a₁,w₁,hq,.pass (x:=.inLoop b) rfl (fun _ _=>.inl (by simp)) harr⟩
 |ret=>exact⟨_,a₁,w₁,hq,.pass (x:=.inLoop b) rfl (fun _ _=>.inl (by simp)) harr⟩
 |panic ch=>exact⟨_,a₁,w₁,hq,.pass (x:=.inLoop b) rfl (fun _ _=>.inl (by simp)) harr⟩
 |outgrown=>exact⟨_,a₁,w₁,hq,.pass (x:=.inLoop b) rfl (fun _ _=>.inl (by simp)) harr⟩
end
section
variable {P:Program} {cx:Cx} {c:Entry} {ρ:Type}
omit [Dr]in
theorem AW{fx:bH ρ}{id:Nat}{code:Code}{e:Env}{kn kr:Env->M ρ}{kx:Nat->Env->M ρ}(hc:∀b,code≠.loop b):
  ev cx fx (.block id code) e kn kx kr=ev cx fx code e kn (fun i e'=>bif Nat.beq i id then kn e' else kx i e') kr:=by
 cases code<;>first|rfl|exact absurd rfl (hc _)
def wN(cx:Cx)(x:Code):Option JA:=match lJ x with
 |some t=>nF cx.ann.joins t
 |none=>none
omit [Dr]in
theorem Gp{fx:bH ρ}{x y:Code}{e:Env}{kn kr:Env->M ρ}{kx:Nat->Env->M ρ}:ev cx fx (.seq x y) e kn kx kr=(match wN cx x with
  |some ja=>jn (fun vs=>ev cx fx y (unpack ja vs) kn kx kr) fun j=>ev cx fx x e (qm ja j) kx kr
  |none=>ev cx fx x e (fun e'=>ev cx fx y e' kn kx kr) kx kr):=by
 unfold wN;simp only[ev];cases lJ x with
 |none=>rfl
 |some t=>
  simp only;cases nF cx.ann.joins t<;>rfl
structure Posts (c:Entry) (N:Nat) (r:R ρ) (a:Act) (kn:Env->M ρ) (kx:Nat->Env->M ρ) (kr:Env->M ρ) (Q:Exit->Act->World->Prop):Prop where
 nrm:∀e' h' a' w',r=kn e' h'->jE c N e' h' a' w'->a'.defers=a.defers->Q .normal a' w'
 ext:∀i e' h' a' w',r=kx i e' h'->jE c N e' h' a' w'->a'.defers=a.defers->Q (.exit i) a' w'
 ret:∀e' h' a' w',r=kr e' h'->jE c N e' h' a' w'->a'.defers=a.defers->Q .ret a' w'
 pan:∀pv h' v w' a',r= .pan pv h'->kZ c pv h' v w'->a'.defers=a.defers->Q (.panic [{ v,recovered:=false }]) a' w'
theorem tc{ja:JA}{j:List AV->M ρ}{e:Env}{h:Hp}{N:Nat}{a:Act}{w:World}(H:jE c N e h a w)(hr:qm ja j e h≠.fail):∃vs h',qm ja j e h=j vs h'/\jE c N (unpack ja vs) h' a w:=by
 unfold qm at hr |-;cases hp:pack ja e with
 |none=>rw[hp]at hr;exact absurd rfl hr
 |some vs=>
  have hs:=tg H hp;simp only;cases ja.fz with
  |false=>exact⟨vs,h,rfl,hs⟩
  |true=>exact⟨_,_,rfl,qC hs⟩
theorem AX(hT:TOK P cx.T)(hC:cS P cx.own cx.call)(hI:IsoCall cx)(hk:∀p,zp (cy cx.ann.kinds p .L)=true->p<cx.nt)(m:Nat):∀(n:Nat)(code:Code),SizeOf.sizeOf code<n->
  ∀(e:Env)(h:Hp)(a:Act)(w:World)(kn:Env->M ρ)(kx:Nat->Env->M ρ)(kr:Env->M ρ)(Q:Exit->Act->World->Prop),jE c cx.nt e h a w->ev cx (dc m) code e kn kx kr h≠.fail->
  Posts c cx.nt (ev cx (dc m) code e kn kx kr h) a kn kx kr Q->code.wp P Q a w:=by
 intro n
 induction n with
 |zero=>intro code hn;omega
 | succ n ih=>
  intro code hn e h a w kn kx kr Q H hr hp;cases code<;>(try exact absurd rfl hr)
  case skip=>exact wp_skip (hp.nrm e h a w rfl H rfl)
  case exit id=>exact wp_exit (hp.ext id e h a w rfl H rfl)
  case ret=>exact wp_ret (hp.ret e h a w rfl H rfl)
  case region id ops draw=>exact xc hT hC hI hk H hr hp.nrm hp.pan
  case seq x y=>
   have hx:SizeOf.sizeOf x<n:=by simp at hn;omega
   have hy:SizeOf.sizeOf y<n:=by simp at hn;omega
   refine wp_seq ?_;rw[Gp]at hr hp;generalize wN cx x=oj at hr hp;cases oj with
   |none=>
    simp only at hr hp;refine ih x hx e h a w _ kx kr _ H hr ⟨fun e' h' a' w' hok hs hd=>?_,fun i e' h' a' w' hok hs hd=>hp.ext i e' h' a' w' hok hs hd,fun e' h' a' w' hok hs hd=>hp.ret e' h' a' w' hok hs hd,fun pv h' v w' a' hok hs hd=>hp.pan pv h' v w' a' hok hs hd⟩;rw[hok]at hr hp;exact ih y hy e' h' a' w' kn kx kr Q hs hr ⟨fun e2 h2 a2 w2 k1 k2 k3=>hp.nrm e2 h2 a2 w2 k1 k2 (k3.trans hd),fun i e2 h2 a2 w2 k1 k2 k3=>hp.ext i e2 h2 a2 w2 k1 k2 (k3.trans hd),fun e2 h2 a2 w2 k1 k2 k3=>hp.ret e2 h2 a2 w2 k1 k2 (k3.trans hd),fun pv h2 v w2 a2 k1 k2 k3=>hp.pan pv h2 v w2 a2 k1 k2 (k3.trans hd)⟩
   |some ja=>
    simp only[jn]at hr hp;refine ih x hx e h a w _ kx kr _ H hr ⟨fun e' h' a' w' hok hs hd=>?_,fun i e' h' a' w' hok hs hd=>hp.ext i e' h' a' w' hok hs hd,fun e' h' a' w' hok hs hd=>hp.ret e' h' a' w' hok hs hd,fun pv h' v w' a' hok hs hd=>hp.pan pv h' v w' a' hok hs hd⟩;rw[hok]at hr hp;obtain⟨vs,h3,hj,hs3⟩:=tc hs hr;rw[hj]at hr hp;exact ih y hy (unpack ja vs) h3 a' w' kn kx kr Q hs3 hr ⟨fun e2 h2 a2 w2 k1 k2 k3=>hp.nrm e2 h2 a2 w2 k1 k2 (k3.trans hd),fun i e2 h2 a2 w2 k1 k2 k3=>hp.ext i e2 h2 a2 w2 k1 k2 (k3.trans hd),fun e2 h2 a2 w2 k1 k2 k3=>hp.ret e2 h2 a2 w2 k1 k2 (k3.trans hd),fun pv h2 v w2 a2 k1 k2 k3=>hp.pan pv h2 v w2 a2 k1 k2 (k3.trans hd)⟩
  case cond o x y=>
   have hx:SizeOf.sizeOf x<n:=by simp at hn;omega
   have hy:SizeOf.sizeOf y<n:=by simp at hn;omega
   cases o<;>(try exact absurd rfl hr)
   case const v=>
    simp only[ev]at hr hp
    have hav:∀b,cA v= .bool b->a.eval (.const v)= .bool b:=by
     intro b hb;show v= .bool b;cases v with
     |bool c=>simp only[cA,xF,AV.bool.injEq]at hb;rw[hb]
     |tuple vs=>simp only[cA]at hb;cases hvs:vs.isEmpty<;>rw[hvs]at hb<;>cases hb
     |pointer p=>cases p<;>(simp only[cA,xF]at hb;cases hb)
     |map p=>cases p<;>(simp only[cA,xF]at hb;cases hb)
     | slice p n m=>
      have hs:xF (.slice p n m)= .sl []\/xF (.slice p n m)= .any:=by
       cases p with
       |some q=>exact .inr rfl
       | none=>cases n with
        |succ n=>exact .inr rfl
        |zero=>cases m with
         |succ m=>exact .inr rfl
         |zero=>exact .inl rfl
      simp only[cA]at hb;rcases hs with hs|hs<;>rw[hs]at hb<;>cases hb
     |_=>simp only[cA,xF]at hb;cases hb
    cases hq:cA v<;>rw[hq]at hr hp<;>(try exact absurd rfl hr);rename_i b;cases b with
    |true=>exact wp_cond (hav true hq) (ih x hx e h a w kn kx kr Q H hr hp)
    |false=>exact wp_cond (hav false hq) (ih y hy e h a w kn kx kr Q H hr hp)
   rename_i t;simp only[ev]at hr hp;cases ht:decide (t<1000)with
   |false=>rw[ht]at hr;exact absurd rfl hr
   | true=>
    rw[ht]at hr hp;simp only[LF]at hr hp;have htl:t<1000:=by simpa using ht
    have hav:∀b,e.av t= .bool b->a.eval (.tmp t)= .bool b:=by
     intro b hb;obtain⟨S,β,γ,lam,ω,F⟩:=H;have hs:=F.slots t htl;simp only[Env.av,Ent.av]at hb;cases hv:(e.get t).v with
     |val av=>
      rw[hv]at hs hb;simp only at hb;subst hb;simp only[fg,VR]at hs;exact hs
     |loc B off=>rw[hv]at hb;cases hb
    cases hq:e.av t<;>rw[hq]at hr hp<;>(try exact absurd rfl hr);rename_i b;cases b with
    |true=>exact wp_cond (hav true hq) (ih x hx e h a w kn kx kr Q H hr hp)
    |false=>exact wp_cond (hav false hq) (ih y hy e h a w kn kx kr Q H hr hp)
  case block id code=>
   refine wp_block ?_;by_cases hc:∃b,code= .loop b
   ·obtain⟨b,rfl⟩:=hc;have hb:SizeOf.sizeOf b<n:=by simp at hn;omega
    simp only[ev]at hr hp;cases hja:nF cx.ann.loops id with
    |none=>rw[hja]at hr;exact absurd rfl hr
    | some ja=>
     rw[hja]at hr hp;simp only at hr hp;refine jJ.loop ?_;obtain⟨vs,h3,hj,hs3⟩:=tc H hr;rw[hj]at hr hp;have key:∀(k:Nat)(vs:List AV)(h:Hp)(a1:Act)(w:World),jE c cx.nt (unpack ja vs) h a1 w->a1.defers=a.defers->
       dc k (fun self vs=>ev cx (dc m) b (unpack ja vs) (qm ja self) (fun i e'=>bif Nat.beq i id then kn e' else kx i e') kr) vs h≠.fail->
       Posts c cx.nt (dc k (fun self vs=>ev cx (dc m) b (unpack ja vs) (qm ja self) (fun i e'=>bif Nat.beq i id then kn e' else kx i e') kr) vs h) a kn kx kr Q->jJ P b (Exit.inBlock id Q) a1 w:=by
      intro k
      induction k with
      |zero=>intro vs h a1 w _ _ hr _;exact absurd rfl hr
      | succ k ihk=>
       intro vs h a1 w hs hd hr hp;simp only[dc]at hr hp;refine jJ.round (ih b hb (unpack ja vs) h a1 w _ _ kr _ hs hr ⟨fun e' h' a' w' hok hs' hd'=>?_,fun i e' h' a' w' hok hs' hd'=>?_,fun e' h' a' w' hok hs' hd'=>hp.ret e' h' a' w' hok hs' (hd'.trans hd),fun pv h' v w' a' hok hs' hd'=>hp.pan pv h' v w' a' hok hs' (hd'.trans hd)⟩)
       ·rw[hok]at hr hp;obtain⟨vs',h4,hj',hs4⟩:=tc hs' hr;rw[hj']at hr hp;exact ihk vs' h4 a' w' hs4 (hd'.trans hd) hr hp
       ·cases hi:Nat.beq i id with
        |true=>
         rw[hi]at hok
         have:=LN hi
         subst this;show Exit.inBlock i Q (.exit i) a' w';simp only[Exit.inBlock,Mc];exact hp.nrm e' h' a' w' hok hs' (hd'.trans hd)
        |false=>
         rw[hi]at hok;have hne:i≠id:=fun hh=>by subst hh;simp at hi
         show Exit.inBlock id Q (.exit i) a' w';simp only[Exit.inBlock,if_neg hne];exact hp.ext i e' h' a' w' hok hs' (hd'.trans hd)
     exact key m vs h3 a w hs3 rfl hr hp
   ·have hc':∀b,code≠.loop b:=fun b hb=>hc ⟨b,hb⟩;rw[AW hc']at hr hp;have hs:SizeOf.sizeOf code<n:=by simp at hn;omega
    refine ih code hs e h a w kn _ kr _ H hr ⟨fun e' h' a' w' hok hs' hd'=>hp.nrm e' h' a' w' hok hs' hd',fun i e' h' a' w' hok hs' hd'=>?_,fun e' h' a' w' hok hs' hd'=>hp.ret e' h' a' w' hok hs' hd',fun pv h' v w' a' hok hs' hd'=>hp.pan pv h' v w' a' hok hs' hd'⟩;cases hi:Nat.beq i id with
    |true=>
     rw[hi]at hok
     have:=LN hi
     subst this;show Exit.inBlock i Q (.exit i) a' w';simp only[Exit.inBlock,Mc];exact hp.nrm e' h' a' w' hok hs' hd'
    |false=>
     rw[hi]at hok;have hne:i≠id:=fun hh=>by subst hh;simp at hi
     show Exit.inBlock id Q (.exit i) a' w';simp only[Exit.inBlock,if_neg hne];exact hp.ext i e' h' a' w' hok hs' hd'
end
end Go.Av
namespace Go.Av
variable [Dr]
omit [Dr]in
theorem oI:∀(args:List AV)(i t:Nat),bY (tx i args) t=if i<=t/\t<i+args.length then⟨.val (nth args (t-i)),none⟩else Ent.none
 |[],i,t=>by
  simp only[tx,bY,Mb,MZ];rw[if_neg (by omega)]
 | a:: as0,i,t=>by
  simp only[tx,cr,LQ];by_cases h:i=t
  ·subst h;rw[LC rfl,LC (by omega)];simp[nth]
  ·rw[if_neg h,oI as0 (i+1) t];by_cases h2:i+1<=t/\t<i+1+as0.length
   ·rw[LC h2,LC (by omega)];have:t-i=(t-(i+1))+1:=by omega
    simp[nth,this]
   ·rw[if_neg h2,if_neg (by omega)]
section
variable {P:Program} {cx:Cx}
open Classical in
theorem xk{w:World}{S:aF}{β:List bO}{h:Hp}{args:List AV}{vs:List Value}{n:Nat}(hg:qK S β h w)(hw:Wf S w)(hh:de S β w h)(hv:bg S β args vs)(hn:args.length<=n)(hn2:n<=1000):
  ∃γ lam ω,FR { w,S,β,E:=cG β h,gok:=hg } n (fun g=>g<(oh args).nx*1000) (oh args) h { tmps:=vs.toArray++Array.replicate (n-vs.toArray.size) undef,defers:=[] } w S β γ lam ω:=by
 obtain⟨hlen,ω0,hr⟩:=hh;have hvl:=hv.length;have hget:∀t,(oh args).get t=if t<args.length then⟨.val (nth args t),none⟩else Ent.none:=fun t=>by
  have:=oI args 0 t
  simp only[LZ,Ow,Ma,OL]at this;exact this
 let ω:Nat->Owner:=fun b=>if cG β h b then ω0 b else .no;refine⟨fun _=>undef,fun _=>none,ω,⟨hw,Gro.refl _,fun b _ _=>⟨rfl,fun _=>rfl⟩,aF.le_refl S,fu.refl β,hlen,fun l cs hl hcs=>?_,⟨?_,hn2⟩,fun t ht=>?_,fun t g z ht hg=>?_,fun B m hB=>?_,fun g z hz=>?_,fun b hb=>?_,fun t g hg=>?_,fun g z hz=>?_⟩⟩
 ·have hown:∀b n,β[l]? = some (b,n)->ω0 b= .heap l->ω b= .heap l:=fun b n h1 h3=>by
   show (if cG β h b then ω0 b else .no)=_;rw[LC ⟨l,cs,_,hl,hcs,h1⟩];exact h3
  rcases hr l cs hl hcs with⟨b,x,h1,h2,h3,h4⟩|⟨b,h1,h3,h4⟩
  ·exact .inl ⟨b,x,h1,h2,hown b _ h1 h3,h4⟩
  ·exact .inr ⟨b,h1,hown b _ h1 h3,h4⟩
 ·simp;omega
 ·rw[hget];split
  ·rename_i hlt;have hx:args[t]? = some (nth args t):=by simp[nth,hlt]
   obtain⟨v,h1,h2⟩:=hv.get hx;have:(vs.toArray++Array.replicate (n-vs.toArray.size) undef).getD t undef=v:=by
    rw[Mh,OD (by simp;omega)];simp[h1]
   rw[this];exact h2
  ·simp[Ent.none,fg,VR]
 ·rw[hget]at hg;split at hg<;>cases hg
 ·cases hB
 ·cases hz
 ·have hb':cG β h b:=by
   by_cases ho:cG β h b
   ·exact ho
   ·exact absurd (show ω b= .no from if_neg ho) hb
  obtain⟨l,cs,m,h1,h2,h3⟩:=hb';obtain⟨b',x,k1,k2,k3,_⟩:=hr.own h1 h2;rw[h3]at k1;cases k1;have hω:ω b= .heap l:=by
   show (if cG β h b then ω0 b else .no)=_;rw[LC ⟨l,cs,_,h1,h2,h3⟩];exact k3
  exact⟨.inl ⟨⟨l,cs,_,h1,h2,h3⟩,fun g=>by rw[hω];simp⟩,k2⟩
 ·rw[hget]at hg;split at hg<;>cases hg
 ·cases hz
theorem start{w:World}{S:aF}{β:List bO}{h:Hp}{args:List AV}{vs:List Value}{n:Nat}(hg:qK S β h w)(hw:Wf S w)(hh:de S β w h)(hv:bg S β args vs)(hn:args.length<=n)(hn2:n<=1000):
  jE { w,S,β,E:=cG β h,gok:=hg } n (oh args) h { tmps:=vs.toArray++Array.replicate (n-vs.toArray.size) undef,defers:=[] } w:=⟨S,β,xk hg hw hh hv hn hn2⟩
def gL(tmps:Array Value):ResultVar->Sem Value
 |.tmp t=>pure (tmps.getD t undef)
 |.cell p t=>do loadVar t (<- asAddr (tmps.getD p undef))
omit [Dr]in
theorem qa(fn:Func)(tmps:Array Value):results fn tmps=(do let vs <- fn.results.mapM (gL tmps);pure (if h:vs.size=1 then vs[0]else .tuple vs)):=by
 unfold results;congr 1
theorem GV{c:Entry}{N:Nat}{U:Nat->Prop}{e:Env}{h:Hp}{a:Act}{w:World}{S:aF}{β:List bO}{γ:Nat->Value}{lam:Nat->Option Nat}{ω:Nat->Owner}(hT:TOK P cx.T)(F:FR c N U e h a w S β γ lam ω){r:ResultVar}{v:AV}(hr:uZ cx.T e r=some v):∃u,(gL a.tmps r).run P w= .ok u w/\VR S β v u:=by
 cases r with
 | tmp t=>
  simp only[uZ]at hr;cases ht:decide (t<1000)with
  |false=>rw[ht]at hr;cases hr
  | true=>
   rw[ht]at hr;simp only[LF]at hr;have hs:=F.slots t (by simpa using ht);cases hv:(e.get t).v with
   |loc B off=>rw[hv]at hr;cases hr
   |val av=>
    rw[hv]at hr hs;simp only[LA]at hr;subst hr;exact⟨_,by simp only[gL,Sem.run_pure],hs⟩
 | cell p t=>
  simp only[uZ]at hr;cases hp:decide (p<1000)with
  |false=>rw[hp]at hr;cases hr
  | true=>
   rw[hp]at hr;simp only[LF]at hr;have hs:=F.slots p (by simpa using hp);cases hv:(e.get p).v with
   | loc B off=>
    rw[hv]at hr hs;cases ht:cx.T t with
    |none=>rw[ht]at hr;cases hr
    | some ti=>
     rw[ht]at hr;simp only at hr;cases hin:kL e B off ti.size with
     |false=>rw[hin]at hr;cases hr
     | true=>
      rw[hin]at hr;simp only[LF]at hr;simp only[fg]at hs;obtain⟨b,hlam,hpv⟩:=hs;obtain⟨b',x,m,hm,hle,hlam',hrow,hms,hcells⟩:=F.locals hin;rw[hlam]at hlam';cases hlam';let f:Nat->Value:=fun i=>(x[off+i]?).getD undef;have hf:∀i,i<ti.size->x[off+i]? = some (f i):=fun i hi=>by
       obtain⟨v,_,hv',_⟩:=hcells i hi;show _=some ((x[off+i]?).getD undef);rw[hv'];rfl
      have hload:=nO hT ht hrow f hf;have hexec:∀v,(loadVar t ⟨b,off,none⟩).run P w= .ok v w->(gL a.tmps (.cell p t)).run P w= .ok v w:=fun v hv'=>by
       simp only[gL];rw[hpv];simpa [asAddr]using hv'
      cases hag:ti.agg with
      |true=>
       rw[hag]at hr;simp only[LF,LA]at hr;subst hr;refine⟨_,hexec _ (hload.1 hag),?_⟩;simp only[VR];refine⟨_,rfl,pf ti.size fun i hi=>?_⟩;obtain⟨v,a',g1,g2,g3,_⟩:=hcells i hi;have:f i=v:=by show (x[off+i]?).getD undef=v;rw[g1];rfl
       rw[this];simp only[Env.av,Ent.av,g2];exact g3
      | false=>
       rw[hag]at hr;simp only[LL]at hr;cases hone:decide (ti.size=1)with
       |false=>rw[hone]at hr;cases hr
       |true=>
        rw[hone]at hr;simp only[LF,LA]at hr;subst hr;have hone':ti.size=1:=by simpa using hone
        obtain⟨v,a',g1,g2,g3,g4⟩:=hcells 0 (by omega);simp only[MZ]at g1 g2 g4;have hfv:f 0=v:=by show (x[off+0]?).getD undef=v;rw[MZ,g1];rfl
        refine⟨v,hexec _ (hfv▸hload.2 hag hone'),?_⟩;simp only[Env.av,Ent.av,g2];exact g3
   | val av=>
    rw[hv]at hr hs;cases ht:cx.T t with
    |none=>rw[ht]at hr;cases hr
    |some ti=>
     rw[ht]at hr;simp only at hr;obtain⟨v,h1,h2⟩:=xW hT F.wf hr hs;refine⟨v,?_,h2⟩;unfold aj at hr;rw[ht]at hr;cases av<;>simp only[reduceCtorEq]at hr;simp only[fg,VR]at hs;obtain⟨b,off,vs,hpv,_,_⟩:=hs;simp only[gL];rw[hpv]at h1 |-;simpa [Instr.loadAt,Instr.sureAddr,asAddr]using h1
theorem xd{c:Entry}{N:Nat}{U:Nat->Prop}{e:Env}{h:Hp}{a:Act}{w:World}{S:aF}{β:List bO}{γ:Nat->Value}{lam:Nat->Option Nat}{ω:Nat->Owner}(hT:TOK P cx.T)(F:FR c N U e h a w S β γ lam ω){fn:Func}{vs:List AV}(hr:fZ cx.T e fn.results.toList=some vs):∃u,(results fn a.tmps).run P w= .ok u w/\VR S β (kV vs) u:=by
 have key:∀(l:List ResultVar)(vs:List AV),fZ cx.T e l=some vs->∃us:List Value,(l.mapM (gL a.tmps)).run P w= .ok us w/\bg S β vs us:=by
  intro l
  induction l with
  |nil=>intro vs h;simp only[fZ,LA]at h;subst h;exact⟨[],by simp,by simp[bg]⟩
  | cons r rs ih=>
   intro vs h;simp only[fZ]at h;cases h1:uZ cx.T e r with
   |none=>rw[h1]at h;cases h
   | some v=>
    cases h2:fZ cx.T e rs with
    |none=>rw[h1,h2]at h;cases h
    |some vs'=>
     rw[h1,h2]at h;simp only[LA]at h;subst h;obtain⟨u,k1,k2⟩:=GV hT F h1;obtain⟨us,m1,m2⟩:=ih vs' h2;refine⟨u:: us,?_,by simp only[bg];exact⟨u,us,rfl,k2,m2⟩⟩;rw[List.mapM_cons,Sem.run_bind,k1,Result.andThen_ok,Sem.run_bind,m1,Result.andThen_ok,Sem.run_pure]
 obtain⟨us,k1,k2⟩:=key _ _ hr;have hlen:=k2.length;have hrun:(fn.results.mapM (gL a.tmps)).run P w= .ok us.toArray w:=by
  rw[OJ];rw[map_eq_pure_bind,Sem.run_bind,k1,Result.andThen_ok,Sem.run_pure]
 refine⟨if h:us.toArray.size=1 then us.toArray[0]else .tuple us.toArray,?_,?_⟩
 ·rw[qa,Sem.run_bind,hrun,Result.andThen_ok,Sem.run_pure]
 ·unfold kV;split
  ·rename_i v;cases us with
   |nil=>simp at hlen
   |cons u us=>
    cases us with
    |nil=>simp only[bg]at k2;obtain⟨x,xs,hx,hy,_⟩:=k2;simp at hx;simp[hx.1,hy]
    |cons u2 us=>simp at hlen
  ·rename_i hne;rw[dif_neg]
   ·simp only[VR];exact⟨us,rfl,k2⟩
   ·intro h1;have:vs.length=1:=by rw[<- hlen];simpa using h1
    match vs,this with
    |[v],_=>exact hne v rfl
end
end Go.Av
namespace Go.Av
variable [Dr]
omit [Dr]in
theorem uB{n:Nat}{ks:List (Nat×Kind)}(h:lY n ks=true):∀p,zp (cy ks p .L)=true->p<n:=by
 intro p hp
 induction ks with
 |nil=>simp[cy,zp]at hp
 | cons x ks ih=>
  obtain⟨k,y⟩:=x;unfold lY at h;simp only[MQ,LD]at h;simp only[cy]at hp;cases hk:Nat.beq k p with
  |true=>
   rw[hk]at hp;simp only[LF]at hp
   have:=h.1
   rw[hp]at this;have hk':=LN hk;subst hk';simpa using this
  |false=>
   rw[hk]at hp;exact ih h.2 hp
section
variable {P:Program} {cx:Cx}
theorem GO{c:Entry}{N:Nat}{U:Nat->Prop}{e:Env}{h:Hp}{a:Act}{w:World}{S:aF}{β:List bO}{γ:Nat->Value}{lam:Nat->Option Nat}{ω:Nat->Owner}(F:FR c N U e h a w S β γ lam ω){fn:Func}{sz:Nat}(ho:sV fn e sz=true){u:Value}(hu:(results fn a.tmps).run P w= .ok u w):r7 c.w.heap.size S β w h sz u:=by
 unfold sV at ho;split at ho
 ·rename_i t hres;cases ht:decide (t<1000)with
  |false=>rw[ht]at ho;cases ho
  | true=>
   rw[ht]at ho;simp only[MV]at ho;split at ho
   ·rename_i g hg;split at ho
    ·rename_i z hz;have hgr:=F.grps t g z (by simpa using ht) hg hz;obtain⟨ad,len,cap,h1,h2,h3,h4⟩:=F.free g z hz;have hue:u=a.tmps.getD t undef:=by
      have hr:fn.results= #[.tmp t]:=by apply Ni;simpa using hres
      rw[qa,hr]at hu;simp[gL]at hu;simpa using hu.symm
     rw[hue,hgr];refine⟨ad,len,cap,h1,h2,h3,h4.imp id ?_⟩;rintro⟨sz',b,off,x,k1,k2,k3,k4,k5,k6⟩;have hsz:sz'=sz:=by
      rw[k1]at ho;simp only[tb]at ho;exact LN ho
     subst hsz;refine⟨b,off,x,k2,k3,k4,(F.mine b (by rw[k5];simp)).1.grp k5,fun hb=>?_,k6⟩;obtain⟨l,_,hl,_⟩:=F.hown hb;rw[k5]at hl;cases hl
    ·cases ho
   ·cases ho
 ·cases ho
omit [Dr]in
theorem B5{fn:Func}{own:Option Nat}{e:Env}{h:Hp}(hr:iT cx fn own e h≠.fail):∃rs,fZ cx.T e fn.results.toList=some rs/\(iT cx fn own e h= .ok (kV rs) h\/(own=none/\iT cx fn own e h= .ok (fV 6 h (kV rs)) (h.map fun _=>[])))/\∀sz,own=some sz->sV fn e sz=true:=by
 have key:∀b z:Bool,(bif b then ae (af ((fZ cx.T e fn.results.toList).map kV)) (bif z then(bif own.isSome then fun _=>M.fail else xQ)else M.pure)else M.fail:M AV) h≠.fail->b=true/\∃rs,fZ cx.T e fn.results.toList=some rs/\
   ((bif b then ae (af ((fZ cx.T e fn.results.toList).map kV)) (bif z then(bif own.isSome then fun _=>M.fail else xQ)else M.pure)else M.fail:M AV) h= .ok (kV rs) h\/
    (own=none/\(bif b then ae (af ((fZ cx.T e fn.results.toList).map kV)) (bif z then(bif own.isSome then fun _=>M.fail else xQ)else M.pure)else M.fail:M AV) h= .ok (fV 6 h (kV rs)) (h.map fun _=>[]))):=by
  intro b z hr;cases b with
  |false=>exact absurd rfl hr
  | true=>
   refine⟨rfl,?_⟩;cases hres:fZ cx.T e fn.results.toList with
   |none=>rw[hres]at hr;exact absurd rfl hr
   | some rs=>
    rw[hres]at hr;cases z with
    |false=>exact⟨rs,rfl,.inl rfl⟩
    |true=>
     cases own with
     |none=>exact⟨rs,rfl,.inr ⟨rfl,rfl⟩⟩
     |some sz=>exact absurd rfl hr
 unfold iT at hr |-;cases own with
 |none=>
  obtain⟨_,rs,h1,h2⟩:=key true _ hr;exact⟨rs,h1,h2,fun sz hsz=>by cases hsz⟩
 |some sz=>
  obtain⟨h0,rs,h1,h2⟩:=key _ _ hr;exact⟨rs,h1,h2,fun sz' hsz=>by cases hsz;exact h0⟩
theorem gZ(hT:TOK P cx.T)(hC:cS P cx.own cx.call)(hI:IsoCall cx)(m:Nat){f:FuncId}{fn:Func}(hf:P.funcs[f]? = some fn)(hnt:cx.nt=fn.ntmps){own:Option Nat}{args:List AV}{h:Hp}{S:aF}{β:List bO}{w:World}{vs:List Value}(hr:cX cx (dc m) fn own args h≠.fail)(hg:qK S β h w)(hw:Wf S w)(hh:de S β w h)(hv:bg S β args vs):Calls P f vs.toArray w (ee own S β h w (cX cx (dc m) fn own args h))/\fn.body.isSome=true:=by
 unfold cX at hr |-;cases hb:fn.body with
 |none=>rw[hb]at hr;exact absurd rfl hr
 | some code=>
  rw[hb]at hr;simp only at hr |-;refine⟨?_,rfl⟩;cases hc:(decide (args.length<=fn.ntmps)&&decide (fn.ntmps<=1000)&&lY cx.nt cx.ann.kinds)with
  |false=>rw[hc]at hr;exact absurd rfl hr
  | true=>
   rw[hc]at hr;simp only[LF]at hr |-;simp only[LD,LB]at hc;obtain⟨⟨hc1,hc2⟩,hc3⟩:=hc;have H:jE { w,S,β,E:=cG β h,gok:=hg } cx.nt (oh args) h { tmps:=vs.toArray++Array.replicate (fn.ntmps-vs.toArray.size) undef,defers:=[] } w:=by
    rw[hnt];exact start hg hw hh hv hc1 hc2
   have hret:∀(e':Env)(h':Hp)(a':Act)(w':World),ev cx (dc m) code (oh args) (iT cx fn own) (fun _ _=>M.fail) (iT cx fn own) h=iT cx fn own e' h'->
     jE { w,S,β,E:=cG β h,gok:=hg } cx.nt e' h' a' w'->∃v,(results fn a'.tmps).run P w'= .ok v w'/\ee own S β h w (ev cx (dc m) code (oh args) (iT cx fn own) (fun _ _=>M.fail) (iT cx fn own) h) (.returned v) w':=by
    intro e' h' a' w' hok hs;rw[hok]at hr |-;obtain⟨rs,hres,hret,hown⟩:=B5 hr;obtain⟨S',β',γ,lam,ω,F⟩:=hs;obtain⟨u,hu1,hu2⟩:=xd (P:=P) hT F hres;rcases hret with hret|⟨rfl,hret⟩
    ·rw[hret];exact⟨u,hu1,S',β',u,rfl,hu2,F.out,fun sz hsz=>GO F (hown sz hsz) hu1⟩
    ·rw[hret];obtain⟨S2,ω2,F2,hf⟩:=F.freeze;exact⟨u,hu1,S2,β',u,rfl,hf _ _ hu2,F2.out,fun sz hsz=>by cases hsz⟩
   refine calls_of_wp hf hb (AX hT hC hI (uB hc3) m _ code (N9 _) (oh args) h _ w _ _ _ _ H hr ⟨fun e' h' a' w' hok hs hd=>?_,fun i e' h' a' w' hok hs hd=>?_,fun e' h' a' w' hok hs hd=>?_,fun pv h' v w' a' hok hs hd=>?_⟩)
   ·exact⟨hd,hret e' h' a' w' hok hs⟩
   ·rw[hok]at hr;exact absurd rfl hr
   ·exact⟨hd,hret e' h' a' w' hok hs⟩
   ·refine⟨hd,?_⟩;rw[hok];obtain⟨S',β',hout,hvr⟩:=hs;exact⟨S',β',v,rfl,hvr,hout⟩
end
open Classical in
theorem xT{S:aF}{β:List bO}{w w':World}{h:Hp}(_hw:Wf S w)(hh:de S β w h){β0:List bO}{h0:Hp}(hE:∀b,¬cG β0 h0 b){S':aF}{β':List bO}{h':Hp}(L:Left (cG β0 h0) S β0 w S' β' w' h'):∃S2,Left (cG β h) S β w S2 β w' h/\(∀a v,VR S' β' a v->VR S2 β (fV 6 h' a) v)/\∀sz v,r7 w.heap.size S' β' w' h' sz v->r7 w.heap.size S2 β w' h sz v:=by
 obtain⟨hlen,ω,hH⟩:=L.heap;have hnew:∀b,cG β' h' b->w.heap.size<=b:=fun b hb=>(L.owned b hb).resolve_left (hE b);let S2:aF:=fun b o=>if cG β' h' b then w'.cell? ⟨b,o,none⟩else S' b o;have hS2n:∀b,¬cG β' h' b->∀o,S2 b o=S' b o:=fun b hb o=>if_neg hb;have hS2y:∀b,cG β' h' b->∀o,S2 b o=w'.cell? ⟨b,o,none⟩:=fun b hb o=>LC hb;have hle:S'.le S2:=by
  intro b o v hv;by_cases hb:cG β' h' b
  ·obtain⟨l,cs,n,h1,h2,h3⟩:=hb;obtain⟨b',x,k1,k2,k3,k5⟩:=hH.own h1 h2;rw[h3]at k1;cases k1;rw[k5]at hv;cases hv
  ·rw[hS2n b hb];exact hv
 have hrow:∀b,b<w.heap.size->w'.heap[b]? = w.heap[b]? /\∀o,S2 b o=S b o:=by
  intro b hb;have hk:=L.keep b hb (hE b);refine⟨hk.1,fun o=>?_⟩;rw[hS2n b (fun ho=>by have:=hnew b ho;omega)];exact hk.2 o
 have hwf:Wf S2 w':=by
  intro b o v hv;by_cases hb:cG β' h' b
  ·rw[hS2y b hb]at hv;exact hv
  ·rw[hS2n b hb]at hv;exact L.wf b o v hv
 obtain⟨hlen0,ω0,hH0⟩:=hh;have hlt0:∀b,cG β h b->b<w.heap.size:=by
  rintro b ⟨l,cs,n,h1,h2,h3⟩;obtain⟨b',x,k1,k2,_⟩:=hH0.own h1 h2;rw[h3]at k1;cases k1;exact k2
 have hle0:S.le S2:=aF.le_trans L.le hle;refine⟨S2,⟨hle0,fu.refl β,hwf,L.gro,fun b hb _=>hrow b hb,⟨hlen0,ω0,hH0.rows hle0 (fu.refl β) hlen0 fun l cs hl _=>.inl ⟨hl,fun b hb ho=>⟨ho,(hrow b hb).1,fun o h=>by rw[(hrow b hb).2];exact h⟩⟩⟩,fun b hb=>.inl hb⟩,fun a v hv=>sG hH hle (fun b o x hb hr=>?_) 6 a v hv,fun sz v=>?_⟩
 ·rw[hS2y b hb,hr.cell]
 ·rintro⟨ad,len,cap,k1,k2,k3,k4⟩;refine⟨ad,len,cap,k1,k2,k3,k4.imp id ?_⟩;rintro⟨b,off,x,p1,p2,p3,p4,p5,p6⟩;refine⟨b,off,x,p1,p2,p3,p4,fun hb=>?_,fun o ho=>by rw[hS2n b p5];exact p6 o ho⟩
  have:=hlt0 b hb
  omega
theorem Bf{S:aF}{β:List bO}{w w':World}{h:Hp}{own:Option Nat}{m:List AV->M AV}{args:List AV}{en:Ending}(hw:Wf S w)(hh:de S β w h)(hp:ee own S [] [] w (m (dn az args) []) en w'):ee own S β h w (pw m args h) en w':=by
 have key:=fun{S':aF} {β':List bO} {h':Hp} (L:Left (cG [] []) S [] w S' β' w' h')=>xT hw hh (by rintro b ⟨l,cs,n,h1,_⟩;simp at h1) L;unfold pw;cases hm:m (dn az args) []with
 |fail=>rw[hm]at hp;exact hp.elim
 |ok r h'=>
  rw[hm]at hp;obtain⟨S',β',v,h1,h2,h3,h4⟩:=hp;obtain⟨S2,k1,k2,k3⟩:=key h3;exact⟨S2,β,v,h1,k2 r v h2,k1,fun sz hsz=>k3 sz v (h4 sz hsz)⟩
 |pan r h'=>
  rw[hm]at hp;obtain⟨S',β',v,h1,h2,h3⟩:=hp;obtain⟨S2,k1,k2,k3⟩:=key h3;exact⟨S2,β,v,h1,k2 r v h2,k1⟩
structure GoodPg (P:Program) (p:Pg):Prop where
 tok:TOK P p.T
 funcs:∀f fn a,p.funcs f=some (fn,a)->P.funcs[f]? = some fn/\(fn.name== "runtime.NumGoroutine")=false
 other:∀f E,p.other f=some E->∀call,cS P p.own call->∀(args:List AV)(h:Hp)(S:aF)(β:List bO)(w:World)(vs:List Value),E call args h≠.fail->qK S β h w->Wf S w->de S β w h->bg S β args vs->
  Calls P f vs.toArray w (ee (p.own f) S β h w (E call args h))/\(P.funcs[f]?).any (fun fn=>fn.body.isSome&&!(fn.name== "runtime.NumGoroutine"))=true
 nw:∀f,p.nw f=true->∃E,p.other f=some E/\∀call args,xw (E call args)
omit [Dr]in
theorem de.nil{S:aF}{w:World}:de S [] w []:=⟨rfl,fun _=>.no,fun l cs hl=>by simp at hl⟩
theorem tV{P:Program}{p:Pg}(G:GoodPg P p)(m:Nat){call:FuncId->List AV->M AV}(hC:cS P p.own call)(hI:∀n a,IsoCall (p.cx call n a)):cS P p.own (iv p call (dc m)):=by
 intro f args h S β w vs hr hg hw hh hv;unfold iv at hr |-;cases ho:p.other f with
 |some E=>rw[ho]at hr;exact G.other f E ho call hC args h S β w vs hr hg hw hh hv
 | none=>
  rw[ho]at hr;simp only at hr |-;cases hf:p.funcs f with
  |none=>rw[hf]at hr;exact absurd rfl hr
  | some x=>
   obtain⟨fn,a⟩:=x;rw[hf]at hr;simp only at hr |-;obtain⟨hf1,hf2⟩:=G.funcs f fn a hf
   have hany:fn.body.isSome=true->(P.funcs[f]?).any (fun fn=>fn.body.isSome&&!(fn.name== "runtime.NumGoroutine"))=true:=by
    intro hb;rw[hf1];simp only[Option.any_some,hb,hf2,M0,NT]
   cases hi:a.iso with
   |false=>
    rw[hi]at hr;simp only[LL]at hr |-;obtain⟨h1,h2⟩:=gZ (cx:=p.cx call fn.ntmps a) G.tok hC (hI _ _) m hf1 rfl hr hg hw hh hv;exact⟨h1,hany h2⟩
   | true=>
    rw[hi]at hr;simp only[LF]at hr |-;have hr':cX (p.cx call fn.ntmps a) (dc m) fn (p.own f) (dn az args) []≠.fail:=by
     intro hf;unfold pw at hr;rw[hf]at hr;exact hr rfl
    obtain⟨h1,h2⟩:=gZ (cx:=p.cx call fn.ntmps a) G.tok hC (hI _ _) m hf1 rfl hr' ⟨hg.1,fun b _ hb=>by obtain⟨l,_,_,h1,_⟩:=hb;simp at h1,hg.2.2⟩ hw de.nil (AE hv);exact⟨h1.mono fun en w' hp=>Bf hw hh hp,hany h2⟩
omit [Dr]in
theorem wB(p:Pg)(hN:∀f,p.nw f=true->∃E,p.other f=some E/\∀call args,xw (E call args)):∀n k a,IsoCall (p.cx (dq p n) k a)
 |0,k,a=>⟨fun f args _=>⟨none,fun _=>rfl⟩,fun f args _ h v h' hh=>by cases hh⟩
 | n+1,k,a=>by
  refine⟨?_,fun f args hf=>?_⟩
  case refine_2=>
   obtain⟨E,hE,hn⟩:=hN f hf;have:(p.cx (dq p (n+1)) k a).call f args=E (dq p n) args:=by
    show iv p (dq p n) (dc n) f args=_;unfold iv;rw[hE]
   rw[this];exact hn _ _
  intro f args hi;have hi':p.iso f=true:=hi;unfold Pg.iso at hi';cases ho:p.other f with
  |some E=>rw[ho]at hi';cases hi'
  | none=>
   rw[ho]at hi';simp only at hi';cases hf:p.funcs f with
   |none=>rw[hf]at hi';cases hi'
   |some x=>
    obtain⟨fn,b⟩:=x;rw[hf]at hi';simp only at hi';refine⟨match cX (p.cx (dq p n) fn.ntmps b) (dc n) fn (p.own f) (dn az args) []with|.ok r h'=>some (true,fV 6 h' r)|.pan v h'=>some (false,fV 6 h' v)|.fail=>none,fun h=>?_⟩;show iv p (dq p n) (dc n) f args h=_;unfold iv;rw[ho];simp only;rw[hf];simp only[hi',LF,pw];cases cX (p.cx (dq p n) fn.ntmps b) (dc n) fn (p.own f) (dn az args) []<;>rfl
theorem lN{P:Program}{p:Pg}(G:GoodPg P p):∀n,cS P p.own (dq p n)
 |0=>fun _f _args _h _S _β _w _vs hr=>absurd rfl hr
 |n+1=>tV G n (lN G n) fun k a=>wB p G.nw n k a
end Go.Av
namespace Go.Av
def Be{m:List AV->M AV}{ms:Nat->List AV->M AV}(h:bm m ms)(args:List AV):aR (pw m args) fun n=>pw (ms n) args:=by
 intro x;obtain⟨h1,h2⟩:=h (dn az args) []
 (try dsimp only at h1 h2)
 refine⟨fun hne=>?_,fun n hne=>?_⟩
 ·have hne':m (dn az args) []≠.fail:=fun hf=>hne (by simp only[pw,hf]);obtain⟨N,hN⟩:=h1 hne';refine⟨N,fun n hn=>?_⟩
  (try dsimp only)
  simp only[pw,hN n hn]
 ·(try dsimp only at hne |-)
  have hne':ms n (dn az args) []≠.fail:=fun hf=>hne (by simp only[pw,hf]);simp only[pw,h2 n hne']
def dY(p:Pg):Prop:=∀f E,p.other f=some E->∀(call:FuncId->List AV->M AV)(calls:Nat->FuncId->List AV->M AV),(∀f,bm (call f) fun n=>calls n f)->bm (E call) fun n=>E (calls n)
section
variable {cx:Cx} {call:FuncId->List AV->M AV} {calls:Nat->FuncId->List AV->M AV} {fx:bH AV} {fxs:Nat->bH AV}
theorem wA(hc:∀f,bm (call f) fun n=>calls n f)(hfx:mD fx fxs)(hfc:tm fx)(hfcs:∀n,tm (fxs n))(fn:Func)(own:Option Nat):
  bm (cX (cx.wc call) fx fn own) fun n=>cX (cx.wc (calls n)) (fxs n) fn own:=by
 intro args;unfold cX;cases fn.body with
 |none=>exact aR.const _
 | some c=>
  have key:∀b:Bool,aR (bif b then ev (cx.wc call) fx c (oh args) (iT (cx.wc call) fn own) (fun _ _=>M.fail) (iT (cx.wc call) fn own)else M.fail) fun n=>(bif b then ev (cx.wc (calls n)) (fxs n) c (oh args) (iT (cx.wc (calls n)) fn own) (fun _ _=>M.fail) (iT (cx.wc (calls n)) fn own)else M.fail):=by
   intro b;cases b with
   |false=>exact aR.const _
   |true=>
    have hr:bm (iT (cx.wc call) fn own) fun n=>iT (cx.wc (calls n)) fn own:=bm.const (iT cx fn own);exact Gn _ c (N9 _) call calls fx fxs hc hfx hfc hfcs (oh args) _ (fun n=>iT (cx.wc (calls n)) fn own) _ (fun _ _ _=>M.fail) _ (fun n=>iT (cx.wc (calls n)) fn own) hr (fun i=>bm.const _) hr
  exact key (decide (args.length<=fn.ntmps)&&decide (fn.ntmps<=1000)&&lY cx.nt cx.ann.kinds)
theorem q7{p:Pg}(hO:dY p)(hc:∀f,bm (call f) fun n=>calls n f)(hfx:mD fx fxs)(hfc:tm fx)(hfcs:∀n,tm (fxs n))(f:FuncId):bm (iv p call fx f) fun n=>iv p (calls n) (fxs n) f:=by
 intro args;unfold iv;cases ho:p.other f with
 |some E=>exact hO f E ho call calls hc args
 | none=>
  simp only;cases p.funcs f with
  |none=>exact aR.const _
  |some x=>
   obtain⟨fn,a⟩:=x;simp only;have hb:=wA (cx:=p.cx call fn.ntmps a) hc hfx hfc hfcs fn (p.own f);cases a.iso with
   |true=>exact Be hb args
   |false=>exact hb args
end
theorem nD{p:Pg}(hO:dY p):∀n f args,vI (dq p n f args) (dq p (n+1) f args)
 |0,f,args=>fun x hne=>absurd rfl hne
 | n+1,f,args=>by
  have hc:∀f,bm (dq p (n+1) f) fun m=>(if m=0 then dq p n else dq p (n+1)) f:=by
   intro f args x;refine⟨fun _=>⟨1,fun m hm=>?_⟩,fun m hne=>?_⟩
   ·(try dsimp only)
    rw[if_neg (by omega)]
   ·(try dsimp only at hne |-)
    by_cases h0:m=0
    ·rw[LC h0]at hne |-;exact nD hO n f args x hne
    ·rw[if_neg h0]
  have h:=q7 hO hc (t6 n) (sD (n+1)) (fun m=>by
   by_cases h0:m=0
   ·rw[LC h0];exact sD n
   ·rw[if_neg h0];exact sD (n+1)) f args
  intro x hne
  have:=(h x).2 0
  (try dsimp only at this)
  rw[LC rfl,LC rfl]at this;exact this hne
def sB{p:Pg}(hO:dY p){n m:Nat}(h:n<=m)(f:FuncId)(args:List AV):vI (dq p n f args) (dq p m f args):=by
 induction m with
 | zero => have:n=0:=by omega
           subst this;exact .refl _
 |succ m ih=>
  by_cases hn:n=m+1
  ·subst hn;exact .refl _
  ·exact (ih (by omega)).trans (nD hO m f args)
open Classical in
noncomputable def ai(p:Pg)(f:FuncId)(args:List AV):M AV:=fun h=>if hx:∃n,dq p n f args h≠.fail then dq p (Classical.choose hx) f args h else .fail
def ky{p:Pg}(hO:dY p)(f:FuncId):bm (ai p f) fun n=>dq p n f:=by
 intro args h;refine qY (fun n m hnm hne=>sB hO hnm f args h hne) ?_;unfold ai;by_cases hx:∃n,dq p n f args h≠.fail
 ·left;simp only[dif_pos hx];exact⟨_,Oc hx,rfl⟩
 ·right;simp only[dif_neg hx];exact⟨fun n=>NX fun h=>hx ⟨n,h⟩,trivial⟩
def oz.uniq{α:Type}{a a':R α}{b:Nat->R α}(h:oz a b)(g:oz a' fun n=>b (n+1)):a=a':=by
 by_cases ha:a= .fail
 ·by_cases ha':a'= .fail
  ·rw[ha,ha']
  ·obtain⟨N,hN⟩:=g.1 ha';have h1:=hN N (LI _)
   (try dsimp only at h1)
   exact (h.2 (N+1) (by rw[h1];exact ha')).symm.trans h1
 ·obtain⟨N,hN⟩:=h.1 ha;have h1:=hN (N+1) (by omega);have h2:=g.2 N
  (try dsimp only at h2)
  exact h1.symm.trans (h2 (by rw[h1];exact ha))
def oM{p:Pg}(hO:dY p)(f:FuncId)(args:List AV):ai p f args=iv p (ai p) ah f args:=by
 funext h;have h1:=ky hO f args h;have h2:=q7 hO (fun f=>ky hO f) tZ A1 (fun n=>sD n) f args h;exact h1.uniq h2
def tH[Dr]{P:Program}{p:Pg}(G:GoodPg P p)(hO:dY p):cS P p.own (ai p):=by
 intro f args h S β w vs hr hg hw hh hv;obtain⟨N,hN⟩:=(ky hO f args h).1 hr;have h1:=hN N (LI _)
 (try dsimp only at h1)
 rw[<- h1]at hr |-;exact lN G N f args h S β w vs hr hg hw hh hv
def Aw{p:Pg}(hO:dY p){n:Nat}{f:FuncId}{args:List AV}{h:Hp}{r:R AV}(hr:dq p n f args h=r)(hne:r≠.fail):ai p f args h=r:=by
 have:=(ky hO f args h).2 n (by(try dsimp only);rw[hr];exact hne)
 (try dsimp only at this)
 rw[<- this,hr]
end Go.Av
namespace Go.Av
section
variable {ρ:Type}
theorem aY{F:(List AV->M ρ)->List AV->M ρ}(hF:kQ F)(vs:List AV):ah F vs=F (ah F) vs:=by
 funext h;exact (gn hF vs h).uniq (hF _ _ (gn hF) vs h)
theorem au{c:AV}{x y:M ρ}{xs ys:Nat->M ρ}(hx:aR x xs)(hy:aR y ys):aR (ar c x y) fun n=>ar c (xs n) (ys n):=by
 unfold ar;cases c with
 |bool b=>cases b<;>first|exact hx|exact hy
 |_=>exact aR.const _
theorem gQ{F:(List AV->M ρ)->List AV->M ρ}{Fs:Nat->(List AV->M ρ)->List AV->M ρ}(h1:bL F Fs)(h2:kQ F)(h3:∀n,kQ (Fs n)):bm (ah F) fun n=>ah (Fs n):=A1 F Fs h1 h2 h3
end
end Go.Av
namespace Go.Av
def aM(m:M AV):M AV:=fun h=>match m []with
 |.ok r h'=>.ok (fV 6 h' r) h
 |.pan v h'=>.pan (fV 6 h' v) h
 |.fail=>.fail
def aC{p:Pg}(hO:dY p){f:FuncId}{fn:Func}{a:Ann}(h1:p.other f=none)(h2:p.funcs f=some (fn,a))(h3:a.iso=true)(args:List AV):
  ai p f args=aM (cX (p.cx (ai p) fn.ntmps a) ah fn (p.own f) (dn az args)):=by
 rw[oM hO];unfold iv;rw[h1];simp only;rw[h2];simp only[h3,LF];rfl
def cJ{p:Pg}(hO:dY p){f:FuncId}{fn:Func}{a:Ann}(h1:p.other f=none)(h2:p.funcs f=some (fn,a))(h3:a.iso=false)(args:List AV):
  ai p f args=cX (p.cx (ai p) fn.ntmps a) ah fn (p.own f) args:=by
 rw[oM hO];unfold iv;rw[h1];simp only;rw[h2];simp only[h3,LL]
def dx{p:Pg}(hO:dY p){f:FuncId}{E:(FuncId->List AV->M AV)->List AV->M AV}(h1:p.other f=some E)(args:List AV):ai p f args=E (ai p) args:=by
 rw[oM hO];unfold iv;rw[h1]
def eQ(T:TT)(t:TypeId):(FuncId->List AV->M AV)->List AV->M AV:=fun _ args=>match args with
 |[.sl es]=>af (dm T t (.sl []) (.sl es))
 |_=>M.fail
def oR(T:TT)(t:TypeId)(call:FuncId->List AV->M AV)(calls:Nat->FuncId->List AV->M AV):bm (eQ T t call) fun n=>eQ T t (calls n):=bm.const _
def eK{α:Type}{b:Bool}{x:α}{o:Option α}{y:α}(h:(bif b then some x else o)=some y):x=y\/o=some y:=by
 cases b with
 |true=>exact .inl (by simpa using h)
 |false=>exact .inr h
end Go.Av
namespace Go.Av
variable [Dr]
open Go.RowKit
section
variable {S:aF} {β:List bO} {h:Hp} {w w':World}
omit [Dr]in
theorem de.below(hh:de S β w h){S':aF}(hb:∀b,b<w.heap.size->w'.heap[b]? = w.heap[b]? /\∀o,S' b o=S b o)(hle:S.le S'):de S' β w' h:=by
 obtain⟨hlen,ω,hr⟩:=hh;exact⟨hlen,ω,hr.rows hle (fu.refl β) hlen fun l cs hl _=>.inl ⟨hl,fun b hlt ho=>⟨ho,(hb b hlt).1,fun o h=>by rw[(hb b hlt).2];exact h⟩⟩⟩
theorem pB(hw:Wf S w)(hh:de S β w h)(hb:Below w.heap.size w w')(hd:Dr.on->w.drawn<=w'.drawn){S':aF}(hS:∀b,b<w.heap.size->∀o,S' b o=S b o)(hnew:∀b o v,w.heap.size<=b->S' b o=some v->w'.cell? ⟨b,o,none⟩=some v):
  Left (cG β h) S β w S' β w' h:=by
 have hle:S.le S':=fun b o v hv=>by rw[hS b (hw.lt hv)];exact hv
 refine⟨hle,fu.refl β,fun b o v hv=>?_,⟨hb.size,hb.os,hb.output,hb.tape,hd⟩,fun b hlt _=>⟨hb.block b hlt,hS b hlt⟩,hh.below (fun b hlt=>⟨hb.block b hlt,hS b hlt⟩) hle,fun b hb=>.inl hb⟩;rcases L8 b w.heap.size with hlt|hge
 ·rw[hS b hlt]at hv;rw[cell_of_heap (hb.block b hlt)];exact hw b o v hv
 ·exact hnew b o v hge hv
theorem dM(hw:Wf S w)(hh:de S β w h)(hb:Below w.heap.size w w')(hd:Dr.on->w.drawn<=w'.drawn){r:AV}{v:Value}(hv:VR S β r v):ee none S β h w (.ok r h) (.returned v) w':=
 ⟨S,β,v,rfl,hv,pB hw hh hb hd (fun _ _ _=>rfl) (fun b o v hge hv=>by have:=hw.lt hv;omega),fun sz hsz=>by cases hsz⟩
theorem yT(hw:Wf S w)(hh:de S β w h)(hb:Below w.heap.size w w')(hd:Dr.on->w.drawn<=w'.drawn){n:Nat}{x:Array Value}(hr:Row w' n x)(hn:w.heap.size<=n){r:AV}{v:Value}(hv:VR (S.withRowTo n x.size x) β r v):ee none S β h w (.ok r h) (.returned v) w':=
 ⟨_,β,v,rfl,hv,pB hw hh hb hd (fun b hlt o=>by unfold aF.withRowTo;rw[if_neg (by omega)]) (fun b o v hge hv=>by
  by_cases hbn:b=n
  ·subst hbn;unfold aF.withRowTo at hv;rw[LC rfl]at hv;split at hv
   ·rw[hr.cell];exact hv
   ·cases hv
  ·unfold aF.withRowTo at hv;rw[if_neg hbn]at hv
   have:=hw.lt hv;omega),fun sz hsz=>by cases hsz⟩
omit [Dr]in
theorem Cj(S:aF)(β:List bO)(n:Nat)(l:List ByteArray)(ls:List (List UInt8))(hl:l.map (·.data.toList)=ls):VR (S.withRowTo n (l.map Value.string).toArray.size (l.map Value.string).toArray) β (.sl (ls.map .str)) (.slice (some ⟨n,0,none⟩) l.length l.length):=by
 subst hl;simp only[VR,M2];refine⟨some ⟨n,0,none⟩,l.length,rfl,LI _,(fun h=>by cases h),fun q hq=>?_⟩;simp only[LA]at hq;subst hq;refine⟨fun _=>rfl,1,.of_get fun i e he=>?_⟩;simp only[List.map_map,MH,MD,Function.comp]at he;obtain⟨s,hs,rfl⟩:=he;refine⟨.string s,by simp only[VR];exact⟨s,rfl,rfl⟩,rfl,fun j v hj=>?_⟩;have hlt:i<l.length:=by
  rcases L8 i l.length with h|h
  ·exact h
  ·rw[LR h]at hs;cases hs
 rw[show (Value.string s).cells.toList=[Value.string s]from rfl]at hj;cases j with
 |succ j=>simp at hj
 |zero=>
  simp only[LV,LA]at hj;subst hj;unfold aF.withRowTo;simp[hlt];rw[LY hlt]at hs;simpa using hs
end
end Go.Av
namespace Go.Av
variable [Dr]
def iK:(FuncId->List AV->M AV)->List AV->M AV:=fun _ args=>match args with
 |[.str s,.str t]=>af (bif decide (s.length<4294967281)then some (.bool (Lib.contains s t))else none)
 |_=>M.fail
def zj:List AV->Option Nat
 |[.hp l off]=>bif Nat.beq off 0 then some l else none
 |_=>none
omit [Dr]in
theorem ut{args:List AV}{l:Nat}(h:zj args=some l):args=[.hp l 0]:=by
 unfold zj at h;split at h
 ·rename_i l' off;cases ho:Nat.beq off 0 with
  |false=>rw[ho]at h;cases h
  |true=>
   rw[ho]at h;cases h;rw[LN ho]
 ·cases h
def HQ(ok:List (Nat×Nat))(l:Nat):List AV->Option (List AV)
 |.nilb t:: x:: r=>bif ok.any (fun p=>Nat.beq p.1 t&&Nat.ble p.2 (r.length+2))then some (.hp l 0:: x:: r)else none
 |.hp l' k:: r=>bif Nat.beq l' l&&Nat.beq k 0 then some (.hp l' k:: r)else none
 |_=>none
omit [Dr]in
theorem CW{ok:List (Nat×Nat)}{l:Nat}{cs cs':List AV}(h:HQ ok l cs=some cs'):(∃t x r,cs= .nilb t:: x:: r/\cs'= .hp l 0:: x:: r/\∃n,(t,n)∈ok/\n<=r.length+2)\/(∃r,cs= .hp l 0:: r/\cs'=cs):=by
 unfold HQ at h;split at h
 ·rename_i t x r;cases ho:ok.any (fun p=>Nat.beq p.1 t&&Nat.ble p.2 (r.length+2))with
  |false=>rw[ho]at h;cases h
  |true=>
   rw[ho]at h;cases h;obtain⟨p,hp,hq⟩:=ON.1 ho;rw[LD]at hq;refine .inl ⟨t,x,r,rfl,rfl,p.2,?_,NJ hq.2⟩;rw[<- LN hq.1];exact hp
 ·rename_i l' k r;cases ho:(Nat.beq l' l&&Nat.beq k 0)with
  |false=>rw[ho]at h;cases h
  |true=>
   rw[ho]at h;cases h;rw[LD]at ho;have h1:=LN ho.1;have h2:=LN ho.2;subst h1 h2;exact .inr ⟨r,rfl,rfl⟩
 ·cases h
def g7(ok:List (Nat×Nat)):(FuncId->List AV->M AV)->List AV->M AV:=fun _ args h=>match zj args with
 | some l=>(match h[l]? with
  |some cs=>(match HQ ok l cs with
   |some cs'=>.ok (.tup []) (h.set l cs')
   |none=>.fail)
  |none=>.fail)
 |none=>.fail
def qW(e:Nat):AV->Option UInt8
 |.byt t n=>bif Nat.beq t e&&decide (0<=n)&&decide (n<256)then some (UInt8.ofNat n.toNat)else none
 |_=>none
def iA(e:Nat):List AV->Option (List UInt8)
 |[]=>some []
 |x:: r=>match qW e x,iA e r with
  |some b,some l=>some (b:: l)
  |_,_=>none
def stA:List AV->Option (Option (Nat×Nat))
 |.hp _ _:: .hs lb off len sz ag:: _=>bif Nat.beq off 0&&Nat.beq sz 1&&!ag&&Nat.blt 0 len&&Nat.ble len 140737488355328 then some (some (lb,len))else none
 |_:: .hn:: _=>some none
 |_=>none
omit [Dr]in
theorem Cg{cs:List AV}{lb len:Nat}(h:stA cs=some (some (lb,len))):∃x r,cs=x:: .hs lb 0 len 1 false:: r/\0<len/\len<=140737488355328:=by
 unfold stA at h;split at h
 ·rename_i l k lb' off len' sz ag r;cases ho:(Nat.beq off 0&&Nat.beq sz 1&&!ag&&Nat.blt 0 len'&&Nat.ble len' 140737488355328)with
  |false=>rw[ho]at h;cases h
  |true=>
   rw[ho]at h;cases h;simp only[LD,MA]at ho;obtain⟨⟨⟨⟨h1,h2⟩,h3⟩,h4⟩,h5⟩:=ho;have h1:=LN h1;have h2:=LN h2;subst h1 h2 h3;exact⟨_,r,rfl,NJ h4,NJ h5⟩
 ·cases h
 ·cases h
omit [Dr]in
theorem Cf{cs:List AV}(h:stA cs=some none):∃x r,cs=x:: .hn:: r:=by
 unfold stA at h;split at h
 ·rename_i l k lb' off len' sz ag r;cases ho:(Nat.beq off 0&&Nat.beq sz 1&&!ag&&Nat.blt 0 len'&&Nat.ble len' 140737488355328)with
  |false=>rw[ho]at h;cases h
  |true=>rw[ho]at h;cases h
 ·exact⟨_,_,rfl⟩
 ·cases h
def ew(e:Nat):(FuncId->List AV->M AV)->List AV->M AV:=fun _ args h=>match zj args with
 | some l=>(match h[l]? with
  | some cs=>(match stA cs with
   |some none=>.ok (.str []) h
   | some (some (lb,len))=>(match h[lb]? with
    |some bs=>(match (bif Nat.ble len bs.length then iA e (bs.take len)else none)with
     |some s=>.ok (.str s) (h.set lb [])
     |none=>.fail)
    |none=>.fail)
   |none=>.fail)
  |none=>.fail)
 |none=>.fail
def t7:AV->Option (List UInt8×Int×List AV)
 |.agg [.str n,.int .i64 k,.sl fs]=>some (n,k,fs)
 |_=>none
def fU:List AV->Option (List (List UInt8×Int×List AV))
 |[]=>some []
 |x:: r=>match t7 x,fU r with
  |some z,some l=>some (z:: l)
  |_,_=>none
def cf{α:Type}(p:α->Bool):List α->Option α
 |[]=>none
 |z:: r=>match cf p r with
  |some y=>some y
  |none=>bif p z then some z else none
def wS(l:List (List UInt8×Int×List AV))(name:List UInt8):AV:=match cf (fun z=>z.1== name) l with
 |some z=>.tup [.agg [.int .i64 z.2.1,.sl z.2.2],.bool true]
 |none=>.tup [.agg [.int .i64 0,.sl []],.bool false]
def kC:(FuncId->List AV->M AV)->List AV->M AV:=fun _ args=>match args with
 |[.sl es,.str name]=>(match fU es with
  |some l=>af (bif decide (l.length<=1000000000)then some (wS l name)else none)
  |none=>M.fail)
 |_=>M.fail
omit [Dr]in
theorem qE{α:Type}(p:α->Bool)(l:List α):cf p l=l.reverse.find? p:=by
 induction l with
 |nil=>rfl
 |cons z r ih=>
  simp only[cf,ih,List.reverse_cons,List.find?_append];cases r.reverse.find? p with
  |some y=>rfl
  |none=>cases h:p z<;>simp[h]
end Go.Av
namespace Go.Av
variable [Dr]
open Go.RowKit
def iL:Nat->Nat->List UInt8
 |0,_=>[]
 |f+1,u=>bif decide (u<10)then[UInt8.ofNat (48+u)]else iL f (u / 10)++[UInt8.ofNat (48+u % 10)]
omit [Dr]in
theorem su:∀(f u:Nat),u<10 ^ (f+1)->iL (f+1) u=Lib.decDigits u
 | f,u,h=>by
  rw[Lib.decDigits];rw[show iL (f+1) u=bif decide (u<10)then[UInt8.ofNat (48+u)]else iL f (u / 10)++[UInt8.ofNat (48+u % 10)]from rfl];by_cases h10:u<10
  ·rw[dif_pos h10,Mj h10];rfl
  ·rw[dif_neg h10,Mp h10];cases f with
   |zero=>omega
   |succ f=>rw[su f (u / 10) (by rw[Nat.pow_succ]at h;omega)];rfl
def cD(n:Int):List UInt8:=bif decide (n<0)then 45:: iL 20 n.natAbs else iL 20 n.toNat
omit [Dr]in
theorem Bg{n:Int}(h0:-9223372036854775808<=n)(h1:n<=9223372036854775807):cD n=Lib.itoa n:=by
 unfold cD Lib.itoa;by_cases h:n<0
 ·rw[Mj h,LC h];simp only[LF];rw[su 19 n.natAbs (by omega)]
 ·rw[Mp h,if_neg h];simp only[LL];rw[su 19 n.toNat (by omega)]
def rk:(FuncId->List AV->M AV)->List AV->M AV:=fun _ args=>match args with
 |[.int .i64 n]=>af (bif decide (-9223372036854775808<=n)&&decide (n<=9223372036854775807)then some (.str (cD n))else none)
 |_=>M.fail
def oJ(t:TypeId)(s:List UInt8):AV:=match Lib.atoiAll s with
 |.ok v=>.tup [.int .i64 v,.nili]
 |.range=>.tup [.int .i64 (Lib.atoiSat s),.iface t .any]
 |_=>.tup [.int .i64 0,.iface t .any]
def qQ(t:TypeId):(FuncId->List AV->M AV)->List AV->M AV:=fun _ args=>match args with
 |[.str s]=>af (bif decide (s.length<=281474976710656)then some (oJ t s)else none)
 |_=>M.fail
end Go.Av
namespace Go.Av
def gR:(FuncId->List AV->M AV)->List AV->M AV:=fun _ args=>match args with
 |[.str s,.str [c],.int .i64 sv,.int .i64 n]=>af (bif decide (s.length<4294967281)&&(sv== 0||sv== 1)&&n== -1 then some (.sl ((Lib.splitK [c] sv.toNat (s.count c) s).map .str))else none)
 |_=>M.fail
end Go.Av
namespace Go.Av.Ap
abbrev aU:=List UInt8
inductive Val where
 |mk (kind n:Int) (names:List aU) (values:List Val)
instance:Inhabited Val:=⟨.mk 0 0 [] []⟩
inductive Exp where
 |mk (op n:Int) (s m:aU) (names:List aU) (args:List Exp)
instance:Inhabited Exp:=⟨.mk 0 0 [] [] [] []⟩
inductive Ty where
 |mk (kind:Int) (fields:List (aU×Ty))
instance:Inhabited Ty:=⟨.mk 0 []⟩
abbrev bM:=aU×Ty
structure Fun where
 name:aU
 pub:Bool
 params:List bM
 result:Ty
 effects:Int
 body:Exp
 deriving Inhabited
structure Mod where
 name:aU
 uses:List aU
 vars:List bM
 init:List Exp
 funcs:List Fun
 moves:Bool
 old:List bM
 forward:List Exp
 back:List Exp
 deriving Inhabited
def Val.kind:Val->Int|.mk k _ _ _=>k
def Val.n:Val->Int|.mk _ n _ _=>n
def Val.names:Val->List aU|.mk _ _ ns _=>ns
def Val.values:Val->List Val|.mk _ _ _ vs=>vs
def Exp.op:Exp->Int|.mk o _ _ _ _ _=>o
def Exp.n:Exp->Int|.mk _ n _ _ _ _=>n
def Exp.s:Exp->aU|.mk _ _ s _ _ _=>s
def Exp.m:Exp->aU|.mk _ _ _ m _ _=>m
def Exp.names:Exp->List aU|.mk _ _ _ _ ns _=>ns
def Exp.args:Exp->List Exp|.mk _ _ _ _ _ es=>es
def Ty.kind:Ty->Int|.mk k _=>k
def Ty.fields:Ty->List bM|.mk _ fs=>fs
@[simp] theorem Lz(a b c d):(Val.mk a b c d).kind=a:=rfl
@[simp] theorem Val.n_mk(a b c d):(Val.mk a b c d).n=b:=rfl
@[simp] theorem Ly(a b c d):(Val.mk a b c d).names=c:=rfl
@[simp] theorem Lx(a b c d):(Val.mk a b c d).values=d:=rfl
def Val.eta(v:Val):Val.mk v.kind v.n v.names v.values=v:=by cases v;rfl
def Exp.eta(e:Exp):Exp.mk e.op e.n e.s e.m e.names e.args=e:=by cases e;rfl
def Ty.eta(t:Ty):Ty.mk t.kind t.fields=t:=by cases t;rfl
def strs(l:List aU):AV:=.sl (l.map .str)
mutual
def Val.av:Val->AV
 |.mk k n ns vs=>.agg [.int .i64 k,.int .i64 n,strs ns,.sl (ju vs)]
def ju:List Val->List AV
 |[]=>[]
 |v:: vs=>v.av:: ju vs
end
mutual
def Exp.cells:Exp->List AV
 |.mk o n s m ns es=>[.int .i64 o,.int .i64 n,.str s,.str m,strs ns,.sl (gy es)]
def gy:List Exp->List AV
 |[]=>[]
 |e:: es=>.agg e.cells:: gy es
end
def Exp.av(e:Exp):AV:=.agg e.cells
mutual
def Ty.cells:Ty->List AV
 |.mk k fs=>[.int .i64 k,.sl (eZ fs)]
def eZ:List (aU×Ty)->List AV
 |[]=>[]
 |f:: fs=>bW f:: eZ fs
def bW:aU×Ty->AV
 |(n,t)=>.agg (.str n:: t.cells)
end
def Ty.av(t:Ty):AV:=.agg t.cells
def Fun.av(f:Fun):AV:=.agg ([.str f.name,.bool f.pub,.sl (eZ f.params)]++f.result.cells++[.int .i64 f.effects]++f.body.cells)
def fI(l:List Fun):AV:=.sl (l.map Fun.av)
def Mod.av(m:Mod):AV:=.agg [.str m.name,strs m.uses,.sl (eZ m.vars),.sl (gy m.init),fI m.funcs,.bool m.moves,.sl (eZ m.old),.sl (gy m.forward),.sl (gy m.back)]
def vals(l:List Val):AV:=.sl (ju l)
def cw(l:List Exp):AV:=.sl (gy l)
def aO(l:List bM):AV:=.sl (eZ l)
def GI(l:List Mod):AV:=.sl (l.map Mod.av)
def ints(l:List Int):AV:=.sl (l.map (.int .i64))
structure Vars where
 module:aU
 values:List Val
 deriving Inhabited
structure Deed where
 effect:Int
 arg:Int
 answer:Int
 deriving DecidableEq,Inhabited
structure Call where
 module:aU
 func:aU
 args:List Val
 deriving Inhabited
def Vars.av(v:Vars):AV:=.agg [.str v.module,vals v.values]
def Deed.av(d:Deed):AV:=.agg [.int .i64 d.effect,.int .i64 d.arg,.int .i64 d.answer]
def Call.av(c:Call):AV:=.agg [.str c.module,.str c.func,vals c.args]
def qo(l:List Vars):AV:=.sl (l.map Vars.av)
def deeds(l:List Deed):AV:=.sl (l.map Deed.av)
def calls(l:List Call):AV:=.sl (l.map Call.av)
structure Out where
 err:Int
 value:Val
 deeds:List Deed
 calls:List Call
 state:List Vars
def Out.av(o:Out):AV:=.agg [.int .i64 o.err,.int .i64 o.value.kind,.int .i64 o.value.n,strs o.value.names,vals o.value.values,Ap.deeds o.deeds,Ap.calls o.calls,qo o.state]
theorem qn:(l:List Val)->ju l=l.map Val.av
 |[]=>rfl
 |v:: l=>by simp[ju,qn l]
theorem g9:(l:List Exp)->gy l=l.map Exp.av
 |[]=>rfl
 |v:: l=>by simp[gy,g9 l,Exp.av]
theorem e9:(l:List bM)->eZ l=l.map bW
 |[]=>rfl
 |v:: l=>by simp[eZ,e9 l]
def Val.av_eq(v:Val):v.av= .agg [.int .i64 v.kind,.int .i64 v.n,strs v.names,vals v.values]:=by cases v;rfl
def Exp.cells_eq(e:Exp):e.cells=[.int .i64 e.op,.int .i64 e.n,.str e.s,.str e.m,strs e.names,cw e.args]:=by cases e;rfl
def Ty.cells_eq(t:Ty):t.cells=[.int .i64 t.kind,aO t.fields]:=by cases t;simp[Ty.cells,aO,Ty.kind,Ty.fields]
def jT(f:bM):bW f= .agg [.str f.1,.int .i64 f.2.kind,aO f.2.fields]:=by obtain⟨n,t⟩:=f;simp[bW,Ty.cells_eq]
@[simp] theorem oE(v:Val):ab v.av=[.int .i64 v.kind,.int .i64 v.n,strs v.names,vals v.values]:=by rw[v.av_eq];rfl
@[simp] theorem bp(e:Exp):ab e.av=[.int .i64 e.op,.int .i64 e.n,.str e.s,.str e.m,strs e.names,cw e.args]:=by rw[Exp.av,e.cells_eq];rfl
@[simp] theorem dQ(f:bM):ab (bW f)=[.str f.1,.int .i64 f.2.kind,aO f.2.fields]:=by rw[jT];rfl
@[simp] theorem eG(t:Ty):ab t.av=[.int .i64 t.kind,aO t.fields]:=by rw[Ty.av,t.cells_eq];rfl
@[simp] theorem eq(f:Fun):ab f.av=[.str f.name,.bool f.pub,aO f.params,.int .i64 f.result.kind,aO f.result.fields,.int .i64 f.effects,.int .i64 f.body.op,.int .i64 f.body.n,.str f.body.s,.str f.body.m,strs f.body.names,cw f.body.args]:=by
 simp[Fun.av,ab,Ty.cells_eq,Exp.cells_eq,aO]
@[simp] theorem bN(m:Mod):ab m.av=[.str m.name,strs m.uses,aO m.vars,cw m.init,fI m.funcs,.bool m.moves,aO m.old,cw m.forward,cw m.back]:=rfl
@[simp] theorem ug(v:Val):AV.agg [.int .i64 v.kind,.int .i64 v.n,strs v.names,vals v.values]=v.av:=(v.av_eq).symm
@[simp] theorem ez(e:Exp):AV.agg [.int .i64 e.op,.int .i64 e.n,.str e.s,.str e.m,strs e.names,cw e.args]=e.av:=by rw[Exp.av,e.cells_eq]
@[simp] theorem fA(t:Ty):AV.agg [.int .i64 t.kind,aO t.fields]=t.av:=by rw[Ty.av,t.cells_eq]
@[simp] theorem jU(f:bM):AV.agg [.str f.1,.int .i64 f.2.kind,aO f.2.fields]=bW f:=(jT f).symm
@[simp] theorem lT(f:Fun):AV.agg [.str f.name,.bool f.pub,aO f.params,.int .i64 f.result.kind,aO f.result.fields,.int .i64 f.effects,.int .i64 f.body.op,.int .i64 f.body.n,.str f.body.s,.str f.body.m,strs f.body.names,cw f.body.args]=f.av:=by
 simp[Fun.av,Ty.cells_eq,Exp.cells_eq,aO]
@[simp] theorem ub(m:Mod):AV.agg [.str m.name,strs m.uses,aO m.vars,cw m.init,fI m.funcs,.bool m.moves,aO m.old,cw m.forward,cw m.back]=m.av:=rfl
theorem dk{α:Type}(g:Nat->Nat->Nat->Nat->Bool->AV)(f:α->AV)(h:∀x,cl g (f x)=f x):(l:List α)->dn g (l.map f)=l.map f
 |[]=>rfl
 |x:: l=>by simp[dn,h x,dk g f h l]
@[simp] theorem xG(g:Nat->Nat->Nat->Nat->Bool->AV)(l:List aU):cl g (strs l)=strs l:=by
 simp[strs,cl,dk g AV.str (fun _=>rfl) l]
@[simp] theorem Ja(g:Nat->Nat->Nat->Nat->Bool->AV)(l:List Int):cl g (ints l)=ints l:=by
 simp[ints,cl,dk g (AV.int .i64) (fun _=>rfl) l]
mutual
theorem Val.cl_av(g:Nat->Nat->Nat->Nat->Bool->AV):(v:Val)->cl g v.av=v.av
 |.mk k n ns vs=>by simp[Val.av,cl,dn,tj g vs]
theorem tj(g:Nat->Nat->Nat->Nat->Bool->AV):(l:List Val)->dn g (ju l)=ju l
 |[]=>rfl
 |v:: l=>by simp[ju,dn,Val.cl_av g v,tj g l]
end
mutual
theorem Exp.cl_cells(g:Nat->Nat->Nat->Nat->Bool->AV):(e:Exp)->dn g e.cells=e.cells
 |.mk o n s m ns es=>by simp[Exp.cells,cl,dn,oq g es]
theorem oq(g:Nat->Nat->Nat->Nat->Bool->AV):(l:List Exp)->dn g (gy l)=gy l
 |[]=>rfl
 |e:: l=>by simp[gy,dn,cl,Exp.cl_cells g e,oq g l]
end
mutual
theorem Ty.cl_cells(g:Nat->Nat->Nat->Nat->Bool->AV):(t:Ty)->dn g t.cells=t.cells
 |.mk k fs=>by simp[Ty.cells,cl,dn,lS g fs]
theorem lS(g:Nat->Nat->Nat->Nat->Bool->AV):(l:List (aU×Ty))->dn g (eZ l)=eZ l
 |[]=>rfl
 |f:: l=>by simp[eZ,dn,A2 g f,lS g l]
theorem A2(g:Nat->Nat->Nat->Nat->Bool->AV):(f:aU×Ty)->cl g (bW f)=bW f
 |(n,t)=>by simp[bW,cl,dn,Ty.cl_cells g t]
end
@[simp] theorem Gi(g:Nat->Nat->Nat->Nat->Bool->AV)(v:Val):cl g v.av=v.av:=v.cl_av g
@[simp] theorem Dg(g:Nat->Nat->Nat->Nat->Bool->AV)(l:List Val):cl g (vals l)=vals l:=by simp[vals,cl,tj]
@[simp] theorem Ay(g:Nat->Nat->Nat->Nat->Bool->AV)(e:Exp):cl g e.av=e.av:=by simp[Exp.av,cl,Exp.cl_cells]
@[simp] theorem Dc(g:Nat->Nat->Nat->Nat->Bool->AV)(l:List Exp):cl g (cw l)=cw l:=by simp[cw,cl,oq]
@[simp] theorem AC(g:Nat->Nat->Nat->Nat->Bool->AV)(t:Ty):cl g t.av=t.av:=by simp[Ty.av,cl,Ty.cl_cells]
@[simp] theorem Gg(g:Nat->Nat->Nat->Nat->Bool->AV)(f:bM):cl g (bW f)=bW f:=A2 g f
@[simp] theorem sk(g:Nat->Nat->Nat->Nat->Bool->AV)(l:List bM):cl g (aO l)=aO l:=by simp[aO,cl,lS]
theorem oS(g:Nat->Nat->Nat->Nat->Bool->AV):(a b:List AV)->dn g (a++b)=dn g a++dn g b
 |[],b=>rfl
 |x:: a,b=>by simp[dn,oS g a b]
@[simp] theorem AA(g:Nat->Nat->Nat->Nat->Bool->AV)(f:Fun):cl g f.av=f.av:=by
 simp[Fun.av,cl,dn,oS,lS,Ty.cl_cells,Exp.cl_cells]
@[simp] theorem Dd(g:Nat->Nat->Nat->Nat->Bool->AV)(l:List Fun):cl g (fI l)=fI l:=by simp[fI,cl,dk g Fun.av (AA g)]
@[simp] theorem mL(g:Nat->Nat->Nat->Nat->Bool->AV)(m:Mod):cl g m.av=m.av:=by
 simp[Mod.av,cl,dn,lS,oq,Dd]
@[simp] theorem Jb(g:Nat->Nat->Nat->Nat->Bool->AV)(l:List Mod):cl g (GI l)=GI l:=by simp[GI,cl,dk g Mod.av (mL g)]
@[simp] theorem AB(g:Nat->Nat->Nat->Nat->Bool->AV)(k:IntKind)(n:Int):cl g (.int k n)= .int k n:=rfl
@[simp] theorem I9(g:Nat->Nat->Nat->Nat->Bool->AV)(b:Bool):cl g (.bool b)= .bool b:=rfl
@[simp] theorem wk(g:Nat->Nat->Nat->Nat->Bool->AV)(s:aU):cl g (.str s)= .str s:=rfl
@[simp] theorem Dh(g:Nat->Nat->Nat->Nat->Bool->AV)(v:Vars):cl g v.av=v.av:=by simp[Vars.av,cl,dn]
@[simp] theorem Db(g:Nat->Nat->Nat->Nat->Bool->AV)(v:Deed):cl g v.av=v.av:=by simp[Deed.av,cl,dn]
@[simp] theorem Da(g:Nat->Nat->Nat->Nat->Bool->AV)(v:Call):cl g v.av=v.av:=by simp[Call.av,cl,dn]
@[simp] theorem HU(g:Nat->Nat->Nat->Nat->Bool->AV)(l:List Vars):cl g (qo l)=qo l:=by simp[qo,cl,dk g Vars.av (Dh g)]
@[simp] theorem HS(g:Nat->Nat->Nat->Nat->Bool->AV)(l:List Deed):cl g (deeds l)=deeds l:=by simp[deeds,cl,dk g Deed.av (Db g)]
@[simp] theorem HR(g:Nat->Nat->Nat->Nat->Bool->AV)(l:List Call):cl g (calls l)=calls l:=by simp[calls,cl,dk g Call.av (Da g)]
@[simp] theorem JP(g:Nat->Nat->Nat->Nat->Bool->AV)(o:Out):cl g o.av=o.av:=by simp[Out.av,cl,dn]
@[simp] theorem nv(v:Vars):ab v.av=[.str v.module,vals v.values]:=rfl
@[simp] theorem nu(v:Deed):ab v.av=[.int .i64 v.effect,.int .i64 v.arg,.int .i64 v.answer]:=rfl
@[simp] theorem nr(v:Call):ab v.av=[.str v.module,.str v.func,vals v.args]:=rfl
@[simp] theorem oD(o:Out):ab o.av=[.int .i64 o.err,.int .i64 o.value.kind,.int .i64 o.value.n,strs o.value.names,vals o.value.values,deeds o.deeds,calls o.calls,qo o.state]:=rfl
@[simp] theorem ri(v:Vars):AV.agg [.str v.module,vals v.values]=v.av:=rfl
@[simp] theorem re(v:Deed):AV.agg [.int .i64 v.effect,.int .i64 v.arg,.int .i64 v.answer]=v.av:=rfl
@[simp] theorem rc(v:Call):AV.agg [.str v.module,.str v.func,vals v.args]=v.av:=rfl
@[simp] theorem uc(o:Out):AV.agg [.int .i64 o.err,.int .i64 o.value.kind,.int .i64 o.value.n,strs o.value.names,vals o.value.values,deeds o.deeds,calls o.calls,qo o.state]=o.av:=rfl
@[simp] theorem Hn(v:Vars):cZ v.av=some 2:=rfl
@[simp] theorem Hl(v:Deed):cZ v.av=some 3:=rfl
@[simp] theorem Hk(v:Call):cZ v.av=some 3:=rfl
@[simp] theorem IP(v:Out):cZ v.av=some 8:=rfl
@[simp] theorem rB(v:Vars):cI 2 v.av=true:=by simp[cI,bn,vals]
@[simp] theorem rA(v:Deed):cI 3 v.av=true:=by simp[cI,bn]
@[simp] theorem ry(v:Call):cI 3 v.av=true:=by simp[cI,bn,vals]
@[simp] theorem uR(v:Out):cI 8 v.av=true:=by simp[cI,bn,vals,strs,deeds,calls,qo]
def Clean(a:AV):Prop:=∀g,cl g a=a
def Clean.frz{a:AV}(h:Clean a)(d:Nat)(hp:Hp):fV d hp a=a:=by
 cases d with
 |zero=>exact h _
 |succ d=>exact h _
def cg{a:AV}(h:Clean a):aM (M.pure a)=M.pure a:=by
 funext hp;simp only[aM,M.pure,h.frz]
@[simp] theorem cF(b:Bool):aM (M.pure (.bool b))=M.pure (.bool b):=cg fun _=>rfl
@[simp] theorem lX(k:IntKind)(n:Int):aM (M.pure (.int k n))=M.pure (.int k n):=cg fun _=>rfl
@[simp] theorem jY(s:aU):aM (M.pure (.str s))=M.pure (.str s):=cg fun _=>rfl
@[simp] theorem Ij(v:Val):aM (M.pure v.av)=M.pure v.av:=cg fun g=>Gi g v
@[simp] theorem G5(v:List Val):aM (M.pure (vals v))=M.pure (vals v):=cg fun g=>Dg g v
@[simp] theorem Ig(v:Exp):aM (M.pure v.av)=M.pure v.av:=cg fun g=>Ay g v
@[simp] theorem Ih(v:Fun):aM (M.pure v.av)=M.pure v.av:=cg fun g=>AA g v
@[simp] theorem IR(v:Val):cZ v.av=some 4:=by rw[v.av_eq];rfl
@[simp] theorem IJ(e:Exp):cZ e.av=some 6:=by rw[Exp.av,e.cells_eq];rfl
@[simp] theorem IK(f:bM):cZ (bW f)=some 3:=by rw[jT];rfl
@[simp] theorem Jk(t:Ty):cZ t.av=some 2:=by rw[Ty.av,t.cells_eq];rfl
@[simp] theorem IL(f:Fun):cZ f.av=some 12:=by simp[Fun.av,cZ,Ty.cells_eq,Exp.cells_eq]
@[simp] theorem IM(m:Mod):cZ m.av=some 9:=rfl
@[simp] theorem pU(v:Val):cI 4 v.av=true:=by simp[cI,bn,strs,vals]
@[simp] theorem kc(e:Exp):cI 6 e.av=true:=by simp[cI,bn,strs,cw]
@[simp] theorem iS(f:bM):cI 3 (bW f)=true:=by simp[cI,bn,aO]
@[simp] theorem mc(f:Fun):cI 12 f.av=true:=by simp[cI,bn,aO,strs,cw]
@[simp] theorem pS(m:Mod):cI 9 m.av=true:=by simp[cI,bn,aO,strs,cw,fI]
@[simp] theorem BJ(s:aU):cI 1 (.str s)=true:=rfl
@[simp] theorem BH(k:IntKind)(n:Int):cI 1 (.int k n)=true:=rfl
def dJ{α:Type}{sz:Nat}{f:α->AV}(h:∀x,cI sz (f x)=true)(l:List α):cR sz (l.map f)=true:=by simp[cR,h]
@[simp] theorem zC(l:List aU):cR 1 (l.map AV.str)=true:=dJ BJ l
@[simp] theorem rD(l:List Int):cR 1 (l.map (AV.int .i64))=true:=dJ (BH .i64) l
@[simp] theorem Hj(l:List Val):cR 4 (ju l)=true:=by rw[qn];exact dJ pU l
@[simp] theorem Hd(l:List Exp):cR 6 (gy l)=true:=by rw[g9];exact dJ kc l
@[simp] theorem He(l:List bM):cR 3 (eZ l)=true:=by rw[e9];exact dJ iS l
@[simp] theorem Hf(l:List Fun):cR 12 (l.map Fun.av)=true:=dJ mc l
@[simp] theorem Hg(l:List Mod):cR 9 (l.map Mod.av)=true:=dJ pS l
def pq{T:TT}{t e:Nat}{ti ei:TI}(ht:T t=some ti)(hk:ti.kind= .slice e)(he:T e=some ei){α:Type}{f:α->AV}(hs:∀x,cZ (f x)=some ei.size){l:List α}{i:Nat}{x:α}(h:l[i]? = some x):
  ak T t (.sl (l.map f)) (.int .i64 (i:Int))=some (.ip (ab (f x))):=by
 unfold ak;rw[ht];simp only[hk,he];rw[if_neg (by omega)];have:(l.map f)[(i:Int).toNat]? = some (f x):=by rw[LH,MH,h];rfl
 rw[this];simp only;rw[LC (hs x)]
def cm{T:TT}{t e:Nat}{ti ei:TI}(ht:T t=some ti)(hk:ti.kind= .slice e)(he:T e=some ei){α:Type}[Inhabited α]{f:α->AV}(hs:∀x,cZ (f x)=some ei.size){l:List α}{n:Int}(h0:0<=n)(h:n<(l.length:Int)):
  ak T t (.sl (l.map f)) (.int .i64 n)=some (.ip (ab (f l[n.toNat]!))):=by
 have hlt:n.toNat<l.length:=by omega
 have:=pq ht hk he hs (l:=l) (i:=n.toNat) (x:=l[n.toNat]!) (by rw[NB,LY hlt];rfl)
 rw[show ((n.toNat:Nat):Int)=n by omega]at this;exact this
def jN{T:TT}{t e:Nat}{ti ei:TI}(ht:T t=some ti)(hk:ti.kind= .slice e)(he:T e=some ei){α:Type}{f:α->AV}(hs:∀x,cI ei.size (f x)=true){a b:List α}(h:(a.length+b.length)*ei.bytes<=140737488355328)(h0:0<ei.bytes):
  dm T t (.sl (a.map f)) (.sl (b.map f))=some (.sl ((a++b).map f)):=by
 unfold dm;rw[ht];simp only[hk,he,iu];rw[dJ hs,dJ hs];simp[h,h0,mu]
def gG(l:List Ty):AV:=.sl (l.map Ty.av)
structure Sig where
 name:aU
 params:List Ty
 result:Ty
 effects:Int
 deriving Inhabited
structure Face where
 module:aU
 funcs:List Sig
 deriving Inhabited
structure Vsn where
 major:Int
 minor:Int
 patch:Int
 deriving Inhabited,DecidableEq
def Sig.cells(s:Sig):List AV:=[.str s.name,gG s.params,.int .i64 s.result.kind,aO s.result.fields,.int .i64 s.effects]
def Sig.av(s:Sig):AV:=.agg s.cells
def sigs(l:List Sig):AV:=.sl (l.map Sig.av)
def Face.cells(f:Face):List AV:=[.str f.module,sigs f.funcs]
def Face.av(f:Face):AV:=.agg f.cells
def faces(l:List Face):AV:=.sl (l.map Face.av)
def Vsn.av(v:Vsn):AV:=.agg [.int .i64 v.major,.int .i64 v.minor,.int .i64 v.patch]
@[simp] theorem gY(s:Sig):ab s.av=[.str s.name,gG s.params,.int .i64 s.result.kind,aO s.result.fields,.int .i64 s.effects]:=rfl
@[simp] theorem jK(f:Face):ab f.av=[.str f.module,sigs f.funcs]:=rfl
@[simp] theorem F6(v:Vsn):ab v.av=[.int .i64 v.major,.int .i64 v.minor,.int .i64 v.patch]:=rfl
@[simp] theorem ud(s:Sig):AV.agg [.str s.name,gG s.params,.int .i64 s.result.kind,aO s.result.fields,.int .i64 s.effects]=s.av:=rfl
@[simp] theorem rf(f:Face):AV.agg [.str f.module,sigs f.funcs]=f.av:=rfl
@[simp] theorem Ia(v:Vsn):AV.agg [.int .i64 v.major,.int .i64 v.minor,.int .i64 v.patch]=v.av:=rfl
@[simp] theorem ov(t:Ty):cI 2 t.av=true:=by simp[cI,bn,aO]
@[simp] theorem Iy(l:List Ty):cR 2 (l.map Ty.av)=true:=dJ ov l
@[simp] theorem IQ(s:Sig):cZ s.av=some 5:=rfl
@[simp] theorem Hm(s:Face):cZ s.av=some 2:=rfl
@[simp] theorem IU(s:Vsn):cZ s.av=some 3:=rfl
@[simp] theorem pT(s:Sig):cI 5 s.av=true:=by simp[cI,bn,aO,gG]
@[simp] theorem na(s:Face):cI 2 s.av=true:=by simp[cI,bn,sigs]
@[simp] theorem Ix(s:Vsn):cI 3 s.av=true:=rfl
@[simp] theorem Hi(l:List Sig):cR 5 (l.map Sig.av)=true:=dJ pT l
@[simp] theorem GN(l:List Face):cR 2 (l.map Face.av)=true:=dJ na l
@[simp] theorem AD(g:Nat->Nat->Nat->Nat->Bool->AV)(l:List Ty):cl g (gG l)=gG l:=by simp[gG,cl,dk g Ty.av (AC g)]
@[simp] theorem wj(g:Nat->Nat->Nat->Nat->Bool->AV)(s:Sig):cl g s.av=s.av:=by unfold Sig.av Sig.cells;simp only[cl,dn,AD,sk]
@[simp] theorem Df(g:Nat->Nat->Nat->Nat->Bool->AV)(l:List Sig):cl g (sigs l)=sigs l:=by simp[sigs,cl,dk g Sig.av (wj g)]
@[simp] theorem sg(g:Nat->Nat->Nat->Nat->Bool->AV)(s:Face):cl g s.av=s.av:=by unfold Face.av Face.cells;simp only[cl,dn,Df]
@[simp] theorem Az(g:Nat->Nat->Nat->Nat->Bool->AV)(l:List Face):cl g (faces l)=faces l:=by simp[faces,cl,dk g Face.av (sg g)]
@[simp] theorem JQ(g:Nat->Nat->Nat->Nat->Bool->AV)(s:Vsn):cl g s.av=s.av:=by unfold Vsn.av;simp only[cl,dn]
@[simp] theorem Je(v:Ty):aM (M.pure v.av)=M.pure v.av:=cg fun g=>AC g v
@[simp] theorem Ii(v:Sig):aM (M.pure v.av)=M.pure v.av:=cg fun g=>wj g v
@[simp] theorem G4(v:Face):aM (M.pure v.av)=M.pure v.av:=cg fun g=>sg g v
end Go.Av.Ap
namespace Go.Av
open Go.RowKit Go.Sort Go.Proofs
section
variable [Dr]
end
section
variable {α:Type} [Inhabited α]
end
section
variable [Dr] {S:aF} {β:List bO} {h:Hp} {w w':World}
end
theorem Lw{S:aF}{β:List bO}:{ps qs:List AV} ->{vs:List Value} ->bg S β (ps++qs) vs->∃u v,vs=u++v/\bg S β ps u/\bg S β qs v
 |[],_,vs,h=>⟨[],vs,rfl,by simp[bg],h⟩
 |_:: ps,qs,vs,h=>by
  simp only[Mg,bg]at h;obtain⟨x,xs,rfl,h1,h2⟩:=h;obtain⟨u,v,rfl,h3,h4⟩:=Lw h2;exact⟨x:: u,v,rfl,by simp only[bg];exact⟨x,u,rfl,h1,h3⟩,h4⟩
section
variable [Dr] {α:Type} [Inhabited α] {P:Program}
end
end Go.Av
namespace Go.Av
open Go.RowKit Go.Sort Go.Proofs
section
variable [Dr] {P:Program}
end
end Go.Av
namespace Go.Av
variable [Dr]
section
variable {c:Entry} {N:Nat} {U:Nat->Prop} {e:Env} {h:Hp} {a:Act} {w:World} {S:aF} {β:List bO} {γ:Nat->Value} {lam:Nat->Option Nat} {ω:Nat->Owner}
theorem FR.dead(H:FR c N U e h a w S β γ lam ω){l b:Nat}(hd:∀cs,h[l]? = some cs->cs=[])(hb:ω b= .heap l)(hS:∀o,S b o=none){w':World}(hg:Gro w w')(hsz:w'.heap.size=w.heap.size)(hold:∀k,k≠b->w'.heap[k]? = w.heap[k]?):
  FR c N U e h a w' S β γ lam ω:=by
 have hωb:∀k,ω k≠.heap l->k≠b:=fun k hk=>by rintro rfl;exact hk hb
 have hother:∀k,ω k≠.heap l->w'.heap[k]? = w.heap[k]?:=fun k hk=>hold k (hωb k hk);refine⟨fun k o v hv=>?_,H.gro.trans hg,fun k hk hE=>?_,H.le,H.ext,H.hlen,?_,H.tsz,H.slots,H.grps,?_,?_,fun k hk=>⟨(H.mine k hk).1,by rw[hsz];exact (H.mine k hk).2⟩,H.used⟩
 ·have hkb:k≠b:=by rintro rfl;rw[hS]at hv;cases hv
  rw[cell_of_heap (hold k hkb)];exact H.wf k o v hv
 ·have hkb:k≠b:=by
   rintro rfl
   have:=(H.mine k (by rw[hb];simp)).1.low
   rcases this with h|h
   ·exact hE h
   ·omega
  have:=H.keep k hk hE
  exact⟨by rw[hold k hkb];exact this.1,this.2⟩
 ·refine H.heap.rows (aF.le_refl S) (fu.refl β) H.hlen fun j ds hj hne=>.inl ⟨hj,fun k _ ho=>⟨ho,hother k ?_,fun o h=>h⟩⟩;rw[ho];simp only[Og,Owner.heap.injEq];rintro rfl;exact hne (hd ds hj)
 ·intro B n hB;obtain⟨k1,k2,k3,k,z,k4,k5,k6,k7,k8⟩:=H.lblk B n hB;exact⟨k1,k2,k3,k,z,k4,k5.of_eq (hother k (by rw[k6];simp)),k6,k7,k8⟩
 ·intro g z hg;obtain⟨a',len,cap,g1,g2,g3,g4⟩:=H.free g z hg;refine⟨a',len,cap,g1,g2,g3,g4.imp id ?_⟩;rintro⟨sz,k,off,z',k1,k2,k3,k4,k5,k6⟩;exact⟨sz,k,off,z',k1,k2,k3.of_eq (hother k (by rw[k5];simp)),k4,k5,k6⟩
end
section
variable {S:aF} {β:List bO} {h:Hp} {w:World}
theorem FR.cpost{e:Env}{h':Hp}{a:Act}{N:Nat}{U:Nat->Prop}{w':World}{S':aF}{β':List bO}{γ:Nat->Value}{lam:Nat->Option Nat}{ω:Nat->Owner}{hg:qK S β h w}(F:FR { w,S,β,E:=cG β h,gok:=hg } N U e h' a w' S' β' γ lam ω){r:AV}{v:Value}(hv:VR S' β' r v):
  ee none S β h w (.ok r h') (.returned v) w':=⟨S',β',v,rfl,hv,F.out,fun sz hsz=>by cases hsz⟩
theorem wo(hg:qK S β h w)(hw:Wf S w)(hh:de S β w h){l b n:Nat}{cs cs':List AV}{x y:Array Value}(hl:h[l]? = some cs)(hne:cs≠[])(hb:β[l]? = some (b,n))(hrow:Row w b x)(hys:y.size=x.size)(hcs:bg S β cs' (y.toList.take cs'.length))(htag:∀t,cN t cs'->cN t cs):ee none S β h w (.ok (.tup []) (h.set l cs')) (.returned (.tuple #[])) (w.setRow b y):=by
 obtain⟨γ,lam,ω,F⟩:=xk (args:=[]) (vs:=[]) (n:=0) hg hw hh (by simp[bg]) (LI _) (by omega);exact (F.turnH hl hne ⟨n,hb⟩ hrow hys hcs htag).cpost (by simp only[VR];exact⟨[],rfl,by simp[bg]⟩)
theorem wn(hg:qK S β h w)(hw:Wf S w)(hh:de S β w h){l b n:Nat}{cs:List AV}(hl:h[l]? = some cs)(hne:cs≠[])(hb:β[l]? = some (b,n)){w':World}(hgr:Gro w w')(hsz:w'.heap.size=w.heap.size)(hold:∀k,k≠b->w'.heap[k]? = w.heap[k]?){r:AV}{v:Value}(hv:VR S β r v):ee none S β h w (.ok r (h.set l [])) (.returned v) w':=by
 obtain⟨γ,lam,ω,F⟩:=xk (args:=[]) (vs:=[]) (n:=0) hg hw hh (by simp[bg]) (LI _) (by omega);obtain⟨b',n',k1,k2,k3,k4⟩:=F.heap.own hl hne;rw[hb]at k1;simp only[LA,Mv]at k1;obtain⟨rfl,rfl⟩:=k1;refine ((F.killH l).dead (l:=l) (fun cs' h'=>?_) k3 k4 hgr hsz hold).cpost hv;rw[L6]at h';simp only[Mc]at h';split at h'
 ·simpa using h'.symm
 ·cases h'
end
end Go.Av
namespace Go.Av
variable [Dr]
theorem nB{P:Program}{cx:Cx}{own:Option Nat}(hT:TOK P cx.T)(hC:cS P cx.own cx.call)(hI:IsoCall cx){f:FuncId}{fn:Func}(hf:P.funcs[f]? = some fn)(hnt:cx.nt=fn.ntmps){E:List AV->Hp->R AV}(h0:∀h,E [] h= .ok (.sl []) h)(h1:∀e es h,cX cx (dc 0) fn own [.sl (e:: es)] h=E (e:: es) h)(h2:∀h,cX cx (dc 0) fn own [.hn] h= .ok (.sl []) h)(h3:∀l off h,cX cx (dc 0) fn own [.hs l off 0 1 false] h= .ok (.sl []) h){es:List AV}{h:Hp}{S:aF}{β:List bO}{w:World}{vs:List Value}(hr:E es h≠.fail)(hg:qK S β h w)(hw:Wf S w)(hh:de S β w h)(hv:bg S β [.sl es] vs):Calls P f vs.toArray w (ee own S β h w (E es h))/\fn.body.isSome=true:=by
 cases es with
 |cons e es=>
  rw[<- h1]at hr |-;exact gZ hT hC hI 0 hf hnt hr hg hw hh hv
 | nil=>
  rw[h0];simp only[bg]at hv;obtain⟨v,_,rfl,hv,rfl⟩:=hv;have hv0:=hv;simp only[VR]at hv;obtain⟨a,cap,rfl,hc,hn,hq⟩:=hv;cases a with
  |none=>
   have hcap:=hn rfl;subst hcap;have hv2:bg S β [.hn] [.slice none ([]:List AV).length 0]:=by simp[bg,VR]
   have:=gZ (own:=own) hT hC hI 0 hf hnt (args:=[.hn]) (h:=h) (by rw[h2];simp) hg hw hh hv2
   rw[h2]at this;exact this
  | some q=>
   obtain⟨hs,_⟩:=hq q rfl;have hX:de S [(q.block,q.off+cap)] w [[]]:=⟨rfl,fun _=>.no,fun l cs hl hne=>by
    cases l with
    |zero=>simp at hl;exact absurd hl hne
    |succ l=>simp at hl⟩
   have hE:∀b,¬cG [(q.block,q.off+cap)] [[]] b:=by
    rintro b ⟨l,cs,n,k1,k2,_⟩;cases l with
    |zero=>simp at k1;exact k2 k1
    |succ l=>simp at k1
   have hv2:bg S [(q.block,q.off+cap)] [.hs 0 q.off 0 1 false] [.slice (some q) ([]:List AV).length cap]:=by
    simp only[bg,VR];rcases Mq cap with h0|h0
    ·subst h0;exact⟨_,_,rfl,.inr ⟨trivial,q,rfl⟩,rfl⟩
    ·have hq':q=⟨q.block,q.off,none⟩:=by
      have:=hs h0
      cases q;simp_all
     exact⟨_,_,rfl,.inl ⟨(q.block,q.off+cap),cap,rfl,(by show q.off+cap≠0;omega),by rw[<- hq'];rfl,LZ _,by simp⟩,rfl⟩
   have:=gZ (own:=own) hT hC hI 0 hf hnt (args:=[.hs 0 q.off 0 1 false]) (h:=[[]]) (by rw[h3];simp) ⟨hg.1,fun b _=>hE b,hg.2.2⟩ hw hX hv2
   rw[h3]at this;refine⟨this.1.mono fun en w' hp=>?_,this.2⟩;obtain⟨S',β',v,k1,k2,k3,k4⟩:=hp;obtain⟨S2,j1,j2,j3⟩:=xT hw hh hE k3;exact⟨S2,β,v,k1,j2 (.sl []) v k2,j1,fun sz hsz=>j3 sz v (k4 sz hsz)⟩
end Go.Av
namespace Go.Av
variable [Dr]
open Go.RowKit Go.WideShapes Go.ChangeShapes
theorem Left.below{S S':aF}{β β':List bO}{w w':World}{h':Hp}(L:Left (cG [] []) S β w S' β' w' h'):Below w.heap.size w w':=
 ⟨L.gro.os,L.gro.tape,L.gro.out,L.gro.size,fun k hk=>(L.keep k hk (by rintro⟨l,_,_,h1,_⟩;simp at h1)).1⟩
def kK(W:World):aF:=fun b o=>W.cell? ⟨b,o,none⟩
omit [Dr]in
theorem CJ(W:World):Wf (kK W) W:=fun _ _ _ h=>h
omit [Dr]in
theorem zh{W:World}(h:GOKw W):qK (kK W) [] [] W:=⟨h,fun b _ ho=>by obtain⟨l,_,_,h1,_⟩:=ho;simp at h1,Ec h⟩
theorem zr{P:Program}{p:Pg}(G:GoodPg P p)(hO:dY p){f:FuncId}{args:List AV}{vs:List Value}{W:World}(hg:GOKw W)(hv:bg (kK W) [] args vs)(ht:ai p f args []= .ok (.bool true) []):Calls P f vs.toArray W fun e W'=>e= .returned (.bool true)/\Below W.heap.size W W':=by
 have h:=(tH G hO f args [] (kK W) [] W vs (by rw[ht];simp) (zh hg) (CJ W) ⟨rfl,fun _=>.no,fun l cs hl=>by simp at hl⟩ hv).1;rw[ht]at h;refine h.mono fun e W' hp=>?_;obtain⟨S',β',v,rfl,hv,L,_⟩:=hp;simp only[VR]at hv;subst hv;exact⟨rfl,L.below⟩
section
variable {H:Type} {enc:TypeId×Value->H} {P:Program}
omit [Dr]in
theorem qG{f:Func}{s:ChangeSpec}{apart fresh handsOn again:Bool}{W W':World}{args:Array Value}{v:Value}{ds gs:List (DataW H)}{before pa pv:List MemPlace}(hW:DataW.Whole enc P f.params.toList s.vars apart W args.toList ds gs before)(hres:∀(b:Nat)(sp:Nat->Bool)(hd:Bool),DataW.TrodAll enc P W' b sp hd f.resultTypes.toList (v.resultList f.resultTypes.size) (s.fn H (ds++gs)).results [])(hargs:∀sp:Nat->Bool,(∀p∈before,sp p.block=true)->DataW.TrodAll enc P W' 0 sp true f.params.toList args.toList (s.fn H (ds++gs)).args pa)(hvars:∀sp:Nat->Bool,(∀p∈before,sp p.block=true)->DataW.TrodVars enc P W' sp s.vars (s.fn H (ds++gs)).vars pv)(hps:before=pa++pv)(hb:Below W.heap.size W W')(hok:∀(j:Nat)(t:TypeId)(r:Value),f.resultTypes[j]? = some t->(v.resultList f.resultTypes.size)[j]? = some r->Value.okWide P W' .any 0 t r):
  s.post enc P f apart fresh handsOn again W args v W':=by
 have hlt:∀p∈before,p.block<W.heap.size:=fun p hp=>hW.lt p hp;have hold:∀p∈before,(fun b=>decide (b<W.heap.size)) p.block=true:=fun p hp=>by simpa using hlt p hp
 refine⟨ds,gs,before,[],pa,pv,hW,hres _ _ _,hargs _ hold,hvars _ hold,World.keptBut_mono (fun p hp=>⟨hp,?_⟩) (hb.frame (· ∈before)),fun _=>?_⟩
 ·rw[hps,L3]at hp;exact Or.inr hp
 ·obtain⟨_,_,_,_,_,hz,hn⟩:=hW;refine⟨hok,_,_,([]++pa)++pv,⟨[]++pa,pv,trodAll_append (hargs _ (fun _ _=>rfl)) (hres _ _ _),hvars _ (fun _ _=>rfl),rfl,?_,?_⟩,?_⟩
  ·intro b off hp;have hin:MemPlace.cell b off∈before:=by rw[hps];simpa using hp
   rw[hb.frozen (hlt _ hin)];exact hz b off hin
  ·intro ha
   have:=hn ha
   rw[hps]at this;simpa using this
  ·intro p hp _;rw[hps];simpa using hp
end
end Go.Av
namespace Go.Av
open Go.RowKit
section
variable {H:Type} {enc:TypeId×Value->H} {P:Program} {w w':World}
theorem kU{base:Nat}{spare:Nat->Bool}{held:Bool}:∀ {ts:List TypeId} {vs:List Value} {ds:List (DataW H)} {ps:List MemPlace},DataW.TrodAll enc P w base spare held ts vs ds ps->(∀p∈ps,w.sameAt w' p)->DataW.TrodAll enc P w' base spare held ts vs ds ps
 |[],[],[],_,h,_=>h
 |_:: _,_:: _,_:: _,_,⟨p,q,⟨n,h1⟩,h2,e⟩,hs=>⟨p,q,⟨n,DataW.trod_carry n _ _ _ h1 (fun x hx=>hs x (by rw[e];exact Om _ hx))⟩,kU h2 (fun x hx=>hs x (by rw[e];exact NK _ hx)),e⟩
theorem s6(hb:Below w.heap.size w w'){p:MemPlace}(hp:p.block<w.heap.size):w.sameAt w' p:=by
 cases p with
 |cell b off=>
  have:=hb.block b hp
  show w'.cell? ⟨b,off,none⟩=w.cell? ⟨b,off,none⟩;simp only[World.cell?,this]
 |map b=>exact hb.block b hp
theorem vV{T:TypeId->Prop}(K:Kids P T)(hz:∀t e,T t->P.underlying t=some (.slice e)->0<P.cellsOf e){ts:List TypeId}{vs:List Value}{ds:List (DataW H)}{ps:List MemPlace}(hT:∀t∈ts,T t)(h:DataW.TrodAll enc P w 0 (fun _=>true) true ts vs ds ps)(hlt:∀p∈ps,p.block<w.heap.size)(hb:Below w.heap.size w w')(sp:Nat->Bool)(hsp:∀p∈ps,sp p.block=true):DataW.TrodAll enc P w' 0 sp true ts vs ds ps:=
 (kU h fun p hp=>s6 hb (hlt p hp)).respare K hz hT hsp
end
theorem xV{α:Type}(Q:Nat->α->Prop):∀n,(∀i,i<n->∃x,Q i x)->∃l:List α,l.length=n/\∀i x,l[i]? = some x->Q i x
 |0,_=>⟨[],rfl,fun i x h=>by simp at h⟩
 | n+1,h=>by
  obtain⟨l,h1,h2⟩:=xV Q n fun i hi=>h i (by omega);obtain⟨y,hy⟩:=h n (by omega);refine⟨l++[y],by simp[h1],fun i x hx=>?_⟩;by_cases hi:i<n
  ·rw[LP (by omega)]at hx;exact h2 i x hx
  ·rw[LS (by omega)]at hx;have hin:i-l.length=0:=by
    rcases Mq (i-l.length)with h|h
    ·exact h
    ·rw[LR (by simp;omega)]at hx;cases hx
   rw[hin]at hx;simp only[LV,LA]at hx;subst hx;obtain rfl:i=n:=by omega
   exact hy
end Go.Av
namespace Go.Av
open Go.RowKit Go.WideShapes Go.ChangeShapes
section
variable {H:Type} (enc:TypeId×Value->H) (P:Program) (W:World)
def Rd{α:Type}(N:Nat)(t:TypeId)(cells:α->List AV)(Ok:α->Prop):Prop:=∀(base:Nat)(held:Bool)(n:Nat),n<N->∀(cs:List Value)(x:DataW H×List MemPlace),DataW.trod enc P W base (fun _=>true) held n t cs=some x->(∀k∈x.1.weights P t,k<=reachBytes)->∃a:α,bg (kK W) [] (cells a) cs/\Ok a
def CH{α:Type}(N:Nat)(tot:Nat)(o:Nat)(fs:List Field)(cells:α->List AV)(Ok:α->Prop):Prop:=∀(base:Nat)(held:Bool)(n:Nat),n<N->∀(cs:List Value)(xs:List (DataW H×List MemPlace)),cs.length=tot->
 xs.length=fs.length->(∀(i:Nat)(f:Field),fs[i]? = some f->DataW.trod enc P W base (fun _=>true) held n f.type ((cs.drop f.offset).take (P.cellsOf f.type))=xs[i]?)->(∀k∈DataW.weightsEach P (fs.map (·.type)) (xs.map (·.1)),k<=reachBytes)->∃a:α,bg (kK W) [] (cells a) (cs.drop o)/\Ok a
variable {enc P W} {α β:Type} {N:Nat} {t:TypeId}
theorem Rd.zero{cells:α->List AV}{Ok:α->Prop}:Rd enc P W 0 t cells Ok:=fun _ _ n hn=>absurd hn (by omega)
theorem Rd.le{cells:α->List AV}{Ok:α->Prop}(h:Rd enc P W N t cells Ok){M:Nat}(hm:M<=N):Rd enc P W M t cells Ok:=fun b hd n hn=>h b hd n (by omega)
theorem Rd.map{cells:α->List AV}{Ok:α->Prop}(h:Rd enc P W N t cells Ok)(g:α->β){cells':β->List AV}{Ok':β->Prop}(hc:∀a,cells' (g a)=cells a)(ho:∀a,Ok a->Ok' (g a)):Rd enc P W N t cells' Ok':=by
 intro b hd n hn cs x hx hw;obtain⟨a,h1,h2⟩:=h b hd n hn cs x hx hw;exact⟨g a,by rw[hc];exact h1,ho a h2⟩
theorem yk(ht:P.underlying t=some .bool):Rd enc P W N t (fun b:Bool=>[.bool b]) (fun _=>True):=by
 intro b hd n hn cs x hx hw;obtain⟨b,rfl,_⟩:=DataW.trod_bool ht hx;exact⟨b,by simp[bg,VR],trivial⟩
theorem p7{k:IntKind}(ht:P.underlying t=some (.int k)):Rd enc P W N t (fun n:Int=>[.int k n]) (fun n=>(Lit.int k n).wf=true):=by
 intro b hd n hn cs x hx hw;obtain⟨b,rfl,_,hwf⟩:=DataW.trod_int ht hx;exact⟨b,by simp[bg,VR],hwf⟩
theorem ki(ht:P.underlying t=some .string):Rd enc P W N t (fun s:List UInt8=>[.str s]) (fun s=>s.length<=reachBytes):=by
 intro b hd n hn cs x hx hw;obtain⟨s,rfl,rfl,_⟩:=DataW.trod_string ht hx;exact⟨s.data.toList,by simp[bg,VR],hw _ (by simp[DataW.weights])⟩
def FU(cells:α->List AV)(ev:α->AV)(sz:Nat):Prop:=∀(a:α)(S:aF)(β:List bO)(vs:List Value),bg S β (cells a) vs->vs.length=sz->∃v,VR S β (ev a) v/\v.cells.toList=vs
theorem gP{cells:α->List AV}{ev:α->AV}{sz:Nat}(he:∀a,ev a= .agg (cells a)):FU cells ev sz:=fun a S β vs h hl=>⟨.agg vs.toArray,by rw[he];simp only[VR];exact⟨vs,rfl,h⟩,by simp[Value.cells]⟩
theorem AP{ev:α->AV}(ho:∀a,bn (ev a)=true):FU (fun a=>[ev a]) ev 1:=fun a S β vs h hl=>by
 simp only[bg]at h;obtain⟨v,_,rfl,h,rfl⟩:=h;exact⟨v,h,by rw[(gU (ho a) h).1]⟩
theorem kq{e:TypeId}:∀ {l:List (DataW H)} {d:DataW H},d∈l->∀k∈d.weights P e,k∈DataW.weightsAll P e l
 |x:: l,d,hd,k,hk=>by
  simp only[DataW.weightsAll,L3];rcases LU.1 hd with rfl|hd
  ·exact .inl hk
  ·exact .inr (kq hd k hk)
theorem ie{e:TypeId}{cells:α->List AV}{Ok:α->Prop}(h:Rd enc P W N e cells Ok)(ht:P.underlying t=some (.slice e)){sz by_:Nat}(hsz:P.cellsOf e=sz)(h0:0<sz)(hby:P.bytesOf e=by_){ev:α->AV}(hev:FU cells ev sz):
  Rd enc P W N t (fun l:List α=>[.sl (l.map ev)]) (fun l=>l.length*by_<=reachBytes/\∀a∈l,Ok a):=by
 intro base hd n hn cs x hx hw;rcases DataW.trod_slice ht hx with⟨rfl,rfl⟩|⟨a,len,cap,elems,rest,m,rfl,rfl,rfl,hb,hle,hm,hlen,hel,hsp,_⟩
 ·exact⟨[],by simp only[bg,N1,VR];exact⟨_,_,rfl,⟨none,0,rfl,LI _,fun _=>rfl,fun q hq=>by cases hq⟩,rfl⟩,by simp,fun a ha=>by cases ha⟩
 obtain⟨hrl,hre⟩:=hsp rfl;rw[hsz]at hel hre;simp only[DataW.weights,ht,LU,L3,hby]at hw;have hspot:0<cap->a.spot=none:=by
  intro hc;have:∃y,(W.cells? base (a.add 0) sz).bind (DataW.trod enc P W base (fun _=>true) hd m e)=some y:=by
   by_cases h1:0<len
   ·have:=hel 0 h1
    rw[LY (by omega)]at this;exact⟨_,by simpa using this⟩
   ·have:=hre 0 (by omega)
    rw[LY (by omega)]at this;obtain rfl:len=0:=by omega
    exact⟨_,by simpa using this⟩
  obtain⟨y,hy⟩:=this;obtain⟨cs,hcs,_⟩:=OU.1 hy;obtain⟨_,hl,hc⟩:=World.cells?_some hcs;have h2:=hc 0 h0;rw[LY (by omega)]at h2;have h3:=World.cell?_spot h2;have e:(a.add 0).add 0=a:=by unfold Addr.add;simp
  rwa [e]at h3
 have hx:∀i,i<len->∃y:α,(∃v,VR (kK W) [] (ev y) v/\v.cells.size=sz/\eH (kK W) a.block (a.off+i*sz) v.cells.toList)/\Ok y:=by
  intro i hi;have h1:=hel i hi;rw[LY (by omega)]at h1;obtain⟨cs,hcs,htr⟩:=OU.1 h1;obtain⟨y,hy,hok⟩:=h base hd m (by omega) cs _ htr (fun k hk=>hw k (.inr (.inl (kq (Mu.2 ⟨_,LM _,rfl⟩) k hk))));obtain⟨_,hl,hc⟩:=World.cells?_some hcs;obtain⟨v,hv,hvc⟩:=hev y _ _ cs hy hl;refine⟨y,⟨v,hv,by rw[<- MB,hvc,hl],fun j u hj=>?_⟩,hok⟩;rw[hvc]at hj;have hjl:j<sz:=by
   rcases L8 j cs.length with h|h
   ·omega
   ·rw[LR h]at hj;cases hj
  have h2:=hc j hjl;rw[hj]at h2;unfold kK;have hs:=hspot (by omega);have e:(a.add (i*sz)).add j=⟨a.block,a.off+i*sz+j,none⟩:=by
   obtain⟨b,o,s⟩:=a;simp only at hs;subst hs;rw[add_plain,add_plain]
  rw[<- e];exact h2
 obtain⟨l,hl1,hl2⟩:=xV (fun i y=>(∃v,VR (kK W) [] (ev y) v/\v.cells.size=sz/\eH (kK W) a.block (a.off+i*sz) v.cells.toList)/\Ok y) len hx;refine⟨l,?_,?_,fun y hy=>?_⟩
 ·simp only[bg,VR,M2];refine⟨_,_,rfl,⟨some a,cap,by rw[hl1],by omega,(fun e=>by cases e),fun q hq=>?_⟩,rfl⟩;cases hq;refine⟨hspot,sz,.of_get fun i e he=>?_⟩;rw[MH,MD]at he;obtain⟨y,hy,rfl⟩:=he;exact (hl2 i y hy).1
 ·have:=hw _ (.inl rfl)
  simp only[M2]at this;have h3:=L0 by_ (show l.length<=elems.length+rest.length by omega);omega
 ·obtain⟨i,hi,e⟩:=List.getElem_of_mem hy;exact (hl2 i y (by rw[LY hi,e])).2
theorem gu{tot:Nat}:CH enc P W N tot tot [] (fun _:Unit=>[]) (fun _=>True):=fun base hd n hn cs xs hl _ _ _=>⟨(),by simp[bg,<- hl],trivial⟩
theorem bc{tot o k:Nat}{f:Field}{fs:List Field}{c1:α->List AV}{Ok1:α->Prop}{c2:β->List AV}{Ok2:β->Prop}(h1:Rd enc P W N f.type c1 Ok1)(ho:f.offset=o)(hk:P.cellsOf f.type=k)(h2:CH enc P W N tot (o+k) fs c2 Ok2):
  CH enc P W N tot o (f:: fs) (fun x:α×β=>c1 x.1++c2 x.2) (fun x=>Ok1 x.1/\Ok2 x.2):=by
 intro base hd n hn cs xs hl hx hf hw
 match xs,hx with
 |x:: xs,hx=>
  have hf0:=hf 0 f rfl;rw[ho,hk]at hf0;simp only[Mi,DataW.weightsEach,L3]at hw;obtain⟨a,ha,oa⟩:=h1 base hd n hn _ x hf0 fun k hk=>hw k (.inl hk);obtain⟨b,hb,ob⟩:=h2 base hd n hn cs xs hl (by simpa using hx) (fun i g hg=>by simpa using hf (i+1) g (by simpa using hg)) fun k hk=>hw k (.inr hk);refine⟨(a,b),?_,oa,ob⟩
  have:=ha.append hb
  rwa [<- List.drop_drop,List.take_append_drop]at this
theorem fl{fs:Array Field}{tot:Nat}{cells:α->List AV}{Ok:α->Prop}(ht:P.underlying t=some (.struct fs))(hc:P.cellsOf t=tot)(h:CH enc P W N tot 0 fs.toList cells Ok):Rd enc P W (N+1) t cells Ok:=by
 intro base hd n hn cs x hx hw;obtain⟨xs,m,rfl,rfl,hl,hxs,hf⟩:=DataW.trod_struct ht hx;simp only[DataW.weights,ht]at hw;obtain⟨a,h1,h2⟩:=h base hd m (by omega) cs xs (by rw[hl,hc]) (by simpa using hxs) (fun i f hi=>hf i f (by simpa using hi)) hw;exact⟨a,by simpa using h1,h2⟩
theorem BV{cells:α->List AV}{Ok:α->Prop}(h:∀N,Rd enc P W N t cells Ok){base:Nat}{held:Bool}{v:Value}{d:DataW H}{p:List MemPlace}(hd:DataW.Trod enc P W base (fun _=>true) held t v d p)(hw:∀k∈d.weights P t,k<=reachBytes):
  ∃a:α,bg (kK W) [] (cells a) v.cells.toList/\Ok a:=by
 obtain⟨n,hn⟩:=hd;exact h (n+1) base held n (by omega) _ _ hn hw
theorem D1{f:α->AV}{Ok:α->Prop}(h:∀N,Rd enc P W N t (fun a=>[f a]) Ok){base:Nat}{held:Bool}{v:Value}{d:DataW H}{p:List MemPlace}(hv:v.cells.toList=[v])(hd:DataW.Trod enc P W base (fun _=>true) held t v d p)(hw:∀k∈d.weights P t,k<=reachBytes):
  ∃a:α,VR (kK W) [] (f a) v/\Ok a:=by
 obtain⟨a,h1,h2⟩:=BV h hd hw;rw[hv]at h1;simp only[bg]at h1;obtain⟨y,ys,e,h1,rfl⟩:=h1;cases e;exact⟨a,h1,h2⟩
theorem yI{e:TypeId}{r:Reach}{b0:Nat}{f:α->AV}{Ok:α->Prop}(h:∀N,Rd enc P W N t (fun a=>[f a]) Ok)(ht:P.underlying t=some (.slice e)){base:Nat}{held:Bool}{v:Value}{d:DataW H}{p:List MemPlace}(hok:Value.okWide P W r b0 t v)(hd:DataW.Trod enc P W base (fun _=>true) held t v d p)(hw:∀k∈d.weights P t,k<=reachBytes):∃a:α,VR (kK W) [] (f a) v/\Ok a:=by
 obtain⟨a,len,cap,rfl⟩:=okWide_slice ht hok;exact D1 h rfl hd hw
theorem vU{fs:Array Field}{r:Reach}{b0:Nat}{f:α->AV}{Ok:α->Prop}{cells:α->List AV}(h:∀N,Rd enc P W N t cells Ok)(hf:∀a,f a= .agg (cells a))(ht:P.underlying t=some (.struct fs)){base:Nat}{held:Bool}{v:Value}{d:DataW H}{p:List MemPlace}(hok:Value.okWide P W r b0 t v)(hd:DataW.Trod enc P W base (fun _=>true) held t v d p)(hw:∀k∈d.weights P t,k<=reachBytes):∃a:α,VR (kK W) [] (f a) v/\Ok a:=by
 obtain⟨cs,rfl,_⟩:=okWide_struct ht hok;obtain⟨a,h1,h2⟩:=BV h hd hw;refine⟨a,?_,h2⟩;rw[hf];simp only[VR];exact⟨cs.toList,by simp,h1⟩
theorem oW{ts:List TypeId}{ds:List (DataW H)}(h:(DataW.weightsEach P ts ds).all (· <=reachBytes)=true){j:Nat}{u:TypeId}{d:DataW H}(ht:ts[j]? = some u)(hd:ds[j]? = some d):∀k∈d.weights P u,k<=reachBytes:=fun k hk=>by
 have:=LO.1 h _ (DataW.weights_mem_each ht hd k hk)
 simpa using this
end
end Go.Av
namespace Go.Av
attribute [simp] ax am An yM
@[simp] theorem ap{α:Type}(b:Bool)(x y:M α):ar (.bool b) x y=if b=true then x else y:=by cases b<;>rfl
def gv(b w:Bool)(y:AV):AV:=bif b== w then y else .tup []
@[simp] theorem KG(y:AV):gv false false y=y:=rfl
@[simp] theorem KJ(y:AV):gv true true y=y:=rfl
@[simp] theorem KH(y:AV):gv false true y= .tup []:=rfl
@[simp] theorem KI(y:AV):gv true false y= .tup []:=rfl
@[simp high] theorem bA(b w:Bool)(y:AV):ay (.bool b) w 1 (M.pure [y])=M.pure [gv b w y]:=by cases b<;>cases w<;>rfl
@[simp high] theorem G2(b w c w2:Bool)(y:AV):ay (gv b w (.bool c)) w2 1 (M.pure [y])=M.pure [gv b w (gv c w2 y)]:=by cases b<;>cases w<;>cases c<;>cases w2<;>rfl
@[simp high] theorem G3(b w c e:Bool):ay (.bool b) w 1 (ae (af (aJ (gv b w (.bool c)) (.bool true) (gv b w (gv c false (.bool e))))) fun v=>M.pure [v])=M.pure [gv b w (.bool (c||e))]:=by
 cases b<;>cases w<;>cases c<;>rfl
@[simp high] theorem Gv(b w c e:Bool):ay (.bool b) w 1 (ae (af (aJ (gv b w (.bool c)) (gv b w (gv c true (.bool e))) (.bool false))) fun v=>M.pure [v])=M.pure [gv b w (.bool (c&&e))]:=by
 cases b<;>cases w<;>cases c<;>rfl
@[simp high] theorem d7(b c:Bool):aJ (.bool b) (gv b true (.bool c)) (.bool false)=some (.bool (b&&c)):=by cases b<;>rfl
@[simp high] theorem ic(b c:Bool):aJ (.bool b) (.bool true) (gv b false (.bool c))=some (.bool (b||c)):=by cases b<;>rfl
@[simp] theorem Dp(w:Bool)(n:Nat)(m:M (List AV)):ay (.bool !w) w n m=M.pure (List.replicate n (.tup [])):=by cases w<;>rfl
@[simp] theorem bX(w:Bool)(n:Nat)(m:M (List AV)):ay (.bool w) w n m=m:=by cases w<;>rfl
@[simp] theorem kB(n:Nat)(m:M (List AV)):ay (.bool false) true n m=M.pure (List.replicate n (.tup [])):=rfl
@[simp] theorem zi(n:Nat)(m:M (List AV)):ay (.bool true) false n m=M.pure (List.replicate n (.tup [])):=rfl
@[simp] theorem wJ(w:Bool)(n:Nat)(m:M (List AV)):ay (.tup []) w n m=M.pure (List.replicate n (.tup [])):=rfl
@[simp] theorem ct(x y:AV):aJ (.bool true) x y=some x:=rfl
@[simp] theorem dB(x y:AV):aJ (.bool false) x y=some y:=rfl
@[simp] theorem aw(x:AV)(l:List AV):nth (x:: l) 0=x:=rfl
@[simp] theorem aB(x:AV)(l:List AV)(n:Nat):nth (x:: l) (n+1)=nth l n:=rfl
@[simp] theorem Kd{α:Type}(k:List AV->M α)(m:(List AV->M α)->M α):jn k m=m k:=rfl
@[simp] theorem dU{α:Type}(a:α):cW (M.pure a)=M.pure a:=rfl
@[simp] theorem gO(b:Bool):fm .not (.bool b)=some (.bool !b):=rfl
@[simp] theorem cn(l:List AV)(i:Nat):aG (.tup l) i=l[i]?:=rfl
@[simp] theorem FN:True:=trivial
@[simp] theorem GJ(l k:Nat):bB (.hp l k)=some (.hp l k):=rfl
@[simp] theorem GK(cs:List AV):bB (.ip cs)=some (.ip cs):=rfl
@[simp] theorem i7(s:List UInt8):ab (.str s)=[.str s]:=rfl
@[simp] theorem F0(k:IntKind)(n:Int):ab (.int k n)=[.int k n]:=rfl
@[simp] theorem oC(cs:List AV):ab (.agg cs)=cs:=rfl
@[simp] theorem bD(T:TT)(t:Nat)(a b:Int):ao T .add t (.int .i64 a) (.int .i64 b)=some (.int .i64 (IntKind.i64.wrap (a+b))):=rfl
@[simp] theorem gd(T:TT)(t:Nat)(a b:Int):ao T .sub t (.int .i64 a) (.int .i64 b)=some (.int .i64 (IntKind.i64.wrap (a-b))):=rfl
@[simp] theorem I8(T:TT)(t:Nat)(a b:Int):ao T .mul t (.int .i64 a) (.int .i64 b)=some (.int .i64 (IntKind.i64.wrap (a*b))):=rfl
@[simp] theorem aH(T:TT)(t:Nat)(a b:Int):ao T .lss t (.int .i64 a) (.int .i64 b)=some (.bool (decide (a<b))):=rfl
@[simp] theorem kw(T:TT)(t:Nat)(a b:Int):ao T .leq t (.int .i64 a) (.int .i64 b)=some (.bool (decide (a<=b))):=rfl
@[simp] theorem gH(T:TT)(t:Nat)(a b:Int):ao T .gtr t (.int .i64 a) (.int .i64 b)=some (.bool (decide (b<a))):=rfl
@[simp] theorem oo(T:TT)(t:Nat)(a b:Int):ao T .geq t (.int .i64 a) (.int .i64 b)=some (.bool (decide (b<=a))):=rfl
@[simp] theorem I7(T:TT)(t:Nat)(a b:Int):ao T .eql t (.int .i64 a) (.int .i64 b)=some (.bool (a== b)):=rfl
@[simp] theorem sd(T:TT)(t:Nat)(a b:Int):ao T .neq t (.int .i64 a) (.int .i64 b)=some (.bool (a != b)):=rfl
@[simp] theorem yy(T:TT)(t:Nat)(a b:List UInt8):ao T .eql t (.str a) (.str b)=some (.bool (a== b)):=rfl
@[simp] theorem Jo(T:TT)(t:Nat)(a b:List UInt8):ao T .neq t (.str a) (.str b)=some (.bool !(a== b)):=rfl
@[simp] theorem Jn(T:TT)(t:Nat)(a b:List UInt8):ao T .lss t (.str a) (.str b)=some (.bool (bK a b)):=rfl
@[simp] theorem Jm(T:TT)(t:Nat)(a b:List UInt8):ao T .geq t (.str a) (.str b)=some (.bool !(bK a b)):=rfl
@[simp] theorem ck{n:Nat}{x:AV}(h:cI n x=true):aT n x=M.pure (.agg (ab x)):=by
 unfold aT je;rw[h];rfl
@[simp] theorem bJ{n:Nat}{x:AV}(h:cI n x=true):aE n [] x=M.pure (.agg (ab x)):=by
 unfold aE je;rw[h];rfl
@[simp] theorem Ha(b:Bool)(x:AV):gF b [x]=some x:=by simp[gF]
@[simp] theorem Hc(b:Bool)(a c:Int):gF b [.int .i64 a,.int .i64 c]=some (.int .i64 (if b=true then max a c else min a c)):=by
 cases b
 ·simp only[gF,zx,LL];congr 2;simp only[Int.min_def];split<;>split<;>simp_all<;>omega
 ·simp only[gF,zx,LF];congr 2;simp only[Int.max_def];split<;>split<;>simp_all<;>omega
def a8{x:Int}(h1:-9223372036854775808<=x)(h2:x<=9223372036854775807):IntKind.i64.wrap x=x:=IntWalk.i64_in _ ⟨h1,h2⟩
def Cs{n:Nat}(h:n<=4611686018427387904):IntKind.i64.wrap (n:Int)=(n:Int):=IntWalk.i64_in _ (by omega)
def bu{n:Nat}(h:n<=4611686018427387904):IntKind.i64.wrap ((n:Int)+1)=((n+1:Nat):Int):=by
 rw[IntWalk.i64_in _ (by omega)];omega
def iX{n:Nat}(h:n<=4611686018427387904):IntKind.i64.wrap (((n+1:Nat):Int)-1)=(n:Int):=by
 rw[IntWalk.i64_in _ (by omega)];omega
namespace Ap
mutual
def Val.sz:Val->Nat
 |.mk _ _ ns vs=>1+ns.length+Cp vs
def Cp:List Val->Nat
 |[]=>0
 |v:: vs=>v.sz+Cp vs
end
end Ap
end Go.Av
namespace Go.Av
def bG{α:Type}(F:α->Bool):List α->Int->Int
 |[],_=>-1
 |x:: l,i=>if F x=true then i else bG F l (i+1)
theorem pm{α:Type}(F:α->Bool):(l:List α)->(i:Int)->0<=i->(0<=bG F l i↔l.any F=true)
 |[],i,_=>by simp[bG]
 |x:: l,i,h=>by
  simp only[bG];split
  ·rename_i hx;simp[hx,h]
  ·rename_i hx;rw[pm F l (i+1) (by omega)];simp[hx]
def mT{α:Type}(F:α->Bool)(l:List α):decide (0<=bG F l 0)=l.any F:=by
 have:=pm F l 0 (by omega)
 cases h:l.any F with
 |true=>simp[this.2 h]
 |false=>simp only[M9];intro hh;rw[this.1 hh]at h;cases h
@[simp] theorem FO(a b:Nat):((a:Int)== (b:Int))=(a== b):=by rw[Nl];simp;omega
@[simp] theorem DL(a:Nat):((a:Int)== 0)=(a== 0):=by rw[Nl];simp
@[simp] theorem FP(a b:Nat):((a:Int) != (b:Int))=(a != b):=by rw[Nl];simp;omega
def oG{α β:Type}(F:α->β->Bool):List α->List β->Bool
 |x:: l,y:: r=>F x y&&oG F l r
 |[],[]=>true
 |_,_=>false
end Go.Av
namespace Go.Av
open Ap
@[simp high] theorem Gf(x:Val):aT 4 (Val.av x)=M.pure (Val.av x):=by rw[ck (pU x),oE,ug]
@[simp high] theorem C4(x:Val):aE 4 [] (Val.av x)=M.pure (Val.av x):=by rw[bJ (pU x),oE,ug]
@[simp high] theorem we(x:Exp):aT 6 (Exp.av x)=M.pure (Exp.av x):=by rw[ck (kc x),bp,ez]
@[simp high] theorem CZ(x:Exp):aE 6 [] (Exp.av x)=M.pure (Exp.av x):=by rw[bJ (kc x),bp,ez]
@[simp high] theorem wg(x:bM):aT 3 (bW x)=M.pure (bW x):=by rw[ck (iS x),dQ,jU]
@[simp high] theorem C0(x:bM):aE 3 [] (bW x)=M.pure (bW x):=by rw[bJ (iS x),dQ,jU]
@[simp high] theorem wi(x:Fun):aT 12 (Fun.av x)=M.pure (Fun.av x):=by rw[ck (mc x),eq,lT]
@[simp high] theorem C1(x:Fun):aE 12 [] (Fun.av x)=M.pure (Fun.av x):=by rw[bJ (mc x),eq,lT]
@[simp high] theorem Gd(x:Mod):aT 9 (Mod.av x)=M.pure (Mod.av x):=by rw[ck (pS x),bN,ub]
@[simp high] theorem C2(x:Mod):aE 9 [] (Mod.av x)=M.pure (Mod.av x):=by rw[bJ (pS x),bN,ub]
@[simp high] theorem FC(x:Vars):aT 2 (Vars.av x)=M.pure (Vars.av x):=by rw[ck (rB x),nv,ri]
@[simp high] theorem Cy(x:Vars):aE 2 [] (Vars.av x)=M.pure (Vars.av x):=by rw[bJ (rB x),nv,ri]
@[simp high] theorem FB(x:Deed):aT 3 (Deed.av x)=M.pure (Deed.av x):=by rw[ck (rA x),nu,re]
@[simp high] theorem Cw(x:Deed):aE 3 [] (Deed.av x)=M.pure (Deed.av x):=by rw[bJ (rA x),nu,re]
@[simp high] theorem FA(x:Ap.Call):aT 3 (Ap.Call.av x)=M.pure (Ap.Call.av x):=by rw[ck (ry x),nr,rc]
@[simp high] theorem Cv(x:Ap.Call):aE 3 [] (Ap.Call.av x)=M.pure (Ap.Call.av x):=by rw[bJ (ry x),nr,rc]
@[simp high] theorem Ge(x:Ap.Out):aT 8 (Ap.Out.av x)=M.pure (Ap.Out.av x):=by rw[ck (uR x),oD,uc]
@[simp high] theorem C3(x:Ap.Out):aE 8 [] (Ap.Out.av x)=M.pure (Ap.Out.av x):=by rw[bJ (uR x),oD,uc]
@[simp] theorem ov(t:Ty):cI 2 t.av=true:=by simp[cI,bn,aO]
@[simp high] theorem iJ(x:Ty):aT 2 (Ty.av x)=M.pure (Ty.av x):=by rw[ck (ov x),eG,fA]
@[simp high] theorem tI(x:Ty):aE 2 [] (Ty.av x)=M.pure (Ty.av x):=by rw[bJ (ov x),eG,fA]
end Go.Av
namespace Go.Av
@[simp] theorem Cz(c:Prop)[Decidable c](a b:Bool):(if c then(M.pure (.bool a):M AV)else M.pure (.bool b))=M.pure (.bool (if c then a else b)):=by split<;>rfl
@[simp] theorem Ds(c:Prop)[Decidable c](a b:Int):(if c then(M.pure (.int .i64 a):M AV)else M.pure (.int .i64 b))=M.pure (.int .i64 (if c then a else b)):=by split<;>rfl
def Dm{F:(List AV->M AV)->List AV->M AV}(hF:∀vs,ah F vs=F (ah F) vs)(st:Nat->List AV)(n:Nat)(G:Nat->Bool)(hend:F (ah F) (st n)=M.pure (.bool true))(hstep:∀k,k<n->F (ah F) (st k)=if G k=true then ah F (st (k+1))else M.pure (.bool false)):
  ∀k,k<=n->ah F (st k)=M.pure (.bool ((List.range' k (n-k)).all G)):=by
 have key:∀r k,n-k=r->k<=n->ah F (st k)=M.pure (.bool ((List.range' k r).all G)):=by
  intro r
  induction r with
  |zero=>
   intro k hr hk;obtain rfl:k=n:=by omega
   rw[hF,hend];rfl
  |succ r ih=>
   intro k hr hk;rw[hF,hstep k (by omega),ih (k+1) (by omega) (by omega)];simp only[N7,MQ];cases G k<;>rfl
 exact fun k hk=>key (n-k) k rfl hk
def vS{α:Type}[Inhabited α](P:α->Bool)(l:List α):(List.range' 0 l.length).all (fun k=>P l[k]!)=l.all P:=by
 rw[Nl];simp only[LO,List.mem_range'_1];constructor
 ·intro h x hx;obtain⟨i,hi,rfl⟩:=List.getElem_of_mem hx
  have:=h i ⟨LZ _,by omega⟩
  rwa [LK l i hi]at this
 ·intro h k hk;have hk':k<l.length:=by omega
  rw[LK l k hk'];exact h _ (LM hk')
def ni{T:TT}{t e:Nat}{ti ei:TI}(ht:T t=some ti)(hk:ti.kind= .slice e)(he:T e=some ei)(es:List AV)(hok:cR ei.size es=true){n:Int}(h0:0<=n)(h1:n<=es.length):dj T t (.sl es) (some (.int .i64 n)) none none=some (.sl (es.drop n.toNat)):=by
 unfold dj;rw[ht];simp[hk,he,cC,h0,h1,hok]
end Go.Av
namespace Go.Av.Ap
open Go Go.Av
def Val.limN:Nat->Val->Prop
 |0,_=>True
 |n+1,v=>v.names.length<=140737488355328/\v.values.length<=140737488355328/\∀x∈v.values,x.limN n
def Val.Lim(v:Val):Prop:=∀n,v.limN n
def Exp.limN:Nat->Exp->Prop
 |0,_=>True
 |n+1,v=>v.names.length<=8796093022208/\v.args.length<=140737488355328/\∀x∈v.args,x.limN n
def Exp.Lim(v:Exp):Prop:=∀n,v.limN n
def Ty.limN:Nat->Ty->Prop
 |0,_=>True
 |n+1,v=>v.fields.length<=140737488355328/\∀x∈v.fields,x.2.limN n
def Ty.Lim(v:Ty):Prop:=∀n,v.limN n
def Val.Lim.names{v:Val}(h:v.Lim):v.names.length<=140737488355328:=(h 1).1
def Val.Lim.len{v:Val}(h:v.Lim):v.values.length<=140737488355328:=(h 1).2.1
def Val.Lim.kid{v:Val}(h:v.Lim){x:Val}(hx:x∈v.values):x.Lim:=fun n=>(h (n+1)).2.2 x hx
def Exp.Lim.names{v:Exp}(h:v.Lim):v.names.length<=8796093022208:=(h 1).1
def Exp.Lim.len{v:Exp}(h:v.Lim):v.args.length<=140737488355328:=(h 1).2.1
def Exp.Lim.kid{v:Exp}(h:v.Lim){x:Exp}(hx:x∈v.args):x.Lim:=fun n=>(h (n+1)).2.2 x hx
def Ty.Lim.len{v:Ty}(h:v.Lim):v.fields.length<=140737488355328:=(h 1).1
def Ty.Lim.kid{v:Ty}(h:v.Lim){x:bM}(hx:x∈v.fields):x.2.Lim:=fun n=>(h (n+1)).2 x hx
structure Fun.Lim (f:Fun):Prop where
 params:f.params.length<=140737488355328
 pty:∀x∈f.params,x.2.Lim
 result:f.result.Lim
 body:f.body.Lim
structure Mod.Lim (m:Mod):Prop where
 uses:m.uses.length<=140737488355328
 vars:m.vars.length<=140737488355328
 vty:∀x∈m.vars,x.2.Lim
 init:m.init.length<=140737488355328
 ies:∀e∈m.init,e.Lim
 funcs:m.funcs.length<=140737488355328
 fns:∀f∈m.funcs,f.Lim
 old:m.old.length<=140737488355328
 oty:∀x∈m.old,x.2.Lim
 forward:m.forward.length<=140737488355328
 fes:∀e∈m.forward,e.Lim
 back:m.back.length<=140737488355328
 bes:∀e∈m.back,e.Lim
def ou(b:UInt8):Bool:=decide (97<=b.toNat)&&decide (b.toNat<=122)
def wu(b:UInt8):Bool:=decide (48<=b.toNat)&&decide (b.toNat<=57)
def fQ(b:UInt8):Bool:=ou b||wu b
def mC(s:aU):Bool:=!(s== [])&&ou (s.headD 0)&&decide (s.length<=20)&&((s.takeWhile fQ).length== s.length)
def kF:aU:=[32,97,110,100,32,98,97,99,107,32,98,111,111,108,32,99,108,111,99,107,32,101,108,115,101,32,102,97,108,115,101,32,102,105,108,101,115,32,102,110,32,102,111,114,119,97,114,100,32,103,101,116,32,105,102,32,105,110,32,105,110,116,32,108,101,116,32,109,111,100,117,108,101,32,109,111,118,101,32,110,101,116,32,110,111,116,32,111,114,32,112,117,98,32,115,101,99,114,101,116,115,32,115,101,116,32,116,104,101,110,32,116,114,117,101,32,117,115,101,32,118,97,114,32]
def bz(s:aU):Bool:=mC s&&!(Lib.contains kF ([32]++s++[32]))
def rV{s:aU}(h:mC s=true):s.length<=20:=by
 unfold mC at h;simp only[LD,LB]at h;exact h.1.2
def dD(p f:aU):Bool:=!(bK f p||f== p)
def mH{α:Type}(Q:α->α->Bool):List α->Bool
 |x:: y:: r=>Q x y&&mH Q (y:: r)
 |_=>true
theorem tz{α:Type}[Inhabited α](Q:α->α->Bool):(l:List α)->(mH Q l=true↔∀k,k+1<l.length->Q l[k]! l[k+1]! = true)
 |[]=>by simp[mH]
 |[x]=>by simp[mH]
 | x:: y:: r=>by
  simp only[mH,LD,tz Q (y:: r)];constructor
  ·rintro⟨h1,h2⟩ k hk;cases k with
   |zero=>simpa using h1
   |succ k=>simpa using h2 k (by simpa using hk)
  ·intro h;refine⟨by simpa using h 0 (by simp),fun k hk=>?_⟩;simpa using h (k+1) (by simpa using hk)
def sb{α:Type}[Inhabited α](P:α->Bool)(Q:α->α->Bool)(l:List α):(List.range' 0 l.length).all (fun k=>P l[k]! && (decide (k=0)||Q l[k-1]! l[k]!))=(l.all P&&mH Q l):=by
 rw[Nl,LD,<- vS P l,tz];simp only[LO,List.mem_range'_1,LD,ML,LB];constructor
 ·intro h;refine⟨fun k hk=>(h k hk).1,fun k hk=>?_⟩
  have:=(h (k+1) ⟨LZ _,by omega⟩).2
  rcases this with h0|h1
  ·omega
  ·simpa using h1
 ·rintro⟨h1,h2⟩ k hk;refine⟨h1 k hk,?_⟩;cases k with
  |zero=>exact .inl rfl
  |succ k=>exact .inr (by simpa using h2 k (by omega))
def dK:Nat->Ty->Bool
 |0,_=>false
 |d+1,t=>decide (0<=t.kind)&&decide (t.kind<3)&&decide (t.fields.length<=8)&&(t.kind== 2||t.fields.length== 0)&&(t.fields.all (fun f=>bz f.1&&dK d f.2)&&mH (fun a b=>dD a.1 b.1) t.fields)
theorem kl(d:Nat)(t:Ty):dK (d+1) t=(decide (0<=t.kind)&&decide (t.kind<3)&&decide (t.fields.length<=8)&&(t.kind== 2||t.fields.length== 0)&&(t.fields.all (fun f=>bz f.1&&dK d f.2)&&mH (fun a b=>dD a.1 b.1) t.fields)):=rfl
abbrev ci(t:Ty):Bool:=dK 4 t
mutual
def sc:Ty->Ty->Bool
 |.mk k fs,a=>a.kind== k&&om fs a.fields
def om:List (aU×Ty)->List bM->Bool
 |[],_=>true
 |f:: fs,l=>vY f l&&om fs l
def vY:aU×Ty->List bM->Bool
 |(n,t),l=>match cf (fun z=>z.1== n) l with
  |some z=>sc t z.2
  |none=>false
end
def cB(a b:Ty):Bool:=sc b a
theorem nA:(fs:List bM)->(l:List bM)->om fs l=fs.all fun f=>vY f l
 |[],_=>rfl
 |f:: fs,l=>by simp[om,nA fs l]
def yJ(a b:Ty):cB a b=(a.kind== b.kind&&b.fields.all fun f=>match cf (fun z=>z.1== f.1) a.fields with|some z=>cB z.2 f.2|none=>false):=by
 cases b with
 |mk k fs=>
  show sc (.mk k fs) a=_;simp only[sc,nA,Ty.kind,Ty.fields];congr 2;funext f;obtain⟨n,t⟩:=f;simp only[vY,cB]
def gg(a b:Int):Int:=IntKind.i64.wrap (BitVec.ofInt 64 a &&& ~~~ BitVec.ofInt 64 b).toNat
structure Sig.Lim (s:Sig):Prop where
 plen:s.params.length<=140737488355328
 ptys:∀t∈s.params,t.Lim
 result:s.result.Lim
structure Face.Lim (f:Face):Prop where
 len:f.funcs.length<=140737488355328
 sigs:∀s∈f.funcs,s.Lim
@[simp] theorem oN(x:Sig):aT 5 x.av=M.pure x.av:=by rw[ck (pT x),gY,ud]
@[simp] theorem sf(x:Sig):aE 5 [] x.av=M.pure x.av:=by rw[bJ (pT x),gY,ud]
structure Ins where
 op:Int
 a:Int
 s:aU
 m:aU
 names:List aU
 deriving Inhabited
def Ins.cells(i:Ins):List AV:=[.int .i64 i.op,.int .i64 i.a,.str i.s,.str i.m,strs i.names]
def Ins.av(i:Ins):AV:=.agg i.cells
structure Cod where
 func:aU
 params:Int
 locals:Int
 code:List Ins
 deriving Inhabited
def jW(l:List Ins):AV:=.sl (l.map Ins.av)
def Cod.av(c:Cod):AV:=.agg [.str c.func,.int .i64 c.params,.int .i64 c.locals,jW c.code]
def dp(l:List Cod):AV:=.sl (l.map Cod.av)
def aD(op a:Int):Ins:=⟨op,a,[],[],[]⟩
def gA(names:List aU)(s:aU):Nat->Int
 |0=>-1
 |n+1=>if names[n]? = some s then(n:Int)else gA names s n
def jy(names:List aU)(s:aU):Int:=gA names s names.length
def iW(vars:List bM)(s:aU):Int:=bG (fun f=>f.1== s) vars 0
def fJ(c:List Ins)(k:Nat)(n:Int):List Ins:=c.set k { c[k]! with a:=n }
def fe(n:Int):Exp:=.mk 1 n [] [] [] []
abbrev dP:=List Ins×Int
def bF(i:Ins)(c:dP):dP:=(c.1++[i],c.2)
def bU(vars:List bM)(e:Exp):Ins:=
 if e.op=3 then aD 4 0 else if e.op=4 then aD 5 0 else if e.op=5 then aD 6 0 else if e.op=6 then aD 7 0 else if e.op=7 then aD 8 0 else if e.op=10 then aD 9 0
 else if e.op=13 then⟨12,0,[],[],e.names⟩else if e.op=14 then⟨13,0,e.s,[],[]⟩else if e.op=15 then⟨14,e.args.length,e.s,e.m,[]⟩else if e.op=16 then aD 15 e.n else aD 17 (iW vars e.s)
def cT(em:Exp->dP->dP)(yes no:Exp)(c:dP):dP:=
 let c1:=bF (aD 11 0) c;let c2:=em yes c1;let c3:=bF (aD 10 0) c2;let c4:dP:=(fJ c3.1 c.1.length c3.1.length,c3.2);let c5:=em no c4
 (fJ c5.1 c2.1.length c5.1.length,c5.2)
def aN(vars:List bM):Nat->Exp->List aU->dP->dP
 |0,_,_,c=>c
 | n+1,e,names,c=>
  if e.op=0 then bF (aD 0 e.n) c
  else if e.op=1 then bF (aD 1 e.n) c
  else if e.op=2 then bF (aD 2 (jy names e.s)) c
  else if e.op=17 then bF (aD 16 (iW vars e.s)) c
  else if e.op=8 then cT (fun x=>aN vars n x names) e.args[1]! (fe 0) (aN vars n e.args[0]! names c)
  else if e.op=9 then cT (fun x=>aN vars n x names) (fe 1) e.args[1]! (aN vars n e.args[0]! names c)
  else if e.op=11 then cT (fun x=>aN vars n x names) e.args[1]! e.args[2]! (aN vars n e.args[0]! names c)
  else if e.op=12 then
   let c1:=bF (aD 3 names.length) (aN vars n e.args[0]! names c)
   aN vars n e.args[1]! (names++[e.s]) (c1.1,max c1.2 (names.length+1))
  else bF (bU vars e) (e.args.foldl (fun c x=>aN vars n x names c) c)
def bh(vars:List bM)(f:Fun):Cod:=
 let c:=bF (aD 18 0) (aN vars 12 f.body (f.params.map (·.1)) ([],f.params.length))
 ⟨f.name,f.params.length,c.2,c.1⟩
def eY(e:Exp):Exp×Int:=
 if e.op=0\/e.op=1 then(.mk e.op e.n [] [] [] e.args,0)
 else if e.op=2\/e.op=17 then(.mk e.op 0 e.s [] [] e.args,0)
 else if e.op=18\/e.op=14 then(.mk e.op 0 e.s [] [] e.args,1)
 else if e.op=16 then(.mk e.op e.n [] [] [] e.args,1)
 else if e.op=10 then(.mk e.op 0 [] [] [] e.args,1)
 else if e.op=12 then(.mk e.op 0 e.s [] [] e.args,2)
 else if e.op=11 then(.mk e.op 0 [] [] [] e.args,3)
 else if e.op=13 then(.mk e.op 0 [] [] e.names e.args,e.names.length)
 else if e.op=15 then(.mk e.op 0 e.s e.m [] e.args,-1)
 else(.mk e.op 0 [] [] [] e.args,2)
def d9(l:List aU):Bool:=(l.all bz&&mH dD l)&&decide (l.length<=8)
def dI(e:Exp):Bool:=
 if e.op=0 then decide (0<=e.n)&&decide (e.n<=1099511627776)
 else if e.op=1 then e.n== 0||e.n== 1
 else if e.op=16 then((e.n== 1||e.n== 2)||e.n== 4)||e.n== 8
 else if e.op=2\/e.op=17\/e.op=18\/e.op=14\/e.op=12 then bz e.s
 else if e.op=15 then bz e.s&&(e.m== []||bz e.m)&&decide (e.args.length<=6)
 else if e.op=13 then d9 e.names
 else true
def di(e:Exp):Bool:=
 decide (0<=e.op)&&decide (e.op<19)&&(decide ((eY e).2<0)||((eY e).2== (e.args.length:Int)))&&((eY e).1.n== e.n)&&((eY e).1.s== e.s)&&((eY e).1.m== e.m)&&(((eY e).1.names.length:Int)== (e.names.length:Int))&&dI e
def bo:Nat->Exp->Bool
 |0,_=>false
 |d+1,e=>di e&&e.args.all (bo d)
theorem cQ(d:Nat)(e:Exp):bo (d+1) e=(di e&&e.args.all (bo d)):=rfl
def qt(a b:Int):Int:=IntKind.i64.wrap (BitVec.ofInt 64 a ||| BitVec.ofInt 64 b).toNat
mutual
def vO:Ty->Ty->Option Ty
 |.mk k fs,b=>if k=b.kind then some (.mk k (lD fs b.fields))else none
def lD:List (aU×Ty)->List bM->List bM
 |[],_=>[]
 |f:: fs,l=>(match I2 f l with|some x=>[x]|none=>[])++lD fs l
def I2:aU×Ty->List bM->Option bM
 |(n,t),l=>match cf (fun z=>z.1== n) l with
  |some z=>(match vO t z.2 with|some u=>some (n,u)|none=>none)
  |none=>none
end
def jF(k:Int)(l:List Ty):Bool:=l.all fun t=>t.kind== k
def cK(e:Exp)(l:List Ty):Option Ty:=
 if e.op=3\/e.op=4\/e.op=5\/e.op=16 then(if jF 0 l=true then some (.mk 0 [])else none)
 else if e.op=1 then some (.mk 1 [])
 else if e.op=6 then(if jF 0 l=true then some (.mk 1 [])else none)
 else if e.op=7 then(if(jF 0 l||jF 1 l)=true then some (.mk 1 [])else none)
 else if e.op=8\/e.op=9\/e.op=10 then(if jF 1 l=true then some (.mk 1 [])else none)
 else if e.op=11 then(match vO l[1]! l[2]! with|some t=>if l[0]!.kind=1 then some t else none|none=>none)
 else if e.op=13 then some (.mk 2 (e.names.zip l))
 else if e.op=14 then(match cf (fun z=>z.1== e.s) l[0]!.fields with|some z=>some z.2|none=>none)
 else some (.mk 0 [])
inductive Tr (α:Type) where
 |ok (a:α) (n:Int)
 |er (e n:Int)
abbrev ek(α:Type):=Int->Tr α
def ek.ok{α:Type}(a:α):ek α:=fun n=>.ok a n
def ek.er{α:Type}(e:Int):ek α:=fun n=>.er e n
def ek.bind{α β:Type}(x:ek α)(f:α->ek β):ek β:=fun n=>match x n with
 |.ok a n'=>f a n'
 |.er e n'=>.er e n'
structure Tcx where
 vars:List bM
 funcs:List Fun
 uses:List aU
 faces:aU->Option Face
def dG(c:Tcx)(e:Exp):Option (List Ty×Ty×Int):=
 if e.m=[]then(match c.funcs.find? fun f=>f.name== e.s with
  |some f=>some (f.params.map (·.2),f.result,f.effects)
  |none=>none)
 else match c.faces e.m with
  |none=>none
  |some f=>match f.funcs.find? (fun s=>s.name== e.s)with
   |none=>none
   |some s=>if e.m∈c.uses then some (s.params,s.result,s.effects)else none
def dO(r:Exp->ek Ty):List Exp->ek (List Ty)
 |[]=>.ok []
 |e:: es=>.bind (r e) fun t=>.bind (dO r es) fun ts=>.ok (t:: ts)
def dv(c:Tcx)(r:List bM->Exp->ek Ty)(ls:List bM)(e:Exp):ek Ty:=
 if e.op=2 then(match cf (fun z=>z.1== e.s) ls with|some z=>.ok z.2|none=>.er 12)
 else if e.op=12 then .bind (r ls e.args[0]!) fun t=>r (ls++[(e.s,t)]) e.args[1]!
 else if e.op=17\/e.op=18 then(match cf (fun z=>z.1== e.s) c.vars with
  |none=>.er 12
  |some z=>if e.op=18 then .bind (r ls e.args[0]!) fun u=>if cB u z.2=true then .ok z.2 else .er 13 else .ok z.2)
 else if e.op=15 then(match dG c e with
  |none=>.er 12
  |some s=>if s.1.length=e.args.length then .bind (dO (r ls) e.args) fun l=>if oG cB l s.1=true then fun n=>.ok s.2.1 (qt n s.2.2)else .er 13 else .er 13)
 else .bind (dO (r ls) e.args) fun l n=>match cK e l with
  |some t=>.ok t (if e.op=16 then qt n e.n else n)
  |none=>.er 13 (if e.op=16 then qt n e.n else n)
def bT(c:Tcx):Nat->List bM->Exp->ek Ty
 |0=>fun _ _=>.er 16
 |d+1=>dv c (bT c d)
def Eb:Tcx:=⟨[],[],[],fun _=>none⟩
def kh(ls:List bM)(e:Exp)(want:Ty):Int:=match bT Eb 12 ls e 0 with
 |.er b _=>b
 |.ok t n=>if n≠0 then 14 else if cB t want=true then 0 else 13
def b9:List (aU×Int)->aU×Int
 |[]=>([],0)
 |x:: l=>if x.2=0 then b9 l else x
def fF(ls:List bM)(vs:List bM)(es:List Exp):List (aU×Int):=(vs.zip es).map fun x=>(x.1.1,kh ls x.2 x.1.2)
def j9(m:Mod):aU×Int:=b9 (fF [] m.vars m.init++if m.moves=true then fF m.old m.vars m.forward++fF m.vars m.old m.back else[])
def zP(c:Tcx)(f:Fun):Int:=match bT c 12 f.params f.body 0 with
 |.er b _=>b
 |.ok t n=>if cB t f.result=true then(if gg n f.effects=0 then 0 else 14)else 13
def hJ(f:Face):Bool:=f.funcs.all fun s=>ci s.result&&s.params.all ci
def zM{α:Type}(x:ek α):Prop:=∀n b n',x n= .er b n'->b≠0
def uL{α:Type}(a:α):zM (.ok a):=fun n b n' h=>by cases h
def pP{α:Type}{e:Int}(h:e≠0):zM (α:=α) (.er e):=fun n b n' h'=>by cases h';exact h
def kD{α β:Type}{x:ek α}{f:α->ek β}(hx:zM x)(hf:∀a,zM (f a)):zM (.bind x f):=fun n b n' h=>by
 unfold ek.bind at h;split at h
 ·exact hf _ _ _ _ h
 ·rename_i e' m hm;cases h;exact hx _ _ _ hm
def ka{α:Type}{c:Prop}[Decidable c]{x y:ek α}(h1:zM x)(h2:zM y):zM (if c then x else y):=by
 split
 ·exact h1
 ·exact h2
theorem ma{r:Exp->ek Ty}(h:∀e,zM (r e)):∀l,zM (dO r l)
 |[]=>uL _
 |e:: l=>kD (h e) fun _=>kD (ma h l) fun _=>uL _
theorem gI(c:Tcx):∀(d:Nat)(ls:List bM)(e:Exp),zM (bT c d ls e)
 |0,_,_=>pP (by decide)
 | d+1,ls,e=>by
  have H:=gI c d;show zM (dv c (bT c d) ls e);unfold dv;refine ka ?_ (ka ?_ (ka ?_ (ka ?_ ?_)))
  ·split
   ·exact uL _
   ·exact pP (by decide)
  ·exact kD (H _ _) fun _=>H _ _
  ·split
   ·exact pP (by decide)
   ·exact ka (kD (H _ _) fun _=>ka (uL _) (pP (by decide))) (uL _)
  ·split
   ·exact pP (by decide)
   ·exact ka (kD (ma (H _) _) fun _=>ka (fun n b n' h=>by cases h) (pP (by decide))) (pP (by decide))
  ·refine kD (ma (H _) _) fun l n b n' h=>?_;split at h
   ·cases h
   ·cases h;decide
def qh{c:Tcx}{r:List bM->Exp->ek Ty}{ls:List bM}{e:Exp}(h:e.op=12):dv c r ls e= .bind (r ls e.args[0]!) fun t=>r (ls++[(e.s,t)]) e.args[1]!:=by
 unfold dv;rw[if_neg (by omega),LC h]
def qi{c:Tcx}{r:List bM->Exp->ek Ty}{ls:List bM}{e:Exp}(h:e.op=2):dv c r ls e=(match cf (fun z=>z.1== e.s) ls with|some z=>.ok z.2|none=>.er 12):=by
 unfold dv;rw[LC h]
theorem lC{c:Tcx}{r:List bM->Exp->ek Ty}{ls:List bM}{e:Exp}(h:e.op=17\/e.op=18):dv c r ls e=(match cf (fun z=>z.1== e.s) c.vars with
  |none=>.er 12
  |some z=>if e.op=18 then .bind (r ls e.args[0]!) fun u=>if cB u z.2=true then .ok z.2 else .er 13 else .ok z.2):=by
 unfold dv;rw[if_neg (by omega),if_neg (by omega),LC h]
theorem nZ{c:Tcx}{r:List bM->Exp->ek Ty}{ls:List bM}{e:Exp}(h:e.op=15):dv c r ls e=(match dG c e with
  |none=>.er 12
  |some s=>if s.1.length=e.args.length then .bind (dO (r ls) e.args) fun l=>if oG cB l s.1=true then fun n=>.ok s.2.1 (qt n s.2.2)else .er 13 else .er 13):=by
 unfold dv;rw[if_neg (by omega),if_neg (by omega),if_neg (by omega),LC h]
def nV(e:Exp)(l:List Ty):ek Ty:=fun n=>match cK e l with
 |some t=>.ok t (if e.op=16 then qt n e.n else n)
 |none=>.er 13 (if e.op=16 then qt n e.n else n)
def p9{e:Exp}{l:List Ty}{t:Ty}(h:cK e l=some t)(n:Int):nV e l n= .ok t (if e.op=16 then qt n e.n else n):=by
 unfold nV;rw[h]
def p8{e:Exp}{l:List Ty}(h:cK e l=none)(n:Int):nV e l n= .er 13 (if e.op=16 then qt n e.n else n):=by
 unfold nV;rw[h]
def oc{c:Tcx}{r:List bM->Exp->ek Ty}{ls:List bM}{e:Exp}(h1:¬e.op=2)(h2:¬e.op=12)(h3:¬(e.op=17\/e.op=18))(h4:¬e.op=15):dv c r ls e= .bind (dO (r ls) e.args) (nV e):=by
 unfold dv;rw[if_neg h1,if_neg h2,if_neg h3,if_neg h4];rfl
end Go.Av.Ap
