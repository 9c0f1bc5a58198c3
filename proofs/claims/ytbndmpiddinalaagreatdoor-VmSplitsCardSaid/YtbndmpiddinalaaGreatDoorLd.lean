/- The abstract evaluator and plain laws, part 4. Condition: the table of types is the program's. -/
import Derived.Test.YtbndmpiddinalaaGreatDoorLc
set_option linter.defProp false
set_option linter.unusedSimpArgs false
set_option linter.unusedVariables false
namespace Go.Av.Ap
def Rs.st{α:Type}:Rs α->Ms
 |.ok _ m=>m
 |.er _ m=>m
def Rs.on{α:Type}(f:Ms->Ms):Rs α->Rs α
 |.ok a m=>.ok a (f m)
 |.er e m=>.er e (f m)
def xA{α:Type}(y:X α):X α:=.get fun m=>if m.fuel<=0 then .er 16 else .upd (fun m=>{ m with fuel:=m.fuel-1 }) y
def Ua(n a:Int):X Val:=.get fun m=>.upd (fun m=>{ m with world:=m.world.tail,deeds:=m.deeds++[⟨n,a,m.world.headD 0⟩] }) (.ok (cp (m.world.headD 0)))
structure Closed (p:List Mod) (Q:Int->(α:Type)->X α->Prop):Prop where
 ok:∀(o:Int)(α:Type)(a:α),Q o α (.ok a)
 er:∀(o:Int)(α:Type)(e:Int),e≠0->Q o α (.er e)
 bind:∀(o:Int)(α β:Type)(x:X α)(f:α->X β),Q o α x->(∀a,Q o β (f a))->Q o β (x.bind f)
 tick:∀(o:Int)(α:Type)(y:X α),Q o α y->Q o α (xA y)
 act:∀(o n a:Int),Q o Val (Ua n a)
 set:∀(o:Int)(k:Nat)(v:Val),¬o<0->Q o Val (.upd (fun m=>{ m with state:=setSt m.state o.toNat k v }) (.ok v))
 get:∀(o:Int)(k:Nat),Q o Val (.get fun m=>.ok (t8 m.state o.toNat k))
 enter:∀(o a:Int)(r:Ev)(f:Fun)(l:List Val),¬a<0->a.toNat<p.length->f∈(p[a.toNat]?.getD default).funcs->(∀o ns vs e,Q o Val (r o ns vs e))->Q o Val (jI p r a f l)
def pb{p:List Mod}{a:Int}{s:aW}{f:Fun}(h:lO p a s=some f):¬a<0/\a.toNat<p.length/\f∈(p[a.toNat]?.getD default).funcs:=by
 unfold lO at h;by_cases h1:a<0
 ·simp[h1]at h
 ·rw[Xn h1]at h;simp only at h;split at h
  ·cases h
  ·have hm:=X7 h;refine⟨h1,?_,hm⟩;rcases XO a.toNat p.length with k|k
   ·exact k
   ·rw[List.getElem?_eq_none k]at hm;cases hm
def RF{Q:Int->(α:Type)->X α->Prop}{o:Int}{α:Type}{c:Prop}[Decidable c](x y:X α)(h1:Q o α x)(h2:Q o α y):Q o α (if c then x else y):=by
 grind
section
variable {p:List Mod} {Q:Int->(α:Type)->X α->Prop} (C:Closed p Q)
include C
theorem Closed.boolX{o:Int}{r:X Val}(h:Q o Val r):Q o Bool (boolX r):=by
 refine C.bind _ _ _ _ _ h fun v=>?_;split
 ·exact C.ok _ _ _
 ·exact C.er _ _ _ ZM
theorem Closed.listX{o:Int}{r:Exp->X Val}(h:∀e,Q o Val (r e)):∀l,Q o (List Val) (listX r l)
 |[]=>C.ok _ _ _
 |e:: l=>C.bind _ _ _ _ _ (h e) fun _=>C.bind _ _ _ _ _ (Closed.listX h l) fun _=>C.ok _ _ _
theorem Closed.step{r:Ev}(h:∀o ns vs e,Q o Val (r o ns vs e))(o:Int)(ns:List aW)(vs:List Val)(e:Exp):Q o Val (qo p r o ns vs e):=by
 unfold qo;refine C.tick _ _ _ ?_;have B:=fun{α β:Type} {x:X α} {f:α->X β}=>C.bind o α β x f;have I:=@RF Q o;have er:=fun(α:Type) n (h:n≠0)=>C.er o α n h;have ok:=fun(α:Type) (a:α)=>C.ok o α a;refine I _ _ (er _ _ ZM) (I _ _ (ok _ _) (I _ _ (I _ _ (ok _ _) (er _ _ ZM)) (I _ _ ?_ (I _ _ ?_ (I _ _ ?_ (I _ _ ?_ (I _ _ ?_ (I _ _ ?_ (I _ _ ?_ (I _ _ ?_ (I _ _ ?_ (I _ _ ?_ ?_))))))))))))
 ·grind
 ·refine B (h _ _ _ _) fun a=>B (h _ _ _ _) fun b=>?_;unfold oS
  grind
 ·exact B (C.boolX (h _ _ _ _)) fun a=>I _ _ (ok _ _) (B (C.boolX (h _ _ _ _)) fun b=>ok _ _)
 ·exact B (C.boolX (h _ _ _ _)) fun a=>ok _ _
 ·exact B (C.boolX (h _ _ _ _)) fun a=>I _ _ (h _ _ _ _) (h _ _ _ _)
 ·grind
 ·unfold mO;exact I _ _ (I _ _ (B (C.listX (fun e=>h _ _ _ e) _) fun vs=>I _ _ (ok _ _) (er _ _ ZM)) (er _ _ ZM)) (er _ _ ZM)
 ·grind
 ·unfold tn;simp only;split
  ·grind
  ·rename_i f hf;obtain⟨h1,h2,h3⟩:=pb hf;exact I _ _ (I _ _ (B (C.listX (fun e=>h _ _ _ e) _) fun l=>C.enter _ _ _ _ _ h1 h2 h3 h) (er _ _ ZM)) (er _ _ ZM)
 ·unfold Bz;exact B (h _ _ _ _) fun v=>I _ _ (I _ _ (C.act _ _ _) (er _ _ ZM)) (er _ _ ZM)
 ·unfold C1;split
  ·grind
  ·rename_i ho;exact I _ _ (er _ _ ZM) (I _ _ (B (h _ _ _ _) fun v=>C.set _ _ _ ho) (C.get _ _))
theorem Closed.eval:∀(n:Nat)(o:Int)(ns:List aW)(vs:List Val)(e:Exp),Q o Val (cL p n o ns vs e)
 |0,_,_,_,_=>C.er _ _ _ ZM
 |n+1,o,ns,vs,e=>C.step (fun o ns vs e=>Closed.eval n o ns vs e) o ns vs e
end
def Tp(α:Type)(x:X α):Prop:=∀m e s,x m= .er e s->e≠0
def qG(p:List Mod)(a:Int)(f:Fun)(l:List Val)(m:Ms):Ms:={ m with calls:=if f.pub=true then m.calls++[⟨(p[a.toNat]?.getD default).name,f.name,l⟩]else m.calls,frames:=m.frames+1 }
def Cc(p:List Mod):Closed p fun _=>Tp where
 ok:=fun _ _ a m e s h=>by cases h
 er:=fun _ _ a h m e s h2=>by cases h2;exact h
 bind:=fun _ _ _ x f hx hf m e s h=>by
  unfold X.bind at h;cases hr:x m with
  |er c t=>rw[hr]at h;cases h;exact hx m _ _ hr
  |ok a t=>rw[hr]at h;exact hf a t e s h
 tick:=fun _ _ y hy m e s h=>by
  unfold xA X.get at h;by_cases hf:m.fuel<=0
  ·simp only[hf,XA]at h;cases h;decide
  ·simp only[hf,Xu]at h;exact hy _ e s h
 act:=fun _ n a m e s h=>by cases h
 set:=fun _ k v _ m e s h=>by cases h
 get:=fun _ k m e s h=>by cases h
 enter:=fun _ a r f l _ _ _ hr m e s h=>by
  unfold jI X.get at h;by_cases hf:m.frames<60
  ·simp only[hf,XA,X.upd,X.bind]at h;cases hq:r a (f.params.map (·.1)) l f.body { m with calls:=if f.pub=true then m.calls++[⟨(p[a.toNat]?.getD default).name,f.name,l⟩]else m.calls,frames:=m.frames+1 }with
   |ok b t=>rw[hq]at h;cases h
   |er c t=>rw[hq]at h;cases h;exact hr _ _ _ _ _ _ _ hq
  ·simp only[hf,Xu]at h;cases h;decide
theorem zS{p:List Mod}{n:Nat}{o:Int}{ns:List aW}{vs:List Val}{e:Exp}{m s:Ms}{c:Int}(h:cL p n o ns vs e m= .er c s):c≠0:=(Cc p).eval n o ns vs e m c s h
def xM(m:Ms):Prop:=(∀l∈m.state,∀v∈l,cM 4 v=true)/\(∀c∈m.calls,∀v∈c.args,cM 4 v=true)
def nP(m:Ms):List Nat:=m.state.map List.length
def RQ{α:Type}(x:X α)(Q:α->Prop):Prop:=∀m,xM m->xM (x m).st/\nP (x m).st=nP m/\∀a s,x m= .ok a s->Q a
theorem jV{α:Type}{a:α}{Q:α->Prop}(h:Q a):RQ (.ok a) Q:=fun m hm=>⟨hm,rfl,fun b s e=>by cases e;exact h⟩
def iJ{α:Type}{e:Int}{Q:α->Prop}:RQ (.er e) Q:=fun m hm=>⟨hm,rfl,fun b s e=>by cases e⟩
theorem fq{α β:Type}{x:X α}{f:α->X β}{Q:α->Prop}{R:β->Prop}(hx:RQ x Q)(hf:∀a,Q a->RQ (f a) R):RQ (x.bind f) R:=by
 intro m hm;obtain⟨h1,h2,h3⟩:=hx m hm;cases hr:x m with
 |er e s=>
  rw[hr]at h1 h2;simp only[X.bind,hr];exact⟨h1,h2,fun b s e=>by cases e⟩
 |ok a s=>
  rw[hr]at h1 h2;obtain⟨g1,g2,g3⟩:=hf a (h3 a s hr) s h1;simp only[X.bind,hr];exact⟨g1,g2.trans h2,g3⟩
def cQ{α:Type}{c:Prop}[Decidable c]{x y:X α}{Q:α->Prop}(h1:c->RQ x Q)(h2:¬c->RQ y Q):RQ (if c then x else y) Q:=by
 grind
abbrev Rv(v:Val):Prop:=cM 4 v=true
theorem fB(n:Int):Rv (cp n):=by simp_all[Rv,cp,cM]
theorem dE(b:Bool):Rv (dR b):=by cases b<;>rfl
theorem g9:(l:List Val)->(d:Nat)->(dI l<=d↔∀v∈l,dL v<=d)
 |[],d=>by simp[dI]
 |v:: l,d=>by
  simp only[dI,XZ,forall_eq_or_imp];rw[<- g9 l d];omega
def i7(v:Val):dL v=dI v.values+1:=by cases v;rfl
theorem wO:∀(d:Nat)(v:Val),cM (d+1) v=true->dL v<=d->cM d v=true
 |0,v,_,hl=>by rw[i7]at hl;omega
 | d+1,v,h,hl=>by
  rw[i7]at hl;unfold cM at h|-;split at h
  ·grind
  ·rename_i hk;rw[Xn hk];simp only[Xq,XF]at h|-;exact⟨h.1,fun x hx=>wO d x (h.2 x hx) ((g9 v.values d).1 ZL x hx)⟩
theorem xr{ns:List aW}{vs:List Val}(hl:ns.length=vs.length)(ha:asc ns=true)(h8:ns.length<=8)(hv:∀v∈vs,Rv v)(h4:dL (.mk 2 0 ns vs)<=4):Rv (.mk 2 0 ns vs):=by
 have h3:dI vs<=3:=by
  rw[i7]at h4;have:(Val.mk 2 0 ns vs).values=vs:=rfl;rw[this]at h4;omega
 have h5:=(g9 vs 3).1 h3;unfold Rv cM;simp_all[wO]
theorem DD:∀(d:Nat)(v:Val),cM d v=true->cM (d+1) v=true
 |0,v,h=>by simp[cM]at h
 | d+1,v,h=>by
  unfold cM at h|-;split at h
  ·grind
  ·rename_i hk;rw[Xn hk];simp only[Xq,XF]at h|-;exact⟨h.1,fun x hx=>DD d x (h.2 x hx)⟩
def sf{v x:Val}(h:Rv v)(hx:x∈v.values):Rv x:=by
 unfold Rv cM at h;split at h
 ·grind
 ·simp only[Xq,XF]at h;exact DD 3 x (h.2 x hx)
def CP{v:Val}(h:Rv v):v.names.length=v.values.length:=by
 unfold Rv cM at h
 grind
theorem AD:∀(ns:List aW)(vs:List Val)(s:aW)(v:Val),lj ns vs s=some v->v∈vs
 | n:: ns,w:: vs,s,v,h=>by
  unfold lj at h;split at h
  ·rename_i x hx;cases h;exact YO _ (AD ns vs s v hx)
  grind
 |[],_,_,_,h=>by simp[lj]at h
 |_:: _,[],_,_,h=>by simp[lj]at h
theorem o7:∀(ns:List aW)(vs:List Val)(s:aW)(v:Val),gI ns vs s=some v->v∈vs
 |n:: ns,w:: vs,s,v,h=>by
  unfold gI at h;split at h
  ·grind
  ·exact YO _ (o7 ns vs s v h)
 |[],_,_,_,h=>by simp[gI]at h
 |_:: _,[],_,_,h=>by simp[gI]at h
def na(ns:List aW)(vs:List Val):Prop:=ns.length=vs.length/\∀v∈vs,Rv v
theorem sU{r:X Val}(h:RQ r Rv):RQ (boolX r) fun _=>True:=fq h fun _ _=>cQ (fun _=>jV trivial) (fun _=>iJ)
theorem yN{r:Exp->X Val}(h:∀e,RQ (r e) Rv):∀l,RQ (listX r l) fun vs=>vs.length=l.length/\∀v∈vs,Rv v
 |[]=>jV ⟨rfl,fun v hv=>by cases hv⟩
 |e:: l=>fq (h e) fun v hv=>fq (yN h l) fun vs hvs=>jV ⟨by simp[hvs.1],fun w hw=>by
  grind⟩
def Af{st:List (List Val)}(h:∀l∈st,∀v∈l,Rv v)(i k:Nat)(hd:Rv default):Rv (t8 st i k):=by
 unfold t8;rw[Yf,Yf];cases h1:st[i]? with
 |none=>simpa using hd
 |some l=>
  simp only[YH];cases h2:l[k]? with
  |none=>simpa using hd
  |some v=>exact h l (X7 h1) v (X7 h2)
def Ia{p:List Mod}{r:Ev}{a:Int}{f:Fun}{l:List Val}(hr:∀o ns vs e,na ns vs->RQ (r o ns vs e) Rv)(hl:l.length=f.params.length)(hv:∀v∈l,Rv v):RQ (jI p r a f l) Rv:=by
 have e0:∀m,jI p r a f l m=if m.frames<60 then((r a (f.params.map (·.1)) l f.body).bind fun v=>.upd (fun m=>{ m with frames:=m.frames-1 }) (.ok v)) (qG p a f l m)else .er 6 m:=fun m=>by
  unfold jI X.get;by_cases h:m.frames<60
  ·simp only[h,XA];rfl
  ·simp only[h,Xu];rfl
 intro m hm;rw[e0];split
 ·have hb:RQ ((r a (f.params.map (·.1)) l f.body).bind fun v=>.upd (fun m=>{ m with frames:=m.frames-1 }) (.ok v)) Rv:=
   fq (hr _ _ _ _ ⟨by simp[hl],hv⟩) fun _ hv m hm=>⟨hm,rfl,fun a s e=>by cases e;exact hv⟩
  have hm':xM (qG p a f l m):=by
   refine⟨hm.1,fun c hc=>?_⟩;simp only[qG]at hc;split at hc
   ·rcases X8.1 hc with h|h
    ·exact hm.2 c h
    grind
   ·exact hm.2 c hc
  exact hb _ hm'
 ·exact⟨hm,rfl,fun _ _ e=>by cases e⟩
def right_step{p:List Mod}{r:Ev}(hr:∀o ns vs e,na ns vs->RQ (r o ns vs e) Rv)(o:Int)(ns:List aW)(vs:List Val)(e:Exp)(hs:na ns vs):RQ (qo p r o ns vs e) Rv:=by
 have tick:∀y:X Val,RQ y Rv->RQ (xA y) Rv:=fun y hy m hm=>by
  unfold xA X.get;by_cases h:m.fuel<=0
  ·simp only[h,XA];exact⟨hm,rfl,fun _ _ e=>by cases e⟩
  ·simp only[h,Xu];exact hy { m with fuel:=m.fuel-1 } hm
 have H:=fun e=>hr o ns vs e hs;refine tick _ ?_;refine cQ (fun _=>iJ) fun _=>cQ (fun _=>jV (fB _)) fun _=>cQ (fun _=>cQ (fun _=>jV (dE _)) fun _=>iJ) fun _=>cQ (fun _=>?_) fun _=>
  cQ (fun _=>?_) fun _=>cQ (fun _=>?_) fun _=>cQ (fun _=>?_) fun _=>cQ (fun _=>?_) fun _=>cQ (fun _=>?_) fun _=>cQ (fun _=>?_) fun _=>cQ (fun _=>?_) fun _=>
  cQ (fun _=>?_) fun _=>cQ (fun _=>?_) fun _=>?_
 ·split
  ·rename_i v hv;exact jV (hs.2 v (AD _ _ _ _ hv))
  ·exact iJ
 ·refine fq (H _) fun a ha=>fq (H _) fun b hb=>?_;unfold oS;exact cQ (fun _=>cQ (fun _=>jV (dE _)) fun _=>iJ) fun _=>cQ (fun _=>cQ (fun _=>jV (fB _)) fun _=>cQ (fun _=>jV (fB _)) fun _=>cQ (fun _=>jV (fB _)) fun _=>jV (dE _)) fun _=>iJ
 ·exact fq (sU (H _)) fun a _=>cQ (fun _=>jV (dE _)) fun _=>fq (sU (H _)) fun b _=>jV (dE _)
 ·grind [fq,sU,jV,dE]
 ·exact fq (sU (H _)) fun a _=>cQ (fun _=>H _) fun _=>H _
 ·exact fq (H _) fun v hv=>hr _ _ _ _ ⟨by simp[hs.1],fun w hw=>by
   rcases X8.1 hw with h|h
   ·exact hs.2 w h
   grind⟩
 ·unfold mO;exact cQ (fun h1=>cQ (fun h2=>fq (yN H _) fun vs hvs=>cQ (fun h3=>jV (xr ZN h1.2 h2 hvs.2 h3)) fun _=>iJ) fun _=>iJ) fun _=>iJ
 ·refine fq (H _) fun v hv=>?_;split
  ·rename_i x hx;exact cQ (fun _=>jV (sf hv (o7 _ _ _ _ hx))) fun _=>iJ
  ·exact iJ
 ·unfold tn;simp only;split
  ·exact iJ
  ·rename_i f hf;exact cQ (fun _=>cQ (fun h2=>fq (yN H _) fun l hl=>Ia hr (by rw[hl.1,h2]) hl.2) fun _=>iJ) fun _=>iJ
 ·unfold Bz;exact fq (H _) fun v hv=>cQ (fun _=>cQ (fun _ m hm=>⟨hm,rfl,fun a s e=>by cases e;exact fB _⟩) fun _=>iJ) fun _=>iJ
 ·unfold C1;refine cQ (fun _=>iJ) fun ho=>?_;simp only;refine cQ (fun _=>iJ) fun hi=>cQ (fun _=>fq (H _) fun v hv m hm=>⟨⟨?_,hm.2⟩,?_,fun a s e=>by cases e;exact hv⟩) fun _ m hm=>⟨hm,rfl,fun a s e=>by cases e;exact Af hm.1 _ _ (fB 0)⟩
  ·intro l hl w hw;simp only[X.upd,X.ok,Rs.st,setSt]at hl;obtain⟨j,hj⟩:=Zh.1 hl;rw[Zl]at hj;cases h1:m.state[j]? with
   |none=>simp[h1]at hj
   |some l0=>
    rw[h1]at hj;simp only[Option.map_eq_map,Yx,Xm]at hj;have hold:=hm.1 l0 (X7 h1)
    grind
  ·simp only[X.upd,X.ok,Rs.st,nP,setSt];apply YE
   grind
theorem po{p:List Mod}:∀(n:Nat)(o:Int)(ns:List aW)(vs:List Val)(e:Exp),na ns vs->RQ (cL p n o ns vs e) Rv
 |0,_,_,_,_,_=>iJ
 |n+1,o,ns,vs,e,hs=>right_step (fun o ns vs e h=>po n o ns vs e h) o ns vs e hs
def vt(p:List Mod):Bool:=(List.range p.length).any fun i=>(p.take i).any fun m=>m.name== (p[i]?.getD default).name
def jN(p:List Mod):Int:=if 20<p.length then 6 else if vt p=true then 5 else 0
def fO(world:List Int)(fuel:Int)(st:List (List Val)):Ms:=⟨fuel,0,world,[],[],st⟩
def yj(e:Exp)(ns:List aW)(vs:List Val):Rs Val:=
 if ns.length=vs.length/\vs.all (cM 4)=true then cL [] 100000 (-1) ns vs e (fO [] 100000 [])else .er 1 (fO [] 100000 [])
def oG:List Exp->Except Int (List Val)
 |[]=>.ok []
 | e:: es=>match yj e [] []with
  |.er c _=>.error c
  |.ok v _=>match oG es with
   |.error c=>.error c
   |.ok vs=>.ok (v:: vs)
def lq:List Mod->Except Int (List Vars)
 |[]=>.ok []
 | m:: ms=>if m.init.length=m.vars.length then(match oG m.init with
   |.error c=>.error c
   |.ok vs=>match lq ms with
    |.error c=>.error c
    |.ok r=>.ok (⟨m.name,vs⟩:: r))
  else .error 13
def lr(p:List Mod):Except Int (List Vars):=if jN p=0 then lq p else .error (jN p)
def eD(p:List Mod)(st:List Vars):Bool:=iT (fun(m:Mod) (v:Vars)=>v.module== m.name&&(v.values.length== m.vars.length&&v.values.all (cM 4))) p st
theorem wj{α β:Type}{F:α->β->Bool}:{a:List α} ->{b:List β} ->iT F a b=true->a.length=b.length/\∀(i:Nat)(x:α)(y:β),a[i]? = some x->b[i]? = some y->F x y=true
 |[],[],_=>⟨rfl,fun i x y h=>by simp at h⟩
 |[],_:: _,h=>by simp[iT]at h
 |_:: _,[],h=>by simp[iT]at h
 |x:: a,y:: b,h=>by
  simp only[iT,Xq]at h;obtain⟨h1,h2⟩:=wj h.2
  grind
def ll{p:List Mod}{st:List Vars}(h:eD p st=true):st.length=p.length/\(∀x∈st,∀v∈x.values,Rv v)/\∀(i:Nat)(m:Mod)(x:Vars),p[i]? = some m->st[i]? = some x->x.module=m.name/\x.values.length=m.vars.length:=by
 obtain⟨h1,h2⟩:=wj h;refine⟨h1.symm,fun x hx v hv=>?_,fun i m x hm hx=>?_⟩
 ·obtain⟨i,hi⟩:=Zh.1 hx;have hlt:i<st.length:=(Xx.1 hi).1
  have:=h2 i (p[i]'(ZL)) x (XC _) hi
  grind
 grind
theorem rU:(l:List Exp)->(vs:List Val)->oG l= .ok vs->vs.length=l.length/\∀v∈vs,Rv v
 |[],vs,h=>by cases h;grind
 | e :: es,vs,h=>by
  unfold oG at h;split at h
  ·cases h
  ·rename_i v s hv;split at h
   ·cases h
   ·rename_i ws hws;cases h;obtain⟨h1,h2⟩:=rU es ws hws;refine⟨by simp[h1],fun w hw=>?_⟩;rcases XZ.1 hw with rfl|hw
    ·unfold yj at hv;rw[Xr ZO]at hv;exact (po 100000 (-1) [] [] e ⟨rfl,fun v hv=>by cases hv⟩ (fO [] 100000 []) ⟨fun l hl=>by simp[fO]at hl,fun l hl=>by simp[fO]at hl⟩).2.2 _ _ hv
    grind
theorem ny:(p:List Mod)->(st:List Vars)->lq p= .ok st->eD p st=true
 |[],st,h=>by cases h;rfl
 | m :: ms,st,h=>by
  unfold lq at h;split at h
  ·rename_i hl;split at h
   ·cases h
   ·rename_i vs hvs;split at h
    ·cases h
    ·rename_i r hr;cases h;obtain⟨h1,h2⟩:=rU _ _ hvs
     have:=ny ms r hr
     simp_all[eD,iT]
  ·cases h
def tV{p:List Mod}{st:List Vars}(h:lr p= .ok st):eD p st=true:=by
 grind [lr,ny]
theorem wW:(l:List Exp)->(c:Int)->oG l= .error c->c≠0
 |[],c,h=>by cases h
 | e:: es,c,h=>by
  unfold oG at h;split at h
  ·grind [yj,zS]
  ·split at h
   ·rename_i c' hc;cases h;exact wW es _ hc
   ·cases h
theorem tU:(p:List Mod)->(c:Int)->lq p= .error c->c≠0
 |[],c,h=>by cases h
 | m :: ms,c,h=>by
  unfold lq at h;split at h
  ·split at h
   ·grind [wW]
   ·split at h
    ·rename_i c' hc;cases h;exact tU ms _ hc
    ·cases h
  grind
theorem tW{p:List Mod}{c:Int}(h:lr p= .error c):c≠0:=by
 grind [lr,tU]
end Go.Av.Ap
namespace Go.Av.Ap
open Go Go.Av
structure Frm where
 mod:aW
 fn:aW
 pc:Int
 locals:List Val
 stack:List Val
 deriving Inhabited
def Frm.cells(f:Frm):List AV:=[.str f.mod,.str f.fn,.int .i64 f.pc,vals f.locals,vals f.stack]
def Frm.av(f:Frm):AV:=.agg f.cells
def lx(l:List Frm):AV:=.sl (l.map Frm.av)
structure Proc where
 mods:List Mod
 state:List Vars
 frames:List Frm
 world:List Int
 out:Out
 ended:Bool
structure Fnc where
 at_:Int
 pub:Bool
 cod:Cod
 hts:List Int
def fh(p:List Mod)(s t:aW):Option Fnc:=
 match lO p (dD p s) t with
 |none=>none
 |some f=>match dj (dn (p[(dD p s).toNat]?.getD default).vars f)with
  |none=>none
  |some h=>some ⟨dD p s,f.pub,dn (p[(dD p s).toNat]?.getD default).vars f,h⟩
def jv(p:List Mod):Int:=
 if jN p≠0 then jN p else if p.all ib=false then 1
 else if p.all (fun m=>m.funcs.all fun f=>(dj (dn m.vars f)).isSome)=false then 13 else 0
def fp(l:List Val)(n:Int):Bool:=decide ((l.length:Int)=n)&&l.all (cM 4)
def vU(s t:aW):aW:=if s=[]then t else s
def iZ(p:List Mod)(f:Frm)(next:Option Frm):Bool:=
 match fh p f.mod f.fn with
 |none=>false
 | some x=>(decide (0<=f.pc)&&decide (f.pc<x.cod.code.length))&&fp f.locals x.cod.locals &&
  match next with
  |none=>decide (0<=x.hts[f.pc.toNat]!)&&fp f.stack x.hts[f.pc.toNat]!
  |some g=>decide (f.pc≠0)&&fp f.stack (x.hts[f.pc.toNat]! - 1) &&
   (decide (x.cod.code[(f.pc-1).toNat]!.op=14)&&decide (vU x.cod.code[(f.pc-1).toNat]!.m f.mod=g.mod)&&decide (x.cod.code[(f.pc-1).toNat]!.s=g.fn))
def eF(p:List Mod):List Frm->Option Frm->Bool
 |[],_=>true
 |f:: l,nx=>iZ p f (l.head?.or nx)&&eF p l nx
def iD(p:List Mod)(l:List Frm):Bool:=eF p l none
def rY(o:Out):Bool:=o.err== 0&&o.value.kind== 0&&o.value.n== 0&&decide (o.value.names.length+o.value.values.length+o.state.length=0)
def gL(p:Proc):Bool:=decide (jv p.mods=0)&&eD p.mods p.state&&(p.ended== p.frames.isEmpty)&&decide (p.frames.length<=60)&&(p.ended||rY p.out)&&iD p.mods p.frames
def yf(p:Proc)(e:Int)(v:Val):Proc:={ p with ended:=true,frames:=[],out:={ p.out with err:=e,value:=v,state:=p.state } }
def FV(p:Proc)(fs:List Frm)(s:aW)(x:Fnc)(args:List Val):Proc:=
 { p with
  frames:=fs++[⟨s,x.cod.func,0,args++List.replicate (x.cod.locals.toNat-args.length) (cp 0),[]⟩]
  out:={ p.out with calls:=if x.pub=true then p.out.calls++[⟨s,x.cod.func,args⟩]else p.out.calls } }
def BH(op:Int)(a b:Val):Option Val:=
 if(a.kind=0/\b.kind=0)\/(op=8/\a.kind=1/\b.kind=1)then
  some (if op=4 then cp (wr (a.n+b.n))else if op=5 then cp (wr (a.n-b.n))else if op=6 then cp (wr (a.n*b.n))else if op=7 then dR (decide (a.n<b.n))else dR (a.n== b.n))
 else none
def mS(p:Proc)(fs:List Frm)(f:Frm)(i:Ins):Except Int Proc:=
 let n:=f.stack.length;let put:=fun(g:Frm)=>Except.ok (ε:=Int) { p with frames:=fs++[g] };let push:=fun(k:Nat) (v:Val)=>put { f with stack:=f.stack.take (n-k)++[v] };let v:=f.stack[n-1]!
 if i.op=0 then push 0 (cp i.a)
 else if i.op=1 then push 0 (dR (i.a== 1))
 else if i.op=2 then push 0 f.locals[i.a.toNat]!
 else if i.op=3 then put { f with locals:=f.locals.set i.a.toNat v,stack:=f.stack.take (n-1) }
 else if i.op=19 then put { f with stack:=f.stack.take (n-1) }
 else if i.op=10 then put { f with pc:=i.a }
 else if i.op=11 then(if v.kind=1 then put { f with stack:=f.stack.take (n-1),pc:=if v.n=0 then i.a else f.pc }else .error 13)
 else if i.op=12 then
  (if dL (.mk 2 0 i.names (f.stack.drop (n-i.names.length)))<=4 then push i.names.length (.mk 2 0 i.names (f.stack.drop (n-i.names.length)))else .error 6)
 else if i.op=14 then
  (match fh p.mods (vU i.m f.mod) i.s with
  |none=>.error 12
  |some x=>if i.m≠[]/\x.pub=false then .error 12
   else if x.cod.params≠i.a then .error 13
   else if 60<=fs.length+1 then .error 6
   else .ok (FV p (fs++[{ f with stack:=f.stack.take (n-i.a.toNat) }]) (vU i.m f.mod) x (f.stack.drop (n-i.a.toNat))))
 else if i.op=16 then
  (if i.a<(p.state[(dD p.mods f.mod).toNat]?.getD default).values.length then push 0 (p.state[(dD p.mods f.mod).toNat]?.getD default).values[i.a.toNat]! else .error 12)
 else if i.op=17 then
  (if i.a<(p.state[(dD p.mods f.mod).toNat]?.getD default).values.length then .ok { p with frames:=fs++[f],state:=p.state.modify (dD p.mods f.mod).toNat fun w=>{ w with values:=w.values.set i.a.toNat v } }else .error 12)
 else if i.op=9 then(if v.kind=1 then push 1 (dR (v.n== 0))else .error 13)
 else if i.op=13 then
  (match gI v.names v.values i.s with
  |some x=>if v.kind=2 then push 1 x else .error 13
  |none=>.error 13)
 else if i.op=15 then
  (if v.kind=0 then .ok { p with
   frames:=fs++[{ f with stack:=f.stack.take (n-1)++[cp (p.world.headD 0)] }]
   world:=p.world.tail
   out:={ p.out with deeds:=p.out.deeds++[⟨i.a,v.n,p.world.headD 0⟩] } }else .error 13)
 else(match BH i.op f.stack[n-2]! v with
  |some x=>push 2 x
  |none=>.error 13)
def vg(p:Proc)(fs:List Frm)(f:Frm):Proc:=
 let i:=((fh p.mods f.mod f.fn).map fun x=>x.cod.code[f.pc.toNat]!).getD default
 if i.op=18 then
  (if fs=[]then yf p 0 f.stack[f.stack.length-1]!
  else{ p with frames:=fs.dropLast++[{ fs[fs.length-1]! with stack:=fs[fs.length-1]!.stack++[f.stack[f.stack.length-1]!] }] })
 else match mS p fs { f with pc:=f.pc+1 } i with
  |.ok q=>q
  |.error e=>yf p e default
def jW(p:Proc):Proc:=if p.frames=[]then p else vg p p.frames.dropLast p.frames[p.frames.length-1]!
def fc:Nat->Proc->Proc
 |0,p=>p
 |n+1,p=>if p.ended=true then p else fc n (jW p)
def gu(p:List Mod)(module fn:aW)(args:List Val)(world:List Int):Except Int Proc:=
 if jv p≠0 then .error (jv p)else
 match lr p with
 |.error e=>.error e
 |.ok st=>match fh p module fn with
  |none=>.error 4
  |some x=>if fp args x.cod.params=true then .ok (FV ⟨p,st,[],world,⟨0,default,[],[],[]⟩,false⟩ [] module x args)else .error 13
end Go.Av.Ap
namespace Go.Av.Ap
theorem ap{α β:Type}{m:M α}{f:α->M β}{h h':Hp}{a:α}(e:m h= .ok a h'):ar m f h=f a h':=by simp only[ar,e]
def Dl{α β:Type}{m:M α}{f:α->M β}{h h':Hp}{v:AV}(e:m h= .pan v h'):ar m f h= .pan v h':=by simp only[ar,e]
def aw(l:List Val):List AV:=l.flatMap fun v=>aa v.av
theorem aX(l:List Val):(aw l).length=l.length*4:=by
 induction l with
 |nil=>rfl
 |cons v l ih=>simp only[aw,Yw,XI]at ih |-;rw[ih];simp;omega
theorem kl(a b:List Val):aw (a++b)=aw a++aw b:=by simp[aw]
def iM{l:List Val}{k:Nat}(h:k<l.length):((aw l).drop (k*4)).take 4=aa (l[k]).av:=by
 induction l generalizing k with
 |nil=>simp at h
 | cons v l ih=>
  cases k with
  |zero=>simp[aw]
  |succ k=>
   have:=ih (k:=k) (by simpa using h)
   simp only[aw,Yw]at this |-;have e:(k+1)*4=(aa v.av).length+k*4:=by simp;omega
   rw[e,List.drop_append,List.getElem_cons_succ]
   grind [List.drop_of_length_le]
def ko{l:List Val}{k:Nat}(h:k<l.length)(v:Val):setCells (aw l) (k*4) (aa v.av)=aw (l.set k v):=by
 induction l generalizing k with
 |nil=>simp at h
 | cons w l ih=>
  cases k with
  |zero=>
   simp only[setCells,aw,Yw,Zk,X2,XW,List.set_cons_zero];simp_all
  |succ k=>
   have:=ih (k:=k) (by simpa using h)
   simp only[setCells,aw,Yw,List.set_cons_succ]at this |-;have e:(k+1)*4=(aa w.av).length+k*4:=by simp;omega
   have e2:(aa w.av).length+k*4+(aa v.av).length-(aa w.av).length=k*4+(aa v.av).length:=ZL
   simp_all
def cO(l:List Deed):List AV:=l.flatMap fun d=>[.int .i64 d.effect,.int .i64 d.arg,.int .i64 d.answer]
def xH(tag:Nat->Nat)(k:Nat)(h:Hp)(l:List Val)(v:AV):Prop:=(v=vals l\/l=[]/\v= .he)\/∃r,v= .hs r 0 l.length 4 true/\tag r=k/\h[r]? = some (aw l)
def gU(tag:Nat->Nat)(h:Hp):List Call->List AV->Prop
 |[],cs=>cs=[]
 |c:: l,cs=>∃av rest,cs= .str c.module:: .str c.func:: av:: rest/\xH tag 4 h c.args av/\gU tag h l rest
def dz(tag:Nat->Nat)(h:Hp):Nat->List aW->List (List Val)->List AV->Prop
 |_,[],[],cs=>cs=[]
 |i,n:: ns,l:: st,cs=>∃av rest,cs= .str n:: av:: rest/\((l=[]/\(av= .sl []\/av= .he))\/∃r,av= .hs r 0 l.length 4 true/\tag r=6+i/\h[r]? = some (aw l))/\dz tag h (i+1) ns st rest
 |_,_,_,_=>False
def IX(tag:Nat->Nat)(k sz n:Nat)(cells:List AV->Prop)(v:AV)(h:Hp):Prop:=(n=0/\v= .hn)\/∃q cs,v= .hs q 0 n sz true/\0<n/\tag q=k/\h[q]? = some cs/\cs.length=n*sz/\cells cs
structure SNm where
 names:List aW
 sv:AV
 cells:List AV
 told:Bool
structure RepT (row:Ms->AV->AV->AV->List AV) (nm:SNm) (tag:Nat->Nat) (dv cv sv:AV) (m:Ms) (h:Hp):Prop where
 r0:h[0]? = some (row m dv cv sv)
 t0:tag 0=0
 ds:IX tag 2 3 m.deeds.length (fun cs=>cs=cO m.deeds) dv h
 cs:IX tag 3 3 m.calls.length (fun cs=>gU tag h m.calls cs) cv h
 st:IX tag 5 2 m.state.length (fun cs=>cs=nm.cells/\dz tag h 0 nm.names m.state cs) sv h
 sve:sv=nm.sv
 wok:nm.told=true->m.world=[]
def WC(row:Ms->AV->AV->AV->List AV)(nm:SNm)(m:Ms)(h:Hp):Prop:=∃tag dv cv sv,RepT row nm tag dv cv sv m h
def Kp(tag tag':Nat->Nat)(ks:Nat->Prop)(h h':Hp):Prop:=∀r cs,h[r]? = some cs->¬ks (tag r)->h'[r]? = some cs/\tag' r=tag r
def xH.keep{tag tag':Nat->Nat}{ks:Nat->Prop}{h h':Hp}(K:Kp tag tag' ks h h'){k:Nat}(hk:¬ks k){l:List Val}{v:AV}(H:xH tag k h l v):xH tag' k h' l v:=by
 rcases H with H|⟨r,h1,h2,h3⟩
 ·exact .inl H
 ·have:=K r _ h3 ZN
  exact .inr ⟨r,h1,this.2.trans h2,this.1⟩
theorem gU.keep{tag tag':Nat->Nat}{ks:Nat->Prop}{h h':Hp}(K:Kp tag tag' ks h h')(hk:¬ks 4):{l:List Call} ->{cs:List AV} ->gU tag h l cs->gU tag' h' l cs
 |[],_,H=>H
 |_:: _,_,⟨av,rest,h1,h2,h3⟩=>⟨av,rest,h1,h2.keep K hk,h3.keep K hk⟩
theorem dz.keep{tag tag':Nat->Nat}{ks:Nat->Prop}{h h':Hp}(K:Kp tag tag' ks h h')(hk:∀i,¬ks (6+i)):{i:Nat} ->{nm:List aW} ->{st:List (List Val)} ->{cs:List AV} ->dz tag h i nm st cs->dz tag' h' i nm st cs
 |_,[],[],_,H=>H
 | i,_:: _,_:: _,_,⟨av,rest,h1,h2,h3⟩=>⟨av,rest,h1,by
   rcases h2 with h2|⟨r,g1,g2,g3⟩
   ·exact .inl h2
   ·have:=K r _ g3 ZN
    grind,dz.keep K hk h3⟩
 |_,[],_:: _,_,H=>H.elim
 |_,_:: _,[],_,H=>H.elim
def IX.keep{tag tag':Nat->Nat}{ks:Nat->Prop}{h h':Hp}(K:Kp tag tag' ks h h'){k sz n:Nat}{c c':List AV->Prop}{v:AV}(hk:¬ks k)(hc:∀cs,c cs->c' cs)(H:IX tag k sz n c v h):IX tag' k sz n c' v h':=by
 rcases H with H|⟨q,cs,h1,h2,h3,h4,h5,h6⟩
 ·exact .inl H
 ·have:=K q _ h4 ZN
  exact .inr ⟨q,cs,h1,h2,this.2.trans h3,this.1,h5,hc _ h6⟩
def RepT.set0{row:Ms->AV->AV->AV->List AV}{nm:SNm}{tag:Nat->Nat}{dv cv sv:AV}{m m':Ms}{h:Hp}(R:RepT row nm tag dv cv sv m h)(h1:m'.deeds=m.deeds)(h2:m'.calls=m.calls)(h3:m'.state=m.state)(h4:m.world=[]->m'.world=[]):
  RepT row nm tag dv cv sv m' (h.set 0 (row m' dv cv sv)):=by
 have hlt:0<h.length:=(Xx.1 R.r0).1;have K:Kp tag tag (fun k=>k=0) h (h.set 0 (row m' dv cv sv)):=fun r cs hr hk=>by
  have:r≠0:=fun e=>hk (by rw[e];exact R.t0)
  grind
 refine⟨ZN,R.t0,?_,?_,?_,R.sve,fun t=>h4 (R.wok t)⟩
 ·rw[h1];exact R.ds.keep K ZM fun _ h=>h
 ·rw[h2];exact R.cs.keep K ZM fun _ h=>h.keep K ZM
 ·rw[h3];exact R.st.keep K ZM fun _ h=>⟨h.1,h.2.keep K ZL⟩
def RepT.more{row:Ms->AV->AV->AV->List AV}{nm:SNm}{tag:Nat->Nat}{dv cv sv:AV}{m:Ms}{h:Hp}(R:RepT row nm tag dv cv sv m h)(x:List AV)(k:Nat):
  RepT row nm (fun i=>if i=h.length then k else tag i) dv cv sv m (h++[x])/\Kp tag (fun i=>if i=h.length then k else tag i) (fun _=>False) h (h++[x]):=by
 have K:Kp tag (fun i=>if i=h.length then k else tag i) (fun _=>False) h (h++[x]):=fun r cs hr _=>by
  grind
 exact⟨⟨(K 0 _ R.r0 id).1,(K 0 _ R.r0 id).2.trans R.t0,R.ds.keep K id fun _ h=>h,R.cs.keep K id fun _ h=>h.keep K id,R.st.keep K id fun _ h=>⟨h.1,h.2.keep K (fun _=>id)⟩,R.sve,R.wok⟩,K⟩
def W8{tag:Nat->Nat}{h:Hp}{q:Nat}{k:Nat}(hq:tag q=k)(x:List AV):Kp tag tag (fun j=>j=k) h (h.set q x):=fun r cs hr hk=>by
 grind
def bL{T:TT}{t:Nat}{ti:TI}(ht:T t=some ti)(ha:ti.agg=false){h:Hp}{l k:Nat}{cs:List AV}{v:AV}(h0:h[l]? = some cs)(h1:cs[k]? = some v):bb T t (.hp l k) h= .ok v h:=by
 simp[bb,ht,h0,ha,h1]
def lR{T:TT}{t:Nat}{ti:TI}(ht:T t=some ti)(ha:ti.agg=true){h:Hp}{l k:Nat}{cs:List AV}(h0:h[l]? = some cs)(hle:k+ti.size<=cs.length):bb T t (.hp l k) h= .ok (.agg ((cs.drop k).take ti.size)) h:=by
 simp[bb,ht,h0,ha,hle]
def bX{T:TT}{t:Nat}{ti:TI}(ht:T t=some ti){h:Hp}{l k:Nat}{cs:List AV}{v:AV}(h0:h[l]? = some cs)(hv:bT ti.size v=true)(hle:k+ti.size<=cs.length)(hp:0<ti.size):
  bU T t (.hp l k) v h= .ok (.tup []) (h.set l (setCells cs k (aa v))):=by
 simp[bU,ht,h0,hv,hle,hp]
def Gh{T:TT}{t e:Nat}{ti ei:TI}(ht:T t=some ti)(hk:ti.kind= .slice e)(he:T e=some ei){x:AV}(hx:bT ei.size x=true)(hb:0<ei.bytes)(hs:0<ei.size)(hc:ei.bytes<=140737488355328)(h:Hp):
  appH T t false .hn (.sl [x]) h= .ok (.hs h.length 0 1 ei.size ei.agg) (h++[aa x]):=by
 simp_all[dk,appH,gb,iu]
def Gi{T:TT}{t e:Nat}{ti ei:TI}(ht:T t=some ti)(hk:ti.kind= .slice e)(he:T e=some ei){x:AV}(hx:bT ei.size x=true)(hb:0<ei.bytes)(hs:0<ei.size){h:Hp}{q n:Nat}{cs:List AV}(h0:h[q]? = some cs)(hok:cs.all ay=true)(hl:cs.length=n*ei.size)(hn:0<n)(hc:(n+1)*ei.bytes<=140737488355328):appH T t false (.hs q 0 n ei.size ei.agg) (.sl [x]) h= .ok (.hs h.length 0 (n+1) ei.size ei.agg) ((h.set q [])++[cs++aa x]):=by
 have h1:dk ei.size [x]=true:=by simp[dk,hx]
 have h2:List.all cs ay=true:=hok;simp only[appH,ht,hk,he,gb,h1,hb,hs,iu,h0,h2,hl,hn,XP,Ym,Xs,XR,List.length_singleton,Zv,Xz,Yw,ZD,XN]
 grind [Nat.mul_pos]
theorem gU.ok{tag:Nat->Nat}{h:Hp}:{l:List Call} ->{cs:List AV} ->gU tag h l cs->cs.all ay=true/\cs.length=l.length*3
 |[],cs,H=>by cases H;grind
 | c:: l,_,⟨av,rest,h1,h2,h3⟩=>by
  subst h1;obtain⟨g1,g2⟩:=h3.ok;have:ay av=true:=by
   rcases h2 with(rfl|⟨_,rfl⟩)|⟨r,rfl,_⟩<;>rfl
  refine⟨?_,ZN⟩;rw[XL,XL,XL,this,g1];rfl
theorem gU.snoc{tag:Nat->Nat}{h:Hp}{c:Call}{av:AV}(ha:xH tag 4 h c.args av):{l:List Call} ->{cs:List AV} ->gU tag h l cs->gU tag h (l++[c]) (cs++[.str c.module,.str c.func,av])
 |[],cs,H=>by cases H;exact⟨av,[],rfl,ha,rfl⟩
 |d:: l,_,⟨av',rest,h1,h2,h3⟩=>⟨av',rest++[.str c.module,.str c.func,av],by rw[h1];rfl,h2,gU.snoc ha h3⟩
def ye(l:List Deed):(cO l).all ay=true:=by simp[cO,ay]
theorem dz.at{tag:Nat->Nat}{h:Hp}:{i:Nat} ->{nm:List aW} ->{st:List (List Val)} ->{cs:List AV} ->dz tag h i nm st cs->∀(j:Nat)(l:List Val),st[j]? = some l->
  ∃av,cs[j*2+1]? = some av/\((l=[]/\(av= .sl []\/av= .he))\/∃r,av= .hs r 0 l.length 4 true/\tag r=6+(i+j)/\h[r]? = some (aw l))
 |_,[],[],_,_,j,l,hj=>by simp at hj
 | i,_:: _,_:: _,_,⟨av,rest,h1,h2,h3⟩,j,l,hj=>by
  subst h1;cases j with
  |zero=>grind
  |succ j=>
   obtain⟨av',g1,g2⟩:=h3.at j l (by simpa using hj)
   grind
 |_,[],_:: _,_,H,_,_,_=>H.elim
 |_,_:: _,[],_,H,_,_,_=>H.elim
theorem dz.len{tag:Nat->Nat}{h:Hp}:{i:Nat} ->{nm:List aW} ->{st:List (List Val)} ->{cs:List AV} ->dz tag h i nm st cs->nm.length=st.length
 |_,[],[],_,_=>rfl
 |_,_:: _,_:: _,_,⟨_,_,_,_,h3⟩=>by simp[h3.len]
 |_,[],_:: _,_,H=>H.elim
 |_,_:: _,[],_,H=>H.elim
theorem dz.set{tag:Nat->Nat}{h:Hp}{r k:Nat}{v:Val}:{i:Nat} ->{nm:List aW} ->{st:List (List Val)} ->{cs:List AV} ->dz tag h i nm st cs->∀(j:Nat)(l:List Val),st[j]? = some l->tag r=6+(i+j)->h[r]? = some (aw l)->cs[j*2+1]? = some (.hs r 0 l.length 4 true)->
  k<l.length->dz tag (h.set r (aw (l.set k v))) i nm (setSt st j k v) cs
 |_,[],[],_,_,j,l,hj,_,_,_,_=>by simp at hj
 | i, n:: ns,l0:: st,_,⟨av,rest,h1,h2,h3⟩,j,l,hj,ht,hr,hc,hk=>by
  subst h1;have hlt:r<h.length:=(Xx.1 hr).1;cases j with
  | zero=>
   simp only[List.getElem?_cons_zero,Xm]at hj;subst hj;simp only[Zk,XE,X9,List.getElem?_cons_zero,Xm]at hc;have e:setSt (l0:: st) 0 k v=l0.set k v:: st:=by simp[setSt]
   rw[e];refine⟨av,rest,rfl,.inr ⟨r,ZN,ht,XS hlt⟩,?_⟩;have K:Kp tag tag (fun t=>t=6+i) h (h.set r (aw (l0.set k v))):=W8 (by rw[ht];rfl) _;have key:∀ {i':Nat} {nm':List aW} {st':List (List Val)} {cs':List AV},i<i'->dz tag h i' nm' st' cs'->dz tag (h.set r (aw (l0.set k v))) i' nm' st' cs':=by
    intro i' nm' st'
    induction st' generalizing i' nm' with
    |nil=>intro cs' hi H;cases nm' with
     |nil=>exact H
     |cons _ _=>exact H.elim
    | cons a st' ih=>intro cs' hi H;cases nm' with
     |nil=>exact H.elim
     |cons b nm'=>
      obtain⟨av2,rest2,k1,k2,k3⟩:=H;refine⟨av2,rest2,k1,?_,ih ZL k3⟩
      grind
   grind
  | succ j=>
   have e:setSt (l0:: st) (j+1) k v=l0:: setSt st j k v:=by simp[setSt]
   rw[e];have hc':rest[j*2+1]? = some (.hs r 0 l.length 4 true):=by
    rw[show (j+1)*2+1=j*2+1+2 by omega]at hc;simpa using hc
   refine⟨av,rest,rfl,?_,h3.set j l (by simpa using hj) (by rw[ht];omega) hr hc' hk⟩
   grind
 |_,[],_:: _,_,H,_,_,_,_,_,_,_=>H.elim
 |_,_:: _,[],_,H,_,_,_,_,_,_,_=>H.elim
def Kp.trans{a b c:Nat->Nat}{ks js:Nat->Prop}{h h1 h2:Hp}(K:Kp a b ks h h1)(J:Kp b c js h1 h2):Kp a c (fun k=>ks k\/js k) h h2:=fun r cs hr hk=>by
 obtain⟨k1,k2⟩:=K r cs hr fun h=>hk (.inl h);obtain⟨j1,j2⟩:=J r cs k1 fun h=>hk (.inr (by rwa [k2]at h))
 grind
def Kp.new(tag:Nat->Nat)(h:Hp)(x:List AV)(k:Nat):Kp tag (fun i=>if i=h.length then k else tag i) (fun _=>False) h (h++[x]):=fun r cs hr _=>by
 grind
theorem Kp.mono{a b:Nat->Nat}{ks js:Nat->Prop}{h h1:Hp}(K:Kp a b ks h h1)(hj:∀k,ks k->js k):Kp a b js h h1:=fun r cs hr hk=>K r cs hr fun h=>hk (hj _ h)
def AU{T:TT}{t e:Nat}{ti ei:TI}(ht:T t=some ti)(hk:ti.kind= .slice e)(he:T e=some ei){sz:Nat}(h3:ei.size=sz)(hsz:0<sz)(hag:ei.agg=true)(hb:0<ei.bytes){tag:Nat->Nat}{k n:Nat}{P:List AV->Prop}{v x:AV}{h:Hp}(H:IX tag k sz n P v h)(hP0:n=0->P [])(hok:∀cs,P cs->cs.all ay=true)(hx:bT sz x=true)(hc:(n+1)*ei.bytes<=140737488355328):
  ∃h1 v' tag',appH T t false v (.sl [x]) h= .ok v' h1/\Kp tag tag' (fun j=>j=k) h h1/\IX tag' k sz (n+1) (fun cs'=>∃cs,P cs/\cs'=cs++aa x) v' h1/\ay v'=true:=by
 have hxl:(aa x).length=sz:=by
  unfold bT at hx;simp only[Xq,Yb]at hx;have h1:=hx.1;cases x<;>simp only[dy,Xm,reduceCtorEq]at h1<;>simp only[aa,List.length_singleton]<;>exact h1
 have hx':bT ei.size x=true:=by rw[h3];exact hx
 rcases H with⟨hn,rfl⟩|⟨q,cs,rfl,hn,hq,hcs,hl,hp⟩
 ·subst hn;refine⟨_,_,_,Gh ht hk he hx' hb ZL ZL h,(Kp.new tag h (aa x) k).mono fun _ h=>h.elim,.inr ⟨h.length,aa x,by rw[h3,hag],ZL,ZO,ZO,by simpa using hxl,[],hP0 rfl,rfl⟩,rfl⟩
 ·have e1:=Gi ht hk he hx' hb ZL hcs (hok cs hp) ZN hn hc;rw[h3,hag]at e1;have K1:Kp tag tag (fun j=>j=k) h (h.set q []):=W8 hq [];have K2:=Kp.new tag (h.set q []) (cs++aa x) k;refine⟨_,_,_,e1,(K1.trans K2).mono fun j h=>h.elim id False.elim,.inr ⟨h.length,cs++aa x,rfl,ZL,ZO,?_,ZN,cs,hp,rfl⟩,rfl⟩
  grind
def RepT.pushDeed{row:Ms->AV->AV->AV->List AV}{nm:SNm}{tag tag':Nat->Nat}{dv dv' cv sv:AV}{m m':Ms}{h h1:Hp}{d:Deed}(R:RepT row nm tag dv cv sv m h)(K:Kp tag tag' (fun j=>j=2) h h1)(H:IX tag' 2 3 (m.deeds.length+1) (fun cs'=>∃cs,cs=cO m.deeds/\cs'=cs++aa d.av) dv' h1)(hd:m'.deeds=m.deeds++[d])(hc:m'.calls=m.calls)(hs:m'.state=m.state)(h4:m.world=[]->m'.world=[]):RepT row nm tag' dv' cv sv m' (h1.set 0 (row m' dv' cv sv)):=by
 obtain⟨k1,k2⟩:=K 0 _ R.r0 (by rw[R.t0];decide);have hlt:0<h1.length:=(Xx.1 k1).1;have t0:=k2.trans R.t0;have K0:Kp tag' tag' (fun j=>j=0) h1 (h1.set 0 (row m' dv' cv sv)):=W8 t0 _;refine⟨XS hlt,t0,?_,?_,?_,R.sve,fun t=>h4 (R.wok t)⟩
 ·rw[hd,XI];refine H.keep K0 ZM ?_;rintro cs' ⟨cs,rfl,rfl⟩;show cO m.deeds++[AV.int .i64 d.effect,.int .i64 d.arg,.int .i64 d.answer]=_;simp[cO]
 ·rw[hc];exact (R.cs.keep K (c':=gU tag' h1 m.calls) ZM fun _ h=>h.keep K ZM).keep K0 ZM fun _ h=>h.keep K0 ZM
 ·rw[hs];exact (R.st.keep K (c':=fun cs=>cs=nm.cells/\dz tag' h1 0 nm.names m.state cs) ZM fun _ h=>⟨h.1,h.2.keep K ZL⟩).keep K0 ZM fun _ h=>⟨h.1,h.2.keep K0 ZL⟩
def RepT.pushCall{row:Ms->AV->AV->AV->List AV}{nm:SNm}{tag tag':Nat->Nat}{dv cv cv' sv:AV}{m m':Ms}{h h1:Hp}{c:Call}{av:AV}(R:RepT row nm tag dv cv sv m h)(K:Kp tag tag' (fun j=>j=3) h h1)(ha:xH tag 4 h c.args av)(H:IX tag' 3 3 (m.calls.length+1) (fun cs'=>∃cs,gU tag h m.calls cs/\cs'=cs++[.str c.module,.str c.func,av]) cv' h1)(hd:m'.deeds=m.deeds)(hc:m'.calls=m.calls++[c])(hs:m'.state=m.state)(h4:m.world=[]->m'.world=[]):RepT row nm tag' dv cv' sv m' (h1.set 0 (row m' dv cv' sv)):=by
 obtain⟨k1,k2⟩:=K 0 _ R.r0 (by rw[R.t0];decide);have hlt:0<h1.length:=(Xx.1 k1).1;have t0:=k2.trans R.t0;have K0:Kp tag' tag' (fun j=>j=0) h1 (h1.set 0 (row m' dv cv' sv)):=W8 t0 _;refine⟨XS hlt,t0,?_,?_,?_,R.sve,fun t=>h4 (R.wok t)⟩
 ·rw[hd];exact (R.ds.keep K (c':=fun cs=>cs=cO m.deeds) ZM fun _ h=>h).keep K0 ZM fun _ h=>h
 ·rw[hc,XI];refine H.keep K0 ZM ?_;rintro cs' ⟨cs,hcs,rfl⟩;exact ((hcs.keep K ZM).snoc (ha.keep K ZM)).keep K0 ZM
 ·rw[hs];exact (R.st.keep K (c':=fun cs=>cs=nm.cells/\dz tag' h1 0 nm.names m.state cs) ZM fun _ h=>⟨h.1,h.2.keep K ZL⟩).keep K0 ZM fun _ h=>⟨h.1,h.2.keep K0 ZL⟩
def RepT.var{row:Ms->AV->AV->AV->List AV}{nm:SNm}{tag:Nat->Nat}{dv cv sv:AV}{m:Ms}{h:Hp}(R:RepT row nm tag dv cv sv m h)(hrow:∀st,row { m with state:=st } dv cv sv=row m dv cv sv){i:Nat}{l:List Val}(hl:m.state[i]? = some l)(hne:l≠[]):
  ∃q r,nm.sv= .hs q 0 m.state.length 2 true/\h[q]? = some nm.cells/\nm.cells[i*2+1]? = some (.hs r 0 l.length 4 true)/\nm.cells.length=m.state.length*2/\h[r]? = some (aw l)/\
   ∀(k:Nat)(v:Val),k<l.length->RepT row nm tag dv cv sv { m with state:=setSt m.state i k v } (h.set r (aw (l.set k v))):=by
 have hi:i<m.state.length:=(Xx.1 hl).1;rcases R.st with⟨h0,_⟩|⟨q,cs,h1,h2,h3,h4,h5,rfl,h6⟩
 ·omega
 ·obtain⟨av,g1,g2⟩:=h6.at i l hl;rcases g2 with⟨g2,_⟩|⟨r,rfl,g3,g4⟩
  ·grind
  ·rw[XE]at g3;refine⟨q,r,by rw[<- R.sve,h1],h4,g1,h5,g4,fun k v hk=>?_⟩;have K:Kp tag tag (fun j=>j=6+i) h (h.set r (aw (l.set k v))):=W8 g3 _;refine⟨?_,R.t0,?_,?_,?_,R.sve,R.wok⟩
   ·rw[hrow];exact (K 0 _ R.r0 (by rw[R.t0];omega)).1
   ·exact R.ds.keep K ZL fun _ h=>h
   ·exact R.cs.keep K ZL fun _ h=>h.keep K ZL
   ·right;have hq:r≠q:=fun e=>ZN
    refine⟨q,nm.cells,by rw[h1];simp[setSt],by simpa [setSt]using h2,h3,ZN,by simpa [setSt]using h5,rfl,?_⟩;exact h6.set i l hl ZN g4 g1 hk
theorem dz.snoc{tag:Nat->Nat}{h:Hp}{n:aW}{l:List Val}{av:AV}:{i:Nat} ->{nm:List aW} ->{st:List (List Val)} ->{cs:List AV} ->dz tag h i nm st cs->
  ((l=[]/\(av= .sl []\/av= .he))\/∃r,av= .hs r 0 l.length 4 true/\tag r=6+(i+st.length)/\h[r]? = some (aw l))->dz tag h i (nm++[n]) (st++[l]) (cs++[.str n,av])
 |i,[],[],cs,H,ha=>by
  have H':cs=[]:=H;subst H';exact⟨av,[],rfl,ha,rfl⟩
 |i,_:: _,l0:: st,_,⟨av',rest,h1,h2,h3⟩,ha=>by
  refine⟨av',rest++[.str n,av],by rw[h1];rfl,h2,h3.snoc ?_⟩
  grind
 |_,[],_:: _,_,H,_=>H.elim
 |_,_:: _,[],_,H,_=>H.elim
theorem dz.ok{tag:Nat->Nat}{h:Hp}:{i:Nat} ->{nm:List aW} ->{st:List (List Val)} ->{cs:List AV} ->dz tag h i nm st cs->cs.all ay=true
 |_,[],[],cs,H=>by
  have H':cs=[]:=H
  grind
 | _,_:: _,_:: _,_,⟨av,rest,h1,h2,h3⟩=>by
  subst h1;have:ay av=true:=by
   rcases h2 with⟨_,rfl|rfl⟩|⟨r,rfl,_⟩<;>rfl
  rw[XL,XL,this,h3.ok];rfl
 |_,[],_:: _,_,H=>H.elim
 |_,_:: _,[],_,H=>H.elim
def rP(d:Nat)(h:Hp):Nat->Nat->Nat->Nat->Bool->AV:=fun l off len sz ag=>match h[l]? with
 | some cs=>bif decide (off+len*sz<=cs.length)&&decide (0<sz)&&(ag||(Nat.beq sz 1&&cs.all ay))then
   .sl ((List.range len).map fun i=>frz d h (bif ag then .agg ((cs.drop (off+i*sz)).take sz)else ab cs (off+i*sz)))else .any
 |none=>.any
theorem gP(d:Nat)(h:Hp)(a:AV):frz (d+1) h a=cl (rP d h) a:=rfl
def i9{α β:Type}{l:List α}{f:Nat->β}{g:α->β}(h:∀i x,l[i]? = some x->f i=g x):(List.range l.length).map f=l.map g:=by
 apply YE
 grind
def JE{d:Nat}{h:Hp}{q n sz:Nat}{cs:List AV}(h0:h[q]? = some cs)(hl:cs.length=n*sz)(hz:0<sz):rP d h q 0 n sz true= .sl ((List.range n).map fun i=>frz d h (.agg ((cs.drop (i*sz)).take sz))):=by
 simp_all[rP]
def DG(d:Nat)(h:Hp)(v:Val):frz d h v.av=v.av:=by
 cases d with
 |zero=>exact tt _ v
 |succ d=>exact tt _ v
def G7{d:Nat}{h:Hp}{r:Nat}{l:List Val}(h0:h[r]? = some (aw l)):rP d h r 0 l.length 4 true=vals l:=by
 rw[JE h0 (aX l) ZM];unfold vals;rw[dS];congr 1;refine i9 fun i v hv=>?_;have hi:=(Xx.1 hv).1;rw[iM hi,(Xx.1 hv).2];have:AV.agg (aa v.av)=v.av:=ZO
 rw[this,DG]
theorem gU.at{tag:Nat->Nat}{h:Hp}:{l:List Call} ->{cs:List AV} ->gU tag h l cs->∀(i:Nat)(c:Call),l[i]? = some c->∃av,(cs.drop (i*3)).take 3=[.str c.module,.str c.func,av]/\xH tag 4 h c.args av
 |[],_,_,i,c,hc=>by simp at hc
 | d:: l,_,⟨av,rest,h1,h2,h3⟩,i,c,hc=>by
  subst h1;cases i with
  |zero=>grind
  |succ i=>
   obtain⟨av',g1,g2⟩:=h3.at i c (by simpa using hc)
   grind
def yd{l:List Deed}{i:Nat}{d:Deed}(h:l[i]? = some d):((cO l).drop (i*3)).take 3=[.int .i64 d.effect,.int .i64 d.arg,.int .i64 d.answer]:=by
 induction l generalizing i with
 |nil=>simp at h
 | cons x l ih=>
  cases i with
  |zero=>simp at h;subst h;simp[cO]
  |succ i=>
   grind [cO]
theorem dz.at2{tag:Nat->Nat}{h:Hp}:{i:Nat} ->{nm:List aW} ->{st:List (List Val)} ->{cs:List AV} ->dz tag h i nm st cs->∀(j:Nat)(x:Vars),(List.zipWith Vars.mk nm st)[j]? = some x->
  ∃av,(cs.drop (j*2)).take 2=[.str x.module,av]/\((x.values=[]/\(av= .sl []\/av= .he))\/∃r,av= .hs r 0 x.values.length 4 true/\h[r]? = some (aw x.values))
 |_,[],[],_,_,j,x,hx=>by simp at hx
 | i,n:: ns,l:: st,_,⟨av,rest,h1,h2,h3⟩,j,x,hx=>by
  subst h1;cases j with
  |zero=>
   grind
  |succ j=>
   obtain⟨av',g1,g2⟩:=h3.at2 j x (by simpa using hx)
   grind
 |_,[],_:: _,_,H,_,_,_=>H.elim
 |_,_:: _,[],_,H,_,_,_=>H.elim
def kG{v:AV}(h:ay v=true):bT 1 v=true/\aa v=[v]/\dy v=some 1:=by
 cases v with
 |any=>cases h
 |agg _=>cases h
 |tup _=>cases h
 |nilb _=>cases h
 |byt _ _=>cases h
 |it _=>cases h
 |_=>exact⟨rfl,rfl,rfl⟩
end Go.Av.Ap
namespace Go.Av.Ap
open Go Go.Av
def fX(tag:Nat->Nat)(k sz n:Nat)(P:List AV->Prop)(v:AV)(h:Hp):Prop:=
 (n=0/\(v= .hn\/v= .he)/\P [])\/∃r cs rest,v= .hs r 0 n sz true/\tag r=k/\h[r]? = some (cs++rest)/\cs++rest≠[]/\cs.length=n*sz/\(cs++rest).all ay=true/\P cs
def fX.keep{tag tag':Nat->Nat}{ks:Nat->Prop}{h h':Hp}(K:Kp tag tag' ks h h'){k sz n:Nat}{c c':List AV->Prop}{v:AV}(hk:¬ks k)(hc:∀cs,c cs->c' cs)(H:fX tag k sz n c v h):fX tag' k sz n c' v h':=by
 rcases H with⟨h1,h2,h3⟩|⟨r,cs,rest,h1,h2,h3,h4,h5,h6,h7⟩
 ·exact .inl ⟨h1,h2,hc _ h3⟩
 ·have:=K r _ h3 ZN
  exact .inr ⟨r,cs,rest,h1,this.2.trans h2,this.1,h4,h5,h6,hc _ h7⟩
theorem fX.mono{tag:Nat->Nat}{h:Hp}{k sz n:Nat}{c c':List AV->Prop}{v:AV}(hc:∀cs,c cs->c' cs)(H:fX tag k sz n c v h):fX tag k sz n c' v h:=by
 rcases H with⟨h1,h2,h3⟩|⟨r,cs,rest,h1,h2,h3,h4,h5,h6,h7⟩
 ·exact .inl ⟨h1,h2,hc _ h3⟩
 ·exact .inr ⟨r,cs,rest,h1,h2,h3,h4,h5,h6,hc _ h7⟩
def fX.okC{tag:Nat->Nat}{h:Hp}{k sz n:Nat}{c:List AV->Prop}{v:AV}(H:fX tag k sz n c v h):ay v=true:=by
 rcases H with⟨_,rfl|rfl,_⟩|⟨r,cs,rest,rfl,_⟩<;>rfl
def fX.len{tag:Nat->Nat}{h:Hp}{k sz n:Nat}{c:List AV->Prop}{v:AV}{T:TT}{t e:Nat}{ti ei:TI}(ht:T t=some ti)(hk:ti.kind= .slice e)(he:T e=some ei)(h0:∀n',bm T t (.hs n' 0 n sz true)=some (.int .i64 n))(h1:bm T t .hn=some (.int .i64 0))(h2:bm T t .he=some (.int .i64 0))(H:fX tag k sz n c v h):bm T t v=some (.int .i64 n):=by
 rcases H with⟨rfl,rfl|rfl,_⟩|⟨r,cs,rest,rfl,_⟩
 all_goals grind
def oF(v:AV)(h:Hp):Hp:=match v with
 |.hs r _ _ _ _=>h.set r []
 |_=>h
def fX.push{T:TT}{t e:Nat}{ti ei:TI}(ht:T t=some ti)(hk:ti.kind= .slice e)(he:T e=some ei){sz:Nat}(h3:ei.size=sz)(hsz:0<sz)(hag:ei.agg=true)(hb:0<ei.bytes){tag:Nat->Nat}{k n:Nat}{P:List AV->Prop}{v x:AV}{h:Hp}(H:fX tag k sz n P v h)(hx:bT sz x=true)(hc:(n+1)*ei.bytes<=140737488355328):
  ∃cs tag',P cs/\cs.length=n*sz/\appH T t false v (.sl [x]) h= .ok (.hs h.length 0 (n+1) sz true) (((oF v h)++[cs++aa x]))/\Kp tag tag' (fun j=>j=k) h ((oF v h)++[cs++aa x])/\
   tag' h.length=k/\fX tag' k sz (n+1) (fun cs'=>cs'=cs++aa x) (.hs h.length 0 (n+1) sz true) ((oF v h)++[cs++aa x]):=by
 have hx':bT ei.size x=true:=by rw[h3];exact hx
 have hsx:dk ei.size [x]=true:=by simp[dk,hx']
 unfold bT at hx;simp only[Xq,Yb]at hx;have hxl:(aa x).length=sz:=by
  have h1:=hx.1;cases x<;>simp only[dy,Xm,reduceCtorEq]at h1<;>simp only[aa,List.length_singleton]<;>exact h1
 rcases H with⟨rfl,hv,hP⟩|⟨r,cs,rest,rfl,hr,hcs,hne,hl,hok,hP⟩
 ·have hc1:ei.bytes<=140737488355328:=ZL
  have key:appH T t false v (.sl [x]) h= .ok (.hs h.length 0 1 ei.size ei.agg) (h++[aa x]):=by
   rcases hv with rfl|rfl<;>simp[appH,ht,hk,he,gb,hsx,hb,h3,hsz,iu,hc1,hxl]
   all_goals grind
  have e:oF v h=h:=by rcases hv with rfl|rfl<;>rfl
  rw[e];refine⟨[],_,hP,ZO,ZN,(Kp.new tag h _ k).mono fun _ h=>h.elim,ZO,.inr ⟨h.length,[]++aa x,[],rfl,ZO,ZO,?_,by simpa using hxl,ZN,rfl⟩⟩
  grind
 ·have hlt:r<h.length:=(Xx.1 hcs).1;have hpos:0<(cs++rest).length:=Yl.2 hne;have key:appH T t false (.hs r 0 n sz true) (.sl [x]) h= .ok (.hs h.length 0 (n+1) sz true) ((h.set r [])++[cs++aa x]):=by
   have hsx':dk sz [x]=true:=by rw[<- h3];exact hsx
   simp only[appH,ht,hk,he,gb,hsx',hb,h3,hsz,iu,hcs,XP,Ym,Xs,XR,hag,hok,List.length_singleton,Zv,Xz,Yw,ZD,XN];rw[XU hc,XU (show n*sz<=(cs++rest).length by grind),XU hpos];rw[<- hl,List.take_left];simp
  refine⟨cs,fun i=>if i=(h.set r []).length then k else tag i,hP,hl,key,?_,ZO,?_⟩
  ·show Kp _ _ _ h (h.set r []++[cs++aa x]);exact ((W8 hr []).trans (Kp.new tag (h.set r []) (cs++aa x) k)).mono fun j h=>h.elim id False.elim
  ·refine .inr ⟨h.length,cs++aa x,[],rfl,ZO,?_,?_,ZN,?_,rfl⟩
   ·show (h.set r []++[cs++aa x])[h.length]? = _
    grind
   all_goals grind
def de(tag:Nat->Nat)(k:Nat)(h:Hp)(l:List Val)(v:AV):Prop:=fX tag k 4 l.length (fun cs=>cs=aw l) v h
def de.keep{tag tag':Nat->Nat}{ks:Nat->Prop}{h h':Hp}(K:Kp tag tag' ks h h'){k:Nat}(hk:¬ks k){l:List Val}{v:AV}(H:de tag k h l v):de tag' k h' l v:=fX.keep K hk (fun _ h=>h) H
theorem iv(l:List Val):(aw l).all ay=true:=by
 have:=xk l
 induction l with
 |nil=>rfl
 |cons v l ih=>
  simp only[dY,dk,XL,Xq,bT]at this;simp_all[aw]
def ze(tag:Nat->Nat)(h:Hp)(l:List Val)(v:AV):Prop:=v=vals l\/de tag 4 h l v
def eV(tag:Nat->Nat)(h:Hp):List Call->List AV->Prop
 |[],cs=>cs=[]
 |c:: l,cs=>∃av rest,cs= .str c.module:: .str c.func:: av:: rest/\ze tag h c.args av/\eV tag h l rest
def eh(tag:Nat->Nat)(h:Hp):Nat->List Frm->List AV->Prop
 |_,[],cs=>cs=[]
 |i,f:: l,cs=>∃lv sv rest,cs= .str f.mod:: .str f.fn:: .int .i64 f.pc:: lv:: sv:: rest/\de tag (11+3*i) h f.locals lv/\de tag (12+3*i) h f.stack sv/\eh tag h (i+1) l rest
def om(tag:Nat->Nat)(h:Hp):Nat->List Vars->List AV->Prop
 |_,[],cs=>cs=[]
 |i,w:: l,cs=>∃av rest,cs= .str w.module:: av:: rest/\de tag (10+3*i) h w.values av/\om tag h (i+1) l rest
def ze.keep{tag tag':Nat->Nat}{ks:Nat->Prop}{h h':Hp}(K:Kp tag tag' ks h h')(hk:¬ks 4){l:List Val}{v:AV}(H:ze tag h l v):ze tag' h' l v:=H.imp id (de.keep K hk)
theorem eV.keep{tag tag':Nat->Nat}{ks:Nat->Prop}{h h':Hp}(K:Kp tag tag' ks h h')(hk:¬ks 4):{l:List Call} ->{cs:List AV} ->eV tag h l cs->eV tag' h' l cs
 |[],_,H=>H
 |_:: _,_,⟨av,rest,h1,h2,h3⟩=>⟨av,rest,h1,h2.keep K hk,h3.keep K hk⟩
theorem eh.keep{tag tag':Nat->Nat}{ks:Nat->Prop}{h h':Hp}(K:Kp tag tag' ks h h'):{i:Nat} ->{l:List Frm} ->{cs:List AV} ->(∀j,i<=j->j<i+l.length->¬ks (11+3*j)/\¬ks (12+3*j))->eh tag h i l cs->eh tag' h' i l cs
 |_,[],_,_,H=>H
 |i,f:: l,_,hk,⟨lv,sv,rest,h1,h2,h3,h4⟩=>
  ⟨lv,sv,rest,h1,h2.keep K (hk i ZL ZO).1,h3.keep K (hk i ZL ZO).2,h4.keep K fun j h1 h2=>hk j ZL ZQ⟩
theorem om.keep{tag tag':Nat->Nat}{ks:Nat->Prop}{h h':Hp}(K:Kp tag tag' ks h h')(hk:∀j,¬ks (10+3*j)):{i:Nat} ->{l:List Vars} ->{cs:List AV} ->om tag h i l cs->om tag' h' i l cs
 |_,[],_,H=>H
 |i,w:: l,_,⟨av,rest,h1,h2,h3⟩=>⟨av,rest,h1,h2.keep K (hk i),h3.keep K hk⟩
theorem eh.len{tag:Nat->Nat}{h:Hp}:{i:Nat} ->{l:List Frm} ->{cs:List AV} ->eh tag h i l cs->cs.length=l.length*5
 |_,[],_,H=>by cases H;rfl
 |i,f:: l,_,⟨lv,sv,rest,h1,h2,h3,h4⟩=>by rw[h1];simp[h4.len];omega
theorem eh.snoc{tag:Nat->Nat}{h:Hp}{f:Frm}{lv sv:AV}:{i:Nat} ->{l:List Frm} ->{cs:List AV} ->eh tag h i l cs->de tag (11+3*(i+l.length)) h f.locals lv->de tag (12+3*(i+l.length)) h f.stack sv->eh tag h i (l++[f]) (cs++[.str f.mod,.str f.fn,.int .i64 f.pc,lv,sv])
 |i,[],_,H,h1,h2=>by cases H;exact⟨lv,sv,[],rfl,h1,h2,rfl⟩
 |i,g:: l,_,⟨lv',sv',rest,k1,k2,k3,k4⟩,h1,h2=>
  ⟨lv',sv',rest++[.str f.mod,.str f.fn,.int .i64 f.pc,lv,sv],by rw[k1];rfl,k2,k3,k4.snoc ZN ZN⟩
theorem eh.last{tag:Nat->Nat}{h:Hp}{f:Frm}:{i:Nat} ->{l:List Frm} ->{cs:List AV} ->eh tag h i (l++[f]) cs->∃c0 lv sv,cs=c0++[.str f.mod,.str f.fn,.int .i64 f.pc,lv,sv]/\eh tag h i l c0/\de tag (11+3*(i+l.length)) h f.locals lv/\de tag (12+3*(i+l.length)) h f.stack sv
 |i,[],cs,⟨lv,sv,rest,k1,k2,k3,k4⟩=>by cases k4;exact⟨[],lv,sv,k1,rfl,k2,k3⟩
 |i,g:: l,cs,⟨lv',sv',rest,k1,k2,k3,k4⟩=>by
  obtain⟨c0,lv,sv,j1,j2,j3,j4⟩:=k4.last;refine⟨_:: _:: _:: lv':: sv':: c0,lv,sv,ZN,⟨lv',sv',c0,rfl,k2,k3,j2⟩,?_,?_⟩
  all_goals grind
theorem eh.ok{tag:Nat->Nat}{h:Hp}:{i:Nat} ->{l:List Frm} ->{cs:List AV} ->eh tag h i l cs->cs.all ay=true
 |_,[],_,H=>by cases H;rfl
 |i,f:: l,_,⟨lv,sv,rest,h1,h2,h3,h4⟩=>by
  rw[h1,XL,XL,XL,XL,XL,h2.okC,h3.okC,h4.ok];rfl
theorem eV.ok{tag:Nat->Nat}{h:Hp}:{l:List Call} ->{cs:List AV} ->eV tag h l cs->cs.all ay=true/\cs.length=l.length*3
 |[],cs,H=>by cases H;grind
 | c:: l,_,⟨av,rest,h1,h2,h3⟩=>by
  subst h1;obtain⟨g1,g2⟩:=h3.ok;have:ay av=true:=by
   rcases h2 with rfl|h2
   ·rfl
   ·exact h2.okC
  refine⟨?_,ZN⟩;rw[XL,XL,XL,this,g1];rfl
theorem eV.snoc{tag:Nat->Nat}{h:Hp}{c:Call}{av:AV}(ha:ze tag h c.args av):{l:List Call} ->{cs:List AV} ->eV tag h l cs->eV tag h (l++[c]) (cs++[.str c.module,.str c.func,av])
 |[],cs,H=>by cases H;exact⟨av,[],rfl,ha,rfl⟩
 |d:: l,_,⟨av',rest,h1,h2,h3⟩=>⟨av',rest++[.str c.module,.str c.func,av],by rw[h1];rfl,h2,eV.snoc ha h3⟩
def iO(f:Frm)(lv sv:AV):List AV:=[.str f.mod,.str f.fn,.int .i64 f.pc,lv,sv]
structure FrAt (tag:Nat->Nat) (h:Hp) (q:Nat) (A B:List AV) (i:Nat) (f:Frm) (lv sv:AV):Prop where
 row:h[q]? = some (A++iO f lv sv++B)
 tq:tag q=7
 lo:de tag (11+3*i) h f.locals lv
 st:de tag (12+3*i) h f.stack sv
theorem FrAt.get{tag:Nat->Nat}{h:Hp}{q:Nat}{A B:List AV}{i:Nat}{f:Frm}{lv sv:AV}(H:FrAt tag h q A B i f lv sv){T:TT}{t:Nat}{ti:TI}(ht:T t=some ti)(ha:ti.agg=false){k:Nat}{v:AV}(hv:(iO f lv sv)[k]? = some v):
  bb T t (.hp q (A.length+k)) h= .ok v h:=by
 refine bL ht ha H.row ?_
 grind
def set_mid{A C D B:List AV}{k:Nat}{v:AV}(h:k<C.length)(hD:C.set k v=D)(h1:(aa v).length=1:=by rfl)(h2:aa v=[v]:=by rfl):setCells (A++C++B) (A.length+k) (aa v)=A++D++B:=by
 rw[<- hD,h2];have:setCells (A++C++B) (A.length+k) [v]=(A++C++B).set (A.length+k) v:=by
  rw[List.set_eq_take_append_cons_drop,Xr ZQ];simp[setCells]
 grind
theorem np{T:TT}{t e:Nat}{ti ei:TI}(ht:T t=some ti)(hk:ti.kind= .slice e)(he:T e=some ei)(h4:ei.size=4)(hag:ei.agg=true)(hb:0<ei.bytes)(call:FuncId->List AV->M AV)(l:List Val)(hc:l.length*ei.bytes<=140737488355328)(h:Hp):
  cu T t call [vals l] h=if l=[]then .ok .he h else .ok (.hs h.length 0 l.length 4 true) (h++[aw l]):=by
 have h1:dk 4 (dY l)=true:=xk l;have hlen:(dY l).length=l.length:=by simp[dS]
 have hfl:(dY l).flatMap aa=aw l:=by simp[dS,aw,List.flatMap_map]
 show appH T t false .he (.sl (dY l)) h=_;cases l with
 |nil=>simp_all[appH,gb,iu,dk]
 |cons v l=>
  have hne:(dY (v:: l)).isEmpty=false:=rfl;unfold appH;simp only[ht,hk,he,gb,h4,h1,hb,iu,XP,Ym,Yu,Xs,hne,Xz,hlen,hfl,hag]
  grind
theorem rF(rest:List AV):∀(n:Nat)(l:List Val),n<=l.length->j9 true 4 n (aw l++rest)=dY (l.take n)
 |0,_,_=>rfl
 |n+1,[],h=>by simp at h
 |n+1,v:: l,h=>by
  have e:aw (v:: l)++rest=aa v.av++(aw l++rest):=by simp[aw]
  have hl:(aa v.av).length=4:=ZO
  rw[e];simp only[j9,Xs];rw[YX ZL,Yz ZL,YF ZL,List.drop_of_length_le ZL,XW,rF rest n l (by simpa using h)];simp[dS]
def vZ(l:List Val)(k:Nat):(aw l).drop (k*4)=aw (l.drop k):=by
 by_cases h:k<=l.length
 ·have e:aw l=aw (l.take k)++aw (l.drop k):=by rw[<- kl,List.take_append_drop]
  grind [aX]
 ·rw[List.drop_of_length_le (by rw[aX];omega),List.drop_of_length_le (l:=l) ZL];rfl
theorem oT{T:TT}{t e:Nat}{ti ei:TI}(ht:T t=some ti)(hk:ti.kind= .slice e)(he:T e=some ei)(h4:ei.size=4)(hag:ei.agg=true)(hb:0<ei.bytes)(call:FuncId->List AV->M AV){h:Hp}{r:Nat}{l:List Val}{rest:List AV}(h0:h[r]? = some (aw l++rest))(hok:(aw l++rest).all ay=true){k n:Nat}(hkn:k+n<=l.length)(hc:n*ei.bytes<=140737488355328):
  cu T t call [.hs r (k*4) n 4 true] h=if n=0 then .ok .he h else .ok (.hs h.length 0 n 4 true) (h++[aw ((l.drop k).take n)]):=by
 cases n with
 |zero=>
  show appH T t false .he (.sl []) h=_
  grind [appH,gb,iu,dk]
 | succ n=>
  have hl:((l.drop k).take (n+1)).length=n+1:=by simp;omega
  have hs:oB h (.hs r (k*4) (n+1) 4 true)=some (dY ((l.drop k).take (n+1))):=by
   have hd:(aw l++rest).drop (k*4)=aw (l.drop k)++rest:=by
    rw[YF (by rw[aX];omega),vZ]
   simp only[oB,h0,hd];have o1:((aw (l.drop k)++rest).take ((n+1)*4)).all ay=true:=by
    rw[XF]at hok |-;intro x hx;refine hok x ?_;have:x∈(aw l++rest).drop (k*4):=by rw[hd];exact List.mem_of_mem_take hx
    exact YP this
   have o2:k*4+(n+1)*4<=(aw l++rest).length:=by rw[XI,aX];omega
   rw[o1,XU o2];simp only[Bool.true_or,Ym,Xs];rw[rF rest (n+1) (l.drop k) ZQ]
  have e1:cu T t call [.hs r (k*4) (n+1) 4 true] h=appH T t false .he (.sl (dY ((l.drop k).take (n+1)))) h:=by
   show (match oB h (.hs r (k*4) (n+1) 4 true)with|some es=>appH T t false .he (.sl es) h|none=>.fail)=_;rw[hs]
  have e2:=np ht hk he h4 hag hb call ((l.drop k).take (n+1)) ZN h;rw[e1];have e3:cu T t call [vals ((l.drop k).take (n+1))] h=appH T t false .he (.sl (dY ((l.drop k).take (n+1)))) h:=rfl
  grind
def nD{T:TT}{t:Nat}{ti:TI}(ht:T t=some ti)(ha:ti.agg=true)(h4:ti.size=4){h:Hp}{r:Nat}{l:List Val}{rest:List AV}(h0:h[r]? = some (aw l++rest)){j:Nat}(hj:j<l.length):bb T t (.hp r (j*4)) h= .ok (l[j]).av h:=by
 rw[lR ht ha h0 (by grind [aX]),h4];have:((aw l++rest).drop (j*4)).take 4=aa (l[j]).av:=by
  rw[YF (by rw[aX];omega),YX (by grind [aX])];exact iM hj
 simp_all
def wa(l:List Val)(k:Nat):∃rest,aw l=aw (l.take k)++rest/\rest.all ay=true:=by
 grind [kl,List.take_append_drop,iv]
structure MLay where
 rm:Nat
 ri:Nat
 rf:Nat
 ci:List AV
 cf:List AV
def fC(L:MLay)(p:Proc)(sv fv dv cv:AV)(vc:List AV):List AV:=[mods p.mods,sv,fv,ints p.world,.int .i64 p.out.err]++vc++[dv,cv,.hn,.bool p.ended,.mp L.ri,.mp L.rf]
def VC(v:Val)(vc:List AV):Prop:=vc=aa v.av\/v=default/\vc=[.int .i64 0,.int .i64 0,.hn,.hn]
def VC.len{v:Val}{vc:List AV}(H:VC v vc):vc.length=4:=by rcases H with rfl|⟨_,rfl⟩<;>simp
structure StP where
 ok:(Nat->Nat)->Hp->List Vars->AV->Prop
 keep:∀ {tag tag':Nat->Nat} {ks:Nat->Prop} {h h':Hp} {l:List Vars} {v:AV},Kp tag tag' ks h h'->¬ks 5->(∀j,¬ks (10+3*j))->ok tag h l v->ok tag' h' l v
abbrev VX:StP:=⟨fun tag h l v=>fX tag 5 2 l.length (fun cs=>om tag h 0 l cs) v h,fun K h5 hj H=>fX.keep K h5 (fun _ h=>h.keep K hj) H⟩
abbrev W2:StP:=⟨fun _ _ l v=>v=br l,fun _ _ _ H=>H⟩
structure MRG (Q:StP) (L:MLay) (tag:Nat->Nat) (sv fv dv cv:AV) (vc:List AV) (p:Proc) (h:Hp):Prop where
 row:h[L.rm]? = some (fC L p sv fv dv cv vc)
 tm:tag L.rm=0
 ri:h[L.ri]? = some L.ci
 ti:tag L.ri=1
 rf:h[L.rf]? = some L.cf
 tf:tag L.rf=1
 st:Q.ok tag h p.state sv
 fr:fX tag 7 5 p.frames.length (fun cs=>eh tag h 0 p.frames cs) fv h
 ds:fX tag 2 3 p.out.deeds.length (fun cs=>cs=cO p.out.deeds) dv h
 cs:fX tag 3 3 p.out.calls.length (fun cs=>eV tag h p.out.calls cs) cv h
 vo:VC p.out.value vc
 so:p.out.state=[]
abbrev MR:=MRG VX
def MRG.sth{L:MLay}{tag:Nat->Nat}{sv fv dv cv:AV}{vc:List AV}{p:Proc}{h:Hp}(H:MR L tag sv fv dv cv vc p h):fX tag 5 2 p.state.length (fun cs=>om tag h 0 p.state cs) sv h:=H.st
def MRG.focus{L:MLay}{tag:Nat->Nat}{sv fv dv cv:AV}{vc:List AV}{p:Proc}{h:Hp}(H:MR L tag sv fv dv cv vc p h){fs:List Frm}{f:Frm}(hf:p.frames=fs++[f]):
  ∃q A B lv stv,fv= .hs q 0 (fs.length+1) 5 true/\A.length=fs.length*5/\eh tag h 0 fs A/\FrAt tag h q A B fs.length f lv stv/\B.all ay=true:=by
 rcases H.fr with⟨h0,_⟩|⟨q,cs,rest,rfl,hq,hr,_,hl,hok,HF⟩
 ·grind
 ·rw[hf]at HF;obtain⟨A,lv,stv,rfl,k1,k2,k3⟩:=HF.last;rw[XE]at k2 k3;refine⟨q,A,rest,lv,stv,by rw[hf];simp,k1.len,k1,⟨hr,hq,k2,k3⟩,?_⟩
  grind
def MRG.unfocus{L:MLay}{tag tag':Nat->Nat}{sv dv cv:AV}{vc:List AV}{p:Proc}{h h':Hp}{q:Nat}{fs:List Frm}{f':Frm}{A B:List AV}{lv' sv':AV}(H:MR L tag sv (.hs q 0 (fs.length+1) 5 true) dv cv vc p h)(hA:eh tag h 0 fs A)(K:Kp tag tag' (fun k=>k=7\/k=11+3*fs.length\/k=12+3*fs.length) h h')(F:FrAt tag' h' q A B fs.length f' lv' sv')(hB:B.all ay=true):
  MR L tag' sv (.hs q 0 (fs.length+1) 5 true) dv cv vc { p with frames:=fs++[f'] } h':=by
 have km:=K _ _ H.row (by rw[H.tm];omega);have ki:=K _ _ H.ri (by rw[H.ti];omega);have kf:=K _ _ H.rf (by rw[H.tf];omega);have hA':eh tag' h' 0 fs A:=hA.keep K fun j h1 h2=>ZN
 refine⟨km.1,km.2.trans H.tm,ki.1,ki.2.trans H.ti,kf.1,kf.2.trans H.tf,H.sth.keep K ZL fun _ h=>h.keep K ZL,?_,H.ds.keep K ZL fun _ h=>h,H.cs.keep K ZL fun _ h=>h.keep K ZL,H.vo,H.so⟩;refine .inr ⟨q,A++iO f' lv' sv',B,ZO,F.tq,F.row,by simp[iO],by simp[iO,hA.len];omega,?_,?_⟩
 ·rw[YV,YV,hA'.ok,hB];simp only[iO,XL,Zm,F.lo.okC,F.st.okC];rfl
 ·exact hA'.snoc (by rw[XE];exact F.lo) (by rw[XE];exact F.st)
theorem MRG.setRow{L:MLay}{tag:Nat->Nat}{sv fv dv cv:AV}{vc:List AV}{p p':Proc}{h:Hp}{vc':List AV}(H:MR L tag sv fv dv cv vc p h)(h1:p'.state=p.state)(h2:p'.frames=p.frames)(h3:p'.out.deeds=p.out.deeds)(h4:p'.out.calls=p.out.calls)(h5:p'.out.state=[])(h6:VC p'.out.value vc'):
  MR L tag sv fv dv cv vc' p' (h.set L.rm (fC L p' sv fv dv cv vc')):=by
 have hlt:L.rm<h.length:=(Xx.1 H.row).1;have K:Kp tag tag (fun k=>k=0) h (h.set L.rm (fC L p' sv fv dv cv vc')):=W8 H.tm _;have ki:=K _ _ H.ri (by rw[H.ti];omega);have kf:=K _ _ H.rf (by rw[H.tf];omega);refine⟨XS hlt,H.tm,ki.1,H.ti,kf.1,H.tf,?_,?_,?_,?_,h6,h5⟩
 ·rw[h1];exact H.sth.keep K ZL fun _ h=>h.keep K ZL
 ·rw[h2];exact H.fr.keep K ZL fun _ h=>h.keep K fun j _ _=>ZN
 ·rw[h3];exact H.ds.keep K ZL fun _ h=>h
 ·rw[h4];exact H.cs.keep K ZL fun _ h=>h.keep K ZL
theorem om.at{tag:Nat->Nat}{h:Hp}:{i:Nat} ->{l:List Vars} ->{cs:List AV} ->om tag h i l cs->∀(j:Nat)(w:Vars),l[j]? = some w->∃av,cs[j*2+1]? = some av/\de tag (10+3*(i+j)) h w.values av
 |_,[],_,_,j,w,hj=>by simp at hj
 | i,_:: _,_,⟨av,rest,h1,h2,h3⟩,j,w,hj=>by
  subst h1;cases j with
  |zero=>grind
  |succ j=>
   obtain⟨av',g1,g2⟩:=h3.at j w (by simpa using hj)
   grind
theorem om.len{tag:Nat->Nat}{h:Hp}:{i:Nat} ->{l:List Vars} ->{cs:List AV} ->om tag h i l cs->cs.length=l.length*2
 |_,[],_,H=>by cases H;rfl
 |i,w:: l,_,⟨av,rest,h1,h2,h3⟩=>by rw[h1];simp[h3.len];omega
theorem om.ok{tag:Nat->Nat}{h:Hp}:{i:Nat} ->{l:List Vars} ->{cs:List AV} ->om tag h i l cs->cs.all ay=true
 |_,[],_,H=>by cases H;rfl
 |i,w:: l,_,⟨av,rest,h1,h2,h3⟩=>by rw[h1,XL,XL,h2.okC,h3.ok];rfl
theorem om.keepTo{tag tag':Nat->Nat}{ks:Nat->Prop}{h h':Hp}(K:Kp tag tag' ks h h'):{i:Nat} ->{l:List Vars} ->{cs:List AV} ->(∀j,i<=j->¬ks (10+3*j))->om tag h i l cs->om tag' h' i l cs
 |_,[],_,_,H=>H
 |i,w:: l,_,hk,⟨av,rest,h1,h2,h3⟩=>⟨av,rest,h1,h2.keep K (hk i (Xt i)),h3.keepTo K fun j hj=>hk j ZL⟩
def om.set{tag:Nat->Nat}{h h':Hp}{ws:List Val}:{i:Nat} ->{l:List Vars} ->{cs:List AV} ->om tag h i l cs->∀(j:Nat)(w:Vars)(av:AV),l[j]? = some w->cs[j*2+1]? = some av->Kp tag tag (fun k=>k=10+3*(i+j)) h h'->de tag (10+3*(i+j)) h' ws av->
  om tag h' i (l.modify j fun w=>{ w with values:=ws }) cs
 |_,[],_,_,j,w,_,hj,_,_,_=>by simp at hj
 | i,u:: l,_,⟨av0,rest,h1,h2,h3⟩,j,w,av,hj,hc,K,hv=>by
  subst h1;cases j with
  |zero=>
   simp at hj hc;subst hj;subst hc;exact⟨av0,rest,rfl,hv,h3.keepTo K fun j hj=>ZL⟩
  | succ j=>
   have hc':rest[j*2+1]? = some av:=by
    rw[show (j+1)*2+1=j*2+1+2 by omega]at hc;simpa using hc
   rw[show i+(j+1)=i+1+j by omega]at K hv;exact⟨av0,rest,rfl,h2.keep K ZL,h3.set j w av (by simpa using hj) hc' K hv⟩
def Fnc.av(x:Fnc):AV:=.agg ([.int .i64 x.at_,.bool x.pub]++aa x.cod.av++[ints x.hts])
def kD:Option Fnc->AV
 |some x=>x.av
 |none=>.agg [.int .i64 0,.bool false,.str [],.int .i64 0,.int .i64 0,.sl [],.sl []]
structure MapOk (T:TT) (tI tF:Nat) (L:MLay) (p:List Mod):Prop where
 idx:∀h:Hp,h[L.ri]? = some L.ci->∀s,0<=dD p s->d9 T tI (.mp L.ri) (.str s) false h= .ok (.int .i64 (dD p s)) h
 fn:∀h:Hp,h[L.rf]? = some L.cf->∀s t,d9 T tF (.mp L.rf) (.agg [.str s,.str t]) true h= .ok (.tup [kD (fh p s t),.bool (fh p s t).isSome]) h
 fn1:∀h:Hp,h[L.rf]? = some L.cf->∀s t x,fh p s t=some x->d9 T tF (.mp L.rf) (.agg [.str s,.str t]) false h= .ok x.av h
theorem MRG.get{Q:StP}{L:MLay}{tag:Nat->Nat}{sv fv dv cv:AV}{vc:List AV}{p:Proc}{h:Hp}(H:MRG Q L tag sv fv dv cv vc p h){T:TT}{t:Nat}{ti:TI}(ht:T t=some ti)(ha:ti.agg=false){k:Nat}{v:AV}(hv:(fC L p sv fv dv cv vc)[k]? = some v):
  bb T t (.hp L.rm k) h= .ok v h:=bL ht ha H.row hv
def nZ{L:MLay}{p:Proc}{sv fv dv cv:AV}{vc:List AV}(h:vc.length=4)(j:Nat):(fC L p sv fv dv cv vc)[9+j]? = [dv,cv,.hn,.bool p.ended,.mp L.ri,.mp L.rf][j]?:=by
 match vc,h with
 |[a,b,c,d],_=>simp_all[fC,Nat.add_comm]
def FrAt.keep{tag tag':Nat->Nat}{ks:Nat->Prop}{h h':Hp}(K:Kp tag tag' ks h h'){q:Nat}{A B:List AV}{i:Nat}{f:Frm}{lv sv:AV}(hk:¬ks 7/\¬ks (11+3*i)/\¬ks (12+3*i))(F:FrAt tag h q A B i f lv sv):FrAt tag' h' q A B i f lv sv:=by
 have k:=K _ _ F.row (by rw[F.tq];exact hk.1);exact⟨k.1,k.2.trans F.tq,F.lo.keep K hk.2.1,F.st.keep K hk.2.2⟩
def MRG.mk2{Q:StP}{L:MLay}{tag tag':Nat->Nat}{ks:Nat->Prop}{sv fv dv cv sv' fv' dv' cv':AV}{vc vc':List AV}{p p':Proc}{h h':Hp}(H:MRG Q L tag sv fv dv cv vc p h)(K:Kp tag tag' ks h h')(h0:¬ks 0)(h1:¬ks 1)(st:Q.ok tag' h' p'.state sv')(fr:fX tag' 7 5 p'.frames.length (fun cs=>eh tag' h' 0 p'.frames cs) fv' h')(ds:fX tag' 2 3 p'.out.deeds.length (fun cs=>cs=cO p'.out.deeds) dv' h')(cs:fX tag' 3 3 p'.out.calls.length (fun cs=>eV tag' h' p'.out.calls cs) cv' h')(vo:VC p'.out.value vc')(so:p'.out.state=[]):
  h'[L.rm]? = some (fC L p sv fv dv cv vc)/\MRG Q L tag' sv' fv' dv' cv' vc' p' (h'.set L.rm (fC L p' sv' fv' dv' cv' vc')):=by
 have km:=K _ _ H.row (by rw[H.tm];exact h0);have ki:=K _ _ H.ri (by rw[H.ti];exact h1);have kf:=K _ _ H.rf (by rw[H.tf];exact h1);have tm:=km.2.trans H.tm;have ti:=ki.2.trans H.ti;have tf:=kf.2.trans H.tf;have hlt:L.rm<h'.length:=(Xx.1 km.1).1;have K':Kp tag' tag' (fun k=>k=0) h' (h'.set L.rm (fC L p' sv' fv' dv' cv' vc')):=W8 tm _;have ki':=K' _ _ ki.1 (by rw[ti];omega);have kf':=K' _ _ kf.1 (by rw[tf];omega);exact⟨km.1,XS hlt,tm,ki'.1,ti,kf'.1,tf,Q.keep K' ZL (fun j=>ZL) st,fr.keep K' ZL fun _ h=>h.keep K' fun j _ _=>ZN,
  ds.keep K' ZL fun _ h=>h,cs.keep K' ZL fun _ h=>h.keep K' ZL,vo,so⟩
def NR{L:MLay}{p:Proc}{sv fv dv cv x:AV}{vc:List AV}(h:vc.length=4):setCells (fC L p sv fv dv cv vc) 9 [x]=fC L p sv fv x cv vc:=by
 match vc,h with
 |[a,b,c,d],_=>rfl
def J3{L:MLay}{p:Proc}{sv fv dv cv x:AV}{vc:List AV}(h:vc.length=4):setCells (fC L p sv fv dv cv vc) 10 [x]=fC L p sv fv dv x vc:=by
 match vc,h with
 |[a,b,c,d],_=>rfl
theorem NQ{L:MLay}{p:Proc}{sv fv dv cv x:AV}{vc:List AV}:setCells (fC L p sv fv dv cv vc) 2 [x]=fC L p sv x dv cv vc:=rfl
def lW{L:MLay}{p:Proc}{sv fv dv cv:AV}{vc:List AV}(h:vc.length=4):(fC L p sv fv dv cv vc).length=15:=by
 match vc,h with
 |[a,b,c,d],_=>rfl
def MRG.deed{Q:StP}{L:MLay}{tag:Nat->Nat}{sv fv dv cv:AV}{vc:List AV}{p:Proc}{h:Hp}(H:MRG Q L tag sv fv dv cv vc p h){T:TT}{t e:Nat}{ti ei:TI}(ht:T t=some ti)(hk:ti.kind= .slice e)(he:T e=some ei)(h3:ei.size=3)(hag:ei.agg=true)(hb:0<ei.bytes)(d:Deed)(hc:(p.out.deeds.length+1)*ei.bytes<=140737488355328):
  ∃h1 tag' dv',appH T t false dv (.sl [d.av]) h= .ok dv' h1/\Kp tag tag' (fun k=>k=2) h h1/\bT 1 dv'=true/\aa dv'=[dv']/\h1[L.rm]? = some (fC L p sv fv dv cv vc)/\
   MRG Q L tag' sv fv dv' cv vc { p with out:={ p.out with deeds:=p.out.deeds++[d] } } (h1.set L.rm (fC L p sv fv dv' cv vc)):=by
 obtain⟨cs,tag',rfl,hl,happ,K,_,HS⟩:=fX.push ht hk he h3 ZM hag hb H.ds (x:=d.av) rfl hc
 have:=H.mk2 (p':={ p with out:={ p.out with deeds:=p.out.deeds++[d] } }) (sv':=sv) (fv':=fv) (cv':=cv) (vc':=vc) K ZL ZL (Q.keep K ZL (fun j=>ZL) H.st) (H.fr.keep K ZL fun _ h=>h.keep K fun j _ _=>ZN)
  (dv':=.hs h.length 0 (p.out.deeds.length+1) 3 true) (by
   simp_all[cO]) (H.cs.keep K ZL fun _ h=>h.keep K ZL) H.vo H.so
 exact⟨_,tag',_,happ,K,rfl,rfl,this.1,this.2⟩
def MRG.keep{Q:StP}{L:MLay}{tag tag':Nat->Nat}{ks:Nat->Prop}{sv fv dv cv:AV}{vc:List AV}{p:Proc}{h h':Hp}(H:MRG Q L tag sv fv dv cv vc p h)(K:Kp tag tag' ks h h')(hk:∀k,ks k->k=11+3*p.frames.length\/k=12+3*p.frames.length):MRG Q L tag' sv fv dv cv vc p h':=by
 have km:=K _ _ H.row (by rw[H.tm];grind);have ki:=K _ _ H.ri (by rw[H.ti];grind);have kf:=K _ _ H.rf (by rw[H.tf];grind);have n:∀k,k≠11+3*p.frames.length->k≠12+3*p.frames.length->¬ks k:=fun k h1 h2 hh=>ZN
 exact⟨km.1,km.2.trans H.tm,ki.1,ki.2.trans H.ti,kf.1,kf.2.trans H.tf,Q.keep K (n _ ZL ZL) (fun j=>n _ ZL ZL) H.st,
  H.fr.keep K (n _ ZL ZL) fun _ h=>h.keep K fun j _ hj=>⟨n _ ZL ZL,n _ ZL ZL⟩,H.ds.keep K (n _ ZL ZL) fun _ h=>h,H.cs.keep K (n _ ZL ZL) fun _ h=>h.keep K (n _ ZL ZL),H.vo,H.so⟩
def tw{T:TT}{t e:Nat}{ti ei:TI}(ht:T t=some ti)(hk:ti.kind= .slice e)(he:T e=some ei)(h4:ei.size=4)(hag:ei.agg=true)(hb:0<ei.bytes)(call:FuncId->List AV->M AV){tag:Nat->Nat}{k:Nat}{h:Hp}{l:List Val}{v:AV}(H:de tag k h l v)(hc:l.length*ei.bytes<=140737488355328)(kt:Nat):
  ∃h1 tag1 rv,cu T t call [v] h= .ok rv h1/\Kp tag tag1 (fun _=>False) h h1/\de tag1 kt h1 l rv:=by
 have emp:∀x:AV,(x= .hn\/x= .he)->cu T t call [x] h= .ok .he h:=by
  rintro x (rfl|rfl)
  ·show appH T t false .he (.sl []) h=_
   grind [appH,gb,iu,dk]
  ·show appH T t false .he (.sl []) h=_
   grind [appH,gb,iu,dk]
 rcases H with⟨h0,hv,hP⟩|⟨r,cs,rest,rfl,hr,hcs,hne,hl,hok,rfl⟩
 ·exact⟨h,tag,.he,emp v hv,fun r cs hr _=>⟨hr,rfl⟩,.inl ⟨h0,.inr rfl,hP⟩⟩
 ·have:=oT ht hk he h4 hag hb call hcs hok (k:=0) (n:=l.length) ZL hc
  rw[Zk]at this;by_cases h0:l.length=0
  ·rw[Xr h0]at this;exact⟨h,tag,.he,this,fun r cs hr _=>⟨hr,rfl⟩,.inl ⟨h0,.inr rfl,ZP⟩⟩
  ·rw[Xn h0,XG,Ze]at this;refine⟨_,_,_,this,Kp.new tag h _ kt,.inr ⟨h.length,aw l,[],rfl,ZO,ZO,?_,ZN,ZN,rfl⟩⟩
   grind
def MRG.call{Q:StP}{L:MLay}{tag:Nat->Nat}{sv fv dv cv:AV}{vc:List AV}{p:Proc}{h:Hp}(H:MRG Q L tag sv fv dv cv vc p h){T:TT}{t e:Nat}{ti ei:TI}(ht:T t=some ti)(hk:ti.kind= .slice e)(he:T e=some ei)(h3:ei.size=3)(hag:ei.agg=true)(hb:0<ei.bytes)(c:Call){av:AV}(ha:ze tag h c.args av)(hc:(p.out.calls.length+1)*ei.bytes<=140737488355328):
  ∃h1 tag' cv',appH T t false cv (.sl [.agg [.str c.module,.str c.func,av]]) h= .ok cv' h1/\Kp tag tag' (fun k=>k=3) h h1/\bT 1 cv'=true/\aa cv'=[cv']/\h1[L.rm]? = some (fC L p sv fv dv cv vc)/\
   MRG Q L tag' sv fv dv cv' vc { p with out:={ p.out with calls:=p.out.calls++[c] } } (h1.set L.rm (fC L p sv fv dv cv' vc)):=by
 have hav:ay av=true:=by
  rcases ha with rfl|ha
  ·rfl
  ·exact ha.okC
 obtain⟨cs,tag',hP,hl,happ,K,_,HS⟩:=fX.push ht hk he h3 ZM hag hb H.cs (x:=.agg [.str c.module,.str c.func,av]) (by
  show (_&&(ay (.str c.module)&&(ay (.str c.func)&&(ay av&&true))))=true;rw[hav];rfl) hc
 have hP':=hP.keep K ZL;have ha':=ha.keep K ZL
 have:=H.mk2 (p':={ p with out:={ p.out with calls:=p.out.calls++[c] } }) (sv':=sv) (fv':=fv) (dv':=dv) (vc':=vc) K ZL ZL (Q.keep K ZL (fun j=>ZL) H.st) (H.fr.keep K ZL fun _ h=>h.keep K fun j _ _=>ZN)
  (H.ds.keep K ZL fun _ h=>h) (cv':=.hs h.length 0 (p.out.calls.length+1) 3 true) (by
   have:=HS.mono (c':=fun cs=>eV tag' _ (p.out.calls++[c]) cs) (fun cs' h=>by rw[h];exact hP'.snoc ha')
   grind) H.vo H.so
 exact⟨_,tag',_,happ,K,rfl,rfl,this.1,this.2⟩
def MRG.frame{Q:StP}{L:MLay}{tag:Nat->Nat}{sv fv dv cv:AV}{vc:List AV}{p:Proc}{h:Hp}(H:MRG Q L tag sv fv dv cv vc p h){T:TT}{t e:Nat}{ti ei:TI}(ht:T t=some ti)(hk:ti.kind= .slice e)(he:T e=some ei)(h3:ei.size=5)(hag:ei.agg=true)(hb:0<ei.bytes)(f:Frm){lv stv:AV}(hl:de tag (11+3*p.frames.length) h f.locals lv)(hs:de tag (12+3*p.frames.length) h f.stack stv)(hc:(p.frames.length+1)*ei.bytes<=140737488355328):
  ∃h1 tag' fv',appH T t false fv (.sl [.agg (iO f lv stv)]) h= .ok fv' h1/\Kp tag tag' (fun k=>k=7) h h1/\bT 1 fv'=true/\aa fv'=[fv']/\h1[L.rm]? = some (fC L p sv fv dv cv vc)/\
   MRG Q L tag' sv fv' dv cv vc { p with frames:=p.frames++[f] } (h1.set L.rm (fC L p sv fv' dv cv vc)):=by
 obtain⟨cs,tag',hP,hll,happ,K,_,HS⟩:=fX.push ht hk he h3 ZM hag hb H.fr (x:=.agg (iO f lv stv)) (by
  show (_&&(ay (.str f.mod)&&(ay (.str f.fn)&&(ay (.int .i64 f.pc)&&(ay lv&&(ay stv&&true))))))=true;rw[hl.okC,hs.okC];rfl) hc
 have hP':=hP.keep K (fun j _ _=>ZN)
 have:=H.mk2 (p':={ p with frames:=p.frames++[f] }) (sv':=sv) (cv':=cv) (dv':=dv) (vc':=vc) K ZL ZL (Q.keep K ZL (fun j=>ZL) H.st) (fv':=.hs h.length 0 (p.frames.length+1) 5 true) (by
   have:=HS.mono (c':=fun cs=>eh tag' _ 0 (p.frames++[f]) cs) (fun cs' h=>by rw[h];exact hP'.snoc (by rw[XE];exact hl.keep K ZL) (by rw[XE];exact hs.keep K ZL))
   grind)
  (H.ds.keep K ZL fun _ h=>h) (H.cs.keep K ZL fun _ h=>h.keep K ZL) H.vo H.so
 exact⟨_,tag',_,happ,K,rfl,rfl,this.1,this.2⟩
mutual
theorem tH:(a:AV)->nu a a=true
 |.agg a=>by simp only[nu];exact iY a
 |.tup a=>by simp only[nu];exact iY a
 |.sl a=>by simp only[nu];exact iY a
 |.ip a=>by simp only[nu];exact iY a
 |.fn f a c=>by simp only[nu,iY a,iY c,XP,Ym]
 |.iface t a=>by simp only[nu,tH a,Nat.beq_refl,Ym]
 |.hp l o=>by grind [nu,Nat.beq_refl]
 |.hs l o n s g=>by simp_all[nu]
 |.any=>rfl
 |.bool a=>by simp only[nu,XR]
 |.int k a=>by simp_all[nu]
 |.str a=>by simp only[nu,XR]
 |.nilp=>rfl
 |.nilf=>rfl
 |.nili=>rfl
 |.hn=>rfl
 |.nilm=>rfl
 |.he=>rfl
 |.mp l=>by simp only[nu,Nat.beq_refl]
 |.nilb l=>by simp only[nu,Nat.beq_refl]
 |.it l=>by simp only[nu,Nat.beq_refl]
 |.byt t n=>by simp_all[nu]
theorem iY:(a:List AV)->qJ a a=true
 |[]=>rfl
 |a:: l=>by simp only[qJ,tH a,iY l,Ym]
end
theorem yM{m r:Nat}:∀(cs ds:List AV)(b:Nat),cs.length<=ds.length->(∀o,o<cs.length->(b+o) % m=r->cs[o]? = ds[o]?)->uR m r b cs ds=true
 |[],_,_,_,_=>rfl
 |_:: _,[],_,h,_=>by simp at h
 | c:: cs,d:: ds,b,h,hs=>by
  simp only[uR,Xq];refine⟨?_,yM cs ds (b+1) (by simpa using h) fun o ho hm=>?_⟩
  ·cases hb:Nat.beq (b % m) r with
   |false=>rfl
   |true=>
    grind [Nat.eq_of_beq_eq_true,List.getElem?_cons_zero,tH]
  ·have:=hs (o+1) (by simpa using ho) ZN
   grind
def FA(m r:Nat)(cs:List AV)(b:Nat):uR m r b cs cs=true:=yM cs cs b (Xt _) fun _ _ _=>rfl
theorem Ar{m r:Nat}:∀(h h':Hp),h.length<=h'.length->(∀(i:Nat)(cs ds:List AV),h[i]? = some cs->h'[i]? = some ds->uR m r 0 cs ds=true)->lh m r h h'=true
 |[],_,_,_=>rfl
 |_:: _,[],h,_=>by simp at h
 |c:: cs,d:: ds,h,hs=>by
  simp only[lh,Xq];exact⟨hs 0 c d rfl rfl,Ar cs ds (by simpa using h) fun i a b h1 h2=>hs (i+1) a b (by simpa using h1) (by simpa using h2)⟩
def Cr{h ext:Hp}{q:Nat}{A B:List AV}{f f':Frm}{lv sv sv':AV}(hq:h[q]? = some (A++iO f lv sv++B))(hA:A.length % 5=0)(h1:f'.mod=f.mod)(h2:f'.fn=f.fn)(h3:f'.pc=f.pc):
  lh 5 3 h ((h++ext).set q (A++iO f' lv sv'++B))=true:=by
 refine Ar _ _ ZO fun i cs ds g1 g2=>?_;have hi:i<h.length:=(Xx.1 g1).1;by_cases hiq:i=q
 ·subst hiq;rw[hq]at g1;rw[XS ZQ]at g2;simp only[Xm]at g1 g2;subst g1;subst g2;refine yM _ _ 0 (by simp[iO]) fun o ho hm=>?_;by_cases ha:o<A.length
  ·grind
  ·by_cases hb:o<A.length+5
   ·have:o=A.length+3:=ZL
    subst this;rw[Yd,Yd,XT (l₁:=A) ZL,XT (l₁:=A) ZL,Zb];rfl
   grind [iO]
 simp_all[Ne.symm,Yq,FA]
def Hn{m r:Nat}{x:M AV}{h h':Hp}{v:AV}(e:x h= .ok v h')(hk:lh m r h h'=true):ir m r x h= .ok v h':=by
 simp_all[ir]
def vE(tag:Nat->Nat)(h:Hp):List Vars->List AV->Prop
 |[],cs=>cs=[]
 |w:: l,cs=>∃av rest,cs= .str w.module:: av:: rest/\de tag 8 h w.values av/\vE tag h l rest
theorem vE.keep{tag tag':Nat->Nat}{ks:Nat->Prop}{h h':Hp}(K:Kp tag tag' ks h h')(hk:¬ks 8):{l:List Vars} ->{cs:List AV} ->vE tag h l cs->vE tag' h' l cs
 |[],_,H=>H
 |_:: _,_,⟨av,rest,h1,h2,h3⟩=>⟨av,rest,h1,h2.keep K hk,h3.keep K hk⟩
theorem vE.snoc{tag:Nat->Nat}{h:Hp}{w:Vars}{av:AV}(ha:de tag 8 h w.values av):{l:List Vars} ->{cs:List AV} ->vE tag h l cs->vE tag h (l++[w]) (cs++[.str w.module,av])
 |[],cs,H=>by cases H;exact⟨av,[],rfl,ha,rfl⟩
 |d:: l,_,⟨av',rest,h1,h2,h3⟩=>⟨av',rest++[.str w.module,av],by rw[h1];rfl,h2,vE.snoc ha h3⟩
theorem om.at2{tag:Nat->Nat}{h:Hp}:{i:Nat} ->{l:List Vars} ->{cs:List AV} ->om tag h i l cs->∀(j:Nat)(w:Vars),l[j]? = some w->∃av,(cs.drop (j*2)).take 2=[.str w.module,av]/\de tag (10+3*(i+j)) h w.values av
 |_,[],_,_,j,w,hj=>by simp at hj
 | i,_:: _,_,⟨av,rest,h1,h2,h3⟩,j,w,hj=>by
  subst h1;cases j with
  |zero=>grind
  |succ j=>
   obtain⟨av',g1,g2⟩:=h3.at2 j w (by simpa using hj)
   grind
structure EQ (L:MLay) (tag:Nat->Nat) (row:List AV) (sv dv cv:AV) (p:Proc) (h:Hp):Prop where
 row:h[L.rm]? = some row
 tm:tag L.rm=0
 st:fX tag 5 2 p.state.length (fun cs=>om tag h 0 p.state cs) sv h
 ds:fX tag 2 3 p.out.deeds.length (fun cs=>cs=cO p.out.deeds) dv h
 cs:fX tag 3 3 p.out.calls.length (fun cs=>eV tag h p.out.calls cs) cv h
def MRG.eq{L:MLay}{tag:Nat->Nat}{sv fv dv cv:AV}{vc:List AV}{p:Proc}{h:Hp}(H:MR L tag sv fv dv cv vc p h):EQ L tag (fC L p sv fv dv cv vc) sv dv cv p h:=⟨H.row,H.tm,H.st,H.ds,H.cs⟩
def EQ.keep{L:MLay}{tag tag':Nat->Nat}{ks:Nat->Prop}{row:List AV}{sv dv cv:AV}{p:Proc}{h h':Hp}(H:EQ L tag row sv dv cv p h)(K:Kp tag tag' ks h h')(hk:∀k,ks k->k=9):EQ L tag' row sv dv cv p h':=by
 have n:∀k,k≠9->¬ks k:=fun k h1 hh=>h1 (hk _ hh);have km:=K _ _ H.row (by rw[H.tm];grind);exact⟨km.1,km.2.trans H.tm,H.st.keep K (n _ ZL) fun _ h=>h.keep K fun j=>n _ ZL,H.ds.keep K (n _ ZL) fun _ h=>h,H.cs.keep K (n _ ZL) fun _ h=>h.keep K (n _ ZL)⟩
def EQ.set{L:MLay}{tag:Nat->Nat}{row:List AV}{sv dv cv:AV}{p:Proc}{h:Hp}(H:EQ L tag row sv dv cv p h)(row':List AV):EQ L tag row' sv dv cv p (h.set L.rm row'):=by
 have hlt:L.rm<h.length:=(Xx.1 H.row).1;have K:Kp tag tag (fun k=>k=0) h (h.set L.rm row'):=W8 H.tm _;exact⟨XS hlt,H.tm,H.st.keep K ZL fun _ h=>h.keep K ZL,H.ds.keep K ZL fun _ h=>h,H.cs.keep K ZL fun _ h=>h.keep K ZL⟩
def EQ.store{L:MLay}{tag:Nat->Nat}{row:List AV}{sv dv cv:AV}{p:Proc}{h:Hp}(H:EQ L tag row sv dv cv p h){T:TT}{t:Nat}{ti:TI}(ht:T t=some ti){k:Nat}{x:AV}(hx:bT ti.size x=true)(hl:k+ti.size<=row.length)(hp:0<ti.size){row':List AV}(hr:setCells row k (aa x)=row'):
  bU T t (.hp L.rm k) x h= .ok (.tup []) (h.set L.rm row')/\EQ L tag row' sv dv cv p (h.set L.rm row'):=by
 rw[bX ht H.row hx hl hp,hr];exact⟨rfl,H.set row'⟩
def vO(L:MLay)(p:Proc)(sv dv cv ov:AV):List AV:=[mods p.mods,sv,.sl [],ints p.world,.int .i64 p.out.err]++aa p.out.value.av++[dv,cv,ov,.bool true,.mp L.ri,.mp L.rf]
def IV(L:MLay)(p:Proc)(h:Hp):Prop:=∃tag sv dv cv ov,EQ L tag (vO L p sv dv cv ov) sv dv cv p h/\fX tag 9 2 p.out.state.length (fun cs=>vE tag h p.out.state cs) ov h/\p.ended=true/\p.frames=[]
structure HtOk (C:List Ins) (hl:List Int):Prop where
 len:hl.length=C.length
 ne:C≠[]
 zero:hl[0]! = 0
 lo:∀k,k<C.length->hl[k]! <=C.length
 ins:∀k,k<C.length->0<=hl[k]! ->(aF C[k]!).1<=hl[k]! /\(C[k]!.op=18->hl[k]! = 1)/\∀v∈gk C[k]! k,(0<=v/\v<C.length)/\hl[v.toNat]! = hl[k]! - (aF C[k]!).1+(aF C[k]!).2
 ge:∀k,k<C.length->-1<=hl[k]!
def CH{loc:Int}{C:List Ins}{i:Ins}(h:bG C.length loc i=true){k:Nat}(hk:k<C.length):∀v∈gk i k,0<=v/\v<=C.length:=by
 intro v hv;unfold gk at hv;split at hv
 ·cases hv
 split at hv
 ·grind [bG]
 split at hv
 ·rename_i h11;simp[bG,h11]at h
  grind
 grind
theorem Cm{n k:Nat}{nd gv:Int}(hk:k<n):∀(nx hl td:List Int){hl' td':List Int},hl.length=n->0<=hl[k]! ->0<=hl[k]! - nd+gv->(∀v∈nx,0<=v/\v<=n)->kc n k nd gv nx hl td=some (hl',td')->
  hl'.length=n/\(∀j,j<n->0<=hl[j]! ->hl'[j]! = hl[j]!)/\(∀v∈nx,v<n/\hl'[v.toNat]! = hl[k]! - nd+gv)/\(∀j,j<n->0<=hl'[j]! ->0<=hl[j]! \/(j:Int)∈td')/\∀x∈td,x∈td'
 |[],hl,td,hl',td',H,_,_,_,e=>by
  simp only[kc,Xm,Yj]at e
  grind
 | v :: nx,hl,td,hl',td',H,h0,h1,hx,e=>by
  have hv:=hx v ZO;simp only[kc]at e;split at e
  ·cases e
  ·rename_i hne;have hvn:v.toNat<n:=ZL
   have hvl:v.toNat<hl.length:=by rw[H];exact hvn
   have hkl:k<hl.length:=by rw[H];exact hk
   split at e
   ·rename_i hneg;have hkv:¬v.toNat=k:=fun e=>ZN
    have ek:(hl.set v.toNat (hl[k]! - nd+gv))[k]! = hl[k]!:=by rw[lP hvl hkl,Xn hkv]
    obtain⟨i1,i2,i3,i4,i5⟩:=Cm hk nx (hl.set v.toNat (hl[k]! - nd+gv)) _ (by simpa using H) ZN ZN (fun x h=>hx x (by simp[h])) e;rw[ek]at i3;have ev:(hl.set v.toNat (hl[k]! - nd+gv))[v.toNat]! = hl[k]! - nd+gv:=by rw[lP hvl hvl,Xr rfl]
    refine⟨i1,fun j hj hp=>?_,fun x hxx=>?_,fun j hj hp=>?_,fun x hxx=>i5 x (by simp[hxx])⟩
    ·have hjv:¬v.toNat=j:=fun e=>ZN
     grind
    ·rcases XZ.1 hxx with rfl|hxx
     all_goals simp_all
    ·rcases i4 j hj hp with h|h
     ·by_cases hjv:v.toNat=j
      ·grind
      grind
     ·exact .inr h
   ·rename_i hpos;split at e
    ·cases e
    ·rename_i heq;obtain⟨i1,i2,i3,i4,i5⟩:=Cm hk nx hl td H h0 h1 (fun x h=>hx x (by simp[h])) e
     grind
def F7(C:List Ins)(hl:List Int)(k:Nat):Prop:=(aF C[k]!).1<=hl[k]! /\(C[k]!.op=18->hl[k]! = 1)/\∀v∈gk C[k]! k,(0<=v/\v<C.length)/\hl[v.toNat]! = hl[k]! - (aF C[k]!).1+(aF C[k]!).2
theorem Eb{loc:Int}{C:List Ins}(hf:∀i∈C,bG C.length loc i=true):∀(f:Nat)(hl td:List Int){hl':List Int},HInv C.length hl->(∀v∈td,(0<=v/\v<C.length)/\0<=hl[v.toNat]!)->(∀k,k<C.length->0<=hl[k]! ->(k:Int)∈td\/F7 C hl k)->q7 C f hl td=some hl'->
  HInv C.length hl'/\(∀k,k<C.length->0<=hl[k]! ->hl'[k]! = hl[k]!)/\∀k,k<C.length->0<=hl'[k]! ->F7 C hl' k
 |0,_,_,_,_,_,_,e=>by cases e
 |f+1,hl,[],hl',H,_,hd,e=>by
  simp only[q7,Xm]at e
  grind
 | f + 1, hl,v:: td,hl',H,ht,hd,e=>by
  obtain⟨hv,hp⟩:=ht v ZO;obtain⟨k,rfl⟩:∃k:Nat,v=(k:Int):=⟨v.toNat,ZL⟩;have hk:k<C.length:=ZL
  rw[Xw]at hp;simp only[q7,Xw]at e;have hmem:C[k]! ∈C:=by rw[Xv C k hk];exact XB hk
  have hfk:=hf _ hmem;have hnb:=gh hfk;have hxb:=CH hfk hk;split at e
  ·cases e
  ·rename_i hc;rw[not_or]at hc;split at e
   ·cases e
   ·rename_i a b hst;have hpos:0<=hl[k]! - (aF C[k]!).1+(aF C[k]!).2:=ZL
    obtain⟨s1,s2,s3,s4,s5⟩:=Cm hk _ _ _ H.len hp hpos hxb hst;obtain⟨w1,_,w3⟩:=qp hk hnb.1 hnb.2.2.1 hnb.2.2.2 _ _ _ H ZL hxb (fun v hv=>(ht v (by simp[hv])).1) hst;have ekk:=s2 k hk hp;have hdk:F7 C a k:=⟨by rw[ekk];omega,fun h=>ZN,fun v hv=>⟨⟨(hxb v hv).1,(s3 v hv).1⟩,ZN⟩⟩
    have hback:∀v∈b,0<=a[v.toNat]!:=by
     have key:∀(nx hl td hl' td':List Int),hl.length=C.length->0<=hl[k]! ->(∀v∈nx,0<=v/\v<=C.length)->0<=hl[k]! - (aF C[k]!).1+(aF C[k]!).2->kc C.length k (aF C[k]!).1 (aF C[k]!).2 nx hl td=some (hl',td')->(∀v∈td,(0<=v/\v<C.length)/\0<=hl[v.toNat]!)->∀v∈td',0<=hl'[v.toNat]!:=by
      intro nx
      induction nx with
      |nil=>
       intro hl td hl' td' _ _ _ _ e h;simp only[kc,Xm,Yj]at e
       grind
      | cons w nx ih=>
       intro hl td hl' td' H h0 hx h1 e h;have hw:=hx w ZO;simp only[kc]at e;split at e
       ·cases e
       ·rename_i hne;have hwl:w.toNat<hl.length:=ZL
        have hkl:k<hl.length:=ZL
        split at e
        ·rename_i hneg;have hkv:¬w.toNat=k:=fun e=>ZN
         have ek:(hl.set w.toNat (hl[k]! - (aF C[k]!).1+(aF C[k]!).2))[k]! = hl[k]!:=by rw[lP hwl hkl,Xn hkv]
         refine ih _ _ _ _ (by simpa using H) ZN (fun x hh=>hx x (by simp[hh])) ZN e fun x hxx=>?_;rcases X8.1 hxx with hxx|hxx
         ·refine⟨(h x hxx).1,?_⟩;rw[lP hwl (by have:=(h x hxx).1;omega)];split
          all_goals grind
         ·rw[Yk]at hxx;subst hxx;exact⟨ZL,ZN⟩
        ·split at e
         ·cases e
         ·exact ih _ _ _ _ H h0 (fun x hh=>hx x (by simp[hh])) h1 e h
     exact key _ _ _ _ _ H.len hp hxb hpos hst (fun v hv=>ht v (by simp[hv]))
    obtain⟨i1,i2,i3⟩:=Eb hf f a b w1 (fun v hv=>⟨w3 v hv,hback v hv⟩) (fun j hj hjp=>by
     by_cases hjk:j=k
     ·grind
     ·rcases s4 j hj hjp with h|h
      ·rcases hd j hj h with h2|h2
       ·rcases XZ.1 h2 with h2|h2
        ·exact absurd ZL hjk
        ·exact .inl (s5 _ h2)
       ·have ej:=s2 j hj h;refine .inr ⟨by rw[ej];exact h2.1,fun h=>by rw[ej];exact h2.2.1 h,fun v hv=>?_⟩;obtain⟨q1,q2⟩:=h2.2.2 v hv;have hb:=gh (hf C[j]! (by rw[Xv C j hj];exact XB hj));exact⟨q1,by rw[s2 v.toNat ZL (by rw[q2];have:=h2.1;omega),q2,ej]⟩
      ·exact .inl h) e
    refine⟨i1,fun j hj h=>?_,i3⟩
    have:=s2 j hj h
    rw[i2 j hj (by rw[this];exact h),this]
def iE{c:Cod}{hl:List Int}(h:dj c=some hl):HtOk c.code hl/\pd c=true/\∀i∈c.code,bG c.code.length c.locals i=true:=by
 unfold dj at h;split at h
 ·rename_i hc;have hf:=XF.1 hc.2;have hne:c.code≠[]:=by
   have:=hc.1
   unfold pd at this;simp only[Xq,Xp]at this;exact this.2
  have hpos:0<c.code.length:=Yl.2 hne;have hg:∀j,j<c.code.length->(0:: List.replicate (c.code.length-1) (-1:Int))[j]! = if j=0 then 0 else -1:=by
   intro j hj;rw[Xv _ _ ZQ];cases j with
   |zero=>rfl
   |succ j=>simp
  have hH:HInv c.code.length (0:: List.replicate (c.code.length-1) (-1)):=by
   refine⟨by simp;omega,fun j hj=>by rw[hg j hj];split<;>omega,fun j hj=>?_⟩;have:qV (0:: List.replicate (c.code.length-1) (-1))=c.code.length-1:=by
    unfold qV;rw[List.countP_cons,List.countP_replicate];simp
   rw[this,hg j hj];split<;>omega
  obtain⟨i1,i2,i3⟩:=Eb hf _ _ _ hH (fun v hv=>by
   rw[Yk]at hv;subst hv;exact⟨ZL,by rw[show (0:Int).toNat=0 from rfl,hg 0 hpos];simp⟩) (fun k hk hp=>by
   rw[hg k hk]at hp;split at hp
   ·rename_i h0;exact .inl (by simp[h0])
   ·omega) h
  have h00:=hg 0 hpos;refine⟨⟨i1.len,hne,by rw[i2 0 hpos (by rw[h00];simp),h00];rfl,fun k hk=>?_,fun k hk hp=>i3 k hk hp,i1.lo⟩,hc.1,hf⟩
  have:=i1.hi k hk
  omega
 ·cases h
theorem wV{α:Type}(F:α->Bool):∀(l:List α)(i:Int),0<=i->0<=aY F l i->∃(k:Nat)(hk:k<l.length),aY F l i=i+k/\F l[k]=true
 |[],i,_,h=>by simp[aY]at h
 | x:: l,i,hi,h=>by
  by_cases hx:F x=true
  ·exact⟨0,ZO,by simp[aY,hx],hx⟩
  ·have e:aY F (x:: l) i=aY F l (i+1):=by simp[aY,hx]
   rw[e]at h|-;obtain⟨k,hk,h1,h2⟩:=wV F l (i+1) ZL h;exact⟨k+1,by simpa using hk,ZL,h2⟩
def tY{p:List Mod}{a:Int}{s:aW}{f:Fun}(h:lO p a s=some f):f.name=s:=by
 unfold lO at h;split at h
 ·cases h
 ·simp only at h;split at h
  ·cases h
  ·rename_i h2;obtain⟨k,hk,h3,h4⟩:=wV (fun f:Fun=>f.name== s) _ 0 ZL (show 0<=mU (p[a.toNat]?.getD default).funcs s by omega)
   grind [mU]
structure FncOk (p:List Mod) (s t:aW) (x:Fnc):Prop where
 at_:x.at_=dD p s
 ge:¬dD p s<0
 lt:(dD p s).toNat<p.length
 fn:∃f,lO p (dD p s) t=some f/\f∈(p[(dD p s).toNat]?.getD default).funcs/\x.cod=dn (p[(dD p s).toNat]?.getD default).vars f/\x.pub=f.pub/\f.name=t
 name:x.cod.func=t
 hgt:dj x.cod=some x.hts
def lp{p:List Mod}{s t:aW}{x:Fnc}(h:fh p s t=some x):FncOk p s t x:=by
 unfold fh at h;split at h
 ·cases h
 ·rename_i f hf;split at h
  ·cases h
  ·rename_i hl hh;cases h;obtain⟨f1,f2,f3⟩:=pb hf;exact⟨rfl,f1,f2,⟨f,hf,f3,rfl,rfl,tY hf⟩,tY hf,hh⟩
theorem iU(p:List Mod):∀(l:List Frm)(f:Frm)(nx:Option Frm),eF p (l++[f]) nx=(eF p l (some f)&&iZ p f nx)
 |[],f,nx=>by simp[eF]
 |g:: l,f,nx=>by
  rw[Yi,eF,iU p l f nx,eF]
  grind
theorem ml(p:List Mod):∀(l:List Frm){f g:Frm},f.mod=g.mod->f.fn=g.fn->eF p l (some f)=eF p l (some g)
 |[],_,_,_,_=>rfl
 |[x],f,g,h1,h2=>by simp[eF,iZ,h1,h2]
 |x:: y:: l,f,g,h1,h2=>by
  have:=ml p (y:: l) h1 h2
  simp_all[eF]
def ic{l:List Val}{n:Int}:fp l n=true↔(l.length:Int)=n/\∀v∈l,Rv v:=by
 simp_all[fp]
structure TopOk (p:List Mod) (f:Frm) (x:Fnc):Prop where
 fnc:fh p f.mod f.fn=some x
 pc:0<=f.pc/\f.pc<x.cod.code.length
 loc:(f.locals.length:Int)=x.cod.locals/\∀v∈f.locals,Rv v
 h0:0<=x.hts[f.pc.toNat]!
 stk:(f.stack.length:Int)=x.hts[f.pc.toNat]! /\∀v∈f.stack,Rv v
theorem rn{p:List Mod}{f:Frm}:iZ p f none=true↔∃x,TopOk p f x:=by
 unfold iZ;constructor
 ·intro h;split at h
  ·cases h
  ·rename_i x hx;simp only[Xq,Xp,ic]at h;exact⟨x,hx,h.1.1,h.1.2,h.2.1,h.2.2⟩
 ·rintro⟨x,h1,h2,h3,h4,h5⟩;rw[h1];simp only[Xq,Xp,ic]
  grind
structure MidOk (p:List Mod) (f g:Frm) (x:Fnc):Prop where
 fnc:fh p f.mod f.fn=some x
 pc:0<=f.pc/\f.pc<x.cod.code.length
 loc:(f.locals.length:Int)=x.cod.locals/\∀v∈f.locals,Rv v
 ne:f.pc≠0
 stk:(f.stack.length:Int)=x.hts[f.pc.toNat]! - 1/\∀v∈f.stack,Rv v
 op:x.cod.code[(f.pc-1).toNat]!.op=14
 own:vU x.cod.code[(f.pc-1).toNat]!.m f.mod=g.mod
 fn:x.cod.code[(f.pc-1).toNat]!.s=g.fn
def Cz{p:List Mod}{f g:Frm}:iZ p f (some g)=true↔∃x,MidOk p f g x:=by
 unfold iZ;constructor
 ·intro h;split at h
  ·cases h
  ·rename_i x hx;simp only[Xq,Xp,ic]at h;exact⟨x,hx,h.1.1,h.1.2,h.2.1.1,h.2.1.2,h.2.2.1.1,h.2.2.1.2,h.2.2.2⟩
 ·rintro⟨x,h1,h2,h3,h4,h5,h6,h7,h8⟩;rw[h1];simp only[Xq,Xp,ic]
  grind
structure InsOk (f:Frm) (x:Fnc) (i:Ins):Prop where
 form:bG x.cod.code.length x.cod.locals i=true
 need:(aF i).1<=f.stack.length
 ret:i.op=18->f.stack.length=1
 next:∀v∈gk i f.pc,(0<=v/\v<x.cod.code.length)/\0<=x.hts[v.toNat]! /\x.hts[v.toNat]! = f.stack.length-(aF i).1+(aF i).2
def TopOk.ins{p:List Mod}{f:Frm}{x:Fnc}(H:TopOk p f x):InsOk f x x.cod.code[f.pc.toNat]!:=by
 obtain⟨h1,h2,h3⟩:=iE (lp H.fnc).hgt;have hk:f.pc.toNat<x.cod.code.length:=by have:=H.pc;omega
 obtain⟨a1,a2,a3⟩:=h1.ins _ hk H.h0;have hf:=h3 x.cod.code[f.pc.toNat]! ZN;have hb:=gh hf;have e:((f.pc.toNat:Nat):Int)=f.pc:=Int.toNat_of_nonneg H.pc.1;rw[e]at a3;exact⟨hf,by rw[H.stk.1];exact a1,fun h=>by have:=a2 h;have:=H.stk.1;omega,fun v hv=>⟨(a3 v hv).1,ZN,by rw[(a3 v hv).2,H.stk.1]⟩⟩
def Xj{p:List Mod}{f:Frm}{x:Fnc}(H:TopOk p f x){v:Int}(hv:v∈gk x.cod.code[f.pc.toNat]! f.pc){g:Frm}(h1:g.mod=f.mod)(h2:g.fn=f.fn)(h3:g.pc=v)(h4:g.locals.length=f.locals.length)(h5:∀v∈g.locals,Rv v)(h6:(g.stack.length:Int)=f.stack.length-(aF x.cod.code[f.pc.toNat]!).1+(aF x.cod.code[f.pc.toNat]!).2)(h7:∀v∈g.stack,Rv v):TopOk p g x:=by
 obtain⟨a1,a2,a3⟩:=H.ins.next v hv;exact⟨by rw[h1,h2];exact H.fnc,ZN,⟨by rw[h4];exact H.loc.1,h5⟩,ZN,by rw[h3,h6,a3],h7⟩
def zO{p:List Mod}{s t:aW}{x:Fnc}(hx:fh p s t=some x){args:List Val}(ha:fp args x.cod.params=true):TopOk p ⟨s,x.cod.func,0,args++List.replicate (x.cod.locals.toNat-args.length) (cp 0),[]⟩ x:=by
 obtain⟨h1,h2,h3⟩:=iE (lp hx).hgt;obtain⟨a1,a2⟩:=ic.1 ha;unfold pd at h2;simp only[Xq,Xp]at h2;obtain⟨⟨⟨⟨_,b2⟩,b3⟩,b4⟩,b5⟩:=h2;have hpos:=Yl.2 b5;refine⟨by rw[(lp hx).name];exact hx,⟨Zo 0,ZN⟩,⟨ZN,fun v hv=>?_⟩,by show 0<=x.hts[0]!;rw[h1.zero];grind,by show ((0:Nat):Int)=x.hts[0]!;rw[h1.zero];rfl,fun v hv=>by cases hv⟩
 grind [fB]
theorem Di:(l:List aW)->oR eE l=true->asc l=true
 |[],_=>rfl
 |[_],_=>rfl
 |x:: y:: l,h=>by
  simp only[oR,Xq]at h;simp only[asc,Xq];exact⟨(ta x y).1 h.1,Di (y:: l) h.2⟩
def nj{l:List Val}(h:∀v∈l,Rv v)(k:Nat):∀v∈l.take k,Rv v:=fun v hv=>h v (List.mem_of_mem_take hv)
def zl{l:List Val}{x:Val}(h:∀v∈l,Rv v)(hx:Rv x):∀v∈l++[x],Rv v:=fun v hv=>by
 grind
def nz{l:List Val}{k:Nat}(hk:k<l.length):l[k]! ∈l:=ZN
def Ob{i:Ins}{len loc:Int}(hf:bG len loc i=true)(ho:i.op=12){vs:List Val}(hl:vs.length=i.names.length)(hv:∀v∈vs,Rv v)(h4:dL (.mk 2 0 i.names vs)<=4):Rv (.mk 2 0 i.names vs):=by
 have hn:jM i.names=true:=by
  simp[bG,ho]at hf;exact hf.1.1.1
 simp only[jM,Xq,Xp]at hn
 grind [xr,Di]
def BI{op:Int}{a b v:Val}(h:BH op a b=some v):Rv v:=by
 grind [BH,fB,dE]
structure Keeps (p q:Proc):Prop where
 mods:q.mods=p.mods
 st:eD p.mods q.state=true
 ended:q.ended=p.ended
 out:q.out.err=p.out.err/\q.out.value=p.out.value/\q.out.state=p.out.state
def Keeps.refl{p:Proc}(h:eD p.mods p.state=true)(l:List Frm):Keeps p { p with frames:=l }:=⟨rfl,h,rfl,rfl,rfl,rfl⟩
theorem rD{α β:Type}{F:α->β->Bool}:∀ {l:List α} {r:List β} {i:Nat} {g:β->β},iT F l r=true->(∀x y,F x y=true->F x (g y)=true)->iT F l (r.modify i g)=true
 |[],[],i,g,_,_=>by cases i<;>rfl
 |x:: l,y:: r,0,g,h,hg=>by
  simp_all[iT]
 |x:: l,y:: r,i+1,g,h,hg=>by
  simp only[iT,Xq]at h;simp only[List.modify_succ_cons,iT,Xq];exact⟨h.1,rD h.2 hg⟩
 |[],_:: _,_,_,h,_=>by simp[iT]at h
 |_:: _,[],_,_,h,_=>ZN
def zw{p:List Mod}{st:List Vars}(h:eD p st=true)(i k:Nat){v:Val}(hv:Rv v):eD p (st.modify i fun w=>{ w with values:=w.values.set k v })=true:=by
 unfold eD at h|-;refine rD h fun m w hw=>?_
 grind
def FL{p:List Mod}{st:List Vars}(h:eD p st=true){i k:Nat}(hk:k<(st[i]?.getD default).values.length):Rv (st[i]?.getD default).values[k]!:=by
 obtain⟨h1,h2,h3⟩:=ll h;cases hs:st[i]? with
 |none=>rw[hs]at hk;exact absurd hk (Nat.not_lt_zero _)
 |some w=>
  grind
def zJ{p q:Proc}{fs:List Frm}{f:Frm}{x:Fnc}(hb:eD p.mods p.state=true)(hc:eF p.mods fs (some f)=true)(hl:fs.length+1<=60)(H:TopOk p.mods f x)(h18:x.cod.code[f.pc.toNat]!.op≠18)(e:mS p fs { f with pc:=f.pc+1 } x.cod.code[f.pc.toNat]! = .ok q):Keeps p q/\q.frames≠[]/\q.frames.length<=60/\iD p.mods q.frames=true:=by
 have I:=H.ins;have hgo:=@Xj p.mods f x H;obtain⟨i,hi⟩:∃i,x.cod.code[f.pc.toNat]! = i:=⟨_,rfl⟩;rw[hi]at I e h18 hgo;have hs:=H.stk.2;have hnx:i.op≠10->f.pc+1∈gk i f.pc:=fun h=>by
  unfold gk
  grind
 -- frames that go on
 have fin:∀g:Frm,g.mod=f.mod->g.fn=f.fn->TopOk p.mods g x->fs++[g]≠[]/\(fs++[g]).length<=60/\iD p.mods (fs++[g])=true:=fun g h1 h2 h3=>by
  refine⟨ZO,by simp;omega,?_⟩;unfold iD;rw[iU,Xq]
  grind [ml,rn]
 have last:0<f.stack.length->Rv f.stack[f.stack.length-1]!:=fun h=>hs _ (nz ZL)
 -- a value pushed in place of some
 have push:∀(k:Nat)(v:Val),i.op≠10->(aF i).1=k->(aF i).2=1->Rv v->TopOk p.mods { f with pc:=f.pc+1,stack:=f.stack.take (f.stack.length-k)++[v] } x:=fun k v h1 h2 h3 h4=>by
  have:=I.need
  exact hgo (hnx h1) rfl rfl rfl rfl H.loc.2 ZN (zl (nj hs _) h4)
 have K0:∀g:Frm,Keeps p { p with frames:=fs++[g] }:=fun g=>Keeps.refl hb _;unfold mS at e;simp only at e;by_cases o0:i.op=0
 ·rw[Xr o0]at e;cases e;exact⟨K0 _,fin _ rfl rfl (push 0 _ ZL (by simp[aF,o0]) (by simp[aF,o0]) (fB _))⟩
 rw[Xn o0]at e;by_cases o1:i.op=1
 ·rw[Xr o1]at e;cases e;exact⟨K0 _,fin _ rfl rfl (push 0 _ ZL (by simp[aF,o1]) (by simp[aF,o1]) (dE _))⟩
 rw[Xn o1]at e;by_cases o2:i.op=2
 ·rw[Xr o2]at e;cases e;have hf:=I.form;simp[bG,o2]at hf;have hlo:=H.loc.1;exact⟨K0 _,fin _ rfl rfl (push 0 _ ZL (by simp[aF,o2]) (by simp[aF,o2]) (H.loc.2 _ (nz ZL)))⟩
 rw[Xn o2]at e;by_cases o3:i.op=3
 ·rw[Xr o3]at e;cases e;have hn:(aF i).1=1/\(aF i).2=0:=by simp[aF,o3]
  have:=I.need
  refine⟨K0 _,fin _ rfl rfl (hgo (hnx ZL) rfl rfl rfl ZO (fun v hv=>?_) ZN (nj hs _))⟩;rcases Zx hv with hv|rfl
  ·exact H.loc.2 v hv
  grind
 rw[Xn o3]at e;by_cases o19:i.op=19
 ·rw[Xr o19]at e;cases e;have hn:(aF i).1=1/\(aF i).2=0:=by simp[aF,o19]
  have:=I.need
  exact⟨K0 _,fin _ rfl rfl (hgo (hnx ZL) rfl rfl rfl rfl H.loc.2 ZN (nj hs _))⟩
 rw[Xn o19]at e;by_cases o10:i.op=10
 ·rw[Xr o10]at e;cases e;have hn:(aF i).1=0/\(aF i).2=0:=by simp[aF,o10]
  exact⟨K0 _,fin _ rfl rfl (hgo (v:=i.a) (by simp[gk,o10]) rfl rfl rfl rfl H.loc.2 ZN hs)⟩
 rw[Xn o10]at e;by_cases o11:i.op=11
 ·rw[Xr o11]at e;have hn:(aF i).1=1/\(aF i).2=0:=by simp[aF,o11]
  have:=I.need
  split at e
  ·cases e;refine⟨K0 _,fin _ rfl rfl (hgo (v:=if f.stack[f.stack.length-1]!.n=0 then i.a else f.pc+1) ?_ rfl rfl rfl rfl H.loc.2 ZN (nj hs _))⟩;unfold gk;rw[Xn h18,Xn o10,Xr o11];split<;>simp
  ·cases e
 rw[Xn o11]at e;by_cases o12:i.op=12
 ·rw[Xr o12]at e;have hn:(aF i).1=i.names.length/\(aF i).2=1:=by simp[aF,o12]
  have:=I.need
  split at e
  ·rename_i h4;cases e;exact⟨K0 _,fin _ rfl rfl (push _ _ o10 hn.1 hn.2 (Ob I.form o12 (by rw[ZE];omega) (fun v hv=>hs v (YP hv)) h4))⟩
  ·cases e
 rw[Xn o12]at e;by_cases o14:i.op=14
 ·rw [Xr o14]at e;have hn:(aF i).1=i.a/\(aF i).2=1:=by simp[aF,o14]
  have hneed:=I.need;have hb0:=(gh I.form).1;split at e
  ·cases e
  ·rename_i y hy;split at e
   ·cases e
   ·split at e
    ·cases e
    ·rename_i hpar;split at e
     ·cases e
     ·rename_i hfull;cases e;have hargs:fp (f.stack.drop (f.stack.length-i.a.toNat)) y.cod.params=true:=ic.2 ⟨by rw[ZE];omega,fun v hv=>hs v (YP hv)⟩;have T:=zO hy hargs;refine⟨⟨rfl,hb,rfl,rfl,rfl,rfl⟩,by simp[FV],by simp[FV];omega,?_⟩;show iD p.mods ((fs++[_])++[_])=true;unfold iD;rw[iU,Xq];refine⟨?_,rn.2 ⟨y,T⟩⟩;rw[iU,Xq];refine⟨(ml p.mods fs (f:={ f with pc:=f.pc+1,stack:=f.stack.take (f.stack.length-i.a.toNat) }) (g:=f) rfl rfl).trans hc,Cz.2 ⟨x,H.fnc,?_,H.loc,by have:=H.pc;grind,?_,?_,?_,?_⟩⟩
      ·obtain⟨a1,_,_⟩:=I.next _ (hnx o10);exact a1
      ·obtain⟨a1,a2,a3⟩:=I.next _ (hnx o10);refine⟨?_,nj hs _⟩;simp only[YR];omega
      ·grind
      ·grind
      ·show x.cod.code[(f.pc+1-1).toNat]!.s=_;rw[Int.add_sub_cancel,hi];exact (lp hy).name.symm
 rw[Xn o14]at e;by_cases o16:i.op=16
 ·rw[Xr o16]at e;have hf:=I.form;simp[bG,o16]at hf;split at e
  ·rename_i hlt;cases e;exact⟨K0 _,fin _ rfl rfl (push 0 _ o10 (by simp[aF,o16]) (by simp[aF,o16]) (FL hb ZL))⟩
  ·cases e
 rw[Xn o16]at e;by_cases o17:i.op=17
 ·rw[Xr o17]at e;have hn:(aF i).1=1/\(aF i).2=1:=by simp[aF,o17]
  have:=I.need
  split at e
  ·cases e;exact⟨⟨rfl,zw hb _ _ (last ZL),rfl,rfl,rfl,rfl⟩,fin _ rfl rfl (hgo (hnx o10) rfl rfl rfl rfl H.loc.2 ZN hs)⟩
  ·cases e
 rw[Xn o17]at e;by_cases o9:i.op=9
 ·rw[Xr o9]at e;have hn:(aF i).1=1/\(aF i).2=1:=by simp[aF,o9]
  split at e
  ·cases e;exact⟨K0 _,fin _ rfl rfl (push 1 _ o10 hn.1 hn.2 (dE _))⟩
  ·cases e
 rw[Xn o9]at e;by_cases o13:i.op=13
 ·rw[Xr o13]at e;have hn:(aF i).1=1/\(aF i).2=1:=by simp[aF,o13]
  have:=I.need
  split at e
  ·rename_i y hy;split at e
   ·cases e;exact⟨K0 _,fin _ rfl rfl (push 1 _ o10 hn.1 hn.2 (sf (last ZL) (o7 _ _ _ _ hy)))⟩
   ·cases e
  ·cases e
 rw[Xn o13]at e;by_cases o15:i.op=15
 ·rw[Xr o15]at e;have hn:(aF i).1=1/\(aF i).2=1:=by simp[aF,o15]
  split at e
  ·cases e;exact⟨⟨rfl,hb,rfl,rfl,rfl,rfl⟩,fin _ rfl rfl (push 1 _ o10 hn.1 hn.2 (fB _))⟩
  ·cases e
 rw[Xn o15]at e;split at e
 ·rename_i v hv;cases e;have hf:=I.form;simp[bG,o0,o1,o2,o3,o10,o11,o12,o13,o14,o15,o16,o17]at hf;have hn:(aF i).1=2/\(aF i).2=1:=by
   have:=hf.1
   unfold wq at this;simp[aF]at this |-
   grind
  exact⟨K0 _,fin _ rfl rfl (push 2 _ o10 hn.1 hn.2 (BI hv))⟩
 ·cases e
structure RightP (p:Proc):Prop where
 load:jv p.mods=0
 st:eD p.mods p.state=true
 ended:p.ended=p.frames.isEmpty
 len:p.frames.length<=60
 out:p.ended=true\/rY p.out=true
 frames:iD p.mods p.frames=true
def xq{p:Proc}:gL p=true↔RightP p:=by
 unfold gL;simp only[Xq,Xp,Yb,Yh];exact⟨fun⟨⟨⟨⟨⟨h1,h2⟩,h3⟩,h4⟩,h5⟩,h6⟩=>⟨h1,h2,h3,h4,h5,h6⟩,fun⟨h1,h2,h3,h4,h5,h6⟩=>⟨⟨⟨⟨⟨h1,h2⟩,h3⟩,h4⟩,h5⟩,h6⟩⟩
def wI{p:Proc}(H:RightP p)(e:Int)(v:Val):RightP (yf p e v):=⟨H.load,H.st,rfl,XJ _,.inl rfl,rfl⟩
def l7{p:Proc}(H:RightP p)(he:p.ended=false):∃fs f x,p.frames=fs++[f]/\eF p.mods fs (some f)=true/\TopOk p.mods f x:=by
 have hne:p.frames≠[]:=fun h=>by rw[H.ended,h]at he;cases he
 refine⟨p.frames.dropLast,p.frames.getLast hne,?_⟩;have e:=Y3 hne;have h:=H.frames;unfold iD at h;rw[<- e,iU,Xq]at h
 grind [rn]
def vf{p:Proc}{fs:List Frm}{f:Frm}(h:p.frames=fs++[f]):jW p=vg p fs f:=by
 simp_all[jW]
def px{p:Proc}(H:RightP p)(he:p.ended=false):RightP (jW p):=by
 obtain⟨fs,f,x,h1,h2,h3⟩:=l7 H he;have hlen:=H.len;rw[h1]at hlen;simp only[XI,List.length_singleton]at hlen;have hout:rY p.out=true:=H.out.resolve_left (by rw[he];simp);rw[vf h1];unfold vg;rw[h3.fnc];simp only[Yx,YH];split
 ·rename_i h18;split
  ·exact wI H _ _
  ·rename_i hne;obtain⟨gs,g,rfl⟩:∃gs g,fs=gs++[g]:=⟨fs.dropLast,fs.getLast hne,(Y3 hne).symm⟩;have hg:(gs++[g])[(gs++[g]).length-1]! = g:=by rw[Xv _ _ ZO];simp
   rw[hg,List.dropLast_concat];rw[iU,Xq]at h2;obtain⟨y,hy⟩:=Cz.1 h2.2;have hr:=h3.ins.ret h18;refine⟨H.load,H.st,by rw[he];simp,ZN,.inr hout,?_⟩;show iD p.mods (gs++[_])=true;unfold iD;rw[iU,Xq];refine⟨(ml p.mods gs (f:={ g with stack:=g.stack++[f.stack[f.stack.length-1]!] }) (g:=g) rfl rfl).trans h2.1,rn.2 ⟨y,hy.fnc,hy.pc,hy.loc,?_,?_,?_⟩⟩
   ·have:=hy.stk.1
    grind
   ·have:=hy.stk.1
    grind
   ·exact zl hy.stk.2 (h3.stk.2 _ (nz ZL))
 ·rename_i h18;split
  ·rename_i q hq;obtain⟨k,k1,k2,k3⟩:=zJ H.st h2 hlen h3 h18 hq;refine⟨by rw[k.mods];exact H.load,by rw[k.mods];exact k.st,?_,k2,.inr ?_,by rw[k.mods];exact k3⟩
   ·rw[k.ended,he]
    grind
   ·unfold rY at hout |-;rw[k.out.1,k.out.2.1,k.out.2.2];exact hout
  ·exact wI H _ _
theorem vA:∀(n:Nat){p:Proc},RightP p->RightP (fc n p)
 |0,_,H=>H
 | n+1,p,H=>by
  unfold fc;split
  ·exact H
  ·rename_i he;exact vA n (px H (by simpa using he))
theorem mQ:∀(n:Nat){p:Proc},p.ended=true->fc n p=p
 |0,_,_=>rfl
 |n+1,p,h=>by unfold fc;rw[Xr h]
def mb{n:Nat}{p:Proc}(h:¬p.ended=true):fc (n+1) p=fc n (jW p):=by show (if _ then _ else _)=_;rw[Xn h]
theorem Bq:∀(n k:Nat)(p:Proc),fc (n+k) p=fc k (fc n p)
 |0,k,p=>by rw[XE];rfl
 |n+1,k,p=>by
  by_cases h:p.ended=true
  ·grind [mQ]
  ·rw[show n+1+k=(n+k)+1 by omega,mb h,mb h,Bq n k]
def Bd{l:List Mod}{s t:aW}{args:List Val}{w:List Int}{p:Proc}(h:gu l s t args w= .ok p):RightP p/\p.ended=false:=by
 unfold gu at h;split at h
 ·cases h
 ·rename_i h0;split at h
  ·cases h
  ·rename_i st hst;split at h
   ·cases h
   ·rename_i x hx;split at h
    ·rename_i ha;cases h;refine⟨⟨Decidable.not_not.1 h0,tV hst,rfl,by simp[FV],.inr rfl,?_⟩,rfl⟩;show eF l [_] none=true;rw[eF,Xq];exact⟨rn.2 ⟨x,zO hx ha⟩,rfl⟩
    ·cases h
def Loc(B:Int)(em:jS->jS):Prop:=∀c:jS,c.2<=B->(em c).2<=B
theorem tC(vars:List fu):∀(n:Nat)(e:Exp)(names:List aW)(B:Int),(names.length:Int)+n<=B->Loc B (bC vars n e names)
 |0,_,_,_,_=>fun c h=>h
 | n+1,e,names,B,hB=>fun c hc=>by
  have ih:=fun(x:Exp)=>tC vars n x names B ZL;have ch:∀yes no:Exp,Loc B (iC (fun x=>bC vars n x names) yes no):=fun yes no c hc=>by
   unfold iC;exact ih no _ (ih yes _ hc)
  have fo:∀l:List Exp,Loc B (fun c=>l.foldl (fun c x=>bC vars n x names c) c):=by
   intro l
   induction l with
   |nil=>exact fun c h=>h
   |cons x l ihl=>exact fun c h=>ihl _ (ih x c h)
  unfold bC;split
  ·exact hc
  split
  ·exact hc
  split
  ·exact hc
  split
  ·exact hc
  split
  ·exact ch _ _ _ (ih _ c hc)
  split
  ·exact ch _ _ _ (ih _ c hc)
  split
  ·exact ch _ _ _ (ih _ c hc)
  split
  ·have h0:=ih e.args[0]! c hc;have h3:(gE (cB 3 names.length) (bC vars n e.args[0]! names c)).2=(bC vars n e.args[0]! names c).2:=rfl;exact tC vars n _ (names++[e.s]) B ZQ _ ZN
  ·exact fo e.args c hc
def dO:Nat->Exp->Nat
 |0,_=>0
 |d+1,e=>1+(e.args.map (dO d)).sum
theorem Aa(em:Exp->jS->jS)(L:Exp->Nat):∀(l:List Exp),(∀x∈l,oN (em x) (L x))->oN (fun c=>l.foldl (fun c x=>em x c) c) ((l.map L).sum)
 |[],_=>fun c=>ZO
 |x:: l,h=>fun c=>by
  have a:=h x ZO c;have b:=Aa em L l (fun y hy=>h y (by simp[hy])) (em x c)
  grind
theorem xz{d:Nat}:∀l:List Exp,(l.map fun x=>3*dO d x).sum=3*(l.map (dO d)).sum
 |[]=>rfl
 |x:: l=>by
  have:=xz (d:=d) l
  grind
theorem M5{n:Nat}{e:Exp}(h:e.args.length=2):dO (n+1) e=1+dO n e.args[0]! + dO n e.args[1]!:=by
 grind [List.eq_getElem_of_length_eq_two,dO]
def Us{n:Nat}{e:Exp}(h:e.args.length=3):dO (n+1) e=1+dO n e.args[0]! + dO n e.args[1]! + dO n e.args[2]!:=by
 grind [List.eq_getElem_of_length_eq_three,dO]
theorem gd(vars:List fu):∀(n:Nat)(e:Exp),cP n e=true->∀names,oN (bC vars n e names) (3*dO n e)
 |0,e,h,names=>by simp[cP]at h
 | n+1,e,h,names=>by
  have hs:ie e=true:=by rw[fD,Xq]at h;exact h.1
  have hc:=jE hs;have h1:1<=dO (n+1) e:=by simp only[dO];omega
  intro c;unfold bC;have htr:∀t,1<=n->oN (bC vars n (lD t) names) 1:=fun t hn c=>by
   obtain⟨m,rfl⟩:∃m,n=m+1:=⟨n-1,ZL⟩;rw[oY,dl];omega
  split
  ·rw[dl];omega
  split
  ·rw[dl];omega
  split
  ·rw[dl];omega
  split
  ·rw[dl];omega
  split
  ·rename_i ho;have hl:e.args.length=2:=ZL
   obtain⟨m,rfl⟩:=eZ (dm h (k:=0) ZL);have a:=gd vars _ _ (dm h (k:=0) ZL) names c;have b:=iV (em:=fun x=>bC vars (m+1) x names) (gd vars _ _ (dm h (k:=1) ZL) names) (htr 0 ZL) (bC vars (m+1) e.args[0]! names c);rw[M5 hl];omega
  split
  ·rename_i ho;have hl:e.args.length=2:=ZL
   obtain⟨m,rfl⟩:=eZ (dm h (k:=0) ZL);have a:=gd vars _ _ (dm h (k:=0) ZL) names c;have b:=iV (em:=fun x=>bC vars (m+1) x names) (htr 1 ZL) (gd vars _ _ (dm h (k:=1) ZL) names) (bC vars (m+1) e.args[0]! names c);rw[M5 hl];omega
  split
  ·rename_i ho;have hl:e.args.length=3:=ZL
   obtain⟨m,rfl⟩:=eZ (dm h (k:=0) ZL);have a:=gd vars _ _ (dm h (k:=0) ZL) names c;have b:=iV (em:=fun x=>bC vars (m+1) x names) (gd vars _ _ (dm h (k:=1) ZL) names) (gd vars _ _ (dm h (k:=2) ZL) names) (bC vars (m+1) e.args[0]! names c);rw[Us hl];omega
  split
  ·rename_i ho;have hl:e.args.length=2:=ZL
   obtain⟨m,rfl⟩:=eZ (dm h (k:=0) ZL);have a:=gd vars _ _ (dm h (k:=0) ZL) names c;have e1:=dl (cB 3 names.length) (bC vars (m+1) e.args[0]! names c);have b:=gd vars _ _ (dm h (k:=1) ZL) (names++[e.s]) ((gE (cB 3 names.length) (bC vars (m+1) e.args[0]! names c)).1,max (gE (cB 3 names.length) (bC vars (m+1) e.args[0]! names c)).2 (names.length+1))
   grind [M5]
  ·have b:=Aa (fun x=>bC vars n x names) (fun x=>3*dO n x) e.args (fun x hx=>gd vars n x (gt h hx) names) c
   grind [xz,dl,dO]
end Go.Av.Ap
namespace Go.Av.Ap
def mu(m:Ms):Int:=m.deeds.length+m.calls.length+m.fuel
def TQ(k:Int){α:Type}(x:X α):Prop:=∀m a s,0<=m.fuel->x m= .ok a s->mu s<=mu m+k/\s.fuel<=m.fuel/\0<=s.fuel/\s.frames=m.frames
def Eo{k:Int}{α:Type}{a:α}(hk:0<=k):TQ k (.ok a):=fun m b s h0 h=>by cases h;grind
def IF{k:Int}{α:Type}{e:Int}:TQ k (α:=α) (.er e):=fun m b s _ h=>by cases h
def Kw{j k:Int}{α β:Type}{x:X α}{f:α->X β}(hx:TQ j x)(hf:∀a,TQ k (f a)):TQ (j+k) (x.bind f):=by
 intro m b s h0 h;unfold X.bind at h;cases hr:x m with
 |er e t=>grind
 |ok a t=>
  rw[hr]at h;obtain⟨h1,h2,h3,h4⟩:=hx m a t h0 hr;obtain⟨g1,g2,g3,g4⟩:=hf a t b s h3 h
  grind
theorem eB{k:Int}{α β:Type}{x:X α}{f:α->X β}(hx:TQ 0 x)(hf:∀a,TQ k (f a)):TQ k (x.bind f):=by
 have:=Kw hx hf
 grind
theorem En{j k:Int}{α:Type}{x:X α}(h:TQ j x)(hk:j<=k):TQ k x:=fun m a s h0 e=>by
 obtain⟨h1,h2⟩:=h m a s h0 e
 grind
def dN{k:Int}{α:Type}{c:Prop}[Decidable c]{x y:X α}(h1:TQ k x)(h2:TQ k y):TQ k (if c then x else y):=by
 grind
theorem sW{r:X Val}(h:TQ 0 r):TQ 0 (boolX r):=eB h fun _=>dN (Eo (Zo _)) IF
theorem yX{r:Exp->X Val}(h:∀e,TQ 0 (r e)):∀l,TQ 0 (listX r l)
 |[]=>Eo (Zo _)
 |e:: l=>eB (h e) fun _=>eB (yX h l) fun _=>Eo (Zo _)
def qH(p:List Mod)(r:Ev)(a:Int)(f:Fun)(l:List Val)(m:Ms):jI p r a f l m=if m.frames<60 then((r a (f.params.map (·.1)) l f.body).bind fun v=>.upd (fun m=>{ m with frames:=m.frames-1 }) (.ok v)) (qG p a f l m)else .er 6 m:=by
 unfold jI X.get;by_cases h:m.frames<60
 ·simp only[h,XA];rfl
 ·simp only[h,Xu];rfl
def ID{p:List Mod}{r:Ev}{a:Int}{f:Fun}{l:List Val}(hr:∀o ns vs e,TQ 0 (r o ns vs e)):TQ 1 (jI p r a f l):=by
 intro m v s h0 h;rw[qH]at h;split at h
 ·unfold X.bind at h;cases hr':r a (f.params.map (·.1)) l f.body (qG p a f l m)with
  |er e t=>grind
  |ok b t=>
   rw[hr']at h;cases h;obtain⟨h1,h2,h3,h4⟩:=hr _ _ _ _ (qG p a f l m) v t h0 hr'
   grind [mu,qG]
 ·cases h
def Kx{p:List Mod}{r:Ev}(hr:∀o ns vs e,TQ 0 (r o ns vs e))(o:Int)(ns:List aW)(vs:List Val)(e:Exp):TQ 0 (qo p r o ns vs e):=by
 have tick:∀y:X Val,TQ 1 y->TQ 0 (xA y):=fun y hy m a s h0 h=>by
  unfold xA X.get at h;by_cases hf:m.fuel<=0
  ·simp only[hf,XA]at h;cases h
  ·simp only[hf,Xu]at h;obtain⟨h1,h2,h3,h4⟩:=hy { m with fuel:=m.fuel-1 } a s ZN h
   grind [mu]
 have H:=fun e=>hr o ns vs e;have ok1:∀(α:Type)(a:α),TQ 1 (.ok a):=fun _ _=>Eo ZL;have er1:∀(α:Type) e,TQ 1 (α:=α) (.er e):=fun _ _=>IF;have H1:=fun e=>En (H e) (show (0:Int)<=1 by omega);refine tick _ ?_;refine dN (er1 _ _) (dN (ok1 _ _) (dN (dN (ok1 _ _) (er1 _ _)) (dN ?_ (dN ?_ (dN ?_ (dN ?_ (dN ?_ (dN ?_ (dN ?_ (dN ?_ (dN ?_ (dN ?_ ?_))))))))))))
 ·grind
 ·refine eB (H _) fun a=>eB (H _) fun b=>?_;unfold oS
  grind
 ·exact eB (sW (H _)) fun a=>dN (ok1 _ _) (eB (sW (H _)) fun b=>ok1 _ _)
 ·grind [eB,sW]
 ·simp_all[eB,sW]
 ·grind [eB,En]
 ·unfold mO;exact dN (dN (eB (yX H _) fun vs=>dN (ok1 _ _) (er1 _ _)) (er1 _ _)) (er1 _ _)
 ·refine eB (H _) fun v=>?_
  grind
 ·unfold tn;simp only;split
  ·exact er1 _ _
  ·exact dN (dN (eB (yX H _) fun l=>ID hr) (er1 _ _)) (er1 _ _)
 ·unfold Bz;refine eB (H _) fun v=>dN (dN (fun m a s h0 h=>?_) (er1 _ _)) (er1 _ _);cases h;simp only[mu]
  grind
 ·unfold C1;refine dN (er1 _ _) ?_;simp only;refine dN (er1 _ _) (dN (eB (H _) fun v m a s h0 h=>?_) fun m a s h0 h=>?_)
  ·cases h;exact⟨by simp only[mu];omega,Zo _,h0,rfl⟩
  ·cases h
   grind
theorem sX{p:List Mod}:∀(n:Nat)(o:Int)(ns:List aW)(vs:List Val)(e:Exp),TQ 0 (cL p n o ns vs e)
 |0,_,_,_,_=>IF
 |n+1,o,ns,vs,e=>Kx (fun o ns vs e=>sX n o ns vs e) o ns vs e
structure GoodM (p:List Mod) (m:Ms):Prop where
 right:xM m
 bud:mu m<=1000000
 fr:0<=m.frames/\m.frames<=60
 fuel:0<=m.fuel
 shape:∀(i:Nat)(x:Mod),p[i]? = some x->∃l,m.state[i]? = some l/\l.length=x.vars.length
theorem GoodM.eval{p:List Mod}{n:Nat}{o:Int}{ns:List aW}{vs:List Val}{e:Exp}{m s:Ms}{v:Val}(G:GoodM p m)(hs:na ns vs)(h:cL p n o ns vs e m= .ok v s):GoodM p s/\Rv v/\s.fuel<=m.fuel:=by
 obtain⟨h1,h2,h3,h4⟩:=sX n o ns vs e m v s G.fuel h;obtain⟨g1,g2,g3⟩:=po (p:=p) n o ns vs e hs m G.right;rw[h]at g1 g2;refine⟨⟨g1,by have:=G.bud;omega,by rw[h4];exact G.fr,h3,fun i x hx=>?_⟩,g3 v s h,h2⟩;obtain⟨l,k1,k2⟩:=G.shape i x hx;have:(nP s)[i]? = (nP m)[i]?:=by rw[show nP s=nP m from g2]
 simp only[nP,YD,k1,Yx]at this
 grind
def GoodM.bool{p:List Mod}{n:Nat}{o:Int}{ns:List aW}{vs:List Val}{e:Exp}{m s:Ms}{b:Bool}(G:GoodM p m)(hs:na ns vs)(h:boolX (cL p n o ns vs e) m= .ok b s):GoodM p s/\s.fuel<=m.fuel:=by
 unfold boolX X.bind at h;cases hr:cL p n o ns vs e m with
 |er c t=>grind
 | ok v t=>
  rw[hr]at h;simp only at h;split at h
  ·cases h;exact⟨(G.eval hs hr).1,(G.eval hs hr).2.2⟩
  ·cases h
theorem pp{v:Val}(h:Rv v):v.names.length<=8:=by
 unfold Rv cM at h
 grind
theorem DC:∀(d:Nat)(v:Val),cM d v=true->v.sz<=17*9 ^ d
 |0,v,h=>by simp[cM]at h
 | d + 1,v,h=>by
  have hp:1<=9 ^ d:=Nat.one_le_pow _ _ ZM;obtain⟨k,n,ns,vs⟩:=v;unfold cM at h;simp only[Val.sz];split at h
  ·simp only[Xq,Yb,Xc,Xa]at h
   grind [cV]
  ·simp only[Xq,Yb,XF,Xc,Xa]at h;have h8:=of_decide_eq_true h.1.1.2;have hl:=h.1.1.1.2;have hv:=h.2;have key:∀l:List Val,(∀v∈l,cM d v=true)->cV l<=l.length*(17*9 ^ d):=by
    intro l
    induction l with
    |nil=>intro _;simp[cV]
    |cons v l ih=>
     intro h;have h1:=DC d v (h v List.mem_cons_self)
     grind [cV,Nat.add_mul]
   have h3:=key vs hv;have h4:vs.length*(17*9 ^ d)<=8*(17*9 ^ d):=Xy _ ZL
   grind
theorem uQ{v:Val}(h:Rv v):v.sz<=200000:=XM (DC 4 v h) ZM
end Go.Av.Ap
namespace Go.Av.Ap
open Go Go.Av
structure PBd (p:List Mod):Prop where
 len:p.length<=1000000
 vars:∀m∈p,m.vars.length<=1000000
 code:∀s t x,fh p s t=some x->x.cod.code.length<=1000000/\x.cod.locals<=1000000
def Dq{vars:List fu}{f:Fun}(F:FunOk f)(hc:dO 12 f.body<=1000):(dn vars f).code.length<=1000000/\(dn vars f).locals<=1000000:=by
 have a:=(gd vars 12 f.body F.body (f.params.map (·.1)) ([],f.params.length)).2;have p6:=F.plen;have hL:=tC vars 12 f.body (f.params.map (·.1)) 1000 ZQ ([],f.params.length) ZN;constructor
 ·show (gE (cB 18 0) (bC vars 12 f.body (f.params.map (·.1)) ([],f.params.length))).1.length<=_
  grind [dl]
 ·show (bC vars 12 f.body (f.params.map (·.1)) ([],f.params.length)).2<=_;omega
def N4{p:List Mod}(h20:p.length<=20)(hr:∀m∈p,ib m=true)(hc:∀m∈p,∀f∈m.funcs,dO 12 f.body<=1000):PBd p:=by
 refine⟨ZL,fun m hm=>?_,fun s t x hx=>?_⟩
 ·have:=(uD (hr m hm)).vlen
  omega
 ·have F:=lp hx;obtain⟨f,_,f2,f3,_⟩:=F.fn;have hm:(p[(dD p s).toNat]?.getD default)∈p:=by
   rw[XC F.lt];exact XB F.lt
  rw[f3];exact Dq ((uD (hr _ hm)).fns f f2) (hc _ hm f f2)
structure OwnX (p q:Proc) (fs:List Frm) (f:Frm):Prop where
 mods:q.mods=p.mods
 world:q.world=p.world\/q.world=p.world.tail
 deeds:q.out.deeds=p.out.deeds\/∃d,q.out.deeds=p.out.deeds++[d]
 calls:q.out.calls=p.out.calls\/∃c:Call,q.out.calls=p.out.calls++[c]/\(∀v∈c.args,v∈f.stack)/\c.args.length<=f.stack.length
 state:q.state=p.state\/∃k v,v∈f.stack/\q.state=p.state.modify (dD p.mods f.mod).toNat fun w=>{ w with values:=w.values.set k v }
 frames:∃l:List Frm,q.frames=fs++l/\1<=l.length/\l.length<=2
def N1{p q:Proc}{fs:List Frm}{f:Frm}{i:Ins}(e:mS p fs f i= .ok q)(h17:i.op=17->1<=f.stack.length):OwnX p q fs f:=by
 have K:∀g:Frm,OwnX p { p with frames:=fs++[g] } fs f:=fun g=>⟨rfl,.inl rfl,.inl rfl,.inl rfl,.inl rfl,⟨[g],rfl,ZO,ZO⟩⟩;unfold mS at e;simp only at e;by_cases o0:i.op=0
 ·grind
 rw[Xn o0]at e;by_cases o1:i.op=1
 ·grind
 rw[Xn o1]at e;by_cases o2:i.op=2
 ·grind
 rw[Xn o2]at e;by_cases o3:i.op=3
 ·grind
 rw[Xn o3]at e;by_cases o19:i.op=19
 ·grind
 rw[Xn o19]at e;by_cases o10:i.op=10
 ·grind
 rw[Xn o10]at e;by_cases o11:i.op=11
 ·grind
 rw[Xn o11]at e;by_cases o12:i.op=12
 ·grind
 rw[Xn o12]at e;by_cases o14:i.op=14
 ·rw [Xr o14]at e;split at e
  ·cases e
  ·split at e
   ·cases e
   ·split at e
    ·cases e
    ·split at e
     ·cases e
     ·cases e;rename_i y _ _ _ _;refine⟨rfl,.inl rfl,.inl rfl,?_,.inl rfl,⟨[_,_],Yd _ _ _,ZO,ZO⟩⟩;by_cases hp:y.pub=true
      ·exact .inr ⟨⟨vU i.m f.mod,y.cod.func,f.stack.drop (f.stack.length-i.a.toNat)⟩,Xr hp,fun v hv=>YP hv,ZO⟩
      ·exact .inl (Xn hp)
 rw[Xn o14]at e;by_cases o16:i.op=16
 ·grind
 rw[Xn o16]at e;by_cases o17:i.op=17
 ·rw[Xr o17]at e;split at e
  ·cases e
   have:=h17 o17
   exact⟨rfl,.inl rfl,.inl rfl,.inl rfl,.inr ⟨i.a.toNat,_,nz (show f.stack.length-1<f.stack.length by omega),rfl⟩,⟨[_],rfl,ZO,ZO⟩⟩
  ·cases e
 rw[Xn o17]at e;by_cases o9:i.op=9
 ·grind
 rw[Xn o9]at e;by_cases o13:i.op=13
 ·grind
 rw[Xn o13]at e;by_cases o15:i.op=15
 ·rw[Xr o15]at e;split at e
  ·cases e;exact⟨rfl,.inr rfl,.inr ⟨_,rfl⟩,.inl rfl,.inl rfl,⟨[_],rfl,ZO,ZO⟩⟩
  ·cases e
 grind
structure StepO (p q:Proc) (fs:List Frm) (f:Frm):Prop where
 mods:q.mods=p.mods
 world:q.world=p.world\/q.world=p.world.tail
 deeds:q.out.deeds=p.out.deeds\/∃d,q.out.deeds=p.out.deeds++[d]
 calls:q.out.calls=p.out.calls\/∃c:Call,q.out.calls=p.out.calls++[c]/\(∀v∈c.args,v∈f.stack)/\c.args.length<=f.stack.length
 state:q.state=p.state\/∃k v,v∈f.stack/\q.state=p.state.modify (dD p.mods f.mod).toNat fun w=>{ w with values:=w.values.set k v }
 frames:q.ended=true/\q.frames=[]\/q.ended=false/\fs.length<=q.frames.length/\q.frames.length<=fs.length+2/\∀m,m+1<fs.length->q.frames[m]? = p.frames[m]?
 out:q.ended=false/\q.out.err=p.out.err/\q.out.value=p.out.value/\q.out.state=p.out.state\/q.ended=true/\q.out.state=p.state/\Rv q.out.value
theorem pq:Rv default:=fB 0
def vj{p:Proc}(H:RightP p)(he:p.ended=false){fs:List Frm}{f:Frm}{x:Fnc}(hp:p.frames=fs++[f])(hc:eF p.mods fs (some f)=true)(T:TopOk p.mods f x):StepO p (jW p) fs f:=by
 have hlen:=H.len;rw[hp]at hlen;simp only[XI,List.length_singleton]at hlen;have I:=T.ins;have E:∀e v,Rv v->StepO p (yf p e v) fs f:=fun e v hv=>⟨rfl,.inl rfl,.inl rfl,.inl rfl,.inl rfl,.inl ⟨rfl,rfl⟩,.inr ⟨rfl,rfl,hv⟩⟩;rw[vf hp];unfold vg;rw[T.fnc];simp only[Yx,YH];split
 ·rename_i h18;have hr:=I.ret h18;split
  ·exact E _ _ (T.stk.2 _ (nz ZL))
  ·rename_i hne;have hpos:=Yl.2 hne;refine⟨rfl,.inl rfl,.inl rfl,.inl rfl,.inl rfl,.inr ⟨he,by simp;omega,by simp;omega,fun m hm=>?_⟩,.inl ⟨he,rfl,rfl,rfl⟩⟩
   grind
 ·rename_i h18;split
  ·rename_i q hq;have h17:x.cod.code[f.pc.toNat]!.op=17->1<=f.stack.length:=by
    have:=I.need
    generalize x.cod.code[f.pc.toNat]! = i at this;intro h;have e:(aF i).1=1:=by simp[aF,h]
    omega
   have O:=N1 hq h17;obtain⟨k,k1,k2,k3⟩:=zJ H.st hc hlen T h18 hq;obtain⟨l,l1,l2,l3⟩:=O.frames;refine⟨O.mods,O.world,O.deeds,O.calls,O.state,.inr ⟨by rw[k.ended];exact he,by rw[l1];simp,ZN,fun m hm=>?_⟩,.inl ⟨by rw[k.ended];exact he,k.out.1,k.out.2.1,k.out.2.2⟩⟩
   grind
  ·exact E _ _ pq
structure SzP (k:Nat) (p:Proc):Prop where
 deeds:p.out.deeds.length<=k
 calls:p.out.calls.length<=k
 args:∀c∈p.out.calls,c.args.length<=1000000/\∀v∈c.args,Rv v
 world:p.world.length<=1000000
 value:Rv p.out.value
 ostate:p.out.state=[]\/eD p.mods p.out.state=true
theorem SzP.mono{k n:Nat}{p:Proc}(S:SzP k p)(h:k<=n):SzP n p:=⟨XM S.deeds h,XM S.calls h,S.args,S.world,S.value,S.ostate⟩
def xB{p:List Mod}(P:PBd p){f:Frm}{x:Fnc}(T:TopOk p f x):f.stack.length<=1000000:=by
 obtain⟨h1,_,_⟩:=iE (lp T.fnc).hgt
 have:=h1.lo f.pc.toNat (by have:=T.pc;omega)
 have:=(P.code _ _ _ T.fnc).1
 have:=T.stk.1
 omega
def Ek{p:Proc}(H:RightP p)(he:p.ended=false)(P:PBd p.mods){k:Nat}(S:SzP k p):SzP (k+1) (jW p):=by
 obtain⟨fs,f,x,h1,h2,T⟩:=l7 H he;have O:=vj H he h1 h2 T;have hst:=xB P T;have hd:=S.deeds;have hc:=S.calls;refine⟨?_,?_,?_,?_,?_,?_⟩
 ·rcases O.deeds with h|⟨d,h⟩<;>rw[h]
  all_goals grind
 ·rcases O.calls with h|⟨d,h,_⟩<;>rw[h]
  all_goals grind
 ·rcases O.calls with h|⟨d,h,g1,g2⟩<;>rw[h]
  ·exact S.args
  ·intro c hc;rcases X8.1 hc with hc|hc
   ·exact S.args c hc
   ·rw[Yk]at hc;subst hc;exact⟨ZL,fun v hv=>T.stk.2 v (g1 v hv)⟩
 ·have:=S.world
  rcases O.world with h|h<;>rw[h]
  all_goals grind
 ·rcases O.out with⟨_,_,h,_⟩|⟨_,_,h⟩
  ·rw[h];exact S.value
  ·exact h
 ·rcases O.out with⟨_,_,_,h⟩|⟨_,h,_⟩
  ·rw[h,O.mods];exact S.ostate
  ·rw[h,O.mods];exact .inr H.st
theorem Ij:∀(n:Nat){p:Proc}{k:Nat},RightP p->PBd p.mods->SzP k p->SzP (k+n) (fc n p)/\(fc n p).mods=p.mods
 |0,_,_,_,_,S=>⟨S,rfl⟩
 | n+1,p,k,H,P,S=>by
  unfold fc;split
  ·exact⟨S.mono ZL,rfl⟩
  ·rename_i he;have he:p.ended=false:=by simpa using he
   obtain⟨fs,f,x,h1,h2,T⟩:=l7 H he;have hm:=(vj H he h1 h2 T).mods;obtain⟨a,b⟩:=Ij n (px H he) ZN (Ek H he P S)
   grind
def Iw{l:List Mod}{s t:aW}{args:List Val}{w:List Int}{p:Proc}(h:gu l s t args w= .ok p)(ha:args.length<=1000000)(hw:w.length<=1000000):SzP 1 p/\p.mods=l:=by
 unfold gu at h;split at h
 ·cases h
 ·split at h
  ·cases h
  ·split at h
   ·cases h
   ·rename_i x hx;split at h
    ·rename_i hr;cases h;obtain⟨_,r2⟩:=ic.1 hr;refine⟨⟨XJ _,?_,?_,hw,pq,.inl rfl⟩,rfl⟩
     ·show (if _ then _ else _:List Call).length<=1
      grind
     ·intro c hc;have hc:c∈(if x.pub=true then([]:List Call)++[⟨s,x.cod.func,args⟩]else[]):=hc
      grind
    ·cases h
theorem wD{p:List Mod}:∀ {l:List Frm} {nx:Option Frm},eF p l nx=true->∀g∈l,∃n,iZ p g n=true
 |[],_,_,_,h=>by cases h
 |f:: l,nx,hc,g,hg=>by
  rw[eF,Xq]at hc;rcases XZ.1 hg with rfl|hg
  ·grind
  ·exact wD hc.2 g hg
structure AnyF (p:List Mod) (f:Frm) (x:Fnc):Prop where
 fnc:fh p f.mod f.fn=some x
 pc:0<=f.pc/\f.pc<x.cod.code.length
 loc:(f.locals.length:Int)=x.cod.locals/\∀v∈f.locals,Rv v
 stk:(f.stack.length:Int)<=x.hts[f.pc.toNat]! /\∀v∈f.stack,Rv v
def Ex{p:List Mod}{f:Frm}{n:Option Frm}(h:iZ p f n=true):∃x,AnyF p f x:=by
 cases n with
 |none=>obtain⟨x,T⟩:=rn.1 h;exact⟨x,T.fnc,T.pc,T.loc,by rw[T.stk.1];grind,T.stk.2⟩
 |some g=>obtain⟨x,T⟩:=Cz.1 h;exact⟨x,T.fnc,T.pc,T.loc,by rw[T.stk.1];omega,T.stk.2⟩
def Ey{p:List Mod}(P:PBd p){f:Frm}{x:Fnc}(T:AnyF p f x):f.stack.length<=1000000/\f.locals.length<=1000000:=by
 obtain⟨h1,_,_⟩:=iE (lp T.fnc).hgt
 have:=h1.lo f.pc.toNat (by have:=T.pc;omega)
 have:=P.code _ _ _ T.fnc
 have:=T.stk.1
 have:=T.loc.1
 omega
def mP{p:Proc}(H:RightP p)(P:PBd p.mods):∀f∈p.frames,(f.stack.length<=1000000/\f.locals.length<=1000000)/\(∀v∈f.stack,Rv v)/\∀v∈f.locals,Rv v:=by
 intro f hf;obtain⟨n,hn⟩:=wD (show eF p.mods p.frames none=true from H.frames) f hf;obtain⟨x,T⟩:=Ex hn;exact⟨Ey P T,T.stk.2,T.loc.2⟩
def jz{p:List Mod}(P:PBd p){st:List Vars}(h:eD p st=true):st.length<=1000000/\∀w∈st,w.values.length<=1000000/\∀v∈w.values,Rv v:=by
 obtain⟨h1,h2,h3⟩:=ll h;refine⟨by have:=P.len;omega,fun w hw=>⟨?_,h2 w hw⟩⟩;obtain⟨i,hi⟩:=Zh.1 hw;have hlt:i<st.length:=(Xx.1 hi).1
 have:=h3 i (p[i]'(ZL)) w (XC _) hi
 have:=P.vars _ (XB (l:=p) (n:=i) ZL)
 omega
def nW{d:Nat}{h:Hp}{q n sz:Nat}{cs rest:List AV}(h0:h[q]? = some (cs++rest))(hl:cs.length=n*sz)(hz:0<sz):rP d h q 0 n sz true= .sl ((List.range n).map fun i=>frz d h (.agg ((cs.drop (i*sz)).take sz))):=by
 unfold rP;rw[h0];simp only[XI,hl,XE,hz,Bool.true_or,XP,Yu,Ym];rw[XU (show n*sz<=n*sz+rest.length by omega)];simp only[Xs];congr 1;refine YG fun i hi=>?_;have hi:=List.mem_range.1 hi;have h2:(i+1)*sz<=n*sz:=Xy sz hi
 grind
theorem pF{d:Nat}{tag:Nat->Nat}{k:Nat}{h:Hp}{l:List Val}{v:AV}(H:de tag k h l v):cl (rP d h) v=vals l:=by
 rcases H with⟨h0,hv,_⟩|⟨r,cs,rest,rfl,_,hcs,_,hl,_,rfl⟩
 ·rw[XD h0];rcases hv with rfl|rfl<;>rfl
 ·show rP d h r 0 l.length 4 true=_;rw[nW hcs hl ZM];unfold vals;rw[dS];congr 1;refine i9 fun i v hv=>?_;have hi:=(Xx.1 hv).1;rw[iM hi,(Xx.1 hv).2];have:AV.agg (aa v.av)=v.av:=ZO
  rw[this,DG]
theorem eh.at{tag:Nat->Nat}{h:Hp}:{i:Nat} ->{l:List Frm} ->{cs:List AV} ->eh tag h i l cs->∀(j:Nat)(f:Frm),l[j]? = some f->∃lv sv,(cs.drop (j*5)).take 5=iO f lv sv/\de tag (11+3*(i+j)) h f.locals lv/\de tag (12+3*(i+j)) h f.stack sv
 |_,[],_,_,j,f,hj=>by simp at hj
 | i,g:: l,_,⟨lv,sv,rest,h1,h2,h3,h4⟩,j,f,hj=>by
  subst h1;cases j with
  |zero=>simp at hj;subst hj;exact⟨lv,sv,rfl,h2,h3⟩
  |succ j=>
   obtain⟨lv',sv',g1,g2,g3⟩:=h4.at j f (by simpa using hj)
   grind
def wF{d:Nat}{tag:Nat->Nat}{h:Hp}{l:List Frm}{v:AV}(H:fX tag 7 5 l.length (fun cs=>eh tag h 0 l cs) v h):cl (rP (d+1) h) v=lx l:=by
 rcases H with⟨h0,hv,_⟩|⟨r,cs,rest,rfl,_,hcs,_,hl,_,HF⟩
 ·rw[XD h0];rcases hv with rfl|rfl<;>rfl
 ·show rP (d+1) h r 0 l.length 5 true=_;rw[nW hcs hl ZM];unfold lx;congr 1;refine i9 fun i f hf=>?_;obtain⟨lv,sv,e,h1,h2⟩:=HF.at i f hf;rw[e,gP];simp only[cl,fl,iO,pF h1,pF h2];rfl
def qF{d:Nat}{tag:Nat->Nat}{h:Hp}{l:List Deed}{v:AV}(H:fX tag 2 3 l.length (fun cs=>cs=cO l) v h):cl (rP (d+1) h) v=deeds l:=by
 rcases H with⟨h0,hv,_⟩|⟨r,cs,rest,rfl,_,hcs,_,hl,_,rfl⟩
 ·rw[XD h0];rcases hv with rfl|rfl<;>rfl
 ·show rP (d+1) h r 0 l.length 3 true=_;rw[nW hcs hl ZM];simp_all[deeds,i9,yd,gP]
theorem eV.at{tag:Nat->Nat}{h:Hp}:{l:List Call} ->{cs:List AV} ->eV tag h l cs->∀(i:Nat)(c:Call),l[i]? = some c->∃av,(cs.drop (i*3)).take 3=[.str c.module,.str c.func,av]/\ze tag h c.args av
 |[],_,_,i,c,hc=>by simp at hc
 | d:: l,_,⟨av,rest,h1,h2,h3⟩,i,c,hc=>by
  subst h1;cases i with
  |zero=>grind
  |succ i=>
   obtain⟨av',g1,g2⟩:=h3.at i c (by simpa using hc)
   grind
def Jo{d:Nat}{tag:Nat->Nat}{h:Hp}{l:List Val}{av:AV}(H:ze tag h l av):cl (rP d h) av=vals l:=by
 rcases H with rfl|H
 all_goals grind [kX,pF]
def qE{d:Nat}{tag:Nat->Nat}{h:Hp}{l:List Call}{v:AV}(H:fX tag 3 3 l.length (fun cs=>eV tag h l cs) v h):cl (rP (d+1) h) v=calls l:=by
 rcases H with⟨h0,hv,_⟩|⟨r,cs,rest,rfl,_,hcs,_,hl,_,HC⟩
 ·rw[XD h0];rcases hv with rfl|rfl<;>rfl
 ·show rP (d+1) h r 0 l.length 3 true=_;rw[nW hcs hl ZM];unfold calls;congr 1;refine i9 fun i c hc=>?_;obtain⟨av,g1,g2⟩:=HC.at i c hc;rw[g1,gP];show AV.agg [.str c.module,.str c.func,cl (rP d h) av]=_;rw[Jo g2];rfl
def pE{d:Nat}{tag:Nat->Nat}{h:Hp}{l:List Vars}{v:AV}(H:fX tag 5 2 l.length (fun cs=>om tag h 0 l cs) v h):cl (rP (d+1) h) v=br l:=by
 rcases H with⟨h0,hv,_⟩|⟨r,cs,rest,rfl,_,hcs,_,hl,_,HS⟩
 ·rw[XD h0];rcases hv with rfl|rfl<;>rfl
 ·show rP (d+1) h r 0 l.length 2 true=_;rw[nW hcs hl ZM];unfold br;congr 1;refine i9 fun i c hc=>?_;obtain⟨av,g1,g2⟩:=HS.at2 i c hc;rw[g1,gP];show AV.agg [.str c.module,cl (rP d h) av]=_;rw[pF g2];rfl
theorem vE.at2{tag:Nat->Nat}{h:Hp}:{l:List Vars} ->{cs:List AV} ->vE tag h l cs->∀(j:Nat)(w:Vars),l[j]? = some w->∃av,(cs.drop (j*2)).take 2=[.str w.module,av]/\de tag 8 h w.values av
 |[],_,_,j,w,hj=>by simp at hj
 | _:: _,_,⟨av,rest,h1,h2,h3⟩,j,w,hj=>by
  subst h1;cases j with
  |zero=>grind
  |succ j=>
   obtain⟨av',g1,g2⟩:=h3.at2 j w (by simpa using hj)
   grind
def KN{d:Nat}{tag:Nat->Nat}{h:Hp}{l:List Vars}{v:AV}(H:fX tag 9 2 l.length (fun cs=>vE tag h l cs) v h):cl (rP (d+1) h) v=br l:=by
 rcases H with⟨h0,hv,_⟩|⟨r,cs,rest,rfl,_,hcs,_,hl,_,HS⟩
 ·rw[XD h0];rcases hv with rfl|rfl<;>rfl
 ·show rP (d+1) h r 0 l.length 2 true=_;rw[nW hcs hl ZM];unfold br;congr 1;refine i9 fun i c hc=>?_;obtain⟨av,g1,g2⟩:=HS.at2 i c hc;rw[g1,gP];show AV.agg [.str c.module,cl (rP d h) av]=_;rw[pF g2];rfl
def Proc.cells(p:Proc):List AV:=[Go.Av.Ap.mods p.mods,br p.state,lx p.frames,ints p.world,.int .i64 p.out.err,.int .i64 p.out.value.kind,.int .i64 p.out.value.n,strs p.out.value.names,vals p.out.value.values,deeds p.out.deeds,calls p.out.calls,br p.out.state,.bool p.ended]
def Proc.av(p:Proc):AV:=.agg p.cells
def MRG.frzQ{Q:StP}{L:MLay}{tag:Nat->Nat}{sv fv dv cv:AV}{vc:List AV}{p:Proc}{h:Hp}(H:MRG Q L tag sv fv dv cv vc p h)(c1:cl (rP 5 h) sv=br p.state):frz 6 h (.agg ((fC L p sv fv dv cv vc).take 13))=p.av:=by
 have c2:=wF (d:=4) H.fr;have c3:=qF (d:=4) H.ds;have c4:=qE (d:=4) H.cs;have ho:=H.so;rcases H.vo with rfl|⟨e,rfl⟩
 ·rw[gP];simp only[fC,bH,Yi,XW,X4,X2,cl,fl,mm,pD,nT,kX,c1,c2,c3,c4];unfold Proc.av Proc.cells;rw[ho];rfl
 ·rw[gP];simp only[fC,Yi,XW,X4,X2,cl,fl,mm,pD,c1,c2,c3,c4];unfold Proc.av Proc.cells;rw[ho,e];rfl
theorem MRG.frz{L:MLay}{tag:Nat->Nat}{sv fv dv cv:AV}{vc:List AV}{p:Proc}{h:Hp}(H:MR L tag sv fv dv cv vc p h):frz 6 h (.agg ((fC L p sv fv dv cv vc).take 13))=p.av:=H.frzQ (pE (d:=4) H.sth)
theorem IV.frz{L:MLay}{p:Proc}{h:Hp}(H:IV L p h):∃row,h[L.rm]? = some row/\13<=row.length/\frz 6 h (.agg (row.take 13))=p.av:=by
 obtain⟨tag,sv,dv,cv,ov,E,S,he,hf⟩:=H;have c1:=pE (d:=4) E.st;have c3:=qF (d:=4) E.ds;have c4:=qE (d:=4) E.cs;have c5:=KN (d:=4) S;refine⟨_,E.row,by simp[vO],?_⟩;rw[gP];simp only[vO,bH,Yi,XW,X4,X2,cl,fl,mm,pD,nT,kX,c1,c3,c4,c5];unfold Proc.av Proc.cells;rw[he,hf];rfl
def GR(g:Nat->Nat)(tag:Nat->Nat)(h:Hp):Nat->List Vars->List AV->Prop
 |_,[],cs=>cs=[]
 |i,w:: l,cs=>∃av rest,cs= .str w.module:: av:: rest/\de tag (g i) h w.values av/\GR g tag h (i+1) l rest
theorem GR.keep{g:Nat->Nat}{tag tag':Nat->Nat}{ks:Nat->Prop}{h h':Hp}(K:Kp tag tag' ks h h')(hk:∀j,¬ks (g j)):{i:Nat} ->{l:List Vars} ->{cs:List AV} ->GR g tag h i l cs->GR g tag' h' i l cs
 |_,[],_,H=>H
 |i,_:: _,_,⟨av,rest,h1,h2,h3⟩=>⟨av,rest,h1,h2.keep K (hk i),h3.keep K hk⟩
theorem GR.snoc{g:Nat->Nat}{tag:Nat->Nat}{h:Hp}{w:Vars}{av:AV}:{i:Nat} ->{l:List Vars} ->{cs:List AV} ->GR g tag h i l cs->de tag (g (i+l.length)) h w.values av->GR g tag h i (l++[w]) (cs++[.str w.module,av])
 |i,[],cs,H,ha=>by cases H;exact⟨av,[],rfl,ha,rfl⟩
 |i,d:: l,_,⟨av',rest,h1,h2,h3⟩,ha=>⟨av',rest++[.str w.module,av],by rw[h1];rfl,h2,h3.snoc ZN⟩
theorem GR.st{tag:Nat->Nat}{h:Hp}:{i:Nat} ->{l:List Vars} ->{cs:List AV} ->GR (fun i=>10+3*i) tag h i l cs->om tag h i l cs
 |_,[],_,H=>H
 |_,_:: _,_,⟨av,rest,h1,h2,h3⟩=>⟨av,rest,h1,h2,h3.st⟩
theorem GR.vs{tag:Nat->Nat}{h:Hp}:{i:Nat} ->{l:List Vars} ->{cs:List AV} ->GR (fun _=>8) tag h i l cs->vE tag h l cs
 |_,[],_,H=>H
 |_,_:: _,_,⟨av,rest,h1,h2,h3⟩=>⟨av,rest,h1,h2,h3.vs⟩
def mo{T:TT}{t e:Nat}{ti ei:TI}(ht:T t=some ti)(hk:ti.kind= .slice e)(he:T e=some ei)(h4:ei.size=4)(hag:ei.agg=true)(hb:0<ei.bytes)(call:FuncId->List AV->M AV)(tag:Nat->Nat)(h:Hp)(l:List Val)(hc:l.length*ei.bytes<=140737488355328)(kt:Nat):
  ∃h1 tag1 rv,cu T t call [vals l] h= .ok rv h1/\Kp tag tag1 (fun _=>False) h h1/\de tag1 kt h1 l rv:=by
 have:=np ht hk he h4 hag hb call l hc h
 by_cases h0:l=[]
 ·rw[Xr h0]at this;subst h0;exact⟨h,tag,.he,this,fun r cs hr _=>⟨hr,rfl⟩,.inl ⟨rfl,.inr rfl,rfl⟩⟩
 ·rw[Xn h0]at this;refine⟨_,_,_,this,Kp.new tag h _ kt,.inr ⟨h.length,aw l,[],rfl,ZO,ZO,?_,by rw[aX],by grind [iv],rfl⟩⟩;intro hh
  have:=XY List.length hh
  simp[aX]at this;exact h0 (XD ZL)
theorem tv{T:TT}{t e:Nat}{ti ei:TI}{sz:Nat}(ht:T t=some ti)(hk:ti.kind= .slice e)(he:T e=some ei)(h4:ei.size=sz)(hsz:0<sz)(hag:ei.agg=true)(hb:0<ei.bytes)(call:FuncId->List AV->M AV)(tag:Nat->Nat)(h:Hp)(l:List AV)(hok:dk sz l=true)(hc:l.length*ei.bytes<=140737488355328)(kt:Nat):
  ∃h1 tag1 rv,cu T t call [.sl l] h= .ok rv h1/\Kp tag tag1 (fun _=>False) h h1/\fX tag1 kt sz l.length (fun cs=>cs=l.flatMap aa) rv h1/\(rv= .he/\l=[]\/rv= .hs h.length 0 l.length sz true/\h1=h++[l.flatMap aa]):=by
 have e1:cu T t call [.sl l] h=appH T t false .he (.sl l) h:=rfl;cases l with
 |nil=>
  refine⟨h,tag,.he,?_,fun r cs hr _=>⟨hr,rfl⟩,.inl ⟨rfl,.inr rfl,rfl⟩,.inl ⟨rfl,rfl⟩⟩
  grind [appH,gb,iu]
 | cons v l=>
  have hne:(v:: l).isEmpty=false:=rfl;have hfl:∀l:List AV,dk sz l=true->(l.flatMap aa).length=l.length*sz/\(l.flatMap aa).all ay=true:=by
   intro l
   induction l with
   |nil=>grind
   | cons x l ih=>
    intro h;simp only[dk,XL,Xq]at h;obtain⟨i1,i2⟩:=ih h.2;have hx:=h.1;unfold bT at hx;simp only[Xq,Yb]at hx;have hxl:(aa x).length=sz:=by
     have h1:=hx.1;cases x<;>simp only[dy,Xm,reduceCtorEq]at h1<;>simp only[aa,List.length_singleton]<;>exact h1
    grind
  obtain⟨f1,f2⟩:=hfl _ hok;have key:appH T t false .he (.sl (v:: l)) h= .ok (.hs h.length 0 (v:: l).length sz true) (h++[(v:: l).flatMap aa]):=by
   unfold appH;simp only[ht,hk,he,gb,h4,hok,hb,hsz,iu,XP,Ym,Yu,Xs,hne,Xz,hag];rw[XU hc];simp
  refine⟨_,_,_,ZN,Kp.new tag h _ kt,.inr ⟨h.length,(v:: l).flatMap aa,[],rfl,ZO,ZO,?_,f1,ZN,rfl⟩,.inr ⟨rfl,rfl⟩⟩;intro hh
  have:=XY List.length hh
  grind [Nat.add_mul]
theorem mE{α:Type}(F:α->Bool):∀(l:List α)(i:Int),0<=i->(l.find? F=none/\aY F l i= -1)\/∃(k:Nat)(x:α),l.find? F=some x/\l[k]? = some x/\aY F l i=i+k
 |[],i,_=>.inl ⟨rfl,rfl⟩
 | x:: l,i,hi=>by
  by_cases hx:F x=true
  ·exact .inr ⟨0,x,by simp[hx],rfl,by simp[aY,hx]⟩
  ·have e:aY F (x:: l) i=aY F l (i+1):=by simp[aY,hx]
   have e2:(x:: l).find? F=l.find? F:=by simp[hx]
   rw[e,e2];rcases mE F l (i+1) (ZL)with⟨h1,h2⟩|⟨k,y,h1,h2,h3⟩
   ·grind
   ·exact .inr ⟨k+1,y,h1,by simpa using h2,ZL⟩
theorem wU{α:Type}(F:α->Bool)(x:α)(l:List α)(hx:F x=true):∀(A:List α)(i:Int),(∀y∈A,F y=false)->aY F (A++x:: l) i=i+A.length
 |[],i,_=>by simp[aY,hx]
 |y:: A,i,h=>by
  have hy:=h y ZO;have ih:=wU F x l hx A (i+1) fun z hz=>h z (by simp[hz]);show (if F y=true then i else aY F (A++x:: l) (i+1))=_
  grind
theorem uc{α:Type}(F:α->Bool):∀(l:List α)(i:Int),(∀y∈l,F y=false)->aY F l i= -1
 |[],_,_=>rfl
 |y:: l,i,h=>by
  have hy:=h y ZO;show (if F y=true then i else aY F l (i+1))=_;rw[hy,Xn ZM,uc F l (i+1) fun z hz=>h z (by simp[hz])]
def ym(i:Nat)(m:Mod)(f:Fun):Fnc:=⟨i,f.pub,dn m.vars f,(dj (dn m.vars f)).getD []⟩
abbrev F0:=aW×aW×Fnc
def kb(i:Nat)(m:Mod)(fs:List Fun):List F0:=fs.map fun f=>(m.name,f.name,ym i m f)
def aT:Nat->List Mod->List F0
 |_,[]=>[]
 |i,m:: l=>kb i m m.funcs++aT (i+1) l
def kS(s t:aW)(e:F0):Bool:=e.1== s&&e.2.1== t
def DJ(p:List Mod):Prop:=∀m∈p,∀f∈m.funcs,(dj (dn m.vars f)).isSome=true
theorem lL(i:Nat)(m:Mod)(s t:aW):∀fs:List Fun,(kb i m fs).find? (kS s t)=if m.name=s then(fs.find? fun f=>f.name== t).map fun f=>(s,t,ym i m f)else none
 |[]=>by simp[kb]
 | f:: fs=>by
  have ih:=lL i m s t fs;unfold kb at ih |-;rw[Ye,ZJ,ih,ZJ];by_cases h:m.name=s
  ·rw[Xr h,Xr h];cases hf:f.name== t with
   |true=>
    simp_all[kS]
   |false=>
    have:kS s t (m.name,f.name,ym i m f)=false:=by simp[kS,hf]
    rw[this]
  ·have:kS s t (m.name,f.name,ym i m f)=false:=by simp[kS,h]
   grind
theorem wN(s t:aW):∀(l:List Mod)(i:Nat),(∀m∈l,m.name≠s)->(aT i l).find? (kS s t)=none
 |[],_,_=>rfl
 |m:: l,i,h=>by
  rw[aT,YY,lL,Xn (h m ZO),wN s t l (i+1) fun x hx=>h x (by simp[hx])];rfl
def G9{p:List Mod}{k:Nat}{m:Mod}(hm:p[k]? = some m)(t:aW):lO p (k:Int) t=m.funcs.find? fun f=>f.name== t:=by
 unfold lO;rw[Xn ZL,Xw,hm];simp only[YH];unfold mU;rcases mE (fun f:Fun=>f.name== t) m.funcs 0 (ZL)with⟨h1,h2⟩|⟨j,x,h1,h2,h3⟩
 all_goals grind
theorem tP(s t:aW):∀(l A:List Mod),(∀m∈A,m.name≠s)->((A++l).map (·.name)).Nodup->DJ (A++l)->(aT A.length l).find? (kS s t)=(fh (A++l) s t).map fun x=>(s,t,x)
 | [],A,hA,_,_=>by
  have:dD (A++[]) s= -1:=uc _ _ _ fun m hm=>by
   grind
  unfold fh;rw[this];rfl
 | m:: l,A,hA,hn,hh=>by
  by_cases h:m.name=s
  ·have hat:dD (A++m:: l) s=(A.length:Int):=by
    have:=wU (fun m:Mod=>m.name== s) m l (by simpa using h) A 0 fun x hx=>ZN
    unfold dD;rw[this];omega
   have hr:(aT (A.length+1) l).find? (kS s t)=none:=wN s t l _ fun x hx=>by
    grind
   have hg:(A++m:: l)[A.length]? = some m:=ZO
   rw[aT,YY,lL,Xr h,hr];unfold fh;rw[hat,G9 hg,Xw,hg];simp only[YH];cases hf:m.funcs.find? (fun f=>f.name== t)with
   |none=>rfl
   |some f=>
    have hs:=hh m ZO f (List.mem_of_find?_eq_some hf);cases hx:dj (dn m.vars f)with
    |none=>grind
    |some hl=>simp[ym,hx]
  ·rw[aT,YY,lL,Xn h];have e:A++m:: l=(A++[m])++l:=ZO
   have:=tP s t l (A++[m]) (fun x hx=>by
    grind) ZN ZN
   grind
def wP(s t:aW){p:List Mod}(hn:(p.map (·.name)).Nodup)(hh:DJ p):(aT 0 p).find? (kS s t)=(fh p s t).map fun x=>(s,t,x):=tP s t p [] (fun m hm=>by cases hm) hn hh
def I3:List Mod->List Mod->Bool
 |_,[]=>false
 |A,m:: B=>(A.any fun x=>x.name== m.name)||I3 (A++[m]) B
theorem vw:∀(B A:List Mod),((List.range' A.length B.length).any fun i=>((A++B).take i).any fun m=>m.name== ((A++B)[i]?.getD default).name)=I3 A B
 |[],A=>rfl
 |m:: B,A=>by
  have ih:=vw B (A++[m])
  grind [List.range'_succ,I3,List.length_singleton]
def vu(p:List Mod):vt p=I3 [] p:=by
 rw[<- vw p []]
 grind [vt]
theorem xD:∀(B A:List Mod),I3 A B=false->(A.map (·.name)).Nodup->((A++B).map (·.name)).Nodup
 |[],A,_,h=>by simpa using h
 |m:: B,A,h,hA=>by
  rw[I3,YC]at h;have e:A++m:: B=(A++[m])++B:=ZO
  rw[e];refine xD B (A++[m]) h.2 ?_
  grind
def sy{p:List Mod}(h:vt p=false):(p.map (·.name)).Nodup:=xD p [] (by rw[<- vu];exact h) ZO
def FK{l:List Mod}{s t:aW}{args:List Val}{w:List Int}{e:Int}(h:gu l s t args w= .error e):e≠0:=by
 grind [gu,tW]
def p0:Proc:=⟨[],[],[],[],⟨0,default,[],[],[]⟩,false⟩
theorem mh{α β:Type}[Inhabited α][Inhabited β](F:α->β->Bool):∀(a:List α)(b:List β),a.length=b.length->((List.range' 0 a.length).all fun k=>F a[k]! b[k]!)=iT F a b
 |[],[],_=>rfl
 |[],_:: _,h=>by cases h
 |_:: _,[],h=>by cases h
 |x:: a,y:: b,h=>by
  have ih:=mh F a b (by simpa using h);rw[<- Zj]at ih |-;rw[XQ,List.range_succ_eq_map,XL,List.all_map]
  grind [iT]
def me(c:List Ins):Prop:=∀i∈c,i.names.length<=1000000
def jp{i:Ins}{c:jS}(hi:i.names.length<=1000000)(h:me c.1):me (gE i c).1:=by
 intro x hx;rcases X8.1 hx with hx|hx
 ·exact h x hx
 grind
def Ef{c:List Ins}(h:me c)(k:Nat)(n:Int):me (re c k n):=by
 intro x hx;unfold re at hx;rcases XO k c.length with hk|hk
 ·rcases Zx hx with hx|rfl
  ·exact h x hx
  ·rw[Xv c k hk];exact h c[k] (XB hk)
 ·rw[List.set_eq_of_length_le hk]at hx;exact h x hx
theorem qD{em:Exp->jS->jS}{yes no:Exp}(h1:∀c,me c.1->me (em yes c).1)(h2:∀c,me c.1->me (em no c).1)(c:jS)(h:me c.1):me (iC em yes no c).1:=by
 unfold iC;exact Ef (h2 _ (Ef (jp (XJ _) (h1 _ (jp (XJ _) h))) _ _)) _ _
theorem DF(em:Exp->jS->jS):∀(l:List Exp),(∀x∈l,∀c,me c.1->me (em x c).1)->∀c:jS,me c.1->me (l.foldl (fun c x=>em x c) c).1
 |[],_,c,h=>h
 |x:: l,ha,c,h=>DF em l (fun y hy=>ha y (by simp[hy])) (em x c) (ha x ZO c h)
def HW(vars:List fu){e:Exp}(h:e.op=13->e.names.length<=1000000):(qZ vars e).names.length<=1000000:=by
 unfold qZ
 repeat' split
 all_goals first
  |exact XJ _
  |exact h (by assumption)
theorem Du(vars:List fu):∀(n:Nat)(e:Exp),cP n e=true->∀names (c:jS),me c.1->me (bC vars n e names c).1
 |0,e,h,names,c,hc=>by simp[cP]at h
 | n+1,e,h,names,c,hc=>by
  have hs:ie e=true:=by rw[fD,Xq]at h;exact h.1
  have hcs:=jE hs;have h8:=Dh hs;have ih:=fun(x:Exp) (hx:cP n x=true) (nm:List aW) (c:jS) (hc:me c.1)=>Du vars n x hx nm c hc;have htr:∀t (c:jS),me c.1->me (bC vars n (lD t) names c).1:=fun t c hc=>by
   cases n with
   |zero=>exact hc
   |succ m=>rw[oY];exact jp (XJ _) hc
  unfold bC;split
  ·exact jp (XJ _) hc
  split
  ·exact jp (XJ _) hc
  split
  ·exact jp (XJ _) hc
  split
  ·exact jp (XJ _) hc
  split
  ·exact qD (em:=fun x=>bC vars n x names) (ih _ (dm h (k:=1) ZL) names) (htr 0) _ (ih _ (dm h (k:=0) ZL) names c hc)
  split
  ·exact qD (em:=fun x=>bC vars n x names) (htr 1) (ih _ (dm h (k:=1) ZL) names) _ (ih _ (dm h (k:=0) ZL) names c hc)
  split
  ·grind [qD,dm]
  split
  ·exact ih _ (dm h (k:=1) ZL) _ _ (jp (XJ _) (ih _ (dm h (k:=0) ZL) names c hc))
  ·refine jp (HW vars fun h13=>?_) (DF (fun x=>bC vars n x names) e.args (fun x hx=>ih x (gt h hx) names) c hc)
   grind
def GE{vars:List fu}{f:Fun}(F:FunOk f):(dn vars f).code.length<=1000000000000/\∀i∈(dn vars f).code,i.names.length<=1000000:=by
 constructor
 ·have:=(cF vars 12 f.body F.body (f.params.map (·.1)) ([],f.params.length)).2
  have hcap:oq 12<=99000000000:=by simp[oq]
  show (gE (cB 18 0) (bC vars 12 f.body (f.params.map (·.1)) ([],f.params.length))).1.length<=_
  grind [dl]
 ·exact jp (XJ _) (Du vars 12 f.body F.body _ _ (fun i hi=>by cases hi))
structure PR (L:MLay) (p:Proc) (h:Hp) (row:List AV):Prop where
 rw_:h[L.rm]? = some row
 en:row[12]? = some (.bool p.ended)
 len:13<=row.length
 ok:(row.take 13).all ay=true
 frz:Go.Av.frz 6 h (.agg (row.take 13))=p.av
def MRG.pr{Q:StP}{L:MLay}{tag:Nat->Nat}{sv fv dv cv:AV}{vc:List AV}{p:Proc}{h:Hp}(H:MRG Q L tag sv fv dv cv vc p h)(c1:cl (rP 5 h) sv=br p.state)(o1:ay sv=true):PR L p h (fC L p sv fv dv cv vc):=by
 refine⟨H.row,nZ H.vo.len 3,by rw[lW H.vo.len];decide,?_,H.frzQ c1⟩;have hv:vc.all ay=true:=by
  rcases H.vo with rfl|⟨_,rfl⟩
  ·have:=dV p.out.value
   simp_all[bT]
  ·rfl
 obtain⟨a,b,c,d,rfl⟩:∃a b c d,vc=[a,b,c,d]:=by
  have:=H.vo.len
  match vc,this with
  |[a,b,c,d],_=>grind
 simp only[XL,Zm,Yu,Xq]at hv;obtain⟨h1,h2,h3,h4⟩:=hv;show (ay (Go.Av.Ap.mods p.mods)&&(ay sv&&(ay fv&&(ay (ints p.world)&&(ay (.int .i64 p.out.err)&&(ay a&&(ay b&&(ay c&&(ay d&&(ay dv&&(ay cv&&(ay .hn&&(ay (.bool p.ended)&&true)))))))))))))=true;rw[o1,H.fr.okC,H.ds.okC,H.cs.okC,h1,h2,h3,h4];rfl
def Xl{L:MLay}{tag:Nat->Nat}{sv fv dv cv:AV}{vc:List AV}{p:Proc}{h:Hp}(H:MR L tag sv fv dv cv vc p h):PR L p h (fC L p sv fv dv cv vc):=H.pr (pE (d:=4) H.sth) H.sth.okC
def IV.pr{L:MLay}{p:Proc}{h:Hp}(H:IV L p h):∃row,PR L p h row:=by
 have H':=H;obtain⟨tag,sv,dv,cv,ov,E,S,he,hf⟩:=H;obtain⟨row,r1,r2,r3⟩:=IV.frz H';have e:row=vO L p sv dv cv ov:=by
  have:=E.row
  rw[r1]at this;exact Yc this
 subst e;refine⟨_,r1,by rw[he];simp[vO],r2,?_,r3⟩;have h1:(vO L p sv dv cv ov).take 13=[Go.Av.Ap.mods p.mods,sv,.sl [],ints p.world,.int .i64 p.out.err,.int .i64 p.out.value.kind,.int .i64 p.out.value.n,strs p.out.value.names,vals p.out.value.values,dv,cv,ov,.bool true]:=by
  simp[vO]
 rw[h1];show (ay (Go.Av.Ap.mods p.mods)&&(ay sv&&(ay (.sl [])&&(ay (ints p.world)&&(ay (.int .i64 p.out.err)&&(ay (.int .i64 p.out.value.kind)&&(ay (.int .i64 p.out.value.n)&&(ay (strs p.out.value.names)&&(ay (vals p.out.value.values)&&(ay dv&&(ay cv&&(ay ov&&(ay (.bool true)&&true)))))))))))))=true;rw[E.st.okC,E.ds.okC,E.cs.okC,S.okC];rfl
def PR.ended{L:MLay}{p:Proc}{h:Hp}{row:List AV}(H:PR L p h row){T:TT}{t:Nat}{ti:TI}(ht:T t=some ti)(ha:ti.agg=false):bb T t (.hp L.rm 12) h= .ok (.bool p.ended) h:=bL ht ha H.rw_ H.en
def PR.load{L:MLay}{p:Proc}{h:Hp}{row:List AV}(H:PR L p h row){T:TT}{t:Nat}{ti:TI}(ht:T t=some ti)(ha:ti.agg=true)(hs:ti.size=13):bb T t (.hp L.rm 0) h= .ok (.agg (row.take 13)) h:=by
 rw[lR ht ha H.rw_ (by rw[hs];have:=H.len;omega),hs,XG]
theorem PR.cells{L:MLay}{p:Proc}{h:Hp}{row:List AV}(H:PR L p h row):bF 13 [] (.agg (row.take 13))=am (.agg (row.take 13))/\∃c0 c1 c2 c3 c4 c5 c6 c7 c8 c9 c10 c11 c12,row.take 13=[c0,c1,c2,c3,c4,c5,c6,c7,c8,c9,c10,c11,c12]:=by
 have hl:(row.take 13).length=13:=by have:=H.len;simp;omega
 have hc:=H.ok;generalize row.take 13=l at hl hc
 match l,hl with
 | [c0,c1,c2,c3,c4,c5,c6,c7,c8,c9,c10,c11,c12],_=>
  refine⟨?_,c0,c1,c2,c3,c4,c5,c6,c7,c8,c9,c10,c11,c12,rfl⟩;rw[iq (by
   show (_&&List.all [c0,c1,c2,c3,c4,c5,c6,c7,c8,c9,c10,c11,c12] ay)=true;rw[hc];rfl)]
  rfl
def PR.tup{L:MLay}{p:Proc}{h:Hp}{row:List AV}(H:PR L p h row)(e:Int):Go.Av.frz 6 h (.tup [.agg (row.take 13),.int .i64 e])= .tup [p.av,.int .i64 e]:=by
 have:=H.frz
 rw[gP]at this |-;show AV.tup [cl (rP 5 h) (.agg (row.take 13)),.int .i64 e]=_;rw[this]
@[simp] theorem MY(g:Nat->Nat->Nat->Nat->Bool->AV)(f:Frm):cl g f.av=f.av:=by
 show AV.agg (fl g [.str f.mod,.str f.fn,.int .i64 f.pc,vals f.locals,vals f.stack])=_;simp only[fl,cl,kX];rfl
@[simp] theorem Js(g:Nat->Nat->Nat->Nat->Bool->AV)(l:List Frm):cl g (lx l)=lx l:=by grind [lx,cl,gy,MY]
@[simp] theorem sL(g:Nat->Nat->Nat->Nat->Bool->AV)(p:Proc):cl g p.av=p.av:=by
 show AV.agg (fl g p.cells)=_;simp only[Proc.cells,fl,cl,mm,pD,nT,kX,Js,zF,Gv,Gu];rfl
def gB{m:M AV}{a r:AV}{h':Hp}(h1:m []= .ok a h')(h2:Go.Av.frz 6 h' a=r):be m=am r:=by
 funext h
 grind [be,am]
end Go.Av.Ap
