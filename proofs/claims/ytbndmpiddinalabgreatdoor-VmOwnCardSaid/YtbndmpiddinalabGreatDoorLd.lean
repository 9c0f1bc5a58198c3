/- The abstract evaluator and plain laws, part 4. Condition: the table of types is the program's. -/
import Derived.Test.YtbndmpiddinalabGreatDoorLc
set_option linter.defProp false
set_option linter.unusedSimpArgs false
set_option linter.unusedVariables false
namespace Go.Av.Ap
def Rs.st{α:Type}:Rs α->Ms
 |.ok _ m=>m
 |.er _ m=>m
def Rs.on{α:Type}(f:Ms->Ms):Rs α->Rs α
 |.ok a m=>.ok a (f m)
 |.er e m=>.er e (f m)
def xG{α:Type}(y:X α):X α:=.get fun m=>if m.fuel<=0 then .er 16 else .upd (fun m=>{ m with fuel:=m.fuel-1 }) y
def T8(n a:Int):X Val:=.get fun m=>.upd (fun m=>{ m with world:=m.world.tail,deeds:=m.deeds++[⟨n,a,m.world.headD 0⟩] }) (.ok (cp (m.world.headD 0)))
structure Closed (p:List Mod) (Q:Int->(α:Type)->X α->Prop):Prop where
 ok:∀(o:Int)(α:Type)(a:α),Q o α (.ok a)
 er:∀(o:Int)(α:Type)(e:Int),e≠0->Q o α (.er e)
 bind:∀(o:Int)(α β:Type)(x:X α)(f:α->X β),Q o α x->(∀a,Q o β (f a))->Q o β (x.bind f)
 tick:∀(o:Int)(α:Type)(y:X α),Q o α y->Q o α (xG y)
 act:∀(o n a:Int),Q o Val (T8 n a)
 set:∀(o:Int)(k:Nat)(v:Val),¬o<0->Q o Val (.upd (fun m=>{ m with state:=setSt m.state o.toNat k v }) (.ok v))
 get:∀(o:Int)(k:Nat),Q o Val (.get fun m=>.ok (uj m.state o.toNat k))
 enter:∀(o a:Int)(r:Ev)(f:Fun)(l:List Val),¬a<0->a.toNat<p.length->f∈(p[a.toNat]?.getD default).funcs->(∀o ns vs e,Q o Val (r o ns vs e))->Q o Val (jO p r a f l)
def pm{p:List Mod}{a:Int}{s:aW}{f:Fun}(h:lU p a s=some f):¬a<0/\a.toNat<p.length/\f∈(p[a.toNat]?.getD default).funcs:=by
 unfold lU at h;by_cases h1:a<0
 ·simp[h1]at h
 ·rw[Xr h1]at h;simp only at h;split at h
  ·cases h
  ·have hm:=X8 h;refine⟨h1,?_,hm⟩;rcases XT a.toNat p.length with k|k
   ·exact k
   ·rw[List.getElem?_eq_none k]at hm;cases hm
def RF{Q:Int->(α:Type)->X α->Prop}{o:Int}{α:Type}{c:Prop}[Decidable c](x y:X α)(h1:Q o α x)(h2:Q o α y):Q o α (if c then x else y):=by
 grind
section
variable {p:List Mod} {Q:Int->(α:Type)->X α->Prop} (C:Closed p Q)
include C
theorem Closed.boolX{o:Int}{r:X Val}(h:Q o Val r):Q o Bool (boolX r):=by
 refine C.bind _ _ _ _ _ h fun v=>?_;split
 ·exact C.ok _ _ _
 ·exact C.er _ _ _ ZT
theorem Closed.listX{o:Int}{r:Exp->X Val}(h:∀e,Q o Val (r e)):∀l,Q o (List Val) (listX r l)
 |[]=>C.ok _ _ _
 |e:: l=>C.bind _ _ _ _ _ (h e) fun _=>C.bind _ _ _ _ _ (Closed.listX h l) fun _=>C.ok _ _ _
theorem Closed.step{r:Ev}(h:∀o ns vs e,Q o Val (r o ns vs e))(o:Int)(ns:List aW)(vs:List Val)(e:Exp):Q o Val (qx p r o ns vs e):=by
 unfold qx;refine C.tick _ _ _ ?_;have B:=fun{α β:Type} {x:X α} {f:α->X β}=>C.bind o α β x f;have I:=@RF Q o;have er:=fun(α:Type) n (h:n≠0)=>C.er o α n h;have ok:=fun(α:Type) (a:α)=>C.ok o α a;refine I _ _ (er _ _ ZT) (I _ _ (ok _ _) (I _ _ (I _ _ (ok _ _) (er _ _ ZT)) (I _ _ ?_ (I _ _ ?_ (I _ _ ?_ (I _ _ ?_ (I _ _ ?_ (I _ _ ?_ (I _ _ ?_ (I _ _ ?_ (I _ _ ?_ (I _ _ ?_ ?_))))))))))))
 ·grind
 ·refine B (h _ _ _ _) fun a=>B (h _ _ _ _) fun b=>?_;unfold oZ
  grind
 ·exact B (C.boolX (h _ _ _ _)) fun a=>I _ _ (ok _ _) (B (C.boolX (h _ _ _ _)) fun b=>ok _ _)
 ·exact B (C.boolX (h _ _ _ _)) fun a=>ok _ _
 ·exact B (C.boolX (h _ _ _ _)) fun a=>I _ _ (h _ _ _ _) (h _ _ _ _)
 ·grind
 ·unfold mT;exact I _ _ (I _ _ (B (C.listX (fun e=>h _ _ _ e) _) fun vs=>I _ _ (ok _ _) (er _ _ ZT)) (er _ _ ZT)) (er _ _ ZT)
 ·grind
 ·unfold tC;simp only;split
  ·grind
  ·rename_i f hf;obtain⟨h1,h2,h3⟩:=pm hf;exact I _ _ (I _ _ (B (C.listX (fun e=>h _ _ _ e) _) fun l=>C.enter _ _ _ _ _ h1 h2 h3 h) (er _ _ ZT)) (er _ _ ZT)
 ·unfold BC;exact B (h _ _ _ _) fun v=>I _ _ (I _ _ (C.act _ _ _) (er _ _ ZT)) (er _ _ ZT)
 ·unfold C1;split
  ·grind
  ·rename_i ho;exact I _ _ (er _ _ ZT) (I _ _ (B (h _ _ _ _) fun v=>C.set _ _ _ ho) (C.get _ _))
theorem Closed.eval:∀(n:Nat)(o:Int)(ns:List aW)(vs:List Val)(e:Exp),Q o Val (cM p n o ns vs e)
 |0,_,_,_,_=>C.er _ _ _ ZT
 |n+1,o,ns,vs,e=>C.step (fun o ns vs e=>Closed.eval n o ns vs e) o ns vs e
end
def Tm(α:Type)(x:X α):Prop:=∀m e s,x m= .er e s->e≠0
def qP(p:List Mod)(a:Int)(f:Fun)(l:List Val)(m:Ms):Ms:={ m with calls:=if f.pub=true then m.calls++[⟨(p[a.toNat]?.getD default).name,f.name,l⟩]else m.calls,frames:=m.frames+1 }
def Ce(p:List Mod):Closed p fun _=>Tm where
 ok:=fun _ _ a m e s h=>by cases h
 er:=fun _ _ a h m e s h2=>by cases h2;exact h
 bind:=fun _ _ _ x f hx hf m e s h=>by
  unfold X.bind at h;cases hr:x m with
  |er c t=>rw[hr]at h;cases h;exact hx m _ _ hr
  |ok a t=>rw[hr]at h;exact hf a t e s h
 tick:=fun _ _ y hy m e s h=>by
  unfold xG X.get at h;by_cases hf:m.fuel<=0
  ·simp only[hf,XF]at h;cases h;decide
  ·simp only[hf,Xy]at h;exact hy _ e s h
 act:=fun _ n a m e s h=>by cases h
 set:=fun _ k v _ m e s h=>by cases h
 get:=fun _ k m e s h=>by cases h
 enter:=fun _ a r f l _ _ _ hr m e s h=>by
  unfold jO X.get at h;by_cases hf:m.frames<60
  ·simp only[hf,XF,X.upd,X.bind]at h;cases hq:r a (f.params.map (·.1)) l f.body { m with calls:=if f.pub=true then m.calls++[⟨(p[a.toNat]?.getD default).name,f.name,l⟩]else m.calls,frames:=m.frames+1 }with
   |ok b t=>rw[hq]at h;cases h
   |er c t=>rw[hq]at h;cases h;exact hr _ _ _ _ _ _ _ hq
  ·simp only[hf,Xy]at h;cases h;decide
theorem zX{p:List Mod}{n:Nat}{o:Int}{ns:List aW}{vs:List Val}{e:Exp}{m s:Ms}{c:Int}(h:cM p n o ns vs e m= .er c s):c≠0:=(Ce p).eval n o ns vs e m c s h
def xU(m:Ms):Prop:=(∀l∈m.state,∀v∈l,cP 4 v=true)/\(∀c∈m.calls,∀v∈c.args,cP 4 v=true)
def nW(m:Ms):List Nat:=m.state.map List.length
def RQ{α:Type}(x:X α)(Q:α->Prop):Prop:=∀m,xU m->xU (x m).st/\nW (x m).st=nW m/\∀a s,x m= .ok a s->Q a
theorem kb{α:Type}{a:α}{Q:α->Prop}(h:Q a):RQ (.ok a) Q:=fun m hm=>⟨hm,rfl,fun b s e=>by cases e;exact h⟩
def iK{α:Type}{e:Int}{Q:α->Prop}:RQ (.er e) Q:=fun m hm=>⟨hm,rfl,fun b s e=>by cases e⟩
theorem fw{α β:Type}{x:X α}{f:α->X β}{Q:α->Prop}{R:β->Prop}(hx:RQ x Q)(hf:∀a,Q a->RQ (f a) R):RQ (x.bind f) R:=by
 intro m hm;obtain⟨h1,h2,h3⟩:=hx m hm;cases hr:x m with
 |er e s=>
  rw[hr]at h1 h2;simp only[X.bind,hr];exact⟨h1,h2,fun b s e=>by cases e⟩
 |ok a s=>
  rw[hr]at h1 h2;obtain⟨g1,g2,g3⟩:=hf a (h3 a s hr) s h1;simp only[X.bind,hr];exact⟨g1,g2.trans h2,g3⟩
def cS{α:Type}{c:Prop}[Decidable c]{x y:X α}{Q:α->Prop}(h1:c->RQ x Q)(h2:¬c->RQ y Q):RQ (if c then x else y) Q:=by
 grind
abbrev Rv(v:Val):Prop:=cP 4 v=true
theorem fD(n:Int):Rv (cp n):=by simp_all[Rv,cp,cP]
theorem dH(b:Bool):Rv (dS b):=by cases b<;>rfl
theorem hG:(l:List Val)->(d:Nat)->(dL l<=d↔∀v∈l,dO v<=d)
 |[],d=>by simp[dL]
 |v:: l,d=>by
  simp only[dL,X7,forall_eq_or_imp];rw[<- hG l d];omega
def jc(v:Val):dO v=dL v.values+1:=by cases v;rfl
theorem wV:∀(d:Nat)(v:Val),cP (d+1) v=true->dO v<=d->cP d v=true
 |0,v,_,hl=>by rw[jc]at hl;omega
 | d+1,v,h,hl=>by
  rw[jc]at hl;unfold cP at h|-;split at h
  ·grind
  ·rename_i hk;rw[Xr hk];simp only[Xu,XJ]at h|-;exact⟨h.1,fun x hx=>wV d x (h.2 x hx) ((hG v.values d).1 ZS x hx)⟩
theorem xy{ns:List aW}{vs:List Val}(hl:ns.length=vs.length)(ha:asc ns=true)(h8:ns.length<=8)(hv:∀v∈vs,Rv v)(h4:dO (.mk 2 0 ns vs)<=4):Rv (.mk 2 0 ns vs):=by
 have h3:dL vs<=3:=by
  rw[jc]at h4;have:(Val.mk 2 0 ns vs).values=vs:=rfl;rw[this]at h4;omega
 have h5:=(hG vs 3).1 h3;unfold Rv cP;simp_all[wV]
theorem DC:∀(d:Nat)(v:Val),cP d v=true->cP (d+1) v=true
 |0,v,h=>by simp[cP]at h
 | d+1,v,h=>by
  unfold cP at h|-;split at h
  ·grind
  ·rename_i hk;rw[Xr hk];simp only[Xu,XJ]at h|-;exact⟨h.1,fun x hx=>DC d x (h.2 x hx)⟩
def sC{v x:Val}(h:Rv v)(hx:x∈v.values):Rv x:=by
 unfold Rv cP at h;split at h
 ·grind
 ·simp only[Xu,XJ]at h;exact DC 3 x (h.2 x hx)
def CP{v:Val}(h:Rv v):v.names.length=v.values.length:=by
 unfold Rv cP at h
 grind
theorem AH:∀(ns:List aW)(vs:List Val)(s:aW)(v:Val),lC ns vs s=some v->v∈vs
 | n:: ns,w:: vs,s,v,h=>by
  unfold lC at h;split at h
  ·rename_i x hx;cases h;exact YS _ (AH ns vs s v hx)
  grind
 |[],_,_,_,h=>by simp[lC]at h
 |_:: _,[],_,_,h=>by simp[lC]at h
theorem pk:∀(ns:List aW)(vs:List Val)(s:aW)(v:Val),gO ns vs s=some v->v∈vs
 |n:: ns,w:: vs,s,v,h=>by
  unfold gO at h;split at h
  ·grind
  ·exact YS _ (pk ns vs s v h)
 |[],_,_,_,h=>by simp[gO]at h
 |_:: _,[],_,_,h=>by simp[gO]at h
def nk(ns:List aW)(vs:List Val):Prop:=ns.length=vs.length/\∀v∈vs,Rv v
theorem tb{r:X Val}(h:RQ r Rv):RQ (boolX r) fun _=>True:=fw h fun _ _=>cS (fun _=>kb trivial) (fun _=>iK)
theorem yU{r:Exp->X Val}(h:∀e,RQ (r e) Rv):∀l,RQ (listX r l) fun vs=>vs.length=l.length/\∀v∈vs,Rv v
 |[]=>kb ⟨rfl,fun v hv=>by cases hv⟩
 |e:: l=>fw (h e) fun v hv=>fw (yU h l) fun vs hvs=>kb ⟨by simp[hvs.1],fun w hw=>by
  grind⟩
def Aj{st:List (List Val)}(h:∀l∈st,∀v∈l,Rv v)(i k:Nat)(hd:Rv default):Rv (uj st i k):=by
 unfold uj;rw[Yg,Yg];cases h1:st[i]? with
 |none=>simpa using hd
 |some l=>
  simp only[YM];cases h2:l[k]? with
  |none=>simpa using hd
  |some v=>exact h l (X8 h1) v (X8 h2)
def Ie{p:List Mod}{r:Ev}{a:Int}{f:Fun}{l:List Val}(hr:∀o ns vs e,nk ns vs->RQ (r o ns vs e) Rv)(hl:l.length=f.params.length)(hv:∀v∈l,Rv v):RQ (jO p r a f l) Rv:=by
 have e0:∀m,jO p r a f l m=if m.frames<60 then((r a (f.params.map (·.1)) l f.body).bind fun v=>.upd (fun m=>{ m with frames:=m.frames-1 }) (.ok v)) (qP p a f l m)else .er 6 m:=fun m=>by
  unfold jO X.get;by_cases h:m.frames<60
  ·simp only[h,XF];rfl
  ·simp only[h,Xy];rfl
 intro m hm;rw[e0];split
 ·have hb:RQ ((r a (f.params.map (·.1)) l f.body).bind fun v=>.upd (fun m=>{ m with frames:=m.frames-1 }) (.ok v)) Rv:=
   fw (hr _ _ _ _ ⟨by simp[hl],hv⟩) fun _ hv m hm=>⟨hm,rfl,fun a s e=>by cases e;exact hv⟩
  have hm':xU (qP p a f l m):=by
   refine⟨hm.1,fun c hc=>?_⟩;simp only[qP]at hc;split at hc
   ·rcases Ya.1 hc with h|h
    ·exact hm.2 c h
    grind
   ·exact hm.2 c hc
  exact hb _ hm'
 ·exact⟨hm,rfl,fun _ _ e=>by cases e⟩
def right_step{p:List Mod}{r:Ev}(hr:∀o ns vs e,nk ns vs->RQ (r o ns vs e) Rv)(o:Int)(ns:List aW)(vs:List Val)(e:Exp)(hs:nk ns vs):RQ (qx p r o ns vs e) Rv:=by
 have tick:∀y:X Val,RQ y Rv->RQ (xG y) Rv:=fun y hy m hm=>by
  unfold xG X.get;by_cases h:m.fuel<=0
  ·simp only[h,XF];exact⟨hm,rfl,fun _ _ e=>by cases e⟩
  ·simp only[h,Xy];exact hy { m with fuel:=m.fuel-1 } hm
 have H:=fun e=>hr o ns vs e hs;refine tick _ ?_;refine cS (fun _=>iK) fun _=>cS (fun _=>kb (fD _)) fun _=>cS (fun _=>cS (fun _=>kb (dH _)) fun _=>iK) fun _=>cS (fun _=>?_) fun _=>
  cS (fun _=>?_) fun _=>cS (fun _=>?_) fun _=>cS (fun _=>?_) fun _=>cS (fun _=>?_) fun _=>cS (fun _=>?_) fun _=>cS (fun _=>?_) fun _=>cS (fun _=>?_) fun _=>
  cS (fun _=>?_) fun _=>cS (fun _=>?_) fun _=>?_
 ·split
  ·rename_i v hv;exact kb (hs.2 v (AH _ _ _ _ hv))
  ·exact iK
 ·refine fw (H _) fun a ha=>fw (H _) fun b hb=>?_;unfold oZ;exact cS (fun _=>cS (fun _=>kb (dH _)) fun _=>iK) fun _=>cS (fun _=>cS (fun _=>kb (fD _)) fun _=>cS (fun _=>kb (fD _)) fun _=>cS (fun _=>kb (fD _)) fun _=>kb (dH _)) fun _=>iK
 ·exact fw (tb (H _)) fun a _=>cS (fun _=>kb (dH _)) fun _=>fw (tb (H _)) fun b _=>kb (dH _)
 ·grind [fw,tb,kb,dH]
 ·exact fw (tb (H _)) fun a _=>cS (fun _=>H _) fun _=>H _
 ·exact fw (H _) fun v hv=>hr _ _ _ _ ⟨by simp[hs.1],fun w hw=>by
   rcases Ya.1 hw with h|h
   ·exact hs.2 w h
   grind⟩
 ·unfold mT;exact cS (fun h1=>cS (fun h2=>fw (yU H _) fun vs hvs=>cS (fun h3=>kb (xy ZU h1.2 h2 hvs.2 h3)) fun _=>iK) fun _=>iK) fun _=>iK
 ·refine fw (H _) fun v hv=>?_;split
  ·rename_i x hx;exact cS (fun _=>kb (sC hv (pk _ _ _ _ hx))) fun _=>iK
  ·exact iK
 ·unfold tC;simp only;split
  ·exact iK
  ·rename_i f hf;exact cS (fun _=>cS (fun h2=>fw (yU H _) fun l hl=>Ie hr (by rw[hl.1,h2]) hl.2) fun _=>iK) fun _=>iK
 ·unfold BC;exact fw (H _) fun v hv=>cS (fun _=>cS (fun _ m hm=>⟨hm,rfl,fun a s e=>by cases e;exact fD _⟩) fun _=>iK) fun _=>iK
 ·unfold C1;refine cS (fun _=>iK) fun ho=>?_;simp only;refine cS (fun _=>iK) fun hi=>cS (fun _=>fw (H _) fun v hv m hm=>⟨⟨?_,hm.2⟩,?_,fun a s e=>by cases e;exact hv⟩) fun _ m hm=>⟨hm,rfl,fun a s e=>by cases e;exact Aj hm.1 _ _ (fD 0)⟩
  ·intro l hl w hw;simp only[X.upd,X.ok,Rs.st,setSt]at hl;obtain⟨j,hj⟩:=Zk.1 hl;rw[Zp]at hj;cases h1:m.state[j]? with
   |none=>simp[h1]at hj
   |some l0=>
    rw[h1]at hj;simp only[Option.map_eq_map,YC,Xq]at hj;have hold:=hm.1 l0 (X8 h1)
    grind
  ·simp only[X.upd,X.ok,Rs.st,nW,setSt];apply YJ
   grind
theorem pz{p:List Mod}:∀(n:Nat)(o:Int)(ns:List aW)(vs:List Val)(e:Exp),nk ns vs->RQ (cM p n o ns vs e) Rv
 |0,_,_,_,_,_=>iK
 |n+1,o,ns,vs,e,hs=>right_step (fun o ns vs e h=>pz n o ns vs e h) o ns vs e hs
def vD(p:List Mod):Bool:=(List.range p.length).any fun i=>(p.take i).any fun m=>m.name== (p[i]?.getD default).name
def jT(p:List Mod):Int:=if 20<p.length then 6 else if vD p=true then 5 else 0
def fS(world:List Int)(fuel:Int)(st:List (List Val)):Ms:=⟨fuel,0,world,[],[],st⟩
def yu(e:Exp)(ns:List aW)(vs:List Val):Rs Val:=
 if ns.length=vs.length/\vs.all (cP 4)=true then cM [] 100000 (-1) ns vs e (fS [] 100000 [])else .er 1 (fS [] 100000 [])
def oO:List Exp->Except Int (List Val)
 |[]=>.ok []
 | e:: es=>match yu e [] []with
  |.er c _=>.error c
  |.ok v _=>match oO es with
   |.error c=>.error c
   |.ok vs=>.ok (v:: vs)
def lD:List Mod->Except Int (List Vars)
 |[]=>.ok []
 | m:: ms=>if m.init.length=m.vars.length then(match oO m.init with
   |.error c=>.error c
   |.ok vs=>match lD ms with
    |.error c=>.error c
    |.ok r=>.ok (⟨m.name,vs⟩:: r))
  else .error 13
def lE(p:List Mod):Except Int (List Vars):=if jT p=0 then lD p else .error (jT p)
def dX(p:List Mod)(st:List Vars):Bool:=iV (fun(m:Mod) (v:Vars)=>v.module== m.name&&(v.values.length== m.vars.length&&v.values.all (cP 4))) p st
theorem wu{α β:Type}{F:α->β->Bool}:{a:List α} ->{b:List β} ->iV F a b=true->a.length=b.length/\∀(i:Nat)(x:α)(y:β),a[i]? = some x->b[i]? = some y->F x y=true
 |[],[],_=>⟨rfl,fun i x y h=>by simp at h⟩
 |[],_:: _,h=>by simp[iV]at h
 |_:: _,[],h=>by simp[iV]at h
 |x:: a,y:: b,h=>by
  simp only[iV,Xu]at h;obtain⟨h1,h2⟩:=wu h.2
  grind
def jp{p:List Mod}{st:List Vars}(h:dX p st=true):st.length=p.length/\(∀x∈st,∀v∈x.values,Rv v)/\∀(i:Nat)(m:Mod)(x:Vars),p[i]? = some m->st[i]? = some x->x.module=m.name/\x.values.length=m.vars.length:=by
 obtain⟨h1,h2⟩:=wu h;refine⟨h1.symm,fun x hx v hv=>?_,fun i m x hm hx=>?_⟩
 ·obtain⟨i,hi⟩:=Zk.1 hx;have hlt:i<st.length:=(XA.1 hi).1
  have:=h2 i (p[i]'(ZS)) x (XE _) hi
  grind
 grind
theorem sg:(l:List Exp)->(vs:List Val)->oO l= .ok vs->vs.length=l.length/\∀v∈vs,Rv v
 |[],vs,h=>by cases h;grind
 | e :: es,vs,h=>by
  unfold oO at h;split at h
  ·cases h
  ·rename_i v s hv;split at h
   ·cases h
   ·rename_i ws hws;cases h;obtain⟨h1,h2⟩:=sg es ws hws;refine⟨by simp[h1],fun w hw=>?_⟩;rcases X7.1 hw with rfl|hw
    ·unfold yu at hv;rw[Xv ZV]at hv;exact (pz 100000 (-1) [] [] e ⟨rfl,fun v hv=>by cases hv⟩ (fS [] 100000 []) ⟨fun l hl=>by simp[fS]at hl,fun l hl=>by simp[fS]at hl⟩).2.2 _ _ hv
    grind
theorem nF:(p:List Mod)->(st:List Vars)->lD p= .ok st->dX p st=true
 |[],st,h=>by cases h;rfl
 | m :: ms,st,h=>by
  unfold lD at h;split at h
  ·rename_i hl;split at h
   ·cases h
   ·rename_i vs hvs;split at h
    ·cases h
    ·rename_i r hr;cases h;obtain⟨h1,h2⟩:=sg _ _ hvs
     have:=nF ms r hr
     simp_all[dX,iV]
  ·cases h
def ue{p:List Mod}{st:List Vars}(h:lE p= .ok st):dX p st=true:=by
 grind [lE,nF]
theorem xc:(l:List Exp)->(c:Int)->oO l= .error c->c≠0
 |[],c,h=>by cases h
 | e:: es,c,h=>by
  unfold oO at h;split at h
  ·grind [yu,zX]
  ·split at h
   ·rename_i c' hc;cases h;exact xc es _ hc
   ·cases h
theorem ud:(p:List Mod)->(c:Int)->lD p= .error c->c≠0
 |[],c,h=>by cases h
 | m :: ms,c,h=>by
  unfold lD at h;split at h
  ·split at h
   ·grind [xc]
   ·split at h
    ·rename_i c' hc;cases h;exact ud ms _ hc
    ·cases h
  grind
theorem uf{p:List Mod}{c:Int}(h:lE p= .error c):c≠0:=by
 grind [lE,ud]
end Go.Av.Ap
namespace Go.Av.Ap
open Go Go.Av
structure Frm where
 mod:aW
 fn:aW
 pc:Int
 locals:List Val
 stack:List Val
 deriving Inhabited
def Frm.cells(f:Frm):List AV:=[.str f.mod,.str f.fn,.int .i64 f.pc,vals f.locals,vals f.stack]
def Frm.av(f:Frm):AV:=.agg f.cells
def iO(l:List Frm):AV:=.sl (l.map Frm.av)
structure Proc where
 mods:List Mod
 state:List Vars
 frames:List Frm
 world:List Int
 out:Out
 ended:Bool
structure Fnc where
 at_:Int
 pub:Bool
 cod:Cod
 hts:List Int
def fj(p:List Mod)(s t:aW):Option Fnc:=
 match lU p (cV p s) t with
 |none=>none
 |some f=>match dm (dw (p[(cV p s).toNat]?.getD default).vars f)with
  |none=>none
  |some h=>some ⟨cV p s,f.pub,dw (p[(cV p s).toNat]?.getD default).vars f,h⟩
def jE(p:List Mod):Int:=
 if jT p≠0 then jT p else if p.all ie=false then 1
 else if p.all (fun m=>m.funcs.all fun f=>(dm (dw m.vars f)).isSome)=false then 13 else 0
def fu(l:List Val)(n:Int):Bool:=decide ((l.length:Int)=n)&&l.all (cP 4)
def wb(s t:aW):aW:=if s=[]then t else s
def i9(p:List Mod)(f:Frm)(next:Option Frm):Bool:=
 match fj p f.mod f.fn with
 |none=>false
 | some x=>(decide (0<=f.pc)&&decide (f.pc<x.cod.code.length))&&fu f.locals x.cod.locals &&
  match next with
  |none=>decide (0<=x.hts[f.pc.toNat]!)&&fu f.stack x.hts[f.pc.toNat]!
  |some g=>decide (f.pc≠0)&&fu f.stack (x.hts[f.pc.toNat]! - 1) &&
   (decide (x.cod.code[(f.pc-1).toNat]!.op=14)&&decide (wb x.cod.code[(f.pc-1).toNat]!.m f.mod=g.mod)&&decide (x.cod.code[(f.pc-1).toNat]!.s=g.fn))
def eF(p:List Mod):List Frm->Option Frm->Bool
 |[],_=>true
 |f:: l,nx=>i9 p f (l.head?.or nx)&&eF p l nx
def iE(p:List Mod)(l:List Frm):Bool:=eF p l none
def sr(o:Out):Bool:=o.err== 0&&o.value.kind== 0&&o.value.n== 0&&decide (o.value.names.length+o.value.values.length+o.state.length=0)
def gR(p:Proc):Bool:=decide (jE p.mods=0)&&dX p.mods p.state&&(p.ended== p.frames.isEmpty)&&decide (p.frames.length<=60)&&(p.ended||sr p.out)&&iE p.mods p.frames
def yp(p:Proc)(e:Int)(v:Val):Proc:={ p with ended:=true,frames:=[],out:={ p.out with err:=e,value:=v,state:=p.state } }
def F9(p:Proc)(fs:List Frm)(s:aW)(x:Fnc)(args:List Val):Proc:=
 { p with
  frames:=fs++[⟨s,x.cod.func,0,args++List.replicate (x.cod.locals.toNat-args.length) (cp 0),[]⟩]
  out:={ p.out with calls:=if x.pub=true then p.out.calls++[⟨s,x.cod.func,args⟩]else p.out.calls } }
def BJ(op:Int)(a b:Val):Option Val:=
 if(a.kind=0/\b.kind=0)\/(op=8/\a.kind=1/\b.kind=1)then
  some (if op=4 then cp (wr (a.n+b.n))else if op=5 then cp (wr (a.n-b.n))else if op=6 then cp (wr (a.n*b.n))else if op=7 then dS (decide (a.n<b.n))else dS (a.n== b.n))
 else none
def mW(p:Proc)(fs:List Frm)(f:Frm)(i:Ins):Except Int Proc:=
 let n:=f.stack.length;let put:=fun(g:Frm)=>Except.ok (ε:=Int) { p with frames:=fs++[g] };let push:=fun(k:Nat) (v:Val)=>put { f with stack:=f.stack.take (n-k)++[v] };let v:=f.stack[n-1]!
 if i.op=0 then push 0 (cp i.a)
 else if i.op=1 then push 0 (dS (i.a== 1))
 else if i.op=2 then push 0 f.locals[i.a.toNat]!
 else if i.op=3 then put { f with locals:=f.locals.set i.a.toNat v,stack:=f.stack.take (n-1) }
 else if i.op=19 then put { f with stack:=f.stack.take (n-1) }
 else if i.op=10 then put { f with pc:=i.a }
 else if i.op=11 then(if v.kind=1 then put { f with stack:=f.stack.take (n-1),pc:=if v.n=0 then i.a else f.pc }else .error 13)
 else if i.op=12 then
  (if dO (.mk 2 0 i.names (f.stack.drop (n-i.names.length)))<=4 then push i.names.length (.mk 2 0 i.names (f.stack.drop (n-i.names.length)))else .error 6)
 else if i.op=14 then
  (match fj p.mods (wb i.m f.mod) i.s with
  |none=>.error 12
  |some x=>if i.m≠[]/\x.pub=false then .error 12
   else if x.cod.params≠i.a then .error 13
   else if 60<=fs.length+1 then .error 6
   else .ok (F9 p (fs++[{ f with stack:=f.stack.take (n-i.a.toNat) }]) (wb i.m f.mod) x (f.stack.drop (n-i.a.toNat))))
 else if i.op=16 then
  (if i.a<(p.state[(cV p.mods f.mod).toNat]?.getD default).values.length then push 0 (p.state[(cV p.mods f.mod).toNat]?.getD default).values[i.a.toNat]! else .error 12)
 else if i.op=17 then
  (if i.a<(p.state[(cV p.mods f.mod).toNat]?.getD default).values.length then .ok { p with frames:=fs++[f],state:=p.state.modify (cV p.mods f.mod).toNat fun w=>{ w with values:=w.values.set i.a.toNat v } }else .error 12)
 else if i.op=9 then(if v.kind=1 then push 1 (dS (v.n== 0))else .error 13)
 else if i.op=13 then
  (match gO v.names v.values i.s with
  |some x=>if v.kind=2 then push 1 x else .error 13
  |none=>.error 13)
 else if i.op=15 then
  (if v.kind=0 then .ok { p with
   frames:=fs++[{ f with stack:=f.stack.take (n-1)++[cp (p.world.headD 0)] }]
   world:=p.world.tail
   out:={ p.out with deeds:=p.out.deeds++[⟨i.a,v.n,p.world.headD 0⟩] } }else .error 13)
 else(match BJ i.op f.stack[n-2]! v with
  |some x=>push 2 x
  |none=>.error 13)
def vw(p:Proc)(fs:List Frm)(f:Frm):Proc:=
 let i:=((fj p.mods f.mod f.fn).map fun x=>x.cod.code[f.pc.toNat]!).getD default
 if i.op=18 then
  (if fs=[]then yp p 0 f.stack[f.stack.length-1]!
  else{ p with frames:=fs.dropLast++[{ fs[fs.length-1]! with stack:=fs[fs.length-1]!.stack++[f.stack[f.stack.length-1]!] }] })
 else match mW p fs { f with pc:=f.pc+1 } i with
  |.ok q=>q
  |.error e=>yp p e default
def bZ(p:Proc):Proc:=if p.frames=[]then p else vw p p.frames.dropLast p.frames[p.frames.length-1]!
def jI:Nat->Proc->Proc
 |0,p=>p
 |n+1,p=>if p.ended=true then p else jI n (bZ p)
def gB(p:List Mod)(module fn:aW)(args:List Val)(world:List Int):Except Int Proc:=
 if jE p≠0 then .error (jE p)else
 match lE p with
 |.error e=>.error e
 |.ok st=>match fj p module fn with
  |none=>.error 4
  |some x=>if fu args x.cod.params=true then .ok (F9 ⟨p,st,[],world,⟨0,default,[],[],[]⟩,false⟩ [] module x args)else .error 13
end Go.Av.Ap
namespace Go.Av.Ap
theorem ap{α β:Type}{m:M α}{f:α->M β}{h h':Hp}{a:α}(e:m h= .ok a h'):au m f h=f a h':=by simp only[au,e]
def Dl{α β:Type}{m:M α}{f:α->M β}{h h':Hp}{v:AV}(e:m h= .pan v h'):au m f h= .pan v h':=by simp only[au,e]
def aw(l:List Val):List AV:=l.flatMap fun v=>aa v.av
theorem aX(l:List Val):(aw l).length=l.length*4:=by
 induction l with
 |nil=>rfl
 |cons v l ih=>simp only[aw,YB,XL]at ih |-;rw[ih];simp;omega
theorem kA(a b:List Val):aw (a++b)=aw a++aw b:=by simp[aw]
def iN{l:List Val}{k:Nat}(h:k<l.length):((aw l).drop (k*4)).take 4=aa (l[k]).av:=by
 induction l generalizing k with
 |nil=>simp at h
 | cons v l ih=>
  cases k with
  |zero=>simp[aw]
  |succ k=>
   have:=ih (k:=k) (by simpa using h)
   simp only[aw,YB]at this |-;have e:(k+1)*4=(aa v.av).length+k*4:=by simp;omega
   rw[e,List.drop_append,List.getElem_cons_succ]
   grind [List.drop_of_length_le]
def kB{l:List Val}{k:Nat}(h:k<l.length)(v:Val):setCells (aw l) (k*4) (aa v.av)=aw (l.set k v):=by
 induction l generalizing k with
 |nil=>simp at h
 | cons w l ih=>
  cases k with
  |zero=>
   simp only[setCells,aw,YB,Zo,Yl,X1,Zv];simp_all
  |succ k=>
   have:=ih (k:=k) (by simpa using h)
   simp only[setCells,aw,YB,Zw]at this |-;have e:(k+1)*4=(aa w.av).length+k*4:=by simp;omega
   have e2:(aa w.av).length+k*4+(aa v.av).length-(aa w.av).length=k*4+(aa v.av).length:=ZS
   simp_all
def cQ(l:List Deed):List AV:=l.flatMap fun d=>[.int .i64 d.effect,.int .i64 d.arg,.int .i64 d.answer]
def xO(tag:Nat->Nat)(k:Nat)(h:Hp)(l:List Val)(v:AV):Prop:=(v=vals l\/l=[]/\v= .he)\/∃r,v= .hs r 0 l.length 4 true/\tag r=k/\h[r]? = some (aw l)
def gY(tag:Nat->Nat)(h:Hp):List Call->List AV->Prop
 |[],cs=>cs=[]
 |c:: l,cs=>∃av rest,cs= .str c.module:: .str c.func:: av:: rest/\xO tag 4 h c.args av/\gY tag h l rest
def dB(tag:Nat->Nat)(h:Hp):Nat->List aW->List (List Val)->List AV->Prop
 |_,[],[],cs=>cs=[]
 |i,n:: ns,l:: st,cs=>∃av rest,cs= .str n:: av:: rest/\((l=[]/\(av= .sl []\/av= .he))\/∃r,av= .hs r 0 l.length 4 true/\tag r=6+i/\h[r]? = some (aw l))/\dB tag h (i+1) ns st rest
 |_,_,_,_=>False
def I0(tag:Nat->Nat)(k sz n:Nat)(cells:List AV->Prop)(v:AV)(h:Hp):Prop:=(n=0/\v= .hn)\/∃q cs,v= .hs q 0 n sz true/\0<n/\tag q=k/\h[q]? = some cs/\cs.length=n*sz/\cells cs
structure SNm where
 names:List aW
 sv:AV
 cells:List AV
 told:Bool
structure RepT (row:Ms->AV->AV->AV->List AV) (nm:SNm) (tag:Nat->Nat) (dv cv sv:AV) (m:Ms) (h:Hp):Prop where
 r0:h[0]? = some (row m dv cv sv)
 t0:tag 0=0
 ds:I0 tag 2 3 m.deeds.length (fun cs=>cs=cQ m.deeds) dv h
 cs:I0 tag 3 3 m.calls.length (fun cs=>gY tag h m.calls cs) cv h
 st:I0 tag 5 2 m.state.length (fun cs=>cs=nm.cells/\dB tag h 0 nm.names m.state cs) sv h
 sve:sv=nm.sv
 wok:nm.told=true->m.world=[]
def WC(row:Ms->AV->AV->AV->List AV)(nm:SNm)(m:Ms)(h:Hp):Prop:=∃tag dv cv sv,RepT row nm tag dv cv sv m h
def Kp(tag tag':Nat->Nat)(ks:Nat->Prop)(h h':Hp):Prop:=∀r cs,h[r]? = some cs->¬ks (tag r)->h'[r]? = some cs/\tag' r=tag r
def xO.keep{tag tag':Nat->Nat}{ks:Nat->Prop}{h h':Hp}(K:Kp tag tag' ks h h'){k:Nat}(hk:¬ks k){l:List Val}{v:AV}(H:xO tag k h l v):xO tag' k h' l v:=by
 rcases H with H|⟨r,h1,h2,h3⟩
 ·exact .inl H
 ·have:=K r _ h3 ZU
  exact .inr ⟨r,h1,this.2.trans h2,this.1⟩
theorem gY.keep{tag tag':Nat->Nat}{ks:Nat->Prop}{h h':Hp}(K:Kp tag tag' ks h h')(hk:¬ks 4):{l:List Call} ->{cs:List AV} ->gY tag h l cs->gY tag' h' l cs
 |[],_,H=>H
 |_:: _,_,⟨av,rest,h1,h2,h3⟩=>⟨av,rest,h1,h2.keep K hk,h3.keep K hk⟩
theorem dB.keep{tag tag':Nat->Nat}{ks:Nat->Prop}{h h':Hp}(K:Kp tag tag' ks h h')(hk:∀i,¬ks (6+i)):{i:Nat} ->{nm:List aW} ->{st:List (List Val)} ->{cs:List AV} ->dB tag h i nm st cs->dB tag' h' i nm st cs
 |_,[],[],_,H=>H
 | i,_:: _,_:: _,_,⟨av,rest,h1,h2,h3⟩=>⟨av,rest,h1,by
   rcases h2 with h2|⟨r,g1,g2,g3⟩
   ·exact .inl h2
   ·have:=K r _ g3 ZU
    grind,dB.keep K hk h3⟩
 |_,[],_:: _,_,H=>H.elim
 |_,_:: _,[],_,H=>H.elim
def I0.keep{tag tag':Nat->Nat}{ks:Nat->Prop}{h h':Hp}(K:Kp tag tag' ks h h'){k sz n:Nat}{c c':List AV->Prop}{v:AV}(hk:¬ks k)(hc:∀cs,c cs->c' cs)(H:I0 tag k sz n c v h):I0 tag' k sz n c' v h':=by
 rcases H with H|⟨q,cs,h1,h2,h3,h4,h5,h6⟩
 ·exact .inl H
 ·have:=K q _ h4 ZU
  exact .inr ⟨q,cs,h1,h2,this.2.trans h3,this.1,h5,hc _ h6⟩
def RepT.set0{row:Ms->AV->AV->AV->List AV}{nm:SNm}{tag:Nat->Nat}{dv cv sv:AV}{m m':Ms}{h:Hp}(R:RepT row nm tag dv cv sv m h)(h1:m'.deeds=m.deeds)(h2:m'.calls=m.calls)(h3:m'.state=m.state)(h4:m.world=[]->m'.world=[]):
  RepT row nm tag dv cv sv m' (h.set 0 (row m' dv cv sv)):=by
 have hlt:0<h.length:=(XA.1 R.r0).1;have K:Kp tag tag (fun k=>k=0) h (h.set 0 (row m' dv cv sv)):=fun r cs hr hk=>by
  have:r≠0:=fun e=>hk (by rw[e];exact R.t0)
  grind
 refine⟨ZU,R.t0,?_,?_,?_,R.sve,fun t=>h4 (R.wok t)⟩
 ·rw[h1];exact R.ds.keep K ZT fun _ h=>h
 ·rw[h2];exact R.cs.keep K ZT fun _ h=>h.keep K ZT
 ·rw[h3];exact R.st.keep K ZT fun _ h=>⟨h.1,h.2.keep K ZS⟩
def RepT.more{row:Ms->AV->AV->AV->List AV}{nm:SNm}{tag:Nat->Nat}{dv cv sv:AV}{m:Ms}{h:Hp}(R:RepT row nm tag dv cv sv m h)(x:List AV)(k:Nat):
  RepT row nm (fun i=>if i=h.length then k else tag i) dv cv sv m (h++[x])/\Kp tag (fun i=>if i=h.length then k else tag i) (fun _=>False) h (h++[x]):=by
 have K:Kp tag (fun i=>if i=h.length then k else tag i) (fun _=>False) h (h++[x]):=fun r cs hr _=>by
  grind
 exact⟨⟨(K 0 _ R.r0 id).1,(K 0 _ R.r0 id).2.trans R.t0,R.ds.keep K id fun _ h=>h,R.cs.keep K id fun _ h=>h.keep K id,R.st.keep K id fun _ h=>⟨h.1,h.2.keep K (fun _=>id)⟩,R.sve,R.wok⟩,K⟩
def Xc{tag:Nat->Nat}{h:Hp}{q:Nat}{k:Nat}(hq:tag q=k)(x:List AV):Kp tag tag (fun j=>j=k) h (h.set q x):=fun r cs hr hk=>by
 grind
def bN{T:TT}{t:Nat}{ti:TI}(ht:T t=some ti)(ha:ti.agg=false){h:Hp}{l k:Nat}{cs:List AV}{v:AV}(h0:h[l]? = some cs)(h1:cs[k]? = some v):bb T t (.hp l k) h= .ok v h:=by
 simp[bb,ht,h0,ha,h1]
def lY{T:TT}{t:Nat}{ti:TI}(ht:T t=some ti)(ha:ti.agg=true){h:Hp}{l k:Nat}{cs:List AV}(h0:h[l]? = some cs)(hle:k+ti.size<=cs.length):bb T t (.hp l k) h= .ok (.agg ((cs.drop k).take ti.size)) h:=by
 simp[bb,ht,h0,ha,hle]
def bT{T:TT}{t:Nat}{ti:TI}(ht:T t=some ti){h:Hp}{l k:Nat}{cs:List AV}{v:AV}(h0:h[l]? = some cs)(hv:bR ti.size v=true)(hle:k+ti.size<=cs.length)(hp:0<ti.size):
  bS T t (.hp l k) v h= .ok (.tup []) (h.set l (setCells cs k (aa v))):=by
 simp[bS,ht,h0,hv,hle,hp]
def Gm{T:TT}{t e:Nat}{ti ei:TI}(ht:T t=some ti)(hk:ti.kind= .slice e)(he:T e=some ei){x:AV}(hx:bR ei.size x=true)(hb:0<ei.bytes)(hs:0<ei.size)(hc:ei.bytes<=140737488355328)(h:Hp):
  appH T t false .hn (.sl [x]) h= .ok (.hs h.length 0 1 ei.size ei.agg) (h++[aa x]):=by
 simp_all[dn,appH,gk,iw]
def Gn{T:TT}{t e:Nat}{ti ei:TI}(ht:T t=some ti)(hk:ti.kind= .slice e)(he:T e=some ei){x:AV}(hx:bR ei.size x=true)(hb:0<ei.bytes)(hs:0<ei.size){h:Hp}{q n:Nat}{cs:List AV}(h0:h[q]? = some cs)(hok:cs.all ay=true)(hl:cs.length=n*ei.size)(hn:0<n)(hc:(n+1)*ei.bytes<=140737488355328):appH T t false (.hs q 0 n ei.size ei.agg) (.sl [x]) h= .ok (.hs h.length 0 (n+1) ei.size ei.agg) ((h.set q [])++[cs++aa x]):=by
 have h1:dn ei.size [x]=true:=by simp[dn,hx]
 have h2:List.all cs ay=true:=hok;simp only[appH,ht,hk,he,gk,h1,hb,hs,iw,h0,h2,hl,hn,XY,Yn,Xw,X0,List.length_singleton,ZB,XD,YB,ZK,XS]
 grind [Nat.mul_pos]
theorem gY.ok{tag:Nat->Nat}{h:Hp}:{l:List Call} ->{cs:List AV} ->gY tag h l cs->cs.all ay=true/\cs.length=l.length*3
 |[],cs,H=>by cases H;grind
 | c:: l,_,⟨av,rest,h1,h2,h3⟩=>by
  subst h1;obtain⟨g1,g2⟩:=h3.ok;have:ay av=true:=by
   rcases h2 with(rfl|⟨_,rfl⟩)|⟨r,rfl,_⟩<;>rfl
  refine⟨?_,ZU⟩;rw[XP,XP,XP,this,g1];rfl
theorem gY.snoc{tag:Nat->Nat}{h:Hp}{c:Call}{av:AV}(ha:xO tag 4 h c.args av):{l:List Call} ->{cs:List AV} ->gY tag h l cs->gY tag h (l++[c]) (cs++[.str c.module,.str c.func,av])
 |[],cs,H=>by cases H;exact⟨av,[],rfl,ha,rfl⟩
 |d:: l,_,⟨av',rest,h1,h2,h3⟩=>⟨av',rest++[.str c.module,.str c.func,av],by rw[h1];rfl,h2,gY.snoc ha h3⟩
def yo(l:List Deed):(cQ l).all ay=true:=by simp[cQ,ay]
theorem dB.at{tag:Nat->Nat}{h:Hp}:{i:Nat} ->{nm:List aW} ->{st:List (List Val)} ->{cs:List AV} ->dB tag h i nm st cs->∀(j:Nat)(l:List Val),st[j]? = some l->
  ∃av,cs[j*2+1]? = some av/\((l=[]/\(av= .sl []\/av= .he))\/∃r,av= .hs r 0 l.length 4 true/\tag r=6+(i+j)/\h[r]? = some (aw l))
 |_,[],[],_,_,j,l,hj=>by simp at hj
 | i,_:: _,_:: _,_,⟨av,rest,h1,h2,h3⟩,j,l,hj=>by
  subst h1;cases j with
  |zero=>grind
  |succ j=>
   obtain⟨av',g1,g2⟩:=h3.at j l (by simpa using hj)
   grind
 |_,[],_:: _,_,H,_,_,_=>H.elim
 |_,_:: _,[],_,H,_,_,_=>H.elim
theorem dB.len{tag:Nat->Nat}{h:Hp}:{i:Nat} ->{nm:List aW} ->{st:List (List Val)} ->{cs:List AV} ->dB tag h i nm st cs->nm.length=st.length
 |_,[],[],_,_=>rfl
 |_,_:: _,_:: _,_,⟨_,_,_,_,h3⟩=>by simp[h3.len]
 |_,[],_:: _,_,H=>H.elim
 |_,_:: _,[],_,H=>H.elim
theorem dB.set{tag:Nat->Nat}{h:Hp}{r k:Nat}{v:Val}:{i:Nat} ->{nm:List aW} ->{st:List (List Val)} ->{cs:List AV} ->dB tag h i nm st cs->∀(j:Nat)(l:List Val),st[j]? = some l->tag r=6+(i+j)->h[r]? = some (aw l)->cs[j*2+1]? = some (.hs r 0 l.length 4 true)->
  k<l.length->dB tag (h.set r (aw (l.set k v))) i nm (setSt st j k v) cs
 |_,[],[],_,_,j,l,hj,_,_,_,_=>by simp at hj
 | i, n:: ns,l0:: st,_,⟨av,rest,h1,h2,h3⟩,j,l,hj,ht,hr,hc,hk=>by
  subst h1;have hlt:r<h.length:=(XA.1 hr).1;cases j with
  | zero=>
   simp only[List.getElem?_cons_zero,Xq]at hj;subst hj;simp only[Zo,XI,Yb,List.getElem?_cons_zero,Xq]at hc;have e:setSt (l0:: st) 0 k v=l0.set k v:: st:=by simp[setSt]
   rw[e];refine⟨av,rest,rfl,.inr ⟨r,ZU,ht,XV hlt⟩,?_⟩;have K:Kp tag tag (fun t=>t=6+i) h (h.set r (aw (l0.set k v))):=Xc (by rw[ht];rfl) _;have key:∀ {i':Nat} {nm':List aW} {st':List (List Val)} {cs':List AV},i<i'->dB tag h i' nm' st' cs'->dB tag (h.set r (aw (l0.set k v))) i' nm' st' cs':=by
    intro i' nm' st'
    induction st' generalizing i' nm' with
    |nil=>intro cs' hi H;cases nm' with
     |nil=>exact H
     |cons _ _=>exact H.elim
    | cons a st' ih=>intro cs' hi H;cases nm' with
     |nil=>exact H.elim
     |cons b nm'=>
      obtain⟨av2,rest2,k1,k2,k3⟩:=H;refine⟨av2,rest2,k1,?_,ih ZS k3⟩
      grind
   grind
  | succ j=>
   have e:setSt (l0:: st) (j+1) k v=l0:: setSt st j k v:=by simp[setSt]
   rw[e];have hc':rest[j*2+1]? = some (.hs r 0 l.length 4 true):=by
    rw[show (j+1)*2+1=j*2+1+2 by omega]at hc;simpa using hc
   refine⟨av,rest,rfl,?_,h3.set j l (by simpa using hj) (by rw[ht];omega) hr hc' hk⟩
   grind
 |_,[],_:: _,_,H,_,_,_,_,_,_,_=>H.elim
 |_,_:: _,[],_,H,_,_,_,_,_,_,_=>H.elim
def Kp.trans{a b c:Nat->Nat}{ks js:Nat->Prop}{h h1 h2:Hp}(K:Kp a b ks h h1)(J:Kp b c js h1 h2):Kp a c (fun k=>ks k\/js k) h h2:=fun r cs hr hk=>by
 obtain⟨k1,k2⟩:=K r cs hr fun h=>hk (.inl h);obtain⟨j1,j2⟩:=J r cs k1 fun h=>hk (.inr (by rwa [k2]at h))
 grind
def Kp.new(tag:Nat->Nat)(h:Hp)(x:List AV)(k:Nat):Kp tag (fun i=>if i=h.length then k else tag i) (fun _=>False) h (h++[x]):=fun r cs hr _=>by
 grind
theorem Kp.mono{a b:Nat->Nat}{ks js:Nat->Prop}{h h1:Hp}(K:Kp a b ks h h1)(hj:∀k,ks k->js k):Kp a b js h h1:=fun r cs hr hk=>K r cs hr fun h=>hk (hj _ h)
def AZ{T:TT}{t e:Nat}{ti ei:TI}(ht:T t=some ti)(hk:ti.kind= .slice e)(he:T e=some ei){sz:Nat}(h3:ei.size=sz)(hsz:0<sz)(hag:ei.agg=true)(hb:0<ei.bytes){tag:Nat->Nat}{k n:Nat}{P:List AV->Prop}{v x:AV}{h:Hp}(H:I0 tag k sz n P v h)(hP0:n=0->P [])(hok:∀cs,P cs->cs.all ay=true)(hx:bR sz x=true)(hc:(n+1)*ei.bytes<=140737488355328):
  ∃h1 v' tag',appH T t false v (.sl [x]) h= .ok v' h1/\Kp tag tag' (fun j=>j=k) h h1/\I0 tag' k sz (n+1) (fun cs'=>∃cs,P cs/\cs'=cs++aa x) v' h1/\ay v'=true:=by
 have hxl:(aa x).length=sz:=by
  unfold bR at hx;simp only[Xu,Yd]at hx;have h1:=hx.1;cases x<;>simp only[dA,Xq,reduceCtorEq]at h1<;>simp only[aa,List.length_singleton]<;>exact h1
 have hx':bR ei.size x=true:=by rw[h3];exact hx
 rcases H with⟨hn,rfl⟩|⟨q,cs,rfl,hn,hq,hcs,hl,hp⟩
 ·subst hn;refine⟨_,_,_,Gm ht hk he hx' hb ZS ZS h,(Kp.new tag h (aa x) k).mono fun _ h=>h.elim,.inr ⟨h.length,aa x,by rw[h3,hag],ZS,ZV,ZV,by simpa using hxl,[],hP0 rfl,rfl⟩,rfl⟩
 ·have e1:=Gn ht hk he hx' hb ZS hcs (hok cs hp) ZU hn hc;rw[h3,hag]at e1;have K1:Kp tag tag (fun j=>j=k) h (h.set q []):=Xc hq [];have K2:=Kp.new tag (h.set q []) (cs++aa x) k;refine⟨_,_,_,e1,(K1.trans K2).mono fun j h=>h.elim id False.elim,.inr ⟨h.length,cs++aa x,rfl,ZS,ZV,?_,ZU,cs,hp,rfl⟩,rfl⟩
  grind
def RepT.pushDeed{row:Ms->AV->AV->AV->List AV}{nm:SNm}{tag tag':Nat->Nat}{dv dv' cv sv:AV}{m m':Ms}{h h1:Hp}{d:Deed}(R:RepT row nm tag dv cv sv m h)(K:Kp tag tag' (fun j=>j=2) h h1)(H:I0 tag' 2 3 (m.deeds.length+1) (fun cs'=>∃cs,cs=cQ m.deeds/\cs'=cs++aa d.av) dv' h1)(hd:m'.deeds=m.deeds++[d])(hc:m'.calls=m.calls)(hs:m'.state=m.state)(h4:m.world=[]->m'.world=[]):RepT row nm tag' dv' cv sv m' (h1.set 0 (row m' dv' cv sv)):=by
 obtain⟨k1,k2⟩:=K 0 _ R.r0 (by rw[R.t0];decide);have hlt:0<h1.length:=(XA.1 k1).1;have t0:=k2.trans R.t0;have K0:Kp tag' tag' (fun j=>j=0) h1 (h1.set 0 (row m' dv' cv sv)):=Xc t0 _;refine⟨XV hlt,t0,?_,?_,?_,R.sve,fun t=>h4 (R.wok t)⟩
 ·rw[hd,XL];refine H.keep K0 ZT ?_;rintro cs' ⟨cs,rfl,rfl⟩;show cQ m.deeds++[AV.int .i64 d.effect,.int .i64 d.arg,.int .i64 d.answer]=_;simp[cQ]
 ·rw[hc];exact (R.cs.keep K (c':=gY tag' h1 m.calls) ZT fun _ h=>h.keep K ZT).keep K0 ZT fun _ h=>h.keep K0 ZT
 ·rw[hs];exact (R.st.keep K (c':=fun cs=>cs=nm.cells/\dB tag' h1 0 nm.names m.state cs) ZT fun _ h=>⟨h.1,h.2.keep K ZS⟩).keep K0 ZT fun _ h=>⟨h.1,h.2.keep K0 ZS⟩
def RepT.pushCall{row:Ms->AV->AV->AV->List AV}{nm:SNm}{tag tag':Nat->Nat}{dv cv cv' sv:AV}{m m':Ms}{h h1:Hp}{c:Call}{av:AV}(R:RepT row nm tag dv cv sv m h)(K:Kp tag tag' (fun j=>j=3) h h1)(ha:xO tag 4 h c.args av)(H:I0 tag' 3 3 (m.calls.length+1) (fun cs'=>∃cs,gY tag h m.calls cs/\cs'=cs++[.str c.module,.str c.func,av]) cv' h1)(hd:m'.deeds=m.deeds)(hc:m'.calls=m.calls++[c])(hs:m'.state=m.state)(h4:m.world=[]->m'.world=[]):RepT row nm tag' dv cv' sv m' (h1.set 0 (row m' dv cv' sv)):=by
 obtain⟨k1,k2⟩:=K 0 _ R.r0 (by rw[R.t0];decide);have hlt:0<h1.length:=(XA.1 k1).1;have t0:=k2.trans R.t0;have K0:Kp tag' tag' (fun j=>j=0) h1 (h1.set 0 (row m' dv cv' sv)):=Xc t0 _;refine⟨XV hlt,t0,?_,?_,?_,R.sve,fun t=>h4 (R.wok t)⟩
 ·rw[hd];exact (R.ds.keep K (c':=fun cs=>cs=cQ m.deeds) ZT fun _ h=>h).keep K0 ZT fun _ h=>h
 ·rw[hc,XL];refine H.keep K0 ZT ?_;rintro cs' ⟨cs,hcs,rfl⟩;exact ((hcs.keep K ZT).snoc (ha.keep K ZT)).keep K0 ZT
 ·rw[hs];exact (R.st.keep K (c':=fun cs=>cs=nm.cells/\dB tag' h1 0 nm.names m.state cs) ZT fun _ h=>⟨h.1,h.2.keep K ZS⟩).keep K0 ZT fun _ h=>⟨h.1,h.2.keep K0 ZS⟩
def RepT.var{row:Ms->AV->AV->AV->List AV}{nm:SNm}{tag:Nat->Nat}{dv cv sv:AV}{m:Ms}{h:Hp}(R:RepT row nm tag dv cv sv m h)(hrow:∀st,row { m with state:=st } dv cv sv=row m dv cv sv){i:Nat}{l:List Val}(hl:m.state[i]? = some l)(hne:l≠[]):
  ∃q r,nm.sv= .hs q 0 m.state.length 2 true/\h[q]? = some nm.cells/\nm.cells[i*2+1]? = some (.hs r 0 l.length 4 true)/\nm.cells.length=m.state.length*2/\h[r]? = some (aw l)/\
   ∀(k:Nat)(v:Val),k<l.length->RepT row nm tag dv cv sv { m with state:=setSt m.state i k v } (h.set r (aw (l.set k v))):=by
 have hi:i<m.state.length:=(XA.1 hl).1;rcases R.st with⟨h0,_⟩|⟨q,cs,h1,h2,h3,h4,h5,rfl,h6⟩
 ·omega
 ·obtain⟨av,g1,g2⟩:=h6.at i l hl;rcases g2 with⟨g2,_⟩|⟨r,rfl,g3,g4⟩
  ·grind
  ·rw[XI]at g3;refine⟨q,r,by rw[<- R.sve,h1],h4,g1,h5,g4,fun k v hk=>?_⟩;have K:Kp tag tag (fun j=>j=6+i) h (h.set r (aw (l.set k v))):=Xc g3 _;refine⟨?_,R.t0,?_,?_,?_,R.sve,R.wok⟩
   ·rw[hrow];exact (K 0 _ R.r0 (by rw[R.t0];omega)).1
   ·exact R.ds.keep K ZS fun _ h=>h
   ·exact R.cs.keep K ZS fun _ h=>h.keep K ZS
   ·right;have hq:r≠q:=fun e=>ZU
    refine⟨q,nm.cells,by rw[h1];simp[setSt],by simpa [setSt]using h2,h3,ZU,by simpa [setSt]using h5,rfl,?_⟩;exact h6.set i l hl ZU g4 g1 hk
theorem dB.snoc{tag:Nat->Nat}{h:Hp}{n:aW}{l:List Val}{av:AV}:{i:Nat} ->{nm:List aW} ->{st:List (List Val)} ->{cs:List AV} ->dB tag h i nm st cs->
  ((l=[]/\(av= .sl []\/av= .he))\/∃r,av= .hs r 0 l.length 4 true/\tag r=6+(i+st.length)/\h[r]? = some (aw l))->dB tag h i (nm++[n]) (st++[l]) (cs++[.str n,av])
 |i,[],[],cs,H,ha=>by
  have H':cs=[]:=H;subst H';exact⟨av,[],rfl,ha,rfl⟩
 |i,_:: _,l0:: st,_,⟨av',rest,h1,h2,h3⟩,ha=>by
  refine⟨av',rest++[.str n,av],by rw[h1];rfl,h2,h3.snoc ?_⟩
  grind
 |_,[],_:: _,_,H,_=>H.elim
 |_,_:: _,[],_,H,_=>H.elim
theorem dB.ok{tag:Nat->Nat}{h:Hp}:{i:Nat} ->{nm:List aW} ->{st:List (List Val)} ->{cs:List AV} ->dB tag h i nm st cs->cs.all ay=true
 |_,[],[],cs,H=>by
  have H':cs=[]:=H
  grind
 | _,_:: _,_:: _,_,⟨av,rest,h1,h2,h3⟩=>by
  subst h1;have:ay av=true:=by
   rcases h2 with⟨_,rfl|rfl⟩|⟨r,rfl,_⟩<;>rfl
  rw[XP,XP,this,h3.ok];rfl
 |_,[],_:: _,_,H=>H.elim
 |_,_:: _,[],_,H=>H.elim
def r8(d:Nat)(h:Hp):Nat->Nat->Nat->Nat->Bool->AV:=fun l off len sz ag=>match h[l]? with
 | some cs=>bif decide (off+len*sz<=cs.length)&&decide (0<sz)&&(ag||(Nat.beq sz 1&&cs.all ay))then
   .sl ((List.range len).map fun i=>frz d h (bif ag then .agg ((cs.drop (off+i*sz)).take sz)else ab cs (off+i*sz)))else .any
 |none=>.any
theorem gT(d:Nat)(h:Hp)(a:AV):frz (d+1) h a=cl (r8 d h) a:=rfl
def je{α β:Type}{l:List α}{f:Nat->β}{g:α->β}(h:∀i x,l[i]? = some x->f i=g x):(List.range l.length).map f=l.map g:=by
 apply YJ
 grind
def JK{d:Nat}{h:Hp}{q n sz:Nat}{cs:List AV}(h0:h[q]? = some cs)(hl:cs.length=n*sz)(hz:0<sz):r8 d h q 0 n sz true= .sl ((List.range n).map fun i=>frz d h (.agg ((cs.drop (i*sz)).take sz))):=by
 simp_all[r8]
def DG(d:Nat)(h:Hp)(v:Val):frz d h v.av=v.av:=by
 cases d with
 |zero=>exact yj _ v
 |succ d=>exact yj _ v
def Hb{d:Nat}{h:Hp}{r:Nat}{l:List Val}(h0:h[r]? = some (aw l)):r8 d h r 0 l.length 4 true=vals l:=by
 rw[JK h0 (aX l) ZT];unfold vals;rw[dT];congr 1;refine je fun i v hv=>?_;have hi:=(XA.1 hv).1;rw[iN hi,(XA.1 hv).2];have:AV.agg (aa v.av)=v.av:=ZV
 rw[this,DG]
theorem gY.at{tag:Nat->Nat}{h:Hp}:{l:List Call} ->{cs:List AV} ->gY tag h l cs->∀(i:Nat)(c:Call),l[i]? = some c->∃av,(cs.drop (i*3)).take 3=[.str c.module,.str c.func,av]/\xO tag 4 h c.args av
 |[],_,_,i,c,hc=>by simp at hc
 | d:: l,_,⟨av,rest,h1,h2,h3⟩,i,c,hc=>by
  subst h1;cases i with
  |zero=>grind
  |succ i=>
   obtain⟨av',g1,g2⟩:=h3.at i c (by simpa using hc)
   grind
def yn{l:List Deed}{i:Nat}{d:Deed}(h:l[i]? = some d):((cQ l).drop (i*3)).take 3=[.int .i64 d.effect,.int .i64 d.arg,.int .i64 d.answer]:=by
 induction l generalizing i with
 |nil=>simp at h
 | cons x l ih=>
  cases i with
  |zero=>simp at h;subst h;simp[cQ]
  |succ i=>
   grind [cQ]
theorem dB.at2{tag:Nat->Nat}{h:Hp}:{i:Nat} ->{nm:List aW} ->{st:List (List Val)} ->{cs:List AV} ->dB tag h i nm st cs->∀(j:Nat)(x:Vars),(List.zipWith Vars.mk nm st)[j]? = some x->
  ∃av,(cs.drop (j*2)).take 2=[.str x.module,av]/\((x.values=[]/\(av= .sl []\/av= .he))\/∃r,av= .hs r 0 x.values.length 4 true/\h[r]? = some (aw x.values))
 |_,[],[],_,_,j,x,hx=>by simp at hx
 | i,n:: ns,l:: st,_,⟨av,rest,h1,h2,h3⟩,j,x,hx=>by
  subst h1;cases j with
  |zero=>
   grind
  |succ j=>
   obtain⟨av',g1,g2⟩:=h3.at2 j x (by simpa using hx)
   grind
 |_,[],_:: _,_,H,_,_,_=>H.elim
 |_,_:: _,[],_,H,_,_,_=>H.elim
def kQ{v:AV}(h:ay v=true):bR 1 v=true/\aa v=[v]/\dA v=some 1:=by
 cases v with
 |any=>cases h
 |agg _=>cases h
 |tup _=>cases h
 |nilb _=>cases h
 |byt _ _=>cases h
 |it _=>cases h
 |_=>exact⟨rfl,rfl,rfl⟩
end Go.Av.Ap
namespace Go.Av.Ap
open Go Go.Av
def gb(tag:Nat->Nat)(k sz n:Nat)(P:List AV->Prop)(v:AV)(h:Hp):Prop:=
 (n=0/\(v= .hn\/v= .he)/\P [])\/∃r cs rest,v= .hs r 0 n sz true/\tag r=k/\h[r]? = some (cs++rest)/\cs++rest≠[]/\cs.length=n*sz/\(cs++rest).all ay=true/\P cs
def gb.keep{tag tag':Nat->Nat}{ks:Nat->Prop}{h h':Hp}(K:Kp tag tag' ks h h'){k sz n:Nat}{c c':List AV->Prop}{v:AV}(hk:¬ks k)(hc:∀cs,c cs->c' cs)(H:gb tag k sz n c v h):gb tag' k sz n c' v h':=by
 rcases H with⟨h1,h2,h3⟩|⟨r,cs,rest,h1,h2,h3,h4,h5,h6,h7⟩
 ·exact .inl ⟨h1,h2,hc _ h3⟩
 ·have:=K r _ h3 ZU
  exact .inr ⟨r,cs,rest,h1,this.2.trans h2,this.1,h4,h5,h6,hc _ h7⟩
theorem gb.mono{tag:Nat->Nat}{h:Hp}{k sz n:Nat}{c c':List AV->Prop}{v:AV}(hc:∀cs,c cs->c' cs)(H:gb tag k sz n c v h):gb tag k sz n c' v h:=by
 rcases H with⟨h1,h2,h3⟩|⟨r,cs,rest,h1,h2,h3,h4,h5,h6,h7⟩
 ·exact .inl ⟨h1,h2,hc _ h3⟩
 ·exact .inr ⟨r,cs,rest,h1,h2,h3,h4,h5,h6,hc _ h7⟩
def gb.okC{tag:Nat->Nat}{h:Hp}{k sz n:Nat}{c:List AV->Prop}{v:AV}(H:gb tag k sz n c v h):ay v=true:=by
 rcases H with⟨_,rfl|rfl,_⟩|⟨r,cs,rest,rfl,_⟩<;>rfl
def gb.len{tag:Nat->Nat}{h:Hp}{k sz n:Nat}{c:List AV->Prop}{v:AV}{T:TT}{t e:Nat}{ti ei:TI}(ht:T t=some ti)(hk:ti.kind= .slice e)(he:T e=some ei)(h0:∀n',bp T t (.hs n' 0 n sz true)=some (.int .i64 n))(h1:bp T t .hn=some (.int .i64 0))(h2:bp T t .he=some (.int .i64 0))(H:gb tag k sz n c v h):bp T t v=some (.int .i64 n):=by
 rcases H with⟨rfl,rfl|rfl,_⟩|⟨r,cs,rest,rfl,_⟩
 all_goals grind
def oN(v:AV)(h:Hp):Hp:=match v with
 |.hs r _ _ _ _=>h.set r []
 |_=>h
def gb.push{T:TT}{t e:Nat}{ti ei:TI}(ht:T t=some ti)(hk:ti.kind= .slice e)(he:T e=some ei){sz:Nat}(h3:ei.size=sz)(hsz:0<sz)(hag:ei.agg=true)(hb:0<ei.bytes){tag:Nat->Nat}{k n:Nat}{P:List AV->Prop}{v x:AV}{h:Hp}(H:gb tag k sz n P v h)(hx:bR sz x=true)(hc:(n+1)*ei.bytes<=140737488355328):
  ∃cs tag',P cs/\cs.length=n*sz/\appH T t false v (.sl [x]) h= .ok (.hs h.length 0 (n+1) sz true) (((oN v h)++[cs++aa x]))/\Kp tag tag' (fun j=>j=k) h ((oN v h)++[cs++aa x])/\
   tag' h.length=k/\gb tag' k sz (n+1) (fun cs'=>cs'=cs++aa x) (.hs h.length 0 (n+1) sz true) ((oN v h)++[cs++aa x]):=by
 have hx':bR ei.size x=true:=by rw[h3];exact hx
 have hsx:dn ei.size [x]=true:=by simp[dn,hx']
 unfold bR at hx;simp only[Xu,Yd]at hx;have hxl:(aa x).length=sz:=by
  have h1:=hx.1;cases x<;>simp only[dA,Xq,reduceCtorEq]at h1<;>simp only[aa,List.length_singleton]<;>exact h1
 rcases H with⟨rfl,hv,hP⟩|⟨r,cs,rest,rfl,hr,hcs,hne,hl,hok,hP⟩
 ·have hc1:ei.bytes<=140737488355328:=ZS
  have key:appH T t false v (.sl [x]) h= .ok (.hs h.length 0 1 ei.size ei.agg) (h++[aa x]):=by
   rcases hv with rfl|rfl<;>simp[appH,ht,hk,he,gk,hsx,hb,h3,hsz,iw,hc1,hxl]
   all_goals grind
  have e:oN v h=h:=by rcases hv with rfl|rfl<;>rfl
  rw[e];refine⟨[],_,hP,ZV,ZU,(Kp.new tag h _ k).mono fun _ h=>h.elim,ZV,.inr ⟨h.length,[]++aa x,[],rfl,ZV,ZV,?_,by simpa using hxl,ZU,rfl⟩⟩
  grind
 ·have hlt:r<h.length:=(XA.1 hcs).1;have hpos:0<(cs++rest).length:=Yp.2 hne;have key:appH T t false (.hs r 0 n sz true) (.sl [x]) h= .ok (.hs h.length 0 (n+1) sz true) ((h.set r [])++[cs++aa x]):=by
   have hsx':dn sz [x]=true:=by rw[<- h3];exact hsx
   simp only[appH,ht,hk,he,gk,hsx',hb,h3,hsz,iw,hcs,XY,Yn,Xw,X0,hag,hok,List.length_singleton,ZB,XD,YB,ZK,XS];rw[XU hc,XU (show n*sz<=(cs++rest).length by grind),XU hpos];rw[<- hl,List.take_left];simp
  refine⟨cs,fun i=>if i=(h.set r []).length then k else tag i,hP,hl,key,?_,ZV,?_⟩
  ·show Kp _ _ _ h (h.set r []++[cs++aa x]);exact ((Xc hr []).trans (Kp.new tag (h.set r []) (cs++aa x) k)).mono fun j h=>h.elim id False.elim
  ·refine .inr ⟨h.length,cs++aa x,[],rfl,ZV,?_,?_,ZU,?_,rfl⟩
   ·show (h.set r []++[cs++aa x])[h.length]? = _
    grind
   all_goals grind
def dk(tag:Nat->Nat)(k:Nat)(h:Hp)(l:List Val)(v:AV):Prop:=gb tag k 4 l.length (fun cs=>cs=aw l) v h
def dk.keep{tag tag':Nat->Nat}{ks:Nat->Prop}{h h':Hp}(K:Kp tag tag' ks h h'){k:Nat}(hk:¬ks k){l:List Val}{v:AV}(H:dk tag k h l v):dk tag' k h' l v:=gb.keep K hk (fun _ h=>h) H
theorem iy(l:List Val):(aw l).all ay=true:=by
 have:=xr l
 induction l with
 |nil=>rfl
 |cons v l ih=>
  simp only[d7,dn,XP,Xu,bR]at this;simp_all[aw]
def zj(tag:Nat->Nat)(h:Hp)(l:List Val)(v:AV):Prop:=v=vals l\/dk tag 4 h l v
def eY(tag:Nat->Nat)(h:Hp):List Call->List AV->Prop
 |[],cs=>cs=[]
 |c:: l,cs=>∃av rest,cs= .str c.module:: .str c.func:: av:: rest/\zj tag h c.args av/\eY tag h l rest
def eh(tag:Nat->Nat)(h:Hp):Nat->List Frm->List AV->Prop
 |_,[],cs=>cs=[]
 |i,f:: l,cs=>∃lv sv rest,cs= .str f.mod:: .str f.fn:: .int .i64 f.pc:: lv:: sv:: rest/\dk tag (11+3*i) h f.locals lv/\dk tag (12+3*i) h f.stack sv/\eh tag h (i+1) l rest
def oC(tag:Nat->Nat)(h:Hp):Nat->List Vars->List AV->Prop
 |_,[],cs=>cs=[]
 |i,w:: l,cs=>∃av rest,cs= .str w.module:: av:: rest/\dk tag (10+3*i) h w.values av/\oC tag h (i+1) l rest
def zj.keep{tag tag':Nat->Nat}{ks:Nat->Prop}{h h':Hp}(K:Kp tag tag' ks h h')(hk:¬ks 4){l:List Val}{v:AV}(H:zj tag h l v):zj tag' h' l v:=H.imp id (dk.keep K hk)
theorem eY.keep{tag tag':Nat->Nat}{ks:Nat->Prop}{h h':Hp}(K:Kp tag tag' ks h h')(hk:¬ks 4):{l:List Call} ->{cs:List AV} ->eY tag h l cs->eY tag' h' l cs
 |[],_,H=>H
 |_:: _,_,⟨av,rest,h1,h2,h3⟩=>⟨av,rest,h1,h2.keep K hk,h3.keep K hk⟩
theorem eh.keep{tag tag':Nat->Nat}{ks:Nat->Prop}{h h':Hp}(K:Kp tag tag' ks h h'):{i:Nat} ->{l:List Frm} ->{cs:List AV} ->(∀j,i<=j->j<i+l.length->¬ks (11+3*j)/\¬ks (12+3*j))->eh tag h i l cs->eh tag' h' i l cs
 |_,[],_,_,H=>H
 |i,f:: l,_,hk,⟨lv,sv,rest,h1,h2,h3,h4⟩=>
  ⟨lv,sv,rest,h1,h2.keep K (hk i ZS ZV).1,h3.keep K (hk i ZS ZV).2,h4.keep K fun j h1 h2=>hk j ZS ZX⟩
theorem oC.keep{tag tag':Nat->Nat}{ks:Nat->Prop}{h h':Hp}(K:Kp tag tag' ks h h')(hk:∀j,¬ks (10+3*j)):{i:Nat} ->{l:List Vars} ->{cs:List AV} ->oC tag h i l cs->oC tag' h' i l cs
 |_,[],_,H=>H
 |i,w:: l,_,⟨av,rest,h1,h2,h3⟩=>⟨av,rest,h1,h2.keep K (hk i),h3.keep K hk⟩
theorem eh.len{tag:Nat->Nat}{h:Hp}:{i:Nat} ->{l:List Frm} ->{cs:List AV} ->eh tag h i l cs->cs.length=l.length*5
 |_,[],_,H=>by cases H;rfl
 |i,f:: l,_,⟨lv,sv,rest,h1,h2,h3,h4⟩=>by rw[h1];simp[h4.len];omega
theorem eh.snoc{tag:Nat->Nat}{h:Hp}{f:Frm}{lv sv:AV}:{i:Nat} ->{l:List Frm} ->{cs:List AV} ->eh tag h i l cs->dk tag (11+3*(i+l.length)) h f.locals lv->dk tag (12+3*(i+l.length)) h f.stack sv->eh tag h i (l++[f]) (cs++[.str f.mod,.str f.fn,.int .i64 f.pc,lv,sv])
 |i,[],_,H,h1,h2=>by cases H;exact⟨lv,sv,[],rfl,h1,h2,rfl⟩
 |i,g:: l,_,⟨lv',sv',rest,k1,k2,k3,k4⟩,h1,h2=>
  ⟨lv',sv',rest++[.str f.mod,.str f.fn,.int .i64 f.pc,lv,sv],by rw[k1];rfl,k2,k3,k4.snoc ZU ZU⟩
theorem eh.last{tag:Nat->Nat}{h:Hp}{f:Frm}:{i:Nat} ->{l:List Frm} ->{cs:List AV} ->eh tag h i (l++[f]) cs->∃c0 lv sv,cs=c0++[.str f.mod,.str f.fn,.int .i64 f.pc,lv,sv]/\eh tag h i l c0/\dk tag (11+3*(i+l.length)) h f.locals lv/\dk tag (12+3*(i+l.length)) h f.stack sv
 |i,[],cs,⟨lv,sv,rest,k1,k2,k3,k4⟩=>by cases k4;exact⟨[],lv,sv,k1,rfl,k2,k3⟩
 |i,g:: l,cs,⟨lv',sv',rest,k1,k2,k3,k4⟩=>by
  obtain⟨c0,lv,sv,j1,j2,j3,j4⟩:=k4.last;refine⟨_:: _:: _:: lv':: sv':: c0,lv,sv,ZU,⟨lv',sv',c0,rfl,k2,k3,j2⟩,?_,?_⟩
  all_goals grind
theorem eh.ok{tag:Nat->Nat}{h:Hp}:{i:Nat} ->{l:List Frm} ->{cs:List AV} ->eh tag h i l cs->cs.all ay=true
 |_,[],_,H=>by cases H;rfl
 |i,f:: l,_,⟨lv,sv,rest,h1,h2,h3,h4⟩=>by
  rw[h1,XP,XP,XP,XP,XP,h2.okC,h3.okC,h4.ok];rfl
theorem eY.ok{tag:Nat->Nat}{h:Hp}:{l:List Call} ->{cs:List AV} ->eY tag h l cs->cs.all ay=true/\cs.length=l.length*3
 |[],cs,H=>by cases H;grind
 | c:: l,_,⟨av,rest,h1,h2,h3⟩=>by
  subst h1;obtain⟨g1,g2⟩:=h3.ok;have:ay av=true:=by
   rcases h2 with rfl|h2
   ·rfl
   ·exact h2.okC
  refine⟨?_,ZU⟩;rw[XP,XP,XP,this,g1];rfl
theorem eY.snoc{tag:Nat->Nat}{h:Hp}{c:Call}{av:AV}(ha:zj tag h c.args av):{l:List Call} ->{cs:List AV} ->eY tag h l cs->eY tag h (l++[c]) (cs++[.str c.module,.str c.func,av])
 |[],cs,H=>by cases H;exact⟨av,[],rfl,ha,rfl⟩
 |d:: l,_,⟨av',rest,h1,h2,h3⟩=>⟨av',rest++[.str c.module,.str c.func,av],by rw[h1];rfl,h2,eY.snoc ha h3⟩
def iQ(f:Frm)(lv sv:AV):List AV:=[.str f.mod,.str f.fn,.int .i64 f.pc,lv,sv]
structure FrAt (tag:Nat->Nat) (h:Hp) (q:Nat) (A B:List AV) (i:Nat) (f:Frm) (lv sv:AV):Prop where
 row:h[q]? = some (A++iQ f lv sv++B)
 tq:tag q=7
 lo:dk tag (11+3*i) h f.locals lv
 st:dk tag (12+3*i) h f.stack sv
theorem FrAt.get{tag:Nat->Nat}{h:Hp}{q:Nat}{A B:List AV}{i:Nat}{f:Frm}{lv sv:AV}(H:FrAt tag h q A B i f lv sv){T:TT}{t:Nat}{ti:TI}(ht:T t=some ti)(ha:ti.agg=false){k:Nat}{v:AV}(hv:(iQ f lv sv)[k]? = some v):
  bb T t (.hp q (A.length+k)) h= .ok v h:=by
 refine bN ht ha H.row ?_
 grind
def set_mid{A C D B:List AV}{k:Nat}{v:AV}(h:k<C.length)(hD:C.set k v=D)(h1:(aa v).length=1:=by rfl)(h2:aa v=[v]:=by rfl):setCells (A++C++B) (A.length+k) (aa v)=A++D++B:=by
 rw[<- hD,h2];have:setCells (A++C++B) (A.length+k) [v]=(A++C++B).set (A.length+k) v:=by
  rw[List.set_eq_take_append_cons_drop,Xv ZX];simp[setCells]
 grind
theorem nz{T:TT}{t e:Nat}{ti ei:TI}(ht:T t=some ti)(hk:ti.kind= .slice e)(he:T e=some ei)(h4:ei.size=4)(hag:ei.agg=true)(hb:0<ei.bytes)(call:FuncId->List AV->M AV)(l:List Val)(hc:l.length*ei.bytes<=140737488355328)(h:Hp):
  cy T t call [vals l] h=if l=[]then .ok .he h else .ok (.hs h.length 0 l.length 4 true) (h++[aw l]):=by
 have h1:dn 4 (d7 l)=true:=xr l;have hlen:(d7 l).length=l.length:=by simp[dT]
 have hfl:(d7 l).flatMap aa=aw l:=by simp[dT,aw,List.flatMap_map]
 show appH T t false .he (.sl (d7 l)) h=_;cases l with
 |nil=>simp_all[appH,gk,iw,dn]
 |cons v l=>
  have hne:(d7 (v:: l)).isEmpty=false:=rfl;unfold appH;simp only[ht,hk,he,gk,h4,h1,hb,iw,XY,Yn,Yz,Xw,hne,XD,hlen,hfl,hag]
  grind
theorem rR(rest:List AV):∀(n:Nat)(l:List Val),n<=l.length->kh true 4 n (aw l++rest)=d7 (l.take n)
 |0,_,_=>rfl
 |n+1,[],h=>by simp at h
 |n+1,v:: l,h=>by
  have e:aw (v:: l)++rest=aa v.av++(aw l++rest):=by simp[aw]
  have hl:(aa v.av).length=4:=ZV
  rw[e];simp only[kh,Xw];rw[Y0 ZS,YE ZS,YK ZS,List.drop_of_length_le ZS,X1,rR rest n l (by simpa using h)];simp[dT]
def wi(l:List Val)(k:Nat):(aw l).drop (k*4)=aw (l.drop k):=by
 by_cases h:k<=l.length
 ·have e:aw l=aw (l.take k)++aw (l.drop k):=by rw[<- kA,List.take_append_drop]
  grind [aX]
 ·rw[List.drop_of_length_le (by rw[aX];omega),List.drop_of_length_le (l:=l) ZS];rfl
theorem o7{T:TT}{t e:Nat}{ti ei:TI}(ht:T t=some ti)(hk:ti.kind= .slice e)(he:T e=some ei)(h4:ei.size=4)(hag:ei.agg=true)(hb:0<ei.bytes)(call:FuncId->List AV->M AV){h:Hp}{r:Nat}{l:List Val}{rest:List AV}(h0:h[r]? = some (aw l++rest))(hok:(aw l++rest).all ay=true){k n:Nat}(hkn:k+n<=l.length)(hc:n*ei.bytes<=140737488355328):
  cy T t call [.hs r (k*4) n 4 true] h=if n=0 then .ok .he h else .ok (.hs h.length 0 n 4 true) (h++[aw ((l.drop k).take n)]):=by
 cases n with
 |zero=>
  show appH T t false .he (.sl []) h=_
  grind [appH,gk,iw,dn]
 | succ n=>
  have hl:((l.drop k).take (n+1)).length=n+1:=by simp;omega
  have hs:oI h (.hs r (k*4) (n+1) 4 true)=some (d7 ((l.drop k).take (n+1))):=by
   have hd:(aw l++rest).drop (k*4)=aw (l.drop k)++rest:=by
    rw[YK (by rw[aX];omega),wi]
   simp only[oI,h0,hd];have o1:((aw (l.drop k)++rest).take ((n+1)*4)).all ay=true:=by
    rw[XJ]at hok |-;intro x hx;refine hok x ?_;have:x∈(aw l++rest).drop (k*4):=by rw[hd];exact List.mem_of_mem_take hx
    exact YT this
   have o2:k*4+(n+1)*4<=(aw l++rest).length:=by rw[XL,aX];omega
   rw[o1,XU o2];simp only[ZI,Yn,Xw];rw[rR rest (n+1) (l.drop k) ZX]
  have e1:cy T t call [.hs r (k*4) (n+1) 4 true] h=appH T t false .he (.sl (d7 ((l.drop k).take (n+1)))) h:=by
   show (match oI h (.hs r (k*4) (n+1) 4 true)with|some es=>appH T t false .he (.sl es) h|none=>.fail)=_;rw[hs]
  have e2:=nz ht hk he h4 hag hb call ((l.drop k).take (n+1)) ZU h;rw[e1];have e3:cy T t call [vals ((l.drop k).take (n+1))] h=appH T t false .he (.sl (d7 ((l.drop k).take (n+1)))) h:=rfl
  grind
def nJ{T:TT}{t:Nat}{ti:TI}(ht:T t=some ti)(ha:ti.agg=true)(h4:ti.size=4){h:Hp}{r:Nat}{l:List Val}{rest:List AV}(h0:h[r]? = some (aw l++rest)){j:Nat}(hj:j<l.length):bb T t (.hp r (j*4)) h= .ok (l[j]).av h:=by
 rw[lY ht ha h0 (by grind [aX]),h4];have:((aw l++rest).drop (j*4)).take 4=aa (l[j]).av:=by
  rw[YK (by rw[aX];omega),Y0 (by grind [aX])];exact iN hj
 simp_all
def wj(l:List Val)(k:Nat):∃rest,aw l=aw (l.take k)++rest/\rest.all ay=true:=by
 grind [kA,List.take_append_drop,iy]
structure MLay where
 rm:Nat
 ri:Nat
 rf:Nat
 ci:List AV
 cf:List AV
def fG(L:MLay)(p:Proc)(sv fv dv cv:AV)(vc:List AV):List AV:=[mods p.mods,sv,fv,ints p.world,.int .i64 p.out.err]++vc++[dv,cv,.hn,.bool p.ended,.mp L.ri,.mp L.rf]
def VC(v:Val)(vc:List AV):Prop:=vc=aa v.av\/v=default/\vc=[.int .i64 0,.int .i64 0,.hn,.hn]
def VC.len{v:Val}{vc:List AV}(H:VC v vc):vc.length=4:=by rcases H with rfl|⟨_,rfl⟩<;>simp
structure StP where
 ok:(Nat->Nat)->Hp->List Vars->AV->Prop
 keep:∀ {tag tag':Nat->Nat} {ks:Nat->Prop} {h h':Hp} {l:List Vars} {v:AV},Kp tag tag' ks h h'->¬ks 5->(∀j,¬ks (10+3*j))->ok tag h l v->ok tag' h' l v
abbrev V0:StP:=⟨fun tag h l v=>gb tag 5 2 l.length (fun cs=>oC tag h 0 l cs) v h,fun K h5 hj H=>gb.keep K h5 (fun _ h=>h.keep K hj) H⟩
abbrev W7:StP:=⟨fun _ _ l v=>v=aN l,fun _ _ _ H=>H⟩
structure MRG (Q:StP) (L:MLay) (tag:Nat->Nat) (sv fv dv cv:AV) (vc:List AV) (p:Proc) (h:Hp):Prop where
 row:h[L.rm]? = some (fG L p sv fv dv cv vc)
 tm:tag L.rm=0
 ri:h[L.ri]? = some L.ci
 ti:tag L.ri=1
 rf:h[L.rf]? = some L.cf
 tf:tag L.rf=1
 st:Q.ok tag h p.state sv
 fr:gb tag 7 5 p.frames.length (fun cs=>eh tag h 0 p.frames cs) fv h
 ds:gb tag 2 3 p.out.deeds.length (fun cs=>cs=cQ p.out.deeds) dv h
 cs:gb tag 3 3 p.out.calls.length (fun cs=>eY tag h p.out.calls cs) cv h
 vo:VC p.out.value vc
 so:p.out.state=[]
abbrev MR:=MRG V0
def MRG.sth{L:MLay}{tag:Nat->Nat}{sv fv dv cv:AV}{vc:List AV}{p:Proc}{h:Hp}(H:MR L tag sv fv dv cv vc p h):gb tag 5 2 p.state.length (fun cs=>oC tag h 0 p.state cs) sv h:=H.st
def MRG.focus{L:MLay}{tag:Nat->Nat}{sv fv dv cv:AV}{vc:List AV}{p:Proc}{h:Hp}(H:MR L tag sv fv dv cv vc p h){fs:List Frm}{f:Frm}(hf:p.frames=fs++[f]):
  ∃q A B lv stv,fv= .hs q 0 (fs.length+1) 5 true/\A.length=fs.length*5/\eh tag h 0 fs A/\FrAt tag h q A B fs.length f lv stv/\B.all ay=true:=by
 rcases H.fr with⟨h0,_⟩|⟨q,cs,rest,rfl,hq,hr,_,hl,hok,HF⟩
 ·grind
 ·rw[hf]at HF;obtain⟨A,lv,stv,rfl,k1,k2,k3⟩:=HF.last;rw[XI]at k2 k3;refine⟨q,A,rest,lv,stv,by rw[hf];simp,k1.len,k1,⟨hr,hq,k2,k3⟩,?_⟩
  grind
def MRG.unfocus{L:MLay}{tag tag':Nat->Nat}{sv dv cv:AV}{vc:List AV}{p:Proc}{h h':Hp}{q:Nat}{fs:List Frm}{f':Frm}{A B:List AV}{lv' sv':AV}(H:MR L tag sv (.hs q 0 (fs.length+1) 5 true) dv cv vc p h)(hA:eh tag h 0 fs A)(K:Kp tag tag' (fun k=>k=7\/k=11+3*fs.length\/k=12+3*fs.length) h h')(F:FrAt tag' h' q A B fs.length f' lv' sv')(hB:B.all ay=true):
  MR L tag' sv (.hs q 0 (fs.length+1) 5 true) dv cv vc { p with frames:=fs++[f'] } h':=by
 have km:=K _ _ H.row (by rw[H.tm];omega);have ki:=K _ _ H.ri (by rw[H.ti];omega);have kf:=K _ _ H.rf (by rw[H.tf];omega);have hA':eh tag' h' 0 fs A:=hA.keep K fun j h1 h2=>ZU
 refine⟨km.1,km.2.trans H.tm,ki.1,ki.2.trans H.ti,kf.1,kf.2.trans H.tf,H.sth.keep K ZS fun _ h=>h.keep K ZS,?_,H.ds.keep K ZS fun _ h=>h,H.cs.keep K ZS fun _ h=>h.keep K ZS,H.vo,H.so⟩;refine .inr ⟨q,A++iQ f' lv' sv',B,ZV,F.tq,F.row,by simp[iQ],by simp[iQ,hA.len];omega,?_,?_⟩
 ·rw[YY,YY,hA'.ok,hB];simp only[iQ,XP,Zq,F.lo.okC,F.st.okC];rfl
 ·exact hA'.snoc (by rw[XI];exact F.lo) (by rw[XI];exact F.st)
theorem MRG.setRow{L:MLay}{tag:Nat->Nat}{sv fv dv cv:AV}{vc:List AV}{p p':Proc}{h:Hp}{vc':List AV}(H:MR L tag sv fv dv cv vc p h)(h1:p'.state=p.state)(h2:p'.frames=p.frames)(h3:p'.out.deeds=p.out.deeds)(h4:p'.out.calls=p.out.calls)(h5:p'.out.state=[])(h6:VC p'.out.value vc'):
  MR L tag sv fv dv cv vc' p' (h.set L.rm (fG L p' sv fv dv cv vc')):=by
 have hlt:L.rm<h.length:=(XA.1 H.row).1;have K:Kp tag tag (fun k=>k=0) h (h.set L.rm (fG L p' sv fv dv cv vc')):=Xc H.tm _;have ki:=K _ _ H.ri (by rw[H.ti];omega);have kf:=K _ _ H.rf (by rw[H.tf];omega);refine⟨XV hlt,H.tm,ki.1,H.ti,kf.1,H.tf,?_,?_,?_,?_,h6,h5⟩
 ·rw[h1];exact H.sth.keep K ZS fun _ h=>h.keep K ZS
 ·rw[h2];exact H.fr.keep K ZS fun _ h=>h.keep K fun j _ _=>ZU
 ·rw[h3];exact H.ds.keep K ZS fun _ h=>h
 ·rw[h4];exact H.cs.keep K ZS fun _ h=>h.keep K ZS
theorem oC.at{tag:Nat->Nat}{h:Hp}:{i:Nat} ->{l:List Vars} ->{cs:List AV} ->oC tag h i l cs->∀(j:Nat)(w:Vars),l[j]? = some w->∃av,cs[j*2+1]? = some av/\dk tag (10+3*(i+j)) h w.values av
 |_,[],_,_,j,w,hj=>by simp at hj
 | i,_:: _,_,⟨av,rest,h1,h2,h3⟩,j,w,hj=>by
  subst h1;cases j with
  |zero=>grind
  |succ j=>
   obtain⟨av',g1,g2⟩:=h3.at j w (by simpa using hj)
   grind
theorem oC.len{tag:Nat->Nat}{h:Hp}:{i:Nat} ->{l:List Vars} ->{cs:List AV} ->oC tag h i l cs->cs.length=l.length*2
 |_,[],_,H=>by cases H;rfl
 |i,w:: l,_,⟨av,rest,h1,h2,h3⟩=>by rw[h1];simp[h3.len];omega
theorem oC.ok{tag:Nat->Nat}{h:Hp}:{i:Nat} ->{l:List Vars} ->{cs:List AV} ->oC tag h i l cs->cs.all ay=true
 |_,[],_,H=>by cases H;rfl
 |i,w:: l,_,⟨av,rest,h1,h2,h3⟩=>by rw[h1,XP,XP,h2.okC,h3.ok];rfl
theorem oC.keepTo{tag tag':Nat->Nat}{ks:Nat->Prop}{h h':Hp}(K:Kp tag tag' ks h h'):{i:Nat} ->{l:List Vars} ->{cs:List AV} ->(∀j,i<=j->¬ks (10+3*j))->oC tag h i l cs->oC tag' h' i l cs
 |_,[],_,_,H=>H
 |i,w:: l,_,hk,⟨av,rest,h1,h2,h3⟩=>⟨av,rest,h1,h2.keep K (hk i (Xz i)),h3.keepTo K fun j hj=>hk j ZS⟩
def oC.set{tag:Nat->Nat}{h h':Hp}{ws:List Val}:{i:Nat} ->{l:List Vars} ->{cs:List AV} ->oC tag h i l cs->∀(j:Nat)(w:Vars)(av:AV),l[j]? = some w->cs[j*2+1]? = some av->Kp tag tag (fun k=>k=10+3*(i+j)) h h'->dk tag (10+3*(i+j)) h' ws av->
  oC tag h' i (l.modify j fun w=>{ w with values:=ws }) cs
 |_,[],_,_,j,w,_,hj,_,_,_=>by simp at hj
 | i,u:: l,_,⟨av0,rest,h1,h2,h3⟩,j,w,av,hj,hc,K,hv=>by
  subst h1;cases j with
  |zero=>
   simp at hj hc;subst hj;subst hc;exact⟨av0,rest,rfl,hv,h3.keepTo K fun j hj=>ZS⟩
  | succ j=>
   have hc':rest[j*2+1]? = some av:=by
    rw[show (j+1)*2+1=j*2+1+2 by omega]at hc;simpa using hc
   rw[show i+(j+1)=i+1+j by omega]at K hv;exact⟨av0,rest,rfl,h2.keep K ZS,h3.set j w av (by simpa using hj) hc' K hv⟩
def Fnc.av(x:Fnc):AV:=.agg ([.int .i64 x.at_,.bool x.pub]++aa x.cod.av++[ints x.hts])
def kM:Option Fnc->AV
 |some x=>x.av
 |none=>.agg [.int .i64 0,.bool false,.str [],.int .i64 0,.int .i64 0,.sl [],.sl []]
structure MapOk (T:TT) (tI tF:Nat) (L:MLay) (p:List Mod):Prop where
 idx:∀h:Hp,h[L.ri]? = some L.ci->∀s,0<=cV p s->ec T tI (.mp L.ri) (.str s) false h= .ok (.int .i64 (cV p s)) h
 fn:∀h:Hp,h[L.rf]? = some L.cf->∀s t,ec T tF (.mp L.rf) (.agg [.str s,.str t]) true h= .ok (.tup [kM (fj p s t),.bool (fj p s t).isSome]) h
 fn1:∀h:Hp,h[L.rf]? = some L.cf->∀s t x,fj p s t=some x->ec T tF (.mp L.rf) (.agg [.str s,.str t]) false h= .ok x.av h
theorem MRG.get{Q:StP}{L:MLay}{tag:Nat->Nat}{sv fv dv cv:AV}{vc:List AV}{p:Proc}{h:Hp}(H:MRG Q L tag sv fv dv cv vc p h){T:TT}{t:Nat}{ti:TI}(ht:T t=some ti)(ha:ti.agg=false){k:Nat}{v:AV}(hv:(fG L p sv fv dv cv vc)[k]? = some v):
  bb T t (.hp L.rm k) h= .ok v h:=bN ht ha H.row hv
def ol{L:MLay}{p:Proc}{sv fv dv cv:AV}{vc:List AV}(h:vc.length=4)(j:Nat):(fG L p sv fv dv cv vc)[9+j]? = [dv,cv,.hn,.bool p.ended,.mp L.ri,.mp L.rf][j]?:=by
 match vc,h with
 |[a,b,c,d],_=>simp_all[fG,Nat.add_comm]
def FrAt.keep{tag tag':Nat->Nat}{ks:Nat->Prop}{h h':Hp}(K:Kp tag tag' ks h h'){q:Nat}{A B:List AV}{i:Nat}{f:Frm}{lv sv:AV}(hk:¬ks 7/\¬ks (11+3*i)/\¬ks (12+3*i))(F:FrAt tag h q A B i f lv sv):FrAt tag' h' q A B i f lv sv:=by
 have k:=K _ _ F.row (by rw[F.tq];exact hk.1);exact⟨k.1,k.2.trans F.tq,F.lo.keep K hk.2.1,F.st.keep K hk.2.2⟩
def MRG.mk2{Q:StP}{L:MLay}{tag tag':Nat->Nat}{ks:Nat->Prop}{sv fv dv cv sv' fv' dv' cv':AV}{vc vc':List AV}{p p':Proc}{h h':Hp}(H:MRG Q L tag sv fv dv cv vc p h)(K:Kp tag tag' ks h h')(h0:¬ks 0)(h1:¬ks 1)(st:Q.ok tag' h' p'.state sv')(fr:gb tag' 7 5 p'.frames.length (fun cs=>eh tag' h' 0 p'.frames cs) fv' h')(ds:gb tag' 2 3 p'.out.deeds.length (fun cs=>cs=cQ p'.out.deeds) dv' h')(cs:gb tag' 3 3 p'.out.calls.length (fun cs=>eY tag' h' p'.out.calls cs) cv' h')(vo:VC p'.out.value vc')(so:p'.out.state=[]):
  h'[L.rm]? = some (fG L p sv fv dv cv vc)/\MRG Q L tag' sv' fv' dv' cv' vc' p' (h'.set L.rm (fG L p' sv' fv' dv' cv' vc')):=by
 have km:=K _ _ H.row (by rw[H.tm];exact h0);have ki:=K _ _ H.ri (by rw[H.ti];exact h1);have kf:=K _ _ H.rf (by rw[H.tf];exact h1);have tm:=km.2.trans H.tm;have ti:=ki.2.trans H.ti;have tf:=kf.2.trans H.tf;have hlt:L.rm<h'.length:=(XA.1 km.1).1;have K':Kp tag' tag' (fun k=>k=0) h' (h'.set L.rm (fG L p' sv' fv' dv' cv' vc')):=Xc tm _;have ki':=K' _ _ ki.1 (by rw[ti];omega);have kf':=K' _ _ kf.1 (by rw[tf];omega);exact⟨km.1,XV hlt,tm,ki'.1,ti,kf'.1,tf,Q.keep K' ZS (fun j=>ZS) st,fr.keep K' ZS fun _ h=>h.keep K' fun j _ _=>ZU,
  ds.keep K' ZS fun _ h=>h,cs.keep K' ZS fun _ h=>h.keep K' ZS,vo,so⟩
def NN{L:MLay}{p:Proc}{sv fv dv cv x:AV}{vc:List AV}(h:vc.length=4):setCells (fG L p sv fv dv cv vc) 9 [x]=fG L p sv fv x cv vc:=by
 match vc,h with
 |[a,b,c,d],_=>rfl
def J8{L:MLay}{p:Proc}{sv fv dv cv x:AV}{vc:List AV}(h:vc.length=4):setCells (fG L p sv fv dv cv vc) 10 [x]=fG L p sv fv dv x vc:=by
 match vc,h with
 |[a,b,c,d],_=>rfl
theorem NM{L:MLay}{p:Proc}{sv fv dv cv x:AV}{vc:List AV}:setCells (fG L p sv fv dv cv vc) 2 [x]=fG L p sv x dv cv vc:=rfl
def l8{L:MLay}{p:Proc}{sv fv dv cv:AV}{vc:List AV}(h:vc.length=4):(fG L p sv fv dv cv vc).length=15:=by
 match vc,h with
 |[a,b,c,d],_=>rfl
def MRG.deed{Q:StP}{L:MLay}{tag:Nat->Nat}{sv fv dv cv:AV}{vc:List AV}{p:Proc}{h:Hp}(H:MRG Q L tag sv fv dv cv vc p h){T:TT}{t e:Nat}{ti ei:TI}(ht:T t=some ti)(hk:ti.kind= .slice e)(he:T e=some ei)(h3:ei.size=3)(hag:ei.agg=true)(hb:0<ei.bytes)(d:Deed)(hc:(p.out.deeds.length+1)*ei.bytes<=140737488355328):
  ∃h1 tag' dv',appH T t false dv (.sl [d.av]) h= .ok dv' h1/\Kp tag tag' (fun k=>k=2) h h1/\bR 1 dv'=true/\aa dv'=[dv']/\h1[L.rm]? = some (fG L p sv fv dv cv vc)/\
   MRG Q L tag' sv fv dv' cv vc { p with out:={ p.out with deeds:=p.out.deeds++[d] } } (h1.set L.rm (fG L p sv fv dv' cv vc)):=by
 obtain⟨cs,tag',rfl,hl,happ,K,_,HS⟩:=gb.push ht hk he h3 ZT hag hb H.ds (x:=d.av) rfl hc
 have:=H.mk2 (p':={ p with out:={ p.out with deeds:=p.out.deeds++[d] } }) (sv':=sv) (fv':=fv) (cv':=cv) (vc':=vc) K ZS ZS (Q.keep K ZS (fun j=>ZS) H.st) (H.fr.keep K ZS fun _ h=>h.keep K fun j _ _=>ZU)
  (dv':=.hs h.length 0 (p.out.deeds.length+1) 3 true) (by
   simp_all[cQ]) (H.cs.keep K ZS fun _ h=>h.keep K ZS) H.vo H.so
 exact⟨_,tag',_,happ,K,rfl,rfl,this.1,this.2⟩
def MRG.keep{Q:StP}{L:MLay}{tag tag':Nat->Nat}{ks:Nat->Prop}{sv fv dv cv:AV}{vc:List AV}{p:Proc}{h h':Hp}(H:MRG Q L tag sv fv dv cv vc p h)(K:Kp tag tag' ks h h')(hk:∀k,ks k->k=11+3*p.frames.length\/k=12+3*p.frames.length):MRG Q L tag' sv fv dv cv vc p h':=by
 have km:=K _ _ H.row (by rw[H.tm];grind);have ki:=K _ _ H.ri (by rw[H.ti];grind);have kf:=K _ _ H.rf (by rw[H.tf];grind);have n:∀k,k≠11+3*p.frames.length->k≠12+3*p.frames.length->¬ks k:=fun k h1 h2 hh=>ZU
 exact⟨km.1,km.2.trans H.tm,ki.1,ki.2.trans H.ti,kf.1,kf.2.trans H.tf,Q.keep K (n _ ZS ZS) (fun j=>n _ ZS ZS) H.st,
  H.fr.keep K (n _ ZS ZS) fun _ h=>h.keep K fun j _ hj=>⟨n _ ZS ZS,n _ ZS ZS⟩,H.ds.keep K (n _ ZS ZS) fun _ h=>h,H.cs.keep K (n _ ZS ZS) fun _ h=>h.keep K (n _ ZS ZS),H.vo,H.so⟩
def tJ{T:TT}{t e:Nat}{ti ei:TI}(ht:T t=some ti)(hk:ti.kind= .slice e)(he:T e=some ei)(h4:ei.size=4)(hag:ei.agg=true)(hb:0<ei.bytes)(call:FuncId->List AV->M AV){tag:Nat->Nat}{k:Nat}{h:Hp}{l:List Val}{v:AV}(H:dk tag k h l v)(hc:l.length*ei.bytes<=140737488355328)(kt:Nat):
  ∃h1 tag1 rv,cy T t call [v] h= .ok rv h1/\Kp tag tag1 (fun _=>False) h h1/\dk tag1 kt h1 l rv:=by
 have emp:∀x:AV,(x= .hn\/x= .he)->cy T t call [x] h= .ok .he h:=by
  rintro x (rfl|rfl)
  ·show appH T t false .he (.sl []) h=_
   grind [appH,gk,iw,dn]
  ·show appH T t false .he (.sl []) h=_
   grind [appH,gk,iw,dn]
 rcases H with⟨h0,hv,hP⟩|⟨r,cs,rest,rfl,hr,hcs,hne,hl,hok,rfl⟩
 ·exact⟨h,tag,.he,emp v hv,fun r cs hr _=>⟨hr,rfl⟩,.inl ⟨h0,.inr rfl,hP⟩⟩
 ·have:=o7 ht hk he h4 hag hb call hcs hok (k:=0) (n:=l.length) ZS hc
  rw[Zo]at this;by_cases h0:l.length=0
  ·rw[Xv h0]at this;exact⟨h,tag,.he,this,fun r cs hr _=>⟨hr,rfl⟩,.inl ⟨h0,.inr rfl,ZW⟩⟩
  ·rw[Xr h0,XK,Zh]at this;refine⟨_,_,_,this,Kp.new tag h _ kt,.inr ⟨h.length,aw l,[],rfl,ZV,ZV,?_,ZU,ZU,rfl⟩⟩
   grind
def MRG.call{Q:StP}{L:MLay}{tag:Nat->Nat}{sv fv dv cv:AV}{vc:List AV}{p:Proc}{h:Hp}(H:MRG Q L tag sv fv dv cv vc p h){T:TT}{t e:Nat}{ti ei:TI}(ht:T t=some ti)(hk:ti.kind= .slice e)(he:T e=some ei)(h3:ei.size=3)(hag:ei.agg=true)(hb:0<ei.bytes)(c:Call){av:AV}(ha:zj tag h c.args av)(hc:(p.out.calls.length+1)*ei.bytes<=140737488355328):
  ∃h1 tag' cv',appH T t false cv (.sl [.agg [.str c.module,.str c.func,av]]) h= .ok cv' h1/\Kp tag tag' (fun k=>k=3) h h1/\bR 1 cv'=true/\aa cv'=[cv']/\h1[L.rm]? = some (fG L p sv fv dv cv vc)/\
   MRG Q L tag' sv fv dv cv' vc { p with out:={ p.out with calls:=p.out.calls++[c] } } (h1.set L.rm (fG L p sv fv dv cv' vc)):=by
 have hav:ay av=true:=by
  rcases ha with rfl|ha
  ·rfl
  ·exact ha.okC
 obtain⟨cs,tag',hP,hl,happ,K,_,HS⟩:=gb.push ht hk he h3 ZT hag hb H.cs (x:=.agg [.str c.module,.str c.func,av]) (by
  show (_&&(ay (.str c.module)&&(ay (.str c.func)&&(ay av&&true))))=true;rw[hav];rfl) hc
 have hP':=hP.keep K ZS;have ha':=ha.keep K ZS
 have:=H.mk2 (p':={ p with out:={ p.out with calls:=p.out.calls++[c] } }) (sv':=sv) (fv':=fv) (dv':=dv) (vc':=vc) K ZS ZS (Q.keep K ZS (fun j=>ZS) H.st) (H.fr.keep K ZS fun _ h=>h.keep K fun j _ _=>ZU)
  (H.ds.keep K ZS fun _ h=>h) (cv':=.hs h.length 0 (p.out.calls.length+1) 3 true) (by
   have:=HS.mono (c':=fun cs=>eY tag' _ (p.out.calls++[c]) cs) (fun cs' h=>by rw[h];exact hP'.snoc ha')
   grind) H.vo H.so
 exact⟨_,tag',_,happ,K,rfl,rfl,this.1,this.2⟩
def MRG.frame{Q:StP}{L:MLay}{tag:Nat->Nat}{sv fv dv cv:AV}{vc:List AV}{p:Proc}{h:Hp}(H:MRG Q L tag sv fv dv cv vc p h){T:TT}{t e:Nat}{ti ei:TI}(ht:T t=some ti)(hk:ti.kind= .slice e)(he:T e=some ei)(h3:ei.size=5)(hag:ei.agg=true)(hb:0<ei.bytes)(f:Frm){lv stv:AV}(hl:dk tag (11+3*p.frames.length) h f.locals lv)(hs:dk tag (12+3*p.frames.length) h f.stack stv)(hc:(p.frames.length+1)*ei.bytes<=140737488355328):
  ∃h1 tag' fv',appH T t false fv (.sl [.agg (iQ f lv stv)]) h= .ok fv' h1/\Kp tag tag' (fun k=>k=7) h h1/\bR 1 fv'=true/\aa fv'=[fv']/\h1[L.rm]? = some (fG L p sv fv dv cv vc)/\
   MRG Q L tag' sv fv' dv cv vc { p with frames:=p.frames++[f] } (h1.set L.rm (fG L p sv fv' dv cv vc)):=by
 obtain⟨cs,tag',hP,hll,happ,K,_,HS⟩:=gb.push ht hk he h3 ZT hag hb H.fr (x:=.agg (iQ f lv stv)) (by
  show (_&&(ay (.str f.mod)&&(ay (.str f.fn)&&(ay (.int .i64 f.pc)&&(ay lv&&(ay stv&&true))))))=true;rw[hl.okC,hs.okC];rfl) hc
 have hP':=hP.keep K (fun j _ _=>ZU)
 have:=H.mk2 (p':={ p with frames:=p.frames++[f] }) (sv':=sv) (cv':=cv) (dv':=dv) (vc':=vc) K ZS ZS (Q.keep K ZS (fun j=>ZS) H.st) (fv':=.hs h.length 0 (p.frames.length+1) 5 true) (by
   have:=HS.mono (c':=fun cs=>eh tag' _ 0 (p.frames++[f]) cs) (fun cs' h=>by rw[h];exact hP'.snoc (by rw[XI];exact hl.keep K ZS) (by rw[XI];exact hs.keep K ZS))
   grind)
  (H.ds.keep K ZS fun _ h=>h) (H.cs.keep K ZS fun _ h=>h.keep K ZS) H.vo H.so
 exact⟨_,tag',_,happ,K,rfl,rfl,this.1,this.2⟩
mutual
theorem tR:(a:AV)->nD a a=true
 |.agg a=>by simp only[nD];exact i7 a
 |.tup a=>by simp only[nD];exact i7 a
 |.sl a=>by simp only[nD];exact i7 a
 |.ip a=>by simp only[nD];exact i7 a
 |.fn f a c=>by simp only[nD,i7 a,i7 c,XY,Yn]
 |.iface t a=>by simp only[nD,tR a,Nat.beq_refl,Yn]
 |.hp l o=>by grind [nD,Nat.beq_refl]
 |.hs l o n s g=>by simp_all[nD]
 |.any=>rfl
 |.bool a=>by simp only[nD,X0]
 |.int k a=>by simp_all[nD]
 |.str a=>by simp only[nD,X0]
 |.nilp=>rfl
 |.nilf=>rfl
 |.nili=>rfl
 |.hn=>rfl
 |.nilm=>rfl
 |.he=>rfl
 |.mp l=>by simp only[nD,Nat.beq_refl]
 |.nilb l=>by simp only[nD,Nat.beq_refl]
 |.it l=>by simp only[nD,Nat.beq_refl]
 |.byt t n=>by simp_all[nD]
theorem i7:(a:List AV)->qS a a=true
 |[]=>rfl
 |a:: l=>by simp only[qS,tR a,i7 l,Yn]
end
theorem yT{m r:Nat}:∀(cs ds:List AV)(b:Nat),cs.length<=ds.length->(∀o,o<cs.length->(b+o) % m=r->cs[o]? = ds[o]?)->vd m r b cs ds=true
 |[],_,_,_,_=>rfl
 |_:: _,[],_,h,_=>by simp at h
 | c:: cs,d:: ds,b,h,hs=>by
  simp only[vd,Xu];refine⟨?_,yT cs ds (b+1) (by simpa using h) fun o ho hm=>?_⟩
  ·cases hb:Nat.beq (b % m) r with
   |false=>rfl
   |true=>
    grind [Nat.eq_of_beq_eq_true,List.getElem?_cons_zero,tR]
  ·have:=hs (o+1) (by simpa using ho) ZU
   grind
def FG(m r:Nat)(cs:List AV)(b:Nat):vd m r b cs cs=true:=yT cs cs b (Xz _) fun _ _ _=>rfl
theorem Ay{m r:Nat}:∀(h h':Hp),h.length<=h'.length->(∀(i:Nat)(cs ds:List AV),h[i]? = some cs->h'[i]? = some ds->vd m r 0 cs ds=true)->ly m r h h'=true
 |[],_,_,_=>rfl
 |_:: _,[],h,_=>by simp at h
 |c:: cs,d:: ds,h,hs=>by
  simp only[ly,Xu];exact⟨hs 0 c d rfl rfl,Ay cs ds (by simpa using h) fun i a b h1 h2=>hs (i+1) a b (by simpa using h1) (by simpa using h2)⟩
def Ct{h ext:Hp}{q:Nat}{A B:List AV}{f f':Frm}{lv sv sv':AV}(hq:h[q]? = some (A++iQ f lv sv++B))(hA:A.length % 5=0)(h1:f'.mod=f.mod)(h2:f'.fn=f.fn)(h3:f'.pc=f.pc):
  ly 5 3 h ((h++ext).set q (A++iQ f' lv sv'++B))=true:=by
 refine Ay _ _ ZV fun i cs ds g1 g2=>?_;have hi:i<h.length:=(XA.1 g1).1;by_cases hiq:i=q
 ·subst hiq;rw[hq]at g1;rw[XV ZX]at g2;simp only[Xq]at g1 g2;subst g1;subst g2;refine yT _ _ 0 (by simp[iQ]) fun o ho hm=>?_;by_cases ha:o<A.length
  ·grind
  ·by_cases hb:o<A.length+5
   ·have:o=A.length+3:=ZS
    subst this;rw[Ye,Ye,XZ (l₁:=A) ZS,XZ (l₁:=A) ZS,Ze];rfl
   grind [iQ]
 simp_all[Ne.symm,Yv,FG]
def Hq{m r:Nat}{x:M AV}{h h':Hp}{v:AV}(e:x h= .ok v h')(hk:ly m r h h'=true):iu m r x h= .ok v h':=by
 simp_all[iu]
def vL(tag:Nat->Nat)(h:Hp):List Vars->List AV->Prop
 |[],cs=>cs=[]
 |w:: l,cs=>∃av rest,cs= .str w.module:: av:: rest/\dk tag 8 h w.values av/\vL tag h l rest
theorem vL.keep{tag tag':Nat->Nat}{ks:Nat->Prop}{h h':Hp}(K:Kp tag tag' ks h h')(hk:¬ks 8):{l:List Vars} ->{cs:List AV} ->vL tag h l cs->vL tag' h' l cs
 |[],_,H=>H
 |_:: _,_,⟨av,rest,h1,h2,h3⟩=>⟨av,rest,h1,h2.keep K hk,h3.keep K hk⟩
theorem vL.snoc{tag:Nat->Nat}{h:Hp}{w:Vars}{av:AV}(ha:dk tag 8 h w.values av):{l:List Vars} ->{cs:List AV} ->vL tag h l cs->vL tag h (l++[w]) (cs++[.str w.module,av])
 |[],cs,H=>by cases H;exact⟨av,[],rfl,ha,rfl⟩
 |d:: l,_,⟨av',rest,h1,h2,h3⟩=>⟨av',rest++[.str w.module,av],by rw[h1];rfl,h2,vL.snoc ha h3⟩
theorem oC.at2{tag:Nat->Nat}{h:Hp}:{i:Nat} ->{l:List Vars} ->{cs:List AV} ->oC tag h i l cs->∀(j:Nat)(w:Vars),l[j]? = some w->∃av,(cs.drop (j*2)).take 2=[.str w.module,av]/\dk tag (10+3*(i+j)) h w.values av
 |_,[],_,_,j,w,hj=>by simp at hj
 | i,_:: _,_,⟨av,rest,h1,h2,h3⟩,j,w,hj=>by
  subst h1;cases j with
  |zero=>grind
  |succ j=>
   obtain⟨av',g1,g2⟩:=h3.at2 j w (by simpa using hj)
   grind
structure EQ (L:MLay) (tag:Nat->Nat) (row:List AV) (sv dv cv:AV) (p:Proc) (h:Hp):Prop where
 row:h[L.rm]? = some row
 tm:tag L.rm=0
 st:gb tag 5 2 p.state.length (fun cs=>oC tag h 0 p.state cs) sv h
 ds:gb tag 2 3 p.out.deeds.length (fun cs=>cs=cQ p.out.deeds) dv h
 cs:gb tag 3 3 p.out.calls.length (fun cs=>eY tag h p.out.calls cs) cv h
def MRG.eq{L:MLay}{tag:Nat->Nat}{sv fv dv cv:AV}{vc:List AV}{p:Proc}{h:Hp}(H:MR L tag sv fv dv cv vc p h):EQ L tag (fG L p sv fv dv cv vc) sv dv cv p h:=⟨H.row,H.tm,H.st,H.ds,H.cs⟩
def EQ.keep{L:MLay}{tag tag':Nat->Nat}{ks:Nat->Prop}{row:List AV}{sv dv cv:AV}{p:Proc}{h h':Hp}(H:EQ L tag row sv dv cv p h)(K:Kp tag tag' ks h h')(hk:∀k,ks k->k=9):EQ L tag' row sv dv cv p h':=by
 have n:∀k,k≠9->¬ks k:=fun k h1 hh=>h1 (hk _ hh);have km:=K _ _ H.row (by rw[H.tm];grind);exact⟨km.1,km.2.trans H.tm,H.st.keep K (n _ ZS) fun _ h=>h.keep K fun j=>n _ ZS,H.ds.keep K (n _ ZS) fun _ h=>h,H.cs.keep K (n _ ZS) fun _ h=>h.keep K (n _ ZS)⟩
def EQ.set{L:MLay}{tag:Nat->Nat}{row:List AV}{sv dv cv:AV}{p:Proc}{h:Hp}(H:EQ L tag row sv dv cv p h)(row':List AV):EQ L tag row' sv dv cv p (h.set L.rm row'):=by
 have hlt:L.rm<h.length:=(XA.1 H.row).1;have K:Kp tag tag (fun k=>k=0) h (h.set L.rm row'):=Xc H.tm _;exact⟨XV hlt,H.tm,H.st.keep K ZS fun _ h=>h.keep K ZS,H.ds.keep K ZS fun _ h=>h,H.cs.keep K ZS fun _ h=>h.keep K ZS⟩
def EQ.store{L:MLay}{tag:Nat->Nat}{row:List AV}{sv dv cv:AV}{p:Proc}{h:Hp}(H:EQ L tag row sv dv cv p h){T:TT}{t:Nat}{ti:TI}(ht:T t=some ti){k:Nat}{x:AV}(hx:bR ti.size x=true)(hl:k+ti.size<=row.length)(hp:0<ti.size){row':List AV}(hr:setCells row k (aa x)=row'):
  bS T t (.hp L.rm k) x h= .ok (.tup []) (h.set L.rm row')/\EQ L tag row' sv dv cv p (h.set L.rm row'):=by
 rw[bT ht H.row hx hl hp,hr];exact⟨rfl,H.set row'⟩
def vV(L:MLay)(p:Proc)(sv dv cv ov:AV):List AV:=[mods p.mods,sv,.sl [],ints p.world,.int .i64 p.out.err]++aa p.out.value.av++[dv,cv,ov,.bool true,.mp L.ri,.mp L.rf]
def IZ(L:MLay)(p:Proc)(h:Hp):Prop:=∃tag sv dv cv ov,EQ L tag (vV L p sv dv cv ov) sv dv cv p h/\gb tag 9 2 p.out.state.length (fun cs=>vL tag h p.out.state cs) ov h/\p.ended=true/\p.frames=[]
structure HtOk (C:List Ins) (hl:List Int):Prop where
 len:hl.length=C.length
 ne:C≠[]
 zero:hl[0]! = 0
 lo:∀k,k<C.length->hl[k]! <=C.length
 ins:∀k,k<C.length->0<=hl[k]! ->(aG C[k]!).1<=hl[k]! /\(C[k]!.op=18->hl[k]! = 1)/\∀v∈gu C[k]! k,(0<=v/\v<C.length)/\hl[v.toNat]! = hl[k]! - (aG C[k]!).1+(aG C[k]!).2
 ge:∀k,k<C.length->-1<=hl[k]!
def CH{loc:Int}{C:List Ins}{i:Ins}(h:bH C.length loc i=true){k:Nat}(hk:k<C.length):∀v∈gu i k,0<=v/\v<=C.length:=by
 intro v hv;unfold gu at hv;split at hv
 ·cases hv
 split at hv
 ·grind [bH]
 split at hv
 ·rename_i h11;simp[bH,h11]at h
  grind
 grind
theorem Co{n k:Nat}{nd gv:Int}(hk:k<n):∀(nx hl td:List Int){hl' td':List Int},hl.length=n->0<=hl[k]! ->0<=hl[k]! - nd+gv->(∀v∈nx,0<=v/\v<=n)->ko n k nd gv nx hl td=some (hl',td')->
  hl'.length=n/\(∀j,j<n->0<=hl[j]! ->hl'[j]! = hl[j]!)/\(∀v∈nx,v<n/\hl'[v.toNat]! = hl[k]! - nd+gv)/\(∀j,j<n->0<=hl'[j]! ->0<=hl[j]! \/(j:Int)∈td')/\∀x∈td,x∈td'
 |[],hl,td,hl',td',H,_,_,_,e=>by
  simp only[ko,Xq,Ym]at e
  grind
 | v :: nx,hl,td,hl',td',H,h0,h1,hx,e=>by
  have hv:=hx v ZV;simp only[ko]at e;split at e
  ·cases e
  ·rename_i hne;have hvn:v.toNat<n:=ZS
   have hvl:v.toNat<hl.length:=by rw[H];exact hvn
   have hkl:k<hl.length:=by rw[H];exact hk
   split at e
   ·rename_i hneg;have hkv:¬v.toNat=k:=fun e=>ZU
    have ek:(hl.set v.toNat (hl[k]! - nd+gv))[k]! = hl[k]!:=by rw[lW hvl hkl,Xr hkv]
    obtain⟨i1,i2,i3,i4,i5⟩:=Co hk nx (hl.set v.toNat (hl[k]! - nd+gv)) _ (by simpa using H) ZU ZU (fun x h=>hx x (by simp[h])) e;rw[ek]at i3;have ev:(hl.set v.toNat (hl[k]! - nd+gv))[v.toNat]! = hl[k]! - nd+gv:=by rw[lW hvl hvl,Xv rfl]
    refine⟨i1,fun j hj hp=>?_,fun x hxx=>?_,fun j hj hp=>?_,fun x hxx=>i5 x (by simp[hxx])⟩
    ·have hjv:¬v.toNat=j:=fun e=>ZU
     grind
    ·rcases X7.1 hxx with rfl|hxx
     all_goals simp_all
    ·rcases i4 j hj hp with h|h
     ·by_cases hjv:v.toNat=j
      ·grind
      grind
     ·exact .inr h
   ·rename_i hpos;split at e
    ·cases e
    ·rename_i heq;obtain⟨i1,i2,i3,i4,i5⟩:=Co hk nx hl td H h0 h1 (fun x h=>hx x (by simp[h])) e
     grind
def Ge(C:List Ins)(hl:List Int)(k:Nat):Prop:=(aG C[k]!).1<=hl[k]! /\(C[k]!.op=18->hl[k]! = 1)/\∀v∈gu C[k]! k,(0<=v/\v<C.length)/\hl[v.toNat]! = hl[k]! - (aG C[k]!).1+(aG C[k]!).2
theorem Ee{loc:Int}{C:List Ins}(hf:∀i∈C,bH C.length loc i=true):∀(f:Nat)(hl td:List Int){hl':List Int},HInv C.length hl->(∀v∈td,(0<=v/\v<C.length)/\0<=hl[v.toNat]!)->(∀k,k<C.length->0<=hl[k]! ->(k:Int)∈td\/Ge C hl k)->ry C f hl td=some hl'->
  HInv C.length hl'/\(∀k,k<C.length->0<=hl[k]! ->hl'[k]! = hl[k]!)/\∀k,k<C.length->0<=hl'[k]! ->Ge C hl' k
 |0,_,_,_,_,_,_,e=>by cases e
 |f+1,hl,[],hl',H,_,hd,e=>by
  simp only[ry,Xq]at e
  grind
 | f + 1, hl,v:: td,hl',H,ht,hd,e=>by
  obtain⟨hv,hp⟩:=ht v ZV;obtain⟨k,rfl⟩:∃k:Nat,v=(k:Int):=⟨v.toNat,ZS⟩;have hk:k<C.length:=ZS
  rw[XC]at hp;simp only[ry,XC]at e;have hmem:C[k]! ∈C:=by rw[Xx C k hk];exact XG hk
  have hfk:=hf _ hmem;have hnb:=gt hfk;have hxb:=CH hfk hk;split at e
  ·cases e
  ·rename_i hc;rw[not_or]at hc;split at e
   ·cases e
   ·rename_i a b hst;have hpos:0<=hl[k]! - (aG C[k]!).1+(aG C[k]!).2:=ZS
    obtain⟨s1,s2,s3,s4,s5⟩:=Co hk _ _ _ H.len hp hpos hxb hst;obtain⟨w1,_,w3⟩:=qy hk hnb.1 hnb.2.2.1 hnb.2.2.2 _ _ _ H ZS hxb (fun v hv=>(ht v (by simp[hv])).1) hst;have ekk:=s2 k hk hp;have hdk:Ge C a k:=⟨by rw[ekk];omega,fun h=>ZU,fun v hv=>⟨⟨(hxb v hv).1,(s3 v hv).1⟩,ZU⟩⟩
    have hback:∀v∈b,0<=a[v.toNat]!:=by
     have key:∀(nx hl td hl' td':List Int),hl.length=C.length->0<=hl[k]! ->(∀v∈nx,0<=v/\v<=C.length)->0<=hl[k]! - (aG C[k]!).1+(aG C[k]!).2->ko C.length k (aG C[k]!).1 (aG C[k]!).2 nx hl td=some (hl',td')->(∀v∈td,(0<=v/\v<C.length)/\0<=hl[v.toNat]!)->∀v∈td',0<=hl'[v.toNat]!:=by
      intro nx
      induction nx with
      |nil=>
       intro hl td hl' td' _ _ _ _ e h;simp only[ko,Xq,Ym]at e
       grind
      | cons w nx ih=>
       intro hl td hl' td' H h0 hx h1 e h;have hw:=hx w ZV;simp only[ko]at e;split at e
       ·cases e
       ·rename_i hne;have hwl:w.toNat<hl.length:=ZS
        have hkl:k<hl.length:=ZS
        split at e
        ·rename_i hneg;have hkv:¬w.toNat=k:=fun e=>ZU
         have ek:(hl.set w.toNat (hl[k]! - (aG C[k]!).1+(aG C[k]!).2))[k]! = hl[k]!:=by rw[lW hwl hkl,Xr hkv]
         refine ih _ _ _ _ (by simpa using H) ZU (fun x hh=>hx x (by simp[hh])) ZU e fun x hxx=>?_;rcases Ya.1 hxx with hxx|hxx
         ·refine⟨(h x hxx).1,?_⟩;rw[lW hwl (by have:=(h x hxx).1;omega)];split
          all_goals grind
         ·rw[Yo]at hxx;subst hxx;exact⟨ZS,ZU⟩
        ·split at e
         ·cases e
         ·exact ih _ _ _ _ H h0 (fun x hh=>hx x (by simp[hh])) h1 e h
     exact key _ _ _ _ _ H.len hp hxb hpos hst (fun v hv=>ht v (by simp[hv]))
    obtain⟨i1,i2,i3⟩:=Ee hf f a b w1 (fun v hv=>⟨w3 v hv,hback v hv⟩) (fun j hj hjp=>by
     by_cases hjk:j=k
     ·grind
     ·rcases s4 j hj hjp with h|h
      ·rcases hd j hj h with h2|h2
       ·rcases X7.1 h2 with h2|h2
        ·exact absurd ZS hjk
        ·exact .inl (s5 _ h2)
       ·have ej:=s2 j hj h;refine .inr ⟨by rw[ej];exact h2.1,fun h=>by rw[ej];exact h2.2.1 h,fun v hv=>?_⟩;obtain⟨q1,q2⟩:=h2.2.2 v hv;have hb:=gt (hf C[j]! (by rw[Xx C j hj];exact XG hj));exact⟨q1,by rw[s2 v.toNat ZS (by rw[q2];have:=h2.1;omega),q2,ej]⟩
      ·exact .inl h) e
    refine⟨i1,fun j hj h=>?_,i3⟩
    have:=s2 j hj h
    rw[i2 j hj (by rw[this];exact h),this]
def iF{c:Cod}{hl:List Int}(h:dm c=some hl):HtOk c.code hl/\pn c=true/\∀i∈c.code,bH c.code.length c.locals i=true:=by
 unfold dm at h;split at h
 ·rename_i hc;have hf:=XJ.1 hc.2;have hne:c.code≠[]:=by
   have:=hc.1
   unfold pn at this;simp only[Xu,Xt]at this;exact this.2
  have hpos:0<c.code.length:=Yp.2 hne;have hg:∀j,j<c.code.length->(0:: List.replicate (c.code.length-1) (-1:Int))[j]! = if j=0 then 0 else -1:=by
   intro j hj;rw[Xx _ _ ZX];cases j with
   |zero=>rfl
   |succ j=>simp
  have hH:HInv c.code.length (0:: List.replicate (c.code.length-1) (-1)):=by
   refine⟨by simp;omega,fun j hj=>by rw[hg j hj];split<;>omega,fun j hj=>?_⟩;have:rk (0:: List.replicate (c.code.length-1) (-1))=c.code.length-1:=by
    unfold rk;rw[List.countP_cons,List.countP_replicate];simp
   rw[this,hg j hj];split<;>omega
  obtain⟨i1,i2,i3⟩:=Ee hf _ _ _ hH (fun v hv=>by
   rw[Yo]at hv;subst hv;exact⟨ZS,by rw[show (0:Int).toNat=0 from rfl,hg 0 hpos];simp⟩) (fun k hk hp=>by
   rw[hg k hk]at hp;split at hp
   ·rename_i h0;exact .inl (by simp[h0])
   ·omega) h
  have h00:=hg 0 hpos;refine⟨⟨i1.len,hne,by rw[i2 0 hpos (by rw[h00];simp),h00];rfl,fun k hk=>?_,fun k hk hp=>i3 k hk hp,i1.lo⟩,hc.1,hf⟩
  have:=i1.hi k hk
  omega
 ·cases h
theorem qY{α:Type}(F:α->Bool):∀(l:List α)(i:Int),0<=i->0<=aY F l i->∃(k:Nat)(hk:k<l.length),aY F l i=i+k/\F l[k]=true
 |[],i,_,h=>by simp[aY]at h
 | x:: l,i,hi,h=>by
  by_cases hx:F x=true
  ·exact⟨0,ZV,by simp[aY,hx],hx⟩
  ·have e:aY F (x:: l) i=aY F l (i+1):=by simp[aY,hx]
   rw[e]at h|-;obtain⟨k,hk,h1,h2⟩:=qY F l (i+1) ZS h;exact⟨k+1,by simpa using hk,ZS,h2⟩
def uh{p:List Mod}{a:Int}{s:aW}{f:Fun}(h:lU p a s=some f):f.name=s:=by
 unfold lU at h;split at h
 ·cases h
 ·simp only at h;split at h
  ·cases h
  ·rename_i h2;obtain⟨k,hk,h3,h4⟩:=qY (fun f:Fun=>f.name== s) _ 0 ZS (show 0<=mY (p[a.toNat]?.getD default).funcs s by omega)
   grind [mY]
structure FncOk (p:List Mod) (s t:aW) (x:Fnc):Prop where
 at_:x.at_=cV p s
 ge:¬cV p s<0
 lt:(cV p s).toNat<p.length
 fn:∃f,lU p (cV p s) t=some f/\f∈(p[(cV p s).toNat]?.getD default).funcs/\x.cod=dw (p[(cV p s).toNat]?.getD default).vars f/\x.pub=f.pub/\f.name=t
 name:x.cod.func=t
 hgt:dm x.cod=some x.hts
def kN{p:List Mod}{s t:aW}{x:Fnc}(h:fj p s t=some x):FncOk p s t x:=by
 unfold fj at h;split at h
 ·cases h
 ·rename_i f hf;split at h
  ·cases h
  ·rename_i hl hh;cases h;obtain⟨f1,f2,f3⟩:=pm hf;exact⟨rfl,f1,f2,⟨f,hf,f3,rfl,rfl,uh hf⟩,uh hf,hh⟩
theorem iW(p:List Mod):∀(l:List Frm)(f:Frm)(nx:Option Frm),eF p (l++[f]) nx=(eF p l (some f)&&i9 p f nx)
 |[],f,nx=>by simp[eF]
 |g:: l,f,nx=>by
  rw[Yk,eF,iW p l f nx,eF]
  grind
theorem mo(p:List Mod):∀(l:List Frm){f g:Frm},f.mod=g.mod->f.fn=g.fn->eF p l (some f)=eF p l (some g)
 |[],_,_,_,_=>rfl
 |[x],f,g,h1,h2=>by simp[eF,i9,h1,h2]
 |x:: y:: l,f,g,h1,h2=>by
  have:=mo p (y:: l) h1 h2
  simp_all[eF]
def ig{l:List Val}{n:Int}:fu l n=true↔(l.length:Int)=n/\∀v∈l,Rv v:=by
 simp_all[fu]
structure TopOk (p:List Mod) (f:Frm) (x:Fnc):Prop where
 fnc:fj p f.mod f.fn=some x
 pc:0<=f.pc/\f.pc<x.cod.code.length
 loc:(f.locals.length:Int)=x.cod.locals/\∀v∈f.locals,Rv v
 h0:0<=x.hts[f.pc.toNat]!
 stk:(f.stack.length:Int)=x.hts[f.pc.toNat]! /\∀v∈f.stack,Rv v
theorem rH{p:List Mod}{f:Frm}:i9 p f none=true↔∃x,TopOk p f x:=by
 unfold i9;constructor
 ·intro h;split at h
  ·cases h
  ·rename_i x hx;simp only[Xu,Xt,ig]at h;exact⟨x,hx,h.1.1,h.1.2,h.2.1,h.2.2⟩
 ·rintro⟨x,h1,h2,h3,h4,h5⟩;rw[h1];simp only[Xu,Xt,ig]
  grind
structure MidOk (p:List Mod) (f g:Frm) (x:Fnc):Prop where
 fnc:fj p f.mod f.fn=some x
 pc:0<=f.pc/\f.pc<x.cod.code.length
 loc:(f.locals.length:Int)=x.cod.locals/\∀v∈f.locals,Rv v
 ne:f.pc≠0
 stk:(f.stack.length:Int)=x.hts[f.pc.toNat]! - 1/\∀v∈f.stack,Rv v
 op:x.cod.code[(f.pc-1).toNat]!.op=14
 own:wb x.cod.code[(f.pc-1).toNat]!.m f.mod=g.mod
 fn:x.cod.code[(f.pc-1).toNat]!.s=g.fn
def CE{p:List Mod}{f g:Frm}:i9 p f (some g)=true↔∃x,MidOk p f g x:=by
 unfold i9;constructor
 ·intro h;split at h
  ·cases h
  ·rename_i x hx;simp only[Xu,Xt,ig]at h;exact⟨x,hx,h.1.1,h.1.2,h.2.1.1,h.2.1.2,h.2.2.1.1,h.2.2.1.2,h.2.2.2⟩
 ·rintro⟨x,h1,h2,h3,h4,h5,h6,h7,h8⟩;rw[h1];simp only[Xu,Xt,ig]
  grind
structure InsOk (f:Frm) (x:Fnc) (i:Ins):Prop where
 form:bH x.cod.code.length x.cod.locals i=true
 need:(aG i).1<=f.stack.length
 ret:i.op=18->f.stack.length=1
 next:∀v∈gu i f.pc,(0<=v/\v<x.cod.code.length)/\0<=x.hts[v.toNat]! /\x.hts[v.toNat]! = f.stack.length-(aG i).1+(aG i).2
def TopOk.ins{p:List Mod}{f:Frm}{x:Fnc}(H:TopOk p f x):InsOk f x x.cod.code[f.pc.toNat]!:=by
 obtain⟨h1,h2,h3⟩:=iF (kN H.fnc).hgt;have hk:f.pc.toNat<x.cod.code.length:=by have:=H.pc;omega
 obtain⟨a1,a2,a3⟩:=h1.ins _ hk H.h0;have hf:=h3 x.cod.code[f.pc.toNat]! ZU;have hb:=gt hf;have e:((f.pc.toNat:Nat):Int)=f.pc:=Int.toNat_of_nonneg H.pc.1;rw[e]at a3;exact⟨hf,by rw[H.stk.1];exact a1,fun h=>by have:=a2 h;have:=H.stk.1;omega,fun v hv=>⟨(a3 v hv).1,ZU,by rw[(a3 v hv).2,H.stk.1]⟩⟩
def Xo{p:List Mod}{f:Frm}{x:Fnc}(H:TopOk p f x){v:Int}(hv:v∈gu x.cod.code[f.pc.toNat]! f.pc){g:Frm}(h1:g.mod=f.mod)(h2:g.fn=f.fn)(h3:g.pc=v)(h4:g.locals.length=f.locals.length)(h5:∀v∈g.locals,Rv v)(h6:(g.stack.length:Int)=f.stack.length-(aG x.cod.code[f.pc.toNat]!).1+(aG x.cod.code[f.pc.toNat]!).2)(h7:∀v∈g.stack,Rv v):TopOk p g x:=by
 obtain⟨a1,a2,a3⟩:=H.ins.next v hv;exact⟨by rw[h1,h2];exact H.fnc,ZU,⟨by rw[h4];exact H.loc.1,h5⟩,ZU,by rw[h3,h6,a3],h7⟩
def zT{p:List Mod}{s t:aW}{x:Fnc}(hx:fj p s t=some x){args:List Val}(ha:fu args x.cod.params=true):TopOk p ⟨s,x.cod.func,0,args++List.replicate (x.cod.locals.toNat-args.length) (cp 0),[]⟩ x:=by
 obtain⟨h1,h2,h3⟩:=iF (kN hx).hgt;obtain⟨a1,a2⟩:=ig.1 ha;unfold pn at h2;simp only[Xu,Xt]at h2;obtain⟨⟨⟨⟨_,b2⟩,b3⟩,b4⟩,b5⟩:=h2;have hpos:=Yp.2 b5;refine⟨by rw[(kN hx).name];exact hx,⟨Zs 0,ZU⟩,⟨ZU,fun v hv=>?_⟩,by show 0<=x.hts[0]!;rw[h1.zero];grind,by show ((0:Nat):Int)=x.hts[0]!;rw[h1.zero];rfl,fun v hv=>by cases hv⟩
 grind [fD]
theorem Di:(l:List aW)->oY eE l=true->asc l=true
 |[],_=>rfl
 |[_],_=>rfl
 |x:: y:: l,h=>by
  simp only[oY,Xu]at h;simp only[asc,Xu];exact⟨(tv x y).1 h.1,Di (y:: l) h.2⟩
def nu{l:List Val}(h:∀v∈l,Rv v)(k:Nat):∀v∈l.take k,Rv v:=fun v hv=>h v (List.mem_of_mem_take hv)
def zq{l:List Val}{x:Val}(h:∀v∈l,Rv v)(hx:Rv x):∀v∈l++[x],Rv v:=fun v hv=>by
 grind
def mI{l:List Val}{k:Nat}(hk:k<l.length):l[k]! ∈l:=ZU
def N7{i:Ins}{len loc:Int}(hf:bH len loc i=true)(ho:i.op=12){vs:List Val}(hl:vs.length=i.names.length)(hv:∀v∈vs,Rv v)(h4:dO (.mk 2 0 i.names vs)<=4):Rv (.mk 2 0 i.names vs):=by
 have hn:jS i.names=true:=by
  simp[bH,ho]at hf;exact hf.1.1.1
 simp only[jS,Xu,Xt]at hn
 grind [xy,Di]
def BK{op:Int}{a b v:Val}(h:BJ op a b=some v):Rv v:=by
 grind [BJ,fD,dH]
structure Keeps (p q:Proc):Prop where
 mods:q.mods=p.mods
 st:dX p.mods q.state=true
 ended:q.ended=p.ended
 out:q.out.err=p.out.err/\q.out.value=p.out.value/\q.out.state=p.out.state
def Keeps.refl{p:Proc}(h:dX p.mods p.state=true)(l:List Frm):Keeps p { p with frames:=l }:=⟨rfl,h,rfl,rfl,rfl,rfl⟩
theorem rP{α β:Type}{F:α->β->Bool}:∀ {l:List α} {r:List β} {i:Nat} {g:β->β},iV F l r=true->(∀x y,F x y=true->F x (g y)=true)->iV F l (r.modify i g)=true
 |[],[],i,g,_,_=>by cases i<;>rfl
 |x:: l,y:: r,0,g,h,hg=>by
  simp_all[iV]
 |x:: l,y:: r,i+1,g,h,hg=>by
  simp only[iV,Xu]at h;simp only[List.modify_succ_cons,iV,Xu];exact⟨h.1,rP h.2 hg⟩
 |[],_:: _,_,_,h,_=>by simp[iV]at h
 |_:: _,[],_,_,h,_=>ZU
def zB{p:List Mod}{st:List Vars}(h:dX p st=true)(i k:Nat){v:Val}(hv:Rv v):dX p (st.modify i fun w=>{ w with values:=w.values.set k v })=true:=by
 unfold dX at h|-;refine rP h fun m w hw=>?_
 grind
def FT{p:List Mod}{st:List Vars}(h:dX p st=true){i k:Nat}(hk:k<(st[i]?.getD default).values.length):Rv (st[i]?.getD default).values[k]!:=by
 obtain⟨h1,h2,h3⟩:=jp h;cases hs:st[i]? with
 |none=>rw[hs]at hk;exact absurd hk (Nat.not_lt_zero _)
 |some w=>
  grind
def zO{p q:Proc}{fs:List Frm}{f:Frm}{x:Fnc}(hb:dX p.mods p.state=true)(hc:eF p.mods fs (some f)=true)(hl:fs.length+1<=60)(H:TopOk p.mods f x)(h18:x.cod.code[f.pc.toNat]!.op≠18)(e:mW p fs { f with pc:=f.pc+1 } x.cod.code[f.pc.toNat]! = .ok q):Keeps p q/\q.frames≠[]/\q.frames.length<=60/\iE p.mods q.frames=true:=by
 have I:=H.ins;have hgo:=@Xo p.mods f x H;obtain⟨i,hi⟩:∃i,x.cod.code[f.pc.toNat]! = i:=⟨_,rfl⟩;rw[hi]at I e h18 hgo;have hs:=H.stk.2;have hnx:i.op≠10->f.pc+1∈gu i f.pc:=fun h=>by
  unfold gu
  grind
 -- frames that go on
 have fin:∀g:Frm,g.mod=f.mod->g.fn=f.fn->TopOk p.mods g x->fs++[g]≠[]/\(fs++[g]).length<=60/\iE p.mods (fs++[g])=true:=fun g h1 h2 h3=>by
  refine⟨ZV,by simp;omega,?_⟩;unfold iE;rw[iW,Xu]
  grind [mo,rH]
 have last:0<f.stack.length->Rv f.stack[f.stack.length-1]!:=fun h=>hs _ (mI ZS)
 -- a value pushed in place of some
 have push:∀(k:Nat)(v:Val),i.op≠10->(aG i).1=k->(aG i).2=1->Rv v->TopOk p.mods { f with pc:=f.pc+1,stack:=f.stack.take (f.stack.length-k)++[v] } x:=fun k v h1 h2 h3 h4=>by
  have:=I.need
  exact hgo (hnx h1) rfl rfl rfl rfl H.loc.2 ZU (zq (nu hs _) h4)
 have K0:∀g:Frm,Keeps p { p with frames:=fs++[g] }:=fun g=>Keeps.refl hb _;unfold mW at e;simp only at e;by_cases o0:i.op=0
 ·rw[Xv o0]at e;cases e;exact⟨K0 _,fin _ rfl rfl (push 0 _ ZS (by simp[aG,o0]) (by simp[aG,o0]) (fD _))⟩
 rw[Xr o0]at e;by_cases o1:i.op=1
 ·rw[Xv o1]at e;cases e;exact⟨K0 _,fin _ rfl rfl (push 0 _ ZS (by simp[aG,o1]) (by simp[aG,o1]) (dH _))⟩
 rw[Xr o1]at e;by_cases o2:i.op=2
 ·rw[Xv o2]at e;cases e;have hf:=I.form;simp[bH,o2]at hf;have hlo:=H.loc.1;exact⟨K0 _,fin _ rfl rfl (push 0 _ ZS (by simp[aG,o2]) (by simp[aG,o2]) (H.loc.2 _ (mI ZS)))⟩
 rw[Xr o2]at e;by_cases o3:i.op=3
 ·rw[Xv o3]at e;cases e;have hn:(aG i).1=1/\(aG i).2=0:=by simp[aG,o3]
  have:=I.need
  refine⟨K0 _,fin _ rfl rfl (hgo (hnx ZS) rfl rfl rfl ZV (fun v hv=>?_) ZU (nu hs _))⟩;rcases ZD hv with hv|rfl
  ·exact H.loc.2 v hv
  grind
 rw[Xr o3]at e;by_cases o19:i.op=19
 ·rw[Xv o19]at e;cases e;have hn:(aG i).1=1/\(aG i).2=0:=by simp[aG,o19]
  have:=I.need
  exact⟨K0 _,fin _ rfl rfl (hgo (hnx ZS) rfl rfl rfl rfl H.loc.2 ZU (nu hs _))⟩
 rw[Xr o19]at e;by_cases o10:i.op=10
 ·rw[Xv o10]at e;cases e;have hn:(aG i).1=0/\(aG i).2=0:=by simp[aG,o10]
  exact⟨K0 _,fin _ rfl rfl (hgo (v:=i.a) (by simp[gu,o10]) rfl rfl rfl rfl H.loc.2 ZU hs)⟩
 rw[Xr o10]at e;by_cases o11:i.op=11
 ·rw[Xv o11]at e;have hn:(aG i).1=1/\(aG i).2=0:=by simp[aG,o11]
  have:=I.need
  split at e
  ·cases e;refine⟨K0 _,fin _ rfl rfl (hgo (v:=if f.stack[f.stack.length-1]!.n=0 then i.a else f.pc+1) ?_ rfl rfl rfl rfl H.loc.2 ZU (nu hs _))⟩;unfold gu;rw[Xr h18,Xr o10,Xv o11];split<;>simp
  ·cases e
 rw[Xr o11]at e;by_cases o12:i.op=12
 ·rw[Xv o12]at e;have hn:(aG i).1=i.names.length/\(aG i).2=1:=by simp[aG,o12]
  have:=I.need
  split at e
  ·rename_i h4;cases e;exact⟨K0 _,fin _ rfl rfl (push _ _ o10 hn.1 hn.2 (N7 I.form o12 (by rw[ZL];omega) (fun v hv=>hs v (YT hv)) h4))⟩
  ·cases e
 rw[Xr o12]at e;by_cases o14:i.op=14
 ·rw [Xv o14]at e;have hn:(aG i).1=i.a/\(aG i).2=1:=by simp[aG,o14]
  have hneed:=I.need;have hb0:=(gt I.form).1;split at e
  ·cases e
  ·rename_i y hy;split at e
   ·cases e
   ·split at e
    ·cases e
    ·rename_i hpar;split at e
     ·cases e
     ·rename_i hfull;cases e;have hargs:fu (f.stack.drop (f.stack.length-i.a.toNat)) y.cod.params=true:=ig.2 ⟨by rw[ZL];omega,fun v hv=>hs v (YT hv)⟩;have T:=zT hy hargs;refine⟨⟨rfl,hb,rfl,rfl,rfl,rfl⟩,by simp[F9],by simp[F9];omega,?_⟩;show iE p.mods ((fs++[_])++[_])=true;unfold iE;rw[iW,Xu];refine⟨?_,rH.2 ⟨y,T⟩⟩;rw[iW,Xu];refine⟨(mo p.mods fs (f:={ f with pc:=f.pc+1,stack:=f.stack.take (f.stack.length-i.a.toNat) }) (g:=f) rfl rfl).trans hc,CE.2 ⟨x,H.fnc,?_,H.loc,by have:=H.pc;grind,?_,?_,?_,?_⟩⟩
      ·obtain⟨a1,_,_⟩:=I.next _ (hnx o10);exact a1
      ·obtain⟨a1,a2,a3⟩:=I.next _ (hnx o10);refine⟨?_,nu hs _⟩;simp only[YU];omega
      ·grind
      ·grind
      ·show x.cod.code[(f.pc+1-1).toNat]!.s=_;rw[Int.add_sub_cancel,hi];exact (kN hy).name.symm
 rw[Xr o14]at e;by_cases o16:i.op=16
 ·rw[Xv o16]at e;have hf:=I.form;simp[bH,o16]at hf;split at e
  ·rename_i hlt;cases e;exact⟨K0 _,fin _ rfl rfl (push 0 _ o10 (by simp[aG,o16]) (by simp[aG,o16]) (FT hb ZS))⟩
  ·cases e
 rw[Xr o16]at e;by_cases o17:i.op=17
 ·rw[Xv o17]at e;have hn:(aG i).1=1/\(aG i).2=1:=by simp[aG,o17]
  have:=I.need
  split at e
  ·cases e;exact⟨⟨rfl,zB hb _ _ (last ZS),rfl,rfl,rfl,rfl⟩,fin _ rfl rfl (hgo (hnx o10) rfl rfl rfl rfl H.loc.2 ZU hs)⟩
  ·cases e
 rw[Xr o17]at e;by_cases o9:i.op=9
 ·rw[Xv o9]at e;have hn:(aG i).1=1/\(aG i).2=1:=by simp[aG,o9]
  split at e
  ·cases e;exact⟨K0 _,fin _ rfl rfl (push 1 _ o10 hn.1 hn.2 (dH _))⟩
  ·cases e
 rw[Xr o9]at e;by_cases o13:i.op=13
 ·rw[Xv o13]at e;have hn:(aG i).1=1/\(aG i).2=1:=by simp[aG,o13]
  have:=I.need
  split at e
  ·rename_i y hy;split at e
   ·cases e;exact⟨K0 _,fin _ rfl rfl (push 1 _ o10 hn.1 hn.2 (sC (last ZS) (pk _ _ _ _ hy)))⟩
   ·cases e
  ·cases e
 rw[Xr o13]at e;by_cases o15:i.op=15
 ·rw[Xv o15]at e;have hn:(aG i).1=1/\(aG i).2=1:=by simp[aG,o15]
  split at e
  ·cases e;exact⟨⟨rfl,hb,rfl,rfl,rfl,rfl⟩,fin _ rfl rfl (push 1 _ o10 hn.1 hn.2 (fD _))⟩
  ·cases e
 rw[Xr o15]at e;split at e
 ·rename_i v hv;cases e;have hf:=I.form;simp[bH,o0,o1,o2,o3,o10,o11,o12,o13,o14,o15,o16,o17]at hf;have hn:(aG i).1=2/\(aG i).2=1:=by
   have:=hf.1
   unfold wz at this;simp[aG]at this |-
   grind
  exact⟨K0 _,fin _ rfl rfl (push 2 _ o10 hn.1 hn.2 (BK hv))⟩
 ·cases e
structure RightP (p:Proc):Prop where
 load:jE p.mods=0
 st:dX p.mods p.state=true
 ended:p.ended=p.frames.isEmpty
 len:p.frames.length<=60
 out:p.ended=true\/sr p.out=true
 frames:iE p.mods p.frames=true
def xx{p:Proc}:gR p=true↔RightP p:=by
 unfold gR;simp only[Xu,Xt,Yd,Yj];exact⟨fun⟨⟨⟨⟨⟨h1,h2⟩,h3⟩,h4⟩,h5⟩,h6⟩=>⟨h1,h2,h3,h4,h5,h6⟩,fun⟨h1,h2,h3,h4,h5,h6⟩=>⟨⟨⟨⟨⟨h1,h2⟩,h3⟩,h4⟩,h5⟩,h6⟩⟩
def wP{p:Proc}(H:RightP p)(e:Int)(v:Val):RightP (yp p e v):=⟨H.load,H.st,rfl,XN _,.inl rfl,rfl⟩
def kD{p:Proc}(H:RightP p)(he:p.ended=false):∃fs f x,p.frames=fs++[f]/\eF p.mods fs (some f)=true/\TopOk p.mods f x:=by
 have hne:p.frames≠[]:=fun h=>by rw[H.ended,h]at he;cases he
 refine⟨p.frames.dropLast,p.frames.getLast hne,?_⟩;have e:=Y6 hne;have h:=H.frames;unfold iE at h;rw[<- e,iW,Xu]at h
 grind [rH]
def vu{p:Proc}{fs:List Frm}{f:Frm}(h:p.frames=fs++[f]):bZ p=vw p fs f:=by
 simp_all[bZ]
def pF{p:Proc}(H:RightP p)(he:p.ended=false):RightP (bZ p):=by
 obtain⟨fs,f,x,h1,h2,h3⟩:=kD H he;have hlen:=H.len;rw[h1]at hlen;simp only[XL,List.length_singleton]at hlen;have hout:sr p.out=true:=H.out.resolve_left (by rw[he];simp);rw[vu h1];unfold vw;rw[h3.fnc];simp only[YC,YM];split
 ·rename_i h18;split
  ·exact wP H _ _
  ·rename_i hne;obtain⟨gs,g,rfl⟩:∃gs g,fs=gs++[g]:=⟨fs.dropLast,fs.getLast hne,(Y6 hne).symm⟩;have hg:(gs++[g])[(gs++[g]).length-1]! = g:=by rw[Xx _ _ ZV];simp
   rw[hg,List.dropLast_concat];rw[iW,Xu]at h2;obtain⟨y,hy⟩:=CE.1 h2.2;have hr:=h3.ins.ret h18;refine⟨H.load,H.st,by rw[he];simp,ZU,.inr hout,?_⟩;show iE p.mods (gs++[_])=true;unfold iE;rw[iW,Xu];refine⟨(mo p.mods gs (f:={ g with stack:=g.stack++[f.stack[f.stack.length-1]!] }) (g:=g) rfl rfl).trans h2.1,rH.2 ⟨y,hy.fnc,hy.pc,hy.loc,?_,?_,?_⟩⟩
   ·have:=hy.stk.1
    grind
   ·have:=hy.stk.1
    grind
   ·exact zq hy.stk.2 (h3.stk.2 _ (mI ZS))
 ·rename_i h18;split
  ·rename_i q hq;obtain⟨k,k1,k2,k3⟩:=zO H.st h2 hlen h3 h18 hq;refine⟨by rw[k.mods];exact H.load,by rw[k.mods];exact k.st,?_,k2,.inr ?_,by rw[k.mods];exact k3⟩
   ·rw[k.ended,he]
    grind
   ·unfold sr at hout |-;rw[k.out.1,k.out.2.1,k.out.2.2];exact hout
  ·exact wP H _ _
theorem vH:∀(n:Nat){p:Proc},RightP p->RightP (jI n p)
 |0,_,H=>H
 | n+1,p,H=>by
  unfold jI;split
  ·exact H
  ·rename_i he;exact vH n (pF H (by simpa using he))
theorem C2:∀(n:Nat){p:Proc},p.ended=true->jI n p=p
 |0,_,_=>rfl
 |n+1,p,h=>by unfold jI;rw[Xv h]
def xL{n:Nat}{p:Proc}(h:¬p.ended=true):jI (n+1) p=jI n (bZ p):=by show (if _ then _ else _)=_;rw[Xr h]
def Bh{l:List Mod}{s t:aW}{args:List Val}{w:List Int}{p:Proc}(h:gB l s t args w= .ok p):RightP p/\p.ended=false:=by
 unfold gB at h;split at h
 ·cases h
 ·rename_i h0;split at h
  ·cases h
  ·rename_i st hst;split at h
   ·cases h
   ·rename_i x hx;split at h
    ·rename_i ha;cases h;refine⟨⟨Decidable.not_not.1 h0,ue hst,rfl,by simp[F9],.inr rfl,?_⟩,rfl⟩;show eF l [_] none=true;rw[eF,Xu];exact⟨rH.2 ⟨x,zT hx ha⟩,rfl⟩
    ·cases h
def Loc(B:Int)(em:jZ->jZ):Prop:=∀c:jZ,c.2<=B->(em c).2<=B
theorem tO(vars:List fF):∀(n:Nat)(e:Exp)(names:List aW)(B:Int),(names.length:Int)+n<=B->Loc B (bE vars n e names)
 |0,_,_,_,_=>fun c h=>h
 | n+1,e,names,B,hB=>fun c hc=>by
  have ih:=fun(x:Exp)=>tO vars n x names B ZS;have ch:∀yes no:Exp,Loc B (iD (fun x=>bE vars n x names) yes no):=fun yes no c hc=>by
   unfold iD;exact ih no _ (ih yes _ hc)
  have fo:∀l:List Exp,Loc B (fun c=>l.foldl (fun c x=>bE vars n x names c) c):=by
   intro l
   induction l with
   |nil=>exact fun c h=>h
   |cons x l ihl=>exact fun c h=>ihl _ (ih x c h)
  unfold bE;split
  ·exact hc
  split
  ·exact hc
  split
  ·exact hc
  split
  ·exact hc
  split
  ·exact ch _ _ _ (ih _ c hc)
  split
  ·exact ch _ _ _ (ih _ c hc)
  split
  ·exact ch _ _ _ (ih _ c hc)
  split
  ·have h0:=ih e.args[0]! c hc;have h3:(gJ (cC 3 names.length) (bE vars n e.args[0]! names c)).2=(bE vars n e.args[0]! names c).2:=rfl;exact tO vars n _ (names++[e.s]) B ZX _ ZU
  ·exact fo e.args c hc
def dR:Nat->Exp->Nat
 |0,_=>0
 |d+1,e=>1+(e.args.map (dR d)).sum
theorem Ae(em:Exp->jZ->jZ)(L:Exp->Nat):∀(l:List Exp),(∀x∈l,oV (em x) (L x))->oV (fun c=>l.foldl (fun c x=>em x c) c) ((l.map L).sum)
 |[],_=>fun c=>ZV
 |x:: l,h=>fun c=>by
  have a:=h x ZV c;have b:=Ae em L l (fun y hy=>h y (by simp[hy])) (em x c)
  grind
theorem xF{d:Nat}:∀l:List Exp,(l.map fun x=>3*dR d x).sum=3*(l.map (dR d)).sum
 |[]=>rfl
 |x:: l=>by
  have:=xF (d:=d) l
  grind
theorem M3{n:Nat}{e:Exp}(h:e.args.length=2):dR (n+1) e=1+dR n e.args[0]! + dR n e.args[1]!:=by
 grind [List.eq_getElem_of_length_eq_two,dR]
def Uq{n:Nat}{e:Exp}(h:e.args.length=3):dR (n+1) e=1+dR n e.args[0]! + dR n e.args[1]! + dR n e.args[2]!:=by
 grind [List.eq_getElem_of_length_eq_three,dR]
theorem gn(vars:List fF):∀(n:Nat)(e:Exp),cR n e=true->∀names,oV (bE vars n e names) (3*dR n e)
 |0,e,h,names=>by simp[cR]at h
 | n+1,e,h,names=>by
  have hs:ij e=true:=by rw[fI,Xu]at h;exact h.1
  have hc:=jJ hs;have h1:1<=dR (n+1) e:=by simp only[dR];omega
  intro c;unfold bE;have htr:∀t,1<=n->oV (bE vars n (lJ t) names) 1:=fun t hn c=>by
   obtain⟨m,rfl⟩:∃m,n=m+1:=⟨n-1,ZS⟩;rw[pi,dp];omega
  split
  ·rw[dp];omega
  split
  ·rw[dp];omega
  split
  ·rw[dp];omega
  split
  ·rw[dp];omega
  split
  ·rename_i ho;have hl:e.args.length=2:=ZS
   obtain⟨m,rfl⟩:=fe (dt h (k:=0) ZS);have a:=gn vars _ _ (dt h (k:=0) ZS) names c;have b:=iX (em:=fun x=>bE vars (m+1) x names) (gn vars _ _ (dt h (k:=1) ZS) names) (htr 0 ZS) (bE vars (m+1) e.args[0]! names c);rw[M3 hl];omega
  split
  ·rename_i ho;have hl:e.args.length=2:=ZS
   obtain⟨m,rfl⟩:=fe (dt h (k:=0) ZS);have a:=gn vars _ _ (dt h (k:=0) ZS) names c;have b:=iX (em:=fun x=>bE vars (m+1) x names) (htr 1 ZS) (gn vars _ _ (dt h (k:=1) ZS) names) (bE vars (m+1) e.args[0]! names c);rw[M3 hl];omega
  split
  ·rename_i ho;have hl:e.args.length=3:=ZS
   obtain⟨m,rfl⟩:=fe (dt h (k:=0) ZS);have a:=gn vars _ _ (dt h (k:=0) ZS) names c;have b:=iX (em:=fun x=>bE vars (m+1) x names) (gn vars _ _ (dt h (k:=1) ZS) names) (gn vars _ _ (dt h (k:=2) ZS) names) (bE vars (m+1) e.args[0]! names c);rw[Uq hl];omega
  split
  ·rename_i ho;have hl:e.args.length=2:=ZS
   obtain⟨m,rfl⟩:=fe (dt h (k:=0) ZS);have a:=gn vars _ _ (dt h (k:=0) ZS) names c;have e1:=dp (cC 3 names.length) (bE vars (m+1) e.args[0]! names c);have b:=gn vars _ _ (dt h (k:=1) ZS) (names++[e.s]) ((gJ (cC 3 names.length) (bE vars (m+1) e.args[0]! names c)).1,max (gJ (cC 3 names.length) (bE vars (m+1) e.args[0]! names c)).2 (names.length+1))
   grind [M3]
  ·have b:=Ae (fun x=>bE vars n x names) (fun x=>3*dR n x) e.args (fun x hx=>gn vars n x (gA h hx) names) c
   grind [xF,dp,dR]
end Go.Av.Ap
namespace Go.Av.Ap
def mu(m:Ms):Int:=m.deeds.length+m.calls.length+m.fuel
def TQ(k:Int){α:Type}(x:X α):Prop:=∀m a s,0<=m.fuel->x m= .ok a s->mu s<=mu m+k/\s.fuel<=m.fuel/\0<=s.fuel/\s.frames=m.frames
def Es{k:Int}{α:Type}{a:α}(hk:0<=k):TQ k (.ok a):=fun m b s h0 h=>by cases h;grind
def IJ{k:Int}{α:Type}{e:Int}:TQ k (α:=α) (.er e):=fun m b s _ h=>by cases h
def KA{j k:Int}{α β:Type}{x:X α}{f:α->X β}(hx:TQ j x)(hf:∀a,TQ k (f a)):TQ (j+k) (x.bind f):=by
 intro m b s h0 h;unfold X.bind at h;cases hr:x m with
 |er e t=>grind
 |ok a t=>
  rw[hr]at h;obtain⟨h1,h2,h3,h4⟩:=hx m a t h0 hr;obtain⟨g1,g2,g3,g4⟩:=hf a t b s h3 h
  grind
theorem eD{k:Int}{α β:Type}{x:X α}{f:α->X β}(hx:TQ 0 x)(hf:∀a,TQ k (f a)):TQ k (x.bind f):=by
 have:=KA hx hf
 grind
theorem Er{j k:Int}{α:Type}{x:X α}(h:TQ j x)(hk:j<=k):TQ k x:=fun m a s h0 e=>by
 obtain⟨h1,h2⟩:=h m a s h0 e
 grind
def dQ{k:Int}{α:Type}{c:Prop}[Decidable c]{x y:X α}(h1:TQ k x)(h2:TQ k y):TQ k (if c then x else y):=by
 grind
theorem tj{r:X Val}(h:TQ 0 r):TQ 0 (boolX r):=eD h fun _=>dQ (Es (Zs _)) IJ
theorem zb{r:Exp->X Val}(h:∀e,TQ 0 (r e)):∀l,TQ 0 (listX r l)
 |[]=>Es (Zs _)
 |e:: l=>eD (h e) fun _=>eD (zb h l) fun _=>Es (Zs _)
def qQ(p:List Mod)(r:Ev)(a:Int)(f:Fun)(l:List Val)(m:Ms):jO p r a f l m=if m.frames<60 then((r a (f.params.map (·.1)) l f.body).bind fun v=>.upd (fun m=>{ m with frames:=m.frames-1 }) (.ok v)) (qP p a f l m)else .er 6 m:=by
 unfold jO X.get;by_cases h:m.frames<60
 ·simp only[h,XF];rfl
 ·simp only[h,Xy];rfl
def II{p:List Mod}{r:Ev}{a:Int}{f:Fun}{l:List Val}(hr:∀o ns vs e,TQ 0 (r o ns vs e)):TQ 1 (jO p r a f l):=by
 intro m v s h0 h;rw[qQ]at h;split at h
 ·unfold X.bind at h;cases hr':r a (f.params.map (·.1)) l f.body (qP p a f l m)with
  |er e t=>grind
  |ok b t=>
   rw[hr']at h;cases h;obtain⟨h1,h2,h3,h4⟩:=hr _ _ _ _ (qP p a f l m) v t h0 hr'
   grind [mu,qP]
 ·cases h
def KB{p:List Mod}{r:Ev}(hr:∀o ns vs e,TQ 0 (r o ns vs e))(o:Int)(ns:List aW)(vs:List Val)(e:Exp):TQ 0 (qx p r o ns vs e):=by
 have tick:∀y:X Val,TQ 1 y->TQ 0 (xG y):=fun y hy m a s h0 h=>by
  unfold xG X.get at h;by_cases hf:m.fuel<=0
  ·simp only[hf,XF]at h;cases h
  ·simp only[hf,Xy]at h;obtain⟨h1,h2,h3,h4⟩:=hy { m with fuel:=m.fuel-1 } a s ZU h
   grind [mu]
 have H:=fun e=>hr o ns vs e;have ok1:∀(α:Type)(a:α),TQ 1 (.ok a):=fun _ _=>Es ZS;have er1:∀(α:Type) e,TQ 1 (α:=α) (.er e):=fun _ _=>IJ;have H1:=fun e=>Er (H e) (show (0:Int)<=1 by omega);refine tick _ ?_;refine dQ (er1 _ _) (dQ (ok1 _ _) (dQ (dQ (ok1 _ _) (er1 _ _)) (dQ ?_ (dQ ?_ (dQ ?_ (dQ ?_ (dQ ?_ (dQ ?_ (dQ ?_ (dQ ?_ (dQ ?_ (dQ ?_ ?_))))))))))))
 ·grind
 ·refine eD (H _) fun a=>eD (H _) fun b=>?_;unfold oZ
  grind
 ·exact eD (tj (H _)) fun a=>dQ (ok1 _ _) (eD (tj (H _)) fun b=>ok1 _ _)
 ·grind [eD,tj]
 ·simp_all[eD,tj]
 ·grind [eD,Er]
 ·unfold mT;exact dQ (dQ (eD (zb H _) fun vs=>dQ (ok1 _ _) (er1 _ _)) (er1 _ _)) (er1 _ _)
 ·refine eD (H _) fun v=>?_
  grind
 ·unfold tC;simp only;split
  ·exact er1 _ _
  ·exact dQ (dQ (eD (zb H _) fun l=>II hr) (er1 _ _)) (er1 _ _)
 ·unfold BC;refine eD (H _) fun v=>dQ (dQ (fun m a s h0 h=>?_) (er1 _ _)) (er1 _ _);cases h;simp only[mu]
  grind
 ·unfold C1;refine dQ (er1 _ _) ?_;simp only;refine dQ (er1 _ _) (dQ (eD (H _) fun v m a s h0 h=>?_) fun m a s h0 h=>?_)
  ·cases h;exact⟨by simp only[mu];omega,Zs _,h0,rfl⟩
  ·cases h
   grind
theorem tk{p:List Mod}:∀(n:Nat)(o:Int)(ns:List aW)(vs:List Val)(e:Exp),TQ 0 (cM p n o ns vs e)
 |0,_,_,_,_=>IJ
 |n+1,o,ns,vs,e=>KB (fun o ns vs e=>tk n o ns vs e) o ns vs e
structure GoodM (p:List Mod) (m:Ms):Prop where
 right:xU m
 bud:mu m<=1000000
 fr:0<=m.frames/\m.frames<=60
 fuel:0<=m.fuel
 shape:∀(i:Nat)(x:Mod),p[i]? = some x->∃l,m.state[i]? = some l/\l.length=x.vars.length
theorem GoodM.eval{p:List Mod}{n:Nat}{o:Int}{ns:List aW}{vs:List Val}{e:Exp}{m s:Ms}{v:Val}(G:GoodM p m)(hs:nk ns vs)(h:cM p n o ns vs e m= .ok v s):GoodM p s/\Rv v/\s.fuel<=m.fuel:=by
 obtain⟨h1,h2,h3,h4⟩:=tk n o ns vs e m v s G.fuel h;obtain⟨g1,g2,g3⟩:=pz (p:=p) n o ns vs e hs m G.right;rw[h]at g1 g2;refine⟨⟨g1,by have:=G.bud;omega,by rw[h4];exact G.fr,h3,fun i x hx=>?_⟩,g3 v s h,h2⟩;obtain⟨l,k1,k2⟩:=G.shape i x hx;have:(nW s)[i]? = (nW m)[i]?:=by rw[show nW s=nW m from g2]
 simp only[nW,YI,k1,YC]at this
 grind
def GoodM.bool{p:List Mod}{n:Nat}{o:Int}{ns:List aW}{vs:List Val}{e:Exp}{m s:Ms}{b:Bool}(G:GoodM p m)(hs:nk ns vs)(h:boolX (cM p n o ns vs e) m= .ok b s):GoodM p s/\s.fuel<=m.fuel:=by
 unfold boolX X.bind at h;cases hr:cM p n o ns vs e m with
 |er c t=>grind
 | ok v t=>
  rw[hr]at h;simp only at h;split at h
  ·cases h;exact⟨(G.eval hs hr).1,(G.eval hs hr).2.2⟩
  ·cases h
theorem pB{v:Val}(h:Rv v):v.names.length<=8:=by
 unfold Rv cP at h
 grind
theorem Dz:∀(d:Nat)(v:Val),cP d v=true->v.sz<=17*9 ^ d
 |0,v,h=>by simp[cP]at h
 | d + 1,v,h=>by
  have hp:1<=9 ^ d:=Nat.one_le_pow _ _ ZT;obtain⟨k,n,ns,vs⟩:=v;unfold cP at h;simp only[Val.sz];split at h
  ·simp only[Xu,Yd,Xg,Xe]at h
   grind [db]
  ·simp only[Xu,Yd,XJ,Xg,Xe]at h;have h8:=of_decide_eq_true h.1.1.2;have hl:=h.1.1.1.2;have hv:=h.2;have key:∀l:List Val,(∀v∈l,cP d v=true)->db l<=l.length*(17*9 ^ d):=by
    intro l
    induction l with
    |nil=>intro _;simp[db]
    |cons v l ih=>
     intro h;have h1:=Dz d v (h v List.mem_cons_self)
     grind [db,Nat.add_mul]
   have h3:=key vs hv;have h4:vs.length*(17*9 ^ d)<=8*(17*9 ^ d):=XB _ ZS
   grind
theorem nS{v:Val}(h:Rv v):v.sz<=200000:=XM (Dz 4 v h) ZT
end Go.Av.Ap
namespace Go.Av.Ap
open Go Go.Av
structure PBd (p:List Mod):Prop where
 len:p.length<=1000000
 vars:∀m∈p,m.vars.length<=1000000
 code:∀s t x,fj p s t=some x->x.cod.code.length<=1000000/\x.cod.locals<=1000000
def Dp{vars:List fF}{f:Fun}(F:FunOk f)(hc:dR 12 f.body<=1000):(dw vars f).code.length<=1000000/\(dw vars f).locals<=1000000:=by
 have a:=(gn vars 12 f.body F.body (f.params.map (·.1)) ([],f.params.length)).2;have p6:=F.plen;have hL:=tO vars 12 f.body (f.params.map (·.1)) 1000 ZX ([],f.params.length) ZU;constructor
 ·show (gJ (cC 18 0) (bE vars 12 f.body (f.params.map (·.1)) ([],f.params.length))).1.length<=_
  grind [dp]
 ·show (bE vars 12 f.body (f.params.map (·.1)) ([],f.params.length)).2<=_;omega
def NZ{p:List Mod}(h20:p.length<=20)(hr:∀m∈p,ie m=true)(hc:∀m∈p,∀f∈m.funcs,dR 12 f.body<=1000):PBd p:=by
 refine⟨ZS,fun m hm=>?_,fun s t x hx=>?_⟩
 ·have:=(uM (hr m hm)).vlen
  omega
 ·have F:=kN hx;obtain⟨f,_,f2,f3,_⟩:=F.fn;have hm:(p[(cV p s).toNat]?.getD default)∈p:=by
   rw[XE F.lt];exact XG F.lt
  rw[f3];exact Dp ((uM (hr _ hm)).fns f f2) (hc _ hm f f2)
structure OwnX (p q:Proc) (fs:List Frm) (f:Frm):Prop where
 mods:q.mods=p.mods
 world:q.world=p.world\/q.world=p.world.tail
 deeds:q.out.deeds=p.out.deeds\/∃d,q.out.deeds=p.out.deeds++[d]
 calls:q.out.calls=p.out.calls\/∃c:Call,q.out.calls=p.out.calls++[c]/\(∀v∈c.args,v∈f.stack)/\c.args.length<=f.stack.length
 state:q.state=p.state\/∃k v,v∈f.stack/\q.state=p.state.modify (cV p.mods f.mod).toNat fun w=>{ w with values:=w.values.set k v }
 frames:∃l:List Frm,q.frames=fs++l/\1<=l.length/\l.length<=2
def NX{p q:Proc}{fs:List Frm}{f:Frm}{i:Ins}(e:mW p fs f i= .ok q)(h17:i.op=17->1<=f.stack.length):OwnX p q fs f:=by
 have K:∀g:Frm,OwnX p { p with frames:=fs++[g] } fs f:=fun g=>⟨rfl,.inl rfl,.inl rfl,.inl rfl,.inl rfl,⟨[g],rfl,ZV,ZV⟩⟩;unfold mW at e;simp only at e;by_cases o0:i.op=0
 ·grind
 rw[Xr o0]at e;by_cases o1:i.op=1
 ·grind
 rw[Xr o1]at e;by_cases o2:i.op=2
 ·grind
 rw[Xr o2]at e;by_cases o3:i.op=3
 ·grind
 rw[Xr o3]at e;by_cases o19:i.op=19
 ·grind
 rw[Xr o19]at e;by_cases o10:i.op=10
 ·grind
 rw[Xr o10]at e;by_cases o11:i.op=11
 ·grind
 rw[Xr o11]at e;by_cases o12:i.op=12
 ·grind
 rw[Xr o12]at e;by_cases o14:i.op=14
 ·rw [Xv o14]at e;split at e
  ·cases e
  ·split at e
   ·cases e
   ·split at e
    ·cases e
    ·split at e
     ·cases e
     ·cases e;rename_i y _ _ _ _;refine⟨rfl,.inl rfl,.inl rfl,?_,.inl rfl,⟨[_,_],Ye _ _ _,ZV,ZV⟩⟩;by_cases hp:y.pub=true
      ·exact .inr ⟨⟨wb i.m f.mod,y.cod.func,f.stack.drop (f.stack.length-i.a.toNat)⟩,Xv hp,fun v hv=>YT hv,ZV⟩
      ·exact .inl (Xr hp)
 rw[Xr o14]at e;by_cases o16:i.op=16
 ·grind
 rw[Xr o16]at e;by_cases o17:i.op=17
 ·rw[Xv o17]at e;split at e
  ·cases e
   have:=h17 o17
   exact⟨rfl,.inl rfl,.inl rfl,.inl rfl,.inr ⟨i.a.toNat,_,mI (show f.stack.length-1<f.stack.length by omega),rfl⟩,⟨[_],rfl,ZV,ZV⟩⟩
  ·cases e
 rw[Xr o17]at e;by_cases o9:i.op=9
 ·grind
 rw[Xr o9]at e;by_cases o13:i.op=13
 ·grind
 rw[Xr o13]at e;by_cases o15:i.op=15
 ·rw[Xv o15]at e;split at e
  ·cases e;exact⟨rfl,.inr rfl,.inr ⟨_,rfl⟩,.inl rfl,.inl rfl,⟨[_],rfl,ZV,ZV⟩⟩
  ·cases e
 grind
structure StepO (p q:Proc) (fs:List Frm) (f:Frm):Prop where
 mods:q.mods=p.mods
 world:q.world=p.world\/q.world=p.world.tail
 deeds:q.out.deeds=p.out.deeds\/∃d,q.out.deeds=p.out.deeds++[d]
 calls:q.out.calls=p.out.calls\/∃c:Call,q.out.calls=p.out.calls++[c]/\(∀v∈c.args,v∈f.stack)/\c.args.length<=f.stack.length
 state:q.state=p.state\/∃k v,v∈f.stack/\q.state=p.state.modify (cV p.mods f.mod).toNat fun w=>{ w with values:=w.values.set k v }
 frames:q.ended=true/\q.frames=[]\/q.ended=false/\fs.length<=q.frames.length/\q.frames.length<=fs.length+2/\∀m,m+1<fs.length->q.frames[m]? = p.frames[m]?
 out:q.ended=false/\q.out.err=p.out.err/\q.out.value=p.out.value/\q.out.state=p.out.state\/q.ended=true/\q.out.state=p.state/\Rv q.out.value
theorem pC:Rv default:=fD 0
def qz{p:Proc}(H:RightP p)(he:p.ended=false){fs:List Frm}{f:Frm}{x:Fnc}(hp:p.frames=fs++[f])(hc:eF p.mods fs (some f)=true)(T:TopOk p.mods f x):StepO p (bZ p) fs f:=by
 have hlen:=H.len;rw[hp]at hlen;simp only[XL,List.length_singleton]at hlen;have I:=T.ins;have E:∀e v,Rv v->StepO p (yp p e v) fs f:=fun e v hv=>⟨rfl,.inl rfl,.inl rfl,.inl rfl,.inl rfl,.inl ⟨rfl,rfl⟩,.inr ⟨rfl,rfl,hv⟩⟩;rw[vu hp];unfold vw;rw[T.fnc];simp only[YC,YM];split
 ·rename_i h18;have hr:=I.ret h18;split
  ·exact E _ _ (T.stk.2 _ (mI ZS))
  ·rename_i hne;have hpos:=Yp.2 hne;refine⟨rfl,.inl rfl,.inl rfl,.inl rfl,.inl rfl,.inr ⟨he,by simp;omega,by simp;omega,fun m hm=>?_⟩,.inl ⟨he,rfl,rfl,rfl⟩⟩
   grind
 ·rename_i h18;split
  ·rename_i q hq;have h17:x.cod.code[f.pc.toNat]!.op=17->1<=f.stack.length:=by
    have:=I.need
    generalize x.cod.code[f.pc.toNat]! = i at this;intro h;have e:(aG i).1=1:=by simp[aG,h]
    omega
   have O:=NX hq h17;obtain⟨k,k1,k2,k3⟩:=zO H.st hc hlen T h18 hq;obtain⟨l,l1,l2,l3⟩:=O.frames;refine⟨O.mods,O.world,O.deeds,O.calls,O.state,.inr ⟨by rw[k.ended];exact he,by rw[l1];simp,ZU,fun m hm=>?_⟩,.inl ⟨by rw[k.ended];exact he,k.out.1,k.out.2.1,k.out.2.2⟩⟩
   grind
  ·exact E _ _ pC
structure SzP (k:Nat) (p:Proc):Prop where
 deeds:p.out.deeds.length<=k
 calls:p.out.calls.length<=k
 args:∀c∈p.out.calls,c.args.length<=1000000/\∀v∈c.args,v.sz<=4611686018427387904
 world:p.world.length<=1000000
 value:Rv p.out.value
 ostate:p.out.state=[]\/dX p.mods p.out.state=true
theorem SzP.mono{k n:Nat}{p:Proc}(S:SzP k p)(h:k<=n):SzP n p:=⟨XM S.deeds h,XM S.calls h,S.args,S.world,S.value,S.ostate⟩
def xH{p:List Mod}(P:PBd p){f:Frm}{x:Fnc}(T:TopOk p f x):f.stack.length<=1000000:=by
 obtain⟨h1,_,_⟩:=iF (kN T.fnc).hgt
 have:=h1.lo f.pc.toNat (by have:=T.pc;omega)
 have:=(P.code _ _ _ T.fnc).1
 have:=T.stk.1
 omega
def En{p:Proc}(H:RightP p)(he:p.ended=false)(P:PBd p.mods){k:Nat}(S:SzP k p):SzP (k+1) (bZ p):=by
 obtain⟨fs,f,x,h1,h2,T⟩:=kD H he;have O:=qz H he h1 h2 T;have hst:=xH P T;have hd:=S.deeds;have hc:=S.calls;refine⟨?_,?_,?_,?_,?_,?_⟩
 ·rcases O.deeds with h|⟨d,h⟩<;>rw[h]
  all_goals grind
 ·rcases O.calls with h|⟨d,h,_⟩<;>rw[h]
  all_goals grind
 ·rcases O.calls with h|⟨d,h,g1,g2⟩<;>rw[h]
  ·exact S.args
  ·intro c hc;rcases Ya.1 hc with hc|hc
   ·exact S.args c hc
   ·rw[Yo]at hc;subst hc;exact⟨ZS,fun v hv=>XM (nS (T.stk.2 v (g1 v hv))) ZT⟩
 ·have:=S.world
  rcases O.world with h|h<;>rw[h]
  all_goals grind
 ·rcases O.out with⟨_,_,h,_⟩|⟨_,_,h⟩
  ·rw[h];exact S.value
  ·exact h
 ·rcases O.out with⟨_,_,_,h⟩|⟨_,h,_⟩
  ·rw[h,O.mods];exact S.ostate
  ·rw[h,O.mods];exact .inr H.st
theorem Im:∀(n:Nat){p:Proc}{k:Nat},RightP p->PBd p.mods->SzP k p->SzP (k+n) (jI n p)/\(jI n p).mods=p.mods
 |0,_,_,_,_,S=>⟨S,rfl⟩
 | n+1,p,k,H,P,S=>by
  unfold jI;split
  ·exact⟨S.mono ZS,rfl⟩
  ·rename_i he;have he:p.ended=false:=by simpa using he
   obtain⟨fs,f,x,h1,h2,T⟩:=kD H he;have hm:=(qz H he h1 h2 T).mods;obtain⟨a,b⟩:=Im n (pF H he) ZU (En H he P S)
   grind
def Iz{l:List Mod}{s t:aW}{args:List Val}{w:List Int}{p:Proc}(h:gB l s t args w= .ok p)(ha:args.length<=1000000)(hw:w.length<=1000000):SzP 1 p/\p.mods=l:=by
 unfold gB at h;split at h
 ·cases h
 ·split at h
  ·cases h
  ·split at h
   ·cases h
   ·rename_i x hx;split at h
    ·rename_i hr;cases h;obtain⟨_,r2⟩:=ig.1 hr;refine⟨⟨XN _,?_,?_,hw,pC,.inl rfl⟩,rfl⟩
     ·show (if _ then _ else _:List Call).length<=1
      grind
     ·intro c hc;have hc:c∈(if x.pub=true then([]:List Call)++[⟨s,x.cod.func,args⟩]else[]):=hc;have k:∀v,Rv v->v.sz<=4611686018427387904:=fun v h=>XM (nS h) ZT
      grind
    ·cases h
theorem wJ{p:List Mod}:∀ {l:List Frm} {nx:Option Frm},eF p l nx=true->∀g∈l,∃n,i9 p g n=true
 |[],_,_,_,h=>by cases h
 |f:: l,nx,hc,g,hg=>by
  rw[eF,Xu]at hc;rcases X7.1 hg with rfl|hg
  ·grind
  ·exact wJ hc.2 g hg
structure AnyF (p:List Mod) (f:Frm) (x:Fnc):Prop where
 fnc:fj p f.mod f.fn=some x
 pc:0<=f.pc/\f.pc<x.cod.code.length
 loc:(f.locals.length:Int)=x.cod.locals/\∀v∈f.locals,Rv v
 stk:(f.stack.length:Int)<=x.hts[f.pc.toNat]! /\∀v∈f.stack,Rv v
def EB{p:List Mod}{f:Frm}{n:Option Frm}(h:i9 p f n=true):∃x,AnyF p f x:=by
 cases n with
 |none=>obtain⟨x,T⟩:=rH.1 h;exact⟨x,T.fnc,T.pc,T.loc,by rw[T.stk.1];grind,T.stk.2⟩
 |some g=>obtain⟨x,T⟩:=CE.1 h;exact⟨x,T.fnc,T.pc,T.loc,by rw[T.stk.1];omega,T.stk.2⟩
def EC{p:List Mod}(P:PBd p){f:Frm}{x:Fnc}(T:AnyF p f x):f.stack.length<=1000000/\f.locals.length<=1000000:=by
 obtain⟨h1,_,_⟩:=iF (kN T.fnc).hgt
 have:=h1.lo f.pc.toNat (by have:=T.pc;omega)
 have:=P.code _ _ _ T.fnc
 have:=T.stk.1
 have:=T.loc.1
 omega
def kz{p:Proc}(H:RightP p)(P:PBd p.mods):∀f∈p.frames,(f.stack.length<=1000000/\f.locals.length<=1000000)/\(∀v∈f.stack,Rv v)/\∀v∈f.locals,Rv v:=by
 intro f hf;obtain⟨n,hn⟩:=wJ (show eF p.mods p.frames none=true from H.frames) f hf;obtain⟨x,T⟩:=EB hn;exact⟨EC P T,T.stk.2,T.loc.2⟩
def iv{p:List Mod}(P:PBd p){st:List Vars}(h:dX p st=true):st.length<=1000000/\∀w∈st,w.values.length<=1000000/\∀v∈w.values,Rv v:=by
 obtain⟨h1,h2,h3⟩:=jp h;refine⟨by have:=P.len;omega,fun w hw=>⟨?_,h2 w hw⟩⟩;obtain⟨i,hi⟩:=Zk.1 hw;have hlt:i<st.length:=(XA.1 hi).1
 have:=h3 i (p[i]'(ZS)) w (XE _) hi
 have:=P.vars _ (XG (l:=p) (n:=i) ZS)
 omega
def og{d:Nat}{h:Hp}{q n sz:Nat}{cs rest:List AV}(h0:h[q]? = some (cs++rest))(hl:cs.length=n*sz)(hz:0<sz):r8 d h q 0 n sz true= .sl ((List.range n).map fun i=>frz d h (.agg ((cs.drop (i*sz)).take sz))):=by
 unfold r8;rw[h0];simp only[XL,hl,XI,hz,ZI,XY,Yz,Yn];rw[XU (show n*sz<=n*sz+rest.length by omega)];simp only[Xw];congr 1;refine YL fun i hi=>?_;have hi:=List.mem_range.1 hi;have h2:(i+1)*sz<=n*sz:=XB sz hi
 grind
theorem pN{d:Nat}{tag:Nat->Nat}{k:Nat}{h:Hp}{l:List Val}{v:AV}(H:dk tag k h l v):cl (r8 d h) v=vals l:=by
 rcases H with⟨h0,hv,_⟩|⟨r,cs,rest,rfl,_,hcs,_,hl,_,rfl⟩
 ·rw[XH h0];rcases hv with rfl|rfl<;>rfl
 ·show r8 d h r 0 l.length 4 true=_;rw[og hcs hl ZT];unfold vals;rw[dT];congr 1;refine je fun i v hv=>?_;have hi:=(XA.1 hv).1;rw[iN hi,(XA.1 hv).2];have:AV.agg (aa v.av)=v.av:=ZV
  rw[this,DG]
theorem eh.at{tag:Nat->Nat}{h:Hp}:{i:Nat} ->{l:List Frm} ->{cs:List AV} ->eh tag h i l cs->∀(j:Nat)(f:Frm),l[j]? = some f->∃lv sv,(cs.drop (j*5)).take 5=iQ f lv sv/\dk tag (11+3*(i+j)) h f.locals lv/\dk tag (12+3*(i+j)) h f.stack sv
 |_,[],_,_,j,f,hj=>by simp at hj
 | i,g:: l,_,⟨lv,sv,rest,h1,h2,h3,h4⟩,j,f,hj=>by
  subst h1;cases j with
  |zero=>simp at hj;subst hj;exact⟨lv,sv,rfl,h2,h3⟩
  |succ j=>
   obtain⟨lv',sv',g1,g2,g3⟩:=h4.at j f (by simpa using hj)
   grind
def wL{d:Nat}{tag:Nat->Nat}{h:Hp}{l:List Frm}{v:AV}(H:gb tag 7 5 l.length (fun cs=>eh tag h 0 l cs) v h):cl (r8 (d+1) h) v=iO l:=by
 rcases H with⟨h0,hv,_⟩|⟨r,cs,rest,rfl,_,hcs,_,hl,_,HF⟩
 ·rw[XH h0];rcases hv with rfl|rfl<;>rfl
 ·show r8 (d+1) h r 0 l.length 5 true=_;rw[og hcs hl ZT];unfold iO;congr 1;refine je fun i f hf=>?_;obtain⟨lv,sv,e,h1,h2⟩:=HF.at i f hf;rw[e,gT];simp only[cl,fp,iQ,pN h1,pN h2];rfl
def qO{d:Nat}{tag:Nat->Nat}{h:Hp}{l:List Deed}{v:AV}(H:gb tag 2 3 l.length (fun cs=>cs=cQ l) v h):cl (r8 (d+1) h) v=deeds l:=by
 rcases H with⟨h0,hv,_⟩|⟨r,cs,rest,rfl,_,hcs,_,hl,_,rfl⟩
 ·rw[XH h0];rcases hv with rfl|rfl<;>rfl
 ·show r8 (d+1) h r 0 l.length 3 true=_;rw[og hcs hl ZT];simp_all[deeds,je,yn,gT]
theorem eY.at{tag:Nat->Nat}{h:Hp}:{l:List Call} ->{cs:List AV} ->eY tag h l cs->∀(i:Nat)(c:Call),l[i]? = some c->∃av,(cs.drop (i*3)).take 3=[.str c.module,.str c.func,av]/\zj tag h c.args av
 |[],_,_,i,c,hc=>by simp at hc
 | d:: l,_,⟨av,rest,h1,h2,h3⟩,i,c,hc=>by
  subst h1;cases i with
  |zero=>grind
  |succ i=>
   obtain⟨av',g1,g2⟩:=h3.at i c (by simpa using hc)
   grind
def Jt{d:Nat}{tag:Nat->Nat}{h:Hp}{l:List Val}{av:AV}(H:zj tag h l av):cl (r8 d h) av=vals l:=by
 rcases H with rfl|H
 all_goals grind [ll,pN]
def qN{d:Nat}{tag:Nat->Nat}{h:Hp}{l:List Call}{v:AV}(H:gb tag 3 3 l.length (fun cs=>eY tag h l cs) v h):cl (r8 (d+1) h) v=calls l:=by
 rcases H with⟨h0,hv,_⟩|⟨r,cs,rest,rfl,_,hcs,_,hl,_,HC⟩
 ·rw[XH h0];rcases hv with rfl|rfl<;>rfl
 ·show r8 (d+1) h r 0 l.length 3 true=_;rw[og hcs hl ZT];unfold calls;congr 1;refine je fun i c hc=>?_;obtain⟨av,g1,g2⟩:=HC.at i c hc;rw[g1,gT];show AV.agg [.str c.module,.str c.func,cl (r8 d h) av]=_;rw[Jt g2];rfl
def pM{d:Nat}{tag:Nat->Nat}{h:Hp}{l:List Vars}{v:AV}(H:gb tag 5 2 l.length (fun cs=>oC tag h 0 l cs) v h):cl (r8 (d+1) h) v=aN l:=by
 rcases H with⟨h0,hv,_⟩|⟨r,cs,rest,rfl,_,hcs,_,hl,_,HS⟩
 ·rw[XH h0];rcases hv with rfl|rfl<;>rfl
 ·show r8 (d+1) h r 0 l.length 2 true=_;rw[og hcs hl ZT];unfold aN;congr 1;refine je fun i c hc=>?_;obtain⟨av,g1,g2⟩:=HS.at2 i c hc;rw[g1,gT];show AV.agg [.str c.module,cl (r8 d h) av]=_;rw[pN g2];rfl
theorem vL.at2{tag:Nat->Nat}{h:Hp}:{l:List Vars} ->{cs:List AV} ->vL tag h l cs->∀(j:Nat)(w:Vars),l[j]? = some w->∃av,(cs.drop (j*2)).take 2=[.str w.module,av]/\dk tag 8 h w.values av
 |[],_,_,j,w,hj=>by simp at hj
 | _:: _,_,⟨av,rest,h1,h2,h3⟩,j,w,hj=>by
  subst h1;cases j with
  |zero=>grind
  |succ j=>
   obtain⟨av',g1,g2⟩:=h3.at2 j w (by simpa using hj)
   grind
def KR{d:Nat}{tag:Nat->Nat}{h:Hp}{l:List Vars}{v:AV}(H:gb tag 9 2 l.length (fun cs=>vL tag h l cs) v h):cl (r8 (d+1) h) v=aN l:=by
 rcases H with⟨h0,hv,_⟩|⟨r,cs,rest,rfl,_,hcs,_,hl,_,HS⟩
 ·rw[XH h0];rcases hv with rfl|rfl<;>rfl
 ·show r8 (d+1) h r 0 l.length 2 true=_;rw[og hcs hl ZT];unfold aN;congr 1;refine je fun i c hc=>?_;obtain⟨av,g1,g2⟩:=HS.at2 i c hc;rw[g1,gT];show AV.agg [.str c.module,cl (r8 d h) av]=_;rw[pN g2];rfl
def Proc.cells(p:Proc):List AV:=[Go.Av.Ap.mods p.mods,aN p.state,iO p.frames,ints p.world,.int .i64 p.out.err,.int .i64 p.out.value.kind,.int .i64 p.out.value.n,strs p.out.value.names,vals p.out.value.values,deeds p.out.deeds,calls p.out.calls,aN p.out.state,.bool p.ended]
def Proc.av(p:Proc):AV:=.agg p.cells
def MRG.frzQ{Q:StP}{L:MLay}{tag:Nat->Nat}{sv fv dv cv:AV}{vc:List AV}{p:Proc}{h:Hp}(H:MRG Q L tag sv fv dv cv vc p h)(c1:cl (r8 5 h) sv=aN p.state):frz 6 h (.agg ((fG L p sv fv dv cv vc).take 13))=p.av:=by
 have c2:=wL (d:=4) H.fr;have c3:=qO (d:=4) H.ds;have c4:=qN (d:=4) H.cs;have ho:=H.so;rcases H.vo with rfl|⟨e,rfl⟩
 ·rw[gT];simp only[fG,bK,Yk,X1,Yq,Yl,cl,fp,mq,pL,oc,ll,c1,c2,c3,c4];unfold Proc.av Proc.cells;rw[ho];rfl
 ·rw[gT];simp only[fG,Yk,X1,Yq,Yl,cl,fp,mq,pL,c1,c2,c3,c4];unfold Proc.av Proc.cells;rw[ho,e];rfl
theorem MRG.frz{L:MLay}{tag:Nat->Nat}{sv fv dv cv:AV}{vc:List AV}{p:Proc}{h:Hp}(H:MR L tag sv fv dv cv vc p h):frz 6 h (.agg ((fG L p sv fv dv cv vc).take 13))=p.av:=H.frzQ (pM (d:=4) H.sth)
theorem IZ.frz{L:MLay}{p:Proc}{h:Hp}(H:IZ L p h):∃row,h[L.rm]? = some row/\13<=row.length/\frz 6 h (.agg (row.take 13))=p.av:=by
 obtain⟨tag,sv,dv,cv,ov,E,S,he,hf⟩:=H;have c1:=pM (d:=4) E.st;have c3:=qO (d:=4) E.ds;have c4:=qN (d:=4) E.cs;have c5:=KR (d:=4) S;refine⟨_,E.row,by simp[vV],?_⟩;rw[gT];simp only[vV,bK,Yk,X1,Yq,Yl,cl,fp,mq,pL,oc,ll,c1,c3,c4,c5];unfold Proc.av Proc.cells;rw[he,hf];rfl
def GR(g:Nat->Nat)(tag:Nat->Nat)(h:Hp):Nat->List Vars->List AV->Prop
 |_,[],cs=>cs=[]
 |i,w:: l,cs=>∃av rest,cs= .str w.module:: av:: rest/\dk tag (g i) h w.values av/\GR g tag h (i+1) l rest
theorem GR.keep{g:Nat->Nat}{tag tag':Nat->Nat}{ks:Nat->Prop}{h h':Hp}(K:Kp tag tag' ks h h')(hk:∀j,¬ks (g j)):{i:Nat} ->{l:List Vars} ->{cs:List AV} ->GR g tag h i l cs->GR g tag' h' i l cs
 |_,[],_,H=>H
 |i,_:: _,_,⟨av,rest,h1,h2,h3⟩=>⟨av,rest,h1,h2.keep K (hk i),h3.keep K hk⟩
theorem GR.snoc{g:Nat->Nat}{tag:Nat->Nat}{h:Hp}{w:Vars}{av:AV}:{i:Nat} ->{l:List Vars} ->{cs:List AV} ->GR g tag h i l cs->dk tag (g (i+l.length)) h w.values av->GR g tag h i (l++[w]) (cs++[.str w.module,av])
 |i,[],cs,H,ha=>by cases H;exact⟨av,[],rfl,ha,rfl⟩
 |i,d:: l,_,⟨av',rest,h1,h2,h3⟩,ha=>⟨av',rest++[.str w.module,av],by rw[h1];rfl,h2,h3.snoc ZU⟩
theorem GR.st{tag:Nat->Nat}{h:Hp}:{i:Nat} ->{l:List Vars} ->{cs:List AV} ->GR (fun i=>10+3*i) tag h i l cs->oC tag h i l cs
 |_,[],_,H=>H
 |_,_:: _,_,⟨av,rest,h1,h2,h3⟩=>⟨av,rest,h1,h2,h3.st⟩
theorem GR.vs{tag:Nat->Nat}{h:Hp}:{i:Nat} ->{l:List Vars} ->{cs:List AV} ->GR (fun _=>8) tag h i l cs->vL tag h l cs
 |_,[],_,H=>H
 |_,_:: _,_,⟨av,rest,h1,h2,h3⟩=>⟨av,rest,h1,h2,h3.vs⟩
def my{T:TT}{t e:Nat}{ti ei:TI}(ht:T t=some ti)(hk:ti.kind= .slice e)(he:T e=some ei)(h4:ei.size=4)(hag:ei.agg=true)(hb:0<ei.bytes)(call:FuncId->List AV->M AV)(tag:Nat->Nat)(h:Hp)(l:List Val)(hc:l.length*ei.bytes<=140737488355328)(kt:Nat):
  ∃h1 tag1 rv,cy T t call [vals l] h= .ok rv h1/\Kp tag tag1 (fun _=>False) h h1/\dk tag1 kt h1 l rv:=by
 have:=nz ht hk he h4 hag hb call l hc h
 by_cases h0:l=[]
 ·rw[Xv h0]at this;subst h0;exact⟨h,tag,.he,this,fun r cs hr _=>⟨hr,rfl⟩,.inl ⟨rfl,.inr rfl,rfl⟩⟩
 ·rw[Xr h0]at this;refine⟨_,_,_,this,Kp.new tag h _ kt,.inr ⟨h.length,aw l,[],rfl,ZV,ZV,?_,by rw[aX],by grind [iy],rfl⟩⟩;intro hh
  have:=X4 List.length hh
  simp[aX]at this;exact h0 (XH ZS)
theorem tH{T:TT}{t e:Nat}{ti ei:TI}{sz:Nat}(ht:T t=some ti)(hk:ti.kind= .slice e)(he:T e=some ei)(h4:ei.size=sz)(hsz:0<sz)(hag:ei.agg=true)(hb:0<ei.bytes)(call:FuncId->List AV->M AV)(tag:Nat->Nat)(h:Hp)(l:List AV)(hok:dn sz l=true)(hc:l.length*ei.bytes<=140737488355328)(kt:Nat):
  ∃h1 tag1 rv,cy T t call [.sl l] h= .ok rv h1/\Kp tag tag1 (fun _=>False) h h1/\gb tag1 kt sz l.length (fun cs=>cs=l.flatMap aa) rv h1/\(rv= .he/\l=[]\/rv= .hs h.length 0 l.length sz true/\h1=h++[l.flatMap aa]):=by
 have e1:cy T t call [.sl l] h=appH T t false .he (.sl l) h:=rfl;cases l with
 |nil=>
  refine⟨h,tag,.he,?_,fun r cs hr _=>⟨hr,rfl⟩,.inl ⟨rfl,.inr rfl,rfl⟩,.inl ⟨rfl,rfl⟩⟩
  grind [appH,gk,iw]
 | cons v l=>
  have hne:(v:: l).isEmpty=false:=rfl;have hfl:∀l:List AV,dn sz l=true->(l.flatMap aa).length=l.length*sz/\(l.flatMap aa).all ay=true:=by
   intro l
   induction l with
   |nil=>grind
   | cons x l ih=>
    intro h;simp only[dn,XP,Xu]at h;obtain⟨i1,i2⟩:=ih h.2;have hx:=h.1;unfold bR at hx;simp only[Xu,Yd]at hx;have hxl:(aa x).length=sz:=by
     have h1:=hx.1;cases x<;>simp only[dA,Xq,reduceCtorEq]at h1<;>simp only[aa,List.length_singleton]<;>exact h1
    grind
  obtain⟨f1,f2⟩:=hfl _ hok;have key:appH T t false .he (.sl (v:: l)) h= .ok (.hs h.length 0 (v:: l).length sz true) (h++[(v:: l).flatMap aa]):=by
   unfold appH;simp only[ht,hk,he,gk,h4,hok,hb,hsz,iw,XY,Yn,Yz,Xw,hne,XD,hag];rw[XU hc];simp
  refine⟨_,_,_,ZU,Kp.new tag h _ kt,.inr ⟨h.length,(v:: l).flatMap aa,[],rfl,ZV,ZV,?_,f1,ZU,rfl⟩,.inr ⟨rfl,rfl⟩⟩;intro hh
  have:=X4 List.length hh
  grind [Nat.add_mul]
theorem mJ{α:Type}(F:α->Bool):∀(l:List α)(i:Int),0<=i->(l.find? F=none/\aY F l i= -1)\/∃(k:Nat)(x:α),l.find? F=some x/\l[k]? = some x/\aY F l i=i+k
 |[],i,_=>.inl ⟨rfl,rfl⟩
 | x:: l,i,hi=>by
  by_cases hx:F x=true
  ·exact .inr ⟨0,x,by simp[hx],rfl,by simp[aY,hx]⟩
  ·have e:aY F (x:: l) i=aY F l (i+1):=by simp[aY,hx]
   have e2:(x:: l).find? F=l.find? F:=by simp[hx]
   rw[e,e2];rcases mJ F l (i+1) (ZS)with⟨h1,h2⟩|⟨k,y,h1,h2,h3⟩
   ·grind
   ·exact .inr ⟨k+1,y,h1,by simpa using h2,ZS⟩
theorem xb{α:Type}(F:α->Bool)(x:α)(l:List α)(hx:F x=true):∀(A:List α)(i:Int),(∀y∈A,F y=false)->aY F (A++x:: l) i=i+A.length
 |[],i,_=>by simp[aY,hx]
 |y:: A,i,h=>by
  have hy:=h y ZV;have ih:=xb F x l hx A (i+1) fun z hz=>h z (by simp[hz]);show (if F y=true then i else aY F (A++x:: l) (i+1))=_
  grind
theorem um{α:Type}(F:α->Bool):∀(l:List α)(i:Int),(∀y∈l,F y=false)->aY F l i= -1
 |[],_,_=>rfl
 |y:: l,i,h=>by
  have hy:=h y ZV;show (if F y=true then i else aY F l (i+1))=_;rw[hy,Xr ZT,um F l (i+1) fun z hz=>h z (by simp[hz])]
def yx(i:Nat)(m:Mod)(f:Fun):Fnc:=⟨i,f.pub,dw m.vars f,(dm (dw m.vars f)).getD []⟩
abbrev Gd:=aW×aW×Fnc
def kl(i:Nat)(m:Mod)(fs:List Fun):List Gd:=fs.map fun f=>(m.name,f.name,yx i m f)
def aV:Nat->List Mod->List Gd
 |_,[]=>[]
 |i,m:: l=>kl i m m.funcs++aV (i+1) l
def lg(s t:aW)(e:Gd):Bool:=e.1== s&&e.2.1== t
def DJ(p:List Mod):Prop:=∀m∈p,∀f∈m.funcs,(dm (dw m.vars f)).isSome=true
theorem lQ(i:Nat)(m:Mod)(s t:aW):∀fs:List Fun,(kl i m fs).find? (lg s t)=if m.name=s then(fs.find? fun f=>f.name== t).map fun f=>(s,t,yx i m f)else none
 |[]=>by simp[kl]
 | f:: fs=>by
  have ih:=lQ i m s t fs;unfold kl at ih |-;rw[Yf,ZQ,ih,ZQ];by_cases h:m.name=s
  ·rw[Xv h,Xv h];cases hf:f.name== t with
   |true=>
    simp_all[lg]
   |false=>
    have:lg s t (m.name,f.name,yx i m f)=false:=by simp[lg,hf]
    rw[this]
  ·have:lg s t (m.name,f.name,yx i m f)=false:=by simp[lg,h]
   grind
theorem wU(s t:aW):∀(l:List Mod)(i:Nat),(∀m∈l,m.name≠s)->(aV i l).find? (lg s t)=none
 |[],_,_=>rfl
 |m:: l,i,h=>by
  rw[aV,Y1,lQ,Xr (h m ZV),wU s t l (i+1) fun x hx=>h x (by simp[hx])];rfl
def Hd{p:List Mod}{k:Nat}{m:Mod}(hm:p[k]? = some m)(t:aW):lU p (k:Int) t=m.funcs.find? fun f=>f.name== t:=by
 unfold lU;rw[Xr ZS,XC,hm];simp only[YM];unfold mY;rcases mJ (fun f:Fun=>f.name== t) m.funcs 0 (ZS)with⟨h1,h2⟩|⟨j,x,h1,h2,h3⟩
 all_goals grind
theorem tZ(s t:aW):∀(l A:List Mod),(∀m∈A,m.name≠s)->((A++l).map (·.name)).Nodup->DJ (A++l)->(aV A.length l).find? (lg s t)=(fj (A++l) s t).map fun x=>(s,t,x)
 | [],A,hA,_,_=>by
  have:cV (A++[]) s= -1:=um _ _ _ fun m hm=>by
   grind
  unfold fj;rw[this];rfl
 | m:: l,A,hA,hn,hh=>by
  by_cases h:m.name=s
  ·have hat:cV (A++m:: l) s=(A.length:Int):=by
    have:=xb (fun m:Mod=>m.name== s) m l (by simpa using h) A 0 fun x hx=>ZU
    unfold cV;rw[this];omega
   have hr:(aV (A.length+1) l).find? (lg s t)=none:=wU s t l _ fun x hx=>by
    grind
   have hg:(A++m:: l)[A.length]? = some m:=ZV
   rw[aV,Y1,lQ,Xv h,hr];unfold fj;rw[hat,Hd hg,XC,hg];simp only[YM];cases hf:m.funcs.find? (fun f=>f.name== t)with
   |none=>rfl
   |some f=>
    have hs:=hh m ZV f (List.mem_of_find?_eq_some hf);cases hx:dm (dw m.vars f)with
    |none=>grind
    |some hl=>simp[yx,hx]
  ·rw[aV,Y1,lQ,Xr h];have e:A++m:: l=(A++[m])++l:=ZV
   have:=tZ s t l (A++[m]) (fun x hx=>by
    grind) ZU ZU
   grind
def wW(s t:aW){p:List Mod}(hn:(p.map (·.name)).Nodup)(hh:DJ p):(aV 0 p).find? (lg s t)=(fj p s t).map fun x=>(s,t,x):=tZ s t p [] (fun m hm=>by cases hm) hn hh
def I6:List Mod->List Mod->Bool
 |_,[]=>false
 |A,m:: B=>(A.any fun x=>x.name== m.name)||I6 (A++[m]) B
theorem vF:∀(B A:List Mod),((List.range' A.length B.length).any fun i=>((A++B).take i).any fun m=>m.name== ((A++B)[i]?.getD default).name)=I6 A B
 |[],A=>rfl
 |m:: B,A=>by
  have ih:=vF B (A++[m])
  grind [List.range'_succ,I6,List.length_singleton]
def vE(p:List Mod):vD p=I6 [] p:=by
 rw[<- vF p []]
 grind [vD]
theorem xJ:∀(B A:List Mod),I6 A B=false->(A.map (·.name)).Nodup->((A++B).map (·.name)).Nodup
 |[],A,_,h=>by simpa using h
 |m:: B,A,h,hA=>by
  rw[I6,YH]at h;have e:A++m:: B=(A++[m])++B:=ZV
  rw[e];refine xJ B (A++[m]) h.2 ?_
  grind
def sK{p:List Mod}(h:vD p=false):(p.map (·.name)).Nodup:=xJ p [] (by rw[<- vE];exact h) ZV
def FS{l:List Mod}{s t:aW}{args:List Val}{w:List Int}{e:Int}(h:gB l s t args w= .error e):e≠0:=by
 grind [gB,uf]
def p0:Proc:=⟨[],[],[],[],⟨0,default,[],[],[]⟩,false⟩
theorem ml{α β:Type}[Inhabited α][Inhabited β](F:α->β->Bool):∀(a:List α)(b:List β),a.length=b.length->((List.range' 0 a.length).all fun k=>F a[k]! b[k]!)=iV F a b
 |[],[],_=>rfl
 |[],_:: _,h=>by cases h
 |_:: _,[],h=>by cases h
 |x:: a,y:: b,h=>by
  have ih:=ml F a b (by simpa using h);rw[<- Zn]at ih |-;rw[XX,List.range_succ_eq_map,XP,List.all_map]
  grind [iV]
def mg(c:List Ins):Prop:=∀i∈c,i.names.length<=1000000
def ju{i:Ins}{c:jZ}(hi:i.names.length<=1000000)(h:mg c.1):mg (gJ i c).1:=by
 intro x hx;rcases Ya.1 hx with hx|hx
 ·exact h x hx
 grind
def Ei{c:List Ins}(h:mg c)(k:Nat)(n:Int):mg (rE c k n):=by
 intro x hx;unfold rE at hx;rcases XT k c.length with hk|hk
 ·rcases ZD hx with hx|rfl
  ·exact h x hx
  ·rw[Xx c k hk];exact h c[k] (XG hk)
 ·rw[List.set_eq_of_length_le hk]at hx;exact h x hx
theorem qM{em:Exp->jZ->jZ}{yes no:Exp}(h1:∀c,mg c.1->mg (em yes c).1)(h2:∀c,mg c.1->mg (em no c).1)(c:jZ)(h:mg c.1):mg (iD em yes no c).1:=by
 unfold iD;exact Ei (h2 _ (Ei (ju (XN _) (h1 _ (ju (XN _) h))) _ _)) _ _
theorem DD(em:Exp->jZ->jZ):∀(l:List Exp),(∀x∈l,∀c,mg c.1->mg (em x c).1)->∀c:jZ,mg c.1->mg (l.foldl (fun c x=>em x c) c).1
 |[],_,c,h=>h
 |x:: l,ha,c,h=>DD em l (fun y hy=>ha y (by simp[hy])) (em x c) (ha x ZV c h)
def HZ(vars:List fF){e:Exp}(h:e.op=13->e.names.length<=1000000):(ru vars e).names.length<=1000000:=by
 unfold ru
 repeat' split
 all_goals first
  |exact XN _
  |exact h (by assumption)
theorem Dt(vars:List fF):∀(n:Nat)(e:Exp),cR n e=true->∀names (c:jZ),mg c.1->mg (bE vars n e names c).1
 |0,e,h,names,c,hc=>by simp[cR]at h
 | n+1,e,h,names,c,hc=>by
  have hs:ij e=true:=by rw[fI,Xu]at h;exact h.1
  have hcs:=jJ hs;have h8:=Dh hs;have ih:=fun(x:Exp) (hx:cR n x=true) (nm:List aW) (c:jZ) (hc:mg c.1)=>Dt vars n x hx nm c hc;have htr:∀t (c:jZ),mg c.1->mg (bE vars n (lJ t) names c).1:=fun t c hc=>by
   cases n with
   |zero=>exact hc
   |succ m=>rw[pi];exact ju (XN _) hc
  unfold bE;split
  ·exact ju (XN _) hc
  split
  ·exact ju (XN _) hc
  split
  ·exact ju (XN _) hc
  split
  ·exact ju (XN _) hc
  split
  ·exact qM (em:=fun x=>bE vars n x names) (ih _ (dt h (k:=1) ZS) names) (htr 0) _ (ih _ (dt h (k:=0) ZS) names c hc)
  split
  ·exact qM (em:=fun x=>bE vars n x names) (htr 1) (ih _ (dt h (k:=1) ZS) names) _ (ih _ (dt h (k:=0) ZS) names c hc)
  split
  ·grind [qM,dt]
  split
  ·exact ih _ (dt h (k:=1) ZS) _ _ (ju (XN _) (ih _ (dt h (k:=0) ZS) names c hc))
  ·refine ju (HZ vars fun h13=>?_) (DD (fun x=>bE vars n x names) e.args (fun x hx=>ih x (gA h hx) names) c hc)
   grind
def GJ{vars:List fF}{f:Fun}(F:FunOk f):(dw vars f).code.length<=1000000000000/\∀i∈(dw vars f).code,i.names.length<=1000000:=by
 constructor
 ·have:=(cH vars 12 f.body F.body (f.params.map (·.1)) ([],f.params.length)).2
  have hcap:oE 12<=99000000000:=by simp[oE]
  show (gJ (cC 18 0) (bE vars 12 f.body (f.params.map (·.1)) ([],f.params.length))).1.length<=_
  grind [dp]
 ·exact ju (XN _) (Dt vars 12 f.body F.body _ _ (fun i hi=>by cases hi))
structure PR (L:MLay) (p:Proc) (h:Hp) (row:List AV):Prop where
 rw_:h[L.rm]? = some row
 en:row[12]? = some (.bool p.ended)
 len:13<=row.length
 ok:(row.take 13).all ay=true
 frz:Go.Av.frz 6 h (.agg (row.take 13))=p.av
def MRG.pr{Q:StP}{L:MLay}{tag:Nat->Nat}{sv fv dv cv:AV}{vc:List AV}{p:Proc}{h:Hp}(H:MRG Q L tag sv fv dv cv vc p h)(c1:cl (r8 5 h) sv=aN p.state)(o1:ay sv=true):PR L p h (fG L p sv fv dv cv vc):=by
 refine⟨H.row,ol H.vo.len 3,by rw[l8 H.vo.len];decide,?_,H.frzQ c1⟩;have hv:vc.all ay=true:=by
  rcases H.vo with rfl|⟨_,rfl⟩
  ·have:=dW p.out.value
   simp_all[bR]
  ·rfl
 obtain⟨a,b,c,d,rfl⟩:∃a b c d,vc=[a,b,c,d]:=by
  have:=H.vo.len
  match vc,this with
  |[a,b,c,d],_=>grind
 simp only[XP,Zq,Yz,Xu]at hv;obtain⟨h1,h2,h3,h4⟩:=hv;show (ay (Go.Av.Ap.mods p.mods)&&(ay sv&&(ay fv&&(ay (ints p.world)&&(ay (.int .i64 p.out.err)&&(ay a&&(ay b&&(ay c&&(ay d&&(ay dv&&(ay cv&&(ay .hn&&(ay (.bool p.ended)&&true)))))))))))))=true;rw[o1,H.fr.okC,H.ds.okC,H.cs.okC,h1,h2,h3,h4];rfl
def Xp{L:MLay}{tag:Nat->Nat}{sv fv dv cv:AV}{vc:List AV}{p:Proc}{h:Hp}(H:MR L tag sv fv dv cv vc p h):PR L p h (fG L p sv fv dv cv vc):=H.pr (pM (d:=4) H.sth) H.sth.okC
def IZ.pr{L:MLay}{p:Proc}{h:Hp}(H:IZ L p h):∃row,PR L p h row:=by
 have H':=H;obtain⟨tag,sv,dv,cv,ov,E,S,he,hf⟩:=H;obtain⟨row,r1,r2,r3⟩:=IZ.frz H';have e:row=vV L p sv dv cv ov:=by
  have:=E.row
  rw[r1]at this;exact X9 this
 subst e;refine⟨_,r1,by rw[he];simp[vV],r2,?_,r3⟩;have h1:(vV L p sv dv cv ov).take 13=[Go.Av.Ap.mods p.mods,sv,.sl [],ints p.world,.int .i64 p.out.err,.int .i64 p.out.value.kind,.int .i64 p.out.value.n,strs p.out.value.names,vals p.out.value.values,dv,cv,ov,.bool true]:=by
  simp[vV]
 rw[h1];show (ay (Go.Av.Ap.mods p.mods)&&(ay sv&&(ay (.sl [])&&(ay (ints p.world)&&(ay (.int .i64 p.out.err)&&(ay (.int .i64 p.out.value.kind)&&(ay (.int .i64 p.out.value.n)&&(ay (strs p.out.value.names)&&(ay (vals p.out.value.values)&&(ay dv&&(ay cv&&(ay ov&&(ay (.bool true)&&true)))))))))))))=true;rw[E.st.okC,E.ds.okC,E.cs.okC,S.okC];rfl
def PR.ended{L:MLay}{p:Proc}{h:Hp}{row:List AV}(H:PR L p h row){T:TT}{t:Nat}{ti:TI}(ht:T t=some ti)(ha:ti.agg=false):bb T t (.hp L.rm 12) h= .ok (.bool p.ended) h:=bN ht ha H.rw_ H.en
def PR.load{L:MLay}{p:Proc}{h:Hp}{row:List AV}(H:PR L p h row){T:TT}{t:Nat}{ti:TI}(ht:T t=some ti)(ha:ti.agg=true)(hs:ti.size=13):bb T t (.hp L.rm 0) h= .ok (.agg (row.take 13)) h:=by
 rw[lY ht ha H.rw_ (by rw[hs];have:=H.len;omega),hs,XK]
theorem PR.cells{L:MLay}{p:Proc}{h:Hp}{row:List AV}(H:PR L p h row):bD 13 [] (.agg (row.take 13))=ao (.agg (row.take 13))/\∃c0 c1 c2 c3 c4 c5 c6 c7 c8 c9 c10 c11 c12,row.take 13=[c0,c1,c2,c3,c4,c5,c6,c7,c8,c9,c10,c11,c12]:=by
 have hl:(row.take 13).length=13:=by have:=H.len;simp;omega
 have hc:=H.ok;generalize row.take 13=l at hl hc
 match l,hl with
 | [c0,c1,c2,c3,c4,c5,c6,c7,c8,c9,c10,c11,c12],_=>
  refine⟨?_,c0,c1,c2,c3,c4,c5,c6,c7,c8,c9,c10,c11,c12,rfl⟩;rw[gh (by
   show (_&&List.all [c0,c1,c2,c3,c4,c5,c6,c7,c8,c9,c10,c11,c12] ay)=true;rw[hc];rfl)]
  rfl
def PR.tup{L:MLay}{p:Proc}{h:Hp}{row:List AV}(H:PR L p h row)(e:Int):Go.Av.frz 6 h (.tup [.agg (row.take 13),.int .i64 e])= .tup [p.av,.int .i64 e]:=by
 have:=H.frz
 rw[gT]at this |-;show AV.tup [cl (r8 5 h) (.agg (row.take 13)),.int .i64 e]=_;rw[this]
@[simp] theorem MX(g:Nat->Nat->Nat->Nat->Bool->AV)(f:Frm):cl g f.av=f.av:=by
 show AV.agg (fp g [.str f.mod,.str f.fn,.int .i64 f.pc,vals f.locals,vals f.stack])=_;simp only[fp,cl,ll];rfl
@[simp] theorem Jx(g:Nat->Nat->Nat->Nat->Bool->AV)(l:List Frm):cl g (iO l)=iO l:=by grind [iO,cl,gD,MX]
@[simp] theorem yi(g:Nat->Nat->Nat->Nat->Bool->AV)(p:Proc):cl g p.av=p.av:=by
 show AV.agg (fp g p.cells)=_;simp only[Proc.cells,fp,cl,mq,pL,oc,ll,Jx,zJ,GC,Gz];rfl
def gG{m:M AV}{a r:AV}{h':Hp}(h1:m []= .ok a h')(h2:Go.Av.frz 6 h' a=r):bn m=ao r:=by
 funext h
 grind [bn,ao]
section
variable (same:Val->Val->Bool)
def j0(eq:Bool):List Val->List Val->Int×Bool->Int×Bool
 |v:: vs,w:: ws,s=>j0 eq vs ws (if same v w=true then s else(s.1+1,s.2&&eq))
 |_,_,s=>s
def jN(m:aW):List Vars->List Vars->Int×Bool->Int×Bool
 |x:: a,y:: b,s=>if s.2=true then(if x.values.length=y.values.length/\x.module=y.module then jN m a b (j0 same (x.module== m) x.values y.values s)else(0,false))else s
 |_,_,s=>s
theorem mA(h:∀v,same v v=true)(eq:Bool):∀(l:List Val)(s:Int×Bool),j0 same eq l l s=s
 |[],_=>rfl
 |v:: l,s=>by rw[j0,h,Xv rfl,mA h eq l]
theorem nB(h:∀v,same v v=true)(m:aW):∀(l:List Vars)(s:Int×Bool),jN same m l l s=s
 |[],_=>rfl
 |x:: l,s=>by
  rw[jN];split
  ·rw[Xv ⟨rfl,rfl⟩,mA same h,nB h m l]
  ·rfl
theorem wN(h:∀v,same v v=true):∀(l:List Val)(k:Nat)(v:Val)(s:Int×Bool),j0 same true l (l.set k v) s=s\/j0 same true l (l.set k v) s=(s.1+1,s.2)
 |[],_,_,_=>.inl rfl
 |x:: l,0,v,s=>by
  rw[Zv,j0,mA same h];split
  ·exact .inl rfl
  ·exact .inr ZV
 |x:: l,k+1,v,s=>by
  rw[Zw,j0,h,Xv rfl];exact wN h l k v s
theorem oL(h:∀v,same v v=true)(m:aW):∀(l:List Vars)(j k:Nat)(v:Val)(n:Int),(∀w,l[j]? = some w->w.module=m)->∃c:Int,(c=0\/c=1)/\jN same m l (l.modify j fun w=>{ w with values:=w.values.set k v }) (n,true)=(n+c,true)
 |[],j,k,v,n,_=>⟨0,.inl rfl,by
  have:([]:List Vars).modify j (fun w=>{ w with values:=w.values.set k v })=[]:=by cases j<;>rfl
  rw[this];simp[jN]⟩
 |x:: l,0,k,v,n,hm=>by
  have hx:=hm x rfl;rw[List.modify_zero_cons,jN,Xv rfl,Xv ⟨ZV,rfl⟩];have e:(x.module== m)=true:=by simp[hx]
  rw[e];rcases wN same h x.values k v (n,true)with q|q<;>rw[q,nB same h]
  ·exact⟨0,.inl rfl,ZV⟩
  ·exact⟨1,.inr rfl,rfl⟩
 |x:: l,j+1,k,v,n,hm=>by
  rw[List.modify_succ_cons,jN,Xv rfl,Xv ⟨rfl,rfl⟩,mA same h];exact oL h m l j k v n fun w hw=>hm w (by simpa using hw)
end
def FU{p:List Mod}{st:List Vars}(hb:dX p st=true){s:aW}(h0:¬cV p s<0){w:Vars}(hw:st[(cV p s).toNat]? = some w):w.module=s:=by
 obtain⟨b1,b2,b3⟩:=jp hb;obtain⟨k,hk,h1,h2⟩:=qY (fun m:Mod=>m.name== s) p 0 ZS (show 0<=cV p s by omega);have e:(cV p s).toNat=k:=by unfold cV;omega
 rw[e]at hw
 have:=(b3 k p[k] w (XE hk) hw).1
 rw[this];simpa using h2
end Go.Av.Ap
