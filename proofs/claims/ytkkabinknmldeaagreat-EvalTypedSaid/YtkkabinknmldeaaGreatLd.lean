/- The abstract evaluator of the model and plain laws, part 4: its soundness holds for every program whose table of types is the evaluator's. No further condition. -/
import Derived.Test.YtkkabinknmldeaaGreatLc
import Derived.Sort.AssemblyPlain
set_option linter.unusedSimpArgs false
set_option linter.unusedVariables false
namespace Go.Av.Ap
open Go Go.Av
open Go.RowKit Go.Sort Go.Proofs in
theorem I9(keys:List aU)(n i j:Nat):ltOf (GO keys n) i j=aT keys[i % n]! keys[j % n]!:=by
 unfold ltOf GO yY
 cases h1:aT keys[i % n]! keys[j % n]! with
 | true=>simp
 | false=>cases h2:aT keys[j % n]! keys[i % n]! <;> simp
open Go.RowKit Go.Sort Go.Proofs in
theorem Mb(keys:List aU)(n:Nat):SWO (ltOf (GO keys n)):=by
 refine⟨fun x=>?_,fun x y z=>?_,fun x y z=>?_⟩
 ·rw[I9,dC]
 ·rw[I9,I9,I9]
  exact dY _ _ _
 ·rw[I9,I9,I9]
  intro h1 h2
  cases h3:aT keys[x % n]! keys[z % n]! with
  | false=>rfl
  | true=>
   exfalso
   by_cases e:keys[x % n]! = keys[y % n]!
   ·rw[e,h2] at h3
    cases h3
   ·have:=dY _ _ _ (fG _ _ h1 e) h3
    rw[this] at h2
    cases h2
open Go.RowKit Go.Sort Go.Proofs in
theorem xG(keys:List aU):(fV keys).Perm (List.range keys.length)∧(fV keys).Pairwise fun i j=>aT keys[j % keys.length]! keys[i % keys.length]! = false:=by
 have h:=pdq_sorts (ltOf (GO keys keys.length)) (Mb keys keys.length) (Array.range keys.length) 0 (Array.range keys.length).size (Lib.bitLen (Array.range keys.length).size) true true (Nat.zero_le _) (Nat.le_refl _) (Or.inl rfl)
 obtain⟨⟨hs,_,hp⟩,ho⟩:=h
 unfold fV
 generalize pdq (ltOf (GO keys keys.length)) (Array.range keys.length) 0 (Array.range keys.length).size (Lib.bitLen (Array.range keys.length).size) true true=d at hs hp ho
 refine⟨?_,?_⟩
 ·rw[← hs,Array.extract_size,hs,Array.extract_size] at hp
  simpa using hp
 ·rw[List.pairwise_iff_getElem]
  intro i j hi hj hij
  simp only[Array.length_toList] at hi hj
  have:=ho i j (Nat.zero_le _) hij (by omega)
  rw[getElem!_pos d i hi,getElem!_pos d j hj,I9] at this
  simp only[Array.getElem_toList]
  exact this
def gx(l:List Sig):List Sig:=(fV (l.map (·.name))).map fun i=>l[i % l.length]!
theorem kT(l:List Sig):(gx l).Perm l:=by
 have h:=(xG (l.map (·.name))).1
 rw[List.length_map] at h
 have h2:=h.map fun i=>l[i % l.length]!
 refine h2.trans ?_
 have e:(List.range l.length).map (fun i=>l[i % l.length]!)=l:=by
  apply List.ext_getElem
  ·simp
  ·intro i h1 h2
   simp only[List.getElem_map,List.getElem_range]
   rw[Nat.mod_eq_of_lt h2,getElem!_pos l i h2]
 rw[e]
def xW(f:Fun):Sig:=⟨f.name,f.params.map (·.2),f.result,f.effects⟩
def gk(l:List Fun):List Sig:=(l.filter (·.pub)).map xW
theorem B6{l l':List Sig}(hp:l.Perm l')(hn:(l'.map (·.name)).Nodup)(s:aU):l.find? (fun x=>x.name== s)=l'.find? (fun x=>x.name== s):=by
 have hn':(l.map (·.name)).Nodup:=(hp.map _).nodup_iff.2 hn
 have uniq:∀ {l:List Sig},(l.map (·.name)).Nodup→∀ x∈l,l.find? (fun y=>y.name== x.name)=some x:=by
  intro l
  induction l with
  | nil=>intro _ x hx;cases hx
  | cons y l ih=>
   intro hn x hx
   rw[List.map_cons,List.nodup_cons] at hn
   rw[List.find?_cons]
   rcases List.mem_cons.1 hx with rfl | hx
   ·simp
   ·have hne:(y.name== x.name)=false:=beq_eq_false_iff_ne.2 fun e=>hn.1 (by rw[e];exact List.mem_map_of_mem (f:=(·.name)) hx)
    rw[hne]
    exact ih hn.2 x hx
 cases h:l'.find? (fun x=>x.name== s) with
 | none=>
  rw[List.find?_eq_none] at h ⊢
  exact fun x hx=>h x (hp.mem_iff.1 hx)
 | some x=>
  have h1:=List.mem_of_find?_eq_some h
  have h2:x.name=s:=by have:=List.find?_some h;exact beq_iff_eq.1 this
  have:=uniq hn' x (hp.mem_iff.2 h1)
  rw[h2] at this
  exact this
end Go.Av.Ap
namespace Go.Av.Ap
def sA:List aU→Bool
 | []=>true
 | [_]=>true
 | x:: y:: l=>aT x y&&sA (y:: l)
def bA:Nat→Val→Bool
 | 0,_=>false
 | d + 1,v=>if (v.kind== 0||v.kind== 1)=true then v.names.length== 0&&v.values.length== 0&&(v.kind== 0||v.n== 0||v.n== 1)
  else v.kind== 2&&v.n== 0&&v.names.length== v.values.length&&decide (v.names.length≤8)&&sA v.names&&v.values.all (bA d)
def fP(b:Bool):Val:=.mk 1 (if b then 1 else 0) [] []
def lU(n:Int):Val:=.mk 0 n [] []
def modAt(p:List Mod)(s:aU):Int:=aZ (fun m=>m.name== s) p 0
def kb(l:List Fun)(s:aU):Int:=aZ (fun f=>f.name== s) l 0
def jc(l:List bP)(s:aU):Int:=aZ (fun f=>f.1== s) l 0
structure Ms where
 fuel:Int
 frames:Int
 world:List Int
 deeds:List Deed
 calls:List Call
 state:List (List Val)
inductive Rs (α:Type) where
 | ok (a:α) (m:Ms)
 | er (e:Int) (m:Ms)
def X(α:Type):=Ms→Rs α
def X.ok{α:Type}(a:α):X α:=fun m=>.ok a m
def X.er{α:Type}(e:Int):X α:=fun m=>.er e m
def X.bind{α β:Type}(x:X α)(f:α→X β):X β:=fun m=>match x m with
 | .ok a m'=>f a m'
 | .er e m'=>.er e m'
def X.upd{α:Type}(f:Ms→Ms)(x:X α):X α:=fun m=>x (f m)
def X.get{α:Type}(f:Ms→X α):X α:=fun m=>f m m
def aW(op:Int):Int:=
 if op=0∨op=1∨op=2∨op=17 then 0
 else if op=10∨op=14∨op=16∨op=18 then 1
 else if op=3∨op=4∨op=5∨op=6∨op=7∨op=8∨op=9∨op=12 then 2
 else if op=11 then 3
 else if op=13∨op=15 then -1
 else -2
def eZ:List aU→List Val→aU→Option Val
 | n:: ns,v:: vs,s=>match eZ ns vs s with
  | some x=>some x
  | none=>if n=s then some v else none
 | _,_,_=>none
def ek:List aU→List Val→aU→Option Val
 | n:: ns,v:: vs,s=>if n=s then some v else ek ns vs s
 | _,_,_=>none
def wr(n:Int):Int:=IntKind.i64.wrap n
def ln(op:Int)(a b:Val):X Val:=
 if op=7 then (if a.kind=b.kind∧a.kind≠2 then .ok (fP (a.n== b.n)) else .er 13)
 else if a.kind=0∧b.kind=0 then
  (if op=3 then .ok (lU (wr (a.n + b.n))) else if op=4 then .ok (lU (wr (a.n - b.n))) else if op=5 then .ok (lU (wr (a.n * b.n))) else .ok (fP (decide (a.n < b.n))))
 else .er 13
mutual
def fC:Val→Nat
 | .mk _ _ _ vs=>eQ vs + 1
def eQ:List Val→Nat
 | []=>0
 | v:: vs=>max (fC v) (eQ vs)
end
abbrev Ev:=Int→List aU→List Val→Exp→X Val
def boolX(r:X Val):X Bool:=r.bind fun v=>if v.kind=1 then .ok (v.n== 1) else .er 13
def listX(r:Exp→X Val):List Exp→X (List Val)
 | []=>.ok []
 | e:: es=>(r e).bind fun v=>(listX r es).bind fun vs=>.ok (v:: vs)
def hP(r:Exp→X Val)(e:Exp):X Val:=
 if e.names.length=e.args.length∧sA e.names=true then
  (if e.names.length≤8 then (listX r e.args).bind fun vs=>if fC (.mk 2 0 e.names vs)≤4 then .ok (.mk 2 0 e.names vs) else .er 6 else .er 6)
 else .er 13
def f9(p:List Mod)(at_:Int)(s:aU):Option Fun:=
 if at_ < 0 then none else (let l:=(p[at_.toNat]?.getD default).funcs;let i:=kb l s;if i < 0 then none else l[i.toNat]?)
def cF(p:List Mod)(r:Ev)(at_:Int)(f:Fun)(l:List Val):X Val:=
 .get fun m=>if m.frames < 60 then
  .upd (fun m=>{ m with calls:=if f.pub=true then m.calls++[⟨(p[at_.toNat]?.getD default).name,f.name,l⟩] else m.calls,frames:=m.frames + 1 })
   ((r at_ (f.params.map (·.1)) l f.body).bind fun v=>.upd (fun m=>{ m with frames:=m.frames - 1 }) (.ok v))
 else .er 6
def mG(p:List Mod)(r:Ev)(own:Int)(ns:List aU)(vs:List Val)(e:Exp):X Val:=
 let at_:=if e.m=[] then own else modAt p e.m
 match f9 p at_ e.s with
 | none=>.er 12
 | some f=>if e.m=[]∨f.pub=true then
   (if e.args.length=f.params.length then (listX (r own ns vs) e.args).bind fun l=>cF p r at_ f l else .er 13)
  else .er 12
def sF(r:X Val)(e:Exp):X Val:=
 r.bind fun v=>if v.kind=0 then
  (if e.n=1∨e.n=2∨e.n=4∨e.n=8 then
   .get fun m=>.upd (fun m=>{ m with world:=m.world.tail,deeds:=m.deeds++[⟨e.n,v.n,m.world.headD 0⟩] }) (.ok (lU (m.world.headD 0)))
  else .er 14)
 else .er 13
def setSt(st:List (List Val))(i k:Nat)(v:Val):List (List Val):=st.modify i fun l=>l.set k v
def mI(st:List (List Val))(i k:Nat):Val:=(st.getD i []).getD k default
def sq(p:List Mod)(r:Exp→X Val)(own:Int)(e:Exp):X Val:=
 if own < 0 then .er 12 else
 let i:=jc (p[own.toNat]?.getD default).vars e.s
 if i < 0 then .er 12 else
 if e.op=18 then (r e.args[0]!).bind fun v=>.upd (fun m=>{ m with state:=setSt m.state own.toNat i.toNat v }) (.ok v)
 else .get fun m=>.ok (mI m.state own.toNat i.toNat)
def lg(p:List Mod)(r:Ev):Ev:=fun own ns vs e=>.get fun m=>
 if m.fuel≤0 then .er 16 else .upd (fun m=>{ m with fuel:=m.fuel - 1 }) <|
 let n:=aW e.op
 if n= -2∨(n≠-1∧n≠e.args.length) then .er 13
 else if e.op=0 then .ok (lU e.n)
 else if e.op=1 then (if e.n=0∨e.n=1 then .ok (fP (e.n== 1)) else .er 13)
 else if e.op=2 then (match eZ ns vs e.s with | some v=>.ok v | none=>.er 12)
 else if e.op=3∨e.op=4∨e.op=5∨e.op=6∨e.op=7 then (r own ns vs e.args[0]!).bind fun a=>(r own ns vs e.args[1]!).bind fun b=>ln e.op a b
 else if e.op=8∨e.op=9 then (boolX (r own ns vs e.args[0]!)).bind fun x=>if x=(e.op== 9) then .ok (fP (e.op== 9)) else (boolX (r own ns vs e.args[1]!)).bind fun y=>.ok (fP y)
 else if e.op=10 then (boolX (r own ns vs e.args[0]!)).bind fun x=>.ok (fP !x)
 else if e.op=11 then (boolX (r own ns vs e.args[0]!)).bind fun x=>if x=true then r own ns vs e.args[1]! else r own ns vs e.args[2]!
 else if e.op=12 then (r own ns vs e.args[0]!).bind fun v=>r own (ns++[e.s]) (vs++[v]) e.args[1]!
 else if e.op=13 then hP (r own ns vs) e
 else if e.op=14 then (r own ns vs e.args[0]!).bind fun v=>(match ek v.names v.values e.s with | some x=>if v.kind=2 then .ok x else .er 13 | none=>.er 13)
 else if e.op=15 then mG p r own ns vs e
 else if e.op=16 then sF (r own ns vs e.args[0]!) e
 else sq p (r own ns vs) own e
def bm(p:List Mod):Nat→Ev
 | 0=>fun _ _ _ _=>.er 16
 | n + 1=>lg p (bm p n)
end Go.Av.Ap
namespace Go.Av.Ap
def Rs.st{α:Type}:Rs α→Ms
 | .ok _ m=>m
 | .er _ m=>m
def Rs.on{α:Type}(f:Ms→Ms):Rs α→Rs α
 | .ok a m=>.ok a (f m)
 | .er e m=>.er e (f m)
def lh{α:Type}(y:X α):X α:=.get fun m=>if m.fuel≤0 then .er 16 else .upd (fun m=>{ m with fuel:=m.fuel - 1 }) y
def M3(n a:Int):X Val:=.get fun m=>.upd (fun m=>{ m with world:=m.world.tail,deeds:=m.deeds++[⟨n,a,m.world.headD 0⟩] }) (.ok (lU (m.world.headD 0)))
structure Closed (p:List Mod) (Q:Int→(α:Type)→X α→Prop):Prop where
 ok:∀(o:Int)(α:Type)(a:α),Q o α (.ok a)
 er:∀(o:Int)(α:Type)(e:Int),e≠0→Q o α (.er e)
 bind:∀(o:Int)(α β:Type)(x:X α)(f:α→X β),Q o α x→(∀ a,Q o β (f a))→Q o β (x.bind f)
 tick:∀(o:Int)(α:Type)(y:X α),Q o α y→Q o α (lh y)
 act:∀(o n a:Int),Q o Val (M3 n a)
 set:∀(o:Int)(k:Nat)(v:Val),¬ o < 0→Q o Val (.upd (fun m=>{ m with state:=setSt m.state o.toNat k v }) (.ok v))
 get:∀(o:Int)(k:Nat),Q o Val (.get fun m=>.ok (mI m.state o.toNat k))
 enter:∀(o a:Int)(r:Ev)(f:Fun)(l:List Val),¬ a < 0→a.toNat < p.length→f∈(p[a.toNat]?.getD default).funcs→(∀ o ns vs e,Q o Val (r o ns vs e))→Q o Val (cF p r a f l)
theorem gI{p:List Mod}{a:Int}{s:aU}{f:Fun}(h:f9 p a s=some f):¬ a < 0∧a.toNat < p.length∧f∈(p[a.toNat]?.getD default).funcs:=by
 unfold f9 at h
 by_cases h1:a < 0
 ·simp[h1] at h
 ·rw[if_neg h1] at h
  simp only at h
  split at h
  ·cases h
  ·have hm:=List.mem_of_getElem? h
   refine⟨h1,?_,hm⟩
   rcases Nat.lt_or_ge a.toNat p.length with k | k
   ·exact k
   ·rw[List.getElem?_eq_none k] at hm
    cases hm
theorem LP{Q:Int→(α:Type)→X α→Prop}{o:Int}{α:Type}{c:Prop}[Decidable c](x y:X α)(h1:Q o α x)(h2:Q o α y):Q o α (if c then x else y):=by
 split
 ·exact h1
 ·exact h2
section
variable {p:List Mod} {Q:Int→(α:Type)→X α→Prop} (C:Closed p Q)
include C
theorem Closed.boolX{o:Int}{r:X Val}(h:Q o Val r):Q o Bool (boolX r):=by
 refine C.bind _ _ _ _ _ h fun v=>?_
 split
 ·exact C.ok _ _ _
 ·exact C.er _ _ _ (by decide)
theorem Closed.listX{o:Int}{r:Exp→X Val}(h:∀ e,Q o Val (r e)):∀ l,Q o (List Val) (listX r l)
 | []=>C.ok _ _ _
 | e:: l=>C.bind _ _ _ _ _ (h e) fun _=>C.bind _ _ _ _ _ (Closed.listX h l) fun _=>C.ok _ _ _
theorem Closed.step{r:Ev}(h:∀ o ns vs e,Q o Val (r o ns vs e))(o:Int)(ns:List aU)(vs:List Val)(e:Exp):Q o Val (lg p r o ns vs e):=by
 unfold lg
 refine C.tick _ _ _ ?_
 have B:=fun {α β:Type} {x:X α} {f:α→X β}=>C.bind o α β x f
 have I:=@LP Q o
 have er:=fun (α:Type) n (h:n≠0)=>C.er o α n h
 have ok:=fun (α:Type) (a:α)=>C.ok o α a
 refine I _ _ (er _ _ (by decide)) (I _ _ (ok _ _) (I _ _ (I _ _ (ok _ _) (er _ _ (by decide))) (I _ _ ?_ (I _ _ ?_ (I _ _ ?_ (I _ _ ?_ (I _ _ ?_ (I _ _ ?_ (I _ _ ?_ (I _ _ ?_ (I _ _ ?_ (I _ _ ?_ ?_))))))))))))
 ·split
  ·exact ok _ _
  ·exact er _ _ (by decide)
 ·refine B (h _ _ _ _) fun a=>B (h _ _ _ _) fun b=>?_
  unfold ln
  exact I _ _ (I _ _ (ok _ _) (er _ _ (by decide))) (I _ _ (I _ _ (ok _ _) (I _ _ (ok _ _) (I _ _ (ok _ _) (ok _ _)))) (er _ _ (by decide)))
 ·exact B (C.boolX (h _ _ _ _)) fun a=>I _ _ (ok _ _) (B (C.boolX (h _ _ _ _)) fun b=>ok _ _)
 ·exact B (C.boolX (h _ _ _ _)) fun a=>ok _ _
 ·exact B (C.boolX (h _ _ _ _)) fun a=>I _ _ (h _ _ _ _) (h _ _ _ _)
 ·exact B (h _ _ _ _) fun v=>h _ _ _ _
 ·unfold hP
  exact I _ _ (I _ _ (B (C.listX (fun e=>h _ _ _ e) _) fun vs=>I _ _ (ok _ _) (er _ _ (by decide))) (er _ _ (by decide))) (er _ _ (by decide))
 ·refine B (h _ _ _ _) fun v=>?_
  split
  ·exact I _ _ (ok _ _) (er _ _ (by decide))
  ·exact er _ _ (by decide)
 ·unfold mG
  simp only
  split
  ·exact er _ _ (by decide)
  ·rename_i f hf
   obtain⟨h1,h2,h3⟩:=gI hf
   exact I _ _ (I _ _ (B (C.listX (fun e=>h _ _ _ e) _) fun l=>C.enter _ _ _ _ _ h1 h2 h3 h) (er _ _ (by decide))) (er _ _ (by decide))
 ·unfold sF
  exact B (h _ _ _ _) fun v=>I _ _ (I _ _ (C.act _ _ _) (er _ _ (by decide))) (er _ _ (by decide))
 ·unfold sq
  split
  ·exact er _ _ (by decide)
  ·rename_i ho
   exact I _ _ (er _ _ (by decide)) (I _ _ (B (h _ _ _ _) fun v=>C.set _ _ _ ho) (C.get _ _))
theorem Closed.eval:∀(n:Nat)(o:Int)(ns:List aU)(vs:List Val)(e:Exp),Q o Val (bm p n o ns vs e)
 | 0,_,_,_,_=>C.er _ _ _ (by decide)
 | n + 1,o,ns,vs,e=>C.step (fun o ns vs e=>Closed.eval n o ns vs e) o ns vs e
end
def Mw(α:Type)(x:X α):Prop:=∀ m e s,x m= .er e s→e≠0
def iN(p:List Mod)(a:Int)(f:Fun)(l:List Val)(m:Ms):Ms:={ m with calls:=if f.pub=true then m.calls++[⟨(p[a.toNat]?.getD default).name,f.name,l⟩] else m.calls,frames:=m.frames + 1 }
theorem zf(p:List Mod):Closed p fun _=>Mw where
 ok:=fun _ _ a m e s h=>by cases h
 er:=fun _ _ a h m e s h2=>by cases h2;exact h
 bind:=fun _ _ _ x f hx hf m e s h=>by
  unfold X.bind at h
  cases hr:x m with
  | er c t=>rw[hr] at h;cases h;exact hx m _ _ hr
  | ok a t=>rw[hr] at h;exact hf a t e s h
 tick:=fun _ _ y hy m e s h=>by
  unfold lh X.get at h
  by_cases hf:m.fuel≤0
  ·simp only[hf,if_true] at h;cases h;decide
  ·simp only[hf,if_false] at h;exact hy _ e s h
 act:=fun _ n a m e s h=>by cases h
 set:=fun _ k v _ m e s h=>by cases h
 get:=fun _ k m e s h=>by cases h
 enter:=fun _ a r f l _ _ _ hr m e s h=>by
  unfold cF X.get at h
  by_cases hf:m.frames < 60
  ·simp only[hf,if_true,X.upd,X.bind] at h
   cases hq:r a (f.params.map (·.1)) l f.body { m with calls:=if f.pub=true then m.calls++[⟨(p[a.toNat]?.getD default).name,f.name,l⟩] else m.calls,frames:=m.frames + 1 } with
   | ok b t=>rw[hq] at h;cases h
   | er c t=>rw[hq] at h;cases h;exact hr _ _ _ _ _ _ _ hq
  ·simp only[hf,if_false] at h;cases h;decide
theorem wK{p:List Mod}{n:Nat}{o:Int}{ns:List aU}{vs:List Val}{e:Exp}{m s:Ms}{c:Int}(h:bm p n o ns vs e m= .er c s):c≠0:=(zf p).eval n o ns vs e m c s h
end Go.Av.Ap
namespace Go.Av.Ap
def uo(m:Ms):Prop:=(∀ l∈m.state,∀ v∈l,bA 4 v=true)∧(∀ c∈m.calls,∀ v∈c.args,bA 4 v=true)
def jp(m:Ms):List Nat:=m.state.map List.length
def RQ{α:Type}(x:X α)(Q:α→Prop):Prop:=∀ m,uo m→uo (x m).st∧jp (x m).st=jp m∧∀ a s,x m= .ok a s→Q a
theorem iJ{α:Type}{a:α}{Q:α→Prop}(h:Q a):RQ (.ok a) Q:=fun m hm=>⟨hm,rfl,fun b s e=>by cases e;exact h⟩
theorem gm{α:Type}{e:Int}{Q:α→Prop}:RQ (.er e) Q:=fun m hm=>⟨hm,rfl,fun b s e=>by cases e⟩
theorem ef{α β:Type}{x:X α}{f:α→X β}{Q:α→Prop}{R:β→Prop}(hx:RQ x Q)(hf:∀ a,Q a→RQ (f a) R):RQ (x.bind f) R:=by
 intro m hm
 obtain⟨h1,h2,h3⟩:=hx m hm
 cases hr:x m with
 | er e s=>
  rw[hr] at h1 h2
  simp only[X.bind,hr]
  exact⟨h1,h2,fun b s e=>by cases e⟩
 | ok a s=>
  rw[hr] at h1 h2
  obtain⟨g1,g2,g3⟩:=hf a (h3 a s hr) s h1
  simp only[X.bind,hr]
  exact⟨g1,g2.trans h2,g3⟩
theorem cq{α:Type}{c:Prop}[Decidable c]{x y:X α}{Q:α→Prop}(h1:c→RQ x Q)(h2:¬ c→RQ y Q):RQ (if c then x else y) Q:=by
 split
 ·exact h1 ‹_›
 ·exact h2 ‹_›
abbrev Rv(v:Val):Prop:=bA 4 v=true
theorem fW(n:Int):Rv (lU n):=by simp[Rv,lU,bA,Val.names,Val.values,Val.kind]
theorem fX(b:Bool):Rv (fP b):=by cases b <;> rfl
theorem jg:(l:List Val)→(d:Nat)→(eQ l≤d↔∀ v∈l,fC v≤d)
 | [],d=>by simp[eQ]
 | v:: l,d=>by
  simp only[eQ,List.mem_cons,forall_eq_or_imp]
  rw[← jg l d]
  omega
theorem kg(v:Val):fC v=eQ v.values + 1:=by cases v;rfl
theorem tz:∀(d:Nat)(v:Val),bA (d + 1) v=true→fC v≤d→bA d v=true
 | 0,v,_,hl=>by rw[kg] at hl;omega
 | d + 1,v,h,hl=>by
  rw[kg] at hl
  unfold bA at h ⊢
  split at h
  ·rename_i hk
   rw[if_pos hk];exact h
  ·rename_i hk
   rw[if_neg hk]
   simp only[Bool.and_eq_true,List.all_eq_true] at h ⊢
   exact⟨h.1,fun x hx=>tz d x (h.2 x hx) ((jg v.values d).1 (by omega) x hx)⟩
theorem CJ{ns:List aU}{vs:List Val}(hl:ns.length=vs.length)(ha:sA ns=true)(h8:ns.length≤8)(hv:∀ v∈vs,Rv v)(h4:fC (.mk 2 0 ns vs)≤4):Rv (.mk 2 0 ns vs):=by
 have h3:eQ vs≤3:=by
  rw[kg] at h4
  have:(Val.mk 2 0 ns vs).values=vs:=rfl
  rw[this] at h4
  omega
 have h5:=(jg vs 3).1 h3
 unfold Rv bA
 rw[if_neg (show ¬ (((Val.mk 2 0 ns vs).kind== 0||(Val.mk 2 0 ns vs).kind== 1)=true) by simp[Val.kind])]
 simp only[Val.kind_mk,Val.n_mk,Val.names_mk,Val.values_mk,Bool.and_eq_true,List.all_eq_true,beq_iff_eq]
 exact⟨⟨⟨⟨⟨trivial,trivial⟩,hl⟩,decide_eq_true h8⟩,ha⟩,fun x hx=>tz 3 x (hv x hx) (h5 x hx)⟩
theorem AG:∀(d:Nat)(v:Val),bA d v=true→bA (d + 1) v=true
 | 0,v,h=>by simp[bA] at h
 | d + 1,v,h=>by
  unfold bA at h ⊢
  split at h
  ·rename_i hk
   rw[if_pos hk];exact h
  ·rename_i hk
   rw[if_neg hk]
   simp only[Bool.and_eq_true,List.all_eq_true] at h ⊢
   exact⟨h.1,fun x hx=>AG d x (h.2 x hx)⟩
theorem xM{v x:Val}(h:Rv v)(hx:x∈v.values):Rv x:=by
 unfold Rv bA at h
 split at h
 ·simp only[Bool.and_eq_true,beq_iff_eq] at h
  have:v.values=[]:=List.eq_nil_of_length_eq_zero h.1.2
  rw[this] at hx
  cases hx
 ·simp only[Bool.and_eq_true,List.all_eq_true] at h
  exact AG 3 x (h.2 x hx)
theorem zT{v:Val}(h:Rv v):v.names.length=v.values.length:=by
 unfold Rv bA at h
 split at h
 ·simp only[Bool.and_eq_true,beq_iff_eq] at h
  rw[h.1.1,h.1.2]
 ·simp only[Bool.and_eq_true,beq_iff_eq] at h
  exact h.1.1.1.2
theorem xv:∀(ns:List aU)(vs:List Val)(s:aU)(v:Val),eZ ns vs s=some v→v∈vs
 | n:: ns,w:: vs,s,v,h=>by
  unfold eZ at h
  split at h
  ·rename_i x hx
   cases h
   exact List.mem_cons_of_mem _ (xv ns vs s v hx)
  ·split at h
   ·cases h;exact List.mem_cons_self
   ·cases h
 | [],_,_,_,h=>by simp[eZ] at h
 | _:: _,[],_,_,h=>by simp[eZ] at h
theorem qU:∀(ns:List aU)(vs:List Val)(s:aU)(v:Val),ek ns vs s=some v→v∈vs
 | n:: ns,w:: vs,s,v,h=>by
  unfold ek at h
  split at h
  ·cases h;exact List.mem_cons_self
  ·exact List.mem_cons_of_mem _ (qU ns vs s v h)
 | [],_,_,_,h=>by simp[ek] at h
 | _:: _,[],_,_,h=>by simp[ek] at h
def ly(ns:List aU)(vs:List Val):Prop:=ns.length=vs.length∧∀ v∈vs,Rv v
theorem qm{r:X Val}(h:RQ r Rv):RQ (boolX r) fun _=>True:=ef h fun _ _=>cq (fun _=>iJ trivial) (fun _=>gm)
theorem vC{r:Exp→X Val}(h:∀ e,RQ (r e) Rv):∀ l,RQ (listX r l) fun vs=>vs.length=l.length∧∀ v∈vs,Rv v
 | []=>iJ ⟨rfl,fun v hv=>by cases hv⟩
 | e:: l=>ef (h e) fun v hv=>ef (vC h l) fun vs hvs=>iJ ⟨by simp[hvs.1],fun w hw=>by
  rcases List.mem_cons.1 hw with rfl | hw
  ·exact hv
  ·exact hvs.2 w hw⟩
theorem xa{st:List (List Val)}(h:∀ l∈st,∀ v∈l,Rv v)(i k:Nat)(hd:Rv default):Rv (mI st i k):=by
 unfold mI
 rw[List.getD_eq_getElem?_getD,List.getD_eq_getElem?_getD]
 cases h1:st[i]? with
 | none=>simpa using hd
 | some l=>
  simp only[Option.getD_some]
  cases h2:l[k]? with
  | none=>simpa using hd
  | some v=>exact h l (List.mem_of_getElem? h1) v (List.mem_of_getElem? h2)
theorem xO{p:List Mod}{r:Ev}{a:Int}{f:Fun}{l:List Val}(hr:∀ o ns vs e,ly ns vs→RQ (r o ns vs e) Rv)(hl:l.length=f.params.length)(hv:∀ v∈l,Rv v):RQ (cF p r a f l) Rv:=by
 have e0:∀ m,cF p r a f l m=if m.frames < 60 then ((r a (f.params.map (·.1)) l f.body).bind fun v=>.upd (fun m=>{ m with frames:=m.frames - 1 }) (.ok v)) (iN p a f l m) else .er 6 m:=fun m=>by
  unfold cF X.get
  by_cases h:m.frames < 60
  ·simp only[h,if_true];rfl
  ·simp only[h,if_false];rfl
 intro m hm
 rw[e0]
 split
 ·have hb:RQ ((r a (f.params.map (·.1)) l f.body).bind fun v=>.upd (fun m=>{ m with frames:=m.frames - 1 }) (.ok v)) Rv:=
   ef (hr _ _ _ _ ⟨by simp[hl],hv⟩) fun _ hv m hm=>⟨hm,rfl,fun a s e=>by cases e;exact hv⟩
  have hm':uo (iN p a f l m):=by
   refine⟨hm.1,fun c hc=>?_⟩
   simp only[iN] at hc
   split at hc
   ·rcases List.mem_append.1 hc with h | h
    ·exact hm.2 c h
    ·simp only[List.mem_singleton] at h
     subst h
     exact hv
   ·exact hm.2 c hc
  exact hb _ hm'
 ·exact⟨hm,rfl,fun _ _ e=>by cases e⟩
theorem right_step{p:List Mod}{r:Ev}(hr:∀ o ns vs e,ly ns vs→RQ (r o ns vs e) Rv)(o:Int)(ns:List aU)(vs:List Val)(e:Exp)(hs:ly ns vs):RQ (lg p r o ns vs e) Rv:=by
 have tick:∀ y:X Val,RQ y Rv→RQ (lh y) Rv:=fun y hy m hm=>by
  unfold lh X.get
  by_cases h:m.fuel≤0
  ·simp only[h,if_true];exact⟨hm,rfl,fun _ _ e=>by cases e⟩
  ·simp only[h,if_false];exact hy { m with fuel:=m.fuel - 1 } hm
 have H:=fun e=>hr o ns vs e hs
 refine tick _ ?_
 refine cq (fun _=>gm) fun _=>cq (fun _=>iJ (fW _)) fun _=>cq (fun _=>cq (fun _=>iJ (fX _)) fun _=>gm) fun _=>cq (fun _=>?_) fun _=>
  cq (fun _=>?_) fun _=>cq (fun _=>?_) fun _=>cq (fun _=>?_) fun _=>cq (fun _=>?_) fun _=>cq (fun _=>?_) fun _=>cq (fun _=>?_) fun _=>cq (fun _=>?_) fun _=>
  cq (fun _=>?_) fun _=>cq (fun _=>?_) fun _=>?_
 ·split
  ·rename_i v hv
   exact iJ (hs.2 v (xv _ _ _ _ hv))
  ·exact gm
 ·refine ef (H _) fun a ha=>ef (H _) fun b hb=>?_
  unfold ln
  exact cq (fun _=>cq (fun _=>iJ (fX _)) fun _=>gm) fun _=>cq (fun _=>cq (fun _=>iJ (fW _)) fun _=>cq (fun _=>iJ (fW _)) fun _=>cq (fun _=>iJ (fW _)) fun _=>iJ (fX _)) fun _=>gm
 ·exact ef (qm (H _)) fun a _=>cq (fun _=>iJ (fX _)) fun _=>ef (qm (H _)) fun b _=>iJ (fX _)
 ·exact ef (qm (H _)) fun a _=>iJ (fX _)
 ·exact ef (qm (H _)) fun a _=>cq (fun _=>H _) fun _=>H _
 ·exact ef (H _) fun v hv=>hr _ _ _ _ ⟨by simp[hs.1],fun w hw=>by
   rcases List.mem_append.1 hw with h | h
   ·exact hs.2 w h
   ·simp only[List.mem_singleton] at h;subst h;exact hv⟩
 ·unfold hP
  exact cq (fun h1=>cq (fun h2=>ef (vC H _) fun vs hvs=>cq (fun h3=>iJ (CJ (by rw[hvs.1];exact h1.1) h1.2 h2 hvs.2 h3)) fun _=>gm) fun _=>gm) fun _=>gm
 ·refine ef (H _) fun v hv=>?_
  split
  ·rename_i x hx
   exact cq (fun _=>iJ (xM hv (qU _ _ _ _ hx))) fun _=>gm
  ·exact gm
 ·unfold mG
  simp only
  split
  ·exact gm
  ·rename_i f hf
   exact cq (fun _=>cq (fun h2=>ef (vC H _) fun l hl=>xO hr (by rw[hl.1,h2]) hl.2) fun _=>gm) fun _=>gm
 ·unfold sF
  exact ef (H _) fun v hv=>cq (fun _=>cq (fun _ m hm=>⟨hm,rfl,fun a s e=>by cases e;exact fW _⟩) fun _=>gm) fun _=>gm
 ·unfold sq
  refine cq (fun _=>gm) fun ho=>?_
  simp only
  refine cq (fun _=>gm) fun hi=>cq (fun _=>ef (H _) fun v hv m hm=>⟨⟨?_,hm.2⟩,?_,fun a s e=>by cases e;exact hv⟩) fun _ m hm=>⟨hm,rfl,fun a s e=>by cases e;exact xa hm.1 _ _ (fW 0)⟩
  ·intro l hl w hw
   simp only[X.upd,X.ok,Rs.st,setSt] at hl
   obtain⟨j,hj⟩:=List.mem_iff_getElem?.1 hl
   rw[List.getElem?_modify] at hj
   cases h1:m.state[j]? with
   | none=>simp[h1] at hj
   | some l0=>
    rw[h1] at hj
    simp only[Option.map_eq_map,Option.map_some,Option.some.injEq] at hj
    have hold:=hm.1 l0 (List.mem_of_getElem? h1)
    split at hj
    ·subst hj
     rcases List.mem_or_eq_of_mem_set hw with h | h
     ·exact hold w h
     ·subst h;exact hv
    ·subst hj
     exact hold w hw
  ·simp only[X.upd,X.ok,Rs.st,jp,setSt]
   apply List.ext_getElem?
   intro j
   rw[List.getElem?_map,List.getElem?_map,List.getElem?_modify]
   cases m.state[j]? with
   | none=>rfl
   | some l0=>
    simp only[Option.map_some]
    split <;> simp
theorem kS{p:List Mod}:∀(n:Nat)(o:Int)(ns:List aU)(vs:List Val)(e:Exp),ly ns vs→RQ (bm p n o ns vs e) Rv
 | 0,_,_,_,_,_=>gm
 | n + 1,o,ns,vs,e,hs=>right_step (fun o ns vs e h=>kS n o ns vs e h) o ns vs e hs
def kq(p:List Mod):Bool:=(List.range p.length).any fun i=>(p.take i).any fun m=>m.name== (p[i]?.getD default).name
def dG(p:List Mod):Int:=if 20 < p.length then 6 else if kq p=true then 5 else 0
def aX(world:List Int)(fuel:Int)(st:List (List Val)):Ms:=⟨fuel,0,world,[],[],st⟩
def ny(e:Exp)(ns:List aU)(vs:List Val):Rs Val:=
 if ns.length=vs.length∧vs.all (bA 4)=true then bm [] 100000 (-1) ns vs e (aX [] 100000 []) else .er 1 (aX [] 100000 [])
def iI:List Exp→Except Int (List Val)
 | []=>.ok []
 | e:: es=>match ny e [] [] with
  | .er c _=>.error c
  | .ok v _=>match iI es with
   | .error c=>.error c
   | .ok vs=>.ok (v:: vs)
def eK:List Mod→Except Int (List Vars)
 | []=>.ok []
 | m:: ms=>if m.init.length=m.vars.length then (match iI m.init with
   | .error c=>.error c
   | .ok vs=>match eK ms with
    | .error c=>.error c
    | .ok r=>.ok (⟨m.name,vs⟩:: r))
  else .error 13
def fL(p:List Mod):Except Int (List Vars):=if dG p=0 then eK p else .error (dG p)
def d9(p:List Mod)(st:List Vars):Bool:=iz (fun (m:Mod) (v:Vars)=>v.module== m.name&&(v.values.length== m.vars.length&&v.values.all (bA 4))) p st
def nr(e:Int):Out:=⟨e,default,[],[],[]⟩
def nW(ns:List aU):Rs Val→Out
 | .ok v m=>⟨0,v,m.deeds,m.calls,List.zipWith Vars.mk ns m.state⟩
 | .er e m=>⟨e,default,m.deeds,m.calls,List.zipWith Vars.mk ns m.state⟩
def iH (p:List Mod) (st:List Vars) (module fn:aU) (args:List Val) (world:List Int) (fuel:Int):Out:=
 if dG p≠0 then nr (dG p)
 else if fuel < 0∨100000 < fuel∨d9 p st=false then nr 1
 else match f9 p (modAt p module) fn with
  | none=>nr 4
  | some f=>if args.length=f.params.length∧args.all (bA 4)=true then
    nW (st.map (·.module)) (cF p (bm p 100000) (modAt p module) f args (aX world fuel (st.map (·.values))))
   else nr 13
def oY(p:List Mod)(module fn:aU)(args:List Val)(world:List Int)(fuel:Int):Out:=
 match fL p with
 | .error e=>nr e
 | .ok st=>iH p st module fn args world fuel
theorem oq{α β:Type}{F:α→β→Bool}:{a:List α} →{b:List β} →iz F a b=true→a.length=b.length∧∀(i:Nat)(x:α)(y:β),a[i]? = some x→b[i]? = some y→F x y=true
 | [],[],_=>⟨rfl,fun i x y h=>by simp at h⟩
 | [],_:: _,h=>by simp[iz] at h
 | _:: _,[],h=>by simp[iz] at h
 | x:: a,y:: b,h=>by
  simp only[iz,Bool.and_eq_true] at h
  obtain⟨h1,h2⟩:=oq h.2
  refine⟨by simp[h1],fun i u v hu hv=>?_⟩
  cases i with
  | zero=>simp at hu hv;subst hu hv;exact h.1
  | succ i=>exact h2 i u v (by simpa using hu) (by simpa using hv)
theorem Cs(p:List Mod):dG p≠16:=by
 unfold dG
 split
 ·decide
 ·split <;> decide
theorem ra(p:List Mod)(st:List Vars)(module fn:aU)(args:List Val):
  (∃ e,(e≠16∧e≠0)∧∀(world:List Int)(fuel:Int),0≤fuel→fuel≤100000→iH p st module fn args world fuel=nr e)∨
  (∃(a:Int)(f:Fun),f∈(p[a.toNat]?.getD default).funcs∧¬ a < 0∧a.toNat < p.length∧args.length=f.params.length∧(∀ v∈args,Rv v)∧d9 p st=true∧
   ∀(world:List Int)(fuel:Int),0≤fuel→fuel≤100000→iH p st module fn args world fuel=nW (st.map (·.module)) (cF p (bm p 100000) a f args (aX world fuel (st.map (·.values))))):=by
 by_cases hn:dG p=0
 ·by_cases hb:d9 p st=true
  ·cases hf:f9 p (modAt p module) fn with
   | none=>
    left
    refine⟨4,⟨by decide,by decide⟩,fun w fu g0 g1=>?_⟩
    unfold iH
    rw[if_neg (by simp[hn]),if_neg (by simp[hb];omega),hf]
   | some f=>
    obtain⟨f1,f2,f3⟩:=gI hf
    by_cases ha:args.length=f.params.length∧args.all (bA 4)=true
    ·right
     refine⟨modAt p module,f,f3,f1,f2,ha.1,fun v hv=>(List.all_eq_true.1 ha.2) v hv,hb,fun w fu g0 g1=>?_⟩
     unfold iH
     rw[if_neg (by simp[hn]),if_neg (by simp[hb];omega),hf]
     simp only
     rw[if_pos ha]
    ·left
     refine⟨13,⟨by decide,by decide⟩,fun w fu g0 g1=>?_⟩
     unfold iH
     rw[if_neg (by simp[hn]),if_neg (by simp[hb];omega),hf]
     simp only
     rw[if_neg ha]
  ·left
   refine⟨1,⟨by decide,by decide⟩,fun w fu g0 g1=>?_⟩
   unfold iH
   rw[if_neg (by simp[hn]),if_pos (by simp[hb])]
 ·left
  refine⟨dG p,⟨Cs p,hn⟩,fun w fu _ _=>?_⟩
  unfold iH
  rw[if_pos hn]
theorem pp{p:List Mod}{a:Int}{f:Fun}{l:List Val}{n:Nat}(hl:l.length=f.params.length)(hv:∀ v∈l,Rv v):RQ (cF p (bm p n) a f l) Rv:=xO (fun o ns vs e h=>kS n o ns vs e h) hl hv
theorem pN(ns:List aU)(r:Rs Val):(nW ns r).deeds=r.st.deeds:=by cases r <;> rfl
theorem lZ(ns:List aU)(r:Rs Val):(nW ns r).calls=r.st.calls:=by cases r <;> rfl
theorem jK(ns:List aU)(r:Rs Val):(nW ns r).state=List.zipWith Vars.mk ns r.st.state:=by cases r <;> rfl
def uq(o:Out):Prop:=Rv o.value∧(∀ c∈o.calls,∀ v∈c.args,Rv v)∧∀ x∈o.state,∀ v∈x.values,Rv v
theorem kR(e:Int):uq (nr e):=⟨fW 0,fun c hc=>by simp[nr] at hc,fun c hc=>by simp[nr] at hc⟩
theorem gZ{p:List Mod}{st:List Vars}(h:d9 p st=true):st.length=p.length∧(∀ x∈st,∀ v∈x.values,Rv v)∧∀(i:Nat)(m:Mod)(x:Vars),p[i]? = some m→st[i]? = some x→x.module=m.name∧x.values.length=m.vars.length:=by
 obtain⟨h1,h2⟩:=oq h
 refine⟨h1.symm,fun x hx v hv=>?_,fun i m x hm hx=>?_⟩
 ·obtain⟨i,hi⟩:=List.mem_iff_getElem?.1 hx
  have hlt:i < st.length:=(List.getElem?_eq_some_iff.1 hi).1
  have:=h2 i (p[i]'(by omega)) x (List.getElem?_eq_getElem _) hi
  simp only[Bool.and_eq_true,List.all_eq_true] at this
  exact this.2.2 v hv
 ·have:=h2 i m x hm hx
  simp only[Bool.and_eq_true,beq_iff_eq] at this
  exact⟨this.1,this.2.1⟩
theorem mM{ns:List aU}{st:List (List Val)}{x:Vars}(h:x∈List.zipWith Vars.mk ns st):x.values∈st:=by
 obtain⟨i,hi⟩:=List.mem_iff_getElem?.1 h
 rw[List.getElem?_zipWith] at hi
 cases h1:ns[i]? with
 | none=>rw[h1] at hi;cases hi
 | some a=>cases h2:st[i]? with
  | none=>rw[h1,h2] at hi;cases hi
  | some b=>
   rw[h1,h2] at hi
   cases hi
   exact List.mem_of_getElem? h2
theorem zr(p:List Mod)(st:List Vars)(module fn:aU)(args:List Val)(world:List Int)(fuel:Int):uq (iH p st module fn args world fuel):=by
 by_cases h0:0≤fuel∧fuel≤100000
 ·rcases ra p st module fn args with ⟨e,he,h⟩ | ⟨a,f,hf,ha,hl,hargs,hv,hb,h⟩
  ·rw[h world fuel h0.1 h0.2];exact kR e
  ·rw[h world fuel h0.1 h0.2]
   obtain⟨_,b2,_⟩:=gZ hb
   obtain⟨q1,_,q3⟩:=pp (p:=p) (a:=a) (n:=100000) hargs hv (aX world fuel (st.map (·.values))) ⟨fun l hl v hv=>by
    simp only[aX,List.mem_map] at hl
    obtain⟨x,hx,rfl⟩:=hl
    exact b2 x hx v hv,fun c hc=>by simp[aX] at hc⟩
   refine⟨?_,by rw[lZ];exact q1.2,fun x hx v hv=>?_⟩
   ·cases hr:cF p (bm p 100000) a f args (aX world fuel (st.map (·.values))) with
    | ok v s=>exact q3 v s hr
    | er e s=>exact fW 0
   ·rw[jK] at hx
    exact q1.1 _ (mM hx) v hv
 ·unfold iH
  split
  ·exact kR _
  ·rw[if_pos (by omega)]
   exact kR _
theorem CL(p:List Mod)(module fn:aU)(args:List Val)(world:List Int)(fuel:Int):uq (oY p module fn args world fuel):=by
 unfold oY
 split
 ·exact kR _
 ·exact zr _ _ _ _ _ _ _
theorem lP:(l:List Exp)→(vs:List Val)→iI l= .ok vs→vs.length=l.length∧∀ v∈vs,Rv v
 | [],vs,h=>by cases h;exact⟨rfl,fun v hv=>by cases hv⟩
 | e :: es,vs,h=>by
  unfold iI at h
  split at h
  ·cases h
  ·rename_i v s hv
   split at h
   ·cases h
   ·rename_i ws hws
    cases h
    obtain⟨h1,h2⟩:=lP es ws hws
    refine⟨by simp[h1],fun w hw=>?_⟩
    rcases List.mem_cons.1 hw with rfl | hw
    ·unfold ny at hv
     rw[if_pos (by simp)] at hv
     exact (kS 100000 (-1) [] [] e ⟨rfl,fun v hv=>by cases hv⟩ (aX [] 100000 []) ⟨fun l hl=>by simp[aX] at hl,fun l hl=>by simp[aX] at hl⟩).2.2 _ _ hv
    ·exact h2 w hw
theorem lL:(p:List Mod)→(st:List Vars)→eK p= .ok st→d9 p st=true
 | [],st,h=>by cases h;rfl
 | m :: ms,st,h=>by
  unfold eK at h
  split at h
  ·rename_i hl
   split at h
   ·cases h
   ·rename_i vs hvs
    split at h
    ·cases h
    ·rename_i r hr
     cases h
     obtain⟨h1,h2⟩:=lP _ _ hvs
     have:=lL ms r hr
     unfold d9 at this ⊢
     simp only[iz,this,Bool.and_true,Bool.and_eq_true,beq_iff_eq,List.all_eq_true]
     exact⟨trivial,by omega,h2⟩
  ·cases h
theorem lM{p:List Mod}{st:List Vars}(h:fL p= .ok st):d9 p st=true:=by
 unfold fL at h
 split at h
 ·exact lL p st h
 ·cases h
theorem tH:(l:List Exp)→(c:Int)→iI l= .error c→c≠0
 | [],c,h=>by cases h
 | e:: es,c,h=>by
  unfold iI at h
  split at h
  ·rename_i c' s hc
   cases h
   unfold ny at hc
   split at hc
   ·exact wK hc
   ·cases hc;decide
  ·split at h
   ·rename_i c' hc
    cases h
    exact tH es _ hc
   ·cases h
theorem q9:(p:List Mod)→(c:Int)→eK p= .error c→c≠0
 | [],c,h=>by cases h
 | m :: ms,c,h=>by
  unfold eK at h
  split at h
  ·split at h
   ·rename_i c' hc
    cases h
    exact tH _ _ hc
   ·split at h
    ·rename_i c' hc
     cases h
     exact q9 ms _ hc
    ·cases h
  ·cases h;decide
theorem zq{p:List Mod}{c:Int}(h:fL p= .error c):c≠0:=by
 unfold fL at h
 split at h
 ·exact q9 p c h
 ·cases h;assumption
end Go.Av.Ap
namespace Go.Av.Ap
open Go Go.Av
def bv(n:Int):BitVec 64:=BitVec.ofInt 64 n
def jM(a b:Int):Prop:=bv a ||| bv b=bv b
theorem jM.refl(a:Int):jM a a:=BitVec.or_self
theorem jM.trans{a b c:Int}(h1:jM a b)(h2:jM b c):jM a c:=by
 unfold jM at *
 rw[← h2,← BitVec.or_assoc,h1]
theorem Au(b:BitVec 64):bv (IntKind.i64.wrap b.toNat)=b:=by
 unfold bv
 have h:IntKind.i64.wrap b.toNat=b.toInt:=by
  have h:=b.isLt
  rw[BitVec.toInt_eq_toNat_cond]
  have h1:(2:Int) ^ IntKind.i64.bits=18446744073709551616:=rfl
  have h2:(2:Int) ^ (IntKind.i64.bits - 1)=9223372036854775808:=rfl
  have h3:((2 ^ 64:Nat):Int)=18446744073709551616:=rfl
  have h4:(b.toNat:Int) % 18446744073709551616=b.toNat:=by omega
  simp only[IntKind.wrap,h1,h2,h3,h4]
  have h5:IntKind.i64.signed=true:=rfl
  rw[h5,Bool.true_and]
  by_cases hb:2 * b.toNat < 2 ^ 64
  ·rw[if_pos hb,if_neg (by simp;omega)]
  ·rw[if_neg hb,if_pos (by simp;omega)]
 rw[h,BitVec.ofInt_toInt]
theorem IZ(a b:Int):bv (nV a b)=bv a ||| bv b:=Au _
theorem qo(a b:Int):jM a (nV a b):=by
 unfold jM
 rw[IZ,← BitVec.or_assoc,BitVec.or_self]
theorem Bj(a b:Int):jM b (nV a b):=by
 unfold jM
 rw[IZ,BitVec.or_comm (bv a),← BitVec.or_assoc,BitVec.or_self]
theorem wL{a b:Int}(h:ee a b=0):jM a b:=by
 have h1:bv (ee a b)=bv a &&& ~~~ bv b:=Au _
 rw[h] at h1
 unfold jM
 have h2:bv a &&& ~~~ bv b=0#64:=h1.symm
 ext i hi
 have:=congrArg (fun x:BitVec 64=>x.getLsbD i) h2
 simp only[BitVec.getLsbD_and,BitVec.getLsbD_not,hi,decide_true,Bool.true_and,BitVec.getLsbD_zero] at this
 rw[BitVec.getElem_or]
 simp only[BitVec.getLsbD_eq_getElem hi] at this
 cases h1:(bv a)[i] <;> cases h2:(bv b)[i] <;> simp[h1,h2] at this ⊢
mutual
def eX:Ty→Val→Prop
 | .mk k fs,v=>v.kind=k∧(fs≠[]→k=2)∧rf fs v
def rf:List (aU×Ty)→Val→Prop
 | [],_=>True
 | f:: fs,v=>Hu f v∧rf fs v
def Hu:aU×Ty→Val→Prop
 | (n,t),v=>∃ x,ek v.names v.values n=some x∧eX t x
end
theorem tG(v:Val):(fs:List bP)→(rf fs v↔∀ f∈fs,Hu f v)
 | []=>by simp[rf]
 | f:: fs=>by simp[rf,tG v fs]
theorem Fo(f:bP)(v:Val):Hu f v↔∃ x,ek v.names v.values f.1=some x∧eX f.2 x:=by
 obtain⟨n,t⟩:=f
 simp only[Hu]
theorem dO(t:Ty)(v:Val):eX t v↔v.kind=t.kind∧(t.fields≠[]→t.kind=2)∧∀ f∈t.fields,∃ x,ek v.names v.values f.1=some x∧eX f.2 x:=by
 cases t with
 | mk k fs=>simp only[eX,tG,Fo,Ty.kind,Ty.fields]
theorem jf{α:Type}{p:α→Bool}:{l:List α} →{z:α} →bQ p l=some z→z∈l∧p z=true
 | [],z,h=>by cases h
 | x:: l,z,h=>by
  simp only[bQ] at h
  split at h
  ·rename_i y hy
   cases h
   have:=jf hy
   exact⟨List.mem_cons_of_mem _ this.1,this.2⟩
  ·cases hx:p x with
   | true=>
    rw[hx] at h
    cases h
    exact⟨List.mem_cons_self,hx⟩
   | false=>rw[hx] at h;cases h
theorem kd:∀(d:Nat)(a b:Ty)(v:Val),dw d b=true→bR a b=true→eX a v→eX b v
 | 0,_,_,_,h,_,_=>by cases h
 | d + 1,a,b,v,h,hb,hv=>by
  rw[fg] at h
  rw[tb] at hb
  rw[dO] at hv ⊢
  simp only[Bool.and_eq_true,List.all_eq_true,beq_iff_eq,Bool.or_eq_true] at h hb
  refine⟨hv.1.trans hb.1,fun hf=>?_,fun f hf=>?_⟩
  ·rcases h.1.2 with h1 | h1
   ·exact h1
   ·exact absurd (List.eq_nil_of_length_eq_zero h1) hf
  ·have h1:=hb.2 f hf
   split at h1
   ·rename_i z hz
    have h2:=jf hz
    obtain⟨x,h3,h4⟩:=hv.2.2 z h2.1
    rw[beq_iff_eq.1 h2.2] at h3
    exact⟨x,h3,kd d z.2 f.2 x (h.2.1 f hf).2 h1 h4⟩
   ·cases h1
theorem GG{f:bP}{l:List bP}{g:bP}(h:Je f l=some g):g.1=f.1∧∃ z,z∈l∧z.1=f.1∧sk f.2 z.2=some g.2:=by
 obtain⟨n,t⟩:=f
 simp only[Je] at h
 split at h
 ·rename_i z hz
  split at h
  ·rename_i u hu
   cases h
   have:=jf hz
   exact⟨rfl,z,this.1,beq_iff_eq.1 this.2,hu⟩
  ·cases h
 ·cases h
theorem yt(l:List bP)(g:bP):(fs:List bP)→g∈lp fs l→∃ f∈fs,Je f l=some g
 | [],h=>by simp[lp] at h
 | f:: fs,h=>by
  simp only[lp,List.mem_append] at h
  rcases h with h | h
  ·split at h
   ·rename_i x hx
    simp only[List.mem_singleton] at h
    exact⟨f,List.mem_cons_self,by rw[hx,h]⟩
   ·cases h
  ·obtain⟨f',h1,h2⟩:=yt l g fs h
   exact⟨f',List.mem_cons_of_mem _ h1,h2⟩
theorem Ii{a b u:Ty}(h:sk a b=some u):a.kind=b.kind∧u.kind=a.kind∧∀ g∈u.fields,∃ f∈a.fields,∃ z∈b.fields,g.1=f.1∧z.1=f.1∧sk f.2 z.2=some g.2:=by
 cases a with
 | mk k fs=>
  simp only[sk] at h
  split at h
  ·rename_i hk
   cases h
   refine⟨hk,rfl,fun g hg=>?_⟩
   obtain⟨f,h1,h2⟩:=yt _ g fs hg
   obtain⟨h3,z,h4,h5,h6⟩:=GG h2
   exact⟨f,h1,z,h4,h3,h5,h6⟩
  ·cases h
theorem uY(a:Ty)(b u:Ty)(h:sk a b=some u)(v:Val):(eX a v→eX u v)∧(eX b v→eX u v):=by
 obtain⟨h1,h2,h3⟩:=Ii h
 constructor
 ·intro hv
  rw[dO] at hv ⊢
  refine⟨hv.1.trans h2.symm,fun hf=>?_,fun g hg=>?_⟩
  ·obtain⟨g,hg⟩:=List.exists_mem_of_ne_nil _ hf
   obtain⟨f,hf',_⟩:=h3 g hg
   rw[h2]
   exact hv.2.1 (List.ne_nil_of_mem hf')
  ·obtain⟨f,hf,z,hz,e1,e2,e3⟩:=h3 g hg
   obtain⟨x,g1,g2⟩:=hv.2.2 f hf
   have:=Fe hf
   exact⟨x,by rw[e1];exact g1,(uY f.2 z.2 g.2 e3 x).1 g2⟩
 ·intro hv
  rw[dO] at hv ⊢
  refine⟨hv.1.trans (h1.symm.trans h2.symm),fun hf=>?_,fun g hg=>?_⟩
  ·obtain⟨g,hg⟩:=List.exists_mem_of_ne_nil _ hf
   obtain⟨f,_,z,hz,_⟩:=h3 g hg
   rw[h2,h1]
   exact hv.2.1 (List.ne_nil_of_mem hz)
  ·obtain⟨f,hf,z,hz,e1,e2,e3⟩:=h3 g hg
   obtain⟨x,g1,g2⟩:=hv.2.2 z hz
   have:=Fe hf
   exact⟨x,by rw[e1,← e2];exact g1,(uY f.2 z.2 g.2 e3 x).2 g2⟩
termination_by SizeOf.sizeOf a
def kW{α:Type}(x:dI α):Prop:=∀ n a n',x n= .ok a n'→jM n n'
theorem nN{α:Type}(a:α):kW (.ok a):=fun n b n' h=>by cases h;exact jM.refl _
theorem kL{α:Type}(e:Int):kW (α:=α) (.er e):=fun n b n' h=>by cases h
theorem bind_ok{α β:Type}{x:dI α}{f:α→dI β}{n:Int}{b:β}{n':Int}(h:dI.bind x f n= .ok b n'):∃ a m,x n= .ok a m∧f a m= .ok b n':=by
 unfold dI.bind at h
 split at h
 ·rename_i a m hm
  exact⟨a,m,hm,h⟩
 ·cases h
theorem iW{α β:Type}{x:dI α}{f:α→dI β}(hx:kW x)(hf:∀ a,kW (f a)):kW (.bind x f):=fun n b n' h=>by
 obtain⟨a,m,h1,h2⟩:=bind_ok h
 exact (hx _ _ _ h1).trans (hf a _ _ _ h2)
theorem io{α:Type}{c:Prop}[Decidable c]{x y:dI α}(h1:kW x)(h2:kW y):kW (if c then x else y):=by
 split
 ·exact h1
 ·exact h2
theorem mm{r:Exp→dI Ty}(h:∀ e,kW (r e)):∀ l,kW (dm r l)
 | []=>nN _
 | e:: l=>iW (h e) fun _=>iW (mm h l) fun _=>nN _
theorem oQ(c:Tcx):∀(d:Nat)(ls:List bP)(e:Exp),kW (bI c d ls e)
 | 0,_,_=>kL _
 | d + 1,ls,e=>by
  have H:=oQ c d
  show kW (cr c (bI c d) ls e)
  unfold cr
  refine io ?_ (io ?_ (io ?_ (io ?_ ?_)))
  ·split
   ·exact nN _
   ·exact kL _
  ·exact iW (H _ _) fun _=>H _ _
  ·split
   ·exact kL _
   ·exact io (iW (H _ _) fun _=>io (nN _) (kL _)) (nN _)
  ·split
   ·exact kL _
   ·refine io (iW (mm (H _) _) fun _=>io (fun n a n' h=>?_) (kL _)) (kL _)
    cases h
    exact qo _ _
  ·refine iW (mm (H _) _) fun l n a n' h=>?_
   split at h
   ·cases h
    split
    ·exact qo _ _
    ·exact jM.refl _
   ·cases h
def kz:List bP→List aU→List Val→Prop
 | [],[],[]=>True
 | z:: ls,n:: ns,v:: vs=>z.1=n∧eX z.2 v∧kz ls ns vs
 | _,_,_=>False
theorem r6{s:aU}:{ls:List bP} →{ns:List aU} →{vs:List Val} →kz ls ns vs→(∀ z,bQ (fun z=>z.1== s) ls=some z→∃ v,eZ ns vs s=some v∧eX z.2 v)∧(bQ (fun z=>z.1== s) ls=none→eZ ns vs s=none)
 | [],[],[],_=>⟨(fun z h=>by cases h),fun _=>rfl⟩
 | y :: ls,n:: ns,v:: vs,h=>by
  obtain⟨h1,h2,h3⟩:=h
  obtain⟨i1,i2⟩:=r6 (s:=s) h3
  constructor
  ·intro z hz
   simp only[bQ] at hz
   simp only[eZ]
   split at hz
   ·rename_i w hw
    cases hz
    obtain⟨x,g1,g2⟩:=i1 z hw
    exact⟨x,by rw[g1],g2⟩
   ·rename_i hw
    rw[i2 hw]
    cases hy:y.1== s with
    | true=>
     rw[hy] at hz
     cases hz
     exact⟨v,by rw[if_pos (h1.symm.trans (beq_iff_eq.1 hy))],h2⟩
    | false=>rw[hy] at hz;cases hz
  ·intro hz
   simp only[bQ] at hz
   simp only[eZ]
   split at hz
   ·cases hz
   ·rename_i hw
    rw[i2 hw]
    cases hy:y.1== s with
    | true=>rw[hy] at hz;cases hz
    | false=>rw[if_neg (fun e=>by rw[h1,e,beq_self_eq_true] at hy;cases hy)]
theorem ua{n:aU}{t:Ty}{v:Val}(hv:eX t v):{ls:List bP} →{ns:List aU} →{vs:List Val} →kz ls ns vs→kz (ls++[(n,t)]) (ns++[n]) (vs++[v])
 | [],[],[],_=>⟨rfl,hv,trivial⟩
 | _:: _,_:: _,_:: _,h=>⟨h.1,h.2.1,ua hv h.2.2⟩
theorem xU:{ls:List bP} →{vs:List Val} →ls.length=vs.length→(∀(i:Nat)(z:bP)(v:Val),ls[i]? = some z→vs[i]? = some v→eX z.2 v)→kz ls (ls.map (·.1)) vs
 | [],[],_,_=>trivial
 | z:: ls,v:: vs,hl,h=>⟨rfl,h 0 z v rfl rfl,xU (by simpa using hl) fun i z v h1 h2=>h (i + 1) z v (by simpa using h1) (by simpa using h2)⟩
def Im(p:List Mod)(st:List (List Val)):Prop:=st.length=p.length∧∀(i:Nat)(m:Mod)(l:List Val),p[i]? = some m→st[i]? = some l→l.length=m.vars.length∧∀(k:Nat)(z:bP)(v:Val),m.vars[k]? = some z→l[k]? = some v→eX z.2 v
def Ku(b:Int)(d:Deed):Prop:=jM d.effect b∧(d.effect=1∨d.effect=2∨d.effect=4∨d.effect=8)
def SQ(p:List Mod)(b:Int){α:Type}(x:X α)(Q:α→Prop):Prop:=∀ m,Im p m.state→Im p (x m).st.state∧(∃ ds,(x m).st.deeds=m.deeds++ds∧∀ d∈ds,Ku b d)∧(∀ e s,x m= .er e s→e=16∨e=6)∧∀ a s,x m= .ok a s→Q a
theorem gy{p:List Mod}{b:Int}{α:Type}{a:α}{Q:α→Prop}(h:Q a):SQ p b (.ok a) Q:=fun m hm=>⟨hm,⟨[],by simp[X.ok,Rs.st],by simp⟩,(fun e s h=>by cases h),fun b s e=>by cases e;exact h⟩
theorem Be{p:List Mod}{b:Int}{α:Type}{e:Int}{Q:α→Prop}(h:e=16∨e=6):SQ p b (.er e) Q:=fun m hm=>⟨hm,⟨[],by simp[X.er,Rs.st],by simp⟩,(fun e s h'=>by cases h';exact h),fun b s e=>by cases e⟩
theorem Ku.mono{b c:Int}(h:jM b c){d:Deed}(hd:Ku b d):Ku c d:=⟨hd.1.trans h,hd.2⟩
theorem gq{p:List Mod}{b c:Int}{α:Type}{x:X α}{Q R:α→Prop}(h:SQ p b x Q)(hb:jM b c)(hq:∀ a,Q a→R a):SQ p c x R:=fun m hm=>by
 obtain⟨h1,⟨ds,h2,h3⟩,h4,h5⟩:=h m hm
 exact⟨h1,⟨ds,h2,fun d hd=>(h3 d hd).mono hb⟩,h4,fun a s e=>hq a (h5 a s e)⟩
theorem eg{p:List Mod}{b:Int}{α β:Type}{x:X α}{f:α→X β}{Q:α→Prop}{R:β→Prop}(hx:SQ p b x Q)(hf:∀ a,Q a→SQ p b (f a) R):SQ p b (x.bind f) R:=by
 intro m hm
 obtain⟨h1,⟨ds,h2,h3⟩,h4,h5⟩:=hx m hm
 cases hr:x m with
 | er e s=>
  rw[hr] at h1 h2
  simp only[X.bind,hr]
  exact⟨h1,⟨ds,h2,h3⟩,(fun e' s' h=>by cases h;exact h4 _ _ hr),fun b s e=>by cases e⟩
 | ok a s=>
  rw[hr] at h1 h2
  obtain⟨g1,⟨es,g2,g3⟩,g4,g5⟩:=hf a (h5 a s hr) s h1
  simp only[X.bind,hr]
  refine⟨g1,⟨ds++es,by rw[g2];simp only[Rs.st] at h2;rw[h2,List.append_assoc],fun d hd=>?_⟩,g4,g5⟩
  rcases List.mem_append.1 hd with h | h
  ·exact h3 d h
  ·exact g3 d h
theorem Aa{p:List Mod}{b:Int}{α:Type}{c:Prop}[Decidable c]{x y:X α}{Q:α→Prop}(h1:c→SQ p b x Q)(h2:¬ c→SQ p b y Q):SQ p b (if c then x else y) Q:=by
 split
 ·exact h1 ‹_›
 ·exact h2 ‹_›
structure Wt (p:List Mod) (C:Int→Tcx):Prop where
 call:∀(own:Int)(e:Exp)(s:List Ty×Ty×Int),cY (C own) e=some s→∃ f,f9 p (if e.m=[] then own else modAt p e.m) e.s=some f∧(e.m=[]∨f.pub=true)∧f.params.map (·.2)=s.1∧f.result=s.2.1∧f.effects=s.2.2
 fn:∀(a:Int)(s:aU)(f:Fun),f9 p a s=some f→(∀ z∈f.params,bN z.2=true)∧bN f.result=true∧cH 12 f.body=true∧∃ t n,bI (C a) 12 f.params f.body 0= .ok t n∧bR t f.result=true∧ee n f.effects=0
 var:∀(own:Int)(s:aU)(z:bP),bQ (fun z=>z.1== s) (C own).vars=some z→¬ own < 0∧own.toNat < p.length∧∃ i:Nat,jc (p[own.toNat]?.getD default).vars s=i∧(p[own.toNat]?.getD default).vars[i]? = some z∧bN z.2=true
def K7(p:List Mod)(g:Nat)(c:Tcx)(own:Int)(d:Nat):Prop:=∀(ls:List bP)(e:Exp)(n n':Int)(t:Ty),cH d e=true→bI c d ls e n= .ok t n'→∀ ns vs,kz ls ns vs→SQ p n' (bm p g own ns vs e) (eX t)
theorem Bf{p:List Mod}{g:Nat}{c:Tcx}{own:Int}{d:Nat}(S:K7 p g c own d){ls:List bP}{ns:List aU}{vs:List Val}(hs:kz ls ns vs):∀(l:List Exp)(n n':Int)(ts:List Ty),l.all (cH d)=true→dm (bI c d ls) l n= .ok ts n'→ts.length=l.length∧SQ p n' (listX (bm p g own ns vs) l) fun ws=>ws.length=ts.length∧∀(i:Nat)(t:Ty)(w:Val),ts[i]? = some t→ws[i]? = some w→eX t w
 | [],n,n',ts,_,h=>by
  cases h
  exact⟨rfl,gy ⟨rfl,fun i t w h=>by simp at h⟩⟩
 | e:: l,n,n',ts,hr,h=>by
  simp only[List.all_cons,Bool.and_eq_true] at hr
  obtain⟨t,m,h1,h2⟩:=bind_ok h
  obtain⟨us,k,h3,h4⟩:=bind_ok h2
  cases h4
  obtain⟨h5,h6⟩:=Bf S hs l m n' us hr.2 h3
  refine⟨by simp[h5],eg (gq (S ls e n m t hr.1 h1 ns vs hs) (mm (oQ c d ls) l _ _ _ h3) fun _ h=>h) fun v hv=>eg h6 fun ws hws=>gy ⟨by simp[hws.1],fun i t w h7 h8=>?_⟩⟩
  cases i with
  | zero=>simp at h7 h8;subst h7 h8;exact hv
  | succ i=>exact hws.2 i t w (by simpa using h7) (by simpa using h8)
theorem nG(n:Int):eX (.mk 0 []) (lU n):=by simp[eX,rf,lU]
theorem ke(b:Bool):eX (.mk 1 []) (fP b):=by simp[eX,rf,fP]
theorem qn{p:List Mod}{b:Int}{x:X Val}{Q:Val→Prop}(h:SQ p b x Q)(hk:∀ v,Q v→v.kind=1):SQ p b (boolX x) fun _=>True:=eg h fun v hv=>by
 rw[if_pos (hk v hv)]
 exact gy trivial
theorem xV{e:Exp}(h:l9 e=true):(e.op=0∧e.args.length=0)∨(e.op=1∧e.args.length=0∧(e.n=0∨e.n=1))∨(e.op=2∧e.args.length=0)∨((e.op=3∨e.op=4∨e.op=5∨e.op=6∨e.op=7)∧e.args.length=2)∨((e.op=8∨e.op=9)∧e.args.length=2)∨(e.op=10∧e.args.length=1)∨(e.op=11∧e.args.length=3)∨(e.op=12∧e.args.length=2)∨(e.op=13∧e.names.length=e.args.length∧rI e.names=true)∨(e.op=14∧e.args.length=1)∨e.op=15∨(e.op=16∧e.args.length=1∧(e.n=1∨e.n=2∨e.n=4∨e.n=8))∨(e.op=17∧e.args.length=0)∨(e.op=18∧e.args.length=1):=by
 have hb:0≤e.op∧e.op < 19:=by
  unfold l9 at h
  simp only[Bool.and_eq_true,decide_eq_true_eq] at h
  exact⟨h.1.1.1.1.1.1.1,h.1.1.1.1.1.1.2⟩
 have ho:e.op=0∨e.op=1∨e.op=2∨e.op=3∨e.op=4∨e.op=5∨e.op=6∨e.op=7∨e.op=8∨e.op=9∨e.op=10∨e.op=11∨e.op=12∨e.op=13∨e.op=14∨e.op=15∨e.op=16∨e.op=17∨e.op=18:=by omega
 rcases ho with o | o | o | o | o | o | o | o | o | o | o | o | o | o | o | o | o | o | o <;> simp[l9,fK,fU,o,-List.length_eq_zero_iff] at h ⊢ <;> first | omega | grind
theorem qi{α:Type}:{l:List α} →l.length=1→∃ a,l=[a]
 | [a],_=>⟨a,rfl⟩
theorem ve{α:Type}:{l:List α} →l.length=2→∃ a b,l=[a,b]
 | [a,b],_=>⟨a,b,rfl⟩
theorem Cm{α:Type}:{l:List α} →l.length=3→∃ a b c,l=[a,b,c]
 | [a,b,c],_=>⟨a,b,c,rfl⟩
theorem AQ{r:Exp→dI Ty}{a:Exp}{n n':Int}{ts:List Ty}(h:dm r [a] n= .ok ts n'):∃ t,ts=[t]∧r a n= .ok t n':=by
 obtain⟨t,m,h1,h2⟩:=bind_ok h
 obtain⟨us,k,h3,h4⟩:=bind_ok h2
 cases h3;cases h4
 exact⟨t,rfl,h1⟩
theorem Fy{r:Exp→dI Ty}{a b:Exp}{n n':Int}{ts:List Ty}(h:dm r [a,b] n= .ok ts n'):∃ t u m,ts=[t,u]∧r a n= .ok t m∧r b m= .ok u n':=by
 obtain⟨t,m,h1,h2⟩:=bind_ok h
 obtain⟨us,k,h3,h4⟩:=bind_ok h2
 cases h4
 obtain⟨u,rfl,h5⟩:=AQ h3
 exact⟨t,u,m,rfl,h1,h5⟩
theorem LR{r:Exp→dI Ty}{a b c:Exp}{n n':Int}{ts:List Ty}(h:dm r [a,b,c] n= .ok ts n'):∃ t u w m k,ts=[t,u,w]∧r a n= .ok t m∧r b m= .ok u k∧r c k= .ok w n':=by
 obtain⟨t,m,h1,h2⟩:=bind_ok h
 obtain⟨us,k,h3,h4⟩:=bind_ok h2
 cases h4
 obtain⟨u,w,k',rfl,h5,h6⟩:=Fy h3
 exact⟨t,u,w,m,k',rfl,h1,h5,h6⟩
theorem H9{p:List Mod}{b:Int}{y:X Val}{Q:Val→Prop}(h:SQ p b y Q):SQ p b (lh y) Q:=fun m hm=>by
 unfold lh X.get
 by_cases hf:m.fuel≤0
 ·simp only[hf,if_true]
  exact Be (.inl rfl) m hm
 ·simp only[hf,if_false]
  exact h { m with fuel:=m.fuel - 1 } hm
theorem ya{p:List Mod}{C:Int→Tcx}(W:Wt p C){g:Nat}(hg:∀ own d,K7 p g (C own) own d){a:Int}{s:aU}{f:Fun}(hf:f9 p a s=some f){l:List Val}(hl:l.length=f.params.length)(hv:∀(i:Nat)(z:bP)(v:Val),f.params[i]? = some z→l[i]? = some v→eX z.2 v):SQ p f.effects (cF p (bm p g) a f l) (eX f.result):=by
 obtain⟨_,hr,hb,t,n,h1,h2,h3⟩:=W.fn a s f hf
 have hs:=xU hl.symm hv
 have hS:=hg a 12 f.params f.body 0 n t hb h1 _ _ hs
 have key:SQ p f.effects ((bm p g a (f.params.map (·.1)) l f.body).bind fun v=>.upd (fun m=>{ m with frames:=m.frames - 1 }) (.ok v)) (eX f.result):=eg (gq hS (wL h3) fun v hv=>kd 4 t f.result v hr h2 hv) fun v hv m hm=>gy (p:=p) (b:=f.effects) hv { m with frames:=m.frames - 1 } hm
 intro m hm
 have e0:cF p (bm p g) a f l m=if m.frames < 60 then ((bm p g a (f.params.map (·.1)) l f.body).bind fun v=>.upd (fun m=>{ m with frames:=m.frames - 1 }) (.ok v)) (iN p a f l m) else .er 6 m:=by
  unfold cF X.get
  by_cases h:m.frames < 60
  ·simp only[h,if_true];rfl
  ·simp only[h,if_false];rfl
 rw[e0]
 split
 ·exact key (iN p a f l m) hm
 ·exact Be (p:=p) (b:=f.effects) (.inr rfl) m hm
theorem JZ{p:List Mod}{st:List (List Val)}(h:Im p st){i k:Nat}(hi:i < p.length){z:bP}(hz:(p[i]?.getD default).vars[k]? = some z):eX z.2 (mI st i k):=by
 obtain⟨h1,h2⟩:=h
 have hi':i < st.length:=by omega
 rw[List.getElem?_eq_getElem hi] at hz
 obtain⟨h3,h4⟩:=h2 i p[i] st[i] (List.getElem?_eq_getElem hi) (List.getElem?_eq_getElem hi')
 have hk:k < st[i].length:=by rw[h3];exact (List.getElem?_eq_some_iff.1 hz).1
 have e:mI st i k=st[i][k]:=by
  unfold mI
  simp[List.getD_eq_getElem?_getD,List.getElem?_eq_getElem hi',List.getElem?_eq_getElem hk]
 rw[e]
 exact h4 k z _ hz (List.getElem?_eq_getElem hk)
theorem Ko{p:List Mod}{st:List (List Val)}(h:Im p st){i k:Nat}{z:bP}(hz:(p[i]?.getD default).vars[k]? = some z){v:Val}(hv:eX z.2 v):Im p (setSt st i k v):=by
 refine⟨by unfold setSt;rw[List.length_modify];exact h.1,fun j m l hm hl=>?_⟩
 unfold setSt at hl
 rw[List.getElem?_modify] at hl
 cases h1:st[j]? with
 | none=>simp[h1] at hl
 | some l0=>
  rw[h1] at hl
  simp only[Option.map_eq_map,Option.map_some,Option.some.injEq] at hl
  obtain⟨h2,h3⟩:=h.2 j m l0 hm h1
  split at hl
  ·rename_i e
   subst e hl
   refine⟨by simpa using h2,fun n y w hy hw=>?_⟩
   rw[List.getElem?_set] at hw
   split at hw
   ·rename_i e
    subst e
    split at hw
    ·cases hw
     rw[hm,Option.getD_some,hy] at hz
     cases hz
     exact hv
    ·cases hw
   ·exact h3 n y w hy hw
  ·subst hl
   exact⟨h2,h3⟩
theorem oC{s:aU}{w:Val}:{ns:List aU} →{ws:List Val} →(ns.Pairwise fun x y=>aT x y=true)→{i:Nat} →ns[i]? = some s→ws[i]? = some w→ek ns ws s=some w
 | n:: ns,x:: ws,hp,0,h1,h2=>by
  simp at h1 h2
  subst h1 h2
  simp[ek]
 | n:: ns,x:: ws,hp,i + 1,h1,h2=>by
  rw[List.pairwise_cons] at hp
  have h3:=hp.1 s (List.mem_of_getElem? (by simpa using h1))
  have h4:¬ n=s:=fun e=>by rw[e,dC] at h3;cases h3
  simp only[ek,if_neg h4]
  exact oC hp.2 (by simpa using h1) (by simpa using h2)
 | [],_,_,i,h1,_=>by simp at h1
 | _:: _,[],_,i,_,h2=>by simp at h2
theorem EG:(l:List aU)→kC eI l=true→sA l=true
 | [],_=>rfl
 | [_],_=>rfl
 | x:: y:: l,h=>by
  simp only[kC,Bool.and_eq_true] at h
  simp only[sA,Bool.and_eq_true]
  exact⟨(qz x y).1 h.1,EG (y:: l) h.2⟩
theorem gM{c:Tcx}{r:List bP→Exp→dI Ty}{ls:List bP}{e:Exp}{n n':Int}{t:Ty}(hf:cr c r ls e n= .ok t n')(h2:¬ e.op=2)(h12:¬ e.op=12)(h17:¬ (e.op=17∨e.op=18))(h15:¬ e.op=15)(h16:¬ e.op=16):dI.bind (dm (r ls) e.args) (fun l n=>match bO e l with | some t=>.ok t n | none=>.er 13 n) n= .ok t n':=by
 rw[← hf]
 unfold cr
 simp only[if_neg h2,if_neg h12,if_neg h17,if_neg h15,if_neg h16]
 rfl
theorem gO{e:Exp}{l:List Ty}{k n':Int}{t:Ty}(h:(match bO e l with | some t=>Tr.ok t k | none=>.er 13 k)= .ok t n'):bO e l=some t∧k=n':=by
 split at h
 ·cases h;exact⟨‹_›,rfl⟩
 ·cases h
theorem Gq{p:List Mod}{C:Int→Tcx}(W:Wt p C){g:Nat}(hg:∀ own d,K7 p g (C own) own d)(own:Int)(d:Nat):K7 p (g + 1) (C own) own (d + 1):=by
 intro ls e n n' t hr hf ns vs hs
 rw[l8,Bool.and_eq_true] at hr
 obtain⟨hsh,ha⟩:=hr
 have hf:cr (C own) (bI (C own) d) ls e n= .ok t n':=hf
 have H:=hg own d
 have M:=oQ (C own) d
 have L:=fun {l:List Exp} {a b:Int} {ts:List Ty}=>Bf H hs l a b ts
 show SQ p n' (lg p (bm p g) own ns vs e) _
 refine H9 ?_
 rcases xV hsh with ⟨o,hl⟩ | ⟨o,hl,hn⟩ | ⟨o,hl⟩ | ⟨o,hl⟩ | ⟨o,hl⟩ | ⟨o,hl⟩ | ⟨o,hl⟩ | ⟨o,hl⟩ | ⟨o,hl,hnb⟩ | ⟨o,hl⟩ | o | ⟨o,hl,hn⟩ | ⟨o,hl⟩ | ⟨o,hl⟩
 ·-- a number
  obtain hl:=List.eq_nil_of_length_eq_zero hl
  simp[cr,o,hl,dm,dI.bind,dI.ok,bO] at hf
  obtain⟨rfl,rfl⟩:=hf
  simp only[aW,o,hl]
  exact gy (nG _)
 ·obtain hl:=List.eq_nil_of_length_eq_zero hl
  simp[cr,o,hl,dm,dI.bind,dI.ok,bO] at hf
  obtain⟨rfl,rfl⟩:=hf
  simp[aW,o,hl,hn]
  exact gy (ke _)
 ·obtain hl:=List.eq_nil_of_length_eq_zero hl
  have hf:(match bQ (fun z:bP=>z.1== e.s) ls with | some z=>dI.ok z.2 | none=>.er 12) n= .ok t n':=by
   rw[← hf];unfold cr;rw[if_pos o];rfl
  cases hz:bQ (fun z:bP=>z.1== e.s) ls with
  | none=>rw[hz] at hf;cases hf
  | some z=>
   rw[hz] at hf
   cases hf
   obtain⟨v,h1,h2⟩:=(r6 hs).1 z hz
   simp[aW,o,hl,h1]
   exact gy h2
 ·obtain⟨x,y,hl⟩:=ve hl
  obtain⟨ts,k,h1,h2⟩:=bind_ok (gM hf (by omega) (by omega) (by omega) (by omega) (by omega))
  rw[hl] at h1
  obtain⟨t1,t2,m,rfl,h3,h4⟩:=Fy h1
  rw[hl] at ha
  simp only[List.all_cons,List.all_nil,Bool.and_true,Bool.and_eq_true] at ha
  have s1:=H ls x n m t1 ha.1 h3 ns vs hs
  have s2:=H ls y m k t2 ha.2 h4 ns vs hs
  obtain⟨hp,rfl⟩:=gO h2
  have a0:e.args[0]! = x:=by rw[hl];rfl
  have a1:e.args[1]! = y:=by rw[hl];rfl
  have g1:¬ (aW e.op= -2∨(aW e.op≠-1∧aW e.op≠e.args.length)):=by
   rw[hl]
   rcases o with o | o | o | o | o <;> rw[o] <;> simp[aW]
  have g2:e.op=3∨e.op=4∨e.op=5∨e.op=6∨e.op=7:=o
  simp only[if_neg g1,show ¬ e.op=0 by omega,show ¬ e.op=1 by omega,show ¬ e.op=2 by omega,if_false,if_pos g2,a0,a1]
  refine eg (gq s1 (M _ _ _ _ _ h4) fun _ h=>h) fun v hv=>eg s2 fun w hw=>?_
  have kv:=((dO t1 v).1 hv).1
  have kw:=((dO t2 w).1 hw).1
  unfold ln
  rcases o with o | o | o | o | o <;> simp[bO,o,jt] at hp <;> simp only[o,kv,kw]
  ·obtain⟨⟨q1,q2⟩,rfl⟩:=hp;simp[q1,q2];exact gy (nG _)
  ·obtain⟨⟨q1,q2⟩,rfl⟩:=hp;simp[q1,q2];exact gy (nG _)
  ·obtain⟨⟨q1,q2⟩,rfl⟩:=hp;simp[q1,q2];exact gy (nG _)
  ·obtain⟨⟨q1,q2⟩,rfl⟩:=hp;simp[q1,q2];exact gy (ke _)
  ·obtain⟨q,rfl⟩:=hp
   rcases q with ⟨q1,q2⟩ | ⟨q1,q2⟩ <;> simp[q1,q2] <;> exact gy (ke _)
 ·obtain⟨x,y,hl⟩:=ve hl
  obtain⟨ts,k,h1,h2⟩:=bind_ok (gM hf (by omega) (by omega) (by omega) (by omega) (by omega))
  rw[hl] at h1
  obtain⟨t1,t2,m,rfl,h3,h4⟩:=Fy h1
  rw[hl] at ha
  simp only[List.all_cons,List.all_nil,Bool.and_true,Bool.and_eq_true] at ha
  have s1:=H ls x n m t1 ha.1 h3 ns vs hs
  have s2:=H ls y m k t2 ha.2 h4 ns vs hs
  obtain⟨hp,rfl⟩:=gO h2
  have a0:e.args[0]! = x:=by rw[hl];rfl
  have a1:e.args[1]! = y:=by rw[hl];rfl
  have g1:¬ (aW e.op= -2∨(aW e.op≠-1∧aW e.op≠e.args.length)):=by
   rw[hl]
   rcases o with o | o <;> rw[o] <;> simp[aW]
  have hp':(t1.kind=1∧t2.kind=1)∧t= .mk 1 []:=by
   rcases o with o | o <;> simp[bO,o,jt] at hp <;> exact⟨hp.1,hp.2.symm⟩
  obtain⟨⟨q1,q2⟩,rfl⟩:=hp'
  simp only[if_neg g1,show ¬ e.op=0 by omega,show ¬ e.op=1 by omega,show ¬ e.op=2 by omega,show ¬ (e.op=3∨e.op=4∨e.op=5∨e.op=6∨e.op=7) by omega,if_false,if_pos o,a0,a1]
  refine eg (qn (gq s1 (M _ _ _ _ _ h4) fun _ h=>h) fun v hv=>((dO t1 v).1 hv).1.trans q1) fun v _=>Aa (fun _=>gy (ke _)) fun _=>?_
  exact eg (qn s2 fun v hv=>((dO t2 v).1 hv).1.trans q2) fun w _=>gy (ke _)
 ·obtain⟨x,hl⟩:=qi hl
  obtain⟨ts,k,h1,h2⟩:=bind_ok (gM hf (by omega) (by omega) (by omega) (by omega) (by omega))
  rw[hl] at h1
  obtain⟨t1,rfl,h3⟩:=AQ h1
  rw[hl] at ha
  simp only[List.all_cons,List.all_nil,Bool.and_true] at ha
  have s1:=H ls x n k t1 ha h3 ns vs hs
  obtain⟨hp,rfl⟩:=gO h2
  have a0:e.args[0]! = x:=by rw[hl];rfl
  have hp':t1.kind=1∧t= .mk 1 []:=by
   simp[bO,o,jt] at hp;exact⟨hp.1,hp.2.symm⟩
  obtain⟨q1,rfl⟩:=hp'
  simp[aW,o,hl]
  exact eg (qn s1 fun v hv=>((dO t1 v).1 hv).1.trans q1) fun w _=>gy (ke _)
 ·obtain⟨x,y,z,hl⟩:=Cm hl
  obtain⟨ts,k,h1,h2⟩:=bind_ok (gM hf (by omega) (by omega) (by omega) (by omega) (by omega))
  rw[hl] at h1
  obtain⟨t1,t2,t3,m1,m2,rfl,h3,h4,h5⟩:=LR h1
  rw[hl] at ha
  simp only[List.all_cons,List.all_nil,Bool.and_true,Bool.and_eq_true] at ha
  have s1:=H ls x n m1 t1 ha.1 h3 ns vs hs
  have s2:=H ls y m1 m2 t2 ha.2.1 h4 ns vs hs
  have s3:=H ls z m2 k t3 ha.2.2 h5 ns vs hs
  obtain⟨hp,rfl⟩:=gO h2
  have a0:e.args[0]! = x:=by rw[hl];rfl
  have a1:e.args[1]! = y:=by rw[hl];rfl
  have a2:e.args[2]! = z:=by rw[hl];rfl
  have hp':t1.kind=1∧sk t2 t3=some t:=by
   have hp:(match sk t2 t3 with | some u=>if t1.kind=1 then some u else none | none=>none)=some t:=by
    rw[← hp];unfold bO
    simp only[o,Int.reduceEq,or_self,if_false,if_true]
    rfl
   split at hp
   ·rename_i u hu
    split at hp
    ·cases hp;exact⟨‹_›,hu⟩
    ·cases hp
   ·cases hp
  obtain⟨q1,q2⟩:=hp'
  simp[aW,o,hl]
  refine eg (qn (gq s1 ((M _ _ _ _ _ h4).trans (M _ _ _ _ _ h5)) fun _ h=>h) fun v hv=>((dO t1 v).1 hv).1.trans q1) fun v _=>Aa (fun _=>?_) fun _=>?_
  ·exact gq s2 (M _ _ _ _ _ h5) fun v hv=>(uY t2 t3 t q2 v).1 hv
  ·exact gq s3 (jM.refl _) fun v hv=>(uY t2 t3 t q2 v).2 hv
 ·obtain⟨x,y,hl⟩:=ve hl
  have a0:e.args[0]! = x:=by rw[hl];rfl
  have a1:e.args[1]! = y:=by rw[hl];rfl
  have hf:dI.bind (bI (C own) d ls e.args[0]!) (fun t=>bI (C own) d (ls++[(e.s,t)]) e.args[1]!) n= .ok t n':=by
   rw[← hf];unfold cr;rw[if_neg (by omega),if_pos o]
  rw[a0,a1] at hf
  obtain⟨t1,k,h1,h2⟩:=bind_ok hf
  rw[hl] at ha
  simp only[List.all_cons,List.all_nil,Bool.and_true,Bool.and_eq_true] at ha
  simp[aW,o,hl]
  exact eg (gq (H ls x n k t1 ha.1 h1 ns vs hs) (M _ _ _ _ _ h2) fun _ h=>h) fun v hv=>H _ y k n' t ha.2 h2 _ _ (ua hv hs)
 ·obtain⟨ts,k,h1,h2⟩:=bind_ok (gM hf (by omega) (by omega) (by omega) (by omega) (by omega))
  obtain⟨hp,rfl⟩:=gO h2
  obtain⟨g1,g2⟩:=L ha h1
  have ht:t= .mk 2 (e.names.zip ts):=by simp[bO,o] at hp;exact hp.symm
  subst ht
  unfold rI at hnb
  simp only[Bool.and_eq_true,decide_eq_true_eq] at hnb
  have hpw:e.names.Pairwise fun x y=>aT x y=true:=ou (nm:=id) (fun x y h=>(qz x y).1 h) _ hnb.1.2
  simp[aW,o,-Val.kind_mk]
  unfold hP
  rw[if_pos ⟨hl,EG _ hnb.1.2⟩,if_pos hnb.2]
  refine eg g2 fun ws hws=>Aa (fun _=>gy ?_) fun _=>Be (.inr rfl)
  rw[dO]
  refine⟨rfl,fun _=>rfl,fun f hf=>?_⟩
  obtain⟨i,hi⟩:=List.mem_iff_getElem?.1 (show f∈e.names.zip ts from hf)
  rw[List.getElem?_zip_eq_some] at hi
  have hiw:i < ws.length:=by rw[hws.1];exact (List.getElem?_eq_some_iff.1 hi.2).1
  exact⟨ws[i],oC hpw hi.1 (List.getElem?_eq_getElem hiw),hws.2 i f.2 ws[i] hi.2 (List.getElem?_eq_getElem hiw)⟩
 ·obtain⟨x,hl⟩:=qi hl
  obtain⟨ts,k,h1,h2⟩:=bind_ok (gM hf (by omega) (by omega) (by omega) (by omega) (by omega))
  rw[hl] at h1
  obtain⟨t1,rfl,h3⟩:=AQ h1
  rw[hl] at ha
  simp only[List.all_cons,List.all_nil,Bool.and_true] at ha
  have s1:=H ls x n k t1 ha h3 ns vs hs
  obtain⟨hp,rfl⟩:=gO h2
  have a0:e.args[0]! = x:=by rw[hl];rfl
  have hp:(match bQ (fun z:bP=>z.1== e.s) t1.fields with | some z=>some z.2 | none=>none)=some t:=by
   rw[← hp];unfold bO
   simp only[o,Int.reduceEq,or_self,if_false,if_true]
   rfl
  split at hp
  ·rename_i z hz
   cases hp
   have hz':=jf hz
   simp[aW,o,hl]
   refine eg s1 fun v hv=>?_
   rw[dO] at hv
   obtain⟨w,g1,g2⟩:=hv.2.2 z hz'.1
   rw[beq_iff_eq.1 hz'.2] at g1
   rw[g1]
   simp only[if_pos (hv.1.trans (hv.2.1 (List.ne_nil_of_mem hz'.1)))]
   exact gy g2
  ·cases hp
 ·have hf:(match cY (C own) e with
    | none=>dI.er 12
    | some s=>if s.1.length=e.args.length then .bind (dm (bI (C own) d ls) e.args) fun l=>if iz bR l s.1=true then fun n=>.ok s.2.1 (nV n s.2.2) else .er 13 else .er 13) n= .ok t n':=by
   rw[← hf];unfold cr;rw[if_neg (by omega),if_neg (by omega),if_neg (by omega),if_pos o]
   rfl
  cases hcs:cY (C own) e with
  | none=>rw[hcs] at hf;cases hf
  | some s=>
   rw[hcs] at hf
   dsimp only at hf
   split at hf
   ·rename_i hlen
    obtain⟨ts,k,h1,h2⟩:=bind_ok hf
    split at h2
    ·rename_i hbl
     cases h2
     obtain⟨f,f1,f2,f3,f4,f5⟩:=W.call own e s hcs
     obtain⟨g1,g2⟩:=L ha h1
     have hpl:e.args.length=f.params.length:=by rw[← hlen,← f3,List.length_map]
     simp[aW,o]
     unfold mG
     simp only
     have f1':=f1
     simp only[f1,if_pos f2,if_pos hpl]
     refine eg (gq g2 (qo _ _) fun _ h=>h) fun l hlv=>?_
     rw[← f5,← f4]
     obtain⟨w1,w2,_⟩:=W.fn _ _ f f1
     obtain⟨b1,b2⟩:=oq hbl
     refine gq (ya W hg f1 (by rw[hlv.1,b1,← f3,List.length_map]) fun i z v hz hv=>?_) (Bj _ _) fun _ h=>h
     have hi:i < ts.length:=by rw[← hlv.1];exact (List.getElem?_eq_some_iff.1 hv).1
     have hz':s.1[i]? = some z.2:=by rw[← f3,List.getElem?_map,hz];rfl
     exact kd 4 ts[i] z.2 v (w1 z (List.mem_of_getElem? hz)) (b2 i _ _ (List.getElem?_eq_getElem hi) hz') (hlv.2 i _ v (List.getElem?_eq_getElem hi) hv)
    ·cases h2
   ·cases hf
 ·obtain⟨x,hl⟩:=qi hl
  have hf:dI.bind (dm (bI (C own) d ls) e.args) (fun l n=>match bO e l with | some t=>.ok t (if e.op=16 then nV n e.n else n) | none=>.er 13 (if e.op=16 then nV n e.n else n)) n= .ok t n':=by
   rw[← hf];unfold cr;rw[if_neg (by omega),if_neg (by omega),if_neg (by omega),if_neg (by omega)];rfl
  obtain⟨ts,k,h1,h2⟩:=bind_ok hf
  rw[hl] at h1
  obtain⟨t1,rfl,h3⟩:=AQ h1
  rw[hl] at ha
  simp only[List.all_cons,List.all_nil,Bool.and_true] at ha
  have s1:=H ls x n k t1 ha h3 ns vs hs
  have hk:n'=nV k e.n∧bO e [t1]=some t:=by
   split at h2 <;> cases h2
   exact⟨by rw[if_pos o],‹_›⟩
  obtain⟨rfl,hp⟩:=hk
  have a0:e.args[0]! = x:=by rw[hl];rfl
  have hp':t1.kind=0∧t= .mk 0 []:=by
   simp[bO,o,jt] at hp;exact⟨hp.1,hp.2.symm⟩
  obtain⟨q1,rfl⟩:=hp'
  simp[aW,o,hl]
  unfold sF
  refine eg (gq s1 (qo _ _) fun _ h=>h) fun v hv=>?_
  rw[if_pos (((dO t1 v).1 hv).1.trans q1),if_pos hn]
  intro m hm
  exact⟨hm,⟨[⟨e.n,v.n,m.world.headD 0⟩],rfl,(fun d hd=>by rw[List.mem_singleton] at hd;subst hd;exact⟨Bj _ _,hn⟩)⟩,(fun e s h=>by cases h),fun a s h=>by cases h;exact nG _⟩
 ·have hf:(match bQ (fun z:bP=>z.1== e.s) (C own).vars with
    | none=>dI.er 12
    | some z=>if e.op=18 then .bind (bI (C own) d ls e.args[0]!) fun u=>if bR u z.2=true then .ok z.2 else .er 13 else .ok z.2) n= .ok t n':=by
   rw[← hf];unfold cr;rw[if_neg (by omega),if_neg (by omega),if_pos (.inl o)]
   rfl
  cases hz:bQ (fun z:bP=>z.1== e.s) (C own).vars with
  | none=>rw[hz] at hf;cases hf
  | some z=>
   rw[hz] at hf
   dsimp only at hf
   rw[if_neg (by omega)] at hf
   cases hf
   obtain⟨w1,w2,i,w3,w4,_⟩:=W.var own e.s z hz
   simp[aW,o,hl]
   unfold sq
   rw[if_neg w1]
   simp only[w3]
   rw[if_neg (by omega),if_neg (by omega)]
   intro m hm
   exact gy (p:=p) (b:=n) (by rw[Int.toNat_natCast];exact JZ hm w2 w4) m hm
 ·obtain⟨x,hl⟩:=qi hl
  have a0:e.args[0]! = x:=by rw[hl];rfl
  have hf:(match bQ (fun z:bP=>z.1== e.s) (C own).vars with
    | none=>dI.er 12
    | some z=>if e.op=18 then .bind (bI (C own) d ls e.args[0]!) fun u=>if bR u z.2=true then .ok z.2 else .er 13 else .ok z.2) n= .ok t n':=by
   rw[← hf];unfold cr;rw[if_neg (by omega),if_neg (by omega),if_pos (.inr o)]
   rfl
  cases hz:bQ (fun z:bP=>z.1== e.s) (C own).vars with
  | none=>rw[hz] at hf;cases hf
  | some z=>
   rw[hz] at hf
   dsimp only at hf
   rw[if_pos o,a0] at hf
   obtain⟨u,k,h1,h2⟩:=bind_ok hf
   split at h2
   ·rename_i hb
    cases h2
    rw[hl] at ha
    simp only[List.all_cons,List.all_nil,Bool.and_true] at ha
    obtain⟨w1,w2,i,w3,w4,w5⟩:=W.var own e.s z hz
    have g1:¬ (aW e.op= -2∨(aW e.op≠-1∧aW e.op≠e.args.length)):=by rw[hl,o];simp[aW]
    simp[aW,o,hl]
    unfold sq
    rw[if_neg w1]
    simp only[w3]
    rw[if_neg (by omega),if_pos o,a0]
    refine eg (H ls x n n' u ha h1 ns vs hs) fun v hv m hm=>?_
    have hv':=kd 4 u z.2 v w5 hb hv
    exact⟨Ko hm (by rw[Int.toNat_natCast];exact w4) hv',⟨[],by simp[X.upd,X.ok,Rs.st],by simp⟩,(fun e s h=>by cases h),fun a s h=>by cases h;exact hv'⟩
   ·cases h2
theorem sound{p:List Mod}{C:Int→Tcx}(W:Wt p C):∀(g:Nat)(own:Int)(d:Nat),K7 p g (C own) own d
 | 0,_,_=>fun _ _ _ _ _ _ _ _ _ _=>Be (.inl rfl)
 | g + 1,own,0=>fun _ _ _ _ _ h=>by cases h
 | g + 1,own,d + 1=>Gq W (sound W g) own d
def Bv(p:List Mod):List yx:=p.flatMap fun m=>m.funcs.map fun f=>(m.name,f.name)
theorem uR:{l:List (aU×Int)} →(cj l).2=0→∀ x∈l,x.2=0
 | [],_,x,hx=>by cases hx
 | y:: l,h,x,hx=>by
  unfold cj at h
  split at h
  ·rename_i hy
   rcases List.mem_cons.1 hx with rfl | hx
   ·exact hy
   ·exact uR h x hx
  ·rename_i hy
   exact absurd h hy
theorem lH{α:Type}(key:α→aU):{l:List α} →(l.map key).Nodup→∀ {x},x∈l→l.find? (fun y=>key y== key x)=some x
 | [],_,x,hx=>by cases hx
 | y:: l,hn,x,hx=>by
  rw[List.map_cons,List.nodup_cons] at hn
  rcases List.mem_cons.1 hx with rfl | hx
  ·rw[List.find?_cons_of_pos (by simp)]
  ·have:(key y== key x)=false:=beq_eq_false_iff_ne.2 fun h=>hn.1 (by rw[h];exact List.mem_map_of_mem hx)
   rw[List.find?_cons]
   simp only[this]
   exact lH key hn.2 hx
def hasB:Nat→Val→Ty→Bool
 | 0,_,_=>false
 | d + 1,v,t=>v.kind== t.kind&&t.fields.all fun f=>(v.names.zip v.values).any fun x=>x.1== f.1&&hasB d x.2 f.2
theorem oJ(d:Nat)(v:Val)(t:Ty):hasB (d + 1) v t=(v.kind== t.kind&&t.fields.all fun f=>(v.names.zip v.values).any fun x=>x.1== f.1&&hasB d x.2 f.2):=rfl
theorem qV{s:aU}{w:Val}:{ns:List aU} →{ws:List Val} →ek ns ws s=some w→(s,w)∈ns.zip ws
 | n:: ns,x:: ws,h=>by
  unfold ek at h
  split at h
  ·rename_i e;cases h;subst e;simp
  ·simp only[List.zip_cons_cons,List.mem_cons]
   exact .inr (qV h)
 | [],_,h=>by simp[ek] at h
 | _:: _,[],h=>by simp[ek] at h
theorem I7:∀(d k:Nat)(t:Ty)(v:Val),dw d t=true→eX t v→hasB (d + k) v t=true
 | 0,_,_,_,h,_=>by cases h
 | d + 1,k,t,v,h,hv=>by
  rw[fg] at h
  rw[dO] at hv
  simp only[Bool.and_eq_true,List.all_eq_true,Bool.or_eq_true,beq_iff_eq] at h
  rw[show d + 1 + k=(d + k) + 1 by omega,oJ]
  simp only[Bool.and_eq_true,List.all_eq_true,beq_iff_eq,List.any_eq_true]
  refine⟨hv.1,fun f hf=>?_⟩
  obtain⟨x,h1,h2⟩:=hv.2.2 f hf
  exact⟨(f.1,x),qV h1,rfl,I7 d k f.2 x (h.2.1 f hf).2 h2⟩
theorem IY:(l:List aU)→sA l=kC aT l
 | []=>rfl
 | [_]=>rfl
 | x:: y:: l=>by simp only[sA,kC,IY (y:: l)]
theorem EH(l:List aU)(h:sA l=true):l.Pairwise fun x y=>aT x y=true:=ou (Q:=aT) (nm:=fun s=>s) (fun _ _ h=>h) l (by rw[← IY];exact h)
theorem Fa{d:Nat}{v:Val}(h:bA (d + 1) v=true):sA v.names=true∧∀ x∈v.values,bA d x=true:=by
 unfold bA at h
 split at h
 ·simp only[Bool.and_eq_true,beq_iff_eq] at h
  have h1:v.names=[]:=List.eq_nil_of_length_eq_zero h.1.1
  have h2:v.values=[]:=List.eq_nil_of_length_eq_zero h.1.2
  rw[h1,h2]
  exact⟨rfl,fun x hx=>by cases hx⟩
 ·simp only[Bool.and_eq_true,List.all_eq_true] at h
  exact⟨h.1.2,h.2⟩
theorem Ij:∀(k d n:Nat)(t:Ty)(v:Val),dw d t=true→bA n v=true→hasB k v t=true→eX t v
 | 0,_,_,_,_,_,_,h=>by cases h
 | _ + 1,0,_,_,_,h,_,_=>by cases h
 | _ + 1,_ + 1,0,_,_,_,h,_=>by cases h
 | k + 1,d + 1,n + 1,t,v,hr,hf,hb=>by
  rw[fg] at hr
  simp only[Bool.and_eq_true,List.all_eq_true,Bool.or_eq_true,beq_iff_eq] at hr
  rw[oJ] at hb
  simp only[Bool.and_eq_true,List.all_eq_true,beq_iff_eq,List.any_eq_true] at hb
  obtain⟨f1,f2⟩:=Fa hf
  rw[dO]
  refine⟨hb.1,fun hne=>?_,fun f hff=>?_⟩
  ·rcases hr.1.2 with h1 | h1
   ·exact h1
   ·exact absurd (List.eq_nil_of_length_eq_zero h1) hne
  ·obtain⟨x,h1,h2,h3⟩:=hb.2 f hff
   obtain⟨i,hi,e⟩:=List.getElem_of_mem h1
   have hi1:i < v.names.length:=by simp at hi;omega
   have hi2:i < v.values.length:=by simp at hi;omega
   have e1:v.names[i]? = some f.1:=by
    rw[List.getElem?_eq_getElem hi1,← h2,← e]
    simp
   have e2:v.values[i]? = some x.2:=by
    rw[List.getElem?_eq_getElem hi2,← e]
    simp
   have hp:v.names.Pairwise fun x y=>aT x y=true:=EH v.names f1
   exact⟨x.2,oC hp e1 e2,Ij k d n f.2 x.2 (hr.2.1 f hff).2 (f2 _ (List.mem_of_getElem? e2)) h3⟩
theorem GJ:Wt [] (fun _=>p9) where
 call:=fun own e s h=>by
  unfold cY p9 at h
  split at h <;> simp at h
 fn:=fun a s f h=>by
  unfold f9 at h
  split at h
  ·cases h
  ·have hd:(default:Mod).funcs=[]:=rfl
   simp[kb,aZ,hd] at h
 var:=fun own s z h=>by cases h
theorem CF{ls:List bP}{e:Exp}{want:Ty}(h:dz ls e want=0):∃ t,bI p9 12 ls e 0= .ok t 0∧bR t want=true:=by
 unfold dz at h
 cases hx:bI p9 12 ls e 0 with
 | er b n=>rw[hx] at h;exact absurd h (g9 p9 12 ls e 0 b n hx)
 | ok t n=>
  rw[hx] at h
  simp only at h
  by_cases hn:n=0
  ·subst hn
   rw[if_neg (by simp)] at h
   by_cases hb:bR t want=true
   ·exact⟨t,rfl,hb⟩
   ·rw[if_neg hb] at h;cases h
  ·rw[if_pos hn] at h;cases h
theorem BV{e:Exp}{want:Ty}(hr:cH 12 e=true)(hw:bN want=true)(h:dz [] e want=0):(∀ c s,ny e [] []= .er c s→c=16∨c=6)∧∀ v s,ny e [] []= .ok v s→eX want v:=by
 obtain⟨t,h1,h2⟩:=CF h
 have S:=sound GJ 100000 (-1) 12 [] e 0 0 t hr h1 [] [] trivial
 have e0:ny e [] []=bm [] 100000 (-1) [] [] e (aX [] 100000 []):=by
  unfold ny
  rw[if_pos (by simp)]
 have hst:Im [] (aX [] 100000 []).state:=⟨rfl,fun i m l h=>by simp at h⟩
 obtain⟨_,_,s1,s2⟩:=S (aX [] 100000 []) hst
 rw[e0]
 exact⟨fun c s h=>s1 c s h,fun v s h=>kd 4 t want v hw h2 (s2 v s h)⟩
theorem rm:(es:List Exp)→(zs:List bP)→es.length=zs.length→(∀ e∈es,cH 12 e=true)→(∀ z∈zs,bN z.2=true)→(∀ x∈ff [] zs es,x.2=0)→(∀ c,iI es= .error c→c=16∨c=6)∧∀ vs,iI es= .ok vs→vs.length=zs.length∧∀(k:Nat)(z:bP)(v:Val),zs[k]? = some z→vs[k]? = some v→eX z.2 v
 | [],[],_,_,_,_=>⟨(fun c h=>by cases h),fun vs h=>by cases h;exact⟨rfl,fun k z v h=>by simp at h⟩⟩
 | e:: es,z:: zs,hl,hr,hz,hp=>by
  obtain⟨a1,a2⟩:=BV (hr e List.mem_cons_self) (hz z List.mem_cons_self) (hp (z.1,dz [] e z.2) (by simp[ff]))
  obtain⟨b1,b2⟩:=rm es zs (by simpa using hl) (fun x hx=>hr x (List.mem_cons_of_mem _ hx)) (fun x hx=>hz x (List.mem_cons_of_mem _ hx)) (fun x hx=>hp x (by unfold ff at hx ⊢;exact List.mem_cons_of_mem _ hx))
  unfold iI
  cases hx:ny e [] [] with
  | er c s=>exact⟨fun c' h=>by cases h;exact a1 _ _ hx,fun vs h=>by cases h⟩
  | ok v s=>
   cases hi:iI es with
   | error c=>exact⟨fun c' h=>by cases h;exact b1 _ hi,fun vs h=>by cases h⟩
   | ok vs=>
    obtain⟨c1,c2⟩:=b2 vs hi
    refine⟨fun c' h=>(by cases h),fun ws h=>?_⟩
    cases h
    refine⟨by simp[c1],fun k z' v' h1 h2=>?_⟩
    cases k with
    | zero=>simp at h1 h2;subst h1 h2;exact a2 _ _ hx
    | succ k=>exact c2 k z' v' (by simpa using h1) (by simpa using h2)
 | [],_:: _,hl,_,_,_=>by simp at hl
 | _:: _,[],hl,_,_,_=>by simp at hl
def C1(m:Mod):Prop:=m.init.length=m.vars.length∧(∀ e∈m.init,cH 12 e=true)∧(∀ z∈m.vars,bN z.2=true)∧∀ x∈ff [] m.vars m.init,x.2=0
theorem pF:(p:List Mod)→(∀ m∈p,C1 m)→(∀ c,eK p= .error c→c=16∨c=6)∧∀ st,eK p= .ok st→Im p (st.map (·.values))
 | [],_=>⟨(fun c h=>by cases h),fun st h=>by cases h;exact⟨rfl,fun i m l h=>by simp at h⟩⟩
 | m:: ms,hm=>by
  obtain⟨i1,i2,i3,i4⟩:=hm m List.mem_cons_self
  obtain⟨a1,a2⟩:=rm m.init m.vars i1 i2 i3 i4
  obtain⟨b1,b2⟩:=pF ms fun x hx=>hm x (List.mem_cons_of_mem _ hx)
  unfold eK
  rw[if_pos i1]
  cases hi:iI m.init with
  | error c=>exact⟨fun c' h=>by cases h;exact a1 _ hi,fun st h=>by cases h⟩
  | ok vs=>
   cases hf:eK ms with
   | error c=>exact⟨fun c' h=>by cases h;exact b1 _ hf,fun st h=>by cases h⟩
   | ok r=>
    refine⟨fun c' h=>(by cases h),fun st h=>?_⟩
    cases h
    obtain⟨c1,c2⟩:=b2 r hf
    refine⟨by simpa using c1,fun i m' l h1 h2=>?_⟩
    cases i with
    | zero=>simp at h1 h2;subst h1 h2;exact a2 vs hi
    | succ i=>exact c2 i m' l (by simpa using h1) (by simpa using h2)
theorem JC{d b:Int}(h:jM d b)(hd:d=1∨d=2∨d=4∨d=8):IntKind.i64.wrap (BitVec.ofInt 64 d &&& BitVec.ofInt 64 b).toNat=d:=by
 have h1:BitVec.ofInt 64 d &&& BitVec.ofInt 64 b=BitVec.ofInt 64 d:=by
  have h2:bv d ||| bv b=bv b:=h
  have h3:bv d &&& (bv d ||| bv b)=bv d:=by
   ext i hi
   simp only[BitVec.getElem_and,BitVec.getElem_or]
   cases (bv d)[i] <;> simp
  rw[h2] at h3
  exact h3
 rw[h1]
 rcases hd with rfl | rfl | rfl | rfl <;> rfl
end Go.Av.Ap
namespace Go.Av.Ap
open Go Go.Av
theorem lO{α:Type}{F:α→Bool}:∀(l:List α)(i:Int),0≤i→(l.find? F=none∧aZ F l i < 0)∨∃(k:Nat)(h:k < l.length),aZ F l i=i + k∧l.find? F=some l[k]
 | [],i,hi=>.inl ⟨rfl,by simp[aZ]⟩
 | x:: l,i,hi=>by
  by_cases hx:F x=true
  ·exact .inr ⟨0,by simp,by simp[aZ,hx],by simp[List.find?_cons,hx]⟩
  ·have hx':F x=false:=by simpa using hx
   rcases lO l (i + 1) (by omega) with ⟨h1,h2⟩ | ⟨k,hk,h1,h2⟩
   ·exact .inl ⟨by rw[List.find?_cons_of_neg (by simp[hx']),h1],by simp[aZ,hx'];exact h2⟩
   ·exact .inr ⟨k + 1,by simpa using hk,by simp[aZ,hx'];omega,by simp[List.find?_cons,hx',h2]⟩
theorem rc(p:List Mod)(M s:aU):f9 p (modAt p M) s=findR p (M,s):=by
 unfold f9 findR modAt
 rcases lO (F:=fun m:Mod=>m.name== M) p 0 (by omega) with ⟨h1,h2⟩ | ⟨k,hk,h1,h2⟩
 ·simp only[h1,if_pos h2]
 ·have h3:¬ (0 + (k:Int)) < 0:=by omega
  have h4:(0 + (k:Int)).toNat=k:=by omega
  simp only[h1,h2,if_neg h3,h4]
  have h5:(p[k]?.getD default).funcs=p[k].funcs:=by rw[List.getElem?_eq_getElem hk];rfl
  rw[h5]
  unfold kb
  rcases lO (F:=fun f:Fun=>f.name== s) p[k].funcs 0 (by omega) with ⟨g1,g2⟩ | ⟨j,hj,g1,g2⟩
  ·simp only[g1,if_pos g2]
  ·have g3:¬ (0 + (j:Int)) < 0:=by omega
   have g4:(0 + (j:Int)).toNat=j:=by omega
   simp only[g1,g2,if_neg g3,g4,List.getElem?_eq_getElem hj]
section
variable (R:yx→Prop) (E:Int→Prop)
variable {R E}
end
end Go.Av.Ap
namespace Go.Av.Ap
theorem bS{α β:Type}{m:M α}{f:α→M β}{h h':Hp}{a:α}(e:m h= .ok a h'):ae m f h=f a h':=by simp only[ae,e]
theorem Ar{α β:Type}{m:M α}{f:α→M β}{h h':Hp}{v:AV}(e:m h= .pan v h'):ae m f h= .pan v h':=by simp only[ae,e]
def bp(l:List Val):List AV:=l.flatMap fun v=>ab v.av
theorem iT(l:List Val):(bp l).length=l.length * 4:=by
 induction l with
 | nil=>rfl
 | cons v l ih=>simp only[bp,List.flatMap_cons,List.length_append] at ih ⊢;rw[ih];simp;omega
theorem kV{l:List Val}{k:Nat}(h:k < l.length):((bp l).drop (k * 4)).take 4=ab (l[k]).av:=by
 induction l generalizing k with
 | nil=>simp at h
 | cons v l ih=>
  cases k with
  | zero=>simp[bp]
  | succ k=>
   have:=ih (k:=k) (by simpa using h)
   simp only[bp,List.flatMap_cons] at this ⊢
   have e:(k + 1) * 4=(ab v.av).length + k * 4:=by simp;omega
   rw[e,List.drop_append,List.getElem_cons_succ]
   simp only[Nat.add_sub_cancel_left]
   rw[List.drop_of_length_le (by omega),List.nil_append]
   exact this
theorem vU{l:List Val}{k:Nat}(h:k < l.length)(v:Val):setCells (bp l) (k * 4) (ab v.av)=bp (l.set k v):=by
 induction l generalizing k with
 | nil=>simp at h
 | cons w l ih=>
  cases k with
  | zero=>
   simp only[setCells,bp,List.flatMap_cons,Nat.zero_mul,List.take_zero,List.nil_append,List.set_cons_zero]
   congr 1
   have:0 + (ab v.av).length=(ab w.av).length:=by simp
   rw[this,List.drop_left]
  | succ k=>
   have:=ih (k:=k) (by simpa using h)
   simp only[setCells,bp,List.flatMap_cons,List.set_cons_succ] at this ⊢
   have e:(k + 1) * 4=(ab w.av).length + k * 4:=by simp;omega
   have e2:(ab w.av).length + k * 4 + (ab v.av).length - (ab w.av).length=k * 4 + (ab v.av).length:=by omega
   have e3:(ab w.av).length + k * 4 - (ab w.av).length=k * 4:=by omega
   rw[e,List.take_append,List.drop_append,e2,e3,List.take_of_length_le (by omega),List.drop_of_length_le (by omega)]
   simp only[List.nil_append,List.append_assoc]
   congr 1
   rw[← List.append_assoc]
   exact this
def dA(l:List Deed):List AV:=l.flatMap fun d=>[.int .i64 d.effect,.int .i64 d.arg,.int .i64 d.answer]
def sC(tag:Nat→Nat)(k:Nat)(h:Hp)(l:List Val)(v:AV):Prop:=v=vals l∨∃ r,v= .hs r 0 l.length 4 true∧tag r=k∧h[r]? = some (bp l)
def eS(tag:Nat→Nat)(h:Hp):List Call→List AV→Prop
 | [],cs=>cs=[]
 | c:: l,cs=>∃ av rest,cs= .str c.module:: .str c.func:: av:: rest∧sC tag 4 h c.args av∧eS tag h l rest
def cy(tag:Nat→Nat)(h:Hp):Nat→List aU→List (List Val)→List AV→Prop
 | _,[],[],cs=>cs=[]
 | i,n:: ns,l:: st,cs=>∃ av rest,cs= .str n:: av:: rest∧((l=[]∧av= .sl [])∨∃ r,av= .hs r 0 l.length 4 true∧tag r=6 + i∧h[r]? = some (bp l))∧cy tag h (i + 1) ns st rest
 | _,_,_,_=>False
def Al(tag:Nat→Nat)(k sz n:Nat)(cells:List AV→Prop)(v:AV)(h:Hp):Prop:=(n=0∧v= .hn)∨∃ q cs,v= .hs q 0 n sz true∧0 < n∧tag q=k∧h[q]? = some cs∧cs.length=n * sz∧cells cs
structure SNm where
 names:List aU
 sv:AV
 cells:List AV
 told:Bool
structure RepT (row:Ms→AV→AV→AV→List AV) (nm:SNm) (tag:Nat→Nat) (dv cv sv:AV) (m:Ms) (h:Hp):Prop where
 r0:h[0]? = some (row m dv cv sv)
 t0:tag 0=0
 ds:Al tag 2 3 m.deeds.length (fun cs=>cs=dA m.deeds) dv h
 cs:Al tag 3 3 m.calls.length (fun cs=>eS tag h m.calls cs) cv h
 st:Al tag 5 2 m.state.length (fun cs=>cs=nm.cells∧cy tag h 0 nm.names m.state cs) sv h
 sve:sv=nm.sv
 wok:nm.told=true→m.world=[]
def NH(row:Ms→AV→AV→AV→List AV)(nm:SNm)(m:Ms)(h:Hp):Prop:=∃ tag dv cv sv,RepT row nm tag dv cv sv m h
def Kp(tag tag':Nat→Nat)(ks:Nat→Prop)(h h':Hp):Prop:=∀ r cs,h[r]? = some cs→¬ ks (tag r)→h'[r]? = some cs∧tag' r=tag r
theorem sC.keep{tag tag':Nat→Nat}{ks:Nat→Prop}{h h':Hp}(K:Kp tag tag' ks h h'){k:Nat}(hk:¬ ks k){l:List Val}{v:AV}(H:sC tag k h l v):sC tag' k h' l v:=by
 rcases H with H | ⟨r,h1,h2,h3⟩
 ·exact .inl H
 ·have:=K r _ h3 (by rw[h2];exact hk)
  exact .inr ⟨r,h1,this.2.trans h2,this.1⟩
theorem eS.keep{tag tag':Nat→Nat}{ks:Nat→Prop}{h h':Hp}(K:Kp tag tag' ks h h')(hk:¬ ks 4):{l:List Call} →{cs:List AV} →eS tag h l cs→eS tag' h' l cs
 | [],_,H=>H
 | _:: _,_,⟨av,rest,h1,h2,h3⟩=>⟨av,rest,h1,h2.keep K hk,h3.keep K hk⟩
theorem cy.keep{tag tag':Nat→Nat}{ks:Nat→Prop}{h h':Hp}(K:Kp tag tag' ks h h')(hk:∀ i,¬ ks (6 + i)):{i:Nat} →{nm:List aU} →{st:List (List Val)} →{cs:List AV} →cy tag h i nm st cs→cy tag' h' i nm st cs
 | _,[],[],_,H=>H
 | i,_:: _,_:: _,_,⟨av,rest,h1,h2,h3⟩=>⟨av,rest,h1,by
   rcases h2 with h2 | ⟨r,g1,g2,g3⟩
   ·exact .inl h2
   ·have:=K r _ g3 (by rw[g2];exact hk i)
    exact .inr ⟨r,g1,this.2.trans g2,this.1⟩,cy.keep K hk h3⟩
 | _,[],_:: _,_,H=>H.elim
 | _,_:: _,[],_,H=>H.elim
theorem Al.keep{tag tag':Nat→Nat}{ks:Nat→Prop}{h h':Hp}(K:Kp tag tag' ks h h'){k sz n:Nat}{c c':List AV→Prop}{v:AV}(hk:¬ ks k)(hc:∀ cs,c cs→c' cs)(H:Al tag k sz n c v h):Al tag' k sz n c' v h':=by
 rcases H with H | ⟨q,cs,h1,h2,h3,h4,h5,h6⟩
 ·exact .inl H
 ·have:=K q _ h4 (by rw[h3];exact hk)
  exact .inr ⟨q,cs,h1,h2,this.2.trans h3,this.1,h5,hc _ h6⟩
theorem RepT.set0{row:Ms→AV→AV→AV→List AV}{nm:SNm}{tag:Nat→Nat}{dv cv sv:AV}{m m':Ms}{h:Hp}(R:RepT row nm tag dv cv sv m h)(h1:m'.deeds=m.deeds)(h2:m'.calls=m.calls)(h3:m'.state=m.state)(h4:m.world=[]→m'.world=[]):
  RepT row nm tag dv cv sv m' (h.set 0 (row m' dv cv sv)):=by
 have hlt:0 < h.length:=(List.getElem?_eq_some_iff.1 R.r0).1
 have K:Kp tag tag (fun k=>k=0) h (h.set 0 (row m' dv cv sv)):=fun r cs hr hk=>by
  have:r≠0:=fun e=>hk (by rw[e];exact R.t0)
  exact⟨by rw[List.getElem?_set_ne (Ne.symm this)];exact hr,rfl⟩
 refine⟨by rw[List.getElem?_set_self hlt],R.t0,?_,?_,?_,R.sve,fun t=>h4 (R.wok t)⟩
 ·rw[h1];exact R.ds.keep K (by decide) fun _ h=>h
 ·rw[h2];exact R.cs.keep K (by decide) fun _ h=>h.keep K (by decide)
 ·rw[h3];exact R.st.keep K (by decide) fun _ h=>⟨h.1,h.2.keep K (by omega)⟩
theorem RepT.more{row:Ms→AV→AV→AV→List AV}{nm:SNm}{tag:Nat→Nat}{dv cv sv:AV}{m:Ms}{h:Hp}(R:RepT row nm tag dv cv sv m h)(x:List AV)(k:Nat):
  RepT row nm (fun i=>if i=h.length then k else tag i) dv cv sv m (h++[x])∧Kp tag (fun i=>if i=h.length then k else tag i) (fun _=>False) h (h++[x]):=by
 have K:Kp tag (fun i=>if i=h.length then k else tag i) (fun _=>False) h (h++[x]):=fun r cs hr _=>by
  have hlt:r < h.length:=(List.getElem?_eq_some_iff.1 hr).1
  exact⟨by rw[List.getElem?_append_left hlt];exact hr,by simp only;rw[if_neg (by omega)]⟩
 exact⟨⟨(K 0 _ R.r0 id).1,(K 0 _ R.r0 id).2.trans R.t0,R.ds.keep K id fun _ h=>h,R.cs.keep K id fun _ h=>h.keep K id,R.st.keep K id fun _ h=>⟨h.1,h.2.keep K (fun _=>id)⟩,R.sve,R.wok⟩,K⟩
theorem Kp.kill{tag:Nat→Nat}{h:Hp}{q:Nat}{k:Nat}(hq:tag q=k)(x:List AV):Kp tag tag (fun j=>j=k) h (h.set q x):=fun r cs hr hk=>by
 have:r≠q:=fun e=>hk (by rw[e];exact hq)
 exact⟨by rw[List.getElem?_set_ne (Ne.symm this)];exact hr,rfl⟩
theorem dc{T:TT}{t:Nat}{ti:TI}(ht:T t=some ti)(ha:ti.agg=false){h:Hp}{l k:Nat}{cs:List AV}{v:AV}(h0:h[l]? = some cs)(h1:cs[k]? = some v):aR T t (.hp l k) h= .ok v h:=by
 simp[aR,ht,h0,ha,h1]
theorem oN{T:TT}{t:Nat}{ti:TI}(ht:T t=some ti)(ha:ti.agg=true){h:Hp}{l k:Nat}{cs:List AV}(h0:h[l]? = some cs)(hle:k + ti.size≤cs.length):aR T t (.hp l k) h= .ok (.agg ((cs.drop k).take ti.size)) h:=by
 simp[aR,ht,h0,ha,hle]
theorem fp{T:TT}{t:Nat}{ti:TI}(ht:T t=some ti){h:Hp}{l k:Nat}{cs:List AV}{v:AV}(h0:h[l]? = some cs)(hv:cm ti.size v=true)(hle:k + ti.size≤cs.length)(hp:0 < ti.size):
  bo T t (.hp l k) v h= .ok (.tup []) (h.set l (setCells cs k (ab v))):=by
 simp[bo,ht,h0,hv,hle,hp]
theorem EC{T:TT}{t e:Nat}{ti ei:TI}(ht:T t=some ti)(hk:ti.kind= .slice e)(he:T e=some ei){x:AV}(hx:cm ei.size x=true)(hb:0 < ei.bytes)(hs:0 < ei.size)(hc:ei.bytes≤140737488355328)(h:Hp):
  appH T t false .hn (.sl [x]) h= .ok (.hs h.length 0 1 ei.size ei.agg) (h++[ab x]):=by
 have:db ei.size [x]=true:=by simp[db,hx]
 simp[appH,ht,hk,he,gu,this,hb,hs,jq,hc]
theorem ED{T:TT}{t e:Nat}{ti ei:TI}(ht:T t=some ti)(hk:ti.kind= .slice e)(he:T e=some ei){x:AV}(hx:cm ei.size x=true)(hb:0 < ei.bytes)(hs:0 < ei.size){h:Hp}{q n:Nat}{cs:List AV}(h0:h[q]? = some cs) (hok:cs.all aO=true)
  (hl:cs.length=n * ei.size) (hn:0 < n) (hc:(n + 1) * ei.bytes≤140737488355328):appH T t false (.hs q 0 n ei.size ei.agg) (.sl [x]) h= .ok (.hs h.length 0 (n + 1) ei.size ei.agg) ((h.set q [])++[cs++ab x]):=by
 have h1:db ei.size [x]=true:=by simp[db,hx]
 have h2:List.all cs aO=true:=hok
 simp only[appH,ht,hk,he,gu,h1,hb,hs,jq,h0,h2,hl,hn,decide_true,Bool.and_self,cond_true,beq_self_eq_true,List.length_singleton,List.isEmpty_cons,cond_false,List.flatMap_cons,List.flatMap_nil,List.append_nil]
 have h5:cs.take (n * ei.size)=cs:=List.take_of_length_le (by omega)
 have h6:0 < n * ei.size:=Nat.mul_pos hn hs
 rw[decide_eq_true hc,h5]
 simp[h6]
theorem po{T:TT}{t e:Nat}{ti ei:TI}(ht:T t=some ti)(hk:ti.kind= .slice e)(he:T e=some ei)(h4:ei.size=4)(hag:ei.agg=true)(hb:0 < ei.bytes)(call:FuncId→List AV→M AV)(l:List Val)(hc:l.length * ei.bytes≤140737488355328)(h:Hp):
  di T t call [vals l] h=if l=[] then .ok (vals []) h else .ok (.hs h.length 0 l.length 4 true) (h++[bp l]):=by
 have h1:db 4 (eF l)=true:=Cz l
 have hlen:(eF l).length=l.length:=by simp[cI]
 have hfl:(eF l).flatMap ab=bp l:=by simp[cI,bp,List.flatMap_map]
 cases l with
 | nil=>simp[di,appH,ht,hk,he,gu,hb,h4,jq,vals,eF,db]
 | cons v l=>
  have hne:(eF (v:: l)).isEmpty=false:=rfl
  unfold di vals appH
  simp only[ht,hk,he,gu,h4,h1,hb,jq,decide_true,Bool.and_self,Bool.and_true,cond_true,hne,cond_false,hlen,hfl,hag]
  rw[decide_eq_true hc]
  simp
theorem eS.ok{tag:Nat→Nat}{h:Hp}:{l:List Call} →{cs:List AV} →eS tag h l cs→cs.all aO=true∧cs.length=l.length * 3
 | [],cs,H=>by cases H;exact⟨rfl,rfl⟩
 | c:: l,_,⟨av,rest,h1,h2,h3⟩=>by
  subst h1
  obtain⟨g1,g2⟩:=h3.ok
  have:aO av=true:=by
   rcases h2 with rfl | ⟨r,rfl,_⟩ <;> rfl
  refine⟨?_,by simp[g2];omega⟩
  rw[List.all_cons,List.all_cons,List.all_cons,this,g1]
  rfl
theorem eS.snoc{tag:Nat→Nat}{h:Hp}{c:Call}{av:AV}(ha:sC tag 4 h c.args av):{l:List Call} →{cs:List AV} →eS tag h l cs→eS tag h (l++[c]) (cs++[.str c.module,.str c.func,av])
 | [],cs,H=>by cases H;exact⟨av,[],rfl,ha,rfl⟩
 | d:: l,_,⟨av',rest,h1,h2,h3⟩=>⟨av',rest++[.str c.module,.str c.func,av],by rw[h1];rfl,h2,eS.snoc ha h3⟩
theorem uN(l:List Deed):(dA l).all aO=true:=by simp[dA,aO]
theorem cy.at{tag:Nat→Nat}{h:Hp}:{i:Nat} →{nm:List aU} →{st:List (List Val)} →{cs:List AV} →cy tag h i nm st cs→∀(j:Nat)(l:List Val),st[j]? = some l→
  ∃ av,cs[j * 2 + 1]? = some av∧((l=[]∧av= .sl [])∨∃ r,av= .hs r 0 l.length 4 true∧tag r=6 + (i + j)∧h[r]? = some (bp l))
 | _,[],[],_,_,j,l,hj=>by simp at hj
 | i,_:: _,_:: _,_,⟨av,rest,h1,h2,h3⟩,j,l,hj=>by
  subst h1
  cases j with
  | zero=>simp at hj;subst hj;exact⟨av,rfl,h2⟩
  | succ j=>
   obtain⟨av',g1,g2⟩:=h3.at j l (by simpa using hj)
   refine⟨av',?_,?_⟩
   ·rw[show (j + 1) * 2 + 1=j * 2 + 1 + 2 by omega];simpa using g1
   ·rw[show i + (j + 1)=i + 1 + j by omega];exact g2
 | _,[],_:: _,_,H,_,_,_=>H.elim
 | _,_:: _,[],_,H,_,_,_=>H.elim
theorem cy.len{tag:Nat→Nat}{h:Hp}:{i:Nat} →{nm:List aU} →{st:List (List Val)} →{cs:List AV} →cy tag h i nm st cs→nm.length=st.length
 | _,[],[],_,_=>rfl
 | _,_:: _,_:: _,_,⟨_,_,_,_,h3⟩=>by simp[h3.len]
 | _,[],_:: _,_,H=>H.elim
 | _,_:: _,[],_,H=>H.elim
theorem cy.set{tag:Nat→Nat}{h:Hp}{r k:Nat}{v:Val}:{i:Nat} →{nm:List aU} →{st:List (List Val)} →{cs:List AV} →cy tag h i nm st cs→∀(j:Nat)(l:List Val),st[j]? = some l→tag r=6 + (i + j)→h[r]? = some (bp l)→cs[j * 2 + 1]? = some (.hs r 0 l.length 4 true)→
  k < l.length→cy tag (h.set r (bp (l.set k v))) i nm (setSt st j k v) cs
 | _,[],[],_,_,j,l,hj,_,_,_,_=>by simp at hj
 | i, n:: ns,l0:: st,_,⟨av,rest,h1,h2,h3⟩,j,l,hj,ht,hr,hc,hk=>by
  subst h1
  have hlt:r < h.length:=(List.getElem?_eq_some_iff.1 hr).1
  cases j with
  | zero=>
   simp only[List.getElem?_cons_zero,Option.some.injEq] at hj
   subst hj
   simp only[Nat.zero_mul,Nat.zero_add,List.getElem?_cons_succ,List.getElem?_cons_zero,Option.some.injEq] at hc
   have e:setSt (l0:: st) 0 k v=l0.set k v:: st:=by simp[setSt]
   rw[e]
   refine⟨av,rest,rfl,.inr ⟨r,by rw[hc,List.length_set],ht,List.getElem?_set_self hlt⟩,?_⟩
   have K:Kp tag tag (fun t=>t=6 + i) h (h.set r (bp (l0.set k v))):=Kp.kill (by rw[ht];rfl) _
   have key:∀ {i':Nat} {nm':List aU} {st':List (List Val)} {cs':List AV},i < i'→cy tag h i' nm' st' cs'→cy tag (h.set r (bp (l0.set k v))) i' nm' st' cs':=by
    intro i' nm' st'
    induction st' generalizing i' nm' with
    | nil=>intro cs' hi H;cases nm' with
     | nil=>exact H
     | cons _ _=>exact H.elim
    | cons a st' ih=>intro cs' hi H;cases nm' with
     | nil=>exact H.elim
     | cons b nm'=>
      obtain⟨av2,rest2,k1,k2,k3⟩:=H
      refine⟨av2,rest2,k1,?_,ih (by omega) k3⟩
      rcases k2 with k2 | ⟨r2,g1,g2,g3⟩
      ·exact .inl k2
      ·have:=K r2 _ g3 (by rw[g2];omega)
       exact .inr ⟨r2,g1,g2,this.1⟩
   exact key (Nat.lt_succ_self i) h3
  | succ j=>
   have e:setSt (l0:: st) (j + 1) k v=l0:: setSt st j k v:=by simp[setSt]
   rw[e]
   have hc':rest[j * 2 + 1]? = some (.hs r 0 l.length 4 true):=by
    rw[show (j + 1) * 2 + 1=j * 2 + 1 + 2 by omega] at hc
    simpa using hc
   refine⟨av,rest,rfl,?_,h3.set j l (by simpa using hj) (by rw[ht];omega) hr hc' hk⟩
   rcases h2 with h2 | ⟨r2,g1,g2,g3⟩
   ·exact .inl h2
   ·have:r2≠r:=fun e=>by rw[e,ht] at g2;omega
    exact .inr ⟨r2,g1,g2,by rw[List.getElem?_set_ne (Ne.symm this)];exact g3⟩
 | _,[],_:: _,_,H,_,_,_,_,_,_,_=>H.elim
 | _,_:: _,[],_,H,_,_,_,_,_,_,_=>H.elim
theorem Kp.trans{a b c:Nat→Nat}{ks js:Nat→Prop}{h h1 h2:Hp}(K:Kp a b ks h h1)(J:Kp b c js h1 h2):Kp a c (fun k=>ks k∨js k) h h2:=fun r cs hr hk=>by
 obtain⟨k1,k2⟩:=K r cs hr fun h=>hk (.inl h)
 obtain⟨j1,j2⟩:=J r cs k1 fun h=>hk (.inr (by rwa [k2] at h))
 exact⟨j1,j2.trans k2⟩
theorem Kp.new(tag:Nat→Nat)(h:Hp)(x:List AV)(k:Nat):Kp tag (fun i=>if i=h.length then k else tag i) (fun _=>False) h (h++[x]):=fun r cs hr _=>by
 have hlt:r < h.length:=(List.getElem?_eq_some_iff.1 hr).1
 exact⟨by rw[List.getElem?_append_left hlt];exact hr,by simp only;rw[if_neg (by omega)]⟩
theorem Kp.mono{a b:Nat→Nat}{ks js:Nat→Prop}{h h1:Hp}(K:Kp a b ks h h1)(hj:∀ k,ks k→js k):Kp a b js h h1:=fun r cs hr hk=>K r cs hr fun h=>hk (hj _ h)
theorem rP{T:TT}{t e:Nat}{ti ei:TI}(ht:T t=some ti)(hk:ti.kind= .slice e)(he:T e=some ei){sz:Nat}(h3:ei.size=sz)(hsz:0 < sz)(hag:ei.agg=true)(hb:0 < ei.bytes){tag:Nat→Nat}{k n:Nat}{P:List AV→Prop}{v x:AV} {h:Hp}
  (H:Al tag k sz n P v h) (hP0:n=0→P []) (hok:∀ cs,P cs→cs.all aO=true) (hx:cm sz x=true) (hc:(n + 1) * ei.bytes≤140737488355328):
  ∃ h1 v' tag',appH T t false v (.sl [x]) h= .ok v' h1∧Kp tag tag' (fun j=>j=k) h h1∧Al tag' k sz (n + 1) (fun cs'=>∃ cs,P cs∧cs'=cs++ab x) v' h1∧aO v'=true:=by
 have hxl:(ab x).length=sz:=by
  unfold cm at hx
  simp only[Bool.and_eq_true,beq_iff_eq] at hx
  have h1:=hx.1
  cases x <;> simp only[cL,Option.some.injEq,reduceCtorEq] at h1 <;> simp only[ab,List.length_singleton] <;> exact h1
 have hx':cm ei.size x=true:=by rw[h3];exact hx
 rcases H with ⟨hn,rfl⟩ | ⟨q,cs,rfl,hn,hq,hcs,hl,hp⟩
 ·subst hn
  refine⟨_,_,_,EC ht hk he hx' hb (by omega) (by omega) h,(Kp.new tag h (ab x) k).mono fun _ h=>h.elim,.inr ⟨h.length,ab x,by rw[h3,hag],by omega,by simp,by simp,by simpa using hxl,[],hP0 rfl,rfl⟩,rfl⟩
 ·have e1:=ED ht hk he hx' hb (by omega) hcs (hok cs hp) (by rw[h3];exact hl) hn hc
  rw[h3,hag] at e1
  have K1:Kp tag tag (fun j=>j=k) h (h.set q []):=Kp.kill hq []
  have K2:=Kp.new tag (h.set q []) (cs++ab x) k
  refine⟨_,_,_,e1,(K1.trans K2).mono fun j h=>h.elim id False.elim,.inr ⟨h.length,cs++ab x,rfl,by omega,by simp,?_,by rw[List.length_append,hl,hxl,Nat.add_mul,Nat.one_mul],cs,hp,rfl⟩,rfl⟩
  have:(h.set q []).length=h.length:=by simp
  rw[← this]
  simp
theorem RepT.pushDeed{row:Ms→AV→AV→AV→List AV}{nm:SNm}{tag tag':Nat→Nat}{dv dv' cv sv:AV}{m m':Ms}{h h1:Hp}{d:Deed}(R:RepT row nm tag dv cv sv m h) (K:Kp tag tag' (fun j=>j=2) h h1)
  (H:Al tag' 2 3 (m.deeds.length + 1) (fun cs'=>∃ cs,cs=dA m.deeds∧cs'=cs++ab d.av) dv' h1) (hd:m'.deeds=m.deeds++[d]) (hc:m'.calls=m.calls) (hs:m'.state=m.state) (h4:m.world=[]→m'.world=[]):RepT row nm tag' dv' cv sv m' (h1.set 0 (row m' dv' cv sv)):=by
 obtain⟨k1,k2⟩:=K 0 _ R.r0 (by rw[R.t0];decide)
 have hlt:0 < h1.length:=(List.getElem?_eq_some_iff.1 k1).1
 have t0:=k2.trans R.t0
 have K0:Kp tag' tag' (fun j=>j=0) h1 (h1.set 0 (row m' dv' cv sv)):=Kp.kill t0 _
 refine⟨List.getElem?_set_self hlt,t0,?_,?_,?_,R.sve,fun t=>h4 (R.wok t)⟩
 ·rw[hd,List.length_append]
  refine H.keep K0 (by decide) ?_
  rintro cs' ⟨cs,rfl,rfl⟩
  show dA m.deeds++[AV.int .i64 d.effect,.int .i64 d.arg,.int .i64 d.answer]=_
  simp[dA]
 ·rw[hc]
  exact (R.cs.keep K (c':=eS tag' h1 m.calls) (by decide) fun _ h=>h.keep K (by decide)).keep K0 (by decide) fun _ h=>h.keep K0 (by decide)
 ·rw[hs]
  exact (R.st.keep K (c':=fun cs=>cs=nm.cells∧cy tag' h1 0 nm.names m.state cs) (by decide) fun _ h=>⟨h.1,h.2.keep K (by omega)⟩).keep K0 (by decide) fun _ h=>⟨h.1,h.2.keep K0 (by omega)⟩
theorem RepT.pushCall{row:Ms→AV→AV→AV→List AV}{nm:SNm}{tag tag':Nat→Nat}{dv cv cv' sv:AV}{m m':Ms}{h h1:Hp}{c:Call}{av:AV}(R:RepT row nm tag dv cv sv m h)(K:Kp tag tag' (fun j=>j=3) h h1) (ha:sC tag 4 h c.args av)
  (H:Al tag' 3 3 (m.calls.length + 1) (fun cs'=>∃ cs,eS tag h m.calls cs∧cs'=cs++[.str c.module,.str c.func,av]) cv' h1) (hd:m'.deeds=m.deeds) (hc:m'.calls=m.calls++[c]) (hs:m'.state=m.state) (h4:m.world=[]→m'.world=[]):RepT row nm tag' dv cv' sv m' (h1.set 0 (row m' dv cv' sv)):=by
 obtain⟨k1,k2⟩:=K 0 _ R.r0 (by rw[R.t0];decide)
 have hlt:0 < h1.length:=(List.getElem?_eq_some_iff.1 k1).1
 have t0:=k2.trans R.t0
 have K0:Kp tag' tag' (fun j=>j=0) h1 (h1.set 0 (row m' dv cv' sv)):=Kp.kill t0 _
 refine⟨List.getElem?_set_self hlt,t0,?_,?_,?_,R.sve,fun t=>h4 (R.wok t)⟩
 ·rw[hd]
  exact (R.ds.keep K (c':=fun cs=>cs=dA m.deeds) (by decide) fun _ h=>h).keep K0 (by decide) fun _ h=>h
 ·rw[hc,List.length_append]
  refine H.keep K0 (by decide) ?_
  rintro cs' ⟨cs,hcs,rfl⟩
  exact ((hcs.keep K (by decide)).snoc (ha.keep K (by decide))).keep K0 (by decide)
 ·rw[hs]
  exact (R.st.keep K (c':=fun cs=>cs=nm.cells∧cy tag' h1 0 nm.names m.state cs) (by decide) fun _ h=>⟨h.1,h.2.keep K (by omega)⟩).keep K0 (by decide) fun _ h=>⟨h.1,h.2.keep K0 (by omega)⟩
theorem RepT.var{row:Ms→AV→AV→AV→List AV}{nm:SNm}{tag:Nat→Nat}{dv cv sv:AV}{m:Ms}{h:Hp}(R:RepT row nm tag dv cv sv m h)(hrow:∀ st,row { m with state:=st } dv cv sv=row m dv cv sv){i:Nat}{l:List Val}(hl:m.state[i]? = some l)(hne:l≠[]):
  ∃ q r,nm.sv= .hs q 0 m.state.length 2 true∧h[q]? = some nm.cells∧nm.cells[i * 2 + 1]? = some (.hs r 0 l.length 4 true)∧nm.cells.length=m.state.length * 2∧h[r]? = some (bp l)∧
   ∀(k:Nat)(v:Val),k < l.length→RepT row nm tag dv cv sv { m with state:=setSt m.state i k v } (h.set r (bp (l.set k v))):=by
 have hi:i < m.state.length:=(List.getElem?_eq_some_iff.1 hl).1
 rcases R.st with ⟨h0,_⟩ | ⟨q,cs,h1,h2,h3,h4,h5,rfl,h6⟩
 ·omega
 ·obtain⟨av,g1,g2⟩:=h6.at i l hl
  rcases g2 with ⟨g2,_⟩ | ⟨r,rfl,g3,g4⟩
  ·exact absurd g2 hne
  ·rw[Nat.zero_add] at g3
   refine⟨q,r,by rw[← R.sve,h1],h4,g1,h5,g4,fun k v hk=>?_⟩
   have K:Kp tag tag (fun j=>j=6 + i) h (h.set r (bp (l.set k v))):=Kp.kill g3 _
   refine⟨?_,R.t0,?_,?_,?_,R.sve,R.wok⟩
   ·rw[hrow];exact (K 0 _ R.r0 (by rw[R.t0];omega)).1
   ·exact R.ds.keep K (by omega) fun _ h=>h
   ·exact R.cs.keep K (by omega) fun _ h=>h.keep K (by omega)
   ·right
    have hq:r≠q:=fun e=>by rw[e,h3] at g3;omega
    refine⟨q,nm.cells,by rw[h1];simp[setSt],by simpa [setSt] using h2,h3,by rw[List.getElem?_set_ne hq];exact h4,by simpa [setSt] using h5,rfl,?_⟩
    exact h6.set i l hl (by rw[Nat.zero_add];exact g3) g4 g1 hk
theorem cy.snoc{tag:Nat→Nat}{h:Hp}{n:aU}{l:List Val}{av:AV}:{i:Nat} →{nm:List aU} →{st:List (List Val)} →{cs:List AV} →cy tag h i nm st cs→
  ((l=[]∧av= .sl [])∨∃ r,av= .hs r 0 l.length 4 true∧tag r=6 + (i + st.length)∧h[r]? = some (bp l))→cy tag h i (nm++[n]) (st++[l]) (cs++[.str n,av])
 | i,[],[],cs,H,ha=>by
  have H':cs=[]:=H
  subst H'
  exact⟨av,[],rfl,ha,rfl⟩
 | i,_:: _,l0:: st,_,⟨av',rest,h1,h2,h3⟩,ha=>by
  refine⟨av',rest++[.str n,av],by rw[h1];rfl,h2,h3.snoc ?_⟩
  rcases ha with ha | ⟨r,g1,g2,g3⟩
  ·exact .inl ha
  ·exact .inr ⟨r,g1,by rw[g2];simp;omega,g3⟩
 | _,[],_:: _,_,H,_=>H.elim
 | _,_:: _,[],_,H,_=>H.elim
theorem cy.ok{tag:Nat→Nat}{h:Hp}:{i:Nat} →{nm:List aU} →{st:List (List Val)} →{cs:List AV} →cy tag h i nm st cs→cs.all aO=true
 | _,[],[],cs,H=>by
  have H':cs=[]:=H
  subst H'
  rfl
 | _,_:: _,_:: _,_,⟨av,rest,h1,h2,h3⟩=>by
  subst h1
  have:aO av=true:=by
   rcases h2 with ⟨_,rfl⟩ | ⟨r,rfl,_⟩ <;> rfl
  rw[List.all_cons,List.all_cons,this,h3.ok]
  rfl
 | _,[],_:: _,_,H=>H.elim
 | _,_:: _,[],_,H=>H.elim
theorem RepT.pushState{row:Ms→AV→AV→AV→List AV}{nm:SNm}{tag tag':Nat→Nat}{dv cv sv sv':AV}{m:Ms}{h h1:Hp}{n:aU}{l:List Val}{av:AV}(R:RepT row nm tag dv cv sv m h) (K:Kp tag tag' (fun j=>j=5) h h1)
  (ha:(l=[]∧av= .sl [])∨∃ r,av= .hs r 0 l.length 4 true∧tag r=6 + m.state.length∧h[r]? = some (bp l))
  (H:Al tag' 5 2 (m.state.length + 1) (fun cs'=>∃ cs,(cs=nm.cells∧cy tag h 0 nm.names m.state cs)∧cs'=cs++[.str n,av]) sv' h1):
  RepT row ⟨nm.names++[n],sv',nm.cells++[.str n,av],nm.told⟩ tag' dv cv sv' { m with state:=m.state++[l] } (h1.set 0 (row { m with state:=m.state++[l] } dv cv sv')):=by
 obtain⟨k1,k2⟩:=K 0 _ R.r0 (by rw[R.t0];decide)
 have hlt:0 < h1.length:=(List.getElem?_eq_some_iff.1 k1).1
 have t0:=k2.trans R.t0
 have K0:Kp tag' tag' (fun j=>j=0) h1 (h1.set 0 (row { m with state:=m.state++[l] } dv cv sv')):=Kp.kill t0 _
 refine⟨List.getElem?_set_self hlt,t0,?_,?_,?_,rfl,R.wok⟩
 ·exact (R.ds.keep K (c':=fun cs=>cs=dA m.deeds) (by decide) fun _ h=>h).keep K0 (by decide) fun _ h=>h
 ·exact (R.cs.keep K (c':=eS tag' h1 m.calls) (by decide) fun _ h=>h.keep K (by decide)).keep K0 (by decide) fun _ h=>h.keep K0 (by decide)
 ·simp only[List.length_append,List.length_singleton]
  refine H.keep K0 (by decide) ?_
  rintro cs' ⟨cs,⟨rfl,hcs⟩,rfl⟩
  refine⟨rfl,?_⟩
  have h2:=hcs.snoc (n:=n) (l:=l) (av:=av) (by rw[Nat.zero_add];exact ha)
  exact (h2.keep K (by omega)).keep K0 (by omega)
def AJ(d:Nat)(h:Hp):Nat→Nat→Nat→Nat→Bool→AV:=fun l off len sz ag=>match h[l]? with
 | some cs=>bif decide (off + len * sz≤cs.length)&&decide (0 < sz)&&(ag||(Nat.beq sz 1&&cs.all aO)) then
   .sl ((List.range len).map fun i=>ix d h (bif ag then .agg ((cs.drop (off + i * sz)).take sz) else nth cs (off + i * sz))) else .any
 | none=>.any
theorem nE(d:Nat)(h:Hp)(a:AV):ix (d + 1) h a=cl (AJ d h) a:=rfl
theorem mw{α β:Type}{l:List α}{f:Nat→β}{g:α→β}(h:∀ i x,l[i]? = some x→f i=g x):(List.range l.length).map f=l.map g:=by
 apply List.ext_getElem?
 intro i
 rw[List.getElem?_map,List.getElem?_map]
 by_cases hi:i < l.length
 ·rw[List.getElem?_range hi,List.getElem?_eq_getElem hi]
  simp only[Option.map_some,Option.some.injEq]
  exact h i _ (List.getElem?_eq_getElem hi)
 ·rw[List.getElem?_eq_none (by simp;omega),List.getElem?_eq_none (by omega)]
  rfl
theorem qf{d:Nat}{h:Hp}{q n sz:Nat}{cs:List AV}(h0:h[q]? = some cs)(hl:cs.length=n * sz)(hz:0 < sz):AJ d h q 0 n sz true= .sl ((List.range n).map fun i=>ix d h (.agg ((cs.drop (i * sz)).take sz))):=by
 unfold AJ
 rw[h0]
 simp only[hl,Nat.zero_add,Nat.le_refl,decide_true,hz,Bool.true_or,Bool.and_self,cond_true]
theorem Hs(d:Nat)(h:Hp)(v:Val):ix d h v.av=v.av:=by
 cases d with
 | zero=>exact mS _ v
 | succ d=>exact mS _ v
theorem wW{d:Nat}{h:Hp}{r:Nat}{l:List Val}(h0:h[r]? = some (bp l)):AJ d h r 0 l.length 4 true=vals l:=by
 rw[qf h0 (iT l) (by decide)]
 unfold vals
 rw[cI]
 congr 1
 refine mw fun i v hv=>?_
 have hi:=(List.getElem?_eq_some_iff.1 hv).1
 rw[kV hi,(List.getElem?_eq_some_iff.1 hv).2]
 have:AV.agg (ab v.av)=v.av:=by simp
 rw[this,Hs]
theorem JJ{d:Nat}{tag:Nat→Nat}{k:Nat}{h:Hp}{l:List Val}{av:AV}(H:sC tag k h l av):cl (AJ d h) av=vals l:=by
 rcases H with rfl | ⟨r,rfl,_,h0⟩
 ·exact jE _ l
 ·exact wW h0
theorem eS.at{tag:Nat→Nat}{h:Hp}:{l:List Call} →{cs:List AV} →eS tag h l cs→∀(i:Nat)(c:Call),l[i]? = some c→∃ av,(cs.drop (i * 3)).take 3=[.str c.module,.str c.func,av]∧sC tag 4 h c.args av
 | [],_,_,i,c,hc=>by simp at hc
 | d:: l,_,⟨av,rest,h1,h2,h3⟩,i,c,hc=>by
  subst h1
  cases i with
  | zero=>simp at hc;subst hc;exact⟨av,by simp,h2⟩
  | succ i=>
   obtain⟨av',g1,g2⟩:=h3.at i c (by simpa using hc)
   refine⟨av',?_,g2⟩
   rw[show (i + 1) * 3=i * 3 + 3 by omega]
   simpa using g1
theorem Cb{d:Nat}{tag:Nat→Nat}{h:Hp}{l:List Call}{v:AV}(H:Al tag 3 3 l.length (fun cs=>eS tag h l cs) v h):cl (AJ (d + 1) h) v=calls l:=by
 rcases H with ⟨h0,rfl⟩ | ⟨q,cs,rfl,_,_,h4,h5,h6⟩
 ·have:l=[]:=List.eq_nil_of_length_eq_zero h0
  subst this
  rfl
 ·show AJ (d + 1) h q 0 l.length 3 true=_
  rw[qf h4 h5 (by decide)]
  unfold calls
  congr 1
  refine mw fun i c hc=>?_
  obtain⟨av,g1,g2⟩:=h6.at i c hc
  rw[g1,nE]
  show AV.agg [.str c.module,.str c.func,cl (AJ d h) av]=_
  rw[JJ g2]
  rfl
theorem uM{l:List Deed}{i:Nat}{d:Deed}(h:l[i]? = some d):((dA l).drop (i * 3)).take 3=[.int .i64 d.effect,.int .i64 d.arg,.int .i64 d.answer]:=by
 induction l generalizing i with
 | nil=>simp at h
 | cons x l ih=>
  cases i with
  | zero=>simp at h;subst h;simp[dA]
  | succ i=>
   have:=ih (i:=i) (by simpa using h)
   rw[show (i + 1) * 3=i * 3 + 3 by omega]
   simpa [dA] using this
theorem Cc{d:Nat}{tag:Nat→Nat}{h:Hp}{l:List Deed}{v:AV}(H:Al tag 2 3 l.length (fun cs=>cs=dA l) v h):cl (AJ (d + 1) h) v=deeds l:=by
 rcases H with ⟨h0,rfl⟩ | ⟨q,cs,rfl,_,_,h4,h5,rfl⟩
 ·have:l=[]:=List.eq_nil_of_length_eq_zero h0
  subst this
  rfl
 ·show AJ (d + 1) h q 0 l.length 3 true=_
  rw[qf h4 h5 (by decide)]
  unfold deeds
  congr 1
  refine mw fun i c hc=>?_
  rw[uM hc,nE]
  rfl
theorem cy.at2{tag:Nat→Nat}{h:Hp}:{i:Nat} →{nm:List aU} →{st:List (List Val)} →{cs:List AV} →cy tag h i nm st cs→∀(j:Nat)(x:Vars),(List.zipWith Vars.mk nm st)[j]? = some x→
  ∃ av,(cs.drop (j * 2)).take 2=[.str x.module,av]∧((x.values=[]∧av= .sl [])∨∃ r,av= .hs r 0 x.values.length 4 true∧h[r]? = some (bp x.values))
 | _,[],[],_,_,j,x,hx=>by simp at hx
 | i,n:: ns,l:: st,_,⟨av,rest,h1,h2,h3⟩,j,x,hx=>by
  subst h1
  cases j with
  | zero=>
   simp at hx
   subst hx
   refine⟨av,by simp,?_⟩
   rcases h2 with h2 | ⟨r,g1,_,g3⟩
   ·exact .inl h2
   ·exact .inr ⟨r,g1,g3⟩
  | succ j=>
   obtain⟨av',g1,g2⟩:=h3.at2 j x (by simpa using hx)
   refine⟨av',?_,g2⟩
   rw[show (j + 1) * 2=j * 2 + 2 by omega]
   simpa using g1
 | _,[],_:: _,_,H,_,_,_=>H.elim
 | _,_:: _,[],_,H,_,_,_=>H.elim
theorem zt{d:Nat}{tag:Nat→Nat}{h:Hp}{nm:List aU}{c0:List AV}{st:List (List Val)}{v:AV}(H:Al tag 5 2 st.length (fun cs=>cs=c0∧cy tag h 0 nm st cs) v h):cl (AJ (d + 1) h) v=cD (List.zipWith Vars.mk nm st):=by
 rcases H with ⟨h0,rfl⟩ | ⟨q,cs,rfl,_,_,h4,h5,_,h6⟩
 ·have:st=[]:=List.eq_nil_of_length_eq_zero h0
  subst this
  cases nm <;> rfl
 ·have hl:(List.zipWith Vars.mk nm st).length=st.length:=by simp[h6.len]
  show AJ (d + 1) h q 0 st.length 2 true=_
  rw[qf h4 h5 (by decide),← hl]
  unfold cD
  congr 1
  refine mw fun i c hc=>?_
  obtain⟨av,g1,g2⟩:=h6.at2 i c hc
  rw[g1,nE]
  have:cl (AJ d h) av=vals c.values:=by
   rcases g2 with ⟨e1,rfl⟩ | ⟨r,rfl,g3⟩
   ·rw[e1];rfl
   ·exact wW g3
  show AV.agg [.str c.module,cl (AJ d h) av]=_
  rw[this]
  rfl
theorem fN{v:AV}(h:aO v=true):cm 1 v=true∧ab v=[v]∧cL v=some 1:=by
 cases v with
 | any=>cases h
 | agg _=>cases h
 | tup _=>cases h
 | nilb _=>cases h
 | byt _ _=>cases h
 | it _=>cases h
 | _=>exact⟨rfl,rfl,rfl⟩
def mu(m:Ms):Int:=m.deeds.length + m.calls.length + m.fuel
def TQ(k:Int){α:Type}(x:X α):Prop:=∀ m a s,0≤m.fuel→x m= .ok a s→mu s≤mu m + k∧s.fuel≤m.fuel∧0≤s.fuel∧s.frames=m.frames
theorem Bo{k:Int}{α:Type}{a:α}(hk:0≤k):TQ k (.ok a):=fun m b s h0 h=>by cases h;exact⟨by omega,Int.le_refl _,h0,rfl⟩
theorem Gy{k:Int}{α:Type}{e:Int}:TQ k (α:=α) (.er e):=fun m b s _ h=>by cases h
theorem Ie{j k:Int}{α β:Type}{x:X α}{f:α→X β}(hx:TQ j x)(hf:∀ a,TQ k (f a)):TQ (j + k) (x.bind f):=by
 intro m b s h0 h
 unfold X.bind at h
 cases hr:x m with
 | er e t=>rw[hr] at h;cases h
 | ok a t=>
  rw[hr] at h
  obtain⟨h1,h2,h3,h4⟩:=hx m a t h0 hr
  obtain⟨g1,g2,g3,g4⟩:=hf a t b s h3 h
  exact⟨by omega,by omega,g3,g4.trans h4⟩
theorem dD{k:Int}{α β:Type}{x:X α}{f:α→X β}(hx:TQ 0 x)(hf:∀ a,TQ k (f a)):TQ k (x.bind f):=by
 have:=Ie hx hf
 rwa [Int.zero_add] at this
theorem Bn{j k:Int}{α:Type}{x:X α}(h:TQ j x)(hk:j≤k):TQ k x:=fun m a s h0 e=>by
 obtain⟨h1,h2⟩:=h m a s h0 e
 exact⟨by omega,h2⟩
theorem cu{k:Int}{α:Type}{c:Prop}[Decidable c]{x y:X α}(h1:TQ k x)(h2:TQ k y):TQ k (if c then x else y):=by
 split
 ·exact h1
 ·exact h2
theorem jL{r:X Val}(h:TQ 0 r):TQ 0 (boolX r):=dD h fun _=>cu (Bo (Int.le_refl _)) Gy
theorem mB{r:Exp→X Val}(h:∀ e,TQ 0 (r e)):∀ l,TQ 0 (listX r l)
 | []=>Bo (Int.le_refl _)
 | e:: l=>dD (h e) fun _=>dD (mB h l) fun _=>Bo (Int.le_refl _)
theorem j9(p:List Mod)(r:Ev)(a:Int)(f:Fun)(l:List Val)(m:Ms):cF p r a f l m=if m.frames < 60 then ((r a (f.params.map (·.1)) l f.body).bind fun v=>.upd (fun m=>{ m with frames:=m.frames - 1 }) (.ok v)) (iN p a f l m) else .er 6 m:=by
 unfold cF X.get
 by_cases h:m.frames < 60
 ·simp only[h,if_true];rfl
 ·simp only[h,if_false];rfl
theorem sg{p:List Mod}{r:Ev}{a:Int}{f:Fun}{l:List Val}(hr:∀ o ns vs e,TQ 0 (r o ns vs e)):TQ 1 (cF p r a f l):=by
 intro m v s h0 h
 rw[j9] at h
 split at h
 ·unfold X.bind at h
  cases hr':r a (f.params.map (·.1)) l f.body (iN p a f l m) with
  | er e t=>rw[hr'] at h;cases h
  | ok b t=>
   rw[hr'] at h
   cases h
   obtain⟨h1,h2,h3,h4⟩:=hr _ _ _ _ (iN p a f l m) v t h0 hr'
   have hm:mu (iN p a f l m)≤mu m + 1:=by
    simp only[mu,iN]
    split
    ·simp;omega
    ·omega
   have h4':t.frames=m.frames + 1:=h4
   have h2':t.fuel≤m.fuel:=h2
   simp only[mu] at h1 hm ⊢
   exact⟨by omega,h2',h3,by omega⟩
 ·cases h
theorem Ig{p:List Mod}{r:Ev}(hr:∀ o ns vs e,TQ 0 (r o ns vs e))(o:Int)(ns:List aU)(vs:List Val)(e:Exp):TQ 0 (lg p r o ns vs e):=by
 have tick:∀ y:X Val,TQ 1 y→TQ 0 (lh y):=fun y hy m a s h0 h=>by
  unfold lh X.get at h
  by_cases hf:m.fuel≤0
  ·simp only[hf,if_true] at h;cases h
  ·simp only[hf,if_false] at h
   obtain⟨h1,h2,h3,h4⟩:=hy { m with fuel:=m.fuel - 1 } a s (by simp only;omega) h
   simp only[mu] at h1 h2 ⊢
   exact⟨by omega,by omega,h3,h4⟩
 have H:=fun e=>hr o ns vs e
 have ok1:∀(α:Type)(a:α),TQ 1 (.ok a):=fun _ _=>Bo (by omega)
 have er1:∀(α:Type) e,TQ 1 (α:=α) (.er e):=fun _ _=>Gy
 have H1:=fun e=>Bn (H e) (show (0:Int)≤1 by omega)
 refine tick _ ?_
 refine cu (er1 _ _) (cu (ok1 _ _) (cu (cu (ok1 _ _) (er1 _ _)) (cu ?_ (cu ?_ (cu ?_ (cu ?_ (cu ?_ (cu ?_ (cu ?_ (cu ?_ (cu ?_ (cu ?_ ?_))))))))))))
 ·split
  ·exact ok1 _ _
  ·exact er1 _ _
 ·refine dD (H _) fun a=>dD (H _) fun b=>?_
  unfold ln
  exact cu (cu (ok1 _ _) (er1 _ _)) (cu (cu (ok1 _ _) (cu (ok1 _ _) (cu (ok1 _ _) (ok1 _ _)))) (er1 _ _))
 ·exact dD (jL (H _)) fun a=>cu (ok1 _ _) (dD (jL (H _)) fun b=>ok1 _ _)
 ·exact dD (jL (H _)) fun a=>ok1 _ _
 ·exact dD (jL (H _)) fun a=>cu (H1 _) (H1 _)
 ·exact dD (H _) fun v=>Bn (hr _ _ _ _) (by omega)
 ·unfold hP
  exact cu (cu (dD (mB H _) fun vs=>cu (ok1 _ _) (er1 _ _)) (er1 _ _)) (er1 _ _)
 ·refine dD (H _) fun v=>?_
  split
  ·exact cu (ok1 _ _) (er1 _ _)
  ·exact er1 _ _
 ·unfold mG
  simp only
  split
  ·exact er1 _ _
  ·exact cu (cu (dD (mB H _) fun l=>sg hr) (er1 _ _)) (er1 _ _)
 ·unfold sF
  refine dD (H _) fun v=>cu (cu (fun m a s h0 h=>?_) (er1 _ _)) (er1 _ _)
  cases h
  simp only[mu]
  exact⟨by simp;omega,Int.le_refl _,h0,trivial⟩
 ·unfold sq
  refine cu (er1 _ _) ?_
  simp only
  refine cu (er1 _ _) (cu (dD (H _) fun v m a s h0 h=>?_) fun m a s h0 h=>?_)
  ·cases h
   exact⟨by simp only[mu];omega,Int.le_refl _,h0,rfl⟩
  ·cases h
   exact⟨by omega,Int.le_refl _,h0,rfl⟩
theorem kU{p:List Mod}:∀(n:Nat)(o:Int)(ns:List aU)(vs:List Val)(e:Exp),TQ 0 (bm p n o ns vs e)
 | 0,_,_,_,_=>Gy
 | n + 1,o,ns,vs,e=>Ig (fun o ns vs e=>kU n o ns vs e) o ns vs e
structure GoodM (p:List Mod) (m:Ms):Prop where
 right:uo m
 bud:mu m≤1000000
 fr:0≤m.frames∧m.frames≤60
 fuel:0≤m.fuel
 shape:∀(i:Nat)(x:Mod),p[i]? = some x→∃ l,m.state[i]? = some l∧l.length=x.vars.length
theorem GoodM.eval{p:List Mod}{n:Nat}{o:Int}{ns:List aU}{vs:List Val}{e:Exp}{m s:Ms}{v:Val}(G:GoodM p m)(hs:ly ns vs)(h:bm p n o ns vs e m= .ok v s):GoodM p s∧Rv v∧s.fuel≤m.fuel:=by
 obtain⟨h1,h2,h3,h4⟩:=kU n o ns vs e m v s G.fuel h
 obtain⟨g1,g2,g3⟩:=kS (p:=p) n o ns vs e hs m G.right
 rw[h] at g1 g2
 refine⟨⟨g1,by have:=G.bud;omega,by rw[h4];exact G.fr,h3,fun i x hx=>?_⟩,g3 v s h,h2⟩
 obtain⟨l,k1,k2⟩:=G.shape i x hx
 have:(jp s)[i]? = (jp m)[i]?:=by rw[show jp s=jp m from g2]
 simp only[jp,List.getElem?_map,k1,Option.map_some] at this
 cases hi:s.state[i]? with
 | none=>rw[hi] at this;cases this
 | some l'=>
  rw[hi] at this
  simp only[Option.map_some,Option.some.injEq] at this
  exact⟨l',rfl,by omega⟩
theorem GoodM.bool{p:List Mod}{n:Nat}{o:Int}{ns:List aU}{vs:List Val}{e:Exp}{m s:Ms}{b:Bool}(G:GoodM p m)(hs:ly ns vs)(h:boolX (bm p n o ns vs e) m= .ok b s):GoodM p s∧s.fuel≤m.fuel:=by
 unfold boolX X.bind at h
 cases hr:bm p n o ns vs e m with
 | er c t=>rw[hr] at h;cases h
 | ok v t=>
  rw[hr] at h
  simp only at h
  split at h
  ·cases h
   exact⟨(G.eval hs hr).1,(G.eval hs hr).2.2⟩
  ·cases h
theorem zS{v:Val}(h:Rv v):v.names.length≤8:=by
 unfold Rv bA at h
 split at h
 ·simp only[Bool.and_eq_true,beq_iff_eq] at h
  omega
 ·simp only[Bool.and_eq_true,decide_eq_true_eq] at h
  exact h.1.1.2
theorem AF:∀(d:Nat)(v:Val),bA d v=true→v.sz≤17 * 9 ^ d
 | 0,v,h=>by simp[bA] at h
 | d + 1,v,h=>by
  have hp:1≤9 ^ d:=Nat.one_le_pow _ _ (by decide)
  obtain⟨k,n,ns,vs⟩:=v
  unfold bA at h
  simp only[Val.sz]
  split at h
  ·simp only[Bool.and_eq_true,beq_iff_eq,Val.names_mk,Val.values_mk] at h
   have h1:=h.1.1
   have h2:vs=[]:=List.eq_nil_of_length_eq_zero h.1.2
   subst h2
   simp only[bT]
   rw[Nat.pow_succ]
   omega
  ·simp only[Bool.and_eq_true,beq_iff_eq,List.all_eq_true,Val.names_mk,Val.values_mk] at h
   have h8:=of_decide_eq_true h.1.1.2
   have hl:=h.1.1.1.2
   have hv:=h.2
   have key:∀ l:List Val,(∀ v∈l,bA d v=true)→bT l≤l.length * (17 * 9 ^ d):=by
    intro l
    induction l with
    | nil=>intro _;simp[bT]
    | cons v l ih=>
     intro h
     have h1:=AF d v (h v List.mem_cons_self)
     have h2:=ih fun w hw=>h w (List.mem_cons_of_mem _ hw)
     simp only[bT,List.length_cons]
     rw[Nat.add_mul]
     omega
   have h3:=key vs hv
   have h4:vs.length * (17 * 9 ^ d)≤8 * (17 * 9 ^ d):=Nat.mul_le_mul_right _ (by omega)
   rw[Nat.pow_succ]
   omega
theorem rX{v:Val}(h:Rv v):v.sz≤200000:=Nat.le_trans (AF 4 v h) (by decide)
def TE(k:Int){α:Type}(x:X α):Prop:=∀ m e s,0≤m.fuel→x m= .er e s→mu s≤mu m + k∧0≤s.fuel
theorem Bm{k:Int}{α:Type}{a:α}:TE k (.ok a):=fun m e s _ h=>by cases h
theorem Gx{k:Int}{α:Type}{e:Int}(hk:0≤k):TE k (α:=α) (.er e):=fun m b s h0 h=>by cases h;exact⟨by omega,h0⟩
theorem Bl{j k:Int}{α:Type}{x:X α}(h:TE j x)(hk:j≤k):TE k x:=fun m a s h0 e=>by
 have:=h m a s h0 e
 exact⟨by omega,this.2⟩
theorem eE{k:Int}{α β:Type}{x:X α}{f:α→X β}(hx:TE k x)(tx:TQ 0 x)(hf:∀ a,TE k (f a)):TE k (x.bind f):=by
 intro m b s h0 h
 unfold X.bind at h
 cases hr:x m with
 | er e t=>rw[hr] at h;cases h;exact hx m _ _ h0 hr
 | ok a t=>
  rw[hr] at h
  obtain⟨h1,h2,h3,h4⟩:=tx m a t h0 hr
  have:=hf a t b s h3 h
  exact⟨by omega,this.2⟩
theorem ct{k:Int}{α:Type}{c:Prop}[Decidable c]{x y:X α}(h1:TE k x)(h2:TE k y):TE k (if c then x else y):=by
 split
 ·exact h1
 ·exact h2
theorem Ib{k:Int}(hk:0≤k){r:X Val}(h:TE k r)(t:TQ 0 r):TE k (boolX r):=eE h t fun _=>ct Bm (Gx hk)
theorem vP{k:Int}{r:Exp→X Val}(h:∀ e,TE k (r e))(t:∀ e,TQ 0 (r e)):∀ l,TE k (listX r l)
 | []=>Bm
 | e:: l=>eE (h e) (t e) fun _=>eE (vP h t l) (mB t l) fun _=>Bm
theorem se{p:List Mod}{r:Ev}{a:Int}{f:Fun}{l:List Val}(hr:∀ o ns vs e,TE 0 (r o ns vs e)):TE 1 (cF p r a f l):=by
 intro m v s h0 h
 rw[j9] at h
 have hm:mu (iN p a f l m)≤mu m + 1:=by
  simp only[mu,iN]
  split
  ·simp;omega
  ·omega
 split at h
 ·unfold X.bind at h
  cases hr':r a (f.params.map (·.1)) l f.body (iN p a f l m) with
  | er e t=>
   rw[hr'] at h
   cases h
   have:=hr _ _ _ _ (iN p a f l m) _ _ h0 hr'
   exact⟨by omega,this.2⟩
  | ok b t=>
   rw[hr'] at h
   cases h
 ·cases h
  exact⟨by omega,h0⟩
theorem Ic{p:List Mod}{r:Ev}(hr:∀ o ns vs e,TE 0 (r o ns vs e))(tr:∀ o ns vs e,TQ 0 (r o ns vs e))(o:Int)(ns:List aU)(vs:List Val)(e:Exp):TE 0 (lg p r o ns vs e):=by
 have tick:∀ y:X Val,TE 1 y→TE 0 (lh y):=fun y hy m a s h0 h=>by
  unfold lh X.get at h
  by_cases hf:m.fuel≤0
  ·simp only[hf,if_true] at h;cases h;exact⟨by omega,h0⟩
  ·simp only[hf,if_false] at h
   have h1:=hy { m with fuel:=m.fuel - 1 } a s (by simp only;omega) h
   simp only[mu] at h1 ⊢
   exact⟨by omega,h1.2⟩
 have H:=fun e=>Bl (hr o ns vs e) (show (0:Int)≤1 by omega)
 have T:=fun e=>tr o ns vs e
 have ok1:∀(α:Type)(a:α),TE 1 (.ok a):=fun _ _=>Bm
 have er1:∀(α:Type) e,TE 1 (α:=α) (.er e):=fun _ _=>Gx (by omega)
 have B:=fun e=>Ib (by omega) (H e) (T e)
 refine tick _ ?_
 refine ct (er1 _ _) (ct (ok1 _ _) (ct (ct (ok1 _ _) (er1 _ _)) (ct ?_ (ct ?_ (ct ?_ (ct ?_ (ct ?_ (ct ?_ (ct ?_ (ct ?_ (ct ?_ (ct ?_ ?_))))))))))))
 ·split
  ·exact ok1 _ _
  ·exact er1 _ _
 ·refine eE (H _) (T _) fun a=>eE (H _) (T _) fun b=>?_
  unfold ln
  exact ct (ct (ok1 _ _) (er1 _ _)) (ct (ct (ok1 _ _) (ct (ok1 _ _) (ct (ok1 _ _) (ok1 _ _)))) (er1 _ _))
 ·exact eE (B _) (jL (T _)) fun a=>ct (ok1 _ _) (eE (B _) (jL (T _)) fun b=>ok1 _ _)
 ·exact eE (B _) (jL (T _)) fun a=>ok1 _ _
 ·exact eE (B _) (jL (T _)) fun a=>ct (H _) (H _)
 ·exact eE (H _) (T _) fun v=>Bl (hr _ _ _ _) (by omega)
 ·unfold hP
  exact ct (ct (eE (vP H T _) (mB T _) fun vs=>ct (ok1 _ _) (er1 _ _)) (er1 _ _)) (er1 _ _)
 ·refine eE (H _) (T _) fun v=>?_
  split
  ·exact ct (ok1 _ _) (er1 _ _)
  ·exact er1 _ _
 ·unfold mG
  simp only
  split
  ·exact er1 _ _
  ·exact ct (ct (eE (vP H T _) (mB T _) fun l=>se hr) (er1 _ _)) (er1 _ _)
 ·unfold sF
  refine eE (H _) (T _) fun v=>ct (ct (fun m a s h0 h=>?_) (er1 _ _)) (er1 _ _)
  cases h
 ·unfold sq
  refine ct (er1 _ _) ?_
  simp only
  refine ct (er1 _ _) (ct (eE (H _) (T _) fun v m a s h0 h=>?_) fun m a s h0 h=>?_)
  ·cases h
  ·cases h
theorem vO{p:List Mod}:∀(n:Nat)(o:Int)(ns:List aU)(vs:List Val)(e:Exp),TE 0 (bm p n o ns vs e)
 | 0,_,_,_,_=>Gx (by omega)
 | n + 1,o,ns,vs,e=>Ic (fun o ns vs e=>vO n o ns vs e) (fun o ns vs e=>kU n o ns vs e) o ns vs e
end Go.Av.Ap
namespace Go.Av.Ap
def yB(B:Nat)(m:Ms):Prop:=∀ c∈m.calls,c.args.length≤B
def CQ(B:Nat){α:Type}(x:X α)(Q:α→Prop):Prop:=∀ m,yB B m→yB B (x m).st∧∀ a s,x m= .ok a s→Q a
variable {B:Nat}
theorem AB{α:Type}{a:α}{Q:α→Prop}(h:Q a):CQ B (.ok a) Q:=fun m hm=>⟨hm,fun b s e=>by cases e;exact h⟩
theorem f7{α:Type}{e:Int}{Q:α→Prop}:CQ B (.er e) Q:=fun m hm=>⟨hm,fun b s e=>by cases e⟩
theorem eb{α β:Type}{x:X α}{f:α→X β}{Q:α→Prop}{R:β→Prop}(hx:CQ B x Q)(hf:∀ a,Q a→CQ B (f a) R):CQ B (x.bind f) R:=by
 intro m hm
 obtain⟨h1,h3⟩:=hx m hm
 cases hr:x m with
 | er e s=>
  rw[hr] at h1
  simp only[X.bind,hr]
  exact⟨h1,fun b s e=>by cases e⟩
 | ok a s=>
  rw[hr] at h1
  obtain⟨g1,g3⟩:=hf a (h3 a s hr) s h1
  simp only[X.bind,hr]
  exact⟨g1,g3⟩
theorem cp{α:Type}{c:Prop}[Decidable c]{x y:X α}{Q:α→Prop}(h1:c→CQ B x Q)(h2:¬ c→CQ B y Q):CQ B (if c then x else y) Q:=by
 split
 ·exact h1 ‹_›
 ·exact h2 ‹_›
abbrev CW{α:Type}:α→Prop:=fun _=>True
theorem qc{r:X Val}(h:CQ B r CW):CQ B (boolX r) CW:=eb h fun _ _=>cp (fun _=>AB trivial) (fun _=>f7)
theorem uL{r:Exp→X Val}(h:∀ e,CQ B (r e) CW):∀ l,CQ B (listX r l) fun vs=>vs.length=l.length
 | []=>AB rfl
 | e:: l=>eb (h e) fun v _=>eb (uL h l) fun vs hvs=>AB (by simp[hvs])
theorem wB{p:List Mod}{r:Ev}{a:Int}{f:Fun}{l:List Val}(hr:∀ o ns vs e,CQ B (r o ns vs e) CW)(hl:l.length≤B):CQ B (cF p r a f l) CW:=by
 intro m hm
 rw[j9]
 split
 ·have hb:CQ B ((r a (f.params.map (·.1)) l f.body).bind fun v=>.upd (fun m=>{ m with frames:=m.frames - 1 }) (.ok v)) CW:=
   eb (hr _ _ _ _) fun _ _ m hm=>⟨hm,fun a s e=>trivial⟩
  have hm':yB B (iN p a f l m):=by
   intro c hc
   simp only[iN] at hc
   split at hc
   ·rcases List.mem_append.1 hc with h | h
    ·exact hm c h
    ·simp only[List.mem_singleton] at h
     subst h
     exact hl
   ·exact hm c hc
  exact hb _ hm'
 ·exact⟨hm,fun _ _ e=>by cases e⟩
theorem Hm{p:List Mod}(hp:∀ m∈p,∀ f∈m.funcs,f.params.length≤B){r:Ev}(hr:∀ o ns vs e,CQ B (r o ns vs e) CW)(o:Int)(ns:List aU)(vs:List Val)(e:Exp):CQ B (lg p r o ns vs e) CW:=by
 have tick:∀ y:X Val,CQ B y CW→CQ B (lh y) CW:=fun y hy m hm=>by
  unfold lh X.get
  by_cases h:m.fuel≤0
  ·simp only[h,if_true];exact⟨hm,fun _ _ e=>by cases e⟩
  ·simp only[h,if_false];exact hy { m with fuel:=m.fuel - 1 } hm
 have H:=fun e=>hr o ns vs e
 have ok1:∀(α:Type)(a:α),CQ B (.ok a) CW:=fun _ _=>AB trivial
 refine tick _ ?_
 refine cp (fun _=>f7) fun _=>cp (fun _=>ok1 _ _) fun _=>cp (fun _=>cp (fun _=>ok1 _ _) fun _=>f7) fun _=>cp (fun _=>?_) fun _=>
  cp (fun _=>?_) fun _=>cp (fun _=>?_) fun _=>cp (fun _=>?_) fun _=>cp (fun _=>?_) fun _=>cp (fun _=>?_) fun _=>cp (fun _=>?_) fun _=>cp (fun _=>?_) fun _=>
  cp (fun _=>?_) fun _=>cp (fun _=>?_) fun _=>?_
 ·split
  ·exact ok1 _ _
  ·exact f7
 ·refine eb (H _) fun a ha=>eb (H _) fun b hb=>?_
  unfold ln
  exact cp (fun _=>cp (fun _=>ok1 _ _) fun _=>f7) fun _=>cp (fun _=>cp (fun _=>ok1 _ _) fun _=>cp (fun _=>ok1 _ _) fun _=>cp (fun _=>ok1 _ _) fun _=>ok1 _ _) fun _=>f7
 ·exact eb (qc (H _)) fun a _=>cp (fun _=>ok1 _ _) fun _=>eb (qc (H _)) fun b _=>ok1 _ _
 ·exact eb (qc (H _)) fun a _=>ok1 _ _
 ·exact eb (qc (H _)) fun a _=>cp (fun _=>H _) fun _=>H _
 ·exact eb (H _) fun v hv=>hr _ _ _ _
 ·unfold hP
  exact cp (fun h1=>cp (fun h2=>eb (uL H _) fun vs hvs=>cp (fun h3=>ok1 _ _) fun _=>f7) fun _=>f7) fun _=>f7
 ·refine eb (H _) fun v hv=>?_
  split
  ·exact cp (fun _=>ok1 _ _) fun _=>f7
  ·exact f7
 ·unfold mG
  simp only
  split
  ·exact f7
  ·rename_i f hf
   obtain⟨h1,h2,h3⟩:=gI hf
   refine cp (fun _=>cp (fun h4=>eb (uL H _) fun l hl=>wB hr ?_) fun _=>f7) fun _=>f7
   rw[List.getElem?_eq_getElem h2] at h3
   have:=hp _ (List.getElem_mem h2) f h3
   omega
 ·unfold sF
  exact eb (H _) fun v hv=>cp (fun _=>cp (fun _ m hm=>⟨hm,fun a s e=>trivial⟩) fun _=>f7) fun _=>f7
 ·unfold sq
  refine cp (fun _=>f7) fun ho=>?_
  simp only
  exact cp (fun _=>f7) fun hi=>cp (fun _=>eb (H _) fun v hv m hm=>⟨hm,fun a s e=>trivial⟩) fun _ m hm=>⟨hm,fun a s e=>trivial⟩
theorem AA{p:List Mod}(hp:∀ m∈p,∀ f∈m.funcs,f.params.length≤B):∀(n:Nat)(o:Int)(ns:List aU)(vs:List Val)(e:Exp),CQ B (bm p n o ns vs e) CW
 | 0,_,_,_,_=>f7
 | n + 1,o,ns,vs,e=>Hm hp (fun o ns vs e=>AA hp n o ns vs e) o ns vs e
end Go.Av.Ap
namespace Go.Av.Ap
structure OutB (B n:Nat) (o:Out):Prop where
 deeds:o.deeds.length≤100002
 calls:o.calls.length≤100002
 args:∀ c∈o.calls,c.args.length≤B
 state:o.state.length≤n
 vals:∀ x∈o.state,x.values.length≤B
theorem mr(B n:Nat)(e:Int):OutB B n (nr e):=⟨Nat.zero_le _,Nat.zero_le _,fun c hc=>(by cases hc),Nat.zero_le _,fun c hc=>(by cases hc)⟩
theorem Ff{B:Nat}(p:List Mod)(st:List Vars)(module fn:aU)(args:List Val)(world:List Int)(fuel:Int)(hp:∀ m∈p,m.vars.length≤B∧∀ f∈m.funcs,f.params.length≤B):OutB B p.length (iH p st module fn args world fuel):=by
 by_cases h0:0≤fuel∧fuel≤100000
 ·rcases ra p st module fn args with ⟨e,he,h⟩ | ⟨a,f,hf,ha,hl,hargs,hv,hb,h⟩
  ·rw[h world fuel h0.1 h0.2];exact mr _ _ e
  ·rw [h world fuel h0.1 h0.2]
   obtain⟨b1,b2,b3⟩:=gZ hb
   have hfp:f.params.length≤B:=by
    rw[List.getElem?_eq_getElem hl] at hf
    exact (hp _ (List.getElem_mem hl)).2 f hf
   obtain⟨_,q2,_⟩:=pp (p:=p) (a:=a) (n:=100000) hargs hv (aX world fuel (st.map (·.values))) ⟨fun l hl v hv=>by
    simp only[aX,List.mem_map] at hl
    obtain⟨x,hx,rfl⟩:=hl
    exact b2 x hx v hv,fun c hc=>by simp[aX] at hc⟩
   have hmu:mu (cF p (bm p 100000) a f args (aX world fuel (st.map (·.values)))).st≤fuel + 1∧0≤fuel:=by
    refine⟨?_,h0.1⟩
    have e0:mu (aX world fuel (st.map (·.values)))=fuel:=by simp[mu,aX]
    cases hr:cF p (bm p 100000) a f args (aX world fuel (st.map (·.values))) with
    | ok v s=>
     have:=(sg (fun o ns vs e=>kU 100000 o ns vs e) _ v s h0.1 hr).1
     rw[e0] at this
     exact this
    | er e s=>
     have:=(se (fun o ns vs e=>vO 100000 o ns vs e) _ e s h0.1 hr).1
     rw[e0] at this
     exact this
   have hfu:0≤(cF p (bm p 100000) a f args (aX world fuel (st.map (·.values)))).st.fuel:=by
    cases hr:cF p (bm p 100000) a f args (aX world fuel (st.map (·.values))) with
    | ok v s=>exact (sg (fun o ns vs e=>kU 100000 o ns vs e) _ v s h0.1 hr).2.2.1
    | er e s=>exact (se (fun o ns vs e=>vO 100000 o ns vs e) _ e s h0.1 hr).2
   have hc:=(wB (p:=p) (B:=B) (a:=a) (f:=f) (l:=args) (AA (p:=p) (fun m hm=>(hp m hm).2) 100000) (by omega) (aX world fuel (st.map (·.values))) (fun c hc=>by simp[aX] at hc)).1
   generalize cF p (bm p 100000) a f args (aX world fuel (st.map (·.values)))=r at *
   simp only[mu] at hmu
   refine⟨by rw[pN];omega,by rw[lZ];omega,by rw[lZ];exact hc,?_,fun x hx=>?_⟩
   ·rw[jK,List.length_zipWith]
    simp
    omega
   ·rw [jK] at hx
    have:=mM hx
    have hs:jp r.st=p.map (fun m=>m.vars.length):=by
     rw[q2]
     refine List.ext_getElem? fun i=>?_
     simp only[jp,aX,List.getElem?_map,Option.map_map]
     cases hi:st[i]? with
     | none=>
      have:p[i]? = none:=by
       rw[List.getElem?_eq_none_iff] at hi ⊢
       omega
      rw[this];rfl
     | some x=>
      have hlt:=(List.getElem?_eq_some_iff.1 hi).1
      have hpi:p[i]? = some (p[i]'(by omega)):=List.getElem?_eq_getElem _
      rw[hpi]
      have:=(b3 i _ x hpi hi).2
      simp[this]
    have h1:x.values.length∈jp r.st:=List.mem_map.2 ⟨_,this,rfl⟩
    rw[hs] at h1
    obtain⟨m,hm,he⟩:=List.mem_map.1 h1
    have:=(hp m hm).1
    omega
 ·unfold iH
  split
  ·exact mr _ _ _
  ·rw[if_pos (by omega)]
   exact mr _ _ _
theorem H7{B:Nat}(p:List Mod)(module fn:aU)(args:List Val)(world:List Int)(fuel:Int)(hp:∀ m∈p,m.vars.length≤B∧∀ f∈m.funcs,f.params.length≤B):OutB B p.length (oY p module fn args world fuel):=by
 unfold oY
 split
 ·exact mr _ _ _
 ·exact Ff _ _ _ _ _ _ _ hp
end Go.Av.Ap
namespace Go.Av.Ap
open Go Go.Av
theorem uE{α:Type}{most:Int}{g:α→Int→Int}:(l:List α)→(∀ x∈l,∀ m,0≤m→m≤most→1≤g x m)→∀ n,1≤n→n≤ju most g n l
 | [],_,n,_=>Int.le_refl _
 | x:: l,hg,n,h1=>by
  by_cases h:n≤most
  ·rw[mf x l h]
   have:=hg x List.mem_cons_self (most - n) (by omega) (by omega)
   have ih:=uE l (fun y hy=>hg y (List.mem_cons_of_mem _ hy)) (n + g x (most - n)) (by omega)
   omega
  ·rw[jX (by omega)]
   exact Int.le_refl _
theorem qE{α:Type}{most:Int}{g:α→Int→Int}(w:α→Nat)(W:Nat):(l:List α)→(∀ x∈l,∀ m,0≤m→m≤most→1≤g x m)→(∀ x∈l,∀ m,0≤m→m≤most→g x m≤m→(w x:Int)≤g x m * W)→∀ n,1≤n→ju most g n l≤most→
  (l.length:Int)≤ju most g n l - n∧(∀ x∈l,∃ m,0≤m∧m≤most∧g x m≤m)∧((l.map w).sum:Int)≤(ju most g n l - n) * W
 | [],_,_,n,_,h2=>⟨by simp[ju],(fun x hx=>(by cases hx)),by simp[ju]⟩
 | x:: l,hg,hw,n,h1,h2=>by
  have hn:n≤most:=by
   rcases Int.lt_or_le most n with h | h
   ·rw[jX h] at h2;omega
   ·exact h
  rw[mf x l hn] at h2 ⊢
  have a1:=hg x List.mem_cons_self (most - n) (by omega) (by omega)
  have hg':∀ y∈l,∀ m,0≤m→m≤most→1≤g y m:=fun y hy=>hg y (List.mem_cons_of_mem _ hy)
  have a2:=uE l hg' (n + g x (most - n)) (by omega)
  obtain⟨b1,b2,b3⟩:=qE w W l hg' (fun y hy=>hw y (List.mem_cons_of_mem _ hy)) (n + g x (most - n)) (by omega) h2
  have a3:g x (most - n)≤most - n:=by omega
  have a4:=hw x List.mem_cons_self (most - n) (by omega) (by omega) a3
  refine⟨by simp only[List.length_cons];omega,fun y hy=>?_,?_⟩
  ·rcases List.mem_cons.1 hy with rfl | hy
   ·exact⟨most - n,by omega,by omega,a3⟩
   ·exact b2 y hy
  ·simp only[List.map_cons,List.sum_cons,Int.natCast_add]
   have:(ju most g (n + g x (most - n)) l - n) * (W:Int)=g x (most - n) * W + (ju most g (n + g x (most - n)) l - (n + g x (most - n))) * W:=by
    rw[← Int.add_mul]
    congr 1
    omega
   rw[this]
   omega
theorem sn:(l:List Val)→bT l=(l.map Val.sz).sum
 | []=>rfl
 | v:: l=>by simp[bT,sn l]
theorem xF:∀(d:Nat)(v:Val),v.Lim→∀ most:Int,0≤most→dj d v most≤most→(v.sz:Int)≤dj d v most * (281474976710656:Nat)
 | 0,v,_,most,_,h=>by simp only[dj] at h;omega
 | d + 1,v,hv,most,h0,h=>by
  have hl:=hv.len
  have hn:=hv.names
  have h1:∀ x∈v.values,∀ m,0≤m→m≤most→1≤dj d x m:=fun x _ m h0 _=>(hJ d x m h0).1
  have h':ju most (dj d) 1 v.values≤most:=h
  obtain⟨_,_,h3⟩:=qE Val.sz 281474976710656 v.values h1 (fun x hx m h0 _ h=>xF d x (hv.kid hx) m h0 h) 1 (by omega) h'
  have e:dj (d + 1) v most=ju most (dj d) 1 v.values:=rfl
  rw[e]
  have hs:v.sz=1 + v.names.length + bT v.values:=by cases v;rfl
  rw[hs,sn]
  have:=uE v.values h1 1 (by omega)
  rw[Int.sub_mul] at h3
  omega
theorem BZ{p:List Mod}{args:List Val}{world:List Int}{fuel:Int}(h:zl p args world fuel=true)(ha:∀ v∈args,v.Lim):args.length≤8∧bT args≤90071992547409920:=by
 unfold zl at h
 simp only[Bool.and_eq_true,decide_eq_true_eq,List.all_eq_true] at h
 have hl:=h.1.1.1.2
 refine⟨hl,?_⟩
 have key:∀ l:List Val,(∀ v∈l,v∈args)→bT l≤l.length * 11258999068426240:=by
  intro l
  induction l with
  | nil=>intro _;simp[bT]
  | cons v l ih=>
   intro hm
   have h1:=xF 8 v (ha v (hm v List.mem_cons_self)) 40 (by omega) (h.2.2 v (hm v List.mem_cons_self))
   have h2:=h.2.2 v (hm v List.mem_cons_self)
   have h3:=ih fun w hw=>hm w (List.mem_cons_of_mem _ hw)
   simp only[bT,List.length_cons]
   omega
 have:=key args fun v hv=>hv
 omega
end Go.Av.Ap
