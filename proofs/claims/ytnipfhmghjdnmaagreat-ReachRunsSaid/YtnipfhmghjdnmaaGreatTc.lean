/- What the functions of the seat compute, part 3: the texts of the claim, one behind the other. Conditions: bounds, as each theorem names them. -/
import Derived.Test.YtnipfhmghjdnmaaGreatTb
import Derived.Test.YtnipfhmghjdnmaaGreatLd
import Derived.Test.YtnipfhmghjdnmaaGreatTa
import Derived.KernelRfl

namespace Go.Proofs.YtnipfhmghjdnmaaGreat
open Go Go.Av Go.Av.Ap
def OutG {α:Type} (p:List Mod) (nm:SNm) (enc:α→AV) (r:Rs α) (c:R AV):Prop:=match r with
 | .ok v s=>∃ h',c = .ok (enc v) h'∧RepP p nm s h'
 | .er e s=>∃ h',c = .pan (errAv e) h'∧RepP p nm s h'
theorem out_bind {α β:Type} {p:List Mod} {nm:SNm} {enc:α→AV} {enc':β→AV} {x:X α} {f:α→X β} {c:M AV} {d:AV→M AV} {m:Ms} {h:Hp} (H:OutG p nm enc (x m) (c h))
  (K:∀ a s h',x m = .ok a s→RepP p nm s h'→OutG p nm enc' (f a s) (d (enc a) h')):OutG p nm enc' (x.bind f m) (bnd c d h):=by
 unfold X.bind
 cases hr:x m with
 | ok a s =>
  rw [hr] at H
  obtain ⟨h',h1,h2⟩:=H
  rw [bnd_ok h1]
  exact K a s h' hr h2
 | er e s =>
  rw [hr] at H
  obtain ⟨h',h1,h2⟩:=H
  exact ⟨h',bnd_pan h1,h2⟩
theorem out_pure {α:Type} {p:List Mod} {nm:SNm} {enc:α→AV} {a:α} {m:Ms} {h:Hp} (R:RepP p nm m h):OutG p nm enc (X.ok a m) (M.pure (enc a) h):=⟨h,rfl,R⟩
theorem out_er {α:Type} {p:List Mod} {nm:SNm} {enc:α→AV} {e:Int} {m:Ms} {h:Hp} (R:RepP p nm m h):OutG p nm enc (X.er e m) (throwM (errAv e) h):=⟨h,rfl,R⟩
theorem wrap4 (v:Val):bnd (cellsNil 4 [] v.av) (fun w=>M.pure (AV.agg [nth (acells w) 0,nth (acells w) 1,nth (acells w) 2,nth (acells w) 3]))=M.pure v.av:=by simp
def tickM (m:Ms):Ms:={ m with fuel:=m.fuel - 1 }
theorem rep_tick {p:List Mod} {nm:SNm} {tag:Nat→Nat} {dv cv sv:AV} {m:Ms} {h:Hp} (R:RepT (rowP p nm.told) nm tag dv cv sv m h):RepT (rowP p nm.told) nm tag dv cv sv (tickM m) (h.set 0 (rowP p nm.told (tickM m) dv cv sv)):=R.set0 rfl rfl rfl id
theorem step0 {p:List Mod} {nm:SNm} {m:Ms} {h:Hp} (R:RepP p nm m h):∃ h1,RepP p nm (tickM m) h1 ∧
  (∀ f:AV→M AV,bnd (loadH T 3 (.hp 0 2)) f h=f (.int .i64 m.fuel) h)∧(∀ f:AV→M AV,bnd (storeH T 3 (.hp 0 2) (.int .i64 (m.fuel - 1))) f h=f (.tup []) h1):=by
 obtain ⟨tag,dv,cv,sv,R⟩:=R
 refine ⟨_,⟨tag,dv,cv,sv,rep_tick R⟩,fun f=>bnd_ok (loadH_one rfl rfl R.r0 rfl),fun f=>bnd_ok (storeH_ok rfl R.r0 rfl (show 2 + 1≤12 by decide) (by decide))⟩
theorem ev_low {p:List Mod} {nm:SNm} {m:Ms} {h:Hp} (R:RepP p nm m h) (hf:¬ 0 < m.fuel) (sc:AV) (e:Exp):callW pg 90 [.hp 0 0,sc,e.av] h = .pan (errAv 16) h:=by
 obtain ⟨tag,dv,cv,sv,R⟩:=R
 have h0:∀ f:AV→M AV,bnd (loadH T 3 (.hp 0 2)) f h=f (.int .i64 m.fuel) h:=fun f=>bnd_ok (loadH_one rfl rfl R.r0 rfl)
 rw [C90]
 simp [S90,h0,hf,bnd_must,mustM,throwM]
def CntOK (e:Exp):Prop:=¬ argsN e.op = -2∧(argsN e.op = -1∨argsN e.op=e.args.length)
theorem ev_cnt {p:List Mod} {nm:SNm} {m:Ms} {h:Hp} (R:RepP p nm m h) (G:GoodM p m) (hf:0 < m.fuel) (sc:AV) (e:Exp) (hc:¬ CntOK e):∃ h1,RepP p nm (tickM m) h1∧callW pg 90 [.hp 0 0,sc,e.av] h = .pan (errAv 13) h1:=by
 obtain ⟨h1,R1,hl,hs⟩:=step0 R
 refine ⟨h1,R1,?_⟩
 have hw:IntKind.i64.wrap (m.fuel - 1)=m.fuel - 1:=wrap_in (by omega) (by have:=G.bud; simp only [mu] at this; omega)
 unfold CntOK at hc
 rw [C90]
 simp [S90,hl,hs,hf,bnd_must,mustM,hw,t119,hc]
 rfl
mutual
def expLim:Exp→Prop
 | .mk _ _ _ _ ns es=>ns.length≤8796093022208∧es.length≤274877906944∧expsLim es
def expsLim:List Exp→Prop
 | []=>True
 | e :: es=>expLim e∧expsLim es
end
theorem expsLim_mem:{l:List Exp} → expsLim l→∀ e∈l,expLim e
 | [],_,_,h=>by cases h
 | x :: l,H,e,h=>by
  simp only [expsLim] at H
  rcases List.mem_cons.1 h with rfl | h
  ·exact H.1
  ·exact expsLim_mem H.2 e h
theorem expLim_arg {e x:Exp} (H:expLim e) (h:x∈e.args):expLim x:=by
 obtain ⟨o,n,s,m,ns,es⟩:=e
 simp only [expLim] at H
 exact expsLim_mem H.2.2 x h
theorem expLim_names {e:Exp} (H:expLim e):e.names.length≤8796093022208∧e.args.length≤274877906944:=by
 obtain ⟨o,n,s,m,ns,es⟩:=e
 simp only [expLim] at H
 exact ⟨H.1,H.2.1⟩
structure LimB (p:List Mod):Prop where
 lim:LimP p
 body:∀ m∈p,∀ f∈m.funcs,expLim f.body∧f.params.length≤274877906944
structure Sc (p:List Mod) (own:Int) (ns:List Str) (vs:List Val) (m:Ms):Prop where
 own:own < p.length
 right:RightS ns vs
 len:(ns.length:Int) + m.fuel≤549755813888
def EvOK (p:List Mod) (nm:SNm) (n:Nat):Prop:=∀ own ns vs e m h,RepP p nm m h→GoodM p m→m.fuel≤n→Sc p own ns vs m→expLim e→OutG p nm Val.av (evalX p n own ns vs e m) (callW pg 90 [.hp 0 0,scopeAv own ns vs,e.av] h)
def BoolOK (p:List Mod) (nm:SNm) (n:Nat):Prop:=∀ own ns vs e m h,RepP p nm m h→GoodM p m→m.fuel≤n→Sc p own ns vs m→expLim e→OutG p nm AV.bool (boolX (evalX p n own ns vs e) m) (callW pg 123 [.hp 0 0,scopeAv own ns vs,e.av] h)
def RecOK (p:List Mod) (nm:SNm) (n:Nat):Prop:=∀ own ns vs e m h,RepP p nm m h→GoodM p m→m.fuel≤n→Sc p own ns vs m→expLim e→OutG p nm Val.av (recordX (evalX p n own ns vs) e m) (callW pg 125 [.hp 0 0,scopeAv own ns vs,e.av] h)
def CallOK (p:List Mod) (nm:SNm) (n:Nat):Prop:=∀ own ns vs e m h,RepP p nm m h→GoodM p m→mu m < 1000000→m.fuel≤n→Sc p own ns vs m→expLim e→OutG p nm Val.av (callX p (evalX p n) own ns vs e m) (callW pg 127 [.hp 0 0,scopeAv own ns vs,e.av] h)
def worldX (p:List Mod) (r:Exp→X Val) (own:Int) (e:Exp):X Val:=if e.op=16 then actX (r e.args[0]!) e else varX p r own e
def WorldOK (p:List Mod) (nm:SNm) (n:Nat):Prop:=∀ own ns vs e m h,e.op=16∨e.op=17∨e.op=18→CntOK e→RepP p nm m h→GoodM p m→mu m < 1000000→m.fuel≤n→Sc p own ns vs m→expLim e→OutG p nm Val.av (worldX p (evalX p n own ns vs) own e m) (callW pg 128 [.hp 0 0,scopeAv own ns vs,e.av] h)
theorem Sc.less {p:List Mod} {own:Int} {ns:List Str} {vs:List Val} {m s:Ms} (H:Sc p own ns vs m) (h:s.fuel≤m.fuel):Sc p own ns vs s:=⟨H.own,H.right,by have:=H.len; omega⟩
theorem t123 {p:List Mod} {nm:SNm} {n:Nat} (IH:EvOK p nm n):BoolOK p nm n:=by
 intro own ns vs e m h R G hn hs he
 unfold boolX
 have hsc:loadA T 145 (.ip (acells (scopeAv own ns vs)))=some (scopeAv own ns vs):=rfl
 have hex:loadA T 31 (.ip (acells e.av))=some e.av:=by simp
 rw [C123]
 simp only [S123,hsc,hex,bnd_some]
 refine out_bind (IH own ns vs e m h R G hn hs he) fun v s h' hv Rs=>?_
 simp only [cellsM_of (okEl_val v),bnd_pure,acells_agg,acells_val,FA71_0,FA71_1,List.drop_zero,LD3,bnd_some,bin_eql,bnd_must,mustM,List.drop_succ_cons]
 by_cases hk:v.kind=1
 ·simp only [hk,beq_self_eq_true,if_true]
  exact out_pure Rs
 ·have:(v.kind == 1)=false:=by simpa using hk
  simp only [hk,this,if_false,Bool.false_eq_true]
  exact out_er Rs
theorem look_snoc:∀ (ns:List Str) (vs:List Val) (n:Str) (v:Val) (s:Str),ns.length=vs.length→lookV (ns++[n]) (vs++[v]) s=if n=s then some v else lookV ns vs s
 | [],[],n,v,s,_=>by simp [lookV]
 | a :: ns,b :: vs,n,v,s,h=>by
  simp only [List.cons_append,lookV,look_snoc ns vs n v s (by simpa using h)]
  by_cases hn:n=s
  ·simp [hn]
  ·simp [hn]
 | [],_ :: _,_,_,_,h=>by simp at h
 | _ :: _,[],_,_,_,h=>by simp at h
def lookM (o:Option Val):M AV:=match o with
 | some v=>M.pure v.av
 | none=>throwM (errAv 12)
theorem loop_var (kk:List AV→M AV) (own:Int) (ns:List Str) (vs:List Val) (e:Exp) (x1 x2 x3 x4:AV) (hl:ns.length=vs.length) (hb:ns.length≤1099511627776):∀ (i:Nat),i≤ns.length →
  fixW (L90_0 (callW pg) fixW kk) [.hp 0 0,.ip [.int .i64 own,strs ns,vals vs],.ip (acells e.av),.int .i64 ((i:Int) - 1),x1,x2,x3,x4] = lookM (lookV (ns.take i) (vs.take i) e.s)
 | 0,_=>by
  have hi:mkIfaceA T 69 (.int .i64 12)=some (errAv 12):=rfl
  rw [FL90_0]
  simp only [L90_0,nth_zero,nth_succ,bin_geq,bnd_some,condM_bool,hi]
  simp [lookV,lookM,panM]
  rfl
 | i + 1,hi=>by
  have ih:=loop_var kk own ns vs e x1 x2 x3 x4 hl hb i (by omega)
  have h1:i < ns.length:=by omega
  have h2:i < vs.length:=by omega
  have h3:(ns.take (i + 1))=ns.take i++[ns[i]]:=by simp
  have h4:(vs.take (i + 1))=vs.take i++[vs[i]]:=by simp
  rw [h3,h4,look_snoc _ _ _ _ _ (by simp; omega),FL90_0]
  have e1:((i + 1:Nat):Int) - 1=(i:Int):=by omega
  rw [e1]
  simp only [L90_0]
  simp (disch:=omega) [wrap_in,IX28,IX61,h1,h2]
  simp only [acells_exp] at ih
  by_cases hs:ns[i] = e.s
  ·simp [hs,lookM]
  ·simp [hs,ih]
end Go.Proofs.YtnipfhmghjdnmaaGreat

namespace Go.Proofs.YtnipfhmghjdnmaaGreat
open Go Go.Av Go.Av.Ap
@[simp] theorem ixe0 (a:Exp) (l:List Exp):indexAddrA T 29 (exps (a :: l)) (.int .i64 0)=some (.ip (acells a.av)):=by
 have:=IX29 (l:=a :: l) (n:=0) (by omega) (by simp <;> omega)
 simpa using this
@[simp] theorem ixe1 (a b:Exp) (l:List Exp):indexAddrA T 29 (exps (a :: b :: l)) (.int .i64 1)=some (.ip (acells b.av)):=by
 have:=IX29 (l:=a :: b :: l) (n:=1) (by omega) (by simp <;> omega)
 simpa using this
@[simp] theorem ixe2 (a b c:Exp) (l:List Exp):indexAddrA T 29 (exps (a :: b :: c :: l)) (.int .i64 2)=some (.ip (acells c.av)):=by
 have:=IX29 (l:=a :: b :: c :: l) (n:=2) (by omega) (by simp <;> omega)
 simpa using this
section
variable (o n:Int) (s m:Str) (ns:List Str) (es:List Exp)
@[simp] theorem op_mk:(Exp.mk o n s m ns es).op=o:=rfl
@[simp] theorem n_mk:(Exp.mk o n s m ns es).n=n:=rfl
@[simp] theorem s_mk:(Exp.mk o n s m ns es).s=s:=rfl
@[simp] theorem m_mk:(Exp.mk o n s m ns es).m=m:=rfl
@[simp] theorem names_mk:(Exp.mk o n s m ns es).names=ns:=rfl
@[simp] theorem args_mk:(Exp.mk o n s m ns es).args=es:=rfl
end
theorem fold_exp' (o n:Int) (s m:Str) (ns:List Str) (es:List Exp):AV.agg [.int .i64 o,.int .i64 n,.str s,.str m,strs ns,exps es] = (Exp.mk o n s m ns es).av:=by rw [Exp.av,Exp.cells_eq]; rfl
theorem fieldV_idx:∀ (ns:List Str) (vs:List Val) (s:Str) (i:Int),ns.length=vs.length→(idxAt (fun x=>s == x) ns i = -1∧fieldV ns vs s=none)∨(∃ (k:Nat) (h:k < vs.length),idxAt (fun x=>s == x) ns i=i + k∧fieldV ns vs s=some vs[k])
 | [],[],s,i,_=>.inl ⟨rfl,rfl⟩
 | n :: ns,v :: vs,s,i,h=>by
  simp only [idxAt,fieldV]
  by_cases hn:n=s
  ·right
   exact ⟨0,by simp,by simp [hn],by simp [hn]⟩
  ·have hn':(s == n)=false:=by simpa using fun e=>hn e.symm
   simp only [if_neg hn,hn',Bool.false_eq_true,if_false]
   rcases fieldV_idx ns vs s (i + 1) (by simpa using h) with ⟨h1,h2⟩ | ⟨k,hk,h1,h2⟩
   ·left
    exact ⟨by simpa using h1,h2⟩
   ·right
    exact ⟨k + 1,by simp; omega,by simp [h1]; omega,by simpa using h2⟩
 | [],_ :: _,_,_,h=>by simp at h
 | _ :: _,[],_,_,h=>by simp at h
theorem pureX_out {p:List Mod} {nm:SNm} {x:X Val} (hx:(∃ v,x = .ok v)∨(∃ e,x = .er e)) {m:Ms} {h:Hp} (R:RepP p nm m h):OutG p nm Val.av (x m) (pureX x h):=by
 rcases hx with ⟨v,rfl⟩ | ⟨e,rfl⟩
 ·exact out_pure R
 ·exact out_er R
theorem binX_pure (op:Int) (a b:Val):(∃ v,binX op a b = .ok v)∨(∃ e,binX op a b = .er e):=by
 unfold binX
 split
 ·split
  ·exact .inl ⟨_,rfl⟩
  ·exact .inr ⟨_,rfl⟩
 ·split
  ·split
   ·exact .inl ⟨_,rfl⟩
   ·split
    ·exact .inl ⟨_,rfl⟩
    ·split
     ·exact .inl ⟨_,rfl⟩
     ·exact .inl ⟨_,rfl⟩
  ·exact .inr ⟨_,rfl⟩
theorem len1 {l:List Exp} (h:l.length=1):∃ a,l = [a]:=by
 match l,h with
 | [a],_=>exact ⟨a,rfl⟩
theorem len2 {l:List Exp} (h:l.length=2):∃ a b,l = [a,b]:=by
 match l,h with
 | [a,b],_=>exact ⟨a,b,rfl⟩
theorem len3 {l:List Exp} (h:l.length=3):∃ a b c,l = [a,b,c]:=by
 match l,h with
 | [a,b,c],_=>exact ⟨a,b,c,rfl⟩
theorem out_ite {α:Type} {p:List Mod} {nm:SNm} {enc:α→AV} {c:Prop} [Decidable c] {x y:X α} {a b:M AV} {m:Ms} {h:Hp} (h1:c→OutG p nm enc (x m) (a h)) (h2:¬ c→OutG p nm enc (y m) (b h)):OutG p nm enc ((if c then x else y) m) ((if c then a else b) h):=by
 split
 ·exact h1 ‹_›
 ·exact h2 ‹_›
theorem eq_bool (a b:Bool):binA T .eql 4 (.bool a) (.bool b)=some (.bool (a == b)):=by cases a <;> cases b <;> rfl
theorem wrap4' (v:Val) (h:Hp):bnd (cellsNil 4 [] v.av) (fun w=>M.pure (AV.agg [nth (acells w) 0,nth (acells w) 1,nth (acells w) 2,nth (acells w) 3])) h=M.pure v.av h:=by rw [wrap4]
theorem out_wrap {p:List Mod} {nm:SNm} {r:Rs Val} {c:M AV} {h:Hp} (H:OutG p nm Val.av r (c h)):OutG p nm Val.av r (bnd c (fun v=>bnd (cellsNil 4 [] v) fun w=>M.pure (AV.agg [nth (acells w) 0,nth (acells w) 1,nth (acells w) 2,nth (acells w) 3])) h):=by
 cases r with
 | ok v s =>
  obtain ⟨h',h1,h2⟩:=H
  refine ⟨h',?_,h2⟩
  rw [bnd_ok h1,wrap4]
  rfl
 | er e s =>
  obtain ⟨h',h1,h2⟩:=H
  exact ⟨h',bnd_pan h1,h2⟩
theorem eval_step {p:List Mod} {nm:SNm} {n:Nat} (IH:EvOK p nm n) (IR:RecOK p nm n) (IC:CallOK p nm n) (IW:WorldOK p nm n):EvOK p nm (n + 1):=by
 intro own ns vs e m h R G hn hs he
 have IB:=t123 IH
 by_cases hf:0 < m.fuel
 rotate_left
 ·have e1:evalX p (n + 1) own ns vs e m = .er 16 m:=by
   show stepX p (evalX p n) own ns vs e m=_
   unfold stepX X.get
   simp only
   rw [if_pos (by omega)]
   rfl
  rw [e1]
  exact ⟨h,ev_low R hf _ e,R⟩
 have hspec:evalX p (n + 1) own ns vs e m=(if argsN e.op = -2∨(argsN e.op ≠ -1∧argsN e.op≠e.args.length) then .er 13
   else if e.op=0 then .ok (numV e.n)
   else if e.op=1 then (if e.n=0∨e.n=1 then .ok (truthV (e.n == 1)) else .er 13)
   else if e.op=2 then (match lookV ns vs e.s with | some v=>.ok v | none=>.er 12)
   else if e.op=3∨e.op=4∨e.op=5∨e.op=6∨e.op=7 then (evalX p n own ns vs e.args[0]!).bind fun a=>(evalX p n own ns vs e.args[1]!).bind fun b=>binX e.op a b
   else if e.op=8∨e.op=9 then (boolX (evalX p n own ns vs e.args[0]!)).bind fun x=>if x=(e.op == 9) then .ok (truthV (e.op == 9)) else (boolX (evalX p n own ns vs e.args[1]!)).bind fun y=>.ok (truthV y)
   else if e.op=10 then (boolX (evalX p n own ns vs e.args[0]!)).bind fun x=>.ok (truthV !x)
   else if e.op=11 then (boolX (evalX p n own ns vs e.args[0]!)).bind fun x=>if x=true then evalX p n own ns vs e.args[1]! else evalX p n own ns vs e.args[2]!
   else if e.op=12 then (evalX p n own ns vs e.args[0]!).bind fun v=>evalX p n own (ns++[e.s]) (vs++[v]) e.args[1]!
   else if e.op=13 then recordX (evalX p n own ns vs) e
   else if e.op=14 then (evalX p n own ns vs e.args[0]!).bind fun v=>(match fieldV v.names v.values e.s with | some x=>if v.kind=2 then .ok x else .er 13 | none=>.er 13)
   else if e.op=15 then callX p (evalX p n) own ns vs e
   else worldX p (evalX p n own ns vs) own e:X Val) (tickM m):=by
  show stepX p (evalX p n) own ns vs e m=_
  unfold stepX X.get
  simp only
  rw [if_neg (by omega)]
  have hw:(if e.op=16 then actX (evalX p n own ns vs e.args[0]!) e else varX p (evalX p n own ns vs) own e)=worldX p (evalX p n own ns vs) own e:=rfl
  rw [hw]
  rfl
 have hbm:=G.bud
 have G1:GoodM p (tickM m):=⟨G.right,by simp only [mu,tickM] at hbm ⊢; omega,G.fr,by simp only [tickM]; omega,G.shape⟩
 have hmu:mu (tickM m) < 1000000:=by simp only [mu,tickM] at hbm ⊢; omega
 have hn1:(tickM m).fuel≤n:=by simp only [tickM]; omega
 have hft:(tickM m).fuel≤m.fuel:=by simp only [tickM]; omega
 have hs1:Sc p own ns vs (tickM m):=hs.less hft
 by_cases hc:CntOK e
 rotate_left
 ·obtain ⟨h1,R1,e1⟩:=ev_cnt R G hf (scopeAv own ns vs) e hc
  have hc':argsN e.op = -2∨(argsN e.op ≠ -1∧argsN e.op≠e.args.length):=by
   unfold CntOK at hc
   by_cases k:argsN e.op = -2
   ·exact .inl k
   ·right
    exact ⟨fun k2=>hc ⟨k,.inl k2⟩,fun k2=>hc ⟨k,.inr k2⟩⟩
  rw [hspec,if_pos hc']
  exact ⟨h1,e1,R1⟩
 obtain ⟨h1,R1,hl,hst⟩:=step0 R
 have hw:IntKind.i64.wrap (m.fuel - 1)=m.fuel - 1:=wrap_in (by omega) (by simp only [mu] at hbm; omega)
 have hc':¬ (argsN e.op = -2∨(argsN e.op ≠ -1∧argsN e.op≠e.args.length)):=by
  unfold CntOK at hc
  rintro (k | ⟨k1,k2⟩)
  ·exact hc.1 k
  ·rcases hc.2 with k | k
   ·exact k1 k
   ·exact k2 k
 rw [hspec,if_neg hc']
 have hcc:=hc
 have hce:=hc.2
 obtain ⟨op,en,es,em,en2,ea⟩:=e
 simp only [op_mk,n_mk,s_mk,args_mk] at hce ⊢
 unfold CntOK at hc
 simp only [op_mk,args_mk] at hc
 generalize hcode:callW pg 90 [.hp 0 0,scopeAv own ns vs,(Exp.mk op en es em en2 ea).av] h=code
 rw [C90] at hcode
 have hW:∀ v:Val,∀ h,bnd (cellsNil 4 [] v.av) (fun w=>M.pure (AV.agg [nth (acells w) 0,nth (acells w) 1,nth (acells w) 2,nth (acells w) 3])) h=M.pure v.av h:=wrap4'
 by_cases k0:op=0
 ·subst k0
  have hlen:ea.length=0:=by simp [argsN] at hce; omega
  obtain rfl:=List.eq_nil_of_length_eq_zero hlen
  simp [S90,hl,hst,hf,bnd_must,mustM,hw,t119,argsN,K90_2,K90_1,K90_0,fold_scope,t120] at hcode
  simp
  rw [← hcode]
  exact out_pure (a:=numV en) R1
 by_cases k1:op=1
 ·subst k1
  have hlen:ea.length=0:=by simp [argsN] at hce; omega
  obtain rfl:=List.eq_nil_of_length_eq_zero hlen
  simp [S90,hl,hst,hf,bnd_must,mustM,hw,t119,argsN,K90_2,K90_1,K90_0,fold_scope,t121] at hcode
  simp
  rw [← hcode]
  exact out_ite (fun _=>out_pure (a:=truthV (en == 1)) R1) (fun _=>out_er R1)
 by_cases k2:op=2
 ·subst k2
  have hlen:ea.length=0:=by simp [argsN] at hce; omega
  obtain rfl:=List.eq_nil_of_length_eq_zero hlen
  have hnl:=hs.right.1
  have hns:(ns.length:Int)≤549755813888:=by have:=hs.len; omega
  have hloop:=loop_var (K90_0 (callW pg) fixW) own ns vs (.mk 2 en es em en2 []) (.int .i64 0) (.int .i64 0) (.sl []) (.sl []) hnl (by omega) ns.length (Nat.le_refl _)
  have hwl:IntKind.i64.wrap ((ns.length:Int) - 1)=(ns.length:Int) - 1:=wrap_in (by omega) (by omega)
  rw [List.take_length,hnl,List.take_length] at hloop
  simp only [acells_exp,op_mk,n_mk,s_mk,m_mk,names_mk,args_mk] at hloop
  simp [S90,hl,hst,hf,bnd_must,mustM,hw,t119,argsN,hwl] at hcode
  rw [hnl,hloop] at hcode
  simp
  rw [← hcode]
  cases lookV ns vs es with
  | none=>exact out_er R1
  | some v=>exact out_pure R1
 by_cases k3:op=3
 ·subst k3
  have hlen:ea.length=2:=by simp [argsN] at hce; omega
  obtain ⟨a,b,rfl⟩:=len2 hlen
  have ha:expLim a:=expLim_arg he (by simp)
  have hb:expLim b:=expLim_arg he (by simp)
  simp [S90,hl,hst,hf,bnd_must,mustM,hw,t119,argsN,K90_2,K90_1,K90_0,fold_scope] at hcode
  simp
  rw [← hcode]
  refine out_bind (IH own ns vs a _ _ R1 G1 hn1 hs1 ha) fun x s1 h2 hx R2=>?_
  obtain ⟨G2,_,f2⟩:=G1.eval hs1.right hx
  refine out_bind (IH own ns vs b _ _ R2 G2 (by omega) (hs1.less f2) hb) fun y s2 h3 hy R3=>?_
  rw [t122 3 x y (by simp)]
  exact out_wrap (c:=pureX (binX 3 x y)) (pureX_out (binX_pure _ _ _) R3)
 by_cases k4:op=4
 ·subst k4
  have hlen:ea.length=2:=by simp [argsN] at hce; omega
  obtain ⟨a,b,rfl⟩:=len2 hlen
  have ha:expLim a:=expLim_arg he (by simp)
  have hb:expLim b:=expLim_arg he (by simp)
  simp [S90,hl,hst,hf,bnd_must,mustM,hw,t119,argsN,K90_2,K90_1,K90_0,fold_scope] at hcode
  simp
  rw [← hcode]
  refine out_bind (IH own ns vs a _ _ R1 G1 hn1 hs1 ha) fun x s1 h2 hx R2=>?_
  obtain ⟨G2,_,f2⟩:=G1.eval hs1.right hx
  refine out_bind (IH own ns vs b _ _ R2 G2 (by omega) (hs1.less f2) hb) fun y s2 h3 hy R3=>?_
  rw [t122 4 x y (by simp)]
  exact out_wrap (c:=pureX (binX 4 x y)) (pureX_out (binX_pure _ _ _) R3)
 by_cases k5:op=5
 ·subst k5
  have hlen:ea.length=2:=by simp [argsN] at hce; omega
  obtain ⟨a,b,rfl⟩:=len2 hlen
  have ha:expLim a:=expLim_arg he (by simp)
  have hb:expLim b:=expLim_arg he (by simp)
  simp [S90,hl,hst,hf,bnd_must,mustM,hw,t119,argsN,K90_2,K90_1,K90_0,fold_scope] at hcode
  simp
  rw [← hcode]
  refine out_bind (IH own ns vs a _ _ R1 G1 hn1 hs1 ha) fun x s1 h2 hx R2=>?_
  obtain ⟨G2,_,f2⟩:=G1.eval hs1.right hx
  refine out_bind (IH own ns vs b _ _ R2 G2 (by omega) (hs1.less f2) hb) fun y s2 h3 hy R3=>?_
  rw [t122 5 x y (by simp)]
  exact out_wrap (c:=pureX (binX 5 x y)) (pureX_out (binX_pure _ _ _) R3)
 by_cases k6:op=6
 ·subst k6
  have hlen:ea.length=2:=by simp [argsN] at hce; omega
  obtain ⟨a,b,rfl⟩:=len2 hlen
  have ha:expLim a:=expLim_arg he (by simp)
  have hb:expLim b:=expLim_arg he (by simp)
  simp [S90,hl,hst,hf,bnd_must,mustM,hw,t119,argsN,K90_2,K90_1,K90_0,fold_scope] at hcode
  simp
  rw [← hcode]
  refine out_bind (IH own ns vs a _ _ R1 G1 hn1 hs1 ha) fun x s1 h2 hx R2=>?_
  obtain ⟨G2,_,f2⟩:=G1.eval hs1.right hx
  refine out_bind (IH own ns vs b _ _ R2 G2 (by omega) (hs1.less f2) hb) fun y s2 h3 hy R3=>?_
  rw [t122 6 x y (by simp)]
  exact out_wrap (c:=pureX (binX 6 x y)) (pureX_out (binX_pure _ _ _) R3)
 by_cases k7:op=7
 ·subst k7
  have hlen:ea.length=2:=by simp [argsN] at hce; omega
  obtain ⟨a,b,rfl⟩:=len2 hlen
  have ha:expLim a:=expLim_arg he (by simp)
  have hb:expLim b:=expLim_arg he (by simp)
  simp [S90,hl,hst,hf,bnd_must,mustM,hw,t119,argsN,K90_2,K90_1,K90_0,fold_scope] at hcode
  simp
  rw [← hcode]
  refine out_bind (IH own ns vs a _ _ R1 G1 hn1 hs1 ha) fun x s1 h2 hx R2=>?_
  obtain ⟨G2,_,f2⟩:=G1.eval hs1.right hx
  refine out_bind (IH own ns vs b _ _ R2 G2 (by omega) (hs1.less f2) hb) fun y s2 h3 hy R3=>?_
  rw [t122 7 x y (by simp)]
  exact out_wrap (c:=pureX (binX 7 x y)) (pureX_out (binX_pure _ _ _) R3)
 by_cases k8:op=8
 ·subst k8
  have hlen:ea.length=2:=by simp [argsN] at hce; omega
  obtain ⟨a,b,rfl⟩:=len2 hlen
  have ha:expLim a:=expLim_arg he (by simp)
  have hb:expLim b:=expLim_arg he (by simp)
  simp [S90,hl,hst,hf,bnd_must,mustM,hw,t119,argsN,K90_2,K90_1,K90_0,fold_scope] at hcode
  simp
  rw [← hcode]
  refine out_bind (IB own ns vs a _ _ R1 G1 hn1 hs1 ha) fun x s1 h2 hx R2=>?_
  obtain ⟨G2,f2⟩:=G1.bool hs1.right hx
  rw [eq_bool]
  simp only [bnd_some,condM_bool]
  cases x
  ·simp [t121]
   exact out_pure R2
  ·simp [t121]
   refine out_bind (IB own ns vs b _ _ R2 G2 (by omega) (hs1.less f2) hb) fun y s2 h3 hy R3=>?_
   simp only [t121,noPan_pure,bnd_pure,hW]
   exact out_pure R3
 by_cases k9:op=9
 ·subst k9
  have hlen:ea.length=2:=by simp [argsN] at hce; omega
  obtain ⟨a,b,rfl⟩:=len2 hlen
  have ha:expLim a:=expLim_arg he (by simp)
  have hb:expLim b:=expLim_arg he (by simp)
  simp [S90,hl,hst,hf,bnd_must,mustM,hw,t119,argsN,K90_2,K90_1,K90_0,fold_scope] at hcode
  simp
  rw [← hcode]
  refine out_bind (IB own ns vs a _ _ R1 G1 hn1 hs1 ha) fun x s1 h2 hx R2=>?_
  obtain ⟨G2,f2⟩:=G1.bool hs1.right hx
  rw [eq_bool]
  simp only [bnd_some,condM_bool]
  cases x
  ·simp [t121]
   refine out_bind (IB own ns vs b _ _ R2 G2 (by omega) (hs1.less f2) hb) fun y s2 h3 hy R3=>?_
   simp only [t121,noPan_pure,bnd_pure,hW]
   exact out_pure R3
  ·simp [t121]
   exact out_pure R2
 by_cases k10:op=10
 ·subst k10
  have hlen:ea.length=1:=by simp [argsN] at hce; omega
  obtain ⟨a,rfl⟩:=len1 hlen
  have ha:expLim a:=expLim_arg he (by simp)
  simp [S90,hl,hst,hf,bnd_must,mustM,hw,t119,argsN,K90_2,K90_1,K90_0,fold_scope] at hcode
  simp
  rw [← hcode]
  refine out_bind (IB own ns vs a _ _ R1 G1 hn1 hs1 ha) fun x s1 h2 hx R2=>?_
  simp only [unA_not,bnd_some,t121,noPan_pure,bnd_pure,hW]
  exact out_pure R2
 by_cases k11:op=11
 ·subst k11
  have hlen:ea.length=3:=by simp [argsN] at hce; omega
  obtain ⟨a,b,c,rfl⟩:=len3 hlen
  have ha:expLim a:=expLim_arg he (by simp)
  have hb:expLim b:=expLim_arg he (by simp)
  have hc3:expLim c:=expLim_arg he (by simp)
  simp [S90,hl,hst,hf,bnd_must,mustM,hw,t119,argsN,K90_2,K90_1,K90_0,fold_scope] at hcode
  simp
  rw [← hcode]
  refine out_bind (IB own ns vs a _ _ R1 G1 hn1 hs1 ha) fun x s1 h2 hx R2=>?_
  obtain ⟨G2,f2⟩:=G1.bool hs1.right hx
  simp only [condM_bool]
  exact out_ite (fun _=>out_wrap (IH own ns vs b _ _ R2 G2 (by omega) (hs1.less f2) hb)) (fun _=>out_wrap (IH own ns vs c _ _ R2 G2 (by omega) (hs1.less f2) hc3))
 by_cases k12:op=12
 ·subst k12
  have hlen:ea.length=2:=by simp [argsN] at hce; omega
  obtain ⟨a,b,rfl⟩:=len2 hlen
  have ha:expLim a:=expLim_arg he (by simp)
  have hb:expLim b:=expLim_arg he (by simp)
  simp [S90,hl,hst,hf,bnd_must,mustM,hw,t119,argsN,K90_2,K90_1,K90_0,fold_scope] at hcode
  simp
  rw [← hcode]
  refine out_bind (IH own ns vs a _ _ R1 G1 hn1 hs1 ha) fun x s1 h2 hx R2=>?_
  obtain ⟨G2,rx,f2⟩:=G1.eval hs1.right hx
  have hsl:=hs1.len
  have hrl:=hs1.right.1
  have hfu:=G1.fuel
  rw [t124 own ns vs es x (by omega) (by omega)]
  simp only [noPan_pure,bnd_pure]
  refine out_wrap (IH own (ns++[es]) (vs++[x]) b _ _ R2 G2 (by omega) ⟨hs1.own,⟨by simp [hrl],fun w hw=>?_⟩,?_⟩ hb)
  ·rcases List.mem_append.1 hw with k | k
   ·exact hs1.right.2 w k
   ·simp only [List.mem_singleton] at k; subst k; exact rx
  ·have:(tickM m).fuel=m.fuel - 1:=rfl
   have:=hs.len
   simp only [List.length_append,List.length_singleton]
   omega
 by_cases k13:op=13
 ·subst k13
  simp [S90,hl,hst,hf,bnd_must,mustM,hw,t119,argsN,K90_2,K90_1,K90_0,fold_scope,fold_exp'] at hcode
  simp
  rw [← hcode]
  exact out_wrap (IR own ns vs _ _ _ R1 G1 hn1 hs1 he)
 by_cases k14:op=14
 ·subst k14
  have hlen:ea.length=1:=by simp [argsN] at hce; omega
  obtain ⟨a,rfl⟩:=len1 hlen
  have ha:expLim a:=expLim_arg he (by simp)
  simp [S90,hl,hst,hf,bnd_must,mustM,hw,t119,argsN,K90_2,K90_1,K90_0,fold_scope] at hcode
  simp
  rw [← hcode]
  refine out_bind (IH own ns vs a _ _ R1 G1 hn1 hs1 ha) fun x s1 h2 hx R2=>?_
  obtain ⟨G2,rx,f2⟩:=G1.eval hs1.right hx
  have hrl:=right_lens rx
  have h8:=right_len8 rx
  have hi:=t126 x.names es (by omega)
  rw [cellsM_of (okEl_val x)]
  simp only [bnd_pure,acells_agg,acells_val,List.drop_succ_cons,List.drop_zero,LD28,LD61,LD3,bnd_some,hi,bin_eql,bin_geq,guardM_pure1,nth_zero,pickA_and,bnd_must,mustM]
  rcases fieldV_idx x.names x.values es 0 hrl with ⟨j1,j2⟩ | ⟨k,hk,j1,j2⟩
  ·rw [j1,j2]
   simp only [show decide ((0:Int) ≤ -1)=false by decide,Bool.and_false,Bool.false_eq_true,if_false]
   exact out_er R2
  ·rw [j1,j2]
   have hk0:decide ((0:Int)≤0 + (k:Int))=true:=by simp
   rw [hk0]
   simp only [Bool.and_true]
   by_cases hk2:x.kind=2
   ·have hix:=IX61 (l:=x.values) (n:=0 + (k:Int)) (by omega) (by omega)
    have e5:(0 + (k:Int)).toNat=k:=by omega
    rw [e5,getElem!_pos x.values k hk] at hix
    have hld:loadA T 71 (.ip (acells (x.values[k]).av))=some (x.values[k]).av:=by simp
    simp only [hk2,beq_self_eq_true,if_true,hix,bnd_some,hld,hW]
    exact out_pure R2
   ·have hk2':(x.kind == 2)=false:=by simpa using hk2
    simp only [hk2,hk2',Bool.false_eq_true,if_false]
    exact out_er R2
 by_cases k15:op=15
 ·subst k15
  simp [S90,hl,hst,hf,bnd_must,mustM,hw,t119,argsN,K90_2,K90_1,K90_0,fold_scope,fold_exp'] at hcode
  simp
  rw [← hcode]
  exact out_wrap (IC own ns vs _ _ _ R1 G1 hmu hn1 hs1 he)
 by_cases k16:op=16
 ·subst k16
  simp [S90,hl,hst,hf,bnd_must,mustM,hw,t119,argsN,K90_2,K90_1,K90_0,fold_scope,fold_exp'] at hcode
  have hce':argsN 16=ea.length:=by simp only [argsN] at hce ⊢; simpa using hce
  simp only [argsN] at hce'
  simp at hce'
  simp [← hce'] at hcode
  simp
  rw [← hcode]
  exact out_wrap (IW own ns vs (.mk 16 en es em en2 ea) _ _ (by simp) hcc R1 G1 hmu hn1 hs1 he)
 by_cases k17:op=17
 ·subst k17
  simp [S90,hl,hst,hf,bnd_must,mustM,hw,t119,argsN,K90_2,K90_1,K90_0,fold_scope,fold_exp'] at hcode
  have hce':argsN 17=ea.length:=by simp only [argsN] at hce ⊢; simpa using hce
  simp only [argsN] at hce'
  simp at hce'
  simp [← hce'] at hcode
  simp
  rw [← hcode]
  exact out_wrap (IW own ns vs (.mk 17 en es em en2 ea) _ _ (by simp) hcc R1 G1 hmu hn1 hs1 he)
 by_cases k18:op=18
 ·subst k18
  simp [S90,hl,hst,hf,bnd_must,mustM,hw,t119,argsN,K90_2,K90_1,K90_0,fold_scope,fold_exp'] at hcode
  have hce':argsN 18=ea.length:=by simp only [argsN] at hce ⊢; simpa using hce
  simp only [argsN] at hce'
  simp at hce'
  simp [← hce'] at hcode
  simp
  rw [← hcode]
  exact out_wrap (IW own ns vs (.mk 18 en es em en2 ea) _ _ (by simp) hcc R1 G1 hmu hn1 hs1 he)
 exfalso
 apply hc.1
 simp [argsN,k0,k1,k2,k3,k4,k5,k6,k7,k8,k9,k10,k11,k12,k13,k14,k15,k16,k17,k18]
end Go.Proofs.YtnipfhmghjdnmaaGreat

namespace Go.Proofs.YtnipfhmghjdnmaaGreat
open Go Go.Av Go.Av.Ap
theorem xbind_assoc {α β γ:Type} (x:X α) (f:α→X β) (g:β→X γ):(x.bind f).bind g=x.bind fun a=>(f a).bind g:=by
 funext m
 unfold X.bind
 cases x m <;> rfl
theorem xbind_ok {α β:Type} (a:α) (f:α→X β):(X.ok a).bind f=f a:=rfl
theorem t169 (l:List Str) (h:l.length≤8796093022208):callW pg 169 [strs l] = M.pure (strs l):=by
 have e:callW pg 169 [strs l] = cloneV T 28 (callW pg) [strs l]:=callW_other hOther rfl _
 rw [e]
 show lft (appA T 28 (.sl []) (strs l))=_
 have:=AP28 (a:=[]) (b:=l) (by simp; omega)
 simp only [List.nil_append] at this
 show lft (appA T 28 (strs []) (strs l))=_
 rw [this]
 rfl
theorem loop_rec {p:List Mod} {nm:SNm} {n:Nat} (IH:EvOK p nm n) (own:Int) (ns:List Str) (vs:List Val) (en:List Str) (es:List Exp) (x5 x6 x7 x8:AV) (hes:∀ e∈es,expLim e) (h8:es.length≤8) :
  ∀ (B A:List Exp) (acc:List Val) (m:Ms) (h:Hp),A++B=es→acc.length=A.length→(∀ v∈acc,Rv v)→en.length≤8→RepP p nm m h→GoodM p m→m.fuel≤n→Sc p own ns vs m →
  OutG p nm Val.av ((listX (evalX p n own ns vs) B).bind (fun ws=>if levelV (.mk 2 0 en (acc++ws))≤4 then .ok (.mk 2 0 en (acc++ws)) else .er 6) m)
   (fixW (L125_0 (callW pg) fixW) [.hp 0 0,.ip (acells (scopeAv own ns vs)),exps es,.int .i64 es.length,.int .i64 A.length,x5,x6,x7,x8,.int .i64 2,.int .i64 0,strs en,vals acc] h)
 | [], A,acc,m,h,e,ha,hr,hen,R,G,hn,hs=>by
  simp only [List.append_nil] at e
  subst e
  have hsz:(Val.mk 2 0 en acc).sz≤1099511627776:=by
   have h2:valsSz acc≤acc.length * 200000:=by
    have key:∀ l:List Val,(∀ v∈l,Rv v)→valsSz l≤l.length * 200000:=by
     intro l
     induction l with
     | nil=>intro _; simp [valsSz]
     | cons v l ih =>
      intro h
      have h1:=right_sz (h v List.mem_cons_self)
      have h2:=ih fun w hw=>h w (List.mem_cons_of_mem _ hw)
      simp only [valsSz,List.length_cons]
      omega
    exact key acc hr
   simp only [Val.sz]
   have:acc.length * 200000≤8 * 200000:=Nat.mul_le_mul_right _ (by omega)
   omega
  have hlv:=t170 _ (.mk 2 0 en acc) (Nat.le_refl _) hsz
  rw [Val.av_eq] at hlv
  simp only [Val.kind_mk,Val.n_mk,Val.names_mk,Val.values_mk] at hlv
  have hw:∀ h,bnd (cellsNil 4 [] (AV.agg [.int .i64 2,.int .i64 0,strs en,vals acc])) (fun w=>M.pure (AV.agg [nth (acells w) 0,nth (acells w) 1,nth (acells w) 2,nth (acells w) 3])) h=M.pure (Val.mk 2 0 en acc).av h:=fun h=>by
   have:=wrap4' (Val.mk 2 0 en acc) h
   rw [Val.av_eq] at this ⊢
   exact this
  rw [FL125_0]
  simp only [listX,xbind_ok,List.append_nil]
  simp only [L125_0,nth_zero,nth_succ,bin_lss,bnd_some,condM_bool,Int.lt_irrefl,decide_false,Bool.false_eq_true,if_false,hlv,bnd_pure,bin_leq,bnd_must,mustM,hw]
  by_cases h4:levelV (.mk 2 0 en acc)≤4
  ·have h4':decide (((levelV (.mk 2 0 en acc):Nat):Int)≤4)=true:=by simp; omega
   simp only [h4,h4',if_true,hw]
   exact out_pure R
  ·have h4':decide (((levelV (.mk 2 0 en acc):Nat):Int)≤4)=false:=by simp; omega
   simp only [h4,h4',Bool.false_eq_true,if_false]
   exact out_er R
 | x :: B,A,acc,m,h,e,ha,hr,hen,R,G,hn,hs=>by
  have hll:A.length + (B.length + 1)=es.length:=by rw [← e]; simp
  have h1:(A.length:Int) < (es.length:Int):=by omega
  have hx:es[A.length]'(by omega)=x:=by subst e; simp
  have hm:x∈es:=by rw [← e]; simp
  have hi:=IX29 (l:=es) (n:=(A.length:Int)) (by omega) h1
  rw [show ((A.length:Int)).toNat=A.length by omega,getElem!_pos es A.length (by omega),hx] at hi
  have hsc:loadA T 145 (.ip (acells (scopeAv own ns vs)))=some (scopeAv own ns vs):=rfl
  have hex:loadA T 31 (.ip (acells x.av))=some x.av:=by simp
  rw [FL125_0]
  simp only [listX,xbind_assoc,xbind_ok]
  simp only [L125_0,nth_zero,nth_succ,bin_lss,bnd_some,condM_bool,h1,decide_true,if_true,hi,hex,cellsM_of (okEl_exp x),bnd_pure,hsc,acells_agg]
  refine out_bind (IH own ns vs x m h R G hn hs (hes x hm)) fun v s h' hv Rs=>?_
  obtain ⟨G2,rv,f2⟩:=G.eval hs.right hv
  have hb2:buildSliceA T 61 1 [(0,v.av)] = some (vals [v]):=by rw [v.av_eq]; simp [vals,valsAv,v.av_eq]; rfl
  have ha2:appA T 61 (vals acc) (vals [v])=some (vals (acc++[v])):=AP61 (by simp; omega)
  have hc1:cell1M (vals (acc++[v]))=M.pure (vals (acc++[v])):=rfl
  have hw:IntKind.i64.wrap ((A.length:Int) + 1)=((A.length + 1:Nat):Int):=wrap_add1 (by omega)
  simp only [hb2,bnd_some,ha2,hc1,bnd_pure,bin_add,hw]
  have ih:=loop_rec IH own ns vs en es x5 x6 x7 x8 hes h8 B (A++[x]) (acc++[v]) s h' (by rw [← e]; simp) (by simp [ha]) (fun w hw=>by
   rcases List.mem_append.1 hw with k | k
   ·exact hr w k
   ·simp only [List.mem_singleton] at k; subst k; exact rv) hen Rs G2 (by omega) (hs.less f2)
  simp only [List.append_assoc,List.singleton_append,List.length_append,List.length_singleton] at ih
  exact ih
theorem t125 {p:List Mod} {nm:SNm} {n:Nat} (IH:EvOK p nm n):RecOK p nm n:=by
 intro own ns vs e m h R G hn hs he
 obtain ⟨l1,l2⟩:=expLim_names he
 unfold recordX
 have ha:=t165 e.names (by omega)
 have hcl:=t169 e.names (by omega)
 have hB:buildA T true 71 [(0,.int .i64 2),(2,strs e.names)] = some (.agg [.int .i64 2,.int .i64 0,strs e.names,.hn]):=rfl
 have hC:cellsNil 4 [3] (.agg [.int .i64 2,.int .i64 0,strs e.names,.hn])=M.pure (.agg [.int .i64 2,.int .i64 0,strs e.names,.hn]):=rfl
 rw [C125]
 simp only [S125,acells_exp,FA31_4,FA31_5,List.drop_succ_cons,List.drop_zero,LD28,LD29,LENE28,LENE29,bnd_some,bin_eql,ha,bnd_pure,guardM_pure1,nth_zero,nth_succ,pickA_and,bnd_must,mustM,bin_leq,hcl,hB,hC,acells_agg]
 have hsc:(AV.ip (acells (scopeAv own ns vs))) = .ip [.int .i64 own,strs ns,vals vs]:=rfl
 by_cases hl:e.names.length=e.args.length
 ·by_cases hasc:asc e.names=true
  ·have e1:((e.names.length:Int) == (e.args.length:Int)&&asc e.names)=true:=by simp [hl,hasc]
   simp only [hl,hasc,e1,and_self,if_true]
   by_cases h8:e.args.length≤8
   ·have h8':decide ((e.args.length:Int)≤8)=true:=by simp; omega
    have e2:((e.args.length:Int) == (e.args.length:Int)&&true)=true:=by simp
    simp only [h8,h8',e2,if_true]
    have:=loop_rec IH own ns vs e.names e.args (.int .i64 0) (.int .i64 0) (.sl []) (.sl []) (fun x hx=>expLim_arg he hx) h8 e.args [] [] m h rfl rfl (fun v hv=>by cases hv) (by omega) R G hn hs
    simp only [List.nil_append] at this
    exact this
   ·have h8':decide ((e.args.length:Int)≤8)=false:=by simp; omega
    have e2:((e.args.length:Int) == (e.args.length:Int)&&true)=true:=by simp
    simp only [h8,h8',e2,if_true,Bool.false_eq_true,if_false]
    exact out_er R
  ·have e1:((e.names.length:Int) == (e.args.length:Int)&&false)=false:=by simp
   have hasc':asc e.names=false:=by simpa using hasc
   simp only [e1,hasc',and_false,Bool.false_eq_true,if_false]
   exact out_er R
 ·have e1:((e.names.length:Int) == (e.args.length:Int)&&asc e.names)=false:=by
   have:((e.names.length:Int) == (e.args.length:Int))=false:=by
    rw [beq_eq_false_iff_ne]
    omega
   rw [this]
   rfl
  simp only [e1,hl,false_and,Bool.false_eq_true,if_false]
  exact out_er R
end Go.Proofs.YtnipfhmghjdnmaaGreat

namespace Go.Proofs.YtnipfhmghjdnmaaGreat
open Go Go.Av Go.Av.Ap
theorem okEl_call3 (s t:Str) (v:AV) (h:okCell v=true):okEl 3 (.agg [.str s,.str t,v])=true:=by
 simp only [okEl,sizeA,acells,List.all_cons,List.all_nil]
 rw [h]
 rfl
theorem clone_args {p:List Mod} {nm:SNm} {tag:Nat→Nat} {dv cv sv:AV} {m:Ms} {h:Hp} (R:RepT (rowP p nm.told) nm tag dv cv sv m h) (l:List Val) (hb:l.length≤274877906944) :
  ∃ av h1 tag1,callW pg 100 [vals l] h = .ok av h1∧RepT (rowP p nm.told) nm tag1 dv cv sv m h1∧ArgR tag1 4 h1 l av∧okCell av=true:=by
 have e0:callW pg 100 [vals l] = cloneH T 61 (callW pg) [vals l]:=callW_other hOther rfl _
 have e1:=cloneH_vals (T:=T) (t:=61) rfl rfl rfl rfl rfl (by decide) (callW pg) l (show l.length * 64≤140737488355328 by omega) h
 rw [e0]
 by_cases hl:l = []
 ·rw [if_pos hl] at e1
  exact ⟨_,h,tag,e1,R,.inl (by rw [hl]),rfl⟩
 ·rw [if_neg hl] at e1
  refine ⟨_,_,_,e1,(R.more (valCells l) 4).1,.inr ⟨h.length,rfl,by simp,by simp⟩,rfl⟩
theorem push_call {p:List Mod} {nm:SNm} {tag:Nat→Nat} {dv cv sv:AV} {m:Ms} {h:Hp} (R:RepT (rowP p nm.told) nm tag dv cv sv m h) (c:Ap.Call) (av:AV) (ha:ArgR tag 4 h c.args av) (hok:okCell av=true) (hb:m.calls.length≤2000000) :
  ∃ cv' h1 h2,appH T 24 false cv (.sl [.agg [.str c.module,.str c.func,av]]) h = .ok cv' h1∧storeH T 24 (.hp 0 10) cv' h1 = .ok (.tup []) h2∧RepP p nm { m with calls:=m.calls++[c] } h2:=by
 obtain ⟨h1,cv',tag',e1,K,H,hc⟩:=push_row (T:=T) (t:=24) rfl rfl rfl rfl (by decide) rfl (by decide) (x:=.agg [.str c.module,.str c.func,av]) R.cs (fun h0=>by
  have:m.calls = []:=List.eq_nil_of_length_eq_zero h0
  rw [this]; rfl) (fun cs h=>h.ok.1) (okEl_call3 _ _ _ hok) (show (m.calls.length + 1) * 56≤140737488355328 by omega)
 have h0:=(K 0 _ R.r0 (by rw [R.t0]; decide)).1
 refine ⟨cv',h1,_,e1,storeH_ok rfl h0 (okCell_one hc).1 (show 10 + 1≤12 by decide) (by decide),?_⟩
 have hac:acells cv' = [cv']:=(okCell_one hc).2.1
 have:=R.pushCall (m':={ m with calls:=m.calls++[c] }) K ha H rfl rfl rfl id
 refine ⟨tag',dv,cv',sv,?_⟩
 rw [hac]
 exact this
theorem set_frames {p:List Mod} {nm:SNm} {m:Ms} {h:Hp} (R:RepP p nm m h) (x:Int):∃ h1,RepP p nm { m with frames:=x } h1∧(∀ f:AV→M AV,bnd (loadH T 3 (.hp 0 3)) f h=f (.int .i64 m.frames) h) ∧
  (∀ f:AV→M AV,bnd (storeH T 3 (.hp 0 3) (.int .i64 x)) f h=f (.tup []) h1):=by
 obtain ⟨tag,dv,cv,sv,R⟩:=R
 exact ⟨_,⟨tag,dv,cv,sv,R.set0 rfl rfl rfl id⟩,fun f=>bnd_ok (loadH_one rfl rfl R.r0 rfl),fun f=>bnd_ok (storeH_ok rfl R.r0 rfl (show 3 + 1≤12 by decide) (by decide))⟩
theorem loop_bind (f:Fun) (a:Int) (ps:List Fld) (l:List Val) (x6 x7 x8 x9:AV) (hb:ps.length≤274877906944) (hl:l.length=ps.length):∀ (B A:List Fld) (lb la:List Val),A++B=ps→la++lb=l→la.length=A.length →
  fixW (L102_0 (callW pg) fixW) [.hp 0 0,vals l,.ip (acells f.av),flds ps,.int .i64 ps.length,.int .i64 A.length,x6,x7,x8,x9,.int .i64 a,strs (A.map (·.1)),vals la] =
  fixW (L102_0 (callW pg) fixW) [.hp 0 0,vals l,.ip (acells f.av),flds ps,.int .i64 ps.length,.int .i64 ps.length,x6,x7,x8,x9,.int .i64 a,strs (ps.map (·.1)),vals l]
 | [],A,lb,la,e,e2,hla=>by
  simp only [List.append_nil] at e
  subst e
  have hz:lb = []:=by
   apply List.eq_nil_of_length_eq_zero
   have:(la++lb).length=l.length:=by rw [e2]
   rw [List.length_append] at this
   omega
  rw [hz,List.append_nil] at e2
  rw [e2]
 | x :: B,A,lb,la,e,e2,hla=>by
  have hll:A.length + (B.length + 1)=ps.length:=by rw [← e]; simp
  have h1:(A.length:Int) < (ps.length:Int):=by omega
  have hx:ps[A.length]'(by omega)=x:=by subst e; simp
  obtain ⟨v,lb',rfl⟩:∃ v lb',lb=v :: lb':=by
   cases lb with
   | nil =>
    have:(la++([]:List Val)).length=l.length:=by rw [e2]
    simp at this
    omega
   | cons v lb'=>exact ⟨v,lb',rfl⟩
  have hv:l[A.length]'(by omega)=v:=by
   subst e2
   rw [List.getElem_append_right (by omega)]
   simp [hla]
  have hi:=IX50 (l:=ps) (n:=(A.length:Int)) (by omega) h1
  rw [show ((A.length:Int)).toNat=A.length by omega,getElem!_pos ps A.length (by omega),hx] at hi
  have hj:=IX61 (l:=l) (n:=(A.length:Int)) (by omega) (by omega)
  rw [show ((A.length:Int)).toNat=A.length by omega,getElem!_pos l A.length (by omega),hv] at hj
  have hfl:loadA T 105 (.ip [.str x.1,.int .i64 x.2.kind,flds x.2.fields])=some (fldAv x):=by simp
  have hvl:loadA T 71 (.ip (acells v.av))=some v.av:=by simp
  have hw:IntKind.i64.wrap ((A.length:Int) + 1)=((A.length + 1:Nat):Int):=wrap_add1 (by omega)
  have hbd:=t124 a (A.map (·.1)) la x.1 v (by simp; omega) (by omega)
  have ih:=loop_bind f a ps l x6 x7 x8 x9 hb hl B (A++[x]) lb' (la++[v]) (by rw [← e]; simp) (by rw [← e2]; simp) (by simp [hla])
  simp only [List.map_append,List.map_cons,List.map_nil,List.length_append,List.length_singleton] at ih
  rw [← ih,FL102_0]
  simp only [L102_0,nth_zero,nth_succ,bin_lss,bnd_some,condM_bool,h1,decide_true,if_true,hi,hfl,cellsM_of (okEl_fld x),bnd_pure,acells_agg,acells_fld,FA105_0,List.drop_zero,LD9,hj,hvl,fold_scope,hbd,noPan_pure,cellsNil_of (okEl_scope _ _ _),acells_scope,bin_add,hw]
def EnterOK (p:List Mod) (nm:SNm) (n:Nat):Prop:=∀ (a:Int) (f:Fun) (l:List Val) m h,0≤a→a < p.length→f∈(p[a.toNat]?.getD default).funcs→l.length=f.params.length→(∀ v∈l,Rv v)→RepP p nm m h→GoodM p m→mu m < 1000000→m.fuel≤n →
 OutG p nm Val.av (enterX p (evalX p n) a f l m) (callW pg 102 [.hp 0 0,.int .i64 a,f.av,vals l] h)
end Go.Proofs.YtnipfhmghjdnmaaGreat

namespace Go.Proofs.YtnipfhmghjdnmaaGreat
open Go Go.Av Go.Av.Ap
theorem build_call (s t:Str) (v:AV) (h:okCell v=true):buildA T false 63 [(0,.str s),(1,.str t),(2,v)] = some (.agg [.str s,.str t,v]):=by
 have hc:=okCell_one h
 show (fillA _ _ [(0,.str s),(1,.str t),(2,v)]).map AV.agg=_
 simp only [fillA]
 have h2:=hc.2.2
 have h3:=hc.2.1
 cases v with
 | any=>cases h
 | agg _=>cases h
 | tup _=>cases h
 | _=>rfl
theorem buildS_call (x:AV) (hx:sizeA x=some 3):buildSliceA T 24 1 [(0,x)] = some (.sl [x]):=by
 have h1:buildSliceA T 24 1 [(0,x)] = (fillEls 3 (List.replicate 1 (.agg [.str [],.str [],.sl []])) [(0,x)]).map .sl:=rfl
 rw [h1]
 simp only [fillEls,hx,List.length_replicate]
 rfl
theorem enter_tail {p:List Mod} {nm:SNm} {n:Nat} (LB:LimB p) (IH:EvOK p nm n) (a:Int) (f:Fun) (l:List Val) (m:Ms) (h0:0≤a) (ha:a < p.length) (hf:f∈(p[a.toNat]?.getD default).funcs) (hl:l.length=f.params.length) (hr:∀ v∈l,Rv v) (G:GoodM p m) (hmu:mu m < 1000000) (hn:m.fuel≤n) :
  ∀ (m1:Ms) (h1:Hp),RepP p nm m1 h1→m1 = { m with calls:=if f.pub=true then m.calls++[⟨(p[a.toNat]?.getD default).name,f.name,l⟩] else m.calls } → m.frames < 60 →
   OutG p nm Val.av (((evalX p n a (f.params.map (·.1)) l f.body).bind fun v=>.upd (fun m=>{ m with frames:=m.frames - 1 }) (.ok v)) (entM p a f l m))
    (K102_0 (callW pg) fixW [.hp 0 0,.int .i64 a,vals l,.ip (acells f.av),.int .i64 0,.int .i64 0,.sl [],.sl []] h1):=by
 have hlt:a.toNat < p.length:=by omega
 have hmp:p[a.toNat]?.getD default∈p:=by rw [List.getElem?_eq_getElem hlt]; exact List.getElem_mem hlt
 obtain ⟨hbody,hparams⟩:=LB.body _ hmp f hf
 have hfb:=G.bud
 have hfu:=G.fuel
 have hfr:=G.fr
 intro m1 h1 R1 e1 h60
 have hB:buildA T false 145 [(0,.int .i64 a)] = some (scopeAv a [] []):=rfl
 have hcell:=cellsNil_of (okEl_scope a [] [])
 have hloop:=loop_bind f a f.params l (.int .i64 0) (.int .i64 0) (.sl []) (.sl []) hparams hl f.params [] l [] rfl rfl rfl
 have hw1:IntKind.i64.wrap (m.frames + 1)=m.frames + 1:=wrap_in (by omega) (by omega)
 obtain ⟨h2,R2,l2,s2⟩:=set_frames R1 (m.frames + 1)
 have e2:{ m1 with frames:=m.frames + 1 } = entM p a f l m:=by rw [e1]; rfl
 have hm1f:m1.frames=m.frames:=by rw [e1]
 rw [e2] at R2
 rw [hm1f] at l2
 have hld:loadA T 50 (.ip (flds f.params :: [.int .i64 f.result.kind,flds f.result.fields,.int .i64 f.effects,.int .i64 f.body.op,.int .i64 f.body.n,.str f.body.s,.str f.body.m,strs f.body.names,exps f.body.args]))=some (flds f.params):=rfl
 have hex:loadA T 31 (.ip [.int .i64 f.body.op,.int .i64 f.body.n,.str f.body.s,.str f.body.m,strs f.body.names,exps f.body.args])=some f.body.av:=by
  have:loadA T 31 (.ip (acells f.body.av))=some f.body.av:=by simp
  rwa [acells_exp] at this
 simp only [List.map_nil,List.length_nil] at hloop
 have hz:((0:Nat):Int)=0:=rfl
 rw [hz] at hloop
 have hm2:(if f.pub=true then m.calls++[(⟨(p[a.toNat]?.getD default).name,f.name,l⟩:Ap.Call)] else m.calls).length≤m.calls.length + 1:=by
  split
  ·simp
  ·omega
 have G2:GoodM p (entM p a f l m):=by
  refine ⟨⟨G.right.1,fun c hc=>?_⟩,?_,by simp only [entM]; omega,hfu,G.shape⟩
  ·simp only [entM] at hc
   split at hc
   ·rcases List.mem_append.1 hc with k | k
    ·exact G.right.2 c k
    ·simp only [List.mem_singleton] at k
     subst k
     exact hr
   ·exact G.right.2 c hc
  ·simp only [mu,entM] at hmu ⊢
   omega
 simp only [K102_0,nth_zero,nth_succ,hB,bnd_some,hcell,bnd_pure,acells_agg,acells_scope,acells_fun,FA90_2,FA90_5,List.drop_succ_cons,List.drop_zero,hld,LENE50] at hloop ⊢
 rw [show strs [] = strs [] from rfl] at hloop
 rw [hloop,FL102_0]
 simp only [L102_0,nth_zero,nth_succ,bin_lss,bnd_some,condM_bool,Int.lt_irrefl,decide_false,Bool.false_eq_true,if_false,nilChkA_hp,FH141_3,Nat.zero_add,l2,bin_add,hw1,s2,FA90_5,List.drop_succ_cons,List.drop_zero,hex,fold_scope]
 have hns:((f.params.map (·.1)).length:Int) + (entM p a f l m).fuel≤549755813888:=by
  simp only [List.length_map,entM]
  simp only [mu] at hfb
  omega
 refine out_bind (IH a (f.params.map (·.1)) l f.body _ _ R2 G2 hn ⟨ha,⟨by simp [hl],hr⟩,hns⟩ hbody) fun v s h3 hv R3=>?_
 obtain ⟨G3,_,_⟩:=G2.eval ⟨by simp [hl],hr⟩ hv
 obtain ⟨h4,R4,l4,s4⟩:=set_frames R3 (s.frames - 1)
 have hfr3:=G3.fr
 have hw2:IntKind.i64.wrap (s.frames - 1)=s.frames - 1:=wrap_in (by omega) (by omega)
 have hvl:loadA T 71 (.ip (acells v.av))=some v.av:=by simp
 simp only [cellsM_of (okEl_val v),bnd_pure,acells_agg,nilChkA_hp,bnd_some,FH141_3,Nat.zero_add,l4,bin_sub,hw2,s4,hvl]
 have e9:_=Av.R.ok v.av h4:=wrap4' v h4
 rw [e9]
 exact ⟨h4,rfl,R4⟩
theorem t102 {p:List Mod} {nm:SNm} {n:Nat} (LB:LimB p) (IH:EvOK p nm n):EnterOK p nm n:=by
 intro a f l m h h0 ha hf hl hr R G hmu hn
 have hlt:a.toNat < p.length:=by omega
 have hmp:p[a.toNat]?.getD default∈p:=by rw [List.getElem?_eq_getElem hlt]; exact List.getElem_mem hlt
 obtain ⟨hbody,hparams⟩:=LB.body _ hmp f hf
 have hfb:=G.bud
 have hfu:=G.fuel
 have hfr:=G.fr
 have tail:=enter_tail LB IH a f l m h0 ha hf hl hr G hmu hn
 simp only [acells_fun] at tail
 obtain ⟨tag,dv,cv,sv,R0⟩:=R
 have l3:∀ g:AV→M AV,bnd (loadH T 3 (.hp 0 3)) g h=g (.int .i64 m.frames) h:=fun g=>bnd_ok (loadH_one rfl rfl R0.r0 rfl)
 have lc:∀ g:AV→M AV,bnd (loadH T 24 (.hp 0 10)) g h=g cv h:=fun g=>bnd_ok (loadH_one rfl rfl R0.r0 rfl)
 have lm:∀ g:AV→M AV,bnd (loadH T 22 (.hp 0 0)) g h=g (mods p) h:=fun g=>bnd_ok (loadH_one rfl rfl R0.r0 (by rw [← pvOf_ne (t:=nm.told) (fun e=>by subst e; simp at hlt)]; rfl))
 generalize hcode:callW pg 102 [.hp 0 0,.int .i64 a,f.av,vals l] h=code
 rw [C102] at hcode
 simp -implicitDefEqProofs only [S102,nilChkA_hp,bnd_some,FH141_3,Nat.zero_add,l3,bin_lss,bnd_must,jn_def] at hcode
 by_cases h60:m.frames < 60
 ·rw [enterX_eq,if_pos h60]
  have hd:decide (m.frames < 60)=true:=by simpa using h60
  simp only [hd,mustM,if_true] at hcode
  simp -implicitDefEqProofs only [acells_fun,FA90_1,FA90_0,List.drop_succ_cons,List.drop_zero,LD4,LD9,bnd_some,condM_bool] at hcode
  by_cases hp:f.pub=true
  ·simp only [hp,if_true] at hcode tail
   have hi:=IX22 (l:=p) (n:=a) h0 ha
   rw [getElem!_pos p a.toNat hlt] at hi
   have e3:p[a.toNat]?.getD default=p[a.toNat]:=by rw [List.getElem?_eq_getElem hlt]; rfl
   obtain ⟨av,h1,tag1,c1,R1,A1,ok1⟩:=clone_args R0 l (by omega)
   obtain ⟨cv',h2,h3,p1,p2,R3⟩:=push_call R1 ⟨p[a.toNat].name,f.name,l⟩ av A1 ok1 (by simp only [mu] at hmu; omega)
   have hB:buildA T false 63 [(0,.str p[a.toNat].name),(1,.str f.name),(2,av)] = some (.agg [.str p[a.toNat].name,.str f.name,av]):=build_call _ _ _ ok1
   have hBS:=buildS_call (.agg [.str p[a.toNat].name,.str f.name,av]) rfl
   have lc1:∀ g:AV→M AV,bnd (loadH T 24 (.hp 0 10)) g h=g cv h:=lc
   simp -implicitDefEqProofs only [lc,lm,hi,acells_mod,FA55_0,FH141_0,FH141_4,FH75_3,List.drop_zero,LD9,bnd_some,Nat.zero_add,Nat.reduceAdd] at hcode
   rw [bnd_ok c1] at hcode
   simp only [hB,hBS,bnd_some] at hcode
   rw [bnd_ok p1] at hcode
   rw [bnd_ok p2] at hcode
   rw [← hcode]
   exact tail _ h3 R3 (by rw [e3]) h60
  ·simp only [hp,Bool.false_eq_true,if_false] at hcode tail
   rw [← hcode]
   exact tail m h ⟨tag,dv,cv,sv,R0⟩ rfl h60
 ·rw [enterX_eq,if_neg h60]
  have hd:decide (m.frames < 60)=false:=by simpa using h60
  simp only [hd,mustM,Bool.false_eq_true,if_false] at hcode
  rw [← hcode]
  exact ⟨h,rfl,tag,dv,cv,sv,R0⟩
end Go.Proofs.YtnipfhmghjdnmaaGreat

namespace Go.Proofs.YtnipfhmghjdnmaaGreat
open Go Go.Av Go.Av.Ap
theorem loop_call {p:List Mod} {nm:SNm} {n:Nat} (IH:EvOK p nm n) (IE:EnterOK p nm n) (own:Int) (ns:List Str) (vs:List Val) (at_:Int) (f:Fun) (es:List Exp) (x8 x9 x10 x11:AV) (ha:0≤at_) (hat:at_ < p.length) (hf:f∈(p[at_.toNat]?.getD default).funcs) (hes:∀ e∈es,expLim e) (h8:es.length≤274877906944) (hlen:es.length=f.params.length) :
  ∀ (B A:List Exp) (acc:List Val) (m:Ms) (h:Hp),A++B=es→acc.length=A.length→(∀ v∈acc,Rv v)→RepP p nm m h→GoodM p m→mu m < 1000000→m.fuel≤n→Sc p own ns vs m →
  OutG p nm Val.av ((listX (evalX p n own ns vs) B).bind (fun ws=>enterX p (evalX p n) at_ f (acc++ws)) m)
   (fixW (L127_0 (callW pg) fixW) [.hp 0 0,.ip (acells (scopeAv own ns vs)),.int .i64 at_,.ip (acells f.av),vals acc,exps es,.int .i64 es.length,.int .i64 A.length,x8,x9,x10,x11] h)
 | [],A,acc,m,h,e,hac,hr,R,G,hmu,hn,hs=>by
  simp only [List.append_nil] at e
  subst e
  have hfl:loadA T 90 (.ip (acells f.av))=some f.av:=by simp
  have IE':=IE at_ f acc m h ha hat hf (by omega) hr R G hmu hn
  generalize hcode:fixW (L127_0 (callW pg) fixW) [.hp 0 0,.ip (acells (scopeAv own ns vs)),.int .i64 at_,.ip (acells f.av),vals acc,exps A,.int .i64 A.length,.int .i64 A.length,x8,x9,x10,x11] h=code
  rw [FL127_0] at hcode
  simp -implicitDefEqProofs only [L127_0,nth_zero,nth_succ,bin_lss,bnd_some,condM_bool,Int.lt_irrefl,decide_false,Bool.false_eq_true,if_false,hfl] at hcode
  simp only [listX,xbind_ok,List.append_nil]
  rw [← hcode]
  exact out_wrap IE'
 | x :: B,A,acc,m,h,e,hac,hr,R,G,hmu,hn,hs=>by
  have hll:A.length + (B.length + 1)=es.length:=by rw [← e]; simp
  have h1:(A.length:Int) < (es.length:Int):=by omega
  have hx:es[A.length]'(by omega)=x:=by subst e; simp
  have hm:x∈es:=by rw [← e]; simp
  have hi:=IX29 (l:=es) (n:=(A.length:Int)) (by omega) h1
  rw [show ((A.length:Int)).toNat=A.length by omega,getElem!_pos es A.length (by omega),hx] at hi
  have hsc:loadA T 145 (.ip (acells (scopeAv own ns vs)))=some (scopeAv own ns vs):=rfl
  have hex:loadA T 31 (.ip (acells x.av))=some x.av:=by simp
  have hw:IntKind.i64.wrap ((A.length:Int) + 1)=((A.length + 1:Nat):Int):=wrap_add1 (by omega)
  generalize hcode:fixW (L127_0 (callW pg) fixW) [.hp 0 0,.ip (acells (scopeAv own ns vs)),.int .i64 at_,.ip (acells f.av),vals acc,exps es,.int .i64 es.length,.int .i64 A.length,x8,x9,x10,x11] h=code
  rw [FL127_0] at hcode
  simp -implicitDefEqProofs only [L127_0,nth_zero,nth_succ,bin_lss,bnd_some,condM_bool,h1,decide_true,if_true,hi,hex,cellsM_of (okEl_exp x),bnd_pure,hsc] at hcode
  have hex':loadA T 31 (.ip (acells (.agg (acells x.av))))=some x.av:=hex
  simp -implicitDefEqProofs only [hex',bnd_some] at hcode
  rw [← hcode]
  simp only [listX,xbind_assoc,xbind_ok]
  refine out_bind (IH own ns vs x m h R G hn hs (hes x hm)) fun v s h' hv Rs=>?_
  obtain ⟨G2,rv,f2⟩:=G.eval hs.right hv
  obtain ⟨t1,_⟩:=tq_eval n own ns vs x m v s G.fuel hv
  have hb2:buildSliceA T 61 1 [(0,v.av)] = some (vals [v]):=by rw [v.av_eq]; simp [vals,valsAv,v.av_eq]; rfl
  have ha2:appA T 61 (vals acc) (vals [v])=some (vals (acc++[v])):=AP61 (by simp; omega)
  have ih:=loop_call IH IE own ns vs at_ f es x8 x9 x10 x11 ha hat hf hes h8 hlen B (A++[x]) (acc++[v]) s h' (by rw [← e]; simp) (by simp [hac]) (fun w hw=>by
   rcases List.mem_append.1 hw with k | k
   ·exact hr w k
   ·simp only [List.mem_singleton] at k; subst k; exact rv) Rs G2 (by omega) (by omega) (hs.less f2)
  simp only [List.append_assoc,List.singleton_append,List.length_append,List.length_singleton] at ih
  simp only [hb2,bnd_some,ha2,bin_add,hw]
  exact ih
theorem cellsM_fun (f:Fun):cellsM 12 f.av=M.pure (.agg (acells f.av)):=cellsM_of (okEl_fun f)
theorem call_rest {p:List Mod} {nm:SNm} {n:Nat} (LB:LimB p) (IH:EvOK p nm n) (own:Int) (ns:List Str) (vs:List Val) (e:Exp) (at_:Int) (hat:at_ < p.length) (m:Ms) (h:Hp) (R:RepP p nm m h) (G:GoodM p m) (hmu:mu m < 1000000) (hn:m.fuel≤n) (hs:Sc p own ns vs m) (he:expLim e) (y1 y2 y3 y4:AV) :
  OutG p nm Val.av ((match funcX p at_ e.s with
   | none=>.er 12
   | some f=>if e.m = []∨f.pub=true then
     (if e.args.length=f.params.length then (listX (evalX p n own ns vs) e.args).bind fun l=>enterX p (evalX p n) at_ f l else .er 13)
    else .er 12:X Val) m)
   (K127_0 (callW pg) fixW [.hp 0 0,.ip (acells (scopeAv own ns vs)),.ip (acells e.av),.int .i64 at_,y1,y2,y3,y4] h):=by
 have IE:=t102 LB IH
 obtain ⟨l1,l2⟩:=expLim_names he
 have hfn:=t98 R LB.lim at_ hat e.s
 generalize hcode:K127_0 (callW pg) fixW [.hp 0 0,.ip (acells (scopeAv own ns vs)),.ip (acells e.av),.int .i64 at_,y1,y2,y3,y4] h=code
 simp -implicitDefEqProofs only [K127_0,nth_zero,nth_succ,acells_exp,FA31_2,FA31_3,FA31_5,List.drop_succ_cons,List.drop_zero,LD9,LD29,LENE29,bnd_some] at hcode
 rw [bnd_ok hfn] at hcode
 cases hf:funcX p at_ e.s with
 | none =>
  rw [hf] at hcode
  simp -implicitDefEqProofs only [funTup,extractA_tup,List.getElem?_cons_zero,List.getElem?_cons_succ,bnd_some,cellsM_fun,bnd_pure,guardM_ft,List.replicate,nth_zero,guardM_tup,pickA_false,bnd_must,mustM,Bool.false_eq_true,if_false] at hcode
  rw [← hcode]
  exact out_er R
 | some f =>
  rw [hf] at hcode
  obtain ⟨f1,f2,f3⟩:=funcX_some hf
  have hmp:p[at_.toNat]?.getD default∈p:=by rw [List.getElem?_eq_getElem f2]; exact List.getElem_mem f2
  obtain ⟨_,hparams⟩:=LB.body _ hmp f f3
  have hac:∀ f:Fun,acells (.agg (acells f.av))=acells f.av:=fun _=>rfl
  simp -implicitDefEqProofs only [funTup,extractA_tup,List.getElem?_cons_zero,List.getElem?_cons_succ,bnd_some,cellsM_fun,bnd_pure,guardM_take1,str_eql,nth_zero,hac] at hcode
  have hpub:loadA T 4 (.ip (List.drop 1 (acells f.av)))=some (.bool f.pub):=by simp
  have hpar:loadA T 50 (.ip (List.drop 2 (acells f.av)))=some (flds f.params):=by simp
  have hgu:guardM (.bool (e.m == [])) false 1 (M.pure [.bool f.pub])=M.pure [gv (e.m == []) false (.bool f.pub)]:=guardM_pure1 _ _ _
  have hpk:pickA (.bool (e.m == [])) (.bool true) (gv (e.m == []) false (.bool f.pub))=some (.bool ((e.m == [])||f.pub)):=pickA_or _ _
  simp -implicitDefEqProofs only [FA90_1,FA90_2,hpub,hpar,bnd_some,hgu,bnd_pure,nth_zero,hpk,pickA_true,bnd_must,LENE50,bin_eql] at hcode
  by_cases h1:e.m = []∨f.pub=true
  ·have h1':(e.m == []||f.pub)=true:=by
    simp only [Bool.or_eq_true,beq_iff_eq]
    exact h1
   simp only [h1',mustM,if_true] at hcode
   simp only [if_pos h1]
   by_cases h2:e.args.length=f.params.length
   ·have h2':((e.args.length:Int) == (f.params.length:Int))=true:=by simp [h2]
    simp only [h2',if_true] at hcode
    simp only [if_pos h2]
    rw [← hcode]
    have:=loop_call IH IE own ns vs at_ f e.args y1 y2 y3 y4 (by omega) hat f3 (fun x hx=>expLim_arg he hx) (by omega) h2 e.args [] [] m h rfl rfl (fun v hv=>by cases hv) R G hmu hn hs
    simp only [List.nil_append] at this
    exact this
   ·have h2':((e.args.length:Int) == (f.params.length:Int))=false:=by
     rw [beq_eq_false_iff_ne]
     omega
    simp only [h2',Bool.false_eq_true,if_false] at hcode
    simp only [if_neg h2]
    rw [← hcode]
    exact out_er R
  ·have h1':(e.m == []||f.pub)=false:=by
    rw [← Bool.not_eq_true]
    simp only [Bool.or_eq_true,beq_iff_eq]
    exact h1
   simp only [h1',mustM,Bool.false_eq_true,if_false] at hcode
   simp only [if_neg h1]
   rw [← hcode]
   exact out_er R
theorem t127 {p:List Mod} {nm:SNm} {n:Nat} (LB:LimB p) (IH:EvOK p nm n):CallOK p nm n:=by
 intro own ns vs e m h R G hmu hn hs he
 unfold callX
 have hown:loadA T 3 (.ip [.int .i64 own,strs ns,vals vs])=some (.int .i64 own):=rfl
 have hmd:=t97 R LB.lim e.m
 generalize hcode:callW pg 127 [.hp 0 0,scopeAv own ns vs,e.av] h=code
 rw [C127] at hcode
 simp -implicitDefEqProofs only [S127,acells_scope,acells_exp,FA145_0,FA31_3,List.drop_succ_cons,List.drop_zero,hown,LD9,bnd_some,jn_def,str_neq,condM_bool] at hcode
 by_cases h0:e.m = []
 ·have h0':(!(e.m == []))=false:=by simp [h0]
  simp only [h0',Bool.false_eq_true,if_false] at hcode
  simp only [if_pos h0]
  rw [← hcode]
  have:=call_rest LB IH own ns vs e own hs.own m h R G hmu hn hs he (.int .i64 0) (.int .i64 0) (.sl []) (.sl [])
  simp only [acells_scope,acells_exp] at this
  exact this
 ·have h0':(!(e.m == []))=true:=by simp [h0]
  simp only [h0',if_true] at hcode
  rw [bnd_ok hmd] at hcode
  simp only [if_neg h0]
  rw [← hcode]
  have hlt:modAt p e.m < p.length:=by
   rcases idxAt_lt (fun (x:Mod)=>x.name == e.m) p 0 with k | k
   ·show idxAt _ p 0 < _
    rw [k]; omega
   ·show idxAt _ p 0 < _
    omega
  have:=call_rest LB IH own ns vs e (modAt p e.m) hlt m h R G hmu hn hs he (.int .i64 0) (.int .i64 0) (.sl []) (.sl [])
  simp only [acells_scope,acells_exp] at this
  exact this
end Go.Proofs.YtnipfhmghjdnmaaGreat

namespace Go.Proofs.YtnipfhmghjdnmaaGreat
open Go Go.Av Go.Av.Ap
theorem ixh {t e:Nat} {ti ei:TI} (ht:T t=some ti) (hk:ti.kind = .slice e) (he:T e=some ei) {l off len sz:Nat} {ag:Bool} {n:Int} (h0:0≤n) (h1:n < len):indexAddrA T t (.hs l off len sz ag) (.int .i64 n)=some (.hp l (off + n.toNat * ei.size)):=by
 simp [indexAddrA,ht,hk,he,h0,h1]
theorem push_deed {p:List Mod} {nm:SNm} {tag:Nat→Nat} {dv cv sv:AV} {m:Ms} {h:Hp} (R:RepT (rowP p nm.told) nm tag dv cv sv m h) (d:Deed) (hb:m.deeds.length≤2000000) :
  ∃ dv' h1 h2,appH T 72 false dv (.sl [d.av]) h = .ok dv' h1∧storeH T 72 (.hp 0 9) dv' h1 = .ok (.tup []) h2∧RepP p nm { m with deeds:=m.deeds++[d] } h2:=by
 obtain ⟨h1,dv',tag',e1,K,H,hc⟩:=push_row (T:=T) (t:=72) rfl rfl rfl rfl (by decide) rfl (by decide) (x:=d.av) R.ds (fun h0=>by
  have:m.deeds = []:=List.eq_nil_of_length_eq_zero h0
  rw [this]; rfl) (fun cs h=>by rw [h]; exact deedCells_ok _) (okEl_deed d) (show (m.deeds.length + 1) * 24≤140737488355328 by omega)
 have h0:=(K 0 _ R.r0 (by rw [R.t0]; decide)).1
 refine ⟨dv',h1,_,e1,storeH_ok rfl h0 (okCell_one hc).1 (show 9 + 1≤12 by decide) (by decide),?_⟩
 have hac:acells dv' = [dv']:=(okCell_one hc).2.1
 have:=R.pushDeed (m':={ m with deeds:=m.deeds++[d] }) K H rfl rfl rfl id
 refine ⟨tag',dv',cv,sv,?_⟩
 rw [hac]
 exact this
theorem act_rest {p:List Mod} {nm:SNm} {m:Ms} {h:Hp} (R:RepP p nm m h) (hb:m.deeds.length≤2000000) (e:Exp) (v:Val) (n:Int) (x1 x2 x3 x4:AV) :
  OutG p nm Val.av (X.ok (numV n) { m with deeds:=m.deeds++[⟨e.n,v.n,n⟩] }) (K128_0 (callW pg) fixW [.hp 0 0,.ip (acells e.av),.ip (acells v.av),.int .i64 n,x1,x2,x3,x4] h):=by
 obtain ⟨tag,dv,cv,sv,R0⟩:=R
 obtain ⟨dv',h1,h2,e1,e2,R2⟩:=push_deed R0 ⟨e.n,v.n,n⟩ hb
 have hB:buildA T false 80 [(0,.int .i64 e.n),(1,.int .i64 v.n),(2,.int .i64 n)] = some (Deed.av ⟨e.n,v.n,n⟩):=rfl
 have hBS:buildSliceA T 72 1 [(0,Deed.av ⟨e.n,v.n,n⟩)] = some (.sl [Deed.av ⟨e.n,v.n,n⟩]):=rfl
 have ld:∀ g:AV→M AV,bnd (loadH T 72 (.hp 0 9)) g h=g dv h:=fun g=>bnd_ok (loadH_one rfl rfl R0.r0 rfl)
 generalize hcode:K128_0 (callW pg) fixW [.hp 0 0,.ip (acells e.av),.ip (acells v.av),.int .i64 n,x1,x2,x3,x4] h=code
 simp -implicitDefEqProofs only [K128_0,nth_zero,nth_succ,nilChkA_hp,bnd_some,FH141_4,FH75_2,Nat.zero_add,Nat.reduceAdd,ld,acells_exp,FA31_1,List.drop_succ_cons,List.drop_zero,LD3,acells_val,FA71_1,hB,hBS] at hcode
 rw [bnd_ok e1] at hcode
 rw [bnd_ok e2] at hcode
 simp -implicitDefEqProofs only [t120,bnd_pure] at hcode
 rw [wrap4'] at hcode
 rw [← hcode]
 exact out_pure R2
theorem set_world {p:List Mod} {nm:SNm} {m:Ms} {h:Hp} (R:RepP p nm m h) (w:List Int) (hw0:m.world = []→w = []):∃ h1,(m.world≠[]→RepP p nm { m with world:=w } h1)∧(∀ f:AV→M AV,bnd (loadH T 45 (.hp 0 1)) f h=f (wvOf nm.told m.world) h) ∧
  (m.world≠[]→∀ f:AV→M AV,bnd (storeH T 45 (.hp 0 1) (ints w)) f h=f (.tup []) h1):=by
 obtain ⟨tag,dv,cv,sv,R⟩:=R
 refine ⟨h.set 0 (setCells (rowP p nm.told m dv cv sv) 1 (acells (ints w))),fun hne=>⟨tag,dv,cv,sv,?_⟩,fun f=>bnd_ok (loadH_one rfl rfl R.r0 rfl),fun _ f=>bnd_ok (storeH_ok rfl R.r0 rfl (show 1 + 1≤12 by decide) (by decide))⟩
 have ht:nm.told=false:=by
  cases ht:nm.told with
  | false=>rfl
  | true=>exact absurd (R.wok ht) hne
 have e:setCells (rowP p nm.told m dv cv sv) 1 (acells (ints w))=rowP p nm.told { m with world:=w } dv cv sv:=by
  simp only [ht]
  rfl
 rw [e]
 exact R.set0 rfl rfl rfl hw0
theorem t128 {p:List Mod} {nm:SNm} {n:Nat} (LB:LimB p) (IH:EvOK p nm n):WorldOK p nm n:=by
 intro own ns vs e m h hop hcn R G hmu hn hs he
 obtain ⟨l1,l2⟩:=expLim_names he
 have hscl:loadA T 145 (.ip [.int .i64 own,strs ns,vals vs])=some (scopeAv own ns vs):=rfl
 have hown:loadA T 3 (.ip [.int .i64 own,strs ns,vals vs])=some (.int .i64 own):=rfl
 generalize hcode:callW pg 128 [.hp 0 0,scopeAv own ns vs,e.av] h=code
 rw [C128] at hcode
 obtain ⟨op,en,es,em,en2,ea⟩:=e
 simp only [op_mk] at hop
 unfold CntOK at hcn
 simp only [op_mk,args_mk] at hcn
 have hlen:op=16∨op=18→∃ a,ea = [a]:=by
  intro h
  apply len1
  rcases h with rfl | rfl
  ·simp [argsN] at hcn; omega
  ·simp [argsN] at hcn; omega
 by_cases h16:op=16
 ·obtain ⟨a,rfl⟩:=hlen (.inl h16)
  subst h16
  have ha:expLim a:=expLim_arg he (by simp)
  simp -implicitDefEqProofs only [S128,acells_scope,acells_exp,op_mk,n_mk,s_mk,m_mk,names_mk,args_mk,FA31_0,FA31_1,FA31_5,List.drop_succ_cons,List.drop_zero,LD3,LD29,bnd_some,bin_eql,beq_self_eq_true,condM_bool,if_true,hscl,ixe0] at hcode
  have hex:loadA T 31 (.ip [.int .i64 a.op,.int .i64 a.n,.str a.s,.str a.m,strs a.names,exps a.args])=some a.av:=by
   have:loadA T 31 (.ip (acells a.av))=some a.av:=by simp
   rwa [acells_exp] at this
  simp -implicitDefEqProofs only [hex,bnd_some] at hcode
  rw [← hcode]
  simp only [worldX,op_mk,if_true,actX]
  have e0:([a]:List Exp)[0]! = a:=rfl
  simp only [args_mk,e0]
  refine out_bind (IH own ns vs a _ _ R G hn hs ha) fun v s1 h2 hv R2=>?_
  obtain ⟨G2,rv,f2⟩:=G.eval hs.right hv
  generalize hcode2:bnd (cellsM 4 v.av) _ h2=code2
  simp -implicitDefEqProofs only [cellsM_of (okEl_val v),bnd_pure,acells_agg,acells_val,FA71_0,List.drop_zero,LD3,bnd_some,bin_eql,bnd_must,guardM_pure1,nth_zero,pickA_or] at hcode2
  by_cases hk:v.kind=0
  ·have hk':(v.kind == 0)=true:=by simp [hk]
   simp only [hk',mustM,if_true] at hcode2
   simp only [if_pos hk]
   by_cases hn4':(Exp.mk 16 en es em en2 [a]).n=1∨(Exp.mk 16 en es em en2 [a]).n=2∨(Exp.mk 16 en es em en2 [a]).n=4∨(Exp.mk 16 en es em en2 [a]).n=8
   ·have hn4:en=1∨en=2∨en=4∨en=8:=hn4'
    have hn':(en == 1||en == 2||en == 4||en == 8)=true:=by
     simp only [Bool.or_eq_true,beq_iff_eq]
     omega
    simp only [hn',if_true] at hcode2
    simp only [if_pos hn4']
    obtain ⟨h3,R3,lw,sw⟩:=set_world R2 s1.world.tail (fun h=>by rw [h]; rfl)
    have hmu2:=(tq_eval n own ns vs a m v s1 G.fuel hv).1
    have hdl:s1.deeds.length≤2000000:=by
     have:=G2.fuel
     simp only [mu] at hmu2 hmu
     omega
    show OutG p nm Val.av (X.ok (numV (s1.world.headD 0)) { s1 with world:=s1.world.tail,deeds:=s1.deeds++[⟨en,v.n,s1.world.headD 0⟩] }) code2
    have lenw:lenA T 45 (wvOf nm.told s1.world)=some (.int .i64 s1.world.length):=by
     unfold wvOf
     split
     ·rename_i ht
      obtain ⟨_,_,_,_,R2'⟩:=R2
      rw [R2'.wok ht]
      rfl
     ·exact LENE45 _
    simp -implicitDefEqProofs only [jn_def,nilChkA_hp,bnd_some,FH141_1,Nat.zero_add,lw,lenw,bnd_some,bin_gtr,condM_bool] at hcode2
    cases hwd:s1.world with
    | nil =>
     rw [hwd] at hcode2
     simp only [List.length_nil,show decide ((0:Int) < ((0:Nat):Int))=false by decide,Bool.false_eq_true,if_false] at hcode2
     have:=act_rest R2 hdl (.mk 16 en es em en2 [a]) v 0 (.int .i64 0) (.int .i64 0) (.sl []) (.sl [])
     simp only [acells_exp,acells_val,op_mk,n_mk,s_mk,m_mk,names_mk,args_mk] at this
     rw [hcode2] at this
     have e5:({ s1 with deeds:=s1.deeds++[⟨en,v.n,0⟩] }:Ms) = { s1 with world:=([]:List Int).tail,deeds:=s1.deeds++[⟨en,v.n,([]:List Int).headD 0⟩] }:=by
      cases s1
      simp only at hwd
      subst hwd
      rfl
     rw [e5] at this
     exact this
    | cons x wl =>
     have hd:decide ((0:Int) < (((x :: wl).length:Nat):Int))=true:=by simp <;> omega
     have hne:s1.world≠[]:=by rw [hwd]; simp
     have sw:=sw hne
     have R3:=R3 hne
     have hwv:wvOf nm.told s1.world=ints s1.world:=by
      unfold wvOf
      rw [if_neg]
      intro ht
      obtain ⟨_,_,_,_,R2'⟩:=R2
      exact hne (R2'.wok ht)
     rw [hwv] at lw
     rw [hwd] at hcode2 sw R3 lw
     have hix:indexAddrA T 45 (ints (x :: wl)) (.int .i64 0)=some (.ip [.int .i64 x]):=by
      have:=IX45 (l:=x :: wl) (n:=0) (by omega) (by simp <;> omega)
      simpa using this
     have hsl:sliceA T 45 (ints (x :: wl)) (some (.int .i64 1)) none none=some (ints wl):=by
      have:=sliceA_lo (T:=T) (t:=45) (e:=3) rfl rfl rfl ((x :: wl).map (AV.int .i64)) (by exact okSz_ints _) (n:=1) (by omega) (by simp <;> omega)
      simpa [ints] using this
     simp only [List.tail_cons] at sw R3
     simp -implicitDefEqProofs only [hd,if_true,lw,hix,bnd_some,LD3,hsl,sw] at hcode2
     have:=act_rest R3 hdl (.mk 16 en es em en2 [a]) v x (.int .i64 0) (.int .i64 0) (.sl []) (.sl [])
     simp only [acells_exp,acells_val,op_mk,n_mk,s_mk,m_mk,names_mk,args_mk] at this
     rw [hcode2] at this
     exact this
   ·have hn4:¬ (en=1∨en=2∨en=4∨en=8):=hn4'
    have hn':(en == 1||en == 2||en == 4||en == 8)=false:=by
     rw [← Bool.not_eq_true]
     simp only [Bool.or_eq_true,beq_iff_eq]
     omega
    simp only [hn',Bool.false_eq_true,if_false] at hcode2
    simp only [if_neg hn4']
    rw [← hcode2]
    exact out_er R2
  ·have hk':(v.kind == 0)=false:=by simpa using hk
   simp only [hk',mustM,Bool.false_eq_true,if_false] at hcode2
   simp only [if_neg hk]
   rw [← hcode2]
   exact out_er R2
 have h16':((op:Int) == 16)=false:=by simpa using h16
 have h16x:¬ ((Exp.mk op en es em en2 ea).op=16):=h16
 unfold worldX
 simp only [if_neg h16x]
 unfold varX
 simp -implicitDefEqProofs only [S128,acells_scope,acells_exp,op_mk,n_mk,s_mk,m_mk,names_mk,args_mk,FA145_0,FA31_0,FA31_1,FA31_2,FA31_5,List.drop_succ_cons,List.drop_zero,LD3,LD29,bnd_some,bin_eql,h16',Bool.false_eq_true,condM_bool,if_false,hown,hscl,bin_geq,bnd_must,jn_def] at hcode
 by_cases ho:own < 0
 ·have ho':decide (0≤own)=false:=by simp; omega
  simp only [ho',mustM,Bool.false_eq_true,if_false] at hcode
  simp only [if_pos ho]
  rw [← hcode]
  exact out_er R
 have ho':decide (0≤own)=true:=by simp; omega
 simp only [ho',mustM,if_true] at hcode
 simp only [if_neg ho]
 have hol:=hs.own
 have hlt:own.toNat < p.length:=by omega
 have hix:=IX22 (l:=p) (n:=own) (by omega) hol
 rw [getElem!_pos p own.toNat hlt] at hix
 have e3:p[own.toNat]?.getD default=p[own.toNat]:=by rw [List.getElem?_eq_getElem hlt]; rfl
 have hvl:=(LB.lim.funcsAt own.toNat).2
 rw [e3] at hvl ⊢
 have hff:=t171' p[own.toNat].vars hvl (.mk op en es em en2 ea)
 simp only [acells_exp,op_mk,n_mk,s_mk,m_mk,names_mk,args_mk] at hff
 have Rk:=R
 obtain ⟨tag,dv,cv,sv,R0⟩:=R
 have lm:∀ g:AV→M AV,bnd (loadH T 22 (.hp 0 0)) g h=g (mods p) h:=fun g=>bnd_ok (loadH_one rfl rfl R0.r0 (by rw [← pvOf_ne (t:=nm.told) (fun e=>by subst e; simp at hlt)]; rfl))
 have lsv:∀ g:AV→M AV,bnd (loadH T 73 (.hp 0 11)) g h=g nm.sv h:=fun g=>bnd_ok (loadH_one rfl rfl R0.r0 (by rw [← R0.sve]; rfl))
 simp -implicitDefEqProofs only [nilChkA_hp,bnd_some,FH141_0,FH141_4,FH75_4,Nat.zero_add,Nat.reduceAdd,lm,hix,acells_mod,FA55_2,List.drop_succ_cons,List.drop_zero,LD50,hff,noPan_pure,bnd_pure,bin_geq,bnd_must] at hcode
 by_cases hi:fldAt p[own.toNat].vars (Exp.mk op en es em en2 ea).s < 0
 ·have hi':decide (0≤fldAt p[own.toNat].vars es)=false:=by
   have:fldAt p[own.toNat].vars es < 0:=hi
   simp; omega
  simp only [hi',mustM,Bool.false_eq_true,if_false] at hcode
  simp only [if_pos hi]
  rw [← hcode]
  exact out_er Rk
 have hi0:0≤fldAt p[own.toNat].vars es:=by
  have:¬ fldAt p[own.toNat].vars es < 0:=hi
  omega
 have hi':decide (0≤fldAt p[own.toNat].vars es)=true:=by simp; omega
 simp only [hi',mustM,if_true,lsv] at hcode
 simp only [if_neg hi]
 have hil:fldAt p[own.toNat].vars es < p[own.toNat].vars.length:=by
  rcases idxAt_lt (fun (x:Fld)=>x.1 == es) p[own.toNat].vars 0 with k | k
  ·have:fldAt p[own.toNat].vars es = -1:=k
   omega
  ·have:fldAt p[own.toNat].vars es=idxAt (fun (x:Fld)=>x.1 == es) p[own.toNat].vars 0:=rfl
   omega
 obtain ⟨l,hl1,hl2⟩:=G.shape own.toNat _ (List.getElem?_eq_getElem hlt)
 have hne:l≠[]:=fun e=>by rw [e] at hl2; simp at hl2; omega
 have hsl:own.toNat < m.state.length:=(List.getElem?_eq_some_iff.1 hl1).1
 obtain ⟨q,r,v1,v2,v3,v4,v5,v6⟩:=R0.var (fun _=>rfl) hl1 hne
 have hx1:indexAddrA T 73 nm.sv (.int .i64 own)=some (.hp q (own.toNat * 2)):=by
  rw [v1]
  have:=ixh (t:=73) rfl rfl rfl (l:=q) (off:=0) (len:=m.state.length) (sz:=2) (ag:=true) (n:=own) (by omega) (by omega)
  rw [this]
  simp
 have lv:∀ g:AV→M AV,bnd (loadH T 61 (.hp q (own.toNat * 2 + 1))) g h=g (.hs r 0 l.length 4 true) h:=fun g=>bnd_ok (loadH_one rfl rfl v2 v3)
 simp -implicitDefEqProofs only [hx1,bnd_some,FH155_1,lv] at hcode
 generalize hI:fldAt p[own.toNat].vars es=I at *
 have hI2:fldAt p[own.toNat].vars (Exp.mk op en es em en2 ea).s=I:=hI
 rw [hI2]
 have hx2:indexAddrA T 61 (.hs r 0 l.length 4 true) (.int .i64 I)=some (.hp r (I.toNat * 4)):=by
  have:=ixh (t:=61) rfl rfl rfl (l:=r) (off:=0) (len:=l.length) (sz:=4) (ag:=true) (n:=I) (by omega) (by omega)
  rw [this]
  simp
 have hk:I.toNat < l.length:=by omega
 by_cases h18:op=18
 ·have h18x:(Exp.mk op en es em en2 ea).op=18:=h18
  simp only [if_pos h18x]
  obtain ⟨a,rfl⟩:=hlen (.inr h18)
  have ha:expLim a:=expLim_arg he (by simp)
  have hb18:(op == 18)=true:=by simp [h18]
  have hex:loadA T 31 (.ip (acells a.av))=some a.av:=by simp
  have e0:(Exp.mk op en es em en2 [a]).args[0]! = a:=rfl
  simp -implicitDefEqProofs only [hb18,if_true,ixe0,bnd_some,hex] at hcode
  rw [← hcode,e0]
  refine out_bind (IH own ns vs a _ _ Rk G hn hs ha) fun v s1 h2 hv R2=>?_
  obtain ⟨G2,rv,f2⟩:=G.eval hs.right hv
  obtain ⟨tag2,dv2,cv2,sv2,R20⟩:=R2
  obtain ⟨l',hl1',hl2'⟩:=G2.shape own.toNat _ (List.getElem?_eq_getElem hlt)
  have hne':l'≠[]:=fun e=>by rw [e] at hl2'; simp at hl2'; omega
  obtain ⟨q',r',w1,w2,w3,w4,w5,w6⟩:=R20.var (fun _=>rfl) hl1' hne'
  have hll:l'.length=l.length:=by omega
  have hrr:r'=r:=by
   rw [v3] at w3
   simp only [Option.some.injEq,AV.hs.injEq] at w3
   exact w3.1.symm
  subst hrr
  have hst:storeH T 71 (.hp r' (I.toNat * 4)) v.av h2 = .ok (.tup []) (h2.set r' (valCells (l'.set I.toNat v))):=by
   have:=storeH_ok (T:=T) (t:=71) rfl w5 (v:=v.av) (k:=I.toNat * 4) (okEl_val v) (by rw [valCells_len]; show I.toNat * 4 + 4≤_; omega) (by decide)
   rw [this,valCells_set (by omega)]
  have R3:=w6 I.toNat v (by omega)
  have hset:((s1.state[own.toNat]?.getD []).set I.toNat v)=l'.set I.toNat v:=by rw [hl1']; rfl
  have hld2:loadH T 71 (.hp r' (I.toNat * 4)) (h2.set r' (valCells (l'.set I.toNat v))) = .ok v.av (h2.set r' (valCells (l'.set I.toNat v))):=by
   have hlt2:r' < h2.length:=(List.getElem?_eq_some_iff.1 w5).1
   have:=loadH_agg (T:=T) (t:=71) rfl rfl (h:=h2.set r' (valCells (l'.set I.toNat v))) (l:=r') (k:=I.toNat * 4) (List.getElem?_set_self hlt2) (by rw [valCells_len,List.length_set]; show I.toNat * 4 + 4≤_; omega)
   rw [this]
   have hg:=valCells_get (l:=l'.set I.toNat v) (k:=I.toNat) (by simp; omega)
   show Av.R.ok (AV.agg (((valCells (l'.set I.toNat v)).drop (I.toNat * 4)).take 4)) _=_
   rw [hg,List.getElem_set_self]
   rw [Val.av_eq]
   rfl
  generalize hcode2:bnd (lft (indexAddrA T 61 (.hs r' 0 l.length 4 true) (.int .i64 I))) _ h2=code2
  simp -implicitDefEqProofs only [hx2,bnd_some] at hcode2
  rw [bnd_ok hst] at hcode2
  simp -implicitDefEqProofs only [K128_1,nth_zero,nth_succ,hx2,bnd_some] at hcode2
  rw [bnd_ok hld2,wrap4'] at hcode2
  rw [← hcode2]
  exact ⟨_,rfl,tag2,dv2,cv2,sv2,R3⟩
 ·have h18x:¬ ((Exp.mk op en es em en2 ea).op=18):=h18
  have hb18:(op == 18)=false:=by simpa using h18
  have hld2:loadH T 71 (.hp r (I.toNat * 4)) h = .ok (l[I.toNat]).av h:=by
   have:=loadH_agg (T:=T) (t:=71) rfl rfl (h:=h) (l:=r) (k:=I.toNat * 4) v5 (by rw [valCells_len]; show I.toNat * 4 + 4≤_; omega)
   rw [this]
   have hg:=valCells_get (l:=l) (k:=I.toNat) hk
   show Av.R.ok (AV.agg (((valCells l).drop (I.toNat * 4)).take 4)) _=_
   rw [hg,Val.av_eq]
   rfl
  simp only [if_neg h18x]
  simp -implicitDefEqProofs only [hb18,Bool.false_eq_true,if_false,K128_1,nth_zero,nth_succ,hx2,bnd_some] at hcode
  rw [bnd_ok hld2,wrap4'] at hcode
  rw [← hcode]
  have hgs:getSt m.state own.toNat I.toNat=l[I.toNat]:=by
   simp [getSt,List.getD_eq_getElem?_getD,hl1,hk]
  show OutG p nm Val.av (X.ok (getSt m.state own.toNat I.toNat) m) _
  rw [hgs]
  exact out_pure Rk
end Go.Proofs.YtnipfhmghjdnmaaGreat

namespace Go.Proofs.YtnipfhmghjdnmaaGreat
open Go Go.Av Go.Av.Ap
theorem evOK {p:List Mod} {nm:SNm} (LB:LimB p):∀ n,EvOK p nm n
 | 0=>fun own ns vs e m h R G hn hs he=>⟨h,ev_low R (by omega) _ e,R⟩
 | n + 1=>by
  have IH:=evOK (nm:=nm) LB n
  exact eval_step IH (t125 IH) (t127 LB IH) (t128 LB IH)
theorem enterOK {p:List Mod} {nm:SNm} (LB:LimB p) (n:Nat):EnterOK p nm n:=t102 LB (evOK LB n)
end Go.Proofs.YtnipfhmghjdnmaaGreat

namespace Go.Proofs.YtnipfhmghjdnmaaGreat
open Go Go.Av Go.Av.Ap
theorem isoP_ok {m:M AV} {r:AV} {h':Hp} (h1:m [] = .ok r h') (h2:∀ g,cl g r=r):isoP m=M.pure r:=by
 funext h
 unfold isoP
 rw [h1]
 simp only [M.pure]
 have:frz 6 h' r=r:=h2 _
 rw [this]
theorem vals_any (l:List Val):(l.any fun v=>!fitsP 4 v) = !(l.all (fitsP 4)):=by
 induction l with
 | nil=>rfl
 | cons v l ih=>simp only [List.any_cons,List.all_cons,ih]; cases fitsP 4 v <;> simp
theorem okv (v:Val):loadA T 71 (.ip (acells v.av))=some v.av:=by simp
theorem t86 (v:Val) (hv:v.sz≤4611686018427387904):callW pg 86 [v.av] = M.pure (.bool !fitsP 4 v):=by
 rw [C86]
 simp only [S86,cl_val,okv,bnd_some,t87 v hv,bnd_pure,unA_not]
 exact isoP_pure fun g=>rfl
theorem t99 (v:Val) (hv:v.sz≤4611686018427387904):callW pg 99 [v.av] = M.pure (.bool !fitsP 4 v):=by
 rw [C99]
 simp only [S99,cl_val,okv,bnd_some,t87 v hv,bnd_pure,unA_not]
 exact isoP_pure fun g=>rfl
theorem t137 (v:Val) (hv:v.sz≤4611686018427387904):callW pg 137 [v.av] = M.pure (.bool !fitsP 4 v):=by
 rw [C137]
 simp only [S137,cl_val,okv,bnd_some,t87 v hv,bnd_pure,unA_not]
 exact isoP_pure fun g=>rfl
theorem any_not (k:Nat) (hk:∀ v:Val,v.sz≤4611686018427387904→callW pg k [v.av] = M.pure (.bool !fitsP 4 v)) (l:List Val) (hl:valsSz l≤4611686018427387904):callW pg 85 [vals l,.fn (.func k) [] []] = M.pure (.bool !(l.all (fitsP 4))):=by
 have:=t85 (.fn (.func k) [] []) (fun v=>!fitsP 4 v) l (Nat.le_trans (valsSz_len l) hl) (fun g=>rfl) (fun v hv=>hk v (Nat.le_trans (valsSz_mem hv) hl))
 rw [this,vals_any]
theorem t88 (f:AV) (h:Hp):callW pg 88 [f] h=tryP 69 .i64 (.agg [.int .i64 0,.int .i64 0,.sl [],.sl []]) (callV (callW pg) f [] h):=by
 have e:callW pg 88 [f] = tryE 69 .i64 (.agg [.int .i64 0,.int .i64 0,.sl [],.sl []]) (callW pg) [f]:=callW_other hOther rfl _
 rw [e]
 rfl
def nm0:SNm:=⟨[],.hn,[],true⟩
theorem limB_nil:LimB []:=⟨⟨by simp,fun m hm=>by cases hm⟩,fun m hm=>by cases hm⟩
theorem rep_exp:RepP [] nm0 (startM [] 100000 []) [[.hn,.hn,.int .i64 100000,.int .i64 0,.int .i64 0,.int .i64 0,.int .i64 0,.hn,.hn,.hn,.hn,.hn]] :=
 ⟨fun _=>0,.hn,.hn,.hn,rfl,rfl,.inl ⟨rfl,rfl⟩,.inl ⟨rfl,rfl⟩,.inl ⟨rfl,rfl⟩,rfl,fun _=>rfl⟩
theorem good_exp:GoodM [] (startM [] 100000 []):=⟨⟨fun l hl=>by simp [startM] at hl,fun c hc=>by simp [startM] at hc⟩,by simp [mu,startM],by simp [startM],by simp [startM],fun i x hx=>by simp at hx⟩
def pairOf:Rs Val→AV
 | .ok v _=>.tup [v.av,.int .i64 0]
 | .er e _=>.tup [Val.av default,.int .i64 e]
theorem cl_pair (g) (v:Val) (e:Int):cl g (.tup [v.av,.int .i64 e]) = .tup [v.av,.int .i64 e]:=by simp [cl,cls]
theorem t51 (e:Exp) (ns:List Str) (vs:List Val) (he:expLim e) (hn:ns.length≤274877906944) (hv:valsSz vs≤4611686018427387904):callW pg 51 [e.av,strs ns,vals vs] = M.pure (pairOf (expX e ns vs)):=by
 have ha:=any_not 86 t86 vs hv
 have hl1:loadA T 28 (.ip (acells (strs ns)))=some (strs ns):=rfl
 have hl2:loadA T 61 (.ip (acells (vals vs)))=some (vals vs):=rfl
 have hB:buildA T true 141 [(2,.int .i64 100000)] = some (.agg [.hn,.hn,.int .i64 100000,.int .i64 0,.int .i64 0,.int .i64 0,.int .i64 0,.hn,.hn,.hn,.hn,.hn]):=rfl
 have hZ:buildA T false 71 [] = some (Val.av default):=rfl
 have hcl:∀ h:AV→M AV,bnd (newH [.hn,.hn,.int .i64 100000,.int .i64 0,.int .i64 0,.int .i64 0,.int .i64 0,.hn,.hn,.hn,.hn,.hn]) h [] = h (.hp 0 0) [[.hn,.hn,.int .i64 100000,.int .i64 0,.int .i64 0,.int .i64 0,.int .i64 0,.hn,.hn,.hn,.hn,.hn]]:=fun h=>rfl
 rw [C51,cl_strs,cl_vals,cl_exp]
 unfold expX
 by_cases hr:ns.length=vs.length∧vs.all (fitsP 4)=true
 ·rw [if_pos hr]
  have hne:((ns.length:Int) != (vs.length:Int))=false:=by simp [hr.1]
  have hrs:RightS ns vs:=⟨hr.1,fun v hv=>(List.all_eq_true.1 hr.2) v hv⟩
  have hev:=evOK (nm:=nm0) limB_nil 100000 (-1) ns vs e _ _ rep_exp good_exp (by simp [startM]) ⟨by simp,hrs,by simp only [startM]; omega⟩ he
  have hcell:cellsM 1 (.hp 0 0)=M.pure (.agg [.hp 0 0]):=rfl
  have hBS:buildA T false 145 [(0,.int .i64 (-1)),(1,strs ns),(2,vals vs)] = some (scopeAv (-1) ns vs):=rfl
  have hlp:loadA T 139 (.ip [.hp 0 0])=some (.hp 0 0):=rfl
  have hex:loadA T 31 (.ip (acells e.av))=some e.av:=by simp
  have hcall:∀ h,callW pg 89 [.ip [.hp 0 0],.ip (acells (strs ns)),.ip (acells (vals vs)),.ip (acells e.av)] h=bnd (callW pg 90 [.hp 0 0,scopeAv (-1) ns vs,e.av]) (fun v=>bnd (cellsNil 4 [] v) fun w=>M.pure (AV.agg [nth (acells w) 0,nth (acells w) 1,nth (acells w) 2,nth (acells w) 3])) h:=fun h=>by
   rw [C89]
   simp -implicitDefEqProofs only [S89,hlp,hl1,hl2,hex,hBS,bnd_some]
  have hS:S51 (callW pg) fixW e.av (strs ns) (vals vs) [] = .ok (pairOf (evalX [] 100000 (-1) ns vs e (startM [] 100000 []))) []∨∃ h',S51 (callW pg) fixW e.av (strs ns) (vals vs) [] = .ok (pairOf (evalX [] 100000 (-1) ns vs e (startM [] 100000 []))) h':=by
   right
   simp -implicitDefEqProofs only [S51,hl1,hl2,bnd_some,LENE28,LENE61,bin_neq,hne,guardM_take1,ha,bnd_pure,unA_not,hr.2,Bool.not_true,nth_zero,pickA_false,condM_bool,Bool.false_eq_true,if_false,hB,acells_agg,hcl,hcell]
   have htry:=t88 (.fn (.func 89) [] [.ip [.hp 0 0],.ip (acells (strs ns)),.ip (acells (vals vs)),.ip (acells e.av)]) [[.hn,.hn,.int .i64 100000,.int .i64 0,.int .i64 0,.int .i64 0,.int .i64 0,.hn,.hn,.hn,.hn,.hn]]
   have hcv:callV (callW pg) (.fn (.func 89) [] [.ip [.hp 0 0],.ip (acells (strs ns)),.ip (acells (vals vs)),.ip (acells e.av)]) [] = callW pg 89 [.ip [.hp 0 0],.ip (acells (strs ns)),.ip (acells (vals vs)),.ip (acells e.av)]:=rfl
   rw [hcv,hcall] at htry
   have how:=out_wrap hev
   generalize evalX [] 100000 (-1) ns vs e (startM [] 100000 [])=r at how ⊢
   cases r with
   | ok v s =>
    obtain ⟨h',e1,_⟩:=how
    refine ⟨h',?_⟩
    rw [e1] at htry
    simp only [tryP,okEl_val,cond_true] at htry
    rw [bnd_ok htry]
    simp [pairOf,M.pure]
   | er c s =>
    obtain ⟨h',e1,_⟩:=how
    refine ⟨h',?_⟩
    rw [e1] at htry
    have ht:tryP 69 .i64 (.agg [.int .i64 0,.int .i64 0,.sl [],.sl []]) (.pan (errAv c) h') = .ok (.tup [Val.av default,.int .i64 c]) h':=rfl
    rw [ht] at htry
    rw [bnd_ok htry]
    simp [pairOf,M.pure]
  rcases hS with h | ⟨h',h⟩
  ·exact isoP_ok h fun g=>by cases evalX [] 100000 (-1) ns vs e (startM [] 100000 []) <;> exact cl_pair g _ _
  ·exact isoP_ok h fun g=>by cases evalX [] 100000 (-1) ns vs e (startM [] 100000 []) <;> exact cl_pair g _ _
 ·rw [if_neg hr]
  have hb:((ns.length:Int) != (vs.length:Int) || !(vs.all (fitsP 4)))=true:=by
   by_cases h1:ns.length=vs.length
   ·have:vs.all (fitsP 4)=false:=by
     rw [← Bool.not_eq_true]
     exact fun h2=>hr ⟨h1,h2⟩
    simp [this]
   ·have:((ns.length:Int) != (vs.length:Int))=true:=by
     rw [bne_iff_ne]
     omega
    simp [this]
  have hgu:guardM (.bool ((ns.length:Int) != (vs.length:Int))) false 1 (M.pure [.bool !(vs.all (fitsP 4))])=M.pure [gv ((ns.length:Int) != (vs.length:Int)) false (.bool !(vs.all (fitsP 4)))]:=guardM_pure1 _ _ _
  have hS:S51 (callW pg) fixW e.av (strs ns) (vals vs)=M.pure (.tup [Val.av default,.int .i64 1]):=by
   simp -implicitDefEqProofs only [S51,hl1,hl2,bnd_some,LENE28,LENE61,bin_neq,ha,bnd_pure,unA_not,hgu,nth_zero,pickA_or,hb,condM_bool,if_true,hZ]
   simp
  rw [hS]
  exact isoP_pure fun g=>cl_pair g _ _
end Go.Proofs.YtnipfhmghjdnmaaGreat

namespace Go.Proofs.YtnipfhmghjdnmaaGreat
open Go Go.Av Go.Av.Ap
theorem okm (m:Mod):loadA T 55 (.ip (acells m.av))=some m.av:=by simp
theorem t95 (p:List Mod) (hp:p.length≤1099511627776):callW pg 95 [mods p] = M.pure (.int .i64 (namesX p)):=by
 let D:Nat→Bool:=fun i=>(p.take i).any fun m=>m.name == (p[i]?.getD default).name
 have hloop:∀ (n k:Nat),p.length - k=n→k≤p.length→fixW (L95_0 (callW pg) fixW) [mods p,mods p,.int .i64 p.length,.int .i64 k] = M.pure (.int .i64 (if (List.range' k n).any D=true then 5 else 0)):=by
  intro n
  induction n with
  | zero =>
   intro k hk hl
   obtain rfl:k=p.length:=by omega
   rw [FL95_0]
   simp [L95_0]
  | succ n ih =>
   intro k hk hl
   have h1:(k:Int) < (p.length:Int):=by omega
   have hlt:k < p.length:=by omega
   have hi:=IX22 (l:=p) (n:=(k:Int)) (by omega) h1
   rw [show ((k:Int)).toNat=k by omega,getElem!_pos p k hlt] at hi
   have hs:sliceA T 22 (mods p) none (some (.int .i64 k)) none=some (mods (p.take k)):=by
    have:=sliceA_hi (T:=T) (t:=22) (e:=55) rfl rfl rfl (p.map Mod.av) (n:=(k:Int)) (by omega) (by simp; omega)
    simpa [mods,List.map_take] using this
   have ha:=t133 (.fn (.func 134) [] [.ip (acells p[k].av)]) (fun m=>m.name == p[k].name) (p.take k) (by simp; omega) (fun g=>by simp [cl,cls]) (fun m _=>t134 m p[k])
   have hD:D k=((p.take k).any fun m=>m.name == p[k].name):=by simp only [D,List.getElem?_eq_getElem hlt,Option.getD_some]
   have hw:IntKind.i64.wrap ((k:Int) + 1)=((k + 1:Nat):Int):=wrap_add1 (by omega)
   rw [FL95_0]
   simp -implicitDefEqProofs only [L95_0,nth_zero,nth_succ,bin_lss,bnd_some,condM_bool,h1,decide_true,if_true,hi,okm,cellsM_of (okEl_mod _),bnd_pure,acells_agg,hs,ha,bin_add,hw]
   rw [ih (k + 1) (by omega) (by omega),List.range'_succ,List.any_cons,hD]
   generalize ((p.take k).any fun m=>m.name == p[k].name)=b
   generalize (List.range' (k + 1) n).any D=c
   cases b <;> cases c <;> rfl
 rw [C95,cl_mods]
 have h0:=hloop p.length 0 (by omega) (by omega)
 have ht:twice p=(List.range' 0 p.length).any D:=by
  unfold twice
  rw [List.range_eq_range']
 have hS:S95 (callW pg) fixW (mods p)=M.pure (.int .i64 (namesX p)):=by
  unfold namesX
  rw [ht]
  by_cases h20:20 < p.length
  ·have h20':(20:Int) < (p.length:Int):=by omega
   simp only [h20,if_true]
   simp -implicitDefEqProofs only [S95,LENE22,bnd_some,bin_gtr,condM_bool,h20',decide_true,if_true]
  ·have:¬ ((20:Int) < (p.length:Int)):=by omega
   simp only [h20,if_false]
   simp -implicitDefEqProofs only [S95,LENE22,bnd_some,bin_gtr,condM_bool,this,decide_false,Bool.false_eq_true,if_false]
   exact h0
 rw [hS]
 exact isoP_pure fun g=>rfl
theorem t136 (m:Mod) (v:Vars) (hv:valsSz v.values≤4611686018427387904) (_hm:m.vars.length≤1099511627776):callW pg 136 [m.av,v.av] = M.pure (.bool (v.module == m.name&&(v.values.length == m.vars.length&&v.values.all (fitsP 4)))):=by
 have ha:=any_not 137 t137 v.values hv
 have e1:(((v.values.length:Nat):Int) == ((m.vars.length:Nat):Int))=(v.values.length == m.vars.length):=by rw [Bool.eq_iff_iff]; simp
 rw [C136]
 simp [S136,ha,e1]
 cases v.module == m.name <;> cases (v.values.length == m.vars.length) <;> simp
theorem okvars (v:Vars):loadA T 155 (.ip (acells v.av))=some v.av:=by simp
theorem t96 (p:List Mod) (st:List Vars) (hp:p.length≤1099511627776) (hm:∀ m∈p,m.vars.length≤1099511627776) (hv:∀ v∈st,valsSz v.values≤4611686018427387904):callW pg 96 [mods p,varss st] = M.pure (.bool (belongs p st)):=by
 let F:Mod→Vars→Bool:=fun m v=>v.module == m.name&&(v.values.length == m.vars.length&&v.values.all (fitsP 4))
 have hloop:p.length=st.length→∀ (n:Nat) (i:Int),p.length - i.toNat=n→0≤i→i≤p.length →
   fixW (L135_0 (callW pg) fixW) [varss st,.fn (.func 136) [] [],mods p,.int .i64 p.length,.int .i64 i] = M.pure (.bool (all2 F (p.drop i.toNat) (st.drop i.toNat))):=by
  intro hab n
  induction n with
  | zero =>
   intro i hn hi hl
   rw [FL135_0]
   simp only [L135_0]
   have h1:¬ (i < (p.length:Int)):=by omega
   have h2:p.drop i.toNat = []:=List.drop_eq_nil_of_le (by omega)
   have h3:st.drop i.toNat = []:=List.drop_eq_nil_of_le (by omega)
   simp [h1,h2,h3,all2]
  | succ n ih =>
   intro i hn hi hl
   have h1:i < (p.length:Int):=by omega
   have hlt:i.toNat < p.length:=by omega
   have hlt':i.toNat < st.length:=by omega
   have h3:=t136 p[i.toNat] st[i.toNat] (hv _ (List.getElem_mem hlt')) (hm _ (List.getElem_mem hlt))
   have h4:=ih (i + 1) (by omega) (by omega) (by omega)
   rw [show (i + 1).toNat=i.toNat + 1 by omega] at h4
   have i1:=IX22 (l:=p) (n:=i) hi h1
   have i2:=IX73 (l:=st) (n:=i) hi (by omega)
   rw [getElem!_pos p _ hlt] at i1
   rw [getElem!_pos st _ hlt'] at i2
   have hw:IntKind.i64.wrap (i + 1)=i + 1:=wrap_in (by omega) (by omega)
   have hcv:∀ x y:AV,callV (callW pg) (.fn (.func 136) [] []) [x,y] = callW pg 136 [x,y]:=fun _ _=>rfl
   have hm1:∀ m:Mod,AV.agg (acells m.av)=m.av:=fun m=>rfl
   have hv1:∀ v:Vars,AV.agg (acells v.av)=v.av:=fun v=>rfl
   rw [FL135_0,all2_drop F p st i.toNat hlt hlt']
   simp -implicitDefEqProofs only [L135_0,nth_zero,nth_succ,bin_lss,bnd_some,condM_bool,h1,decide_true,if_true,i1,i2,okm,okvars,cellsM_of (okEl_mod _),cellsM_of (okEl_vars _),bnd_pure,hm1,hv1,hcv,h3,unA_not,bin_add,hw,h4]
   have hF:F p[i.toNat] st[i.toNat] = (st[i.toNat].module == p[i.toNat].name&&(st[i.toNat].values.length == p[i.toNat].vars.length&&st[i.toNat].values.all (fitsP 4))):=rfl
   rw [hF]
   generalize (st[i.toNat].module == p[i.toNat].name&&(st[i.toNat].values.length == p[i.toNat].vars.length&&st[i.toNat].values.all (fitsP 4)))=b
   cases b <;> simp
 have hT:callW pg 135 [mods p,varss st,.fn (.func 136) [] []] = M.pure (.bool (all2 F p st)):=by
  rw [C135]
  by_cases h:p.length=st.length
  ·have:=hloop h p.length 0 rfl (by omega) (by omega)
   simp [S135,h,cl,cls] at this ⊢
   simp [this]
  ·have h3:(p.length != st.length)=true:=by simp [h]
   simp [S135,h3,all2_length F p st h,cl,cls]
 rw [C96]
 simp only [S96,cl_mods,cl_varss,hT,bnd_pure]
 exact isoP_pure fun g=>rfl
def freshAv:Except Int (List Vars)→AV
 | .ok st=>.tup [varss st,.int .i64 0]
 | .error e=>.tup [.sl [],.int .i64 e]
theorem expX_err {e:Exp} {ns:List Str} {vs:List Val} {c:Int} {s:Ms} (h:expX e ns vs = .er c s):c≠0:=by
 unfold expX at h
 split at h
 ·exact eval_err h
 ·cases h; decide
theorem fresh_in (outer:List AV→M AV) (p:List Mod) (out:List Vars) (i:AV) (nm:Str) (es:List Exp) (hes:∀ e∈es,expLim e) (hlen:es.length≤274877906944) (hout:out.length≤1099511627776):∀ (B A:List Exp) (acc:List Val) (k:Int),A++B=es→acc.length=A.length→i = .int .i64 k → -4611686018427387904≤k→k≤4611686018427387904 →
  fixW (L62_0 (callW pg) fixW outer) [varss out,mods p,.int .i64 p.length,i,exps es,.int .i64 es.length,.int .i64 A.length,.str nm,vals acc] =
  match initL B with
  | .error c=>M.pure (.tup [.sl [],.int .i64 c])
  | .ok vs=>outer [varss (out++[⟨nm,acc++vs⟩]),mods p,.int .i64 p.length,.int .i64 (k + 1)]
 | [],A,acc,k,e,hac,hi,hk1,hk2=>by
  simp only [List.append_nil] at e
  subst e
  subst hi
  have hb:buildSliceA T 73 1 [(0,.agg [.str nm,vals acc])] = some (varss [⟨nm,acc⟩]):=rfl
  have ha:appA T 73 (varss out) (varss [⟨nm,acc⟩])=some (varss (out++[⟨nm,acc⟩])):=AP73 (by simp; omega)
  have hw:IntKind.i64.wrap (k + 1)=k + 1:=wrap_in (by omega) (by omega)
  rw [FL62_0]
  simp -implicitDefEqProofs only [L62_0,nth_zero,nth_succ,bin_lss,bnd_some,condM_bool,Int.lt_irrefl,decide_false,Bool.false_eq_true,if_false,hb,ha,bin_add,hw]
  simp [initL]
 | x :: B,A,acc,k,e,hac,hi,hk1,hk2=>by
  have hll:A.length + (B.length + 1)=es.length:=by rw [← e]; simp
  have h1:(A.length:Int) < (es.length:Int):=by omega
  have hx:es[A.length]'(by omega)=x:=by subst e; simp
  have hm:x∈es:=by rw [← e]; simp
  have hix:=IX29 (l:=es) (n:=(A.length:Int)) (by omega) h1
  rw [show ((A.length:Int)).toNat=A.length by omega,getElem!_pos es A.length (by omega),hx] at hix
  have hex:loadA T 31 (.ip (acells x.av))=some x.av:=by simp
  have hx1:∀ e:Exp,AV.agg (acells e.av)=e.av:=fun _=>rfl
  have hcall:=t51 x [] [] (hes x hm) (by simp) (by simp [valsSz])
  have hcall':callW pg 51 [x.av,.sl [],.sl []] = M.pure (pairOf (expX x [] [])):=hcall
  have hw:IntKind.i64.wrap ((A.length:Int) + 1)=((A.length + 1:Nat):Int):=wrap_add1 (by omega)
  have hne:∀ a b:Int,binA T .neq 69 (.int .i64 a) (.int .i64 b)=some (.bool (a != b)):=fun _ _=>rfl
  rw [FL62_0]
  simp -implicitDefEqProofs only [L62_0,nth_zero,nth_succ,bin_lss,bnd_some,condM_bool,h1,decide_true,if_true,hix,hex,cellsM_of (okEl_exp x),bnd_pure,hx1,hcall']
  unfold initL
  cases hr:expX x [] [] with
  | er c s =>
   have hc0:(c != 0)=true:=by
    have:=expX_err hr
    simpa using this
   simp -implicitDefEqProofs only [pairOf,extractA_tup,List.getElem?_cons_zero,List.getElem?_cons_succ,bnd_some,cellsM_of (okEl_val default),bnd_pure,hne,hc0,condM_bool,if_true]
  | ok v s =>
   have hb2:buildSliceA T 61 1 [(0,v.av)] = some (vals [v]):=by rw [v.av_eq]; simp [vals,valsAv,v.av_eq]; rfl
   have ha2:appA T 61 (vals acc) (vals [v])=some (vals (acc++[v])):=AP61 (by simp; omega)
   have hc1:cell1M (vals (acc++[v]))=M.pure (vals (acc++[v])):=rfl
   have hvv:∀ v:Val,AV.agg (acells v.av)=v.av:=fun v=>by simp
   have h00:((0:Int) != 0)=false:=rfl
   have hvl:loadA T 71 (.ip (acells v.av))=some v.av:=by simp
   have ih:=fresh_in outer p out i nm es hes hlen hout B (A++[x]) (acc++[v]) k (by rw [← e]; simp) (by simp [hac]) hi hk1 hk2
   simp only [List.append_assoc,List.singleton_append,List.length_append,List.length_singleton] at ih
   simp -implicitDefEqProofs only [pairOf,extractA_tup,List.getElem?_cons_zero,List.getElem?_cons_succ,bnd_some,cellsM_of (okEl_val v),bnd_pure,hne,h00,condM_bool,Bool.false_eq_true,if_false,hvv,hvl,hb2,ha2,hc1,bin_add,hw,ih]
   cases initL B <;> rfl
theorem t62 (p:List Mod) (hp:p.length≤1099511627776) (hm:∀ m∈p,m.vars.length≤1099511627776∧m.init.length≤274877906944∧∀ e∈m.init,expLim e):callW pg 62 [mods p] = M.pure (freshAv (freshX p)):=by
 have hloop:∀ (B A:List Mod) (out:List Vars),A++B=p→out.length=A.length→fixW (L62_1 (callW pg) fixW) [varss out,mods p,.int .i64 p.length,.int .i64 A.length] =
   M.pure (match freshL B with | .error c=>.tup [.sl [],.int .i64 c] | .ok r=>.tup [varss (out++r),.int .i64 0]):=by
  intro B
  induction B with
  | nil =>
   intro A out e ho
   simp only [List.append_nil] at e
   subst e
   rw [FL62_1]
   simp -implicitDefEqProofs only [L62_1,nth_zero,nth_succ,bin_lss,bnd_some,condM_bool,Int.lt_irrefl,decide_false,Bool.false_eq_true,if_false,freshL,List.append_nil]
  | cons x B ih =>
   intro A out e ho
   have hll:A.length + (B.length + 1)=p.length:=by rw [← e]; simp
   have h1:(A.length:Int) < (p.length:Int):=by omega
   have hx:p[A.length]'(by omega)=x:=by subst e; simp
   have hmm:x∈p:=by rw [← e]; simp
   obtain ⟨m1,m2,m3⟩:=hm x hmm
   have hix:=IX22 (l:=p) (n:=(A.length:Int)) (by omega) h1
   rw [show ((A.length:Int)).toNat=A.length by omega,getElem!_pos p A.length (by omega),hx] at hix
   have hB:buildA T true 155 [(0,.str x.name)] = some (.agg [.str x.name,.hn]):=rfl
   have hC:cellsNil 2 [1] (.agg [.str x.name,.hn])=M.pure (.agg [.str x.name,.hn]):=rfl
   have hin:=fresh_in (fixW (L62_1 (callW pg) fixW)) p out (.int .i64 A.length) x.name x.init m3 m2 (by omega) x.init [] [] A.length rfl rfl rfl (by omega) (by omega)
   rw [FL62_1]
   simp -implicitDefEqProofs only [L62_1,nth_zero,nth_succ,bin_lss,bnd_some,condM_bool,h1,decide_true,if_true,hix,okm,cellsM_of (okEl_mod x),bnd_pure,acells_agg]
   simp -implicitDefEqProofs only [nth_zero,nth_succ,bnd_some,condM_bool,bnd_pure,acells_agg,acells_mod,FA55_0,FA55_2,FA55_3,List.drop_succ_cons,List.drop_zero,LD9,LD29,LD50,LENE29,LENE50,hB,hC,bin_neq]
   unfold freshL
   by_cases hl:x.init.length=x.vars.length
   ·have hl':((x.init.length:Int) != (x.vars.length:Int))=false:=by simp [hl]
    simp only [hl',Bool.false_eq_true,if_false,if_pos hl]
    have hz:((([]:List Exp).length:Nat):Int)=0:=rfl
    rw [hz] at hin
    have hv0:vals [] = .sl []:=rfl
    rw [hv0] at hin
    rw [hin]
    cases initL x.init with
    | error c=>rfl
    | ok vs =>
     have:=ih (A++[x]) (out++[⟨x.name,vs⟩]) (by rw [← e]; simp) (by simp [ho])
     simp only [List.length_append,List.length_singleton] at this
     have hcast:((A.length:Int) + 1)=((A.length + 1:Nat):Int):=by omega
     simp only [List.nil_append,hcast,this]
     cases freshL B <;> simp
   ·have hl':((x.init.length:Int) != (x.vars.length:Int))=true:=by
     rw [bne_iff_ne]
     omega
    simp only [hl',if_true,if_neg hl]
 have h0:=hloop p [] [] rfl rfl
 have hne:∀ a b:Int,binA T .neq 69 (.int .i64 a) (.int .i64 b)=some (.bool (a != b)):=fun _ _=>rfl
 have hS:S62 (callW pg) fixW (mods p)=M.pure (freshAv (freshX p)):=by
  unfold freshX
  by_cases hn:namesX p=0
  ·have hn':(namesX p != 0)=false:=by simp [hn]
   simp -implicitDefEqProofs only [S62,t95 p hp,bnd_pure,hne,bnd_some,hn',condM_bool,Bool.false_eq_true,if_false,LENE22]
   rw [if_pos hn]
   simp only [List.length_nil,List.nil_append] at h0
   have:varss [] = .sl []:=rfl
   rw [this] at h0
   have hz:((0:Nat):Int)=0:=rfl
   rw [hz] at h0
   rw [h0]
   cases freshL p <;> rfl
  ·have hn':(namesX p != 0)=true:=by simp [hn]
   simp -implicitDefEqProofs only [S62,t95 p hp,bnd_pure,hne,bnd_some,hn',condM_bool,if_true]
   rw [if_neg hn]
   rfl
 rw [C62,cl_mods,hS]
 exact isoP_pure fun g=>by
  cases freshX p with
  | error e=>rfl
  | ok st=>simp [freshAv,cl,cls]
end Go.Proofs.YtnipfhmghjdnmaaGreat

namespace Go.Proofs.YtnipfhmghjdnmaaGreat
open Go Go.Av Go.Av.Ap
theorem okEl_vars2 (s:Str) (v:AV) (h:okCell v=true):okEl 2 (.agg [.str s,v])=true:=by
 simp only [okEl,sizeA,acells,List.all_cons,List.all_nil]
 rw [h]
 rfl
theorem push_state {p:List Mod} {nm:SNm} {tag:Nat→Nat} {dv cv sv:AV} {m:Ms} {h:Hp} (R:RepT (rowP p nm.told) nm tag dv cv sv m h) (hnil:m.state = []→nm.cells = []∧nm.names = []) (x:Vars) (hb:x.values.length≤274877906944) (hs:m.state.length≤1099511627776) :
  ∃ av h1 sv' h2 h3 nm',callW pg 100 [vals x.values] h = .ok av h1∧okCell av=true∧loadH T 73 (.hp 0 11) h = .ok sv h∧appH T 73 false sv (.sl [.agg [.str x.module,av]]) h1 = .ok sv' h2∧storeH T 73 (.hp 0 11) sv' h2 = .ok (.tup []) h3 ∧
   nm'.names=nm.names++[x.module]∧nm'.told=nm.told∧RepP p nm' { m with state:=m.state++[x.values] } h3:=by
 have e0:callW pg 100 [vals x.values] = cloneH T 61 (callW pg) [vals x.values]:=callW_other hOther rfl _
 have e1:=cloneH_vals (T:=T) (t:=61) rfl rfl rfl rfl rfl (by decide) (callW pg) x.values (show x.values.length * 64≤140737488355328 by omega) h
 have hl:loadH T 73 (.hp 0 11) h = .ok sv h:=loadH_one rfl rfl R.r0 rfl
 -- the clone
 have hcl:∃ av h1 tag1,callW pg 100 [vals x.values] h = .ok av h1∧RepT (rowP p nm.told) nm tag1 dv cv sv m h1∧okCell av=true∧((x.values = []∧av = .sl [])∨∃ r,av = .hs r 0 x.values.length 4 true∧tag1 r=6 + m.state.length∧h1[r]? = some (valCells x.values)):=by
  rw [e0]
  by_cases hv:x.values = []
  ·rw [if_pos hv] at e1
   exact ⟨_,h,tag,e1,R,rfl,.inl ⟨hv,rfl⟩⟩
  ·rw [if_neg hv] at e1
   exact ⟨_,_,_,e1,(R.more (valCells x.values) (6 + m.state.length)).1,rfl,.inr ⟨h.length,rfl,by simp,by simp⟩⟩
 obtain ⟨av,h1,tag1,c1,R1,ok1,A1⟩:=hcl
 obtain ⟨h2,sv',tag',p1,K,H,hc⟩:=push_row (T:=T) (t:=73) rfl rfl rfl rfl (by decide) rfl (by decide) (x:=.agg [.str x.module,av]) R1.st (fun h0=>by
  have h00:m.state = []:=List.eq_nil_of_length_eq_zero h0
  obtain ⟨n1,n2⟩:=hnil h00
  rw [h00,n2]
  exact ⟨n1.symm,rfl⟩) (fun cs h=>h.2.ok) (okEl_vars2 _ _ ok1) (show (m.state.length + 1) * 40≤140737488355328 by omega)
 have h0:=(K 0 _ R1.r0 (by rw [R1.t0]; decide)).1
 have hac:acells sv' = [sv']:=(okCell_one hc).2.1
 have:=R1.pushState (n:=x.module) (l:=x.values) K A1 H
 refine ⟨av,h1,sv',h2,_,⟨nm.names++[x.module],sv',nm.cells++[.str x.module,av],nm.told⟩,c1,ok1,hl,p1,storeH_ok rfl h0 (okCell_one hc).1 (show 11 + 1≤12 by decide) (by decide),rfl,rfl,tag',dv,cv,sv',?_⟩
 rw [hac]
 exact this
theorem build_vars (s:Str) (v:AV) (h:okCell v=true):buildA T false 155 [(0,.str s),(1,v)] = some (.agg [.str s,v]):=by
 cases v with
 | any=>cases h
 | agg _=>cases h
 | tup _=>cases h
 | _=>rfl
theorem buildS_vars (x:AV) (hx:sizeA x=some 2):buildSliceA T 73 1 [(0,x)] = some (.sl [x]):=by
 have h1:buildSliceA T 73 1 [(0,x)] = (fillEls 2 (List.replicate 1 (.agg [.str [],.sl []])) [(0,x)]).map .sl:=rfl
 rw [h1]
 simp only [fillEls,hx,List.length_replicate]
 rfl
theorem loop_from {p:List Mod} (st:List Vars) (hst:st.length≤1099511627776) (hv:∀ x∈st,x.values.length≤274877906944) (y0 y2 y3 y7 y8 y9 y10 y11 y12 y13 y14:AV):∀ (B A:List Vars) (nm:SNm) (m:Ms) (h:Hp),A++B=st→m.state=A.map (·.values)→nm.names=A.map (·.module)→(m.state = []→nm.cells = [])→nm.told=false→RepP p nm m h →
  ∃ nm' h',nm'.names=st.map (·.module)∧nm'.told=false∧RepP p nm' { m with state:=st.map (·.values) } h' ∧
   fixW (L63_0 (callW pg) fixW) [y0,.ip [.hp 0 0],y2,y3,varss st,.int .i64 st.length,.int .i64 A.length,y7,y8,y9,y10,y11,y12,y13,y14] h =
   fixW (L63_0 (callW pg) fixW) [y0,.ip [.hp 0 0],y2,y3,varss st,.int .i64 st.length,.int .i64 st.length,y7,y8,y9,y10,y11,y12,y13,y14] h'
 | [],A,nm,m,h,e,hs,hn,hc,ht,R=>by
  simp only [List.append_nil] at e
  subst e
  refine ⟨nm,h,hn,ht,?_,rfl⟩
  rw [← hs]
  exact R
 | x :: B,A,nm,m,h,e,hs,hn,hc,ht,R=>by
  have hll:A.length + (B.length + 1)=st.length:=by rw [← e]; simp
  have h1:(A.length:Int) < (st.length:Int):=by omega
  have hx:st[A.length]'(by omega)=x:=by subst e; simp
  have hm:x∈st:=by rw [← e]; simp
  have hix:=IX73 (l:=st) (n:=(A.length:Int)) (by omega) h1
  rw [show ((A.length:Int)).toNat=A.length by omega,getElem!_pos st A.length (by omega),hx] at hix
  have hmsl:m.state.length=A.length:=by rw [hs]; simp
  obtain ⟨tag,dv,cv,sv,R0⟩:=R
  obtain ⟨av,h2,sv',h3,h4,nm',c1,ok1,l1,p1,s1,n1,t1,R'⟩:=push_state R0 (fun h0=>⟨hc h0,by
   rw [hn]
   have:A = []:=by
    apply List.eq_nil_of_length_eq_zero
    rw [← hmsl,h0]
    rfl
   rw [this]; rfl⟩) x (hv x hm) (by omega)
  obtain ⟨nm2,h',j1,j2,j3,j4⟩:=loop_from (p:=p) st hst hv y0 y2 y3 y7 y8 y9 y10 y11 y12 y13 y14 B (A++[x]) nm' _ h4 (by rw [← e]; simp) (by simp [hs]) (by rw [n1,hn]; simp) (fun h0=>by simp at h0) (t1.trans ht) R'
  refine ⟨nm2,h',j1,j2,j3,?_⟩
  rw [← j4]
  generalize hcode:fixW (L63_0 (callW pg) fixW) [y0,.ip [.hp 0 0],y2,y3,varss st,.int .i64 st.length,.int .i64 A.length,y7,y8,y9,y10,y11,y12,y13,y14] h=code
  have hlp:loadA T 139 (.ip [.hp 0 0])=some (.hp 0 0):=rfl
  have hvv:AV.agg (acells x.av)=x.av:=rfl
  have hac:acells x.av = [.str x.module,vals x.values]:=rfl
  have hw:IntKind.i64.wrap ((A.length:Int) + 1)=((A.length + 1:Nat):Int):=wrap_add1 (by omega)
  have ls:∀ g:AV→M AV,bnd (loadH T 73 (.hp 0 11)) g h=g sv h:=fun g=>bnd_ok l1
  rw [FL63_0] at hcode
  simp -implicitDefEqProofs only [L63_0,nth_zero,nth_succ,bin_lss,bnd_some,condM_bool,h1,decide_true,if_true,hix,okvars,cellsM_of (okEl_vars x),bnd_pure,acells_agg,hlp,nilChkA_hp,FH141_4,FH75_4,Nat.zero_add,Nat.reduceAdd,ls] at hcode
  simp -implicitDefEqProofs only [bnd_some,bnd_pure,acells_agg,hac,FA155_0,FA155_1,List.drop_succ_cons,List.drop_zero,LD9,LD61] at hcode
  rw [bnd_ok c1] at hcode
  simp -implicitDefEqProofs only [build_vars _ _ ok1,buildS_vars (.agg [.str x.module,av]) rfl,bnd_some] at hcode
  rw [bnd_ok p1] at hcode
  rw [bnd_ok s1] at hcode
  simp -implicitDefEqProofs only [bin_add,bnd_some,hw] at hcode
  rw [← hcode]
  simp only [List.length_append,List.length_singleton]
theorem any_right (l:List Val) (hl:valsSz l≤4611686018427387904):callW pg 85 [vals l,.fn (.func 99) [] []] = M.pure (.bool !(l.all (fitsP 4))):=any_not 99 t99 l hl
def nmF:SNm:=⟨[],.hn,[],false⟩
def rowF (p:List Mod) (world:List Int) (fuel:Int):List AV:=[mods p,ints world,.int .i64 fuel,.int .i64 0,.int .i64 0,.int .i64 0,.int .i64 0,.hn,.hn,.hn,.hn,.hn]
theorem rep_from (p:List Mod) (world:List Int) (fuel:Int):RepP p nmF (startM world fuel []) [rowF p world fuel] :=
 ⟨fun _=>0,.hn,.hn,.hn,rfl,rfl,.inl ⟨rfl,rfl⟩,.inl ⟨rfl,rfl⟩,.inl ⟨rfl,rfl⟩,rfl,fun h=>by cases h⟩
theorem freeze_out {p:List Mod} {nm:SNm} {m:Ms} {h:Hp} (R:RepP p nm m h) (e:Int) (v:Val):∃ h1 cells,(storeH T 71 (.hp 0 5) v.av h = .ok (.tup []) h1)∧∃ h2,storeH T 69 (.hp 0 4) (.int .i64 e) h1 = .ok (.tup []) h2∧loadH T 75 (.hp 0 4) h2 = .ok (.agg cells) h2 ∧
  bnd (cellsNil 8 [] (.agg cells)) (fun w=>M.pure (AV.agg [nth (acells w) 0,nth (acells w) 1,nth (acells w) 2,nth (acells w) 3,nth (acells w) 4,nth (acells w) 5,nth (acells w) 6,nth (acells w) 7])) h2 = .ok (.agg cells) h2∧frz 6 h2 (.agg cells)=Out.av ⟨e,v,m.deeds,m.calls,List.zipWith Vars.mk nm.names m.state⟩:=by
 obtain ⟨tag,dv,cv,sv,R⟩:=R
 have hlt:0 < h.length:=(List.getElem?_eq_some_iff.1 R.r0).1
 have s1:=storeH_ok (T:=T) (t:=71) rfl R.r0 (v:=v.av) (k:=5) (okEl_val v) (show 5 + 4≤12 by decide) (by decide)
 have e1:setCells (rowP p nm.told m dv cv sv) 5 (acells v.av) = [pvOf nm.told p,wvOf nm.told m.world,.int .i64 m.fuel,.int .i64 m.frames,.int .i64 0,.int .i64 v.kind,.int .i64 v.n,strs v.names,vals v.values,dv,cv,sv]:=by
  rw [acells_val]
  rfl
 rw [e1] at s1
 have s2:=storeH_ok (T:=T) (t:=69) rfl (h:=h.set 0 [pvOf nm.told p,wvOf nm.told m.world,.int .i64 m.fuel,.int .i64 m.frames,.int .i64 0,.int .i64 v.kind,.int .i64 v.n,strs v.names,vals v.values,dv,cv,sv]) (l:=0) (k:=4) (v:=.int .i64 e) (List.getElem?_set_self hlt) rfl (show 4 + 1≤12 by decide) (by decide)
 rw [List.set_set] at s2
 have e2:setCells [pvOf nm.told p,wvOf nm.told m.world,.int .i64 m.fuel,.int .i64 m.frames,.int .i64 0,.int .i64 v.kind,.int .i64 v.n,strs v.names,vals v.values,dv,cv,sv] 4 (acells (.int .i64 e)) = [pvOf nm.told p,wvOf nm.told m.world,.int .i64 m.fuel,.int .i64 m.frames,.int .i64 e,.int .i64 v.kind,.int .i64 v.n,strs v.names,vals v.values,dv,cv,sv]:=rfl
 rw [e2] at s2
 refine ⟨_,[.int .i64 e,.int .i64 v.kind,.int .i64 v.n,strs v.names,vals v.values,dv,cv,sv],s1,_,s2,?_,?_,?_⟩
 ·exact loadH_agg (T:=T) (t:=75) rfl rfl (List.getElem?_set_self hlt) (show 4 + 8≤12 by decide)
 ·have hd:okCell dv=true:=by rcases R.ds with ⟨_,rfl⟩ | ⟨q,cs,rfl,_⟩ <;> rfl
  have hc:okCell cv=true:=by rcases R.cs with ⟨_,rfl⟩ | ⟨q,cs,rfl,_⟩ <;> rfl
  have hs:okCell sv=true:=by rcases R.st with ⟨_,rfl⟩ | ⟨q,cs,rfl,_⟩ <;> rfl
  have hok:okEl 8 (.agg [.int .i64 e,.int .i64 v.kind,.int .i64 v.n,strs v.names,vals v.values,dv,cv,sv])=true:=by
   simp only [okEl,sizeA,acells,List.all_cons,List.all_nil,hd,hc,hs]
   rfl
  rw [cellsNil_of hok]
  rfl
 ·-- the rows but the first one are as they were
  have K:Kp tag tag (fun k=>k=0) h (h.set 0 [pvOf nm.told p,wvOf nm.told m.world,.int .i64 m.fuel,.int .i64 m.frames,.int .i64 e,.int .i64 v.kind,.int .i64 v.n,strs v.names,vals v.values,dv,cv,sv]):=Kp.kill R.t0 _
  have d1:=frz_deeds (d:=4) (R.ds.keep K (c':=fun cs=>cs=deedCells m.deeds) (by decide) fun _ h=>h)
  have d2:=frz_calls (d:=4) (R.cs.keep K (by decide) fun _ h=>h.keep K (by decide))
  have d3:=frz_states (d:=4) (c0:=nm.cells) (R.st.keep K (by decide) fun _ h=>⟨h.1,h.2.keep K (by omega)⟩)
  rw [frz_succ]
  simp only [cl,cls,d1,d2,d3,cl_strs,cl_vals]
  rfl
theorem isoP_frz {m:M AV} {a r:AV} {h':Hp} (h1:m [] = .ok a h') (h2:frz 6 h' a=r):isoP m=M.pure r:=by
 funext h
 unfold isoP
 rw [h1]
 simp only [M.pure,h2]
theorem wrap8 (o:Out):bnd (cellsNil 8 [] o.av) (fun w=>M.pure (AV.agg [nth (acells w) 0,nth (acells w) 1,nth (acells w) 2,nth (acells w) 3,nth (acells w) 4,nth (acells w) 5,nth (acells w) 6,nth (acells w) 7]))=M.pure o.av:=by
 rw [cellsNil_of (okEl_out o)]
 rfl
theorem build_err (e:Int):buildA T false 75 [(0,.int .i64 e)] = some (errO e).av:=rfl
theorem from_body {p:List Mod} (LB:LimB p) (st:List Vars) (args:List Val) (world:List Int) (fuel at_:Int) (f:Fun) (hst:st.length≤1099511627776) (hv:∀ x∈st,x.values.length≤274877906944)
  (hat0:0≤at_) (hat:at_ < p.length) (hf:f∈(p[at_.toNat]?.getD default).funcs) (hlen:args.length=f.params.length) (hr:∀ v∈args,Rv v) (hb:belongs p st=true) (hfu:0≤fuel∧fuel≤100000) (y7 y8 y9 y10 y11 y12 y13 y14:AV) :
  ∃ a h',fixW (L63_0 (callW pg) fixW) [.ip (acells (vals args)),.ip [.hp 0 0],.ip [.int .i64 at_],.ip (acells f.av),varss st,.int .i64 st.length,.int .i64 0,y7,y8,y9,y10,y11,y12,y13,y14] [rowF p world fuel] = .ok a h' ∧
   frz 6 h' a=(outOf (st.map (·.module)) (enterX p (evalX p 100000) at_ f args (startM world fuel (st.map (·.values))))).av:=by
 obtain ⟨nm,h1,n1,n2,R1,e1⟩:=loop_from (p:=p) st hst hv (.ip (acells (vals args))) (.ip [.int .i64 at_]) (.ip (acells f.av)) y7 y8 y9 y10 y11 y12 y13 y14 st [] nmF (startM world fuel []) _ rfl rfl rfl (fun _=>rfl) rfl (rep_from p world fuel)
 have hz:((([]:List Vars).length:Nat):Int)=0:=rfl
 rw [hz] at e1
 rw [e1]
 have hbr:=belongs_right hb
 have e2:({ startM world fuel [] with state:=st.map (·.values) }:Ms)=startM world fuel (st.map (·.values)):=rfl
 rw [e2] at R1
 have G:GoodM p (startM world fuel (st.map (·.values))):=by
  refine ⟨⟨fun l hl v hv=>?_,fun c hc=>by simp [startM] at hc⟩,by simp [mu,startM]; omega,by simp [startM],by simp [startM]; omega,fun i x hx=>?_⟩
  ·simp only [startM,List.mem_map] at hl
   obtain ⟨y,hy,rfl⟩:=hl
   exact hbr.2.1 y hy v hv
  ·have hi:i < p.length:=(List.getElem?_eq_some_iff.1 hx).1
   have hi2:i < st.length:=by rw [hbr.1]; exact hi
   refine ⟨st[i].values,by simp [startM,hi2],?_⟩
   exact (hbr.2.2 i x st[i] hx (List.getElem?_eq_getElem hi2)).2
 have hen:=enterOK (nm:=nm) LB 100000 at_ f args _ _ hat0 hat hf hlen hr R1 G (by simp [mu,startM]; omega) (by simp [startM]; omega)
 have hlp:loadA T 139 (.ip [.hp 0 0])=some (.hp 0 0):=rfl
 have hla:loadA T 3 (.ip [.int .i64 at_])=some (.int .i64 at_):=rfl
 have hlf:loadA T 90 (.ip (acells f.av))=some f.av:=by simp
 have hlv:loadA T 61 (.ip (acells (vals args)))=some (vals args):=rfl
 have hcall:∀ h,callW pg 101 [.ip [.hp 0 0],.ip [.int .i64 at_],.ip (acells f.av),.ip (acells (vals args))] h=bnd (callW pg 102 [.hp 0 0,.int .i64 at_,f.av,vals args]) (fun v=>bnd (cellsNil 4 [] v) fun w=>M.pure (AV.agg [nth (acells w) 0,nth (acells w) 1,nth (acells w) 2,nth (acells w) 3])) h:=fun h=>by
  rw [C101]
  simp -implicitDefEqProofs only [S101,hlp,hla,hlf,hlv,bnd_some]
 have htry:=t88 (.fn (.func 101) [] [.ip [.hp 0 0],.ip [.int .i64 at_],.ip (acells f.av),.ip (acells (vals args))]) h1
 have hcv:callV (callW pg) (.fn (.func 101) [] [.ip [.hp 0 0],.ip [.int .i64 at_],.ip (acells f.av),.ip (acells (vals args))]) [] = callW pg 101 [.ip [.hp 0 0],.ip [.int .i64 at_],.ip (acells f.av),.ip (acells (vals args))]:=rfl
 rw [hcv,hcall] at htry
 have how:=out_wrap hen
 generalize hcode:fixW (L63_0 (callW pg) fixW) [.ip (acells (vals args)),.ip [.hp 0 0],.ip [.int .i64 at_],.ip (acells f.av),varss st,.int .i64 st.length,.int .i64 st.length,y7,y8,y9,y10,y11,y12,y13,y14] h1=code
 rw [FL63_0] at hcode
 simp -implicitDefEqProofs only [L63_0,nth_zero,nth_succ,bin_lss,bnd_some,condM_bool,Int.lt_irrefl,decide_false,Bool.false_eq_true,if_false,hlp] at hcode
 generalize enterX p (evalX p 100000) at_ f args (startM world fuel (st.map (·.values)))=r at how ⊢
 -- what the catch leaves
 have hfin:∃ (e:Int) (v:Val) (s:Ms) (h2:Hp),outOf (st.map (·.module)) r=⟨e,v,s.deeds,s.calls,List.zipWith Vars.mk (st.map (·.module)) s.state⟩∧RepP p nm s h2∧callW pg 88 [.fn (.func 101) [] [.ip [.hp 0 0],.ip [.int .i64 at_],.ip (acells f.av),.ip (acells (vals args))]] h1 = .ok (.tup [v.av,.int .i64 e]) h2:=by
  cases r with
  | ok v s =>
   obtain ⟨h',g1,g2⟩:=how
   rw [g1] at htry
   simp only [tryP,okEl_val,cond_true] at htry
   refine ⟨0,v,s,h',rfl,g2,?_⟩
   rw [htry]
   simp
  | er c s =>
   obtain ⟨h',g1,g2⟩:=how
   rw [g1] at htry
   exact ⟨c,default,s,h',rfl,g2,htry⟩
 obtain ⟨e,v,s,h2,o1,R2,t1⟩:=hfin
 obtain ⟨h3,cells,s1,h4,s2,l1,w1,fz⟩:=freeze_out R2 e v
 rw [bnd_ok t1] at hcode
 simp -implicitDefEqProofs only [extractA_tup,List.getElem?_cons_zero,List.getElem?_cons_succ,bnd_some,nilChkA_hp,FH141_4,FH75_0,FH75_1,Nat.zero_add,Nat.reduceAdd] at hcode
 rw [bnd_ok s1] at hcode
 rw [bnd_ok s2] at hcode
 rw [bnd_ok l1] at hcode
 rw [w1] at hcode
 refine ⟨_,_,hcode.symm,?_⟩
 rw [fz,o1,n1]
end Go.Proofs.YtnipfhmghjdnmaaGreat

namespace Go.Proofs.YtnipfhmghjdnmaaGreat
open Go Go.Av Go.Av.Ap
theorem err_ne (a b:Int):binA T .neq 69 (.int .i64 a) (.int .i64 b)=some (.bool (a != b)):=rfl
theorem t63 {p:List Mod} (LB:LimB p) (st:List Vars) (module fn:Str) (args:List Val) (world:List Int) (fuel:Int) (hst:st.length≤1099511627776) (hv:∀ x∈st,x.values.length≤274877906944∧valsSz x.values≤4611686018427387904)
  (hargs:valsSz args≤4611686018427387904):callW pg 63 [mods p,varss st,.str module,.str fn,vals args,ints world,.int .i64 fuel] = M.pure (fromX p st module fn args world fuel).av:=by
 have hnm:=t95 p LB.lim.len
 have hbl:=t96 p st LB.lim.len (fun m hm=>(LB.lim.funcs m hm).2) (fun x hx=>(hv x hx).2)
 have hany:=any_right args hargs
 have hcl1:∀ s:Str,cl noHs (.str s) = .str s:=fun _=>rfl
 have hcl2:∀ n:Int,cl noHs (.int .i64 n) = .int .i64 n:=fun _=>rfl
 rw [C63,cl_mods,cl_varss,hcl1,hcl1,cl_vals,cl_ints,hcl2]
 have key : ∃ a h',S63 (callW pg) fixW (mods p) (varss st) (.str module) (.str fn) (vals args) (ints world) (.int .i64 fuel) [] = .ok a h'∧frz 6 h' a=(fromX p st module fn args world fuel).av:=by
  have done:∀ (o:Out) (c:M AV),c [] = M.pure o.av []→∃ a h',c [] = .ok a h'∧frz 6 h' a=o.av:=fun o c h=>⟨o.av,[],h,cl_out _ o⟩
  generalize hcode:S63 (callW pg) fixW (mods p) (varss st) (.str module) (.str fn) (vals args) (ints world) (.int .i64 fuel) [] = code
  simp -implicitDefEqProofs only [S63,hnm,bnd_pure,err_ne,bnd_some,condM_bool] at hcode
  unfold fromX
  by_cases hn:namesX p=0
  ·have hn':(namesX p != 0)=false:=by simp [hn]
   have hnn:¬ (namesX p≠0):=fun h=>h hn
   simp only [hn',Bool.false_eq_true,if_false] at hcode
   simp only [if_neg hnn]
   have hg1:guardM (.bool (decide (fuel < 0))) false 1 (M.pure [.bool (decide (100000 < fuel))])=M.pure [gv (decide (fuel < 0)) false (.bool (decide (100000 < fuel)))]:=guardM_pure1 _ _ _
   have hg2:guardM (.bool (decide (fuel < 0)||decide (100000 < fuel))) false 1 (M.pure [.bool !(belongs p st)])=M.pure [gv (decide (fuel < 0)||decide (100000 < fuel)) false (.bool !(belongs p st))]:=guardM_pure1 _ _ _
   simp -implicitDefEqProofs only [bin_lss,bin_gtr,bnd_some,hg1,bnd_pure,nth_zero,pickA_or,hbl,unA_not,hg2,condM_bool] at hcode
   by_cases hb:fuel < 0∨100000 < fuel∨belongs p st=false
   ·have hb':(decide (fuel < 0)||decide (100000 < fuel) || !(belongs p st))=true:=by
     simp only [Bool.or_eq_true,decide_eq_true_eq,Bool.not_eq_true']
     rcases hb with h | h | h
     ·exact .inl (.inl h)
     ·exact .inl (.inr h)
     ·exact .inr h
    simp only [hb',if_true,build_err,bnd_some,wrap8] at hcode
    simp only [if_pos hb]
    rw [← hcode]
    exact ⟨_,[],rfl,cl_out _ _⟩
   ·have hb':(decide (fuel < 0)||decide (100000 < fuel) || !(belongs p st))=false:=by
     rw [← Bool.not_eq_true]
     simp only [Bool.or_eq_true,decide_eq_true_eq,Bool.not_eq_true']
     rintro ((h | h) | h)
     ·exact hb (.inl h)
     ·exact hb (.inr (.inl h))
     ·exact hb (.inr (.inr h))
    have hbe:belongs p st=true:=by
     cases h:belongs p st with
     | true=>rfl
     | false=>exact absurd (.inr (.inr h)) hb
    have hfu:0≤fuel∧fuel≤100000:=by omega
    have hB:buildA T true 141 [(0,mods p),(1,ints world),(2,.int .i64 fuel)] = some (.agg (rowF p world fuel)):=rfl
    have hnew:∀ g:AV→M AV,bnd (newH (rowF p world fuel)) g [] = g (.hp 0 0) [rowF p world fuel]:=fun g=>rfl
    have hcell:cellsM 1 (.hp 0 0)=M.pure (.agg [.hp 0 0]):=rfl
    have hcelli:∀ n:Int,cellsM 1 (.int .i64 n)=M.pure (.agg [.int .i64 n]):=fun _=>rfl
    have hlp:loadA T 139 (.ip [.hp 0 0])=some (.hp 0 0):=rfl
    have hla:∀ n:Int,loadA T 3 (.ip [.int .i64 n])=some (.int .i64 n):=fun _=>rfl
    have hmd:=t97 (rep_from p world fuel) LB.lim module
    have hlt:modAt p module < p.length∨p = []:=by
     rcases idxAt_lt (fun (x:Mod)=>x.name == module) p 0 with k | k
     ·have:modAt p module = -1:=k
      left
      omega
     ·have:modAt p module=idxAt (fun (x:Mod)=>x.name == module) p 0:=rfl
      left
      omega
    have hlt':modAt p module < p.length:=by
     rcases hlt with h | h
     ·exact h
     ·subst h; show idxAt _ [] 0 < _; simp [idxAt]
    have hfn:=t98 (rep_from p world fuel) LB.lim (modAt p module) hlt' fn
    simp only [hb',Bool.false_eq_true,if_false] at hcode
    simp only [if_neg hb]
    simp -implicitDefEqProofs only [hB,bnd_some,acells_agg,hnew,hcell,bnd_pure,hlp] at hcode
    rw [bnd_ok hmd] at hcode
    simp -implicitDefEqProofs only [hcelli,bnd_pure,acells_agg,hlp,bnd_some,hla] at hcode
    rw [bnd_ok hfn] at hcode
    cases hf:funcX p (modAt p module) fn with
    | none =>
     rw [hf] at hcode
     simp -implicitDefEqProofs only [funTup,extractA_tup,List.getElem?_cons_zero,List.getElem?_cons_succ,bnd_some,cellsM_fun,bnd_pure,unA_not,Bool.not_false,condM_bool,if_true,build_err,wrap8] at hcode
     rw [← hcode]
     exact ⟨_,_,rfl,cl_out _ _⟩
    | some f =>
     rw [hf] at hcode
     obtain ⟨f1,f2,f3⟩:=funcX_some hf
     have hac:∀ f:Fun,acells (.agg (acells f.av))=acells f.av:=fun _=>rfl
     have hpar:loadA T 50 (.ip (List.drop 2 (acells f.av)))=some (flds f.params):=by simp
     have hlv:loadA T 61 (.ip (acells (vals args)))=some (vals args):=rfl
     have hg3:guardM (.bool ((args.length:Int) != (f.params.length:Int))) false 1 (M.pure [.bool !(args.all (fitsP 4))])=M.pure [gv ((args.length:Int) != (f.params.length:Int)) false (.bool !(args.all (fitsP 4)))]:=guardM_pure1 _ _ _
     simp -implicitDefEqProofs only [funTup,extractA_tup,List.getElem?_cons_zero,List.getElem?_cons_succ,bnd_some,cellsM_fun,bnd_pure,unA_not,Bool.not_true,condM_bool,Bool.false_eq_true,if_false,hlv,LENE61,hac,FA90_2,hpar,LENE50,bin_neq,hany,hg3,nth_zero,pickA_or] at hcode
     simp only
     by_cases hr:args.length=f.params.length∧args.all (fitsP 4)=true
     ·have hr':(((args.length:Int) != (f.params.length:Int)) || !(args.all (fitsP 4)))=false:=by
       have:((args.length:Int) != (f.params.length:Int))=false:=by simp [hr.1]
       rw [this,hr.2]
       rfl
      simp -implicitDefEqProofs only [hr',Bool.false_eq_true,if_false,LENE73,bnd_some] at hcode
      simp only [if_pos hr]
      obtain ⟨a,h',g1,g2⟩:=from_body LB st args world fuel (modAt p module) f hst (fun x hx=>(hv x hx).1) (by omega) hlt' f3 hr.1 (fun v hv=>(List.all_eq_true.1 hr.2) v hv) hbe hfu (.int .i64 0) (.int .i64 0) (.int .i64 0) (.sl []) (.sl []) (.sl []) (.sl []) (.sl [])
      rw [g1] at hcode
      exact ⟨a,h',hcode.symm,g2⟩
     ·have hr':(((args.length:Int) != (f.params.length:Int)) || !(args.all (fitsP 4)))=true:=by
       by_cases h1:args.length=f.params.length
       ·have:args.all (fitsP 4)=false:=by
         rw [← Bool.not_eq_true]
         exact fun h2=>hr ⟨h1,h2⟩
        rw [this]
        simp
       ·have:((args.length:Int) != (f.params.length:Int))=true:=by
         rw [bne_iff_ne]
         omega
        rw [this]
        rfl
      simp -implicitDefEqProofs only [hr',if_true,build_err,bnd_some,wrap8] at hcode
      simp only [if_neg hr]
      rw [← hcode]
      exact ⟨_,_,rfl,cl_out _ _⟩
  ·have hn':(namesX p != 0)=true:=by simp [hn]
   simp only [hn',if_true,build_err,bnd_some,wrap8] at hcode
   simp only [if_pos hn]
   rw [← hcode]
   exact ⟨_,[],rfl,cl_out _ _⟩
 obtain ⟨a,h',h1,h2⟩:=key
 exact isoP_frz h1 h2
structure LimR (p:List Mod):Prop where
 body:LimB p
 init:∀ m∈p,m.init.length≤274877906944∧∀ e∈m.init,expLim e
theorem vals_right_sz:(l:List Val)→(∀ v∈l,Rv v)→valsSz l≤l.length * 200000
 | [],_=>by simp [valsSz]
 | v :: l,h=>by
  have h1:=right_sz (h v List.mem_cons_self)
  have h2:=vals_right_sz l fun w hw=>h w (List.mem_cons_of_mem _ hw)
  simp only [valsSz,List.length_cons]
  omega
theorem freshL_lens:(p:List Mod)→(st:List Vars)→freshL p = .ok st→∀ x∈st,∃ m∈p,x.values.length=m.init.length
 | [],st,h,x,hx=>by cases h; cases hx
 | m :: ms,st,h,x,hx=>by
  unfold freshL at h
  split at h
  ·split at h
   ·cases h
   ·rename_i vs hvs
    split at h
    ·cases h
    ·rename_i r hr
     cases h
     rcases List.mem_cons.1 hx with rfl | hx
     ·exact ⟨m,List.mem_cons_self,(initL_right _ _ hvs).1⟩
     ·obtain ⟨m',h1,h2⟩:=freshL_lens ms r hr x hx
      exact ⟨m',List.mem_cons_of_mem _ h1,h2⟩
  ·cases h
theorem t29 {p:List Mod} (L:LimR p) (module fn:Str) (args:List Val) (world:List Int) (fuel:Int) (hargs:valsSz args≤4611686018427387904) :
  callW pg 29 [mods p,.str module,.str fn,vals args,ints world,.int .i64 fuel] = M.pure (runX p module fn args world fuel).av:=by
 have hfr:=t62 p L.body.lim.len (fun m hm=>⟨(L.body.lim.funcs m hm).2,L.init m hm⟩)
 have hcl1:∀ s:Str,cl noHs (.str s) = .str s:=fun _=>rfl
 have hcl2:∀ n:Int,cl noHs (.int .i64 n) = .int .i64 n:=fun _=>rfl
 have hS:S29 (callW pg) fixW (mods p) (.str module) (.str fn) (vals args) (ints world) (.int .i64 fuel)=M.pure (runX p module fn args world fuel).av:=by
  unfold runX
  simp -implicitDefEqProofs only [S29,hfr,bnd_pure]
  cases hx:freshX p with
  | error e =>
   have he:(e != 0)=true:=by
    have:=freshX_err hx
    simpa using this
   simp -implicitDefEqProofs only [freshAv,extractA_tup,List.getElem?_cons_zero,List.getElem?_cons_succ,bnd_some,err_ne,he,condM_bool,if_true,build_err,wrap8]
  | ok st =>
   have hb:=belongs_right (freshX_belongs hx)
   have hlen:∀ x∈st,x.values.length≤274877906944:=fun x hx'=>by
    unfold freshX at hx
    split at hx
    ·obtain ⟨m,h1,h2⟩:=freshL_lens p st hx x hx'
     rw [h2]
     exact (L.init m h1).1
    ·cases hx
   have hfrom:=t63 L.body st module fn args world fuel (by rw [hb.1]; exact L.body.lim.len) (fun x hx'=>⟨hlen x hx',Nat.le_trans (vals_right_sz _ (hb.2.1 x hx')) (by have:=hlen x hx'; omega)⟩) hargs
   have h0:((0:Int) != 0)=false:=rfl
   simp -implicitDefEqProofs only [freshAv,extractA_tup,List.getElem?_cons_zero,List.getElem?_cons_succ,bnd_some,err_ne,h0,condM_bool,Bool.false_eq_true,if_false,hfrom,bnd_pure,wrap8]
 rw [C29,cl_mods,hcl1,hcl1,cl_vals,cl_ints,hcl2,hS]
 exact isoP_pure fun g=>cl_out g _
end Go.Proofs.YtnipfhmghjdnmaaGreat

namespace Go.Proofs.YtnipfhmghjdnmaaGreat
open Go Go.Av Go.Av.Ap
set_option maxRecDepth 100000
theorem bndR {α β:Type} {m:M α} {f:α→M β} {h h':Hp} {a:α} (e:m h = .ok a h'):bnd m f h=f a h':=by simp only [bnd,e]
section
variable {V:Type} {f:V→AV} {t et:Nat} {ei:TI} {h:Hp} {l:Nat} {es:List (Ref×V)}
theorem lookH_ent (hm:mapTy T t=some (37,et)) (he:T et=some ei) (hl:h[l]? = some [.tup (es.map (entA f))]) (k:Ref) (ok:Bool) :
  lookH T t (.mp l) (refA k) ok h = .ok (match getK es k with | some v=>(bif ok then .tup [f v,.bool true] else f v) | none=>(bif ok then .tup [zeroEl ei,.bool false] else zeroEl ei)) h:=by
 unfold lookH entsA
 simp only [hl,look_ent f hm he]
 cases getK es k <;> rfl
theorem putH_ent (hm:mapTy T t=some (37,et)) (hl:h[l]? = some [.tup (es.map (entA f))]) (k:Ref) (v:V) :
  putH T t (.mp l) (refA k) (f v) h = .ok (.tup []) (h.set l [.tup ((putK es k v).map (entA f))]):=by
 unfold putH
 have hc:ckV T 20 37 (refA k)=true:=rfl
 simp only [hm,hc,cond_true,hl,put_ent f]
end
theorem zero90:∃ ei,T 90=some ei∧zeroEl ei=zeroF.av:=⟨_,rfl,rfl⟩
theorem zero37:∃ ei,T 37=some ei∧zeroEl ei=refA ([],[]):=⟨_,rfl,rfl⟩
def IsIdx (p:List Mod) (h:Hp) (l:Nat):Prop:=h[l]? = some [.tup ((idxP p).map (entA Fun.av))]
theorem look_fun {p:List Mod} {h:Hp} {l:Nat} (hl:IsIdx p h l) (k:Ref) (ok:Bool):lookH T 110 (.mp l) (refA k) ok h = .ok (bif ok then .tup [((findR p k).getD zeroF).av,.bool (findR p k).isSome] else ((findR p k).getD zeroF).av) h:=by
 obtain ⟨ei,h1,h2⟩:=zero90
 rw [lookH_ent mt110 h1 hl,idx_get,h2]
 cases findR p k <;> cases ok <;> rfl
theorem loop130 (l:List Str) (hb:l.length≤1099511627776):∀ (n:Nat) (i:Int),l.length - i.toNat=n→0≤i→i≤l.length →
  fixW (L130_0 (callW pg) fixW) [.str [],strs l,.int .i64 l.length,.int .i64 i] = M.pure (.str (((l.drop i.toNat).find? fun x=>!(x == [])).getD [])):=by
 intro n
 induction n with
 | zero =>
  intro i hn hi hl
  rw [FL130_0]
  simp only [L130_0]
  have h1:¬ (i < (l.length:Int)):=by omega
  have h2:l.drop i.toNat = []:=List.drop_eq_nil_of_le (by omega)
  simp [h1,h2]
 | succ n ih =>
  intro i hn hi hl
  have h1:i < (l.length:Int):=by omega
  have hlt:i.toNat < l.length:=by omega
  have h4:=ih (i + 1) (by omega) (by omega) (by omega)
  rw [show (i + 1).toNat=i.toNat + 1 by omega] at h4
  rw [FL130_0,List.drop_eq_getElem_cons hlt]
  simp only [L130_0,List.find?_cons]
  by_cases h0:l[i.toNat] = []
  ·simp (disch:=omega) [h1,wrap_in,IX28,h4,h0,getElem!_pos l i.toNat hlt]
  ·have h0':(l[i.toNat] == [])=false:=beq_eq_false_iff_ne.2 h0
   simp (disch:=omega) [h1,wrap_in,IX28,h0,h0',getElem!_pos l i.toNat hlt]
theorem t130 (a b:Str):callW pg 130 [strs [a,b]] = M.pure (.str (if a = [] then b else a)):=by
 rw [C130]
 have:=loop130 [a,b] (by simp) 2 0 rfl (by omega) (by simp)
 simp at this
 simp [S130,this]
 by_cases h1:a = []
 ·by_cases h2:b = []
  ·simp [h1,h2]
  ·have:(b == [])=false:=beq_eq_false_iff_ne.2 h2
   simp only [h1,List.isEmpty_nil,Bool.not_true,if_true]
   cases b with
   | nil=>exact absurd rfl h2
   | cons c b=>rfl
 ·have:(a == [])=false:=beq_eq_false_iff_ne.2 h1
  simp [h1,this]
theorem t129 (p:List Mod) (f:Ref) (e:Exp) (h:Hp) (la lf:Nat) (o:List (Ref×Bool)) (ha:IsIdx p h la) (hf:h[lf]? = some [.tup (o.map (entA AV.bool))]) :
  callW pg 129 [e.av,.ip [.str f.1,.str f.2],.ip [.mp la],.ip [.mp lf]] h = .ok (.tup []) (h.set lf [.tup ((foundS p f o e).map (entA AV.bool))]):=by
 rw [C129]
 have hB:∀ x y:Str,buildSliceA T 28 2 [(0,.str x),(1,.str y)] = some (strs [x,y]):=fun x y=>rfl
 have hB2:∀ x y:Str,buildA T false 37 [(0,.str x),(1,.str y)] = some (refA (x,y)):=fun x y=>rfl
 have hset:h.set lf [.tup (o.map (entA AV.bool))] = h:=by
  apply List.ext_getElem?
  intro i
  rw [List.getElem?_set]
  split
  ·rename_i hi; subst hi
   obtain ⟨h1,h2⟩:=List.getElem?_eq_some_iff.1 hf
   simp [h1,h2]
  ·rfl
 have hlook:=look_fun ha (tgt f e) true
 have hput:=putH_ent (f:=AV.bool) mt185 hf (tgt f e) true
 have htg:tgt f e=(if e.m = [] then f.1 else e.m,e.s):=rfl
 simp [S129,hB,t130,hB2,noPan_pure]
 rw [← htg]
 have hcm:cellsM 2 (refA (tgt f e))=M.pure (refA (tgt f e)):=by rw [cellsM_of (okEl_ref _),acells_ref,fold_ref]
 simp [hcm]
 rw [bndR hlook]
 unfold foundS callB
 cases hfi:findR p (tgt f e) with
 | none=>simp [hfi,hset]; rfl
 | some g =>
  simp [hfi]
  split
  ·rw [bndR hput]; rfl
  ·rw [hset]; rfl
end Go.Proofs.YtnipfhmghjdnmaaGreat

namespace Go.Proofs.YtnipfhmghjdnmaaGreat
open Go Go.Av Go.Av.Ap
set_option maxRecDepth 100000
theorem arg_size {e x:Exp} (h:x∈e.args):SizeOf.sizeOf x < SizeOf.sizeOf e:=by
 cases e with
 | mk o n s m ns es =>
  have:=List.sizeOf_lt_of_mem h
  simp only [Exp.mk.sizeOf_spec]
  show SizeOf.sizeOf x < 1 + SizeOf.sizeOf o + SizeOf.sizeOf n + SizeOf.sizeOf s + SizeOf.sizeOf m + SizeOf.sizeOf ns + SizeOf.sizeOf es
  have h2:SizeOf.sizeOf x < SizeOf.sizeOf es:=this
  omega
theorem loop67 {σ:Type} {H:σ→Hp} {st:σ→Exp→σ} {g:AV} {l:List Exp} (hl:l.length≤140737488355328) (ih:∀ x∈l,∀ s,callW pg 67 [x.av,g] (H s) = .ok (.tup []) (H ((nodesL x).foldl st s))) :
  ∀ (n:Nat) (i:Int) s,l.length - i.toNat=n→0≤i→i≤l.length→fixW (L67_0 (callW pg) fixW) [g,exps l,.int .i64 l.length,.int .i64 i] (H s) = .ok (.tup []) (H (((l.drop i.toNat).flatMap nodesL).foldl st s)):=by
 intro n
 induction n with
 | zero =>
  intro i s hn hi hb
  rw [FL67_0]
  simp only [L67_0]
  have h1:¬ (i < (l.length:Int)):=by omega
  have h2:l.drop i.toNat = []:=List.drop_eq_nil_of_le (by omega)
  simp [h1,h2]
  rfl
 | succ n IH =>
  intro i s hn hi hb
  have h1:i < (l.length:Int):=by omega
  have hlt:i.toNat < l.length:=by omega
  have h4:=IH (i + 1) ((nodesL l[i.toNat]).foldl st s) (by omega) (by omega) (by omega)
  rw [show (i + 1).toNat=i.toNat + 1 by omega] at h4
  have h5:=ih _ (List.getElem_mem hlt) s
  rw [FL67_0]
  simp only [L67_0]
  simp (disch:=omega) [h1,wrap_in,IX29,getElem!_pos l i.toNat hlt]
  rw [bndR h5,h4,List.drop_eq_getElem_cons hlt,List.flatMap_cons,List.foldl_append]
theorem t67 {σ:Type} {H:σ→Hp} {st:σ→Exp→σ} {g:AV} (hg:∀ s e,callV (callW pg) g [e.av] (H s) = .ok (.tup []) (H (st s e))) :
  ∀ (n:Nat) (e:Exp),SizeOf.sizeOf e≤n→e.Lim→∀ s,callW pg 67 [e.av,g] (H s) = .ok (.tup []) (H ((nodesL e).foldl st s)):=by
 intro n
 induction n with
 | zero=>intro e he; cases e; simp at he
 | succ n ih =>
  intro e he hL s
  rw [C67]
  have h1:=hg s e
  have h2:=loop67 (H:=H) (st:=st) (g:=g) hL.len (fun x hx s=>ih x (by have:=arg_size hx; omega) (hL.kid hx) s) e.args.length 0 (st s e) rfl (by omega) (by omega)
  simp [S67]
  rw [bndR h1]
  simp at h2
  simp [h2]
  rw [nodesL_eq]
  rfl
theorem mapM_map {α β γ:Type} {f:β→Option γ} {k:α→β} {g:α→γ} (hf:∀ x,f (k x)=some (g x)):∀ l:List α,(l.map k).mapM f=some (l.map g)
 | []=>rfl
 | x :: l=>by
  rw [List.map_cons,List.mapM_cons,hf,mapM_map hf l]
  rfl
theorem modP_mod (m:Mod):modP m.av=some (m.name,m.funcs.map fun f=>(f.name,f.av)):=by
 show ((m.funcs.map Fun.av).mapM funP).map (fun l=>(m.name,l))=_
 rw [mapM_map (f:=funP) (k:=Fun.av) (g:=fun f:Fun=>(f.name,f.av)) (fun f=>by cases f with | mk a b c r w e=>cases r; cases e; rfl)]
 rfl
theorem t53 (p:List Mod) (h1:p.length≤1000000) (h2:∀ m∈p,m.funcs.length≤1000000) (h:Hp):callW pg 53 [mods p] h = .ok (.mp h.length) (h++[[.tup ((idxP p).map (entA Fun.av))]]):=by
 rw [callW_other hOther (E:=indexE) rfl]
 show (match (p.map Mod.av).mapM modP with | some l=>_ | none=>_)=_
 rw [mapM_map (g:=fun m:Mod=>(m.name,m.funcs.map fun f=>(f.name,f.av))) modP_mod]
 simp only
 rw [if_pos ⟨by simpa using h1,fun m hm=>by
  obtain ⟨m',hm',rfl⟩:=List.mem_map.1 hm
  simpa using h2 m' hm'⟩]
 have:(p.map fun m:Mod=>(m.name,m.funcs.map fun f=>(f.name,f.av)))=(p.map partsM).map fun m=>(m.1,m.2.map fun x=>(x.1,x.2.av)):=by
  rw [List.map_map]
  apply List.map_congr_left
  intro m _
  simp [partsM]
 rw [this]
 have:=idxG_map Fun.av (p.map partsM) [] []
 rw [List.map_nil] at this
 rw [this,List.map_map]
 rfl
theorem t64 {V:Type} {f:V→AV} {h:Hp} {l:Nat} {es:List (Ref×V)} (hl:h[l]? = some [.tup (es.map (entA f))]) (hb:es.length≤1000000) (g:Nat) (hg:g=173∨g=104) :
  callW pg 64 [.fn (.func g) [] [.ip [.mp l]],.fn (.func 66) [] []] h = .ok (refsA (sortR (es.map (·.1)))) h:=by
 rw [callW_other hOther (E:=sortedE [104,173] 66) rfl]
 have hk:(es.map (entA f)).mapM keyR=some (es.map (·.1)):=mapM_map (f:=keyR) (k:=entA f) (g:=fun x:Ref×V=>x.1) (fun x=>rfl) es
 have hm:(memN [104,173] g&&Nat.beq 66 66)=true:=by rcases hg with rfl | rfl <;> rfl
 show (bif memN [104,173] g&&Nat.beq 66 66 then _ else _:R AV)=_
 rw [hm]
 show (match entsA h (.mp l) with | some es=>_ | none=>_)=_
 simp only [entsA,hl,hk,List.length_map,if_pos hb]
theorem fbody (f:Fun):fieldA T 90 f.av 5=some f.body.av:=by
 cases f with | mk a b c r w e=>cases r; cases e; rfl
theorem t91 {p:List Mod} {h:Hp} {la:Nat} (ha:IsIdx p h la) (f:Ref) (hL:(bodyR p f).Lim) (hb:(found p f).length≤1000000) :
  callW pg 91 [.mp la,refA f] h = .ok (refsA (callL p f)) (h++[[.tup ((found p f).map (entA AV.bool))]]):=by
 rw [C91]
 have hla:la < h.length:=(List.getElem?_eq_some_iff.1 ha).1
 let H0:List (Ref×Bool)→Hp:=fun o=>h++[[.tup (o.map (entA AV.bool))]]
 have h0:=t67 (H:=H0) (st:=foundS p f) (g:=.fn (.func 129) [] [.ip [.str f.1,.str f.2],.ip [.mp la],.ip [.mp h.length]]) (fun o e=>by
  have:=t129 p f e (h++[[.tup (o.map (entA AV.bool))]]) la h.length o (by unfold IsIdx; rw [List.getElem?_append_left hla]; exact ha) (by simp)
  show callW pg 129 ([]++[e.av]++_) _=_
  simp only [List.nil_append,List.cons_append]
  rw [this]
  simp [H0]) _ (bodyR p f) (Nat.le_refl _) hL []
 have hlk:=look_fun (p:=p) (h:=h++[[.tup []]]) (l:=la) (by unfold IsIdx; rw [List.getElem?_append_left hla]; exact ha) f false
 have hs:=t64 (f:=AV.bool) (h:=h++[[.tup ((found p f).map (entA AV.bool))]]) (l:=h.length) (es:=found p f) (by simp) hb 173 (.inl rfl)
 have hk:callW pg 131 [.mp h.length] = M.pure (.fn (.func 173) [] [.ip [.mp h.length]]):=C131 _
 simp [S91]
 rw [bndR (m:=newMapH) (h:=h) rfl]
 have hc1:cellsM 1 (.mp h.length)=M.pure (.agg [.mp h.length]):=cellsM_of rfl
 have hc2:∀ n,acells (.mp n) = [.mp n]:=fun _=>rfl
 simp only [hc1]
 simp [hk,hc2]
 rw [bndR hlk]
 simp [fbody]
 refine (bndR h0).trans ?_
 refine (bndR hs).trans ?_
 rfl
end Go.Proofs.YtnipfhmghjdnmaaGreat

namespace Go.Proofs.YtnipfhmghjdnmaaGreat
open Go Go.Av Go.Av.Ap
set_option maxRecDepth 100000
def CapQ (Q:Prop) (most:Int) (m:M AV):Prop:=∃ n,m=M.pure (.int .i64 n)∧1≤n∧n≤most + 1∧(n≤most→Q)
theorem expsLim_of:(l:List Exp)→(∀ x∈l,expLim x)→expsLim l
 | [],_=>trivial
 | x :: l,h=>⟨h x List.mem_cons_self,expsLim_of l fun y hy=>h y (List.mem_cons_of_mem _ hy)⟩
theorem expLim_of {e:Exp} (h1:e.names.length≤8796093022208) (h2:e.args.length≤274877906944) (h3:∀ x∈e.args,expLim x):expLim e:=by
 obtain ⟨o,n,s,m,ns,es⟩:=e
 exact ⟨h1,h2,expsLim_of es h3⟩
def SizeOK (e:Exp):Prop:=∀ most depth:Int,0≤most→most≤1099511627→depth≤1099511627776→CapQ (expLim e) most (callW pg 94 [e.av,.int .i64 most,.int .i64 depth])
theorem loop94 (e:Exp) (hL:e.Lim) (ih:∀ x∈e.args,SizeOK x) (most depth:Int) (h0:0≤most) (h1:most≤1099511627) (h2:depth≤1099511627776) (h3:1≤depth) :
  ∀ (r:Nat) (n i:Int),e.args.length - i.toNat=r→0≤i→i≤e.args.length→1≤n→n≤most + 1→i + 1≤n→CapQ (e.args.length≤most∧∀ x∈e.args.drop i.toNat,expLim x) most (fixW (L94_0 (callW pg) fixW) [.int .i64 most,.int .i64 depth,.ip (acells e.av),.int .i64 n,.int .i64 i]):=by
 intro r
 induction r with
 | zero =>
  intro n i hr hi hb hn hm hin
  rw [FL94_0]
  simp only [L94_0]
  have h1:¬ (i < (e.args.length:Int)):=by omega
  simp [h1]
  exact ⟨n,rfl,hn,hm,fun h=>⟨by omega,fun x hx=>by rw [List.drop_eq_nil_of_le (by omega)] at hx; cases hx⟩⟩
 | succ r IH =>
  intro n i hr hi hb hn hm hin
  have hlen:=hL.len
  have h5:i < (e.args.length:Int):=by omega
  have hlt:i.toNat < e.args.length:=by omega
  rw [FL94_0]
  simp only [L94_0]
  by_cases hs:n≤most
  ·obtain ⟨k,hk,hk1,hk2,hk3⟩:=ih e.args[i.toNat] (List.getElem_mem hlt) (most - n) (depth - 1) (by omega) (by omega) (by omega)
   obtain ⟨n',q1,q2,q3,q4⟩:=IH (n + k) (i + 1) (by omega) (by omega) (by omega) (by omega) (by omega) (by omega)
   have h4:CapQ (e.args.length≤most∧∀ x∈e.args.drop i.toNat,expLim x) most (fixW (L94_0 (callW pg) fixW) [.int .i64 most,.int .i64 depth,.ip (acells e.av),.int .i64 (n + k),.int .i64 (i + 1)]):=by
    by_cases hk4:k≤most - n
    ·refine ⟨n',q1,q2,q3,fun h=>⟨(q4 h).1,fun x hx=>?_⟩⟩
     rw [List.drop_eq_getElem_cons hlt] at hx
     rcases List.mem_cons.1 hx with rfl | hx
     ·exact hk3 hk4
     ·exact (q4 h).2 x (by rw [show (i + 1).toNat=i.toNat + 1 by omega]; exact hx)
    ·have hstop:fixW (L94_0 (callW pg) fixW) [.int .i64 most,.int .i64 depth,.ip (acells e.av),.int .i64 (n + k),.int .i64 (i + 1)] = M.pure (.int .i64 (n + k)):=by
      rw [FL94_0]
      simp only [L94_0]
      have h6:¬ (n + k≤most):=by omega
      simp [h6]
     exact ⟨n + k,hstop,by omega,by omega,fun h=>by omega⟩
   simp (disch:=omega) [h5,hs,IX29,getElem!_pos e.args i.toNat hlt,wrap_in,hk]
   simpa using h4
  ·simp [h5,hs]
   exact ⟨n,rfl,hn,hm,fun h=>absurd h hs⟩
theorem t94:∀ (N:Nat) (e:Exp),SizeOf.sizeOf e≤N→e.Lim→SizeOK e:=by
 intro N
 induction N with
 | zero=>intro e he; cases e; simp at he
 | succ N ih =>
  intro e he hL most depth h0 h1 h2
  rw [C94]
  have h4:1≤depth→_:=fun h3=>loop94 e hL (fun x hx=>ih x (by have:=arg_size hx; omega) (hL.kid hx)) most depth h0 h1 h2 h3 e.args.length 1 0 rfl (by omega) (by omega) (by omega) (by omega) (by omega)
  simp [S94]
  by_cases hc:depth < 1∨12 < (e.names.length:Int)
  ·rw [if_pos hc,wrap_in (by omega) (by omega),isoP_int]
   exact ⟨_,rfl,by omega,by omega,fun h=>by omega⟩
  ·rw [if_neg hc]
   obtain ⟨n,hn,b1,b2,b3⟩:=h4 (by omega)
   simp at hn
   rw [hn,isoP_int]
   refine ⟨n,rfl,b1,b2,fun h=>expLim_of (by omega) ?_ fun x hx=>(b3 h).2 x (by simpa using hx)⟩
   have:=(b3 h).1
   omega
def PartsOK (e:Ty):Prop:=∀ most depth:Int,0≤most→most≤1099511627776→depth≤1099511627776→CapQ True most (callW pg 60 [e.av,.int .i64 most,.int .i64 depth])
theorem fld_size {e:Ty} {x:Fld} (h:x∈e.fields):SizeOf.sizeOf x.2 < SizeOf.sizeOf e:=by
 cases e with
 | mk k fs =>
  have h1:=List.sizeOf_lt_of_mem h
  have h2:SizeOf.sizeOf x.2 < SizeOf.sizeOf x:=by cases x; simp; omega
  have h3:SizeOf.sizeOf x < SizeOf.sizeOf fs:=h1
  simp only [Ty.mk.sizeOf_spec]
  show SizeOf.sizeOf x.2 < 1 + SizeOf.sizeOf k + SizeOf.sizeOf fs
  omega
theorem loop60 (e:Ty) (hL:e.Lim) (ih:∀ x∈e.fields,PartsOK x.2) (most depth:Int) (h0:0≤most) (h1:most≤1099511627776) (h2:depth≤1099511627776) (h3:1≤depth) :
  ∀ (r:Nat) (n i:Int),e.fields.length - i.toNat=r→0≤i→i≤e.fields.length→1≤n→n≤most + 1→CapQ True most (fixW (L60_0 (callW pg) fixW) [.int .i64 most,.int .i64 depth,.ip (acells e.av),.int .i64 n,.int .i64 i]):=by
 intro r
 induction r with
 | zero =>
  intro n i hr hi hb hn hm
  rw [FL60_0]
  simp only [L60_0]
  have h1:¬ (i < (e.fields.length:Int)):=by omega
  simp [h1]
  exact ⟨n,rfl,hn,hm,fun _=>trivial⟩
 | succ r IH =>
  intro n i hr hi hb hn hm
  have hlen:=hL.len
  have h5:i < (e.fields.length:Int):=by omega
  have hlt:i.toNat < e.fields.length:=by omega
  rw [FL60_0]
  simp only [L60_0]
  by_cases hs:n≤most
  ·obtain ⟨k,hk,hk1,hk2,_⟩:=ih e.fields[i.toNat] (List.getElem_mem hlt) (most - n) (depth - 1) (by omega) (by omega) (by omega)
   have h4:=IH (n + k) (i + 1) (by omega) (by omega) (by omega) (by omega) (by omega)
   simp (disch:=omega) [h5,hs,IX50,getElem!_pos e.fields i.toNat hlt,wrap_in,hk]
   simpa using h4
  ·simp [h5,hs]
   exact ⟨n,rfl,hn,hm,fun _=>trivial⟩
theorem t60:∀ (N:Nat) (e:Ty),SizeOf.sizeOf e≤N→e.Lim→PartsOK e:=by
 intro N
 induction N with
 | zero=>intro e he; cases e; simp at he
 | succ N ih =>
  intro e he hL most depth h0 h1 h2
  rw [C60]
  have h4:1≤depth→_:=fun h3=>loop60 e hL (fun x hx=>ih x.2 (by have:=fld_size hx; omega) (hL.kid hx)) most depth h0 h1 h2 h3 e.fields.length 1 0 rfl (by omega) (by omega) (by omega) (by omega)
  simp [S60]
  by_cases hc:depth < 1
  ·rw [if_pos hc,wrap_in (by omega) (by omega),isoP_int]
   exact ⟨_,rfl,by omega,by omega,fun _=>trivial⟩
  ·rw [if_neg hc]
   obtain ⟨n,hn,b⟩:=h4 (by omega)
   simp at hn
   rw [hn,isoP_int]
   exact ⟨n,rfl,b⟩
def BB (P:Prop) (m:M AV):Prop:=∃ b,m=M.pure (.bool b)∧(b=true→P)
theorem BB.no {P:Prop}:BB P (M.pure (.bool false)):=⟨false,rfl,fun h=>by cases h⟩
theorem BB.imp {P Q:Prop} {m:M AV} (h:BB P m) (f:P→Q):BB Q m:=by
 obtain ⟨b,h1,h2⟩:=h
 exact ⟨b,h1,fun e=>f (h2 e)⟩
theorem loop58 (l:List Exp) (hl:l.length≤140737488355328) (hL:∀ e∈l,e.Lim):∀ (r:Nat) (i:Int),l.length - i.toNat=r→0≤i→i≤l.length→BB (l.length≤8∧∀ e∈l.drop i.toNat,expLim e) (fixW (L58_0 (callW pg) fixW) [exps l,.int .i64 i]):=by
 intro r
 induction r with
 | zero =>
  intro i hr hi hb
  rw [FL58_0]
  simp only [L58_0]
  have h1:¬ (i < (l.length:Int)):=by omega
  simp [h1]
  refine ⟨_,rfl,fun h=>⟨by simp at h; omega,fun x hx=>?_⟩⟩
  rw [List.drop_eq_nil_of_le (by omega)] at hx
  cases hx
 | succ r IH =>
  intro i hr hi hb
  have h5:i < (l.length:Int):=by omega
  have hlt:i.toNat < l.length:=by omega
  rw [FL58_0]
  simp only [L58_0]
  by_cases hs:i < 9
  ·obtain ⟨k,hk,hk1,hk2,hk3⟩:=t94 _ l[i.toNat] (Nat.le_refl _) (hL _ (List.getElem_mem hlt)) 50 16 (by omega) (by omega) (by omega)
   have h4:=IH (i + 1) (by omega) (by omega) (by omega)
   simp (disch:=omega) [h5,hs,IX29,getElem!_pos l i.toNat hlt,wrap_in,hk]
   by_cases hg:50 < k
   ·rw [if_pos hg]; exact .no
   ·rw [if_neg hg]
    refine h4.imp fun h=>⟨h.1,fun x hx=>?_⟩
    rw [List.drop_eq_getElem_cons hlt] at hx
    rcases List.mem_cons.1 hx with rfl | hx
    ·exact hk3 (by omega)
    ·exact h.2 x (by rw [show (i + 1).toNat=i.toNat + 1 by omega]; exact hx)
  ·simp [h5,hs]
   refine ⟨_,rfl,fun h=>?_⟩
   simp at h
   omega
theorem t58 (l:List Exp) (hl:l.length≤140737488355328) (hL:∀ e∈l,e.Lim):BB (l.length≤8∧∀ e∈l,expLim e) (callW pg 58 [exps l]):=by
 rw [C58]
 obtain ⟨b,hb,h2⟩:=loop58 l hl hL l.length 0 rfl (by omega) (by omega)
 refine ⟨b,?_,fun h=>by simpa using h2 h⟩
 simp [S58,hb]
theorem loop59 (l:List Fld) (hl:l.length≤140737488355328) (hL:∀ e∈l,e.2.Lim):∀ (r:Nat) (i:Int),l.length - i.toNat=r→0≤i→i≤l.length→BB (l.length≤8) (fixW (L59_0 (callW pg) fixW) [flds l,.int .i64 i]):=by
 intro r
 induction r with
 | zero =>
  intro i hr hi hb
  rw [FL59_0]
  simp only [L59_0]
  have h1:¬ (i < (l.length:Int)):=by omega
  simp [h1]
  exact ⟨_,rfl,fun h=>by simp at h; omega⟩
 | succ r IH =>
  intro i hr hi hb
  have h5:i < (l.length:Int):=by omega
  have hlt:i.toNat < l.length:=by omega
  rw [FL59_0]
  simp only [L59_0]
  by_cases hs:i < 9
  ·obtain ⟨k,hk,hk1,hk2,_⟩:=t60 _ l[i.toNat].2 (Nat.le_refl _) (hL _ (List.getElem_mem hlt)) 30 6 (by omega) (by omega) (by omega)
   have h4:=IH (i + 1) (by omega) (by omega) (by omega)
   simp (disch:=omega) [h5,hs,IX50,getElem!_pos l i.toNat hlt,wrap_in,hk]
   by_cases hg:30 < k
   ·rw [if_pos hg]; exact .no
   ·rw [if_neg hg]; exact h4
  ·simp [h5,hs]
   refine ⟨_,rfl,fun h=>?_⟩
   simp at h
   omega
theorem t59 (l:List Fld) (hl:l.length≤140737488355328) (hL:∀ e∈l,e.2.Lim):BB (l.length≤8) (callW pg 59 [flds l]):=by
 rw [C59]
 obtain ⟨b,hb,h2⟩:=loop59 l hl hL l.length 0 rfl (by omega) (by omega)
 refine ⟨b,?_,h2⟩
 simp [S59,hb]
structure FewMod (m:Mod):Prop where
 funcs:m.funcs.length≤6
 vars:m.vars.length≤8
 init:m.init.length≤8∧∀ e∈m.init,expLim e
 body:∀ f∈m.funcs,expLim f.body∧f.params.length≤8
theorem few_in (K:List AV→M AV) {Q:Prop} (p:List Mod) (m:Mod) (M0:m.Lim) (i:Int) (hi0:0≤i) (hi1:i≤9) (hK:BB Q (K [mods p,.int .i64 (i + 1)])):∀ (r:Nat) (j:Int),m.funcs.length - j.toNat=r→0≤j→j≤m.funcs.length →
  BB ((m.funcs.length≤6∧m.vars.length≤8∧(m.init.length≤8∧∀ e∈m.init,expLim e)∧∀ f∈m.funcs.drop j.toNat,expLim f.body∧f.params.length≤8)∧Q) (fixW (L27_0 (callW pg) fixW K) [mods p,.int .i64 i,.ip (acells m.av),.int .i64 j]):=by
 obtain ⟨bk,hk1,hk2⟩:=hK
 obtain ⟨b1,h1,q1⟩:=t59 m.vars M0.vars M0.vty
 obtain ⟨b2,h2,q2⟩:=t58 m.init M0.init M0.ies
 obtain ⟨b3,h3,_⟩:=t59 m.old M0.old M0.oty
 obtain ⟨b4,h4,_⟩:=t58 m.forward M0.forward M0.fes
 obtain ⟨b5,h5,_⟩:=t58 m.back M0.back M0.bes
 have hfl:=M0.funcs
 have hend:∀ j:Int,¬ (j < (m.funcs.length:Int))∨¬ j < 7→fixW (L27_0 (callW pg) fixW K) [mods p,.int .i64 i,.ip (acells m.av),.int .i64 j] = M.pure (.bool (!decide (6 < (m.funcs.length:Int)) && !decide (8 < (m.uses.length:Int))&&b1&&b2&&b3&&b4&&b5&&bk)):=by
  intro j hj
  rw [FL27_0]
  simp only [L27_0]
  by_cases hjl:j < (m.funcs.length:Int)
  ·have hs:¬ j < 7:=by omega
   simp (disch:=omega) [hjl,hs,h1,h2,h3,h4,h5,wrap_in,hk1]
  ·simp (disch:=omega) [hjl,h1,h2,h3,h4,h5,wrap_in,hk1]
 intro r
 induction r with
 | zero =>
  intro j hr hj hb
  rw [hend j (.inl (by omega))]
  refine ⟨_,rfl,fun h=>?_⟩
  simp only [Bool.and_eq_true,Bool.not_eq_true',decide_eq_false_iff_not] at h
  obtain ⟨⟨⟨⟨⟨⟨⟨g1,_⟩,g2⟩,g3⟩,_⟩,_⟩,_⟩,g4⟩:=h
  refine ⟨⟨by omega,q1 g2,q2 g3,fun f hf=>?_⟩,hk2 g4⟩
  rw [List.drop_eq_nil_of_le (by omega)] at hf
  cases hf
 | succ r IH =>
  intro j hr hj hb
  have hjl:j < (m.funcs.length:Int):=by omega
  have hlt:j.toNat < m.funcs.length:=by omega
  by_cases hs:j < 7
  ·have hf:=M0.fns _ (List.getElem_mem hlt)
   obtain ⟨b6,h6,q6⟩:=t58 [m.funcs[j.toNat].body] (by simp) (fun e he=>by rw [List.mem_singleton.1 he]; exact hf.body)
   obtain ⟨b7,h7,q7⟩:=t59 m.funcs[j.toNat].params hf.params hf.pty
   obtain ⟨k,h8,_,_⟩:=t60 _ m.funcs[j.toNat].result (Nat.le_refl _) hf.result 30 6 (by omega) (by omega) (by omega)
   have hB:∀ e:Exp,buildSliceA T 29 1 [(0,e.av)] = some (exps [e]):=fun e=>by cases e; rfl
   have h9:=IH (j + 1) (by omega) (by omega) (by omega)
   rw [FL27_0]
   simp only [L27_0]
   simp (disch:=omega) [hjl,hs,IX51,getElem!_pos m.funcs j.toNat hlt,hB,h6,h7,h8,wrap_in]
   split
   ·exact .no
   ·rename_i hno
    have hno':b6=true∧b7=true:=by
     cases b6 <;> cases b7 <;> simp at hno ⊢
    have h10:BB ((m.funcs.length≤6∧m.vars.length≤8∧(m.init.length≤8∧∀ e∈m.init,expLim e)∧∀ f∈m.funcs.drop j.toNat,expLim f.body∧f.params.length≤8)∧Q) (fixW (L27_0 (callW pg) fixW K) [mods p,.int .i64 i,.ip (acells m.av),.int .i64 (j + 1)]):=h9.imp fun h=>⟨⟨h.1.1,h.1.2.1,h.1.2.2.1,fun f hf=>by
     rw [List.drop_eq_getElem_cons hlt] at hf
     rcases List.mem_cons.1 hf with rfl | hf
     ·exact ⟨(q6 hno'.1).2 _ (List.mem_singleton.2 rfl),q7 hno'.2⟩
     ·exact h.1.2.2.2 f (by rw [show (j + 1).toNat=j.toNat + 1 by omega]; exact hf)⟩,h.2⟩
    simpa using h10
  ·rw [hend j (.inr hs)]
   refine ⟨_,rfl,fun h=>?_⟩
   simp only [Bool.and_eq_true,Bool.not_eq_true',decide_eq_false_iff_not] at h
   omega
theorem loop27 (p:List Mod) (hp:p.length≤140737488355328) (hM:∀ m∈p,m.Lim):∀ (r:Nat) (i:Int),p.length - i.toNat=r→0≤i→i≤p.length→BB (p.length≤4∧∀ m∈p.drop i.toNat,FewMod m) (fixW (L27_1 (callW pg) fixW) [mods p,.int .i64 i]):=by
 intro r
 induction r with
 | zero =>
  intro i hr hi hb
  rw [FL27_1]
  simp only [L27_1]
  have h1:¬ (i < (p.length:Int)):=by omega
  simp [h1]
  refine ⟨_,rfl,fun h=>⟨by simp at h; omega,fun m hm=>?_⟩⟩
  rw [List.drop_eq_nil_of_le (by omega)] at hm
  cases hm
 | succ r IH =>
  intro i hr hi hb
  have h1:i < (p.length:Int):=by omega
  have hlt:i.toNat < p.length:=by omega
  rw [FL27_1]
  simp only [L27_1]
  by_cases hs:i < 5
  ·have h4:=IH (i + 1) (by omega) (by omega) (by omega)
   have h5:=few_in (fixW (L27_1 (callW pg) fixW)) p p[i.toNat] (hM _ (List.getElem_mem hlt)) i hi (by omega) h4 p[i.toNat].funcs.length 0 rfl (by omega) (by omega)
   simp (disch:=omega) [h1,hs,IX22,getElem!_pos p i.toNat hlt]
   obtain ⟨b,e,hb⟩:=h5
   simp at e
   refine ⟨b,e,fun h=>?_⟩
   obtain ⟨q1,q2,q3⟩:=hb h
   refine ⟨q2,fun m hm=>?_⟩
   rw [List.drop_eq_getElem_cons hlt] at hm
   rcases List.mem_cons.1 hm with rfl | hm
   ·exact ⟨q1.1,q1.2.1,q1.2.2.1,by simpa using q1.2.2.2⟩
   ·exact q3 m (by rw [show (i + 1).toNat=i.toNat + 1 by omega]; exact hm)
  ·simp [h1,hs]
   refine ⟨_,rfl,fun h=>?_⟩
   simp at h
   omega
theorem t27 (p:List Mod) (hp:p.length≤140737488355328) (hM:∀ m∈p,m.Lim):BB (p.length≤4∧∀ m∈p,FewMod m) (callW pg 27 [mods p]):=by
 rw [C27]
 obtain ⟨b,h1,h2⟩:=loop27 p hp hM p.length 0 rfl (by omega) (by omega)
 refine ⟨b,?_,fun h=>h2 h⟩
 simp [S27,h1]
def CapF (F:Int→Prop) (most:Int) (m:M AV):Prop:=∃ n,m=M.pure (.int .i64 n)∧1≤n∧n≤most + 1∧(n≤most→F n)
def ValuesOK (e:Val):Prop:=∀ most depth:Int,0≤most→most≤1000→depth≤1099511627776→CapF (fun n=>(e.sz:Int)≤13 * n) most (callW pg 61 [e.av,.int .i64 most,.int .i64 depth])
theorem loop61 (e:Val) (hL:e.Lim) (ih:∀ x∈e.values,ValuesOK x) (most depth:Int) (h0:0≤most) (h1:most≤1000) (h2:depth≤1099511627776) (h3:1≤depth) :
  ∀ (r:Nat) (n i:Int),e.values.length - i.toNat=r→0≤i→i≤e.values.length→1≤n→n≤most + 1→CapF (fun k=>(valsSz (e.values.drop i.toNat):Int)≤13 * (k - n)) most (fixW (L61_0 (callW pg) fixW) [.int .i64 most,.int .i64 depth,.ip (acells e.av),.int .i64 n,.int .i64 i]):=by
 intro r
 induction r with
 | zero =>
  intro n i hr hi hb hn hm
  rw [FL61_0]
  simp only [L61_0]
  have h1:¬ (i < (e.values.length:Int)):=by omega
  simp [h1]
  exact ⟨n,rfl,hn,hm,fun h=>by rw [List.drop_eq_nil_of_le (by omega)]; simp [valsSz]⟩
 | succ r IH =>
  intro n i hr hi hb hn hm
  have hlen:=hL.len
  have h5:i < (e.values.length:Int):=by omega
  have hlt:i.toNat < e.values.length:=by omega
  by_cases hs:n≤most
  ·obtain ⟨k,hk,hk1,hk2,hk3⟩:=ih e.values[i.toNat] (List.getElem_mem hlt) (most - n) (depth - 1) (by omega) (by omega) (by omega)
   obtain ⟨n',q1,q2,q3,q4⟩:=IH (n + k) (i + 1) (by omega) (by omega) (by omega) (by omega) (by omega)
   have h4:CapF (fun k=>(valsSz (e.values.drop i.toNat):Int)≤13 * (k - n)) most (fixW (L61_0 (callW pg) fixW) [.int .i64 most,.int .i64 depth,.ip (acells e.av),.int .i64 (n + k),.int .i64 (i + 1)]):=by
    by_cases hk4:k≤most - n
    ·refine ⟨n',q1,q2,q3,fun h=>?_⟩
     have e1:=q4 h
     have e2:=hk3 hk4
     rw [List.drop_eq_getElem_cons hlt]
     simp only [valsSz]
     rw [show (i + 1).toNat=i.toNat + 1 by omega] at e1
     omega
    ·have hstop:fixW (L61_0 (callW pg) fixW) [.int .i64 most,.int .i64 depth,.ip (acells e.av),.int .i64 (n + k),.int .i64 (i + 1)] = M.pure (.int .i64 (n + k)):=by
      rw [FL61_0]
      simp only [L61_0]
      have h6:¬ (n + k≤most):=by omega
      simp [h6]
     exact ⟨n + k,hstop,by omega,by omega,fun h=>by omega⟩
   rw [FL61_0]
   simp only [L61_0]
   simp (disch:=omega) [h5,hs,IX61,getElem!_pos e.values i.toNat hlt,wrap_in,hk]
   simpa using h4
  ·rw [FL61_0]
   simp only [L61_0]
   simp [h5,hs]
   exact ⟨n,rfl,hn,hm,fun h=>absurd h hs⟩
theorem val_size {e x:Val} (h:x∈e.values):SizeOf.sizeOf x < SizeOf.sizeOf e:=by
 cases e with
 | mk k n ns vs =>
  have h1:=List.sizeOf_lt_of_mem h
  have h3:SizeOf.sizeOf x < SizeOf.sizeOf vs:=h1
  simp only [Val.mk.sizeOf_spec]
  omega
theorem t61:∀ (N:Nat) (e:Val),SizeOf.sizeOf e≤N→e.Lim→ValuesOK e:=by
 intro N
 induction N with
 | zero=>intro e he; cases e; simp at he
 | succ N ih =>
  intro e he hL most depth h0 h1 h2
  rw [C61]
  have h4:1≤depth→_:=fun h3=>loop61 e hL (fun x hx=>ih x (by have:=val_size hx; omega) (hL.kid hx)) most depth h0 h1 h2 h3 e.values.length 1 0 rfl (by omega) (by omega) (by omega) (by omega)
  simp [S61]
  by_cases hc:depth < 1∨12 < (e.names.length:Int)
  ·rw [if_pos hc,wrap_in (by omega) (by omega),isoP_int]
   exact ⟨_,rfl,by omega,by omega,fun h=>by omega⟩
  ·rw [if_neg hc]
   obtain ⟨n,hn,b1,b2,b3⟩:=h4 (by omega)
   simp at hn
   rw [hn,isoP_int]
   refine ⟨n,rfl,b1,b2,fun h=>?_⟩
   have e1:=b3 h
   have e2:e.sz=1 + e.names.length + valsSz e.values:=by cases e; rfl
   simp at e1
   rw [e2]
   omega
theorem loop28 (l:List Val) (hl:l.length≤140737488355328) (hL:∀ v∈l,v.Lim):∀ (r:Nat) (i:Int),l.length - i.toNat=r→0≤i→i≤l.length→BB (l.length≤6∧valsSz (l.drop i.toNat)≤260 * (l.length - i.toNat)) (fixW (L28_0 (callW pg) fixW) [vals l,.int .i64 i]):=by
 intro r
 induction r with
 | zero =>
  intro i hr hi hb
  rw [FL28_0]
  simp only [L28_0]
  have h1:¬ (i < (l.length:Int)):=by omega
  simp [h1]
  refine ⟨_,rfl,fun h=>⟨by simp at h; omega,?_⟩⟩
  rw [List.drop_eq_nil_of_le (by omega)]
  simp [valsSz]
 | succ r IH =>
  intro i hr hi hb
  have h5:i < (l.length:Int):=by omega
  have hlt:i.toNat < l.length:=by omega
  rw [FL28_0]
  simp only [L28_0]
  by_cases hs:i < 7
  ·obtain ⟨k,hk,hk1,hk2,hk3⟩:=t61 _ l[i.toNat] (Nat.le_refl _) (hL _ (List.getElem_mem hlt)) 20 6 (by omega) (by omega) (by omega)
   have h4:=IH (i + 1) (by omega) (by omega) (by omega)
   simp (disch:=omega) [h5,hs,IX61,getElem!_pos l i.toNat hlt,wrap_in,hk]
   by_cases hg:20 < k
   ·rw [if_pos hg]; exact .no
   ·rw [if_neg hg]
    refine h4.imp fun h=>⟨h.1,?_⟩
    have e1:=hk3 (by omega)
    have e2:=h.2
    rw [List.drop_eq_getElem_cons hlt]
    rw [show (i + 1).toNat=i.toNat + 1 by omega] at e2
    simp only [valsSz]
    omega
  ·simp [h5,hs]
   refine ⟨_,rfl,fun h=>?_⟩
   simp at h
   omega
theorem t28 (l:List Val) (hl:l.length≤140737488355328) (hL:∀ v∈l,v.Lim):BB (l.length≤6∧valsSz l≤1560) (callW pg 28 [vals l]):=by
 rw [C28]
 obtain ⟨b,hb,h2⟩:=loop28 l hl hL l.length 0 rfl (by omega) (by omega)
 refine ⟨b,?_,fun h=>?_⟩
 ·simp [S28,hb]
 ·have:=h2 h
  simp at this
  exact ⟨this.1,by omega⟩
theorem few_limR {p:List Mod} (hM:∀ m∈p,m.Lim) (h1:p.length≤4) (h2:∀ m∈p,FewMod m):LimR p:=by
 refine ⟨⟨⟨by omega,fun m hm=>?_⟩,fun m hm f hf=>?_⟩,fun m hm=>?_⟩
 ·have:=(h2 m hm).funcs
  have:=(h2 m hm).vars
  exact ⟨by omega,by omega⟩
 ·have:=(h2 m hm).body f hf
  exact ⟨this.1,by omega⟩
 ·exact ⟨by have:=(h2 m hm).init.1; omega,(h2 m hm).init.2⟩
end Go.Proofs.YtnipfhmghjdnmaaGreat

namespace Go.Proofs.YtnipfhmghjdnmaaGreat
open Go Go.Av Go.Av.Ap
set_option maxRecDepth 100000
structure Sm (p:List Mod):Prop where
 len:p.length≤1000000
 funcs:∀ m∈p,m.funcs.length≤1000000
 idx:(idxP p).length≤1000000
 body:∀ r,(bodyR p r).Lim
theorem Sm.calls {p:List Mod} (S:Sm p) (f:Ref):(callL p f).length≤1000000:=by
 have:=len_le_of_sub (l:=callL p f) (m:=(idxP p).map (·.1)) (callL_nodup p f) (fun x hx=>(idx_keys p x).2 (callL_in hx))
 have:=S.idx
 simp at *
 omega
theorem Sm.found {p:List Mod} (S:Sm p) (f:Ref):(found p f).length≤1000000:=by
 have h1:=S.calls f
 have h2:(callL p f).length=((Ap.found p f).map (·.1)).length:=(sortR_perm _).length_eq
 simp at h2
 omega
theorem set_mid (h:Hp) (x y:List AV) (J:Hp):(h++x :: J).set h.length y=h++y :: J:=by simp [List.set_append]
theorem look_ref {h:Hp} {l:Nat} {es:List (Ref×Ref)} (hl:h[l]? = some [.tup (es.map (entA refA))]) (k:Ref):lookH T 108 (.mp l) (refA k) true h = .ok (.tup [refA ((getK es k).getD ([],[])),.bool (getK es k).isSome]) h:=by
 obtain ⟨ei,h1,h2⟩:=zero37
 rw [lookH_ent mt108 h1 hl,h2]
 cases getK es k <;> rfl
theorem look_ref0 {h:Hp} {l:Nat} {es:List (Ref×Ref)} (hl:h[l]? = some [.tup (es.map (entA refA))]) (k:Ref):lookH T 108 (.mp l) (refA k) false h = .ok (refA ((getK es k).getD ([],[]))) h:=by
 obtain ⟨ei,h1,h2⟩:=zero37
 rw [lookH_ent mt108 h1 hl,h2]
 cases getK es k <;> rfl
theorem pre_keys (D:List (Ref×List Ref)):(D.map preR).map (·.1)=D.map (·.1):=by rw [List.map_map]; rfl
theorem getK_pre (D:List (Ref×List Ref)) (r:Ref):(getK (D.map preR) r).isSome=decide (r∈D.map (·.1)):=by
 rw [← pre_keys]
 cases h:getK (D.map preR) r with
 | none=>rw [decide_eq_false (getK_none.1 h)]; rfl
 | some v=>rw [decide_eq_true (List.mem_map.2 ⟨_,getK_mem h,rfl⟩)]; rfl
theorem putK_new {V:Type} (l:List (Ref×V)) (k:Ref) (v:V) (h:k ∉ l.map (·.1)):putK l k v=l++[(k,v)]:=by
 induction l with
 | nil=>rfl
 | cons x l ih =>
  simp only [List.map_cons,List.mem_cons,not_or] at h
  simp only [putK]
  rw [if_neg (fun e=>h.1 e.symm),ih h.2]
  rfl
theorem cutRefs (x:Ref) (l:List Ref):cutA T 42 (refsA (x :: l)) (some (.int .i64 1))=some (refsA l):=by
 have:cutA T 42 (refsA (x :: l)) (some (.int .i64 1))=sliceA T 42 (.sl ((x :: l).map refA)) (some (.int .i64 1)) none none:=rfl
 rw [this,sliceA_lo (e:=37) rfl rfl rfl ((x :: l).map refA) (okSz_refs _) (n:=1) (by decide) (by simp; omega)]
 rfl
theorem ix0 (y:Ref) (l:List Ref):indexAddrA T 42 (refsA (y :: l)) (.int .i64 0)=some (.ip (acells (refA y))):=by
 rw [IX42 (by omega) (by simp <;> omega)]
 rfl
theorem rowD_get (h:Hp) (D:List (Ref×List Ref)) (J:Hp):(h++rowD D :: J)[h.length]? = some [.tup ((D.map preR).map (entA refA))]:=by simp [rowD]
theorem rowD_add (h:Hp) (D:List (Ref×List Ref)) (J:Hp) (c:List Ref) (r y:Ref) (hc:c.getLast? = some y) (hr:r ∉ D.map (·.1)):putH T 108 (.mp h.length) (refA r) (refA y) (h++rowD D :: J) = .ok (.tup []) (h++rowD (D++[(r,c++[r])]) :: J):=by
 rw [putH_ent mt108 (rowD_get h D J),set_mid,putK_new _ _ _ (by rw [pre_keys]; exact hr)]
 simp only [rowD,List.map_append,List.map_cons,List.map_nil,preR_cons c r y hc]
theorem loop52 (la:Nat) (h:Hp) (J:Hp) (l:List Ref) (y:Ref) (c:List Ref) (hc:c.getLast? = some y) (k:Nat) (K:List AV→M AV):∀ (n:Nat) (i:Int) (D:List (Ref×List Ref)),l.length - i.toNat=n→0≤i→i≤l.length→k≤D.length→D.length + n≤4000000→l.length≤4000000 →
  fixW (L52_0 (callW pg) fixW K) [.mp la,.mp h.length,refsA (y :: (D.map (·.1)).drop k),refsA l,.int .i64 l.length,.int .i64 i] (h++rowD D :: J) =
   K [.mp la,.mp h.length,refsA ((((l.drop i.toNat).foldl (stepD c) D).map (·.1)).drop k)] (h++rowD ((l.drop i.toNat).foldl (stepD c) D) :: J):=by
 intro n
 induction n with
 | zero =>
  intro i D hn hi hb _ _ _
  rw [FL52_0]
  simp only [L52_0]
  have h1:¬ (i < (l.length:Int)):=by omega
  have h2:l.drop i.toNat = []:=List.drop_eq_nil_of_le (by omega)
  simp [h1,h2,cutRefs]
 | succ n IH =>
  intro i D hn hi hb hk hD hll
  have h1:i < (l.length:Int):=by omega
  have hlt:i.toNat < l.length:=by omega
  have h3:=look_ref (rowD_get h D J) l[i.toNat]
  rw [getK_pre] at h3
  have hcm:∀ r,cellsM 2 (refA r)=M.pure (refA r):=fun r=>by rw [cellsM_of (okEl_ref _),acells_ref,fold_ref]
  rw [FL52_0]
  simp only [L52_0]
  simp (disch:=omega) [h1,wrap_in,IX42,getElem!_pos l i.toNat hlt,hcm]
  rw [bndR h3]
  have hB:∀ x:Ref,buildSliceA T 42 1 [(0,refA x)] = some (refsA [x]):=fun x=>rfl
  by_cases hr:l[i.toNat]∈D.map (·.1)
  ·have h4:=IH (i + 1) D (by omega) (by omega) (by omega) hk (by omega) hll
   rw [show (i + 1).toNat=i.toNat + 1 by omega] at h4
   have h5:stepD c D l[i.toNat] = D:=if_pos hr
   simp only [hr,decide_true]
   simp [hcm]
   rw [h4,List.drop_eq_getElem_cons hlt,List.foldl_cons,h5]
  ·have h4:=IH (i + 1) (D++[(l[i.toNat],c++[l[i.toNat]])]) (by omega) (by omega) (by omega) (by simp; omega) (by simp; omega) hll
   rw [show (i + 1).toNat=i.toNat + 1 by omega] at h4
   have h5:stepD c D l[i.toNat] = D++[(l[i.toNat],c++[l[i.toNat]])]:=if_neg hr
   have h6:=rowD_add h D J c l[i.toNat] y hc hr
   have h7:((D++[(l[i.toNat],c++[l[i.toNat]])]).map (·.1)).drop k=(D.map (·.1)).drop k++[l[i.toNat]]:=by
    rw [List.map_append,List.drop_append_of_le_length (by simpa using hk)]; rfl
   rw [h7] at h4
   simp only [hr,decide_false]
   simp [hcm]
   simp [ix0,hB]
   rw [bndR h6]
   have h8:appA T 42 (refsA (y :: (D.map (·.1)).drop k)) (refsA [l[i.toNat]])=some (refsA (y :: ((D.map (·.1)).drop k++[l[i.toNat]]))):=by
    rw [AP42 (by simp; omega)]; rfl
   simp only [h8]
   simp
   rw [h4,List.drop_eq_getElem_cons hlt,List.foldl_cons,h5]
theorem loop52o {p:List Mod} (S:Sm p) {f:Ref} (la:Nat) (h:Hp) (ha:IsIdx p h la):∀ (n k:Nat) (D:List (Ref×List Ref)) (J:Hp),DInv p f k D→(idxP p).length≤k + n→k≤D.length →
  ∃ J':Hp,J'.length + k=J.length + (bfsD (callL p) n k D).length∧fixW (L52_1 (callW pg) fixW) [.mp la,.mp h.length,refsA ((D.map (·.1)).drop k)] (h++rowD D :: J) = .ok (.mp h.length) (h++rowD (bfsD (callL p) n k D) :: J'):=by
 have hla:la < h.length:=(List.getElem?_eq_some_iff.1 ha).1
 intro n
 induction n with
 | zero =>
  intro k D J I hn hk
  have:=I.len
  have h1:(D.map (·.1)).drop k = []:=List.drop_eq_nil_of_le (by simp; omega)
  refine ⟨J,by simp only [bfsD]; omega,?_⟩
  rw [h1,FL52_1]
  simp only [L52_1]
  simp [refsA]
  rfl
 | succ n IH =>
  intro k D J I hn hk
  cases hD:D[k]? with
  | none =>
   have h0:=List.getElem?_eq_none_iff.1 hD
   have h1:(D.map (·.1)).drop k = []:=List.drop_eq_nil_of_le (by simp; omega)
   refine ⟨J,by simp only [bfsD,hD]; omega,?_⟩
   rw [h1,FL52_1]
   simp only [L52_1,bfsD,hD]
   simp [refsA]
   rfl
  | some e =>
   obtain ⟨x,c⟩:=e
   obtain ⟨hlt,he⟩:=List.getElem?_eq_some_iff.1 hD
   have hI:=S.idx
   have hIl:=I.len
   have hcl:=S.calls x
   have h1:(D.map (·.1)).drop k=x :: (D.map (·.1)).drop (k + 1):=by
    rw [List.drop_eq_getElem_cons (by simpa using hlt)]
    simp [he]
   have hc:=t91 (p:=p) (h:=h++rowD D :: J) (la:=la) (by unfold IsIdx; rw [List.getElem?_append_left hla]; exact ha) x (S.body x) (S.found x)
   have hlast:c.getLast? = some x:=I.last (List.mem_of_getElem? hD)
   have h2:=loop52 la h (J++[[.tup ((found p x).map (entA AV.bool))]]) (callL p x) x c hlast (k + 1) (fixW (L52_1 (callW pg) fixW)) (callL p x).length 0 D rfl (by omega) (by omega) (by omega) (by omega) (by omega)
   obtain ⟨J',hJ,h3⟩:=IH (k + 1) (D++newD (callL p) D x c) (J++[[.tup ((found p x).map (entA AV.bool))]]) (I.step hD) (by omega) (by simp; omega)
   refine ⟨J',by simp only [bfsD,hD]; simp at hJ; omega,?_⟩
   have hdr:(callL p x).drop (0:Int).toNat=callL p x:=rfl
   rw [hdr,newD_eq _ _ _ _ (callL_nodup p x),h3] at h2
   rw [h1,FL52_1]
   simp only [L52_1,bfsD,hD]
   have hpos:(0:Int) < ((D.map (·.1)).drop (k + 1)).length + 1:=by omega
   simp [ix0]
   rw [bndR hc]
   have hj:(h++rowD D :: J)++[[.tup ((found p x).map (entA AV.bool))]] = h++rowD D :: (J++[[.tup ((found p x).map (entA AV.bool))]]):=by simp
   rw [hj]
   have hlen:lenA T 42 (refsA (callL p x))=some (.int .i64 (callL p x).length):=by simp [refsA]
   simp only [hlen]
   simp
   exact h2
theorem t52 {p:List Mod} (S:Sm p) {h:Hp} {la:Nat} (ha:IsIdx p h la) (f:Ref) :
  ∃ J:Hp,J.length=(reachD p f).length∧callW pg 52 [.mp la,refA f] h=if (findR p f).isSome=true then .ok (.mp h.length) (h++rowD (reachD p f) :: J) else .ok .nilm h:=by
 have hla:la < h.length:=(List.getElem?_eq_some_iff.1 ha).1
 have h1:=look_fun ha f true
 by_cases hf:(findR p f).isSome=true
 ·obtain ⟨J,hJ,h2⟩:=loop52o S la h ha ((idxP p).length + 1) 0 [(f,[f])] [] (DInv.zero hf) (by omega) (by simp)
  have h3:reachD p f=bfsD (callL p) ((idxP p).length + 1) 0 [(f,[f])]:=if_pos hf
  refine ⟨J,by rw [h3]; simpa using hJ,?_⟩
  rw [if_pos hf]
  rw [h3,C52]
  simp [S52]
  rw [bndR h1]
  simp [hf]
  rw [bndR (m:=newMapH) (h:=h) rfl]
  have h4:=putH_ent (f:=refA) (h:=h++[[.tup []]]) (l:=h.length) (es:=[]) mt108 (by simp) f f
  rw [bndR h4]
  have hB:buildSliceA T 42 1 [(0,refA f)] = some (refsA [f]):=rfl
  have h5:(h++[[AV.tup []]]).set h.length [.tup ((putK [] f f).map (entA refA))] = h++rowD [(f,[f])] :: []:=by
   rw [set_mid]
   rfl
  simp only [hB]
  rw [h5]
  exact h2
 ·refine ⟨[],by unfold reachD; rw [if_neg hf]; rfl,?_⟩
  rw [if_neg hf]
  have hf':(findR p f).isSome=false:=by simpa using hf
  rw [C52]
  simp [S52]
  rw [bndR h1]
  simp [hf']
  rfl
end Go.Proofs.YtnipfhmghjdnmaaGreat

namespace Go.Proofs.YtnipfhmghjdnmaaGreat
open Go Go.Av Go.Av.Ap
set_option maxRecDepth 100000
theorem isoR {m:M AV} {a:AV} {h:Hp} (hm:m [] = .ok a h) (hc:Go.Av.Ap.Clean a):isoP m=M.pure a:=by
 funext h0
 simp only [isoP,hm,hc.frz]
 rfl
theorem clean_refs (l:List Ref):Go.Av.Ap.Clean (refsA l):=fun g=>cl_refs g l
theorem idx0 {p:List Mod} (S:Sm p):callW pg 53 [mods p] [] = .ok (.mp 0) [[.tup ((idxP p).map (entA Fun.av))]]:=t53 p S.len S.funcs []
theorem isIdx0 (p:List Mod):IsIdx p [[.tup ((idxP p).map (entA Fun.av))]] 0:=rfl
theorem t57 {p:List Mod} (S:Sm p) (f:Ref):callW pg 57 [mods p,refA f] = M.pure (refsA (callL p f)):=by
 rw [C57]
 have h1:=look_fun (isIdx0 p) f true
 have h2:=t91 (isIdx0 p) f (S.body f) (S.found f)
 have h3:∃ h',S57 (callW pg) fixW (mods p) (refA f) [] = .ok (refsA (callL p f)) h':=by
  simp only [S57]
  rw [bndR (idx0 S)]
  simp
  rw [bndR h1]
  cases hf:findR p f with
  | none =>
   simp [hf]
   rw [callL_none hf]
   exact ⟨_,rfl⟩
  | some g =>
   simp [hf]
   rw [bndR h2]
   exact ⟨_,rfl⟩
 obtain ⟨h',h3⟩:=h3
 simp only [cl_mods,cl_ref]
 exact isoR h3 (clean_refs _)
theorem reach_len {p:List Mod} (S:Sm p) (f:Ref):(reachD p f).length≤1000000:=by
 by_cases h:(findR p f).isSome=true
 ·have:=(reach_inv h).len; have:=S.idx; omega
 ·unfold reachD; rw [if_neg h]; simp
theorem t30 {p:List Mod} (S:Sm p) (f:Ref):callW pg 30 [mods p,refA f] = M.pure (refsA (allL p f)):=by
 rw [C30]
 have h1:=look_fun (isIdx0 p) f true
 obtain ⟨J,_,h2⟩:=t52 S (isIdx0 p) f
 have hk:∀ x,callW pg 65 [.mp x] = M.pure (.fn (.func 104) [] [.ip [.mp x]]):=fun x=>C65 _
 have hk0:callW pg 65 [.nilm] = M.pure (.fn (.func 104) [] [.ip [.nilm]]):=C65 _
 have h3:∃ h',S30 (callW pg) fixW (mods p) (refA f) [] = .ok (refsA (allL p f)) h':=by
  simp only [S30]
  simp
  rw [bndR (idx0 S)]
  by_cases hf:(findR p f).isSome=true
  ·rw [if_pos hf] at h2
   rw [bndR h2]
   have hs:=t64 (f:=refA) (rowD_get [[.tup ((idxP p).map (entA Fun.av))]] (reachD p f) J) (by simpa using reach_len S f) 104 (.inr rfl)
   rw [pre_keys] at hs
   simp [hk]
   exact ⟨_,bndR hs⟩
  ·rw [if_neg hf] at h2
   rw [bndR h2]
   simp [hk0]
   have hs:callW pg 64 [.fn (.func 104) [] [.ip [.nilm]],.fn (.func 66) [] []] [[.tup ((idxP p).map (entA Fun.av))]] = .ok (refsA []) [[.tup ((idxP p).map (entA Fun.av))]]:=by
    rw [callW_other hOther (E:=sortedE [104,173] 66) rfl]
    rfl
   have he:allL p f = []:=by unfold allL reachD; rw [if_neg hf]; rfl
   rw [he]
   exact ⟨_,bndR hs⟩
 obtain ⟨h',h3⟩:=h3
 simp only [cl_mods,cl_ref]
 exact isoR h3 (clean_refs _)
end Go.Proofs.YtnipfhmghjdnmaaGreat

namespace Go.Proofs.YtnipfhmghjdnmaaGreat
open Go Go.Av Go.Av.Ap
set_option maxRecDepth 100000
theorem rep_of {l:Hp} {n:Nat} (h1:l.length=n) (h2:∀ x∈l,x = []):l=List.replicate n []:=List.eq_replicate_iff.2 ⟨h1,h2⟩
theorem t68 (e:Exp) (l:Nat) (h:Hp) (s:BitVec 64) (hl:h[l]? = some [sA s]):callW pg 68 [e.av,.hp l 0] h = .ok (.tup []) (h.set l [sA (orS s e)]):=by
 rw [C68]
 have h1:loadH T 3 (.hp l 0) h = .ok (sA s) h:=loadH1 rfl rfl hl rfl
 have h2:∀ v,storeH T 3 (.hp l 0) (sA v) h = .ok (.tup []) (h.set l [sA v]):=fun v=>storeHk (T:=T) (t:=3) (h:=h) (l:=l) (k:=0) (cs:=[sA s]) (v:=sA v) rfl hl rfl (by exact Nat.le_refl 1) (by exact Nat.one_pos)
 simp [S68]
 unfold orS effN
 by_cases h16:e.op=16
 ·simp only [h16,if_true]
  rw [bndR h1]
  simp [sA_and,sA_or]
  rw [bndR (h2 _)]
  rfl
 ·simp only [h16,if_false]
  have:h.set l [sA (s ||| 0#64)] = h:=by
   obtain ⟨h3,h4⟩:=List.getElem?_eq_some_iff.1 hl
   simp
   rw [← h4]
   simp
  rw [this]
  rfl
def keyD (D:List (Ref×List Ref)) (q:Nat):Ref:=((D.map (·.1))[q]?).getD ([],[])
theorem loop31 {p:List Mod} (S:Sm p) (D:List (Ref×List Ref)) (J:Hp):∀ (n:Nat) (qs:List Nat) (s:BitVec 64) (c:AV),qs.length=n→qs.Nodup→(∀ q∈qs,q < D.length) →
  fixW (L31_0 (callW pg) fixW) [.mp 0,.hp 1 0,.it (J.length + 3)] ([.tup ((idxP p).map (entA Fun.av))] :: [sA s] :: rowD D :: (J++[[.tup [],.mp 2,.int .i64 D.length,posA qs,c]])) =
   .ok (sA (orQ (fun q=>effB p (keyD D q)) s qs)) (List.replicate (J.length + 4) []):=by
 intro n
 induction n with
 | zero =>
  intro qs s c hn _ _
  obtain rfl:qs = []:=List.length_eq_zero_iff.1 hn
  rw [FL31_0]
  simp only [L31_0]
  simp only [nth_zero,nth_succ]
  rw [nxt_nil (l:=J.length + 3) (m:=2) (n:=D.length) (c:=c) (es:=(D.map preR).map (entA refA)) (by simp) rfl (by simp)]
  have h1:loadH T 3 (.hp 1 0) (([.tup ((idxP p).map (entA Fun.av))] :: [sA s] :: rowD D :: (J++[[.tup [],.mp 2,.int .i64 D.length,posA [],c]])).set (J.length + 3) []) = .ok (sA s) _:=loadH1 rfl rfl rfl rfl
  rw [bndR h1]
  simp [fzM,orQ]
  exact ⟨rfl,rep_of (by simp) (fun x hx=>by simp at hx; rcases hx with h | ⟨_,h⟩ | h <;> exact h)⟩
 | succ n IH =>
  intro qs s c hn hnd hlt
  rw [FL31_0]
  simp only [L31_0]
  simp only [nth_zero,nth_succ]
  apply nxt_cons (m:=2) (n:=D.length) (qs:=qs) (c:=c) (es:=(D.map preR).map (entA refA))
  ·simp
  ·rfl
  ·simp
  ·intro e; rw [e] at hn; cases hn
  intro q hq
  have hset:([.tup ((idxP p).map (entA Fun.av))] :: [sA s] :: rowD D :: (J++[[.tup [],.mp 2,.int .i64 D.length,posA qs,c]])).set (J.length + 3) [.tup [],.mp 2,.int .i64 D.length,posA (qs.filter fun r=>!(Nat.beq r q)),.int .i64 (q:Nat)] =
   [.tup ((idxP p).map (entA Fun.av))] :: [sA s] :: rowD D :: (J++[[.tup [],.mp 2,.int .i64 D.length,posA (qs.filter fun r=>!(Nat.beq r q)),.int .i64 (q:Nat)]]):=by simp
  rw [hset]
  have hqD:=hlt q hq
  have hent:((D.map preR).map (entA refA))[q]? = some (.tup [refA (keyD D q),refA (preR D[q]).2]):=by
   rw [List.getElem?_map,List.getElem?_map,List.getElem?_eq_getElem hqD]
   simp only [Option.map_some,keyD,List.getElem?_map,List.getElem?_eq_getElem hqD,Option.getD_some]
   rfl
  have h1:=entry_at (l:=J.length + 3) (m:=2) (q:=q) (n:=D.length) (x:=posA (qs.filter fun r=>!(Nat.beq r q))) (k:=refA (keyD D q)) (v:=refA (preR D[q]).2) (es:=(D.map preR).map (entA refA))
   (h:=[.tup ((idxP p).map (entA Fun.av))] :: [sA s] :: rowD D :: (J++[[.tup [],.mp 2,.int .i64 D.length,posA (qs.filter fun r=>!(Nat.beq r q)),.int .i64 (q:Nat)]])) (by simp) rfl (by simp) hent
  have hcm:∀ r,cellsM 2 (refA r)=M.pure (refA r):=fun r=>by rw [cellsM_of (okEl_ref _),acells_ref,fold_ref]
  have h2:=look_fun (p:=p) (l:=0) (h:=[.tup ((idxP p).map (entA Fun.av))] :: [sA s] :: rowD D :: (J++[[.tup [],.mp 2,.int .i64 D.length,posA (qs.filter fun r=>!(Nat.beq r q)),.int .i64 (q:Nat)]])) rfl (keyD D q) false
  let H0:BitVec 64→Hp:=fun s=>[.tup ((idxP p).map (entA Fun.av))] :: [sA s] :: rowD D :: (J++[[.tup [],.mp 2,.int .i64 D.length,posA (qs.filter fun r=>!(Nat.beq r q)),.int .i64 (q:Nat)]])
  have h3:=t67 (H:=H0) (st:=orS) (g:=.fn (.func 68) [] [.hp 1 0]) (fun s e=>t68 e 1 (H0 s) s rfl) _ (bodyR p (keyD D q)) (Nat.le_refl _) (S.body _) s
  rw [effB_from] at h3
  have hp:=perm_filter hnd hq
  have h4:=IH (qs.filter fun r=>!(Nat.beq r q)) (s ||| effB p (keyD D q)) (.int .i64 (q:Nat)) (by have:=hp.length_eq; simp at this; omega) (nodup_filter hnd) (fun r hr=>hlt r ((List.mem_filter.1 hr).1))
  rw [bndR h1]
  simp [hcm]
  rw [bndR h2]
  simp [fbody]
  refine (bndR h3).trans ?_
  rw [orQ_perm _ hp]
  exact h4
def effS (p:List Mod) (f:Ref):BitVec 64:=orQ (effB p) 0#64 ((reachD p f).map (·.1))
theorem orQ_range (p:List Mod) (D:List (Ref×List Ref)):orQ (fun q=>effB p (keyD D q)) 0#64 (List.range D.length)=orQ (effB p) 0#64 (D.map (·.1)):=by
 have:D.map (·.1)=(List.range D.length).map (keyD D):=by
  apply List.ext_getElem (by simp)
  intro i h1 h2
  simp at h1
  simp [keyD,h1]
 unfold orQ
 rw [this,List.foldl_map]
theorem t31 {p:List Mod} (S:Sm p) (f:Ref):callW pg 31 [mods p,refA f] = M.pure (sA (effS p f)):=by
 rw [C31]
 obtain ⟨J,_,h2⟩:=t52 (h:=[[.tup ((idxP p).map (entA Fun.av))],[sA 0#64]]) (la:=0) S rfl f
 have h3:∃ h',S31 (callW pg) fixW (mods p) (refA f) [] = .ok (sA (effS p f)) h':=by
  simp only [S31]
  rw [bndR (idx0 S)]
  have hn:newH [.int .i64 0] [[.tup ((idxP p).map (entA Fun.av))]] = .ok (.hp 1 0) [[.tup ((idxP p).map (entA Fun.av))],[.int .i64 0]]:=rfl
  have hs:storeH T 3 (.hp 1 0) (.int .i64 0) [[.tup ((idxP p).map (entA Fun.av))],[.int .i64 0]] = .ok (.tup []) [[.tup ((idxP p).map (entA Fun.av))],[sA 0#64]]:=rfl
  rw [bndR hn,bndR hs]
  simp
  by_cases hf:(findR p f).isSome=true
  ·rw [if_pos hf] at h2
   rw [bndR h2]
   have h4:=loop31 S (reachD p f) J _ (List.range (reachD p f).length) 0#64 .any rfl List.nodup_range (fun q hq=>List.mem_range.1 hq)
   rw [orQ_range] at h4
   have hr:rangeH T 108 (.mp 2) ([.tup ((idxP p).map (entA Fun.av))] :: [sA 0#64] :: rowD (reachD p f) :: J) = .ok (.it (J.length + 3)) ([.tup ((idxP p).map (entA Fun.av))] :: [sA 0#64] :: rowD (reachD p f) :: (J++[[.tup [],.mp 2,.int .i64 (reachD p f).length,posA (List.range (reachD p f).length),.any]])):=by
    simp [rangeH,mt108,rowD]
   exact ⟨_,(bndR hr).trans h4⟩
  ·rw [if_neg hf] at h2
   rw [bndR h2]
   have he:effS p f=0#64:=by unfold effS reachD; rw [if_neg hf]; rfl
   have hr:rangeH T 108 .nilm [[.tup ((idxP p).map (entA Fun.av))],[sA 0#64]] = .ok (.it 2) [[.tup ((idxP p).map (entA Fun.av))],[sA 0#64],[.tup [],.nilm]]:=rfl
   rw [bndR hr,FL31_0,he]
   simp only [L31_0,nth_zero,nth_succ]
   rw [nxt_nilm rfl]
   exact ⟨_,rfl⟩
 obtain ⟨h',h3⟩:=h3
 simp only [cl_mods,cl_ref]
 exact isoR h3 (fun _=>rfl)
end Go.Proofs.YtnipfhmghjdnmaaGreat

namespace Go.Proofs.YtnipfhmghjdnmaaGreat
open Go Go.Av Go.Av.Ap
set_option maxRecDepth 100000
theorem ixH {l n:Nat} {i:Int} (h0:0≤i) (h1:i < n):indexAddrA T 42 (.hs l 0 n 2 true) (.int .i64 i)=some (.hp l (i.toNat * 2)):=by
 show (if 0≤i∧i < n then some (AV.hp l (0 + i.toNat * 2)) else none)=_
 rw [if_pos ⟨h0,h1⟩,Nat.zero_add]
theorem loadR {h:Hp} {l:Nat} {Q:List Ref} (hl:h[l]? = some (cellsR Q)) (i:Nat) (hi:i < Q.length):loadH T 37 (.hp l (i * 2)) h = .ok (refA Q[i]) h:=by
 rw [loadHa (T:=T) (t:=37) (l:=l) (k:=i * 2) (cs:=cellsR Q) (h:=h) rfl rfl hl (by rw [cellsR_len]; show i * 2 + 2≤_; omega)]
 show R.ok (AV.agg (((cellsR Q).drop (i * 2)).take 2)) h=_
 rw [cellsR_get Q i hi]
 rfl
theorem storeR {h:Hp} {l:Nat} {Q:List Ref} (hl:h[l]? = some (cellsR Q)) (i:Nat) (hi:i < Q.length) (r:Ref):storeH T 37 (.hp l (i * 2)) (refA r) h = .ok (.tup []) (h.set l (cellsR (Q.set i r))):=by
 rw [storeHk (T:=T) (t:=37) (l:=l) (k:=i * 2) (cs:=cellsR Q) (v:=refA r) (h:=h) rfl hl rfl (by rw [cellsR_len]; show i * 2 + 2≤_; omega) (by exact Nat.zero_lt_two)]
 show R.ok _ (h.set l (setCells (cellsR Q) (i * 2) [.str r.1,.str r.2]))=_
 rw [cellsR_set Q i hi]
theorem loop54 (P:List Ref) (hP:P.length≤4000000) (l:Nat):∀ (n:Nat) (i j:Int) (Q:List Ref) (h:Hp),(j - i + 1).toNat=n→0≤i→i + j + 1=P.length→RevTo P Q i.toNat→h[l]? = some (cellsR Q) →
  fixW (L54_0 (callW pg) fixW) [.hs l 0 P.length 2 true,.int .i64 i,.int .i64 j] h = .ok (.tup []) (h.set l (cellsR P.reverse)):=by
 intro n
 induction n using Nat.strongRecOn with
 | ind n IH =>
  intro i j Q h hn hi hij H hl
  rw [FL54_0]
  simp only [L54_0]
  by_cases hlt:i < j
  ·have hQ:=H.1
   have h2:=loadR hl j.toNat (by omega)
   have h3:=loadR hl i.toNat (by omega)
   have h4:=storeR hl i.toNat (by omega) Q[j.toNat]
   have hll:l < h.length:=(List.getElem?_eq_some_iff.1 hl).1
   have h5:=storeR (h:=h.set l (cellsR (Q.set i.toNat Q[j.toNat]))) (l:=l) (Q:=Q.set i.toNat Q[j.toNat]) (List.getElem?_set_self hll) j.toNat (by simp; omega) Q[i.toNat]
   rw [List.set_set] at h5
   have hs:(Q.set i.toNat Q[j.toNat]).set j.toNat Q[i.toNat] = swapL Q i.toNat j.toNat:=by
    simp only [swapL,List.getElem?_eq_getElem (show j.toNat < Q.length by omega),List.getElem?_eq_getElem (show i.toNat < Q.length by omega),Option.getD_some]
   rw [hs] at h5
   have h6:=IH (j - 1 - (i + 1) + 1).toNat (by omega) (i + 1) (j - 1) (swapL Q i.toNat j.toNat) (h.set l (cellsR (swapL Q i.toNat j.toNat))) rfl (by omega) (by omega) (by
    rw [show (i + 1).toNat=i.toNat + 1 by omega]
    exact revTo_step H (by omega) (by omega)) (List.getElem?_set_self hll)
   rw [List.set_set] at h6
   simp (disch:=omega) [hlt,ixH]
   rw [bndR h2,bndR h3,bndR h4,bndR h5,wrap_in (by omega) (by omega),wrap_in (by omega) (by omega)]
   exact h6
  ·have:=revTo_end H hi hij hlt
   subst this
   have hll:l < h.length:=(List.getElem?_eq_some_iff.1 hl).1
   have hs:h.set l (cellsR P.reverse)=h:=by
    obtain ⟨h3,h4⟩:=List.getElem?_eq_some_iff.1 hl
    rw [← h4]; simp
   rw [hs]
   simp [hlt]
   rfl
theorem t54 (P:List Ref) (hP:P.length≤4000000) (l:Nat) (h:Hp) (hl:h[l]? = some (cellsR P)):callW pg 54 [.hs l 0 P.length 2 true] h = .ok (.tup []) (h.set l (cellsR P.reverse)):=by
 rw [C54]
 have h1:=loop54 P hP l _ 0 (P.length - 1) P h rfl (by omega) (by omega) ⟨rfl,fun x hx=>by rw [if_neg (by omega)]⟩ hl
 have h2:lenA T 42 (.hs l 0 P.length 2 true)=some (.int .i64 P.length):=rfl
 simp only [S54,h2]
 simp (disch:=omega) [wrap_in]
 exact h1
end Go.Proofs.YtnipfhmghjdnmaaGreat

namespace Go.Proofs.YtnipfhmghjdnmaaGreat
open Go Go.Av Go.Av.Ap
set_option maxRecDepth 100000
theorem appR {h:Hp} {q:Nat} {P:List Ref} (hq:h[q]? = some (cellsR P)) (h0:P≠[]) (hb:P.length≤4000000) (r:Ref) :
  appH T 42 false (.hs q 0 P.length 2 true) (refsA [r]) h = .ok (.hs h.length 0 (P++[r]).length 2 true) (h.set q []++[cellsR (P++[r])]):=by
 have hp:0 < P.length:=by cases P with | nil=>exact absurd rfl h0 | cons _ _=>simp
 have:=appHr (T:=T) (t:=42) (e:=37) (ti:=_) (ei:=_) rfl rfl rfl (x:=refA r) rfl (by decide) (by decide) (h:=h) (q:=q) (n:=P.length) (cs:=cellsR P) hq (cellsR_ok P) (cellsR_len P) hp (by show (P.length + 1) * 32≤_; omega)
 rw [cellsR_app,List.length_append]
 exact this
theorem binNe (a b:Ref):binA T .neq 37 (refA a) (refA b)=some (.bool !decide (a=b)):=by
 show (eqA T 20 37 (refA a) (refA b)).map (fun b=>AV.bool !b)=_
 rw [eq37]
 rfl
theorem binEq (a b:Ref):binA T .eql 37 (refA a) (refA b)=some (.bool (decide (a=b))):=by
 show (eqA T 20 37 (refA a) (refA b)).map AV.bool=_
 rw [eq37]
 rfl
theorem loop25 {p:List Mod} {f:Ref} {k:Nat} {D:List (Ref×List Ref)} (I:DInv p f k D) (m:Nat):∀ (n:Nat) (x:Ref) (c P:List Ref) (h:Hp) (q:Nat),c.length=n→(x,c)∈D→h[m]? = some (rowD D)→h[q]? = some (cellsR P)→q≠m→P≠[]→P.length + n≤3000000 →
  ∃ h' q' R,R=(P++c.dropLast.reverse).reverse∧fixW (L25_0 (callW pg) fixW) [.ip [.str f.1,.str f.2],.mp m,.hs q 0 P.length 2 true,.str x.1,.str x.2] h = .ok (.tup [.hs q' 0 R.length 2 true,.bool true]) h'∧h'[q']? = some (cellsR R):=by
 intro n
 induction n with
 | zero =>
  intro x c P h q hn hx
  have:=I.last hx
  rw [List.length_eq_zero_iff.1 hn] at this
  cases this
 | succ n IH =>
  intro x c P h q hn hx hm hq hqm h0 hb
  rw [FL25_0]
  simp only [L25_0]
  have hcm:∀ r,cellsNil 2 [] (refA r)=M.pure (refA r):=fun r=>by rw [cellsNil_of (okEl_ref _),acells_ref,fold_ref]
  by_cases hxf:x=f
  ·subst hxf
   have hc:=I.uniq hx I.start
   subst hc
   have h1:=t54 P (by omega) q h hq
   have hql:q < h.length:=(List.getElem?_eq_some_iff.1 hq).1
   refine ⟨h.set q (cellsR P.reverse),q,P.reverse,by simp,?_,List.getElem?_set_self hql⟩
   simp [binNe]
   exact bndR h1
  ·rcases I.chain _ hx with e | ⟨y,c',h1,h2,h3⟩
   ·exact absurd (congrArg Prod.fst e) hxf
   ·simp only at h3
    subst h3
    have hg:getK (D.map preR) x=some y:=getK_nodup (by rw [pre_keys]; exact I.nodup) (List.mem_map.2 ⟨_,hx,preR_cons c' x y (I.last h1)⟩)
    have h4:=look_ref0 (es:=D.map preR) hm x
    rw [hg] at h4
    have h5:=appR hq h0 (by omega) y
    have hml:m < h.length:=(List.getElem?_eq_some_iff.1 hm).1
    obtain ⟨h',q',R,r1,r2,r3⟩:=IH y c' (P++[y]) (h.set q []++[cellsR (P++[y])]) h.length (by simpa using hn) h1
     (by rw [List.getElem?_append_left (by simpa using hml),List.getElem?_set_ne hqm]; exact hm) (by simp) (by omega) (by simp) (by simp; omega)
    refine ⟨h',q',R,?_,?_,r3⟩
    ·rw [r1,List.dropLast_concat]
     have:c'=c'.dropLast++[y]:=by
      have hl:=I.last h1
      have hne:c'≠[]:=by intro e; rw [e] at hl; cases hl
      have:=List.dropLast_concat_getLast hne
      rw [List.getLast?_eq_some_getLast hne] at hl
      rw [Option.some.inj hl] at this
      exact this.symm
     rw [this]
     simp
    ·have hB:buildSliceA T 42 1 [(0,refA y)] = some (refsA [y]):=rfl
     simp [binNe,hxf]
     rw [bndR h4]
     simp [hcm,hB]
     exact (bndR h5).trans r2
def pathA:Option (List Ref)→AV
 | some c=>.tup [refsA c,.bool true]
 | none=>.tup [refsA [],.bool false]
theorem t25 {p:List Mod} (S:Sm p) (f t:Ref):callW pg 25 [mods p,refA f,refA t] = M.pure (pathA (pathR p f t)):=by
 rw [C25]
 obtain ⟨J,_,h2⟩:=t52 S (isIdx0 p) f
 have hcm:∀ r,cellsM 2 (refA r)=M.pure (refA r):=fun r=>by rw [cellsM_of (okEl_ref _),acells_ref,fold_ref]
 simp only [cl_mods,cl_ref]
 cases hg:pathR p f t with
 | none =>
  have h3:∃ h',S25 (callW pg) fixW (mods p) (refA f) (refA t) [] = .ok (.tup [refsA [],.bool false]) h':=by
   simp only [S25]
   simp [hcm]
   rw [bndR (idx0 S)]
   by_cases hf:(findR p f).isSome=true
   ·rw [if_pos hf] at h2
    rw [bndR h2]
    have h4:=look_ref (rowD_get [[.tup ((idxP p).map (entA Fun.av))]] (reachD p f) J) t
    have h5:(getK ((reachD p f).map preR) t).isSome=false:=by
     rw [getK_pre]
     exact decide_eq_false (getK_none.1 hg)
    rw [h5] at h4
    rw [bndR h4]
    simp [hcm]
    exact ⟨_,rfl⟩
   ·rw [if_neg hf] at h2
    rw [bndR h2]
    exact ⟨_,rfl⟩
  obtain ⟨h',h3⟩:=h3
  exact isoR h3 (fun _=>rfl)
 | some c =>
  have hf:(findR p f).isSome=true:=by
   by_cases hf:(findR p f).isSome=true
   ·exact hf
   ·unfold pathR reachD at hg
    rw [if_neg hf] at hg
    cases hg
  have hI:=reach_inv hf
  have hx:=getK_mem hg
  have hlen:=chain_len hI hx
  have hRl:=reach_len S f
  have h3:∃ h' q',S25 (callW pg) fixW (mods p) (refA f) (refA t) [] = .ok (.tup [.hs q' 0 c.length 2 true,.bool true]) h'∧h'[q']? = some (cellsR c):=by
   simp only [S25]
   simp [hcm]
   rw [bndR (idx0 S)]
   rw [if_pos hf] at h2
   rw [bndR h2]
   have h4:=look_ref (rowD_get [[.tup ((idxP p).map (entA Fun.av))]] (reachD p f) J) t
   have h5:(getK ((reachD p f).map preR) t).isSome=true:=by
    rw [getK_pre]
    exact decide_eq_true (List.mem_map.2 ⟨_,hx,rfl⟩)
   rw [h5] at h4
   rw [bndR h4]
   simp [hcm]
   obtain ⟨h',q',R,r1,r2,r3⟩:=loop25 hI 1 c.length t c [t] ([.tup ((idxP p).map (entA Fun.av))] :: rowD (reachD p f) :: (J++[cellsR [t]])) (J.length + 2) rfl hx rfl (by simp) (by simp) (by simp) (by simp at hlen ⊢; omega)
   have hR:R=c:=by
    have hl:=hI.last hx
    have hne:c≠[]:=by intro e; rw [e] at hl; cases hl
    have:=List.dropLast_concat_getLast hne
    rw [List.getLast?_eq_some_getLast hne] at hl
    rw [Option.some.inj hl] at this
    rw [r1]
    simp
    exact this
   subst hR
   have hB:buildH T 42 1 [(0,refA t)] ([.tup ((idxP p).map (entA Fun.av))] :: rowD (reachD p f) :: J) = .ok (.hs (J.length + 2) 0 [t].length 2 true) ([.tup ((idxP p).map (entA Fun.av))] :: rowD (reachD p f) :: (J++[cellsR [t]])):=rfl
   exact ⟨h',q',(bndR hB).trans r2,r3⟩
  obtain ⟨h',q',h3,h4⟩:=h3
  funext h0
  simp only [isoP,h3]
  rw [frz_pair h4]
  rfl
end Go.Proofs.YtnipfhmghjdnmaaGreat

namespace Go.Proofs.YtnipfhmghjdnmaaGreat
open Go Go.Av Go.Av.Ap
set_option maxRecDepth 100000
theorem cond_tr {α:Type} {b:Bool} {x y:α} (h:b=true):(bif b then x else y)=x:=by rw [h]; rfl
theorem flat_ea:∀ l:List Ref,(l.map eaRef).flatten=cellsR l
 | []=>rfl
 | r :: l=>by
  rw [List.map_cons,List.flatten_cons,flat_ea l]
  rfl
theorem t77 {h:Hp} {q:Nat} {P:List Ref} (hq:h[q]? = some (cellsR P)) (h0:P≠[]) (hb:P.length≤4000000) :
  callW pg 77 [.hs q 0 P.length 2 true,.fn (.func 66) [] []] h = .ok (.tup []) (h.set q (cellsR (sortR P))):=by
 rw [callW_other hOther (E:=sortRefE 66) rfl]
 show sortE elsRef 66 srtRef (callW pg) [.hs q 0 P.length 2 true,.fn (.func 66) [] []] h=_
 have hp:0 < P.length:=by cases P with | nil=>exact absurd rfl h0 | cons _ _=>simp
 have h1:elsRef.dec (((cellsR P).drop 0).take (P.length * elsRef.k))=some P:=by
  show decRef (((cellsR P).drop 0).take (P.length * 2))=some P
  rw [List.drop_zero,← cellsR_len,List.take_length,← flat_ea]
  exact decRef_map P
 have h2:((srtRef P).map elsRef.ea).flatten=cellsR (sortR P):=by
  rw [srtRef_eq]
  exact flat_ea _
 have h3:(Nat.beq 66 66&&Nat.beq 2 elsRef.k&&decide (0 < P.length)&&decide (0 + P.length * elsRef.k≤(cellsR P).length)&&decide (P.length=P.length)&&decide (P.length < 4611686018427387904)&&decide ((srtRef P).length=P.length)&&(cellsR P).all okCell&&((srtRef P).map elsRef.ea).flatten.all okCell)=true:=by
  rw [h2,srtRef_eq,sortR_len,cellsR_ok,cellsR_ok,cellsR_len]
  have:elsRef.k=2:=rfl
  rw [this]
  simp
  omega
 simp only [decide_true] at h3
 simp only [sortE,hq,h1]
 refine (cond_tr ?_).trans ?_
 ·simpa using h3
 congr 2
 rw [h2]
 unfold setCells
 simp only [List.take_zero,List.nil_append,Nat.zero_add,cellsR_len,sortR_len]
 rw [List.drop_eq_nil_of_le (by rw [cellsR_len]; omega),List.append_nil]
def idxK (p:List Mod) (q:Nat):Ref:=((idxP p)[q]?.map (·.1)).getD ([],[])
def usesB (p:List Mod) (f k:Ref) (g:Fun):Bool:=decide (f∈(reachD p k).map (·.1))&&g.pub
def selB (p:List Mod) (f:Ref) (q:Nat):Bool:=((idxP p)[q]?.map fun e=>usesB p f e.1 e.2).getD false
def cntB (p:List Mod) (f:Ref) (q:Nat):Nat:=1 + (reachD p (idxK p q)).length + (if selB p f q=true then 1 else 0)
def selQ (p:List Mod) (f:Ref) (qs:List Nat):List Ref:=(qs.filter (selB p f)).map (idxK p)
def cntQ (p:List Mod) (f:Ref) (n:Nat) (qs:List Nat):Nat:=qs.foldl (fun n q=>n + cntB p f q) n
def usersL (p:List Mod) (f:Ref):List Ref:=sortR (selQ p f (List.range (idxP p).length))
inductive OutRc (h:Hp):AV→List Ref→Prop
 | nil:OutRc h .hn []
 | cons (q:Nat) (P:List Ref):2≤q→h[q]? = some (cellsR P)→P≠[]→OutRc h (.hs q 0 P.length 2 true) P
theorem OutRc.grow {h:Hp} {out:AV} {P:List Ref} (H:OutRc h out P) (J:Hp):OutRc (h++J) out P:=by
 cases H with
 | nil=>exact .nil
 | cons q P h1 h2 h3=>exact .cons q P h1 (by rw [List.getElem?_append_left (List.getElem?_eq_some_iff.1 h2).1]; exact h2) h3
theorem OutRc.put {h:Hp} {out:AV} {P:List Ref} (H:OutRc h out P) (hb:P.length≤4000000) (h2:2≤h.length) (r:Ref):∃ out' h',appH T 42 false out (refsA [r]) h = .ok out' h'∧OutRc h' out' (P++[r])∧h'.length=h.length + 1∧∀ i,i < 2→h'[i]? = h[i]?:=by
 cases H with
 | nil =>
  refine ⟨.hs h.length 0 1 2 true,h++[cellsR [r]],rfl,.cons h.length [r] h2 (by simp) (by simp),by simp,fun i hi=>by rw [List.getElem?_append_left (by omega)]⟩
 | cons q P h3 h4 h5 =>
  have:=appR h4 h5 hb r
  refine ⟨_,_,this,.cons h.length (P++[r]) h2 ?_ (by simp),by simp,fun i hi=>?_⟩
  ·have:(h.set q []).length=h.length:=by simp
   rw [← this]
   simp
  ·rw [List.getElem?_append_left (by simp; omega),List.getElem?_set_ne (by omega)]
theorem OutRc.set1 {h:Hp} {out:AV} {P:List Ref} (H:OutRc h out P) (x:List AV):OutRc (h.set 1 x) out P:=by
 cases H with
 | nil=>exact .nil
 | cons q P h1 h2 h3=>exact .cons q P h1 (by rw [List.getElem?_set_ne (by omega)]; exact h2) h3
theorem OutRc.done {h:Hp} {out:AV} {P:List Ref} (H:OutRc h out P) (hb:P.length≤4000000):bnd (callW pg 77 [out,.fn (.func 66) [] []]) (fun _=>bnd (lft (some out)) fzM) h = .ok (refsA (sortR P)) (List.replicate h.length []):=by
 have hrep:∀ h:Hp,h.map (fun _=>([]:List AV))=List.replicate h.length []:=fun h=>rep_of (List.length_map _) (fun x hx=>by obtain ⟨_,_,rfl⟩:=List.mem_map.1 hx; rfl)
 cases H with
 | nil =>
  have h1:callW pg 77 [.hn,.fn (.func 66) [] []] h = .ok (.tup []) h:=by
   rw [callW_other hOther (E:=sortRefE 66) rfl]
   rfl
  rw [bndR h1]
  simp only [bnd_some,fzM,hrep]
  rfl
 | cons q P h1 h2 h3 =>
  rw [bndR (t77 h2 h3 hb)]
  simp only [bnd_some,fzM,hrep,List.length_set]
  have hql:q < h.length:=(List.getElem?_eq_some_iff.1 h2).1
  have:=frz_refs (h:=h.set q (cellsR (sortR P))) (l:=q) (P:=sortR P) (List.getElem?_set_self hql) 5
  rw [sortR_len] at this
  rw [this]
theorem selQ_perm (p:List Mod) (f:Ref) {a b:List Nat} (h:a.Perm b):(selQ p f a).Perm (selQ p f b):=(h.filter _).map _
theorem cntQ_perm (p:List Mod) (f:Ref) {a b:List Nat} (h:a.Perm b) (n:Nat):cntQ p f n a=cntQ p f n b:=h.foldl_eq' (fun x _ y _ z=>by omega) n
theorem loop41 {p:List Mod} (S:Sm p) (f:Ref):∀ (n:Nat) (qs:List Nat) (P:List Ref) (out:AV) (h:Hp) (c:AV),qs.length=n→qs.Nodup→(∀ q∈qs,q < (idxP p).length)→OutRc h out P→P.length + n≤3000000 →
  IsIdx p h 0→h[1]? = some [.tup [],.mp 0,.int .i64 (idxP p).length,posA qs,c] →
  fixW (L41_0 (callW pg) fixW) [.ip [.str f.1,.str f.2],.mp 0,out,.it 1] h = .ok (refsA (sortR (P++selQ p f qs))) (List.replicate (cntQ p f h.length qs) []):=by
 intro n
 induction n with
 | zero =>
  intro qs P out h c hn _ _ hO hb hi h1
  obtain rfl:qs = []:=List.length_eq_zero_iff.1 hn
  rw [FL41_0]
  simp only [L41_0,nth_zero,nth_succ]
  rw [nxt_nil h1 hi (by simp)]
  have:=(hO.set1 []).done (by omega)
  rw [this]
  simp [selQ,cntQ]
 | succ n IH =>
  intro qs P out h c hn hnd hlt hO hb hi h1
  rw [FL41_0]
  simp only [L41_0,nth_zero,nth_succ]
  have hhl:2≤h.length:=by have:=(List.getElem?_eq_some_iff.1 h1).1; omega
  apply nxt_cons h1 hi (by simp)
  ·intro e; rw [e] at hn; cases hn
  intro q hq
  have hqI:=hlt q hq
  have hent:((idxP p).map (entA Fun.av))[q]? = some (.tup [refA (idxP p)[q].1,(idxP p)[q].2.av]):=by
   rw [List.getElem?_map,List.getElem?_eq_getElem hqI]
   rfl
  have hk:idxK p q=(idxP p)[q].1:=by simp [idxK,hqI]
  have hs:selB p f q=usesB p f (idxP p)[q].1 (idxP p)[q].2:=by simp [selB,hqI]
  generalize hg:(idxP p)[q] = e at hent hk hs
  obtain ⟨k,g⟩:=e
  simp only at hent hk hs
  have hmem:(k,g)∈idxP p:=hg ▸ List.getElem_mem hqI
  have hfk:(findR p k).isSome=true:=(idx_keys p k).1 (List.mem_map.2 ⟨_,hmem,rfl⟩)
  let h2:=h.set 1 [.tup [],.mp 0,.int .i64 (idxP p).length,posA (qs.filter fun r=>!(Nat.beq r q)),.int .i64 (q:Nat)]
  have hi2:IsIdx p h2 0:=by unfold IsIdx; rw [List.getElem?_set_ne (by omega)]; exact hi
  have h12:h2[1]? = some [.tup [],.mp 0,.int .i64 (idxP p).length,posA (qs.filter fun r=>!(Nat.beq r q)),.int .i64 (q:Nat)]:=List.getElem?_set_self (by omega)
  have hO2:OutRc h2 out P:=hO.set1 _
  have hl2:h2.length=h.length:=List.length_set
  have he:=entry_at (h:=h2) h12 hi2 (by simp) hent
  have hcm:∀ r,cellsM 2 (refA r)=M.pure (refA r):=fun r=>by rw [cellsM_of (okEl_ref _),acells_ref,fold_ref]
  obtain ⟨J,hJ,hsp⟩:=t52 S hi2 k
  rw [if_pos hfk] at hsp
  have hlk:=look_ref (rowD_get h2 (reachD p k) J) f
  rw [getK_pre] at hlk
  have hp:=perm_filter hnd hq
  have hnl:(qs.filter fun r=>!(Nat.beq r q)).length=n:=by have:=hp.length_eq; simp only [List.length_cons] at this; omega
  have hlt2:∀ r∈qs.filter (fun r=>!(Nat.beq r q)),r < (idxP p).length:=fun r hr=>hlt r (List.mem_filter.1 hr).1
  have hO3:=hO2.grow (rowD (reachD p k) :: J)
  have hhl3:(h2++rowD (reachD p k) :: J).length=h.length + (1 + (reachD p k).length):=by simp [hl2,hJ]; omega
  have hi3:IsIdx p (h2++rowD (reachD p k) :: J) 0:=by unfold IsIdx; rw [List.getElem?_append_left (by omega)]; exact hi2
  have h13:(h2++rowD (reachD p k) :: J)[1]? = some [.tup [],.mp 0,.int .i64 (idxP p).length,posA (qs.filter fun r=>!(Nat.beq r q)),.int .i64 (q:Nat)]:=by rw [List.getElem?_append_left (by omega)]; exact h12
  have hres1:sortR (P++selQ p f qs)=sortR (P++selQ p f (q :: qs.filter fun r=>!(Nat.beq r q))):=sortR_of_perm ((selQ_perm p f hp).append_left P)
  rw [hres1,cntQ_perm p f hp]
  have hcnt:cntQ p f h.length (q :: qs.filter fun r=>!(Nat.beq r q))=cntQ p f (h.length + cntB p f q) (qs.filter fun r=>!(Nat.beq r q)):=rfl
  rw [hcnt]
  refine (bndR he).trans ?_
  simp [hcm]
  refine (bndR hsp).trans ?_
  refine (bndR hlk).trans ?_
  simp [hcm]
  have hB:buildSliceA T 42 1 [(0,refA k)] = some (refsA [k]):=rfl
  by_cases hu:usesB p f k g=true
  ·have hsel:selQ p f (q :: qs.filter fun r=>!(Nat.beq r q))=k :: selQ p f (qs.filter fun r=>!(Nat.beq r q)):=by
    unfold selQ
    rw [List.filter_cons_of_pos (by rw [hs]; exact hu),List.map_cons,hk]
   have hc1:cntB p f q=1 + (reachD p k).length + 1:=by unfold cntB; rw [hs,hk,if_pos hu]
   obtain ⟨out',h',a1,a2,a3,a4⟩:=hO3.put (by omega) (by omega) k
   have h4:=IH (qs.filter fun r=>!(Nat.beq r q)) (P++[k]) out' h' (.int .i64 (q:Nat)) hnl (nodup_filter hnd) hlt2 a2 (by simp; omega) (by unfold IsIdx; rw [a4 0 (by omega)]; exact hi3) (by rw [a4 1 (by omega)]; exact h13)
   rw [a3,hhl3] at h4
   have hu':(decide (f∈(reachD p k).map (·.1))&&g.pub)=true:=hu
   rw [if_pos hu',hsel,hc1]
   simp only [hB,bnd_some]
   refine (bndR a1).trans ?_
   rw [h4]
   simp only [List.append_assoc,List.cons_append,List.nil_append]
   congr 3
  ·have hsel:selQ p f (q :: qs.filter fun r=>!(Nat.beq r q))=selQ p f (qs.filter fun r=>!(Nat.beq r q)):=by
    unfold selQ
    rw [List.filter_cons_of_neg (by rw [hs]; exact hu)]
   have hc1:cntB p f q=1 + (reachD p k).length:=by unfold cntB; rw [hs,hk,if_neg hu]; rfl
   have h4:=IH (qs.filter fun r=>!(Nat.beq r q)) P out (h2++rowD (reachD p k) :: J) (.int .i64 (q:Nat)) hnl (nodup_filter hnd) hlt2 hO3 (by omega) hi3 h13
   rw [hhl3] at h4
   have hu':¬ (decide (f∈(reachD p k).map (·.1))&&g.pub)=true:=hu
   rw [if_neg hu',hsel,hc1]
   exact h4
theorem t41 {p:List Mod} (S:Sm p) (f:Ref):callW pg 41 [mods p,refA f] = M.pure (refsA (usersL p f)):=by
 rw [C41]
 have h3:∃ h',S41 (callW pg) fixW (mods p) (refA f) [] = .ok (refsA (usersL p f)) h':=by
  simp only [S41]
  rw [bndR (idx0 S)]
  have hr:rangeH T 110 (.mp 0) [[.tup ((idxP p).map (entA Fun.av))]] = .ok (.it 1) [[.tup ((idxP p).map (entA Fun.av))],[.tup [],.mp 0,.int .i64 (idxP p).length,posA (List.range (idxP p).length),.any]]:=by
   simp [rangeH,mt110]
  have:=loop41 S f _ (List.range (idxP p).length) [] .hn [[.tup ((idxP p).map (entA Fun.av))],[.tup [],.mp 0,.int .i64 (idxP p).length,posA (List.range (idxP p).length),.any]] .any rfl List.nodup_range (fun q hq=>List.mem_range.1 hq) .nil (by have:=S.idx; simp; omega) rfl rfl
  exact ⟨_,(bndR hr).trans this⟩
 obtain ⟨h',h3⟩:=h3
 simp only [cl_mods,cl_ref]
 exact isoR h3 (clean_refs _)
end Go.Proofs.YtnipfhmghjdnmaaGreat

namespace Go.Proofs.YtnipfhmghjdnmaaGreat
open Go Go.Av Go.Av.Ap
set_option maxRecDepth 100000
theorem loop32 (l:List Ref) (r:Ref) (hb:l.length≤40000000):∀ (n:Nat) (i:Int),l.length - i.toNat=n→0≤i→i≤l.length→fixW (L32_0 (callW pg) fixW) [refsA l,.ip [.str r.1,.str r.2],.int .i64 i] = M.pure (.bool (decide (r∈l.drop i.toNat))):=by
 intro n
 induction n with
 | zero =>
  intro i hn hi hl
  rw [FL32_0]
  simp only [L32_0]
  have h1:¬ (i < (l.length:Int)):=by omega
  have h2:l.drop i.toNat = []:=List.drop_eq_nil_of_le (by omega)
  have h3:lenA T 42 (refsA l)=some (.int .i64 l.length):=by simp [refsA]
  simp [h1,h2,h3]
 | succ n ih =>
  intro i hn hi hl
  have h1:i < (l.length:Int):=by omega
  have hlt:i.toNat < l.length:=by omega
  have h3:lenA T 42 (refsA l)=some (.int .i64 l.length):=by simp [refsA]
  have h4:=ih (i + 1) (by omega) (by omega) (by omega)
  rw [show (i + 1).toNat=i.toNat + 1 by omega] at h4
  rw [FL32_0]
  simp only [L32_0]
  have h5:(r∈l.drop i.toNat) ↔ (l[i.toNat] = r∨r∈l.drop (i.toNat + 1)):=by
   rw [List.drop_eq_getElem_cons hlt,List.mem_cons]
   exact ⟨fun h=>h.imp Eq.symm id,fun h=>h.imp Eq.symm id⟩
  simp (disch:=omega) [h1,h3,wrap_in,IX42,h4,getElem!_pos l i.toNat hlt,binEq]
  simp only [h5]
  by_cases h6:l[i.toNat] = r
  ·simp [h6]
  ·simp [h6]
theorem t32 (l:List Ref) (r:Ref) (hb:l.length≤40000000):callW pg 32 [refsA l,refA r] = M.pure (.bool (decide (r∈l))):=by
 rw [C32]
 have:=loop32 l r hb l.length 0 rfl (by omega) (by omega)
 simp at this
 simp [S32,this]
theorem loop56 (a b:List Ref) (hab:a.length=b.length) (hb:a.length≤40000000):∀ (n:Nat) (i:Int),a.length - i.toNat=n→0≤i→i≤a.length→fixW (L56_0 (callW pg) fixW) [refsA a,refsA b,.int .i64 i] = M.pure (.bool (decide (a.drop i.toNat=b.drop i.toNat))):=by
 intro n
 have h3:∀ l,lenA T 42 (refsA l)=some (.int .i64 l.length):=fun l=>by simp [refsA]
 induction n with
 | zero =>
  intro i hn hi hl
  rw [FL56_0]
  simp only [L56_0]
  have h1:¬ (i < (a.length:Int)):=by omega
  have h2:a.drop i.toNat = []:=List.drop_eq_nil_of_le (by omega)
  have h4:b.drop i.toNat = []:=List.drop_eq_nil_of_le (by omega)
  simp [h1,h2,h3,h4]
 | succ n ih =>
  intro i hn hi hl
  have h1:i < (a.length:Int):=by omega
  have hlt:i.toNat < a.length:=by omega
  have hlb:i.toNat < b.length:=by omega
  have h4:=ih (i + 1) (by omega) (by omega) (by omega)
  rw [show (i + 1).toNat=i.toNat + 1 by omega] at h4
  rw [FL56_0]
  simp only [L56_0]
  have h5:(a.drop i.toNat=b.drop i.toNat) ↔ (a[i.toNat] = b[i.toNat]∧a.drop (i.toNat + 1)=b.drop (i.toNat + 1)):=by
   rw [List.drop_eq_getElem_cons hlt,List.drop_eq_getElem_cons hlb,List.cons.injEq]
  have h7:i < (b.length:Int):=by omega
  simp (disch:=omega) [h1,h3,wrap_in,IX42,h4,getElem!_pos a i.toNat hlt,getElem!_pos b i.toNat hlb,binNe]
  simp only [h5]
  by_cases h6:a[i.toNat] = b[i.toNat]
  ·simp [h6]
  ·simp [h6]
theorem t56 (a b:List Ref) (hb:a.length≤40000000):callW pg 56 [refsA a,refsA b] = M.pure (.bool (decide (a=b))):=by
 have h3:∀ l,lenA T 42 (refsA l)=some (.int .i64 l.length):=fun l=>by simp [refsA]
 rw [C56]
 by_cases hab:a.length=b.length
 ·have:=loop56 a b hab hb a.length 0 rfl (by omega) (by omega)
  simp at this
  have hc:(a.length:Int)=b.length:=by omega
  simp [S56,h3,hc,this]
 ·have hc:¬ (a.length:Int)=b.length:=by omega
  have hne:¬ a=b:=fun e=>hab (by rw [e])
  simp [S56,h3,hab,hne]
def callZ (m s:Str):Exp:=.mk 15 0 s m [] []
def exP (b:Bool):List Mod :=
 [⟨[109],[],[],[],[⟨[102],b,[],.mk 0 [],0,callZ [] [103]⟩,⟨[103],false,[],.mk 0 [],0,.mk 3 0 [] [] [] [callZ [] [102],.mk 16 2 [] [] [] [zeroE]]⟩],false,[],[],[]⟩,
   ⟨[110],[[109]],[],[],[⟨[104],true,[],.mk 0 [],0,callZ [109] [102]⟩],false,[],[],[]⟩]
theorem t93 (m s:Str):callW pg 93 [.str m,.str s] = M.pure (callZ m s).av:=by
 rw [C93]
 exact isoP_pure (fun g=>cl_exp g (callZ m s))
theorem t55 (b:Bool):callW pg 55 [.bool b] = M.pure (mods (exP b)):=by
 rw [C55]
 have h:S55 (callW pg) fixW (.bool b)=M.pure (mods (exP b)):=by
  simp only [S55,t93,noPan_pure,bnd_pure]
  rfl
 simp only [cl]
 rw [h]
 exact isoP_pure (fun g=>cl_mods g _)
theorem lim_mk {o n:Int} {s m:Str} {ns:List Str} {es:List Exp} (h1:ns.length≤8796093022208) (h2:es.length≤140737488355328) (h3:∀ x∈es,x.Lim):(Exp.mk o n s m ns es).Lim:=fun k=>by
 cases k with
 | zero=>trivial
 | succ k=>exact ⟨h1,h2,fun x hx=>h3 x hx k⟩
theorem lim_zero:zeroE.Lim:=lim_mk (by simp) (by simp) (fun x hx=>by cases hx)
theorem lim_call (m s:Str):(callZ m s).Lim:=lim_mk (by simp) (by simp) (fun x hx=>by cases hx)
theorem body_lim {p:List Mod} (h:∀ m∈p,∀ f∈m.funcs,f.body.Lim) (r:Ref):(bodyR p r).Lim:=by
 unfold bodyR
 cases hf:findR p r with
 | none=>exact lim_zero
 | some g =>
  unfold findR at hf
  split at hf
  ·rename_i m hm
   exact h m (List.mem_of_find?_eq_some hm) g (List.mem_of_find?_eq_some hf)
  ·cases hf
theorem sm_ex (b:Bool):Sm (exP b) where
 len:=by simp [exP]
 funcs:=fun m hm=>by
  simp only [exP,List.mem_cons,List.not_mem_nil,or_false] at hm
  rcases hm with rfl | rfl <;> simp
 idx:=by cases b <;> decide
 body := body_lim (fun m hm f hf=>by
  simp only [exP,List.mem_cons,List.not_mem_nil,or_false] at hm
  rcases hm with rfl | rfl
  ·simp only [List.mem_cons,List.not_mem_nil,or_false] at hf
   rcases hf with rfl | rfl
   ·exact lim_call _ _
   ·refine lim_mk (by simp) (by simp) (fun x hx=>?_)
    simp only [List.mem_cons,List.not_mem_nil,or_false] at hx
    rcases hx with rfl | rfl
    ·exact lim_call _ _
    ·refine lim_mk (by simp) (by simp) (fun x hx=>?_)
     simp only [List.mem_cons,List.not_mem_nil,or_false] at hx
     subst hx
     exact lim_zero
  ·simp only [List.mem_cons,List.not_mem_nil,or_false] at hf
   subst hf
   exact lim_call _ _)
abbrev rM:Ref:=([109],[102])
abbrev rG:Ref:=([109],[103])
abbrev rH:Ref:=([110],[104])
theorem ex1:pathR (exP true) rH rG=some [rH,rM,rG]:=by kernel_rfl
theorem ex2:allL (exP true) rM = [rM,rG]:=by kernel_rfl
theorem ex3:effS (exP true) rM=2#64:=by kernel_rfl
theorem ex4:callL (exP false) rH = []:=by kernel_rfl
theorem ex5:usersL (exP true) rG = [rM,rH]:=by kernel_rfl
theorem ex6:callL (exP true) rH = [rM]:=by kernel_rfl
theorem st {α β:Type} {m:M α} {a:α} {f:α→M β} {r:M β} (e:m=M.pure a) (h:f a=r):bnd m f=r:=by rw [e,bnd_pure]; exact h
theorem lftE {x:Option AV} {a:AV} (e:x=some a):lft x=M.pure a:=by rw [e]; rfl
theorem np {α:Type} {m:M α} {a:α} (e:m=M.pure a):noPan m=M.pure a:=by rw [e]; rfl
theorem gE {m:M (List AV)} {r:M (List AV)} (e:m=r):guardM (.bool true) true 1 m=r:=by rw [← e]; rfl
theorem hBr (x y:Str):buildA T false 37 [(0,.str x),(1,.str y)] = some (refA (x,y)):=rfl
theorem hB1r (x:Ref):buildSliceA T 42 1 [(0,refA x)] = some (refsA [x]):=rfl
theorem hB2r (x y:Ref):buildSliceA T 42 2 [(0,refA x),(1,refA y)] = some (refsA [x,y]):=rfl
theorem hB3r (x y z:Ref):buildSliceA T 42 3 [(0,refA x),(1,refA y),(2,refA z)] = some (refsA [x,y,z]):=rfl
theorem hcmr (r:Ref):cellsM 2 (refA r)=M.pure (refA r):=by rw [cellsM_of (okEl_ref _),acells_ref,fold_ref]
theorem hldr (r:Ref):loadA T 37 (.ip (acells (refA r)))=some (refA r):=rfl
theorem small_S (call:FuncId→List AV→M AV) (P Q:AV) (x1:call 55 [.bool true] = M.pure P) (x2:call 55 [.bool false] = M.pure Q)
  (e1:call 25 [P,refA rH,refA rG] = M.pure (.tup [refsA [rH,rM,rG],.bool true])) (e2:call 30 [P,refA rM] = M.pure (refsA [rM,rG])) (e3:call 31 [P,refA rM] = M.pure (sA 2#64))
  (e4:call 57 [Q,refA rH] = M.pure (refsA [])) (e5:call 41 [P,refA rG] = M.pure (refsA [rM,rH])) (e6:call 57 [P,refA rH] = M.pure (refsA [rM]))
  (s1:∀ l:List Ref,l.length≤9→call 56 [refsA l,refsA l] = M.pure (.bool true)):S26 call fixW=M.pure (.bool true):=by
 have h2:binA T .eql 3 (sA 2#64) (.int .i64 2)=some (.bool true):=rfl
 have s1a:=s1 [rM,rG] (by simp)
 have s2a:=s1 [rH,rM,rG] (by simp)
 have s3a:=s1 [rM,rH] (by simp)
 have s4a:=s1 [rM] (by simp)
 clear s1
 unfold S26
 refine st (lftE (hBr _ _)) ?_
 refine st (hcmr _) ?_
 refine st (lftE (hBr _ _)) ?_
 refine st (hcmr _) ?_
 refine st (lftE (hBr _ _)) ?_
 refine st (hcmr _) ?_
 refine st x1 ?_
 refine st (lftE (hldr _)) ?_
 refine st (lftE (hldr _)) ?_
 refine st e1 ?_
 refine st (lftE rfl) ?_
 refine st (lftE rfl) ?_
 refine st (lftE (hldr _)) ?_
 refine st (np e2) ?_
 refine st (lftE (hldr _)) ?_
 refine st (lftE (hldr _)) ?_
 refine st (lftE (hB2r _ _)) ?_
 refine st (np s1a) ?_
 refine st (gE (st (lftE (hldr _)) (st (np e3) (st (lftE h2) rfl)))) ?_
 refine st (lftE rfl) ?_
 refine st (gE (st (np x2) (st (lftE (hldr _)) (st (np e4) (st (lftE rfl) (st (lftE rfl) rfl)))))) ?_
 refine st (lftE rfl) ?_
 refine st (gE rfl) ?_
 refine st (lftE rfl) ?_
 refine st (gE (st (lftE (hldr _)) (st (lftE (hldr _)) (st (lftE (hldr _)) (st (lftE (hB3r _ _ _)) (st (np s2a) rfl)))))) ?_
 refine st (lftE rfl) ?_
 refine st (gE (st (lftE (hldr _)) (st (np e5) (st (lftE (hldr _)) (st (lftE (hldr _)) (st (lftE (hB2r _ _)) (st (np s3a) rfl))))))) ?_
 refine st (lftE rfl) ?_
 refine st (gE (st (lftE (hldr _)) (st (np e6) (st (lftE (hldr _)) (st (lftE (hB1r _)) (st (np s4a) rfl)))))) ?_
 refine st (lftE rfl) ?_
 rfl
theorem t26:callW pg 26 [] = M.pure (.bool true):=by
 rw [C26]
 have S1:=sm_ex true
 have S2:=sm_ex false
 have e1:=t25 S1 rH rG
 have e2:=t30 S1 rM
 have e3:=t31 S1 rM
 have e4:=t57 S2 rH
 have e5:=t41 S1 rG
 have e6:=t57 S1 rH
 rw [ex1] at e1
 rw [ex2] at e2
 rw [ex3] at e3
 rw [ex4] at e4
 rw [ex5] at e5
 rw [ex6] at e6
 rw [small_S (callW pg) _ _ (t55 true) (t55 false) e1 e2 e3 e4 e5 e6 (fun l hl=>by rw [t56 l l (by omega)]; simp)]
 exact isoP_bool true
end Go.Proofs.YtnipfhmghjdnmaaGreat

namespace Go.Proofs.YtnipfhmghjdnmaaGreat
open Go Go.Av Go.Av.Ap
set_option maxRecDepth 100000
theorem sm_few {p:List Mod} (hM:∀ m∈p,m.Lim) (h1:p.length≤9) (h2:∀ m∈p,m.funcs.length≤9):Sm p where
 len:=by omega
 funcs:=fun m hm=>by have:=h2 m hm; omega
 idx:=by
  have h3:=idx_len p
  have h4:=allR_len p h2
  have:p.length * 9≤9 * 9:=Nat.mul_le_mul_right 9 h1
  omega
 body:=body_lim fun m hm f hf=>((hM m hm).fns f hf).body
theorem all_len {p:List Mod} (S:Sm p) (f:Ref):(allL p f).length≤1000000:=by
 unfold allL
 rw [sortR_len,List.length_map]
 exact reach_len S f
end Go.Proofs.YtnipfhmghjdnmaaGreat

namespace Go.Proofs.YtnipfhmghjdnmaaGreat
open Go Go.Av Go.Av.Ap
set_option maxRecDepth 100000
theorem sA_andNot (T:TT) (t:Nat) (a b:BitVec 64):binA T .andNot t (sA a) (sA b)=some (sA (a &&& ~~~b)):=by
 have:intA .andNot .i64 a.toInt b.toInt=some (sA (a &&& ~~~b)):=by
  show some (AV.int .i64 (IntKind.i64.wrap (BitVec.ofInt 64 a.toInt &&& ~~~BitVec.ofInt 64 b.toInt).toNat))=_
  rw [BitVec.ofInt_toInt,BitVec.ofInt_toInt,wrap_bv]
  rfl
 simpa [binA,sA,isShift] using this
theorem sub_andNot {a b:BitVec 64} (h:SubB a b):a &&& ~~~b=0#64:=by
 unfold SubB at h
 have h2:a &&& ~~~(a ||| b)=0#64:=by
  ext i hi
  simp
  intro h3 h4
  rw [h3] at h4
  cases h4
 rwa [h] at h2
theorem sA_int {n:Int} (h:n=1∨n=2∨n=4∨n=8):AV.int .i64 n=sA (BitVec.ofInt 64 n):=by
 rcases h with rfl | rfl | rfl | rfl <;> rfl
theorem neZ:binA T .neq 3 (sA 0#64) (.int .i64 0)=some (.bool false):=rfl
theorem loopN0 {p:List Mod} (f:Ref) (S:Sm p) (o:Out) (hd:∀ d∈o.deeds,EffIn p f d.effect) (hn:o.err=0→f∈allL p f) (hl:o.deeds.length≤200000):∀ (r:Nat) (j:Int),o.deeds.length - j.toNat=r→0≤j→j≤o.deeds.length →
  fixW (L7_0 (callW pg) fixW) [.ip [.str f.1,.str f.2],.bool true,.ip (acells o.av),refsA (allL p f),sA (effS p f),.int .i64 j] = M.pure (.bool true):=by
 have hA:=all_len S f
 have hld:∀ c:List AV,loadA T 72 (.ip (deeds o.deeds :: c))=some (deeds o.deeds):=fun _=>rfl
 have hlen:lenA T 72 (deeds o.deeds)=some (.int .i64 o.deeds.length):=by simp [deeds]
 intro r
 induction r with
 | zero =>
  intro j hr hj hb
  have h1:¬ (j < (o.deeds.length:Int)):=by omega
  have h5:=t32 (allL p f) f (by omega)
  rw [FL7_0]
  simp only [L7_0]
  by_cases he:o.err=0
  ·rw [decide_eq_true (hn he)] at h5
   have hne:(o.err != 0)=false:=by simp [he]
   simp [h1,hld,hlen,binNe,hne,h5]
  ·have hne:(o.err != 0)=true:=by simp [he]
   simp [h1,hld,hlen,binNe,hne]
 | succ r IH =>
  intro j hr hj hb
  have h1:j < (o.deeds.length:Int):=by omega
  have hlt:j.toNat < o.deeds.length:=by omega
  have h4:=IH (j + 1) (by omega) (by omega) (by omega)
  obtain ⟨g1,g2⟩:=hd _ (List.getElem_mem hlt)
  have h6:binA T .andNot 3 (.int .i64 o.deeds[j.toNat].effect) (sA (effS p f))=some (sA 0#64):=by
   have h0:=sub_andNot g2
   rw [sA_int g1,sA_andNot]
   exact congrArg (fun x=>some (sA x)) h0
  rw [FL7_0]
  simp only [L7_0]
  simp (disch:=omega) [h1,hld,hlen,IX72,getElem!_pos o.deeds j.toNat hlt,h6,neZ,wrap_in]
  simpa using h4
theorem loopN1 {p:List Mod} (f:Ref) (S:Sm p) (o:Out) (hc:∀ c∈o.calls,(c.module,c.func)∈allL p f) (hd:∀ d∈o.deeds,EffIn p f d.effect) (hn:o.err=0→f∈allL p f) (hl:o.deeds.length≤200000) (hl2:o.calls.length≤200000):∀ (r:Nat) (j:Int),o.calls.length - j.toNat=r→0≤j→j≤o.calls.length →
  fixW (L7_1 (callW pg) fixW) [mods p,.ip [.str f.1,.str f.2],.bool true,.ip (acells o.av),refsA (allL p f),sA (effS p f),.int .i64 j] = M.pure (.bool true):=by
 have hA:=all_len S f
 have hld:∀ c:List AV,loadA T 24 (.ip (calls o.calls :: c))=some (calls o.calls):=fun _=>rfl
 have hlen:lenA T 24 (calls o.calls)=some (.int .i64 o.calls.length):=by simp [calls]
 have hin:=loopN0 f S o hd hn hl _ 0 rfl (by omega) (by omega)
 have hfo:∀ x y:Str,AV.agg [.str x,.str y] = refA (x,y):=fun _ _=>rfl
 intro r
 induction r with
 | zero =>
  intro j hr hj hb
  have h1:¬ (j < (o.calls.length:Int)):=by omega
  rw [FL7_1]
  simp only [L7_1]
  simp at hin
  simp [h1,hld,hlen,hin]
 | succ r IH =>
  intro j hr hj hb
  have h1:j < (o.calls.length:Int):=by omega
  have hlt:j.toNat < o.calls.length:=by omega
  have h4:=IH (j + 1) (by omega) (by omega) (by omega)
  have hm:=hc _ (List.getElem_mem hlt)
  have h5:=t32 (allL p f) (o.calls[j.toNat].module,o.calls[j.toNat].func) (by omega)
  rw [decide_eq_true hm] at h5
  have h6:=t25 S f (o.calls[j.toNat].module,o.calls[j.toNat].func)
  have h7:(pathR p f (o.calls[j.toNat].module,o.calls[j.toNat].func)).isSome=true:=by rw [path_some,decide_eq_true hm]
  obtain ⟨c,hcc⟩:=Option.isSome_iff_exists.1 h7
  rw [hcc] at h6
  simp only [pathA] at h6
  have h8:=t31 S (o.calls[j.toNat].module,o.calls[j.toNat].func)
  have h9:binA T .andNot 3 (sA (effS p (o.calls[j.toNat].module,o.calls[j.toNat].func))) (sA (effS p f))=some (sA 0#64):=by
   have h0:=sub_andNot (eff_sub hm)
   rw [sA_andNot]
   exact congrArg (fun x=>some (sA x)) h0
  rw [FL7_1]
  simp only [L7_1]
  simp (disch:=omega) [h1,hld,hlen,IX24,getElem!_pos o.calls j.toNat hlt,hBr,hcmr,hfo,h5,h6,h8,h9,neZ,wrap_in]
  simpa using h4
theorem t7 (p:List Mod) (hp:p.length≤140737488355328) (hM:∀ m∈p,m.Lim) (f:Ref) (args:List Val) (hl:args.length≤140737488355328) (ha:∀ v∈args,v.Lim) (world:List Int) (fuel:Int) :
  callW pg 7 [mods p,refA f,vals args,ints world,.int .i64 fuel] = M.pure (.bool true):=by
 rw [C7]
 obtain ⟨b,hb1,hb2⟩:=t27 p hp hM
 obtain ⟨c,hc1,hc2⟩:=t28 args hl ha
 have hcl2:∀ n:Int,cl noHs (.int .i64 n) = .int .i64 n:=fun _=>rfl
 simp only [cl_mods,cl_ref,cl_vals,cl_ints,hcl2]
 have h:S7 (callW pg) fixW (mods p) (refA f) (vals args) (ints world) (.int .i64 fuel)=M.pure (.bool true):=by
  cases b with
  | false=>simp [S7,t26,hb1]
  | true =>
   cases c with
   | false=>simp [S7,t26,hb1,hc1]
   | true =>
    by_cases hw:(50:Int) < world.length∨2000 < fuel
    ·by_cases hw1:(50:Int) < world.length
     ·simp [S7,t26,hb1,hc1,hw1]
     ·have hw2:2000 < fuel:=by omega
      simp [S7,t26,hb1,hc1,hw1,hw2]
    ·have hw1:¬ (50:Int) < world.length:=by omega
     have hw2:¬ 2000 < fuel:=by omega
     obtain ⟨q1,q2⟩:=hb2 rfl
     obtain ⟨q3,q4⟩:=hc2 rfl
     have S:=sm_few hM (by omega) (fun m hm=>by have:=(q2 m hm).funcs; omega)
     have h1:=t30 S f
     have h2:=t31 S f
     have h3:=t29 (few_limR hM q1 q2) f.1 f.2 args world fuel (by omega)
     obtain ⟨r1,r2,r3⟩:=run_reach p f.1 f.2 args world fuel
     have hB:=run_lim (B:=8) p f.1 f.2 args world fuel (fun m hm=>⟨(q2 m hm).vars,fun g hg=>((q2 m hm).body g hg).2⟩)
     have h4:=loopN1 f S (runX p f.1 f.2 args world fuel) r1 r2 (fun he=>all_self (r3 he)) (by have:=hB.deeds; omega) (by have:=hB.calls; omega) _ 0 rfl (by omega) (by omega)
     generalize runX p f.1 f.2 args world fuel=o at *
     have hcm:cellsM 8 o.av=M.pure o.av:=by
      rw [cellsM_of (rfl:okEl 8 o.av=true),acells_out,fold_out]
     simp at h4
     simp [S7,t26,hb1,hc1,hw1,hw2,h1,h2,h3,hcm,h4]
 rw [h]
 exact isoP_bool true
end Go.Proofs.YtnipfhmghjdnmaaGreat
