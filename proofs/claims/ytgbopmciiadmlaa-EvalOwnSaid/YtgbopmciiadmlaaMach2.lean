/- One step of eval: what it begins with. No condition. -/
import Derived.Test.YtgbopmciiadmlaaMach1
namespace Go.Proofs.Ytgbopmciiadmlaa
open Go Go.Av Go.Av.Ap
def OutG {α : Type} (p : List Mod) (nm : SNm) (enc : α → AV) (r : Rs α) (c : R AV) : Prop := match r with
  | .ok v s => ∃ h', c = .ok (enc v) h' ∧ RepP p nm s h'
  | .er e s => ∃ h', c = .pan (errAv e) h' ∧ RepP p nm s h'
theorem out_bind {α β : Type} {p : List Mod} {nm : SNm} {enc : α → AV} {enc' : β → AV} {x : X α} {f : α → X β} {c : M AV} {d : AV → M AV} {m : Ms} {h : Hp} (H : OutG p nm enc (x m) (c h))
    (K : ∀ a s h', x m = .ok a s → RepP p nm s h' → OutG p nm enc' (f a s) (d (enc a) h')) : OutG p nm enc' (x.bind f m) (bnd c d h) := by
  unfold X.bind
  cases hr : x m with
  | ok a s =>
    rw [hr] at H
    obtain ⟨h', h1, h2⟩ := H
    rw [bnd_ok h1]
    exact K a s h' hr h2
  | er e s =>
    rw [hr] at H
    obtain ⟨h', h1, h2⟩ := H
    exact ⟨h', bnd_pan h1, h2⟩
theorem out_pure {α : Type} {p : List Mod} {nm : SNm} {enc : α → AV} {a : α} {m : Ms} {h : Hp} (R : RepP p nm m h) : OutG p nm enc (X.ok a m) (M.pure (enc a) h) := ⟨h, rfl, R⟩
theorem out_er {α : Type} {p : List Mod} {nm : SNm} {enc : α → AV} {e : Int} {m : Ms} {h : Hp} (R : RepP p nm m h) : OutG p nm enc (X.er e m) (throwM (errAv e) h) := ⟨h, rfl, R⟩
theorem wrap4 (v : Val) : bnd (cellsNil 4 [] v.av) (fun w => M.pure (AV.agg [nth (acells w) 0, nth (acells w) 1, nth (acells w) 2, nth (acells w) 3])) = M.pure v.av := by simp
def tickM (m : Ms) : Ms := { m with fuel := m.fuel - 1 }
theorem rep_tick {p : List Mod} {nm : SNm} {tag : Nat → Nat} {dv cv sv : AV} {m : Ms} {h : Hp} (R : RepT (rowP p nm.told) nm tag dv cv sv m h) : RepT (rowP p nm.told) nm tag dv cv sv (tickM m) (h.set 0 (rowP p nm.told (tickM m) dv cv sv)) := R.set0 rfl rfl rfl id
theorem step0 {p : List Mod} {nm : SNm} {m : Ms} {h : Hp} (R : RepP p nm m h) : ∃ h1, RepP p nm (tickM m) h1 ∧
    (∀ f : AV → M AV, bnd (loadH T 3 (.hp 0 2)) f h = f (.int .i64 m.fuel) h) ∧ (∀ f : AV → M AV, bnd (storeH T 3 (.hp 0 2) (.int .i64 (m.fuel - 1))) f h = f (.tup []) h1) := by
  obtain ⟨tag, dv, cv, sv, R⟩ := R
  refine ⟨_, ⟨tag, dv, cv, sv, rep_tick R⟩, fun f => bnd_ok (loadH_one rfl rfl R.r0 rfl), fun f => bnd_ok (storeH_ok rfl R.r0 rfl (show 2 + 1 ≤ 12 by decide) (by decide))⟩
theorem ev_low {p : List Mod} {nm : SNm} {m : Ms} {h : Hp} (R : RepP p nm m h) (hf : ¬ 0 < m.fuel) (sc : AV) (e : Exp) : callW pg 50 [.hp 0 0, sc, e.av] h = .pan (errAv 16) h := by
  obtain ⟨tag, dv, cv, sv, R⟩ := R
  have h0 : ∀ f : AV → M AV, bnd (loadH T 3 (.hp 0 2)) f h = f (.int .i64 m.fuel) h := fun f => bnd_ok (loadH_one rfl rfl R.r0 rfl)
  rw [C50]
  simp [S50, h0, hf, bnd_must, mustM, throwM]
def CntOK (e : Exp) : Prop := ¬ argsN e.op = -2 ∧ (argsN e.op = -1 ∨ argsN e.op = e.args.length)
theorem ev_cnt {p : List Mod} {nm : SNm} {m : Ms} {h : Hp} (R : RepP p nm m h) (G : GoodM p m) (hf : 0 < m.fuel) (sc : AV) (e : Exp) (hc : ¬ CntOK e) : ∃ h1, RepP p nm (tickM m) h1 ∧ callW pg 50 [.hp 0 0, sc, e.av] h = .pan (errAv 13) h1 := by
  obtain ⟨h1, R1, hl, hs⟩ := step0 R
  refine ⟨h1, R1, ?_⟩
  have hw : IntKind.i64.wrap (m.fuel - 1) = m.fuel - 1 := wrap_in (by omega) (by have := G.bud; simp only [mu] at this; omega)
  unfold CntOK at hc
  rw [C50]
  simp [S50, hl, hs, hf, bnd_must, mustM, hw, t73, hc]
  rfl
mutual
def expLim : Exp → Prop
  | .mk _ _ _ _ ns es => ns.length ≤ 8796093022208 ∧ es.length ≤ 274877906944 ∧ expsLim es
def expsLim : List Exp → Prop
  | [] => True
  | e :: es => expLim e ∧ expsLim es
end
theorem expsLim_mem : {l : List Exp} → expsLim l → ∀ e ∈ l, expLim e
  | [], _, _, h => by cases h
  | x :: l, H, e, h => by
    simp only [expsLim] at H
    rcases List.mem_cons.1 h with rfl | h
    · exact H.1
    · exact expsLim_mem H.2 e h
theorem expLim_arg {e x : Exp} (H : expLim e) (h : x ∈ e.args) : expLim x := by
  obtain ⟨o, n, s, m, ns, es⟩ := e
  simp only [expLim] at H
  exact expsLim_mem H.2.2 x h
theorem expLim_names {e : Exp} (H : expLim e) : e.names.length ≤ 8796093022208 ∧ e.args.length ≤ 274877906944 := by
  obtain ⟨o, n, s, m, ns, es⟩ := e
  simp only [expLim] at H
  exact ⟨H.1, H.2.1⟩
structure LimB (p : List Mod) : Prop where
  lim : LimP p
  body : ∀ m ∈ p, ∀ f ∈ m.funcs, expLim f.body ∧ f.params.length ≤ 274877906944
structure Sc (p : List Mod) (own : Int) (ns : List Str) (vs : List Val) (m : Ms) : Prop where
  own : own < p.length
  right : RightS ns vs
  len : (ns.length : Int) + m.fuel ≤ 549755813888
def EvOK (p : List Mod) (nm : SNm) (n : Nat) : Prop := ∀ own ns vs e m h, RepP p nm m h → GoodM p m → m.fuel ≤ n → Sc p own ns vs m → expLim e → OutG p nm Val.av (evalX p n own ns vs e m) (callW pg 50 [.hp 0 0, scopeAv own ns vs, e.av] h)
def BoolOK (p : List Mod) (nm : SNm) (n : Nat) : Prop := ∀ own ns vs e m h, RepP p nm m h → GoodM p m → m.fuel ≤ n → Sc p own ns vs m → expLim e → OutG p nm AV.bool (boolX (evalX p n own ns vs e) m) (callW pg 77 [.hp 0 0, scopeAv own ns vs, e.av] h)
def RecOK (p : List Mod) (nm : SNm) (n : Nat) : Prop := ∀ own ns vs e m h, RepP p nm m h → GoodM p m → m.fuel ≤ n → Sc p own ns vs m → expLim e → OutG p nm Val.av (recordX (evalX p n own ns vs) e m) (callW pg 78 [.hp 0 0, scopeAv own ns vs, e.av] h)
def CallOK (p : List Mod) (nm : SNm) (n : Nat) : Prop := ∀ own ns vs e m h, RepP p nm m h → GoodM p m → mu m < 1000000 → m.fuel ≤ n → Sc p own ns vs m → expLim e → OutG p nm Val.av (callX p (evalX p n) own ns vs e m) (callW pg 80 [.hp 0 0, scopeAv own ns vs, e.av] h)
def worldX (p : List Mod) (r : Exp → X Val) (own : Int) (e : Exp) : X Val := if e.op = 16 then actX (r e.args[0]!) e else varX p r own e
def WorldOK (p : List Mod) (nm : SNm) (n : Nat) : Prop := ∀ own ns vs e m h, e.op = 16 ∨ e.op = 17 ∨ e.op = 18 → CntOK e → RepP p nm m h → GoodM p m → mu m < 1000000 → m.fuel ≤ n → Sc p own ns vs m → expLim e → OutG p nm Val.av (worldX p (evalX p n own ns vs) own e m) (callW pg 81 [.hp 0 0, scopeAv own ns vs, e.av] h)
theorem Sc.less {p : List Mod} {own : Int} {ns : List Str} {vs : List Val} {m s : Ms} (H : Sc p own ns vs m) (h : s.fuel ≤ m.fuel) : Sc p own ns vs s := ⟨H.own, H.right, by have := H.len; omega⟩
theorem t77 {p : List Mod} {nm : SNm} {n : Nat} (IH : EvOK p nm n) : BoolOK p nm n := by
  intro own ns vs e m h R G hn hs he
  unfold boolX
  have hsc : loadA T 98 (.ip (acells (scopeAv own ns vs))) = some (scopeAv own ns vs) := rfl
  have hex : loadA T 28 (.ip (acells e.av)) = some e.av := by simp
  rw [C77]
  simp only [S77, hsc, hex, bnd_some]
  refine out_bind (IH own ns vs e m h R G hn hs he) fun v s h' hv Rs => ?_
  simp only [cellsM_of (okEl_val v), bnd_pure, acells_agg, acells_val, FA39_0, FA39_1, List.drop_zero, LD3, bnd_some, bin_eql, bnd_must, mustM, List.drop_succ_cons]
  by_cases hk : v.kind = 1
  · simp only [hk, beq_self_eq_true, if_true]
    exact out_pure Rs
  · have : (v.kind == 1) = false := by simpa using hk
    simp only [hk, this, if_false, Bool.false_eq_true]
    exact out_er Rs
theorem look_snoc : ∀ (ns : List Str) (vs : List Val) (n : Str) (v : Val) (s : Str), ns.length = vs.length → lookV (ns ++ [n]) (vs ++ [v]) s = if n = s then some v else lookV ns vs s
  | [], [], n, v, s, _ => by simp [lookV]
  | a :: ns, b :: vs, n, v, s, h => by
    simp only [List.cons_append, lookV, look_snoc ns vs n v s (by simpa using h)]
    by_cases hn : n = s
    · simp [hn]
    · simp [hn]
  | [], _ :: _, _, _, _, h => by simp at h
  | _ :: _, [], _, _, _, h => by simp at h
def lookM (o : Option Val) : M AV := match o with
  | some v => M.pure v.av
  | none => throwM (errAv 12)
theorem loop_var (kk : List AV → M AV) (own : Int) (ns : List Str) (vs : List Val) (e : Exp) (x1 x2 x3 x4 : AV) (hl : ns.length = vs.length) (hb : ns.length ≤ 1099511627776) : ∀ (i : Nat), i ≤ ns.length →
    fixW (L50_0 (callW pg) fixW kk) [.hp 0 0, .ip [.int .i64 own, strs ns, vals vs], .ip (acells e.av), .int .i64 ((i : Int) - 1), x1, x2, x3, x4] = lookM (lookV (ns.take i) (vs.take i) e.s)
  | 0, _ => by
    have hi : mkIfaceA T 33 (.int .i64 12) = some (errAv 12) := rfl
    rw [FL50_0]
    simp only [L50_0, nth_zero, nth_succ, bin_geq, bnd_some, condM_bool, hi]
    simp [lookV, lookM, panM]
    rfl
  | i + 1, hi => by
    have ih := loop_var kk own ns vs e x1 x2 x3 x4 hl hb i (by omega)
    have h1 : i < ns.length := by omega
    have h2 : i < vs.length := by omega
    have h3 : (ns.take (i + 1)) = ns.take i ++ [ns[i]] := by simp
    have h4 : (vs.take (i + 1)) = vs.take i ++ [vs[i]] := by simp
    rw [h3, h4, look_snoc _ _ _ _ _ (by simp; omega), FL50_0]
    have e1 : ((i + 1 : Nat) : Int) - 1 = (i : Int) := by omega
    rw [e1]
    simp only [L50_0]
    simp (disch := omega) [wrap_in, IX25, IX23, h1, h2]
    simp only [acells_exp] at ih
    by_cases hs : ns[i] = e.s
    · simp [hs, lookM]
    · simp [hs, ih]
end Go.Proofs.Ytgbopmciiadmlaa
