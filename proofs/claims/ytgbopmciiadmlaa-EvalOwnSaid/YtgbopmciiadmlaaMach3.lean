/- One step of eval. Conditions: what record, call and world1 give. -/
import Derived.Test.YtgbopmciiadmlaaMach2
namespace Go.Proofs.Ytgbopmciiadmlaa
open Go Go.Av Go.Av.Ap
@[simp] theorem ixe0 (a : Exp) (l : List Exp) : indexAddrA T 26 (exps (a :: l)) (.int .i64 0) = some (.ip (acells a.av)) := by
  have := IX26 (l := a :: l) (n := 0) (by omega) (by simp <;> omega)
  simpa using this
@[simp] theorem ixe1 (a b : Exp) (l : List Exp) : indexAddrA T 26 (exps (a :: b :: l)) (.int .i64 1) = some (.ip (acells b.av)) := by
  have := IX26 (l := a :: b :: l) (n := 1) (by omega) (by simp <;> omega)
  simpa using this
@[simp] theorem ixe2 (a b c : Exp) (l : List Exp) : indexAddrA T 26 (exps (a :: b :: c :: l)) (.int .i64 2) = some (.ip (acells c.av)) := by
  have := IX26 (l := a :: b :: c :: l) (n := 2) (by omega) (by simp <;> omega)
  simpa using this
section
variable (o n : Int) (s m : Str) (ns : List Str) (es : List Exp)
@[simp] theorem op_mk : (Exp.mk o n s m ns es).op = o := rfl
@[simp] theorem n_mk : (Exp.mk o n s m ns es).n = n := rfl
@[simp] theorem s_mk : (Exp.mk o n s m ns es).s = s := rfl
@[simp] theorem m_mk : (Exp.mk o n s m ns es).m = m := rfl
@[simp] theorem names_mk : (Exp.mk o n s m ns es).names = ns := rfl
@[simp] theorem args_mk : (Exp.mk o n s m ns es).args = es := rfl
end
theorem fold_exp' (o n : Int) (s m : Str) (ns : List Str) (es : List Exp) : AV.agg [.int .i64 o, .int .i64 n, .str s, .str m, strs ns, exps es] = (Exp.mk o n s m ns es).av := by rw [Exp.av, Exp.cells_eq]; rfl
theorem fieldV_idx : ∀ (ns : List Str) (vs : List Val) (s : Str) (i : Int), ns.length = vs.length → (idxAt (fun x => s == x) ns i = -1 ∧ fieldV ns vs s = none) ∨ (∃ (k : Nat) (h : k < vs.length), idxAt (fun x => s == x) ns i = i + k ∧ fieldV ns vs s = some vs[k])
  | [], [], s, i, _ => .inl ⟨rfl, rfl⟩
  | n :: ns, v :: vs, s, i, h => by
    simp only [idxAt, fieldV]
    by_cases hn : n = s
    · right
      exact ⟨0, by simp, by simp [hn], by simp [hn]⟩
    · have hn' : (s == n) = false := by simpa using fun e => hn e.symm
      simp only [if_neg hn, hn', Bool.false_eq_true, if_false]
      rcases fieldV_idx ns vs s (i + 1) (by simpa using h) with ⟨h1, h2⟩ | ⟨k, hk, h1, h2⟩
      · left
        exact ⟨by simpa using h1, h2⟩
      · right
        exact ⟨k + 1, by simp; omega, by simp [h1]; omega, by simpa using h2⟩
  | [], _ :: _, _, _, h => by simp at h
  | _ :: _, [], _, _, h => by simp at h
theorem pureX_out {p : List Mod} {nm : SNm} {x : X Val} (hx : (∃ v, x = .ok v) ∨ (∃ e, x = .er e)) {m : Ms} {h : Hp} (R : RepP p nm m h) : OutG p nm Val.av (x m) (pureX x h) := by
  rcases hx with ⟨v, rfl⟩ | ⟨e, rfl⟩
  · exact out_pure R
  · exact out_er R
theorem binX_pure (op : Int) (a b : Val) : (∃ v, binX op a b = .ok v) ∨ (∃ e, binX op a b = .er e) := by
  unfold binX
  split
  · split
    · exact .inl ⟨_, rfl⟩
    · exact .inr ⟨_, rfl⟩
  · split
    · split
      · exact .inl ⟨_, rfl⟩
      · split
        · exact .inl ⟨_, rfl⟩
        · split
          · exact .inl ⟨_, rfl⟩
          · exact .inl ⟨_, rfl⟩
    · exact .inr ⟨_, rfl⟩
theorem len1 {l : List Exp} (h : l.length = 1) : ∃ a, l = [a] := by
  match l, h with
  | [a], _ => exact ⟨a, rfl⟩
theorem len2 {l : List Exp} (h : l.length = 2) : ∃ a b, l = [a, b] := by
  match l, h with
  | [a, b], _ => exact ⟨a, b, rfl⟩
theorem len3 {l : List Exp} (h : l.length = 3) : ∃ a b c, l = [a, b, c] := by
  match l, h with
  | [a, b, c], _ => exact ⟨a, b, c, rfl⟩
theorem out_ite {α : Type} {p : List Mod} {nm : SNm} {enc : α → AV} {c : Prop} [Decidable c] {x y : X α} {a b : M AV} {m : Ms} {h : Hp} (h1 : c → OutG p nm enc (x m) (a h)) (h2 : ¬ c → OutG p nm enc (y m) (b h)) : OutG p nm enc ((if c then x else y) m) ((if c then a else b) h) := by
  split
  · exact h1 ‹_›
  · exact h2 ‹_›
theorem eq_bool (a b : Bool) : binA T .eql 4 (.bool a) (.bool b) = some (.bool (a == b)) := by cases a <;> cases b <;> rfl
theorem wrap4' (v : Val) (h : Hp) : bnd (cellsNil 4 [] v.av) (fun w => M.pure (AV.agg [nth (acells w) 0, nth (acells w) 1, nth (acells w) 2, nth (acells w) 3])) h = M.pure v.av h := by rw [wrap4]
theorem out_wrap {p : List Mod} {nm : SNm} {r : Rs Val} {c : M AV} {h : Hp} (H : OutG p nm Val.av r (c h)) : OutG p nm Val.av r (bnd c (fun v => bnd (cellsNil 4 [] v) fun w => M.pure (AV.agg [nth (acells w) 0, nth (acells w) 1, nth (acells w) 2, nth (acells w) 3])) h) := by
  cases r with
  | ok v s =>
    obtain ⟨h', h1, h2⟩ := H
    refine ⟨h', ?_, h2⟩
    rw [bnd_ok h1, wrap4]
    rfl
  | er e s =>
    obtain ⟨h', h1, h2⟩ := H
    exact ⟨h', bnd_pan h1, h2⟩
theorem eval_step {p : List Mod} {nm : SNm} {n : Nat} (IH : EvOK p nm n) (IR : RecOK p nm n) (IC : CallOK p nm n) (IW : WorldOK p nm n) : EvOK p nm (n + 1) := by
  intro own ns vs e m h R G hn hs he
  have IB := t77 IH
  by_cases hf : 0 < m.fuel
  rotate_left
  · have e1 : evalX p (n + 1) own ns vs e m = .er 16 m := by
      show stepX p (evalX p n) own ns vs e m = _
      unfold stepX X.get
      simp only
      rw [if_pos (by omega)]
      rfl
    rw [e1]
    exact ⟨h, ev_low R hf _ e, R⟩
  have hspec : evalX p (n + 1) own ns vs e m = (if argsN e.op = -2 ∨ (argsN e.op ≠ -1 ∧ argsN e.op ≠ e.args.length) then .er 13
      else if e.op = 0 then .ok (numV e.n)
      else if e.op = 1 then (if e.n = 0 ∨ e.n = 1 then .ok (truthV (e.n == 1)) else .er 13)
      else if e.op = 2 then (match lookV ns vs e.s with | some v => .ok v | none => .er 12)
      else if e.op = 3 ∨ e.op = 4 ∨ e.op = 5 ∨ e.op = 6 ∨ e.op = 7 then (evalX p n own ns vs e.args[0]!).bind fun a => (evalX p n own ns vs e.args[1]!).bind fun b => binX e.op a b
      else if e.op = 8 ∨ e.op = 9 then (boolX (evalX p n own ns vs e.args[0]!)).bind fun x => if x = (e.op == 9) then .ok (truthV (e.op == 9)) else (boolX (evalX p n own ns vs e.args[1]!)).bind fun y => .ok (truthV y)
      else if e.op = 10 then (boolX (evalX p n own ns vs e.args[0]!)).bind fun x => .ok (truthV !x)
      else if e.op = 11 then (boolX (evalX p n own ns vs e.args[0]!)).bind fun x => if x = true then evalX p n own ns vs e.args[1]! else evalX p n own ns vs e.args[2]!
      else if e.op = 12 then (evalX p n own ns vs e.args[0]!).bind fun v => evalX p n own (ns ++ [e.s]) (vs ++ [v]) e.args[1]!
      else if e.op = 13 then recordX (evalX p n own ns vs) e
      else if e.op = 14 then (evalX p n own ns vs e.args[0]!).bind fun v => (match fieldV v.names v.values e.s with | some x => if v.kind = 2 then .ok x else .er 13 | none => .er 13)
      else if e.op = 15 then callX p (evalX p n) own ns vs e
      else worldX p (evalX p n own ns vs) own e : X Val) (tickM m) := by
    show stepX p (evalX p n) own ns vs e m = _
    unfold stepX X.get
    simp only
    rw [if_neg (by omega)]
    have hw : (if e.op = 16 then actX (evalX p n own ns vs e.args[0]!) e else varX p (evalX p n own ns vs) own e) = worldX p (evalX p n own ns vs) own e := rfl
    rw [hw]
    rfl
  have hbm := G.bud
  have G1 : GoodM p (tickM m) := ⟨G.right, by simp only [mu, tickM] at hbm ⊢; omega, G.fr, by simp only [tickM]; omega, G.shape⟩
  have hmu : mu (tickM m) < 1000000 := by simp only [mu, tickM] at hbm ⊢; omega
  have hn1 : (tickM m).fuel ≤ n := by simp only [tickM]; omega
  have hft : (tickM m).fuel ≤ m.fuel := by simp only [tickM]; omega
  have hs1 : Sc p own ns vs (tickM m) := hs.less hft
  by_cases hc : CntOK e
  rotate_left
  · obtain ⟨h1, R1, e1⟩ := ev_cnt R G hf (scopeAv own ns vs) e hc
    have hc' : argsN e.op = -2 ∨ (argsN e.op ≠ -1 ∧ argsN e.op ≠ e.args.length) := by
      unfold CntOK at hc
      by_cases k : argsN e.op = -2
      · exact .inl k
      · right
        exact ⟨fun k2 => hc ⟨k, .inl k2⟩, fun k2 => hc ⟨k, .inr k2⟩⟩
    rw [hspec, if_pos hc']
    exact ⟨h1, e1, R1⟩
  obtain ⟨h1, R1, hl, hst⟩ := step0 R
  have hw : IntKind.i64.wrap (m.fuel - 1) = m.fuel - 1 := wrap_in (by omega) (by simp only [mu] at hbm; omega)
  have hc' : ¬ (argsN e.op = -2 ∨ (argsN e.op ≠ -1 ∧ argsN e.op ≠ e.args.length)) := by
    unfold CntOK at hc
    rintro (k | ⟨k1, k2⟩)
    · exact hc.1 k
    · rcases hc.2 with k | k
      · exact k1 k
      · exact k2 k
  rw [hspec, if_neg hc']
  have hcc := hc
  have hce := hc.2
  obtain ⟨op, en, es, em, en2, ea⟩ := e
  simp only [op_mk, n_mk, s_mk, args_mk] at hce ⊢
  unfold CntOK at hc
  simp only [op_mk, args_mk] at hc
  generalize hcode : callW pg 50 [.hp 0 0, scopeAv own ns vs, (Exp.mk op en es em en2 ea).av] h = code
  rw [C50] at hcode
  have hW : ∀ v : Val, ∀ h, bnd (cellsNil 4 [] v.av) (fun w => M.pure (AV.agg [nth (acells w) 0, nth (acells w) 1, nth (acells w) 2, nth (acells w) 3])) h = M.pure v.av h := wrap4'
  by_cases k0 : op = 0
  · subst k0
    have hlen : ea.length = 0 := by simp [argsN] at hce; omega
    obtain rfl := List.eq_nil_of_length_eq_zero hlen
    simp [S50, hl, hst, hf, bnd_must, mustM, hw, t73, argsN, K50_2, K50_1, K50_0, fold_scope, t74] at hcode
    simp
    rw [← hcode]
    exact out_pure (a := numV en) R1
  by_cases k1 : op = 1
  · subst k1
    have hlen : ea.length = 0 := by simp [argsN] at hce; omega
    obtain rfl := List.eq_nil_of_length_eq_zero hlen
    simp [S50, hl, hst, hf, bnd_must, mustM, hw, t73, argsN, K50_2, K50_1, K50_0, fold_scope, t75] at hcode
    simp
    rw [← hcode]
    exact out_ite (fun _ => out_pure (a := truthV (en == 1)) R1) (fun _ => out_er R1)
  by_cases k2 : op = 2
  · subst k2
    have hlen : ea.length = 0 := by simp [argsN] at hce; omega
    obtain rfl := List.eq_nil_of_length_eq_zero hlen
    have hnl := hs.right.1
    have hns : (ns.length : Int) ≤ 549755813888 := by have := hs.len; omega
    have hloop := loop_var (K50_0 (callW pg) fixW) own ns vs (.mk 2 en es em en2 []) (.int .i64 0) (.int .i64 0) (.sl []) (.sl []) hnl (by omega) ns.length (Nat.le_refl _)
    have hwl : IntKind.i64.wrap ((ns.length : Int) - 1) = (ns.length : Int) - 1 := wrap_in (by omega) (by omega)
    rw [List.take_length, hnl, List.take_length] at hloop
    simp only [acells_exp, op_mk, n_mk, s_mk, m_mk, names_mk, args_mk] at hloop
    simp [S50, hl, hst, hf, bnd_must, mustM, hw, t73, argsN, hwl] at hcode
    rw [hnl, hloop] at hcode
    simp
    rw [← hcode]
    cases lookV ns vs es with
    | none => exact out_er R1
    | some v => exact out_pure R1
  by_cases k3 : op = 3
  · subst k3
    have hlen : ea.length = 2 := by simp [argsN] at hce; omega
    obtain ⟨a, b, rfl⟩ := len2 hlen
    have ha : expLim a := expLim_arg he (by simp)
    have hb : expLim b := expLim_arg he (by simp)
    simp [S50, hl, hst, hf, bnd_must, mustM, hw, t73, argsN, K50_2, K50_1, K50_0, fold_scope] at hcode
    simp
    rw [← hcode]
    refine out_bind (IH own ns vs a _ _ R1 G1 hn1 hs1 ha) fun x s1 h2 hx R2 => ?_
    obtain ⟨G2, _, f2⟩ := G1.eval hs1.right hx
    refine out_bind (IH own ns vs b _ _ R2 G2 (by omega) (hs1.less f2) hb) fun y s2 h3 hy R3 => ?_
    rw [t76 3 x y (by simp)]
    exact out_wrap (c := pureX (binX 3 x y)) (pureX_out (binX_pure _ _ _) R3)
  by_cases k4 : op = 4
  · subst k4
    have hlen : ea.length = 2 := by simp [argsN] at hce; omega
    obtain ⟨a, b, rfl⟩ := len2 hlen
    have ha : expLim a := expLim_arg he (by simp)
    have hb : expLim b := expLim_arg he (by simp)
    simp [S50, hl, hst, hf, bnd_must, mustM, hw, t73, argsN, K50_2, K50_1, K50_0, fold_scope] at hcode
    simp
    rw [← hcode]
    refine out_bind (IH own ns vs a _ _ R1 G1 hn1 hs1 ha) fun x s1 h2 hx R2 => ?_
    obtain ⟨G2, _, f2⟩ := G1.eval hs1.right hx
    refine out_bind (IH own ns vs b _ _ R2 G2 (by omega) (hs1.less f2) hb) fun y s2 h3 hy R3 => ?_
    rw [t76 4 x y (by simp)]
    exact out_wrap (c := pureX (binX 4 x y)) (pureX_out (binX_pure _ _ _) R3)
  by_cases k5 : op = 5
  · subst k5
    have hlen : ea.length = 2 := by simp [argsN] at hce; omega
    obtain ⟨a, b, rfl⟩ := len2 hlen
    have ha : expLim a := expLim_arg he (by simp)
    have hb : expLim b := expLim_arg he (by simp)
    simp [S50, hl, hst, hf, bnd_must, mustM, hw, t73, argsN, K50_2, K50_1, K50_0, fold_scope] at hcode
    simp
    rw [← hcode]
    refine out_bind (IH own ns vs a _ _ R1 G1 hn1 hs1 ha) fun x s1 h2 hx R2 => ?_
    obtain ⟨G2, _, f2⟩ := G1.eval hs1.right hx
    refine out_bind (IH own ns vs b _ _ R2 G2 (by omega) (hs1.less f2) hb) fun y s2 h3 hy R3 => ?_
    rw [t76 5 x y (by simp)]
    exact out_wrap (c := pureX (binX 5 x y)) (pureX_out (binX_pure _ _ _) R3)
  by_cases k6 : op = 6
  · subst k6
    have hlen : ea.length = 2 := by simp [argsN] at hce; omega
    obtain ⟨a, b, rfl⟩ := len2 hlen
    have ha : expLim a := expLim_arg he (by simp)
    have hb : expLim b := expLim_arg he (by simp)
    simp [S50, hl, hst, hf, bnd_must, mustM, hw, t73, argsN, K50_2, K50_1, K50_0, fold_scope] at hcode
    simp
    rw [← hcode]
    refine out_bind (IH own ns vs a _ _ R1 G1 hn1 hs1 ha) fun x s1 h2 hx R2 => ?_
    obtain ⟨G2, _, f2⟩ := G1.eval hs1.right hx
    refine out_bind (IH own ns vs b _ _ R2 G2 (by omega) (hs1.less f2) hb) fun y s2 h3 hy R3 => ?_
    rw [t76 6 x y (by simp)]
    exact out_wrap (c := pureX (binX 6 x y)) (pureX_out (binX_pure _ _ _) R3)
  by_cases k7 : op = 7
  · subst k7
    have hlen : ea.length = 2 := by simp [argsN] at hce; omega
    obtain ⟨a, b, rfl⟩ := len2 hlen
    have ha : expLim a := expLim_arg he (by simp)
    have hb : expLim b := expLim_arg he (by simp)
    simp [S50, hl, hst, hf, bnd_must, mustM, hw, t73, argsN, K50_2, K50_1, K50_0, fold_scope] at hcode
    simp
    rw [← hcode]
    refine out_bind (IH own ns vs a _ _ R1 G1 hn1 hs1 ha) fun x s1 h2 hx R2 => ?_
    obtain ⟨G2, _, f2⟩ := G1.eval hs1.right hx
    refine out_bind (IH own ns vs b _ _ R2 G2 (by omega) (hs1.less f2) hb) fun y s2 h3 hy R3 => ?_
    rw [t76 7 x y (by simp)]
    exact out_wrap (c := pureX (binX 7 x y)) (pureX_out (binX_pure _ _ _) R3)
  by_cases k8 : op = 8
  · subst k8
    have hlen : ea.length = 2 := by simp [argsN] at hce; omega
    obtain ⟨a, b, rfl⟩ := len2 hlen
    have ha : expLim a := expLim_arg he (by simp)
    have hb : expLim b := expLim_arg he (by simp)
    simp [S50, hl, hst, hf, bnd_must, mustM, hw, t73, argsN, K50_2, K50_1, K50_0, fold_scope] at hcode
    simp
    rw [← hcode]
    refine out_bind (IB own ns vs a _ _ R1 G1 hn1 hs1 ha) fun x s1 h2 hx R2 => ?_
    obtain ⟨G2, f2⟩ := G1.bool hs1.right hx
    rw [eq_bool]
    simp only [bnd_some, condM_bool]
    cases x
    · simp [t75]
      exact out_pure R2
    · simp [t75]
      refine out_bind (IB own ns vs b _ _ R2 G2 (by omega) (hs1.less f2) hb) fun y s2 h3 hy R3 => ?_
      simp only [t75, noPan_pure, bnd_pure, hW]
      exact out_pure R3
  by_cases k9 : op = 9
  · subst k9
    have hlen : ea.length = 2 := by simp [argsN] at hce; omega
    obtain ⟨a, b, rfl⟩ := len2 hlen
    have ha : expLim a := expLim_arg he (by simp)
    have hb : expLim b := expLim_arg he (by simp)
    simp [S50, hl, hst, hf, bnd_must, mustM, hw, t73, argsN, K50_2, K50_1, K50_0, fold_scope] at hcode
    simp
    rw [← hcode]
    refine out_bind (IB own ns vs a _ _ R1 G1 hn1 hs1 ha) fun x s1 h2 hx R2 => ?_
    obtain ⟨G2, f2⟩ := G1.bool hs1.right hx
    rw [eq_bool]
    simp only [bnd_some, condM_bool]
    cases x
    · simp [t75]
      refine out_bind (IB own ns vs b _ _ R2 G2 (by omega) (hs1.less f2) hb) fun y s2 h3 hy R3 => ?_
      simp only [t75, noPan_pure, bnd_pure, hW]
      exact out_pure R3
    · simp [t75]
      exact out_pure R2
  by_cases k10 : op = 10
  · subst k10
    have hlen : ea.length = 1 := by simp [argsN] at hce; omega
    obtain ⟨a, rfl⟩ := len1 hlen
    have ha : expLim a := expLim_arg he (by simp)
    simp [S50, hl, hst, hf, bnd_must, mustM, hw, t73, argsN, K50_2, K50_1, K50_0, fold_scope] at hcode
    simp
    rw [← hcode]
    refine out_bind (IB own ns vs a _ _ R1 G1 hn1 hs1 ha) fun x s1 h2 hx R2 => ?_
    simp only [unA_not, bnd_some, t75, noPan_pure, bnd_pure, hW]
    exact out_pure R2
  by_cases k11 : op = 11
  · subst k11
    have hlen : ea.length = 3 := by simp [argsN] at hce; omega
    obtain ⟨a, b, c, rfl⟩ := len3 hlen
    have ha : expLim a := expLim_arg he (by simp)
    have hb : expLim b := expLim_arg he (by simp)
    have hc3 : expLim c := expLim_arg he (by simp)
    simp [S50, hl, hst, hf, bnd_must, mustM, hw, t73, argsN, K50_2, K50_1, K50_0, fold_scope] at hcode
    simp
    rw [← hcode]
    refine out_bind (IB own ns vs a _ _ R1 G1 hn1 hs1 ha) fun x s1 h2 hx R2 => ?_
    obtain ⟨G2, f2⟩ := G1.bool hs1.right hx
    simp only [condM_bool]
    exact out_ite (fun _ => out_wrap (IH own ns vs b _ _ R2 G2 (by omega) (hs1.less f2) hb)) (fun _ => out_wrap (IH own ns vs c _ _ R2 G2 (by omega) (hs1.less f2) hc3))
  by_cases k12 : op = 12
  · subst k12
    have hlen : ea.length = 2 := by simp [argsN] at hce; omega
    obtain ⟨a, b, rfl⟩ := len2 hlen
    have ha : expLim a := expLim_arg he (by simp)
    have hb : expLim b := expLim_arg he (by simp)
    simp [S50, hl, hst, hf, bnd_must, mustM, hw, t73, argsN, K50_2, K50_1, K50_0, fold_scope] at hcode
    simp
    rw [← hcode]
    refine out_bind (IH own ns vs a _ _ R1 G1 hn1 hs1 ha) fun x s1 h2 hx R2 => ?_
    obtain ⟨G2, rx, f2⟩ := G1.eval hs1.right hx
    have hsl := hs1.len
    have hrl := hs1.right.1
    have hfu := G1.fuel
    rw [t70 own ns vs es x (by omega) (by omega)]
    simp only [noPan_pure, bnd_pure]
    refine out_wrap (IH own (ns ++ [es]) (vs ++ [x]) b _ _ R2 G2 (by omega) ⟨hs1.own, ⟨by simp [hrl], fun w hw => ?_⟩, ?_⟩ hb)
    · rcases List.mem_append.1 hw with k | k
      · exact hs1.right.2 w k
      · simp only [List.mem_singleton] at k; subst k; exact rx
    · have : (tickM m).fuel = m.fuel - 1 := rfl
      have := hs.len
      simp only [List.length_append, List.length_singleton]
      omega
  by_cases k13 : op = 13
  · subst k13
    simp [S50, hl, hst, hf, bnd_must, mustM, hw, t73, argsN, K50_2, K50_1, K50_0, fold_scope, fold_exp'] at hcode
    simp
    rw [← hcode]
    exact out_wrap (IR own ns vs _ _ _ R1 G1 hn1 hs1 he)
  by_cases k14 : op = 14
  · subst k14
    have hlen : ea.length = 1 := by simp [argsN] at hce; omega
    obtain ⟨a, rfl⟩ := len1 hlen
    have ha : expLim a := expLim_arg he (by simp)
    simp [S50, hl, hst, hf, bnd_must, mustM, hw, t73, argsN, K50_2, K50_1, K50_0, fold_scope] at hcode
    simp
    rw [← hcode]
    refine out_bind (IH own ns vs a _ _ R1 G1 hn1 hs1 ha) fun x s1 h2 hx R2 => ?_
    obtain ⟨G2, rx, f2⟩ := G1.eval hs1.right hx
    have hrl := right_lens rx
    have h8 := right_len8 rx
    have hi := t79 x.names es (by omega)
    rw [cellsM_of (okEl_val x)]
    simp only [bnd_pure, acells_agg, acells_val, List.drop_succ_cons, List.drop_zero, LD25, LD23, LD3, bnd_some, hi, bin_eql, bin_geq, guardM_pure1, nth_zero, pickA_and, bnd_must, mustM]
    rcases fieldV_idx x.names x.values es 0 hrl with ⟨j1, j2⟩ | ⟨k, hk, j1, j2⟩
    · rw [j1, j2]
      simp only [show decide ((0 : Int) ≤ -1) = false by decide, Bool.and_false, Bool.false_eq_true, if_false]
      exact out_er R2
    · rw [j1, j2]
      have hk0 : decide ((0 : Int) ≤ 0 + (k : Int)) = true := by simp
      rw [hk0]
      simp only [Bool.and_true]
      by_cases hk2 : x.kind = 2
      · have hix := IX23 (l := x.values) (n := 0 + (k : Int)) (by omega) (by omega)
        have e5 : (0 + (k : Int)).toNat = k := by omega
        rw [e5, getElem!_pos x.values k hk] at hix
        have hld : loadA T 39 (.ip (acells (x.values[k]).av)) = some (x.values[k]).av := by simp
        simp only [hk2, beq_self_eq_true, if_true, hix, bnd_some, hld, hW]
        exact out_pure R2
      · have hk2' : (x.kind == 2) = false := by simpa using hk2
        simp only [hk2, hk2', Bool.false_eq_true, if_false]
        exact out_er R2
  by_cases k15 : op = 15
  · subst k15
    simp [S50, hl, hst, hf, bnd_must, mustM, hw, t73, argsN, K50_2, K50_1, K50_0, fold_scope, fold_exp'] at hcode
    simp
    rw [← hcode]
    exact out_wrap (IC own ns vs _ _ _ R1 G1 hmu hn1 hs1 he)
  by_cases k16 : op = 16
  · subst k16
    simp [S50, hl, hst, hf, bnd_must, mustM, hw, t73, argsN, K50_2, K50_1, K50_0, fold_scope, fold_exp'] at hcode
    have hce' : argsN 16 = ea.length := by simp only [argsN] at hce ⊢; simpa using hce
    simp only [argsN] at hce'
    simp at hce'
    simp [← hce'] at hcode
    simp
    rw [← hcode]
    exact out_wrap (IW own ns vs (.mk 16 en es em en2 ea) _ _ (by simp) hcc R1 G1 hmu hn1 hs1 he)
  by_cases k17 : op = 17
  · subst k17
    simp [S50, hl, hst, hf, bnd_must, mustM, hw, t73, argsN, K50_2, K50_1, K50_0, fold_scope, fold_exp'] at hcode
    have hce' : argsN 17 = ea.length := by simp only [argsN] at hce ⊢; simpa using hce
    simp only [argsN] at hce'
    simp at hce'
    simp [← hce'] at hcode
    simp
    rw [← hcode]
    exact out_wrap (IW own ns vs (.mk 17 en es em en2 ea) _ _ (by simp) hcc R1 G1 hmu hn1 hs1 he)
  by_cases k18 : op = 18
  · subst k18
    simp [S50, hl, hst, hf, bnd_must, mustM, hw, t73, argsN, K50_2, K50_1, K50_0, fold_scope, fold_exp'] at hcode
    have hce' : argsN 18 = ea.length := by simp only [argsN] at hce ⊢; simpa using hce
    simp only [argsN] at hce'
    simp at hce'
    simp [← hce'] at hcode
    simp
    rw [← hcode]
    exact out_wrap (IW own ns vs (.mk 18 en es em en2 ea) _ _ (by simp) hcc R1 G1 hmu hn1 hs1 he)
  exfalso
  apply hc.1
  simp [argsN, k0, k1, k2, k3, k4, k5, k6, k7, k8, k9, k10, k11, k12, k13, k14, k15, k16, k17, k18]
end Go.Proofs.Ytgbopmciiadmlaa
