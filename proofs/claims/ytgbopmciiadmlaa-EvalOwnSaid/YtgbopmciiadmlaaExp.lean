/- What Exp computes. Conditions: bounds. -/
import Derived.Test.YtgbopmciiadmlaaMach9
import Derived.Test.YtgbopmciiadmlaaLd
namespace Go.Proofs.Ytgbopmciiadmlaa
open Go Go.Av Go.Av.Ap
theorem isoP_ok {m : M AV} {r : AV} {h' : Hp} (h1 : m [] = .ok r h') (h2 : ∀ g, cl g r = r) : isoP m = M.pure r := by
  funext h
  unfold isoP
  rw [h1]
  simp only [M.pure]
  have : frz 6 h' r = r := h2 _
  rw [this]
theorem vals_any (l : List Val) : (l.any fun v => !fitsP 4 v) = !(l.all (fitsP 4)) := by
  induction l with
  | nil => rfl
  | cons v l ih => simp only [List.any_cons, List.all_cons, ih]; cases fitsP 4 v <;> simp
theorem tRightNot (k : Nat) (v : Val) (hv : v.sz ≤ 4611686018427387904) (h : ∀ v : Val, callW pg k [v.av] = bnd (callW pg 21 [v.av]) fun b => bnd (lft (unA .not b)) M.pure) : callW pg k [v.av] = M.pure (.bool !fitsP 4 v) := by
  rw [h, t21 v hv]
  rfl
theorem okv (v : Val) : loadA T 39 (.ip (acells v.av)) = some v.av := by simp
theorem t48 (v : Val) (hv : v.sz ≤ 4611686018427387904) : callW pg 48 [v.av] = M.pure (.bool !fitsP 4 v) := by
  rw [C48]
  simp only [S48, cl_val, okv, bnd_some, t21 v hv, bnd_pure, unA_not]
  exact isoP_pure fun g => rfl
theorem t38 (v : Val) (hv : v.sz ≤ 4611686018427387904) : callW pg 38 [v.av] = M.pure (.bool !fitsP 4 v) := by
  rw [C38]
  simp only [S38, cl_val, okv, bnd_some, t21 v hv, bnd_pure, unA_not]
  exact isoP_pure fun g => rfl
theorem t62 (v : Val) (hv : v.sz ≤ 4611686018427387904) : callW pg 62 [v.av] = M.pure (.bool !fitsP 4 v) := by
  rw [C62]
  simp only [S62, cl_val, okv, bnd_some, t21 v hv, bnd_pure, unA_not]
  exact isoP_pure fun g => rfl
theorem any_not (k : Nat) (hk : ∀ v : Val, v.sz ≤ 4611686018427387904 → callW pg k [v.av] = M.pure (.bool !fitsP 4 v)) (l : List Val) (hl : valsSz l ≤ 4611686018427387904) : callW pg 37 [vals l, .fn (.func k) [] []] = M.pure (.bool !(l.all (fitsP 4))) := by
  have := t37 (.fn (.func k) [] []) (fun v => !fitsP 4 v) l (Nat.le_trans (valsSz_len l) hl) (fun g => rfl) (fun v hv => hk v (Nat.le_trans (valsSz_mem hv) hl))
  rw [this, vals_any]
theorem t40 (f : AV) (h : Hp) : callW pg 40 [f] h = tryP 33 .i64 (.agg [.int .i64 0, .int .i64 0, .sl [], .sl []]) (callV (callW pg) f [] h) := by
  have e : callW pg 40 [f] = tryE 33 .i64 (.agg [.int .i64 0, .int .i64 0, .sl [], .sl []]) (callW pg) [f] := callW_other hOther rfl _
  rw [e]
  rfl
def nm0 : SNm := ⟨[], .hn, [], true⟩
theorem limB_nil : LimB [] := ⟨⟨by simp, fun m hm => by cases hm⟩, fun m hm => by cases hm⟩
theorem rep_exp : RepP [] nm0 (startM [] 100000 []) [[.hn, .hn, .int .i64 100000, .int .i64 0, .int .i64 0, .int .i64 0, .int .i64 0, .hn, .hn, .hn, .hn, .hn]] :=
  ⟨fun _ => 0, .hn, .hn, .hn, rfl, rfl, .inl ⟨rfl, rfl⟩, .inl ⟨rfl, rfl⟩, .inl ⟨rfl, rfl⟩, rfl, fun _ => rfl⟩
theorem good_exp : GoodM [] (startM [] 100000 []) := ⟨⟨fun l hl => by simp [startM] at hl, fun c hc => by simp [startM] at hc⟩, by simp [mu, startM], by simp [startM], by simp [startM], fun i x hx => by simp at hx⟩
def pairOf : Rs Val → AV
  | .ok v _ => .tup [v.av, .int .i64 0]
  | .er e _ => .tup [Val.av default, .int .i64 e]
theorem cl_pair (g) (v : Val) (e : Int) : cl g (.tup [v.av, .int .i64 e]) = .tup [v.av, .int .i64 e] := by simp [cl, cls]
theorem okEl4 (v : Val) : (bif okEl 4 v.av then (Av.R.ok (AV.tup [.agg (acells v.av), .int .i64 0]) ([] : Hp)) else .fail) = .ok (.tup [v.av, .int .i64 0]) [] := by
  rw [okEl_val]
  simp only [cond_true]
  rw [show AV.agg (acells v.av) = v.av by simp]
theorem t19 (e : Exp) (ns : List Str) (vs : List Val) (he : expLim e) (hn : ns.length ≤ 274877906944) (hv : valsSz vs ≤ 4611686018427387904) : callW pg 19 [e.av, strs ns, vals vs] = M.pure (pairOf (expX e ns vs)) := by
  have ha := any_not 48 t48 vs hv
  have hl1 : loadA T 25 (.ip (acells (strs ns))) = some (strs ns) := rfl
  have hl2 : loadA T 23 (.ip (acells (vals vs))) = some (vals vs) := rfl
  have hB : buildA T true 81 [(2, .int .i64 100000)] = some (.agg [.hn, .hn, .int .i64 100000, .int .i64 0, .int .i64 0, .int .i64 0, .int .i64 0, .hn, .hn, .hn, .hn, .hn]) := rfl
  have hZ : buildA T false 39 [] = some (Val.av default) := rfl
  have hcl : ∀ h : AV → M AV, bnd (newH [.hn, .hn, .int .i64 100000, .int .i64 0, .int .i64 0, .int .i64 0, .int .i64 0, .hn, .hn, .hn, .hn, .hn]) h [] = h (.hp 0 0) [[.hn, .hn, .int .i64 100000, .int .i64 0, .int .i64 0, .int .i64 0, .int .i64 0, .hn, .hn, .hn, .hn, .hn]] := fun h => rfl
  rw [C19, cl_strs, cl_vals, cl_exp]
  unfold expX
  by_cases hr : ns.length = vs.length ∧ vs.all (fitsP 4) = true
  · rw [if_pos hr]
    have hne : ((ns.length : Int) != (vs.length : Int)) = false := by simp [hr.1]
    have hrs : RightS ns vs := ⟨hr.1, fun v hv => (List.all_eq_true.1 hr.2) v hv⟩
    have hev := evOK (nm := nm0) limB_nil 100000 (-1) ns vs e _ _ rep_exp good_exp (by simp [startM]) ⟨by simp, hrs, by simp only [startM]; omega⟩ he
    have hcell : cellsM 1 (.hp 0 0) = M.pure (.agg [.hp 0 0]) := rfl
    have hBS : buildA T false 98 [(0, .int .i64 (-1)), (1, strs ns), (2, vals vs)] = some (scopeAv (-1) ns vs) := rfl
    have hlp : loadA T 79 (.ip [.hp 0 0]) = some (.hp 0 0) := rfl
    have hex : loadA T 28 (.ip (acells e.av)) = some e.av := by simp
    have hcall : ∀ h, callW pg 49 [.ip [.hp 0 0], .ip (acells (strs ns)), .ip (acells (vals vs)), .ip (acells e.av)] h = bnd (callW pg 50 [.hp 0 0, scopeAv (-1) ns vs, e.av]) (fun v => bnd (cellsNil 4 [] v) fun w => M.pure (AV.agg [nth (acells w) 0, nth (acells w) 1, nth (acells w) 2, nth (acells w) 3])) h := fun h => by
      rw [C49]
      simp -implicitDefEqProofs only [S49, hlp, hl1, hl2, hex, hBS, bnd_some]
    have hS : S19 (callW pg) fixW e.av (strs ns) (vals vs) [] = .ok (pairOf (evalX [] 100000 (-1) ns vs e (startM [] 100000 []))) [] ∨ ∃ h', S19 (callW pg) fixW e.av (strs ns) (vals vs) [] = .ok (pairOf (evalX [] 100000 (-1) ns vs e (startM [] 100000 []))) h' := by
      right
      simp -implicitDefEqProofs only [S19, hl1, hl2, bnd_some, LENE25, LENE23, bin_neq, hne, guardM_take1, ha, bnd_pure, unA_not, hr.2, Bool.not_true, nth_zero, pickA_false, condM_bool, Bool.false_eq_true, if_false, hB, acells_agg, hcl, hcell]
      have htry := t40 (.fn (.func 49) [] [.ip [.hp 0 0], .ip (acells (strs ns)), .ip (acells (vals vs)), .ip (acells e.av)]) [[.hn, .hn, .int .i64 100000, .int .i64 0, .int .i64 0, .int .i64 0, .int .i64 0, .hn, .hn, .hn, .hn, .hn]]
      have hcv : callV (callW pg) (.fn (.func 49) [] [.ip [.hp 0 0], .ip (acells (strs ns)), .ip (acells (vals vs)), .ip (acells e.av)]) [] = callW pg 49 [.ip [.hp 0 0], .ip (acells (strs ns)), .ip (acells (vals vs)), .ip (acells e.av)] := rfl
      rw [hcv, hcall] at htry
      have how := out_wrap hev
      generalize evalX [] 100000 (-1) ns vs e (startM [] 100000 []) = r at how ⊢
      cases r with
      | ok v s =>
        obtain ⟨h', e1, _⟩ := how
        refine ⟨h', ?_⟩
        rw [e1] at htry
        simp only [tryP, okEl_val, cond_true] at htry
        rw [bnd_ok htry]
        simp [pairOf, M.pure]
      | er c s =>
        obtain ⟨h', e1, _⟩ := how
        refine ⟨h', ?_⟩
        rw [e1] at htry
        have ht : tryP 33 .i64 (.agg [.int .i64 0, .int .i64 0, .sl [], .sl []]) (.pan (errAv c) h') = .ok (.tup [Val.av default, .int .i64 c]) h' := rfl
        rw [ht] at htry
        rw [bnd_ok htry]
        simp [pairOf, M.pure]
    rcases hS with h | ⟨h', h⟩
    · exact isoP_ok h fun g => by cases evalX [] 100000 (-1) ns vs e (startM [] 100000 []) <;> exact cl_pair g _ _
    · exact isoP_ok h fun g => by cases evalX [] 100000 (-1) ns vs e (startM [] 100000 []) <;> exact cl_pair g _ _
  · rw [if_neg hr]
    have hb : ((ns.length : Int) != (vs.length : Int) || !(vs.all (fitsP 4))) = true := by
      by_cases h1 : ns.length = vs.length
      · have : vs.all (fitsP 4) = false := by
          rw [← Bool.not_eq_true]
          exact fun h2 => hr ⟨h1, h2⟩
        simp [this]
      · have : ((ns.length : Int) != (vs.length : Int)) = true := by
          rw [bne_iff_ne]
          omega
        simp [this]
    have hgu : guardM (.bool ((ns.length : Int) != (vs.length : Int))) false 1 (M.pure [.bool !(vs.all (fitsP 4))]) = M.pure [gv ((ns.length : Int) != (vs.length : Int)) false (.bool !(vs.all (fitsP 4)))] := guardM_pure1 _ _ _
    have hS : S19 (callW pg) fixW e.av (strs ns) (vals vs) = M.pure (.tup [Val.av default, .int .i64 1]) := by
      simp -implicitDefEqProofs only [S19, hl1, hl2, bnd_some, LENE25, LENE23, bin_neq, ha, bnd_pure, unA_not, hgu, nth_zero, pickA_or, hb, condM_bool, if_true, hZ]
      simp
    rw [hS]
    exact isoP_pure fun g => cl_pair g _ _
end Go.Proofs.Ytgbopmciiadmlaa
