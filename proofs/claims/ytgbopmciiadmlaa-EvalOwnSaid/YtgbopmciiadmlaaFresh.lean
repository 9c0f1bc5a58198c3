/- What names, belongs and Fresh compute. Conditions: bounds. -/
import Derived.Test.YtgbopmciiadmlaaExp
namespace Go.Proofs.Ytgbopmciiadmlaa
open Go Go.Av Go.Av.Ap
theorem okm (m : Mod) : loadA T 63 (.ip (acells m.av)) = some m.av := by simp
theorem t32 (p : List Mod) (hp : p.length ≤ 1099511627776) : callW pg 32 [mods p] = M.pure (.int .i64 (namesX p)) := by
  let D : Nat → Bool := fun i => (p.take i).any fun m => m.name == (p[i]?.getD default).name
  have hloop : ∀ (n k : Nat), p.length - k = n → k ≤ p.length → fixW (L32_0 (callW pg) fixW) [mods p, mods p, .int .i64 p.length, .int .i64 k] = M.pure (.int .i64 (if (List.range' k n).any D = true then 5 else 0)) := by
    intro n
    induction n with
    | zero =>
      intro k hk hl
      obtain rfl : k = p.length := by omega
      rw [FL32_0]
      simp [L32_0]
    | succ n ih =>
      intro k hk hl
      have h1 : (k : Int) < (p.length : Int) := by omega
      have hlt : k < p.length := by omega
      have hi := IX22 (l := p) (n := (k : Int)) (by omega) h1
      rw [show ((k : Int)).toNat = k by omega, getElem!_pos p k hlt] at hi
      have hs : sliceA T 22 (mods p) none (some (.int .i64 k)) none = some (mods (p.take k)) := by
        have := sliceA_hi (T := T) (t := 22) (e := 63) rfl rfl rfl (p.map Mod.av) (n := (k : Int)) (by omega) (by simp; omega)
        simpa [mods, List.map_take] using this
      have ha := t58 (.fn (.func 59) [] [.ip (acells p[k].av)]) (fun m => m.name == p[k].name) (p.take k) (by simp; omega) (fun g => by simp [cl, cls]) (fun m _ => t59 m p[k])
      have hD : D k = ((p.take k).any fun m => m.name == p[k].name) := by simp only [D, List.getElem?_eq_getElem hlt, Option.getD_some]
      have hw : IntKind.i64.wrap ((k : Int) + 1) = ((k + 1 : Nat) : Int) := wrap_add1 (by omega)
      rw [FL32_0]
      simp -implicitDefEqProofs only [L32_0, nth_zero, nth_succ, bin_lss, bnd_some, condM_bool, h1, decide_true, if_true, hi, okm, cellsM_of (okEl_mod _), bnd_pure, acells_agg, hs, ha, bin_add, hw]
      rw [ih (k + 1) (by omega) (by omega), List.range'_succ, List.any_cons, hD]
      generalize ((p.take k).any fun m => m.name == p[k].name) = b
      generalize (List.range' (k + 1) n).any D = c
      cases b <;> cases c <;> rfl
  rw [C32, cl_mods]
  have h0 := hloop p.length 0 (by omega) (by omega)
  have ht : twice p = (List.range' 0 p.length).any D := by
    unfold twice
    rw [List.range_eq_range']
  have hS : S32 (callW pg) fixW (mods p) = M.pure (.int .i64 (namesX p)) := by
    unfold namesX
    rw [ht]
    by_cases h20 : 20 < p.length
    · have h20' : (20 : Int) < (p.length : Int) := by omega
      simp only [h20, if_true]
      simp -implicitDefEqProofs only [S32, LENE22, bnd_some, bin_gtr, condM_bool, h20', decide_true, if_true]
    · have : ¬ ((20 : Int) < (p.length : Int)) := by omega
      simp only [h20, if_false]
      simp -implicitDefEqProofs only [S32, LENE22, bnd_some, bin_gtr, condM_bool, this, decide_false, Bool.false_eq_true, if_false]
      exact h0
  rw [hS]
  exact isoP_pure fun g => rfl
theorem t61 (m : Mod) (v : Vars) (hv : valsSz v.values ≤ 4611686018427387904) (_hm : m.vars.length ≤ 1099511627776) : callW pg 61 [m.av, v.av] = M.pure (.bool (v.module == m.name && (v.values.length == m.vars.length && v.values.all (fitsP 4)))) := by
  have ha := any_not 62 t62 v.values hv
  have e1 : (((v.values.length : Nat) : Int) == ((m.vars.length : Nat) : Int)) = (v.values.length == m.vars.length) := by rw [Bool.eq_iff_iff]; simp
  rw [C61]
  simp [S61, ha, e1]
  cases v.module == m.name <;> cases (v.values.length == m.vars.length) <;> simp
theorem okvars (v : Vars) : loadA T 47 (.ip (acells v.av)) = some v.av := by simp
theorem t34 (p : List Mod) (st : List Vars) (hp : p.length ≤ 1099511627776) (hm : ∀ m ∈ p, m.vars.length ≤ 1099511627776) (hv : ∀ v ∈ st, valsSz v.values ≤ 4611686018427387904) : callW pg 34 [mods p, varss st] = M.pure (.bool (belongs p st)) := by
  let F : Mod → Vars → Bool := fun m v => v.module == m.name && (v.values.length == m.vars.length && v.values.all (fitsP 4))
  have hloop : p.length = st.length → ∀ (n : Nat) (i : Int), p.length - i.toNat = n → 0 ≤ i → i ≤ p.length →
      fixW (L60_0 (callW pg) fixW) [varss st, .fn (.func 61) [] [], mods p, .int .i64 p.length, .int .i64 i] = M.pure (.bool (all2 F (p.drop i.toNat) (st.drop i.toNat))) := by
    intro hab n
    induction n with
    | zero =>
      intro i hn hi hl
      rw [FL60_0]
      simp only [L60_0]
      have h1 : ¬ (i < (p.length : Int)) := by omega
      have h2 : p.drop i.toNat = [] := List.drop_eq_nil_of_le (by omega)
      have h3 : st.drop i.toNat = [] := List.drop_eq_nil_of_le (by omega)
      simp [h1, h2, h3, all2]
    | succ n ih =>
      intro i hn hi hl
      have h1 : i < (p.length : Int) := by omega
      have hlt : i.toNat < p.length := by omega
      have hlt' : i.toNat < st.length := by omega
      have h3 := t61 p[i.toNat] st[i.toNat] (hv _ (List.getElem_mem hlt')) (hm _ (List.getElem_mem hlt))
      have h4 := ih (i + 1) (by omega) (by omega) (by omega)
      rw [show (i + 1).toNat = i.toNat + 1 by omega] at h4
      have i1 := IX22 (l := p) (n := i) hi h1
      have i2 := IX32 (l := st) (n := i) hi (by omega)
      rw [getElem!_pos p _ hlt] at i1
      rw [getElem!_pos st _ hlt'] at i2
      have hw : IntKind.i64.wrap (i + 1) = i + 1 := wrap_in (by omega) (by omega)
      have hcv : ∀ x y : AV, callV (callW pg) (.fn (.func 61) [] []) [x, y] = callW pg 61 [x, y] := fun _ _ => rfl
      have hm1 : ∀ m : Mod, AV.agg (acells m.av) = m.av := fun m => rfl
      have hv1 : ∀ v : Vars, AV.agg (acells v.av) = v.av := fun v => rfl
      rw [FL60_0, all2_drop F p st i.toNat hlt hlt']
      simp -implicitDefEqProofs only [L60_0, nth_zero, nth_succ, bin_lss, bnd_some, condM_bool, h1, decide_true, if_true, i1, i2, okm, okvars, cellsM_of (okEl_mod _), cellsM_of (okEl_vars _), bnd_pure, hm1, hv1, hcv, h3, unA_not, bin_add, hw, h4]
      have hF : F p[i.toNat] st[i.toNat] = (st[i.toNat].module == p[i.toNat].name && (st[i.toNat].values.length == p[i.toNat].vars.length && st[i.toNat].values.all (fitsP 4))) := rfl
      rw [hF]
      generalize (st[i.toNat].module == p[i.toNat].name && (st[i.toNat].values.length == p[i.toNat].vars.length && st[i.toNat].values.all (fitsP 4))) = b
      cases b <;> simp
  have hT : callW pg 60 [mods p, varss st, .fn (.func 61) [] []] = M.pure (.bool (all2 F p st)) := by
    rw [C60]
    by_cases h : p.length = st.length
    · have := hloop h p.length 0 rfl (by omega) (by omega)
      simp [S60, h, cl, cls] at this ⊢
      simp [this]
    · have h3 : (p.length != st.length) = true := by simp [h]
      simp [S60, h3, all2_length F p st h, cl, cls]
  rw [C34]
  simp only [S34, cl_mods, cl_varss, hT, bnd_pure]
  exact isoP_pure fun g => rfl
def freshAv : Except Int (List Vars) → AV
  | .ok st => .tup [varss st, .int .i64 0]
  | .error e => .tup [.sl [], .int .i64 e]
theorem expX_err {e : Exp} {ns : List Str} {vs : List Val} {c : Int} {s : Ms} (h : expX e ns vs = .er c s) : c ≠ 0 := by
  unfold expX at h
  split at h
  · exact eval_err h
  · cases h; decide
theorem fresh_in (outer : List AV → M AV) (p : List Mod) (out : List Vars) (i : AV) (nm : Str) (es : List Exp) (hes : ∀ e ∈ es, expLim e) (hlen : es.length ≤ 274877906944) (hout : out.length ≤ 1099511627776) : ∀ (B A : List Exp) (acc : List Val) (k : Int), A ++ B = es → acc.length = A.length → i = .int .i64 k → -4611686018427387904 ≤ k → k ≤ 4611686018427387904 →
    fixW (L10_0 (callW pg) fixW outer) [varss out, mods p, .int .i64 p.length, i, exps es, .int .i64 es.length, .int .i64 A.length, .str nm, vals acc] =
    match initL B with
    | .error c => M.pure (.tup [.sl [], .int .i64 c])
    | .ok vs => outer [varss (out ++ [⟨nm, acc ++ vs⟩]), mods p, .int .i64 p.length, .int .i64 (k + 1)]
  | [], A, acc, k, e, hac, hi, hk1, hk2 => by
    simp only [List.append_nil] at e
    subst e
    subst hi
    have hb : buildSliceA T 32 1 [(0, .agg [.str nm, vals acc])] = some (varss [⟨nm, acc⟩]) := rfl
    have ha : appA T 32 (varss out) (varss [⟨nm, acc⟩]) = some (varss (out ++ [⟨nm, acc⟩])) := AP32 (by simp; omega)
    have hw : IntKind.i64.wrap (k + 1) = k + 1 := wrap_in (by omega) (by omega)
    rw [FL10_0]
    simp -implicitDefEqProofs only [L10_0, nth_zero, nth_succ, bin_lss, bnd_some, condM_bool, Int.lt_irrefl, decide_false, Bool.false_eq_true, if_false, hb, ha, bin_add, hw]
    simp [initL]
  | x :: B, A, acc, k, e, hac, hi, hk1, hk2 => by
    have hll : A.length + (B.length + 1) = es.length := by rw [← e]; simp
    have h1 : (A.length : Int) < (es.length : Int) := by omega
    have hx : es[A.length]'(by omega) = x := by subst e; simp
    have hm : x ∈ es := by rw [← e]; simp
    have hix := IX26 (l := es) (n := (A.length : Int)) (by omega) h1
    rw [show ((A.length : Int)).toNat = A.length by omega, getElem!_pos es A.length (by omega), hx] at hix
    have hex : loadA T 28 (.ip (acells x.av)) = some x.av := by simp
    have hx1 : ∀ e : Exp, AV.agg (acells e.av) = e.av := fun _ => rfl
    have hcall := t19 x [] [] (hes x hm) (by simp) (by simp [valsSz])
    have hcall' : callW pg 19 [x.av, .sl [], .sl []] = M.pure (pairOf (expX x [] [])) := hcall
    have hw : IntKind.i64.wrap ((A.length : Int) + 1) = ((A.length + 1 : Nat) : Int) := wrap_add1 (by omega)
    have hne : ∀ a b : Int, binA T .neq 33 (.int .i64 a) (.int .i64 b) = some (.bool (a != b)) := fun _ _ => rfl
    rw [FL10_0]
    simp -implicitDefEqProofs only [L10_0, nth_zero, nth_succ, bin_lss, bnd_some, condM_bool, h1, decide_true, if_true, hix, hex, cellsM_of (okEl_exp x), bnd_pure, hx1, hcall']
    unfold initL
    cases hr : expX x [] [] with
    | er c s =>
      have hc0 : (c != 0) = true := by
        have := expX_err hr
        simpa using this
      simp -implicitDefEqProofs only [pairOf, extractA_tup, List.getElem?_cons_zero, List.getElem?_cons_succ, bnd_some, cellsM_of (okEl_val default), bnd_pure, hne, hc0, condM_bool, if_true]
    | ok v s =>
      have hb2 : buildSliceA T 23 1 [(0, v.av)] = some (vals [v]) := by rw [v.av_eq]; simp [vals, valsAv, v.av_eq]; rfl
      have ha2 : appA T 23 (vals acc) (vals [v]) = some (vals (acc ++ [v])) := AP23 (by simp; omega)
      have hc1 : cell1M (vals (acc ++ [v])) = M.pure (vals (acc ++ [v])) := rfl
      have hvv : ∀ v : Val, AV.agg (acells v.av) = v.av := fun v => by simp
      have h00 : ((0 : Int) != 0) = false := rfl
      have hvl : loadA T 39 (.ip (acells v.av)) = some v.av := by simp
      have ih := fresh_in outer p out i nm es hes hlen hout B (A ++ [x]) (acc ++ [v]) k (by rw [← e]; simp) (by simp [hac]) hi hk1 hk2
      simp only [List.append_assoc, List.singleton_append, List.length_append, List.length_singleton] at ih
      simp -implicitDefEqProofs only [pairOf, extractA_tup, List.getElem?_cons_zero, List.getElem?_cons_succ, bnd_some, cellsM_of (okEl_val v), bnd_pure, hne, h00, condM_bool, Bool.false_eq_true, if_false, hvv, hvl, hb2, ha2, hc1, bin_add, hw, ih]
      cases initL B <;> rfl
theorem t10 (p : List Mod) (hp : p.length ≤ 1099511627776) (hm : ∀ m ∈ p, m.vars.length ≤ 1099511627776 ∧ m.init.length ≤ 274877906944 ∧ ∀ e ∈ m.init, expLim e) : callW pg 10 [mods p] = M.pure (freshAv (freshX p)) := by
  have hloop : ∀ (B A : List Mod) (out : List Vars), A ++ B = p → out.length = A.length → fixW (L10_1 (callW pg) fixW) [varss out, mods p, .int .i64 p.length, .int .i64 A.length] =
      M.pure (match freshL B with | .error c => .tup [.sl [], .int .i64 c] | .ok r => .tup [varss (out ++ r), .int .i64 0]) := by
    intro B
    induction B with
    | nil =>
      intro A out e ho
      simp only [List.append_nil] at e
      subst e
      rw [FL10_1]
      simp -implicitDefEqProofs only [L10_1, nth_zero, nth_succ, bin_lss, bnd_some, condM_bool, Int.lt_irrefl, decide_false, Bool.false_eq_true, if_false, freshL, List.append_nil]
    | cons x B ih =>
      intro A out e ho
      have hll : A.length + (B.length + 1) = p.length := by rw [← e]; simp
      have h1 : (A.length : Int) < (p.length : Int) := by omega
      have hx : p[A.length]'(by omega) = x := by subst e; simp
      have hmm : x ∈ p := by rw [← e]; simp
      obtain ⟨m1, m2, m3⟩ := hm x hmm
      have hix := IX22 (l := p) (n := (A.length : Int)) (by omega) h1
      rw [show ((A.length : Int)).toNat = A.length by omega, getElem!_pos p A.length (by omega), hx] at hix
      have hB : buildA T true 47 [(0, .str x.name)] = some (.agg [.str x.name, .hn]) := rfl
      have hC : cellsNil 2 [1] (.agg [.str x.name, .hn]) = M.pure (.agg [.str x.name, .hn]) := rfl
      have hin := fresh_in (fixW (L10_1 (callW pg) fixW)) p out (.int .i64 A.length) x.name x.init m3 m2 (by omega) x.init [] [] A.length rfl rfl rfl (by omega) (by omega)
      rw [FL10_1]
      simp -implicitDefEqProofs only [L10_1, nth_zero, nth_succ, bin_lss, bnd_some, condM_bool, h1, decide_true, if_true, hix, okm, cellsM_of (okEl_mod x), bnd_pure, acells_agg]
      simp -implicitDefEqProofs only [nth_zero, nth_succ, bnd_some, condM_bool, bnd_pure, acells_agg, acells_mod, FA63_0, FA63_2, FA63_3, List.drop_succ_cons, List.drop_zero, LD9, LD26, LD58, LENE26, LENE58, hB, hC, bin_neq]
      unfold freshL
      by_cases hl : x.init.length = x.vars.length
      · have hl' : ((x.init.length : Int) != (x.vars.length : Int)) = false := by simp [hl]
        simp only [hl', Bool.false_eq_true, if_false, if_pos hl]
        have hz : ((([] : List Exp).length : Nat) : Int) = 0 := rfl
        rw [hz] at hin
        have hv0 : vals [] = .sl [] := rfl
        rw [hv0] at hin
        rw [hin]
        cases initL x.init with
        | error c => rfl
        | ok vs =>
          have := ih (A ++ [x]) (out ++ [⟨x.name, vs⟩]) (by rw [← e]; simp) (by simp [ho])
          simp only [List.length_append, List.length_singleton] at this
          have hcast : ((A.length : Int) + 1) = ((A.length + 1 : Nat) : Int) := by omega
          simp only [List.nil_append, hcast, this]
          cases freshL B <;> simp
      · have hl' : ((x.init.length : Int) != (x.vars.length : Int)) = true := by
          rw [bne_iff_ne]
          omega
        simp only [hl', if_true, if_neg hl]
  have h0 := hloop p [] [] rfl rfl
  have hne : ∀ a b : Int, binA T .neq 33 (.int .i64 a) (.int .i64 b) = some (.bool (a != b)) := fun _ _ => rfl
  have hS : S10 (callW pg) fixW (mods p) = M.pure (freshAv (freshX p)) := by
    unfold freshX
    by_cases hn : namesX p = 0
    · have hn' : (namesX p != 0) = false := by simp [hn]
      simp -implicitDefEqProofs only [S10, t32 p hp, bnd_pure, hne, bnd_some, hn', condM_bool, Bool.false_eq_true, if_false, LENE22]
      rw [if_pos hn]
      simp only [List.length_nil, List.nil_append] at h0
      have : varss [] = .sl [] := rfl
      rw [this] at h0
      have hz : ((0 : Nat) : Int) = 0 := rfl
      rw [hz] at h0
      rw [h0]
      cases freshL p <;> rfl
    · have hn' : (namesX p != 0) = true := by simp [hn]
      simp -implicitDefEqProofs only [S10, t32 p hp, bnd_pure, hne, bnd_some, hn', condM_bool, if_true]
      rw [if_neg hn]
      rfl
  rw [C10, cl_mods, hS]
  exact isoP_pure fun g => by
    cases freshX p with
    | error e => rfl
    | ok st => simp [freshAv, cl, cls]
end Go.Proofs.Ytgbopmciiadmlaa
