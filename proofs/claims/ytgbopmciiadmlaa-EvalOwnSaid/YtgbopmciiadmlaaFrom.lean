/- What From and Run compute. Conditions: bounds. -/
import Derived.Test.YtgbopmciiadmlaaFresh
namespace Go.Proofs.Ytgbopmciiadmlaa
open Go Go.Av Go.Av.Ap
theorem okEl_vars2 (s : Str) (v : AV) (h : okCell v = true) : okEl 2 (.agg [.str s, v]) = true := by
  simp only [okEl, sizeA, acells, List.all_cons, List.all_nil]
  rw [h]
  rfl
theorem push_state {p : List Mod} {nm : SNm} {tag : Nat → Nat} {dv cv sv : AV} {m : Ms} {h : Hp} (R : RepT (rowP p nm.told) nm tag dv cv sv m h) (hnil : m.state = [] → nm.cells = [] ∧ nm.names = []) (x : Vars) (hb : x.values.length ≤ 274877906944) (hs : m.state.length ≤ 1099511627776) :
    ∃ av h1 sv' h2 h3 nm', callW pg 39 [vals x.values] h = .ok av h1 ∧ okCell av = true ∧ loadH T 32 (.hp 0 11) h = .ok sv h ∧ appH T 32 false sv (.sl [.agg [.str x.module, av]]) h1 = .ok sv' h2 ∧ storeH T 32 (.hp 0 11) sv' h2 = .ok (.tup []) h3 ∧
      nm'.names = nm.names ++ [x.module] ∧ nm'.told = nm.told ∧ RepP p nm' { m with state := m.state ++ [x.values] } h3 := by
  have e0 : callW pg 39 [vals x.values] = cloneH T 23 (callW pg) [vals x.values] := callW_other hOther rfl _
  have e1 := cloneH_vals (T := T) (t := 23) rfl rfl rfl rfl rfl (by decide) (callW pg) x.values (show x.values.length * 64 ≤ 140737488355328 by omega) h
  have hl : loadH T 32 (.hp 0 11) h = .ok sv h := loadH_one rfl rfl R.r0 rfl
  -- the clone
  have hcl : ∃ av h1 tag1, callW pg 39 [vals x.values] h = .ok av h1 ∧ RepT (rowP p nm.told) nm tag1 dv cv sv m h1 ∧ okCell av = true ∧ ((x.values = [] ∧ av = .sl []) ∨ ∃ r, av = .hs r 0 x.values.length 4 true ∧ tag1 r = 6 + m.state.length ∧ h1[r]? = some (valCells x.values)) := by
    rw [e0]
    by_cases hv : x.values = []
    · rw [if_pos hv] at e1
      exact ⟨_, h, tag, e1, R, rfl, .inl ⟨hv, rfl⟩⟩
    · rw [if_neg hv] at e1
      exact ⟨_, _, _, e1, (R.more (valCells x.values) (6 + m.state.length)).1, rfl, .inr ⟨h.length, rfl, by simp, by simp⟩⟩
  obtain ⟨av, h1, tag1, c1, R1, ok1, A1⟩ := hcl
  obtain ⟨h2, sv', tag', p1, K, H, hc⟩ := push_row (T := T) (t := 32) rfl rfl rfl rfl (by decide) rfl (by decide) (x := .agg [.str x.module, av]) R1.st (fun h0 => by
    have h00 : m.state = [] := List.eq_nil_of_length_eq_zero h0
    obtain ⟨n1, n2⟩ := hnil h00
    rw [h00, n2]
    exact ⟨n1.symm, rfl⟩) (fun cs h => h.2.ok) (okEl_vars2 _ _ ok1) (show (m.state.length + 1) * 40 ≤ 140737488355328 by omega)
  have h0 := (K 0 _ R1.r0 (by rw [R1.t0]; decide)).1
  have hac : acells sv' = [sv'] := (okCell_one hc).2.1
  have := R1.pushState (n := x.module) (l := x.values) K A1 H
  refine ⟨av, h1, sv', h2, _, ⟨nm.names ++ [x.module], sv', nm.cells ++ [.str x.module, av], nm.told⟩, c1, ok1, hl, p1, storeH_ok rfl h0 (okCell_one hc).1 (show 11 + 1 ≤ 12 by decide) (by decide), rfl, rfl, tag', dv, cv, sv', ?_⟩
  rw [hac]
  exact this
theorem build_vars (s : Str) (v : AV) (h : okCell v = true) : buildA T false 47 [(0, .str s), (1, v)] = some (.agg [.str s, v]) := by
  cases v with
  | any => cases h
  | agg _ => cases h
  | tup _ => cases h
  | _ => rfl
theorem buildS_vars (x : AV) (hx : sizeA x = some 2) : buildSliceA T 32 1 [(0, x)] = some (.sl [x]) := by
  have h1 : buildSliceA T 32 1 [(0, x)] = (fillEls 2 (List.replicate 1 (.agg [.str [], .sl []])) [(0, x)]).map .sl := rfl
  rw [h1]
  simp only [fillEls, hx, List.length_replicate]
  rfl
theorem loop_from {p : List Mod} (st : List Vars) (hst : st.length ≤ 1099511627776) (hv : ∀ x ∈ st, x.values.length ≤ 274877906944) (y0 y2 y3 y7 y8 y9 y10 y11 y12 y13 y14 : AV) : ∀ (B A : List Vars) (nm : SNm) (m : Ms) (h : Hp), A ++ B = st → m.state = A.map (·.values) → nm.names = A.map (·.module) → (m.state = [] → nm.cells = []) → nm.told = false → RepP p nm m h →
    ∃ nm' h', nm'.names = st.map (·.module) ∧ nm'.told = false ∧ RepP p nm' { m with state := st.map (·.values) } h' ∧
      fixW (L17_0 (callW pg) fixW) [y0, .ip [.hp 0 0], y2, y3, varss st, .int .i64 st.length, .int .i64 A.length, y7, y8, y9, y10, y11, y12, y13, y14] h =
      fixW (L17_0 (callW pg) fixW) [y0, .ip [.hp 0 0], y2, y3, varss st, .int .i64 st.length, .int .i64 st.length, y7, y8, y9, y10, y11, y12, y13, y14] h'
  | [], A, nm, m, h, e, hs, hn, hc, ht, R => by
    simp only [List.append_nil] at e
    subst e
    refine ⟨nm, h, hn, ht, ?_, rfl⟩
    rw [← hs]
    exact R
  | x :: B, A, nm, m, h, e, hs, hn, hc, ht, R => by
    have hll : A.length + (B.length + 1) = st.length := by rw [← e]; simp
    have h1 : (A.length : Int) < (st.length : Int) := by omega
    have hx : st[A.length]'(by omega) = x := by subst e; simp
    have hm : x ∈ st := by rw [← e]; simp
    have hix := IX32 (l := st) (n := (A.length : Int)) (by omega) h1
    rw [show ((A.length : Int)).toNat = A.length by omega, getElem!_pos st A.length (by omega), hx] at hix
    have hmsl : m.state.length = A.length := by rw [hs]; simp
    obtain ⟨tag, dv, cv, sv, R0⟩ := R
    obtain ⟨av, h2, sv', h3, h4, nm', c1, ok1, l1, p1, s1, n1, t1, R'⟩ := push_state R0 (fun h0 => ⟨hc h0, by
      rw [hn]
      have : A = [] := by
        apply List.eq_nil_of_length_eq_zero
        rw [← hmsl, h0]
        rfl
      rw [this]; rfl⟩) x (hv x hm) (by omega)
    obtain ⟨nm2, h', j1, j2, j3, j4⟩ := loop_from (p := p) st hst hv y0 y2 y3 y7 y8 y9 y10 y11 y12 y13 y14 B (A ++ [x]) nm' _ h4 (by rw [← e]; simp) (by simp [hs]) (by rw [n1, hn]; simp) (fun h0 => by simp at h0) (t1.trans ht) R'
    refine ⟨nm2, h', j1, j2, j3, ?_⟩
    rw [← j4]
    generalize hcode : fixW (L17_0 (callW pg) fixW) [y0, .ip [.hp 0 0], y2, y3, varss st, .int .i64 st.length, .int .i64 A.length, y7, y8, y9, y10, y11, y12, y13, y14] h = code
    have hlp : loadA T 79 (.ip [.hp 0 0]) = some (.hp 0 0) := rfl
    have hvv : AV.agg (acells x.av) = x.av := rfl
    have hac : acells x.av = [.str x.module, vals x.values] := rfl
    have hw : IntKind.i64.wrap ((A.length : Int) + 1) = ((A.length + 1 : Nat) : Int) := wrap_add1 (by omega)
    have ls : ∀ g : AV → M AV, bnd (loadH T 32 (.hp 0 11)) g h = g sv h := fun g => bnd_ok l1
    rw [FL17_0] at hcode
    simp -implicitDefEqProofs only [L17_0, nth_zero, nth_succ, bin_lss, bnd_some, condM_bool, h1, decide_true, if_true, hix, okvars, cellsM_of (okEl_vars x), bnd_pure, acells_agg, hlp, nilChkA_hp, FH81_4, FH43_4, Nat.zero_add, Nat.reduceAdd, ls] at hcode
    simp -implicitDefEqProofs only [bnd_some, bnd_pure, acells_agg, hac, FA47_0, FA47_1, List.drop_succ_cons, List.drop_zero, LD9, LD23] at hcode
    rw [bnd_ok c1] at hcode
    simp -implicitDefEqProofs only [build_vars _ _ ok1, buildS_vars (.agg [.str x.module, av]) rfl, bnd_some] at hcode
    rw [bnd_ok p1] at hcode
    rw [bnd_ok s1] at hcode
    simp -implicitDefEqProofs only [bin_add, bnd_some, hw] at hcode
    rw [← hcode]
    simp only [List.length_append, List.length_singleton]
theorem any_right (l : List Val) (hl : valsSz l ≤ 4611686018427387904) : callW pg 37 [vals l, .fn (.func 38) [] []] = M.pure (.bool !(l.all (fitsP 4))) := any_not 38 t38 l hl
def nmF : SNm := ⟨[], .hn, [], false⟩
def rowF (p : List Mod) (world : List Int) (fuel : Int) : List AV := [mods p, ints world, .int .i64 fuel, .int .i64 0, .int .i64 0, .int .i64 0, .int .i64 0, .hn, .hn, .hn, .hn, .hn]
theorem rep_from (p : List Mod) (world : List Int) (fuel : Int) : RepP p nmF (startM world fuel []) [rowF p world fuel] :=
  ⟨fun _ => 0, .hn, .hn, .hn, rfl, rfl, .inl ⟨rfl, rfl⟩, .inl ⟨rfl, rfl⟩, .inl ⟨rfl, rfl⟩, rfl, fun h => by cases h⟩
theorem freeze_out {p : List Mod} {nm : SNm} {m : Ms} {h : Hp} (R : RepP p nm m h) (e : Int) (v : Val) : ∃ h1 cells, (storeH T 39 (.hp 0 5) v.av h = .ok (.tup []) h1) ∧ ∃ h2, storeH T 33 (.hp 0 4) (.int .i64 e) h1 = .ok (.tup []) h2 ∧ loadH T 43 (.hp 0 4) h2 = .ok (.agg cells) h2 ∧
    bnd (cellsNil 8 [] (.agg cells)) (fun w => M.pure (AV.agg [nth (acells w) 0, nth (acells w) 1, nth (acells w) 2, nth (acells w) 3, nth (acells w) 4, nth (acells w) 5, nth (acells w) 6, nth (acells w) 7])) h2 = .ok (.agg cells) h2 ∧ frz 6 h2 (.agg cells) = Out.av ⟨e, v, m.deeds, m.calls, List.zipWith Vars.mk nm.names m.state⟩ := by
  obtain ⟨tag, dv, cv, sv, R⟩ := R
  have hlt : 0 < h.length := (List.getElem?_eq_some_iff.1 R.r0).1
  have s1 := storeH_ok (T := T) (t := 39) rfl R.r0 (v := v.av) (k := 5) (okEl_val v) (show 5 + 4 ≤ 12 by decide) (by decide)
  have e1 : setCells (rowP p nm.told m dv cv sv) 5 (acells v.av) = [pvOf nm.told p, wvOf nm.told m.world, .int .i64 m.fuel, .int .i64 m.frames, .int .i64 0, .int .i64 v.kind, .int .i64 v.n, strs v.names, vals v.values, dv, cv, sv] := by
    rw [acells_val]
    rfl
  rw [e1] at s1
  have s2 := storeH_ok (T := T) (t := 33) rfl (h := h.set 0 [pvOf nm.told p, wvOf nm.told m.world, .int .i64 m.fuel, .int .i64 m.frames, .int .i64 0, .int .i64 v.kind, .int .i64 v.n, strs v.names, vals v.values, dv, cv, sv]) (l := 0) (k := 4) (v := .int .i64 e) (List.getElem?_set_self hlt) rfl (show 4 + 1 ≤ 12 by decide) (by decide)
  rw [List.set_set] at s2
  have e2 : setCells [pvOf nm.told p, wvOf nm.told m.world, .int .i64 m.fuel, .int .i64 m.frames, .int .i64 0, .int .i64 v.kind, .int .i64 v.n, strs v.names, vals v.values, dv, cv, sv] 4 (acells (.int .i64 e)) = [pvOf nm.told p, wvOf nm.told m.world, .int .i64 m.fuel, .int .i64 m.frames, .int .i64 e, .int .i64 v.kind, .int .i64 v.n, strs v.names, vals v.values, dv, cv, sv] := rfl
  rw [e2] at s2
  refine ⟨_, [.int .i64 e, .int .i64 v.kind, .int .i64 v.n, strs v.names, vals v.values, dv, cv, sv], s1, _, s2, ?_, ?_, ?_⟩
  · exact loadH_agg (T := T) (t := 43) rfl rfl (List.getElem?_set_self hlt) (show 4 + 8 ≤ 12 by decide)
  · have hd : okCell dv = true := by rcases R.ds with ⟨_, rfl⟩ | ⟨q, cs, rfl, _⟩ <;> rfl
    have hc : okCell cv = true := by rcases R.cs with ⟨_, rfl⟩ | ⟨q, cs, rfl, _⟩ <;> rfl
    have hs : okCell sv = true := by rcases R.st with ⟨_, rfl⟩ | ⟨q, cs, rfl, _⟩ <;> rfl
    have hok : okEl 8 (.agg [.int .i64 e, .int .i64 v.kind, .int .i64 v.n, strs v.names, vals v.values, dv, cv, sv]) = true := by
      simp only [okEl, sizeA, acells, List.all_cons, List.all_nil, hd, hc, hs]
      rfl
    rw [cellsNil_of hok]
    rfl
  · -- the rows but the first one are as they were
    have K : Kp tag tag (fun k => k = 0) h (h.set 0 [pvOf nm.told p, wvOf nm.told m.world, .int .i64 m.fuel, .int .i64 m.frames, .int .i64 e, .int .i64 v.kind, .int .i64 v.n, strs v.names, vals v.values, dv, cv, sv]) := Kp.kill R.t0 _
    have d1 := frz_deeds (d := 4) (R.ds.keep K (c' := fun cs => cs = deedCells m.deeds) (by decide) fun _ h => h)
    have d2 := frz_calls (d := 4) (R.cs.keep K (by decide) fun _ h => h.keep K (by decide))
    have d3 := frz_states (d := 4) (c0 := nm.cells) (R.st.keep K (by decide) fun _ h => ⟨h.1, h.2.keep K (by omega)⟩)
    rw [frz_succ]
    simp only [cl, cls, d1, d2, d3, cl_strs, cl_vals]
    rfl
theorem isoP_frz {m : M AV} {a r : AV} {h' : Hp} (h1 : m [] = .ok a h') (h2 : frz 6 h' a = r) : isoP m = M.pure r := by
  funext h
  unfold isoP
  rw [h1]
  simp only [M.pure, h2]
theorem wrap8 (o : Out) : bnd (cellsNil 8 [] o.av) (fun w => M.pure (AV.agg [nth (acells w) 0, nth (acells w) 1, nth (acells w) 2, nth (acells w) 3, nth (acells w) 4, nth (acells w) 5, nth (acells w) 6, nth (acells w) 7])) = M.pure o.av := by
  rw [cellsNil_of (okEl_out o)]
  rfl
theorem build_err (e : Int) : buildA T false 43 [(0, .int .i64 e)] = some (errO e).av := rfl
theorem outOf_eq (ns : List Str) (r : Rs Val) : outOf ns r = match r with
  | .ok v m => ⟨0, v, m.deeds, m.calls, List.zipWith Vars.mk ns m.state⟩
  | .er e m => ⟨e, default, m.deeds, m.calls, List.zipWith Vars.mk ns m.state⟩ := by cases r <;> rfl
theorem from_body {p : List Mod} (LB : LimB p) (st : List Vars) (args : List Val) (world : List Int) (fuel at_ : Int) (f : Fun) (hst : st.length ≤ 1099511627776) (hv : ∀ x ∈ st, x.values.length ≤ 274877906944)
    (hat0 : 0 ≤ at_) (hat : at_ < p.length) (hf : f ∈ (p[at_.toNat]?.getD default).funcs) (hlen : args.length = f.params.length) (hr : ∀ v ∈ args, Rv v) (hb : belongs p st = true) (hfu : 0 ≤ fuel ∧ fuel ≤ 100000) (y7 y8 y9 y10 y11 y12 y13 y14 : AV) :
    ∃ a h', fixW (L17_0 (callW pg) fixW) [.ip (acells (vals args)), .ip [.hp 0 0], .ip [.int .i64 at_], .ip (acells f.av), varss st, .int .i64 st.length, .int .i64 0, y7, y8, y9, y10, y11, y12, y13, y14] [rowF p world fuel] = .ok a h' ∧
      frz 6 h' a = (outOf (st.map (·.module)) (enterX p (evalX p 100000) at_ f args (startM world fuel (st.map (·.values))))).av := by
  obtain ⟨nm, h1, n1, n2, R1, e1⟩ := loop_from (p := p) st hst hv (.ip (acells (vals args))) (.ip [.int .i64 at_]) (.ip (acells f.av)) y7 y8 y9 y10 y11 y12 y13 y14 st [] nmF (startM world fuel []) _ rfl rfl rfl (fun _ => rfl) rfl (rep_from p world fuel)
  have hz : ((([] : List Vars).length : Nat) : Int) = 0 := rfl
  rw [hz] at e1
  rw [e1]
  have hbr := belongs_right hb
  have e2 : ({ startM world fuel [] with state := st.map (·.values) } : Ms) = startM world fuel (st.map (·.values)) := rfl
  rw [e2] at R1
  have G : GoodM p (startM world fuel (st.map (·.values))) := by
    refine ⟨⟨fun l hl v hv => ?_, fun c hc => by simp [startM] at hc⟩, by simp [mu, startM]; omega, by simp [startM], by simp [startM]; omega, fun i x hx => ?_⟩
    · simp only [startM, List.mem_map] at hl
      obtain ⟨y, hy, rfl⟩ := hl
      exact hbr.2.1 y hy v hv
    · have hi : i < p.length := (List.getElem?_eq_some_iff.1 hx).1
      have hi2 : i < st.length := by rw [hbr.1]; exact hi
      refine ⟨st[i].values, by simp [startM, hi2], ?_⟩
      exact (hbr.2.2 i x st[i] hx (List.getElem?_eq_getElem hi2)).2
  have hen := enterOK (nm := nm) LB 100000 at_ f args _ _ hat0 hat hf hlen hr R1 G (by simp [mu, startM]; omega) (by simp [startM]; omega)
  have hlp : loadA T 79 (.ip [.hp 0 0]) = some (.hp 0 0) := rfl
  have hla : loadA T 3 (.ip [.int .i64 at_]) = some (.int .i64 at_) := rfl
  have hlf : loadA T 67 (.ip (acells f.av)) = some f.av := by simp
  have hlv : loadA T 23 (.ip (acells (vals args))) = some (vals args) := rfl
  have hcall : ∀ h, callW pg 41 [.ip [.hp 0 0], .ip [.int .i64 at_], .ip (acells f.av), .ip (acells (vals args))] h = bnd (callW pg 42 [.hp 0 0, .int .i64 at_, f.av, vals args]) (fun v => bnd (cellsNil 4 [] v) fun w => M.pure (AV.agg [nth (acells w) 0, nth (acells w) 1, nth (acells w) 2, nth (acells w) 3])) h := fun h => by
    rw [C41]
    simp -implicitDefEqProofs only [S41, hlp, hla, hlf, hlv, bnd_some]
  have htry := t40 (.fn (.func 41) [] [.ip [.hp 0 0], .ip [.int .i64 at_], .ip (acells f.av), .ip (acells (vals args))]) h1
  have hcv : callV (callW pg) (.fn (.func 41) [] [.ip [.hp 0 0], .ip [.int .i64 at_], .ip (acells f.av), .ip (acells (vals args))]) [] = callW pg 41 [.ip [.hp 0 0], .ip [.int .i64 at_], .ip (acells f.av), .ip (acells (vals args))] := rfl
  rw [hcv, hcall] at htry
  have how := out_wrap hen
  generalize hcode : fixW (L17_0 (callW pg) fixW) [.ip (acells (vals args)), .ip [.hp 0 0], .ip [.int .i64 at_], .ip (acells f.av), varss st, .int .i64 st.length, .int .i64 st.length, y7, y8, y9, y10, y11, y12, y13, y14] h1 = code
  rw [FL17_0] at hcode
  simp -implicitDefEqProofs only [L17_0, nth_zero, nth_succ, bin_lss, bnd_some, condM_bool, Int.lt_irrefl, decide_false, Bool.false_eq_true, if_false, hlp] at hcode
  generalize enterX p (evalX p 100000) at_ f args (startM world fuel (st.map (·.values))) = r at how ⊢
  -- what the catch leaves
  have hfin : ∃ (e : Int) (v : Val) (s : Ms) (h2 : Hp), outOf (st.map (·.module)) r = ⟨e, v, s.deeds, s.calls, List.zipWith Vars.mk (st.map (·.module)) s.state⟩ ∧ RepP p nm s h2 ∧ callW pg 40 [.fn (.func 41) [] [.ip [.hp 0 0], .ip [.int .i64 at_], .ip (acells f.av), .ip (acells (vals args))]] h1 = .ok (.tup [v.av, .int .i64 e]) h2 := by
    cases r with
    | ok v s =>
      obtain ⟨h', g1, g2⟩ := how
      rw [g1] at htry
      simp only [tryP, okEl_val, cond_true] at htry
      refine ⟨0, v, s, h', rfl, g2, ?_⟩
      rw [htry]
      simp
    | er c s =>
      obtain ⟨h', g1, g2⟩ := how
      rw [g1] at htry
      exact ⟨c, default, s, h', rfl, g2, htry⟩
  obtain ⟨e, v, s, h2, o1, R2, t1⟩ := hfin
  obtain ⟨h3, cells, s1, h4, s2, l1, w1, fz⟩ := freeze_out R2 e v
  rw [bnd_ok t1] at hcode
  simp -implicitDefEqProofs only [extractA_tup, List.getElem?_cons_zero, List.getElem?_cons_succ, bnd_some, nilChkA_hp, FH81_4, FH43_0, FH43_1, Nat.zero_add, Nat.reduceAdd] at hcode
  rw [bnd_ok s1] at hcode
  rw [bnd_ok s2] at hcode
  rw [bnd_ok l1] at hcode
  rw [w1] at hcode
  refine ⟨_, _, hcode.symm, ?_⟩
  rw [fz, o1, n1]
end Go.Proofs.Ytgbopmciiadmlaa
