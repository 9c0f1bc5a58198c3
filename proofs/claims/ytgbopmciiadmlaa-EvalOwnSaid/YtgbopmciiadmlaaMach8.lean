/- Effects and variables. Condition: what eval gives with less fuel. -/
import Derived.Test.YtgbopmciiadmlaaMach7
namespace Go.Proofs.Ytgbopmciiadmlaa
open Go Go.Av Go.Av.Ap
theorem ixh {t e : Nat} {ti ei : TI} (ht : T t = some ti) (hk : ti.kind = .slice e) (he : T e = some ei) {l off len sz : Nat} {ag : Bool} {n : Int} (h0 : 0 ≤ n) (h1 : n < len) : indexAddrA T t (.hs l off len sz ag) (.int .i64 n) = some (.hp l (off + n.toNat * ei.size)) := by
  simp [indexAddrA, ht, hk, he, h0, h1]
theorem push_deed {p : List Mod} {nm : SNm} {tag : Nat → Nat} {dv cv sv : AV} {m : Ms} {h : Hp} (R : RepT (rowP p nm.told) nm tag dv cv sv m h) (d : Deed) (hb : m.deeds.length ≤ 2000000) :
    ∃ dv' h1 h2, appH T 40 false dv (.sl [d.av]) h = .ok dv' h1 ∧ storeH T 40 (.hp 0 9) dv' h1 = .ok (.tup []) h2 ∧ RepP p nm { m with deeds := m.deeds ++ [d] } h2 := by
  obtain ⟨h1, dv', tag', e1, K, H, hc⟩ := push_row (T := T) (t := 40) rfl rfl rfl rfl (by decide) rfl (by decide) (x := d.av) R.ds (fun h0 => by
    have : m.deeds = [] := List.eq_nil_of_length_eq_zero h0
    rw [this]; rfl) (fun cs h => by rw [h]; exact deedCells_ok _) (okEl_deed d) (show (m.deeds.length + 1) * 24 ≤ 140737488355328 by omega)
  have h0 := (K 0 _ R.r0 (by rw [R.t0]; decide)).1
  refine ⟨dv', h1, _, e1, storeH_ok rfl h0 (okCell_one hc).1 (show 9 + 1 ≤ 12 by decide) (by decide), ?_⟩
  have hac : acells dv' = [dv'] := (okCell_one hc).2.1
  have := R.pushDeed (m' := { m with deeds := m.deeds ++ [d] }) K H rfl rfl rfl id
  refine ⟨tag', dv', cv, sv, ?_⟩
  rw [hac]
  exact this
theorem act_rest {p : List Mod} {nm : SNm} {m : Ms} {h : Hp} (R : RepP p nm m h) (hb : m.deeds.length ≤ 2000000) (e : Exp) (v : Val) (n : Int) (x1 x2 x3 x4 : AV) :
    OutG p nm Val.av (X.ok (numV n) { m with deeds := m.deeds ++ [⟨e.n, v.n, n⟩] }) (K81_0 (callW pg) fixW [.hp 0 0, .ip (acells e.av), .ip (acells v.av), .int .i64 n, x1, x2, x3, x4] h) := by
  obtain ⟨tag, dv, cv, sv, R0⟩ := R
  obtain ⟨dv', h1, h2, e1, e2, R2⟩ := push_deed R0 ⟨e.n, v.n, n⟩ hb
  have hB : buildA T false 55 [(0, .int .i64 e.n), (1, .int .i64 v.n), (2, .int .i64 n)] = some (Deed.av ⟨e.n, v.n, n⟩) := rfl
  have hBS : buildSliceA T 40 1 [(0, Deed.av ⟨e.n, v.n, n⟩)] = some (.sl [Deed.av ⟨e.n, v.n, n⟩]) := rfl
  have ld : ∀ g : AV → M AV, bnd (loadH T 40 (.hp 0 9)) g h = g dv h := fun g => bnd_ok (loadH_one rfl rfl R0.r0 rfl)
  generalize hcode : K81_0 (callW pg) fixW [.hp 0 0, .ip (acells e.av), .ip (acells v.av), .int .i64 n, x1, x2, x3, x4] h = code
  simp -implicitDefEqProofs only [K81_0, nth_zero, nth_succ, nilChkA_hp, bnd_some, FH81_4, FH43_2, Nat.zero_add, Nat.reduceAdd, ld, acells_exp, FA28_1, List.drop_succ_cons, List.drop_zero, LD3, acells_val, FA39_1, hB, hBS] at hcode
  rw [bnd_ok e1] at hcode
  rw [bnd_ok e2] at hcode
  simp -implicitDefEqProofs only [t74, bnd_pure] at hcode
  rw [wrap4'] at hcode
  rw [← hcode]
  exact out_pure R2
theorem set_world {p : List Mod} {nm : SNm} {m : Ms} {h : Hp} (R : RepP p nm m h) (w : List Int) (hw0 : m.world = [] → w = []) : ∃ h1, (m.world ≠ [] → RepP p nm { m with world := w } h1) ∧ (∀ f : AV → M AV, bnd (loadH T 24 (.hp 0 1)) f h = f (wvOf nm.told m.world) h) ∧
    (m.world ≠ [] → ∀ f : AV → M AV, bnd (storeH T 24 (.hp 0 1) (ints w)) f h = f (.tup []) h1) := by
  obtain ⟨tag, dv, cv, sv, R⟩ := R
  refine ⟨h.set 0 (setCells (rowP p nm.told m dv cv sv) 1 (acells (ints w))), fun hne => ⟨tag, dv, cv, sv, ?_⟩, fun f => bnd_ok (loadH_one rfl rfl R.r0 rfl), fun _ f => bnd_ok (storeH_ok rfl R.r0 rfl (show 1 + 1 ≤ 12 by decide) (by decide))⟩
  have ht : nm.told = false := by
    cases ht : nm.told with
    | false => rfl
    | true => exact absurd (R.wok ht) hne
  have e : setCells (rowP p nm.told m dv cv sv) 1 (acells (ints w)) = rowP p nm.told { m with world := w } dv cv sv := by
    simp only [ht]
    rfl
  rw [e]
  exact R.set0 rfl rfl rfl hw0
theorem t81 {p : List Mod} {nm : SNm} {n : Nat} (LB : LimB p) (IH : EvOK p nm n) : WorldOK p nm n := by
  intro own ns vs e m h hop hcn R G hmu hn hs he
  obtain ⟨l1, l2⟩ := expLim_names he
  have hscl : loadA T 98 (.ip [.int .i64 own, strs ns, vals vs]) = some (scopeAv own ns vs) := rfl
  have hown : loadA T 3 (.ip [.int .i64 own, strs ns, vals vs]) = some (.int .i64 own) := rfl
  generalize hcode : callW pg 81 [.hp 0 0, scopeAv own ns vs, e.av] h = code
  rw [C81] at hcode
  obtain ⟨op, en, es, em, en2, ea⟩ := e
  simp only [op_mk] at hop
  unfold CntOK at hcn
  simp only [op_mk, args_mk] at hcn
  have hlen : op = 16 ∨ op = 18 → ∃ a, ea = [a] := by
    intro h
    apply len1
    rcases h with rfl | rfl
    · simp [argsN] at hcn; omega
    · simp [argsN] at hcn; omega
  by_cases h16 : op = 16
  · obtain ⟨a, rfl⟩ := hlen (.inl h16)
    subst h16
    have ha : expLim a := expLim_arg he (by simp)
    simp -implicitDefEqProofs only [S81, acells_scope, acells_exp, op_mk, n_mk, s_mk, m_mk, names_mk, args_mk, FA28_0, FA28_1, FA28_5, List.drop_succ_cons, List.drop_zero, LD3, LD26, bnd_some, bin_eql, beq_self_eq_true, condM_bool, if_true, hscl, ixe0] at hcode
    have hex : loadA T 28 (.ip [.int .i64 a.op, .int .i64 a.n, .str a.s, .str a.m, strs a.names, exps a.args]) = some a.av := by
      have : loadA T 28 (.ip (acells a.av)) = some a.av := by simp
      rwa [acells_exp] at this
    simp -implicitDefEqProofs only [hex, bnd_some] at hcode
    rw [← hcode]
    simp only [worldX, op_mk, if_true, actX]
    have e0 : ([a] : List Exp)[0]! = a := rfl
    simp only [args_mk, e0]
    refine out_bind (IH own ns vs a _ _ R G hn hs ha) fun v s1 h2 hv R2 => ?_
    obtain ⟨G2, rv, f2⟩ := G.eval hs.right hv
    generalize hcode2 : bnd (cellsM 4 v.av) _ h2 = code2
    simp -implicitDefEqProofs only [cellsM_of (okEl_val v), bnd_pure, acells_agg, acells_val, FA39_0, List.drop_zero, LD3, bnd_some, bin_eql, bnd_must, guardM_pure1, nth_zero, pickA_or] at hcode2
    by_cases hk : v.kind = 0
    · have hk' : (v.kind == 0) = true := by simp [hk]
      simp only [hk', mustM, if_true] at hcode2
      simp only [if_pos hk]
      by_cases hn4' : (Exp.mk 16 en es em en2 [a]).n = 1 ∨ (Exp.mk 16 en es em en2 [a]).n = 2 ∨ (Exp.mk 16 en es em en2 [a]).n = 4 ∨ (Exp.mk 16 en es em en2 [a]).n = 8
      · have hn4 : en = 1 ∨ en = 2 ∨ en = 4 ∨ en = 8 := hn4'
        have hn' : (en == 1 || en == 2 || en == 4 || en == 8) = true := by
          simp only [Bool.or_eq_true, beq_iff_eq]
          omega
        simp only [hn', if_true] at hcode2
        simp only [if_pos hn4']
        obtain ⟨h3, R3, lw, sw⟩ := set_world R2 s1.world.tail (fun h => by rw [h]; rfl)
        have hmu2 := (tq_eval n own ns vs a m v s1 G.fuel hv).1
        have hdl : s1.deeds.length ≤ 2000000 := by
          have := G2.fuel
          simp only [mu] at hmu2 hmu
          omega
        show OutG p nm Val.av (X.ok (numV (s1.world.headD 0)) { s1 with world := s1.world.tail, deeds := s1.deeds ++ [⟨en, v.n, s1.world.headD 0⟩] }) code2
        have lenw : lenA T 24 (wvOf nm.told s1.world) = some (.int .i64 s1.world.length) := by
          unfold wvOf
          split
          · rename_i ht
            obtain ⟨_, _, _, _, R2'⟩ := R2
            rw [R2'.wok ht]
            rfl
          · exact LENE24 _
        simp -implicitDefEqProofs only [jn_def, nilChkA_hp, bnd_some, FH81_1, Nat.zero_add, lw, lenw, bnd_some, bin_gtr, condM_bool] at hcode2
        cases hwd : s1.world with
        | nil =>
          rw [hwd] at hcode2
          simp only [List.length_nil, show decide ((0 : Int) < ((0 : Nat) : Int)) = false by decide, Bool.false_eq_true, if_false] at hcode2
          have := act_rest R2 hdl (.mk 16 en es em en2 [a]) v 0 (.int .i64 0) (.int .i64 0) (.sl []) (.sl [])
          simp only [acells_exp, acells_val, op_mk, n_mk, s_mk, m_mk, names_mk, args_mk] at this
          rw [hcode2] at this
          have e5 : ({ s1 with deeds := s1.deeds ++ [⟨en, v.n, 0⟩] } : Ms) = { s1 with world := ([] : List Int).tail, deeds := s1.deeds ++ [⟨en, v.n, ([] : List Int).headD 0⟩] } := by
            cases s1
            simp only at hwd
            subst hwd
            rfl
          rw [e5] at this
          exact this
        | cons x wl =>
          have hd : decide ((0 : Int) < (((x :: wl).length : Nat) : Int)) = true := by simp <;> omega
          have hne : s1.world ≠ [] := by rw [hwd]; simp
          have sw := sw hne
          have R3 := R3 hne
          have hwv : wvOf nm.told s1.world = ints s1.world := by
            unfold wvOf
            rw [if_neg]
            intro ht
            obtain ⟨_, _, _, _, R2'⟩ := R2
            exact hne (R2'.wok ht)
          rw [hwv] at lw
          rw [hwd] at hcode2 sw R3 lw
          have hix : indexAddrA T 24 (ints (x :: wl)) (.int .i64 0) = some (.ip [.int .i64 x]) := by
            have := IX24 (l := x :: wl) (n := 0) (by omega) (by simp <;> omega)
            simpa using this
          have hsl : sliceA T 24 (ints (x :: wl)) (some (.int .i64 1)) none none = some (ints wl) := by
            have := sliceA_lo (T := T) (t := 24) (e := 3) rfl rfl rfl ((x :: wl).map (AV.int .i64)) (by exact okSz_ints _) (n := 1) (by omega) (by simp <;> omega)
            simpa [ints] using this
          simp only [List.tail_cons] at sw R3
          simp -implicitDefEqProofs only [hd, if_true, lw, hix, bnd_some, LD3, hsl, sw] at hcode2
          have := act_rest R3 hdl (.mk 16 en es em en2 [a]) v x (.int .i64 0) (.int .i64 0) (.sl []) (.sl [])
          simp only [acells_exp, acells_val, op_mk, n_mk, s_mk, m_mk, names_mk, args_mk] at this
          rw [hcode2] at this
          exact this
      · have hn4 : ¬ (en = 1 ∨ en = 2 ∨ en = 4 ∨ en = 8) := hn4'
        have hn' : (en == 1 || en == 2 || en == 4 || en == 8) = false := by
          rw [← Bool.not_eq_true]
          simp only [Bool.or_eq_true, beq_iff_eq]
          omega
        simp only [hn', Bool.false_eq_true, if_false] at hcode2
        simp only [if_neg hn4']
        rw [← hcode2]
        exact out_er R2
    · have hk' : (v.kind == 0) = false := by simpa using hk
      simp only [hk', mustM, Bool.false_eq_true, if_false] at hcode2
      simp only [if_neg hk]
      rw [← hcode2]
      exact out_er R2
  have h16' : ((op : Int) == 16) = false := by simpa using h16
  have h16x : ¬ ((Exp.mk op en es em en2 ea).op = 16) := h16
  unfold worldX
  simp only [if_neg h16x]
  unfold varX
  simp -implicitDefEqProofs only [S81, acells_scope, acells_exp, op_mk, n_mk, s_mk, m_mk, names_mk, args_mk, FA98_0, FA28_0, FA28_1, FA28_2, FA28_5, List.drop_succ_cons, List.drop_zero, LD3, LD26, bnd_some, bin_eql, h16', Bool.false_eq_true, condM_bool, if_false, hown, hscl, bin_geq, bnd_must, jn_def] at hcode
  by_cases ho : own < 0
  · have ho' : decide (0 ≤ own) = false := by simp; omega
    simp only [ho', mustM, Bool.false_eq_true, if_false] at hcode
    simp only [if_pos ho]
    rw [← hcode]
    exact out_er R
  have ho' : decide (0 ≤ own) = true := by simp; omega
  simp only [ho', mustM, if_true] at hcode
  simp only [if_neg ho]
  have hol := hs.own
  have hlt : own.toNat < p.length := by omega
  have hix := IX22 (l := p) (n := own) (by omega) hol
  rw [getElem!_pos p own.toNat hlt] at hix
  have e3 : p[own.toNat]?.getD default = p[own.toNat] := by rw [List.getElem?_eq_getElem hlt]; rfl
  have hvl := (LB.lim.funcsAt own.toNat).2
  rw [e3] at hvl ⊢
  have hff := t98' p[own.toNat].vars hvl (.mk op en es em en2 ea)
  simp only [acells_exp, op_mk, n_mk, s_mk, m_mk, names_mk, args_mk] at hff
  have Rk := R
  obtain ⟨tag, dv, cv, sv, R0⟩ := R
  have lm : ∀ g : AV → M AV, bnd (loadH T 22 (.hp 0 0)) g h = g (mods p) h := fun g => bnd_ok (loadH_one rfl rfl R0.r0 (by rw [← pvOf_ne (t := nm.told) (fun e => by subst e; simp at hlt)]; rfl))
  have lsv : ∀ g : AV → M AV, bnd (loadH T 32 (.hp 0 11)) g h = g nm.sv h := fun g => bnd_ok (loadH_one rfl rfl R0.r0 (by rw [← R0.sve]; rfl))
  simp -implicitDefEqProofs only [nilChkA_hp, bnd_some, FH81_0, FH81_4, FH43_4, Nat.zero_add, Nat.reduceAdd, lm, hix, acells_mod, FA63_2, List.drop_succ_cons, List.drop_zero, LD58, hff, noPan_pure, bnd_pure, bin_geq, bnd_must] at hcode
  by_cases hi : fldAt p[own.toNat].vars (Exp.mk op en es em en2 ea).s < 0
  · have hi' : decide (0 ≤ fldAt p[own.toNat].vars es) = false := by
      have : fldAt p[own.toNat].vars es < 0 := hi
      simp; omega
    simp only [hi', mustM, Bool.false_eq_true, if_false] at hcode
    simp only [if_pos hi]
    rw [← hcode]
    exact out_er Rk
  have hi0 : 0 ≤ fldAt p[own.toNat].vars es := by
    have : ¬ fldAt p[own.toNat].vars es < 0 := hi
    omega
  have hi' : decide (0 ≤ fldAt p[own.toNat].vars es) = true := by simp; omega
  simp only [hi', mustM, if_true, lsv] at hcode
  simp only [if_neg hi]
  have hil : fldAt p[own.toNat].vars es < p[own.toNat].vars.length := by
    rcases idxAt_lt (fun (x : Fld) => x.1 == es) p[own.toNat].vars 0 with k | k
    · have : fldAt p[own.toNat].vars es = -1 := k
      omega
    · have : fldAt p[own.toNat].vars es = idxAt (fun (x : Fld) => x.1 == es) p[own.toNat].vars 0 := rfl
      omega
  obtain ⟨l, hl1, hl2⟩ := G.shape own.toNat _ (List.getElem?_eq_getElem hlt)
  have hne : l ≠ [] := fun e => by rw [e] at hl2; simp at hl2; omega
  have hsl : own.toNat < m.state.length := (List.getElem?_eq_some_iff.1 hl1).1
  obtain ⟨q, r, v1, v2, v3, v4, v5, v6⟩ := R0.var (fun _ => rfl) hl1 hne
  have hx1 : indexAddrA T 32 nm.sv (.int .i64 own) = some (.hp q (own.toNat * 2)) := by
    rw [v1]
    have := ixh (t := 32) rfl rfl rfl (l := q) (off := 0) (len := m.state.length) (sz := 2) (ag := true) (n := own) (by omega) (by omega)
    rw [this]
    simp
  have lv : ∀ g : AV → M AV, bnd (loadH T 23 (.hp q (own.toNat * 2 + 1))) g h = g (.hs r 0 l.length 4 true) h := fun g => bnd_ok (loadH_one rfl rfl v2 v3)
  simp -implicitDefEqProofs only [hx1, bnd_some, FH47_1, lv] at hcode
  generalize hI : fldAt p[own.toNat].vars es = I at *
  have hI2 : fldAt p[own.toNat].vars (Exp.mk op en es em en2 ea).s = I := hI
  rw [hI2]
  have hx2 : indexAddrA T 23 (.hs r 0 l.length 4 true) (.int .i64 I) = some (.hp r (I.toNat * 4)) := by
    have := ixh (t := 23) rfl rfl rfl (l := r) (off := 0) (len := l.length) (sz := 4) (ag := true) (n := I) (by omega) (by omega)
    rw [this]
    simp
  have hk : I.toNat < l.length := by omega
  by_cases h18 : op = 18
  · have h18x : (Exp.mk op en es em en2 ea).op = 18 := h18
    simp only [if_pos h18x]
    obtain ⟨a, rfl⟩ := hlen (.inr h18)
    have ha : expLim a := expLim_arg he (by simp)
    have hb18 : (op == 18) = true := by simp [h18]
    have hex : loadA T 28 (.ip (acells a.av)) = some a.av := by simp
    have e0 : (Exp.mk op en es em en2 [a]).args[0]! = a := rfl
    simp -implicitDefEqProofs only [hb18, if_true, ixe0, bnd_some, hex] at hcode
    rw [← hcode, e0]
    refine out_bind (IH own ns vs a _ _ Rk G hn hs ha) fun v s1 h2 hv R2 => ?_
    obtain ⟨G2, rv, f2⟩ := G.eval hs.right hv
    obtain ⟨tag2, dv2, cv2, sv2, R20⟩ := R2
    obtain ⟨l', hl1', hl2'⟩ := G2.shape own.toNat _ (List.getElem?_eq_getElem hlt)
    have hne' : l' ≠ [] := fun e => by rw [e] at hl2'; simp at hl2'; omega
    obtain ⟨q', r', w1, w2, w3, w4, w5, w6⟩ := R20.var (fun _ => rfl) hl1' hne'
    have hll : l'.length = l.length := by omega
    have hrr : r' = r := by
      rw [v3] at w3
      simp only [Option.some.injEq, AV.hs.injEq] at w3
      exact w3.1.symm
    subst hrr
    have hst : storeH T 39 (.hp r' (I.toNat * 4)) v.av h2 = .ok (.tup []) (h2.set r' (valCells (l'.set I.toNat v))) := by
      have := storeH_ok (T := T) (t := 39) rfl w5 (v := v.av) (k := I.toNat * 4) (okEl_val v) (by rw [valCells_len]; show I.toNat * 4 + 4 ≤ _; omega) (by decide)
      rw [this, valCells_set (by omega)]
    have R3 := w6 I.toNat v (by omega)
    have hset : ((s1.state[own.toNat]?.getD []).set I.toNat v) = l'.set I.toNat v := by rw [hl1']; rfl
    have hld2 : loadH T 39 (.hp r' (I.toNat * 4)) (h2.set r' (valCells (l'.set I.toNat v))) = .ok v.av (h2.set r' (valCells (l'.set I.toNat v))) := by
      have hlt2 : r' < h2.length := (List.getElem?_eq_some_iff.1 w5).1
      have := loadH_agg (T := T) (t := 39) rfl rfl (h := h2.set r' (valCells (l'.set I.toNat v))) (l := r') (k := I.toNat * 4) (List.getElem?_set_self hlt2) (by rw [valCells_len, List.length_set]; show I.toNat * 4 + 4 ≤ _; omega)
      rw [this]
      have hg := valCells_get (l := l'.set I.toNat v) (k := I.toNat) (by simp; omega)
      show Av.R.ok (AV.agg (((valCells (l'.set I.toNat v)).drop (I.toNat * 4)).take 4)) _ = _
      rw [hg, List.getElem_set_self]
      rw [Val.av_eq]
      rfl
    generalize hcode2 : bnd (lft (indexAddrA T 23 (.hs r' 0 l.length 4 true) (.int .i64 I))) _ h2 = code2
    simp -implicitDefEqProofs only [hx2, bnd_some] at hcode2
    rw [bnd_ok hst] at hcode2
    simp -implicitDefEqProofs only [K81_1, nth_zero, nth_succ, hx2, bnd_some] at hcode2
    rw [bnd_ok hld2, wrap4'] at hcode2
    rw [← hcode2]
    exact ⟨_, rfl, tag2, dv2, cv2, sv2, R3⟩
  · have h18x : ¬ ((Exp.mk op en es em en2 ea).op = 18) := h18
    have hb18 : (op == 18) = false := by simpa using h18
    have hld2 : loadH T 39 (.hp r (I.toNat * 4)) h = .ok (l[I.toNat]).av h := by
      have := loadH_agg (T := T) (t := 39) rfl rfl (h := h) (l := r) (k := I.toNat * 4) v5 (by rw [valCells_len]; show I.toNat * 4 + 4 ≤ _; omega)
      rw [this]
      have hg := valCells_get (l := l) (k := I.toNat) hk
      show Av.R.ok (AV.agg (((valCells l).drop (I.toNat * 4)).take 4)) _ = _
      rw [hg, Val.av_eq]
      rfl
    simp only [if_neg h18x]
    simp -implicitDefEqProofs only [hb18, Bool.false_eq_true, if_false, K81_1, nth_zero, nth_succ, hx2, bnd_some] at hcode
    rw [bnd_ok hld2, wrap4'] at hcode
    rw [← hcode]
    have hgs : getSt m.state own.toNat I.toNat = l[I.toNat] := by
      simp [getSt, List.getD_eq_getElem?_getD, hl1, hk]
    show OutG p nm Val.av (X.ok (getSt m.state own.toNat I.toNat) m) _
    rw [hgs]
    exact out_pure Rk
end Go.Proofs.Ytgbopmciiadmlaa
