/- The expression of a type: the reference's is the program's. No condition. -/
import Derived.Test.YteemeakjlfnapaaGreatDoorRef15B
namespace Go.Proofs.YteemeakjlfnapaaGreatDoor
open Go Go.Av Go.Av.Ap
set_option maxRecDepth 100000
mutual
def witF : Ty → Exp
  | .mk k fs => if k = 0 then .mk 0 0 [] [] [] [] else if k = 1 then .mk 1 0 [] [] [] [] else .mk 13 0 [] [] (fs.map (·.1)) (witFs fs)
def witFs : List (Str × Ty) → List Exp
  | [] => []
  | f :: fs => witG f :: witFs fs
def witG : Str × Ty → Exp
  | (_, t) => witF t
end
theorem witFs_map : (fs : List Fld) → witFs fs = fs.map fun f => witF f.2
  | [] => rfl
  | (n, t) :: fs => by simp [witFs, witG, witFs_map fs]
theorem witF_eq (t : Ty) : witF t = if t.kind = 0 then .mk 0 0 [] [] [] [] else if t.kind = 1 then .mk 1 0 [] [] [] [] else .mk 13 0 [] [] (t.fields.map (·.1)) (t.fields.map fun f => witF f.2) := by
  cases t with
  | mk k fs =>
    simp only [witF, witFs_map]
    rfl
def witW (t : Ty) : Exp := if rightT t = true then witF t else .mk 0 0 [] [] [] []
theorem right_mono : (d : Nat) → (t : Ty) → rightN d t = true → rightN (d + 1) t = true
  | 0, _, h => by cases h
  | d + 1, t, h => by
    rw [rightN_succ] at h ⊢
    simp only [Bool.and_eq_true, List.all_eq_true] at h ⊢
    exact ⟨h.1, fun f hf => ⟨(h.2.1 f hf).1, right_mono d f.2 (h.2.1 f hf).2⟩, h.2.2⟩
theorem right_le {d e : Nat} (h : d ≤ e) {t : Ty} (hr : rightN d t = true) : rightN e t = true := by
  induction e with
  | zero =>
    have e : d = 0 := by omega
    rw [e] at hr
    exact hr
  | succ e ih =>
    rcases Nat.lt_or_ge d (e + 1) with g | g
    · exact right_mono e t (ih (by omega))
    · have e' : d = e + 1 := by omega
      rw [e'] at hr
      exact hr
theorem exp_z (k : Int) : buildA T false 47 [(0, .int .i64 k)] = some (Exp.mk k 0 [] [] [] []).av := rfl
theorem str1 (s : Str) : buildSliceA T 35 1 [(0, .str s)] = some (strs [s]) := rfl
theorem exp1 (e : Exp) : buildSliceA T 36 1 [(0, e.av)] = some (exps [e]) := by
  have h : buildSliceA T 36 1 [(0, e.av)] = (fillEls 6 [AV.agg [.int .i64 0, .int .i64 0, .str [], .str [], .sl [], .sl []]] [(0, e.av)]).map .sl := rfl
  rw [h]
  simp [fillEls, exps, expsAv]
  rfl
@[simp] theorem cell_strs (l : List Str) : cell1M (strs l) = M.pure (strs l) := rfl
@[simp] theorem cell_exps (l : List Exp) : cell1M (exps l) = M.pure (exps l) := by rw [exps, expsAv_map]; rfl
theorem loop68 (t : Ty) (h8 : t.fields.length ≤ 8) (hk : ∀ f ∈ t.fields, callW pg 68 [f.2.av] = M.pure (witF f.2).av) (x3 x4 x5 x6 x7 x8 : AV) : ∀ (n i : Nat), t.fields.length - i = n → i ≤ t.fields.length → ∀ (ns : List Str) (es : List Exp), ns.length = i → es.length = i →
    fixW (L68_0 (callW pg) fixW) [flds t.fields, .int .i64 t.fields.length, .int .i64 i, x3, x4, x5, x6, x7, x8, .int .i64 13, .int .i64 0, .str [], .str [], strs ns, exps es] = M.pure (Exp.mk 13 0 [] [] (ns ++ (t.fields.drop i).map (·.1)) (es ++ (t.fields.drop i).map fun f => witF f.2)).av := by
  intro n
  induction n with
  | zero =>
    intro i hn hi ns es hns hes
    rw [FL68_0]
    have h1 : ¬ ((i : Int) < (t.fields.length : Int)) := by omega
    have h2 : t.fields.drop i = [] := List.drop_eq_nil_of_le (by omega)
    have h3 : AV.agg [.int .i64 13, .int .i64 0, .str [], .str [], strs ns, exps es] = (Exp.mk 13 0 [] [] ns es).av := fold_exp (Exp.mk 13 0 [] [] ns es)
    have h4 : cellsNil 6 [] (Exp.mk 13 0 [] [] ns es).av = M.pure (Exp.mk 13 0 [] [] ns es).av := by rw [cellsNil_of (okEl_exp _), acells_exp, fold_exp]
    simp only [L68_0, nth_zero, nth_succ, bin_lss, bnd_some, h1, decide_false, condM_bool, Bool.false_eq_true, if_false, h3, h4, bnd_pure, acells_exp, fold_exp, h2, List.map_nil, List.append_nil]
  | succ n ih =>
    intro i hn hi ns es hns hes
    have hlt : i < t.fields.length := by omega
    have h1 : (i : Int) < (t.fields.length : Int) := by omega
    have h2 : t.fields.drop i = t.fields[i] :: t.fields.drop (i + 1) := List.drop_eq_getElem_cons hlt
    have hix := IX25 (l := t.fields) (n := (i : Int)) (by omega) h1
    rw [Int.toNat_natCast, getElem!_pos t.fields i hlt] at hix
    have hm := hk t.fields[i] (List.getElem_mem hlt)
    have hw : IntKind.i64.wrap ((i : Int) + 1) = ((i + 1 : Nat) : Int) := wrap_add1 (by omega)
    have ih' := ih (i + 1) (by omega) (by omega) (ns ++ [(t.fields[i]).1]) (es ++ [witF (t.fields[i]).2]) (by simp [hns]) (by simp [hes])
    rw [List.append_assoc, List.append_assoc, List.singleton_append, List.singleton_append] at ih'
    rw [h2, List.map_cons, List.map_cons, ← ih', FL68_0]
    generalize t.fields[i] = f at hix hm ⊢
    have ha := AP35 (a := ns) (b := [f.1]) (by simp; omega)
    have hb := AP36 (a := es) (b := [witF f.2]) (by simp; omega)
    have hc : cellsM 3 (fldAv f) = M.pure (fldAv f) := by rw [cellsM_of (okEl_fld f), acells_fld, fold_fld]
    simp only [L68_0, nth_zero, nth_succ, bin_lss, bnd_some, h1, decide_true, condM_bool, if_true, hix, acells_fld, LD76, List.length_cons, List.length_nil, Nat.zero_add, Nat.reduceAdd, Nat.le_refl, List.take_succ_cons, List.take_zero, fold_fld, hc, bnd_pure, FA76_0, FA76_1, List.drop_zero, List.drop_succ_cons, LD9, str1, ha, cell_strs, LD27, fold_ty, hm, noPan_pure, exp1, hb, cell_exps, bin_add, hw]
theorem t68 : ∀ (d : Nat) (t : Ty), t.Lim → rightN d t = true → callW pg 68 [t.av] = M.pure (witF t).av
  | 0, _, _, h => by cases h
  | d + 1, t, ht, h => by
    have hr := h
    rw [rightN_succ] at hr
    simp only [Bool.and_eq_true, List.all_eq_true] at hr
    have h8 : t.fields.length ≤ 8 := of_decide_eq_true hr.1.1.2
    have hloop := loop68 t h8 (fun f hf => t68 d f.2 (ht.kid hf) (hr.2.1 f hf).2) (.int .i64 0) (.int .i64 0) (.str []) (.str []) (.sl []) (.sl []) t.fields.length 0 rfl (Nat.zero_le _) [] [] rfl rfl
    rw [List.drop_zero, List.nil_append, List.nil_append] at hloop
    have h' : fixW (L68_0 (callW pg) fixW) [flds t.fields, .int .i64 t.fields.length, .int .i64 0, .int .i64 0, .int .i64 0, .str [], .str [], .sl [], .sl [], .int .i64 13, .int .i64 0, .str [], .str [], .sl [], .sl []] = M.pure (Exp.mk 13 0 [] [] (t.fields.map (·.1)) (t.fields.map fun f => witF f.2)).av := hloop
    have hb : ∃ v, buildA T true 47 [(0, .int .i64 13)] = some v ∧ cellsNil 6 [4, 5] v = M.pure v ∧ acells v = [.int .i64 13, .int .i64 0, .str [], .str [], .hn, .hn] := ⟨_, rfl, rfl, rfl⟩
    obtain ⟨v, hb1, hb2, hb3⟩ := hb
    have hz : ∀ k : Int, cellsNil 6 [] (Exp.mk k 0 [] [] [] []).av = M.pure (Exp.mk k 0 [] [] [] []).av := fun k => by rw [cellsNil_of (okEl_exp _), acells_exp, fold_exp]
    rw [C68, witF_eq]
    by_cases k0 : t.kind = 0
    · have k0' : (t.kind == 0) = true := by simp [k0]
      simp [S68, k0', k0, exp_z, hz]
    · have k0' : (t.kind == 0) = false := beq_eq_false_iff_ne.2 k0
      by_cases k1 : t.kind = 1
      · have k1' : (t.kind == 1) = true := by simp [k1]
        simp [S68, k1', k1, exp_z, hz]
      · have k1' : (t.kind == 1) = false := beq_eq_false_iff_ne.2 k1
        rw [if_neg k0, if_neg k1]
        simp [S68, k0', k1', hb1, hb2, hb3, h']
theorem t23 (t : Ty) (ht : t.Lim) : callW pg 23 [t.av] = M.pure (witW t).av := by
  have h1 := t73 t ht
  have hz : cellsNil 6 [] (Exp.mk 0 0 [] [] [] []).av = M.pure (Exp.mk 0 0 [] [] [] []).av := by rw [cellsNil_of (okEl_exp _), acells_exp, fold_exp]
  have e0 : buildA T false 47 [] = some (Exp.mk 0 0 [] [] [] []).av := rfl
  rw [C23]
  unfold witW
  cases hr : rightT t with
  | false => rw [hr] at h1; simp [S23, h1, e0, hz]
  | true =>
    rw [hr] at h1
    have h2 := t68 4 t ht hr
    have hw : cellsNil 6 [] (witF t).av = M.pure (witF t).av := by rw [cellsNil_of (okEl_exp _), acells_exp, fold_exp]
    simp [S23, h1, h2, hw]
theorem loop24 (t : Ty) (h8 : t.fields.length ≤ 8) (hk : ∀ f ∈ t.fields, callW pg 24 [f.2.av] = M.pure (witF f.2).av) (x3 x4 x5 x6 x7 x8 : AV) : ∀ (n i : Nat), t.fields.length - i = n → i ≤ t.fields.length → ∀ (ns : List Str) (es : List Exp), ns.length = i → es.length = i →
    fixW (L24_0 (callW pg) fixW) [.ip (acells t.av), .int .i64 i, x3, x4, x5, x6, x7, x8, .int .i64 13, .int .i64 0, .str [], .str [], strs ns, exps es] = M.pure (Exp.mk 13 0 [] [] (ns ++ (t.fields.drop i).map (·.1)) (es ++ (t.fields.drop i).map fun f => witF f.2)).av := by
  intro n
  induction n with
  | zero =>
    intro i hn hi ns es hns hes
    rw [FL24_0]
    have h1 : ¬ ((i : Int) < (t.fields.length : Int)) := by omega
    have h2 : t.fields.drop i = [] := List.drop_eq_nil_of_le (by omega)
    have h3 : AV.agg [.int .i64 13, .int .i64 0, .str [], .str [], strs ns, exps es] = (Exp.mk 13 0 [] [] ns es).av := fold_exp (Exp.mk 13 0 [] [] ns es)
    have h4 : cellsNil 6 [] (Exp.mk 13 0 [] [] ns es).av = M.pure (Exp.mk 13 0 [] [] ns es).av := by rw [cellsNil_of (okEl_exp _), acells_exp, fold_exp]
    simp only [L24_0, nth_zero, nth_succ, acells_ty, FA27_1, bnd_some, List.drop_succ_cons, List.drop_zero, LD25, LENE25, bin_lss, h1, decide_false, condM_bool, Bool.false_eq_true, if_false, h3, h4, bnd_pure, acells_exp, fold_exp, h2, List.map_nil, List.append_nil]
  | succ n ih =>
    intro i hn hi ns es hns hes
    have hlt : i < t.fields.length := by omega
    have h1 : (i : Int) < (t.fields.length : Int) := by omega
    have h2 : t.fields.drop i = t.fields[i] :: t.fields.drop (i + 1) := List.drop_eq_getElem_cons hlt
    have hix := IX25 (l := t.fields) (n := (i : Int)) (by omega) h1
    rw [Int.toNat_natCast, getElem!_pos t.fields i hlt] at hix
    have hm := hk t.fields[i] (List.getElem_mem hlt)
    have hw : IntKind.i64.wrap ((i : Int) + 1) = ((i + 1 : Nat) : Int) := wrap_add1 (by omega)
    have ih' := ih (i + 1) (by omega) (by omega) (ns ++ [(t.fields[i]).1]) (es ++ [witF (t.fields[i]).2]) (by simp [hns]) (by simp [hes])
    rw [List.append_assoc, List.append_assoc, List.singleton_append, List.singleton_append] at ih'
    rw [h2, List.map_cons, List.map_cons, ← ih', FL24_0]
    generalize t.fields[i] = f at hix hm ⊢
    have ha := AP35 (a := ns) (b := [f.1]) (by simp; omega)
    have hb := AP36 (a := es) (b := [witF f.2]) (by simp; omega)
    simp only [L24_0, nth_zero, nth_succ, acells_ty, FA27_1, LD25, LENE25, bin_lss, bnd_some, h1, decide_true, condM_bool, if_true, hix, acells_fld, List.length_cons, List.length_nil, Nat.zero_add, Nat.reduceAdd, Nat.le_refl, List.take_succ_cons, List.take_zero, bnd_pure, FA76_0, FA76_1, List.drop_zero, List.drop_succ_cons, LD9, str1, ha, cell_strs, LD27, fold_ty, hm, noPan_pure, exp1, hb, cell_exps, bin_add, hw]
theorem t24_right : ∀ (d : Nat), d ≤ 4 → ∀ (t : Ty), t.Lim → rightN d t = true → callW pg 24 [t.av] = M.pure (witF t).av
  | 0, _, _, _, h => by cases h
  | d + 1, hd, t, ht, h => by
    have hr := h
    rw [rightN_succ] at hr
    simp only [Bool.and_eq_true, List.all_eq_true] at hr
    have h8 : t.fields.length ≤ 8 := of_decide_eq_true hr.1.1.2
    have h1 := t74 t ht
    rw [show rightT t = true from right_le hd h] at h1
    have hloop := loop24 t h8 (fun f hf => t24_right d (by omega) f.2 (ht.kid hf) (hr.2.1 f hf).2) (.int .i64 0) (.int .i64 0) (.str []) (.str []) (.sl []) (.sl []) t.fields.length 0 rfl (Nat.zero_le _) [] [] rfl rfl
    rw [List.drop_zero, List.nil_append, List.nil_append] at hloop
    have h' : fixW (L24_0 (callW pg) fixW) [.ip [.int .i64 t.kind, flds t.fields], .int .i64 0, .int .i64 0, .int .i64 0, .str [], .str [], .sl [], .sl [], .int .i64 13, .int .i64 0, .str [], .str [], .sl [], .sl []] = M.pure (Exp.mk 13 0 [] [] (t.fields.map (·.1)) (t.fields.map fun f => witF f.2)).av := by
      simp only [acells_ty] at hloop
      exact hloop
    have hb : ∃ v, buildA T true 47 [(0, .int .i64 13)] = some v ∧ cellsNil 6 [4, 5] v = M.pure v ∧ acells v = [.int .i64 13, .int .i64 0, .str [], .str [], .hn, .hn] := ⟨_, rfl, rfl, rfl⟩
    obtain ⟨v, hb1, hb2, hb3⟩ := hb
    have hz : ∀ k : Int, cellsNil 6 [] (Exp.mk k 0 [] [] [] []).av = M.pure (Exp.mk k 0 [] [] [] []).av := fun k => by rw [cellsNil_of (okEl_exp _), acells_exp, fold_exp]
    rw [C24, witF_eq]
    by_cases k0 : t.kind = 0
    · have k0' : (t.kind == 0) = true := by simp [k0]
      have k1' : (t.kind == 1) = false := by simp [k0]
      rw [if_pos k0]
      simp [S24, h1, k0', k1', exp_z, hz]
    · have k0' : (t.kind == 0) = false := beq_eq_false_iff_ne.2 k0
      by_cases k1 : t.kind = 1
      · have k1' : (t.kind == 1) = true := by simp [k1]
        rw [if_neg k0, if_pos k1]
        simp [S24, h1, k1', exp_z, hz]
      · have k1' : (t.kind == 1) = false := beq_eq_false_iff_ne.2 k1
        rw [if_neg k0, if_neg k1]
        simp [S24, h1, k0', k1', hb1, hb2, hb3, h']
theorem t24 (t : Ty) (ht : t.Lim) : callW pg 24 [t.av] = M.pure (witW t).av := by
  unfold witW
  cases hr : rightT t with
  | true => exact t24_right 4 (Nat.le_refl _) t ht hr
  | false =>
    have h1 := t74 t ht
    have hz : cellsNil 6 [] (Exp.mk 0 0 [] [] [] []).av = M.pure (Exp.mk 0 0 [] [] [] []).av := by rw [cellsNil_of (okEl_exp _), acells_exp, fold_exp]
    have e0 : buildA T false 47 [] = some (Exp.mk 0 0 [] [] [] []).av := rfl
    rw [hr] at h1
    rw [C24]
    simp [S24, h1, e0, hz]
end Go.Proofs.YteemeakjlfnapaaGreatDoor
