/- The reference's functions of interfaces are the program's. No condition. -/
import Derived.Test.YteemeakjlfnapaaGreatDoorRef16
import Derived.Test.YteemeakjlfnapaaGreatDoorFcT2
import Derived.Test.YteemeakjlfnapaaGreatDoorLd
namespace Go.Proofs.YteemeakjlfnapaaGreatDoor
open Go Go.Av Go.Av.Ap
set_option maxRecDepth 100000
theorem and_exceeds {a b : Int} (h1 : -9223372036854775808 ≤ a) (h2 : a ≤ 9223372036854775807) : (andI a b == a) = (exceeds a b == 0) := by
  rw [Bool.eq_iff_iff]
  constructor
  · intro h
    rw [exceeds_iff]
    have h' : BitVec.ofInt 64 (andI a b) = BitVec.ofInt 64 a := by rw [beq_iff_eq.1 h]
    unfold andI at h'
    rw [of_wrap] at h'
    generalize BitVec.ofInt 64 a = x at *
    generalize BitVec.ofInt 64 b = y at *
    apply BitVec.eq_of_getLsbD_eq
    intro i hi
    have e1 := congrArg (·.getLsbD i) h'
    simp only [BitVec.getLsbD_and, BitVec.getLsbD_not, hi, decide_true, Bool.true_and, BitVec.getLsbD_zero] at e1 ⊢
    generalize x.getLsbD i = p at *
    generalize y.getLsbD i = q at *
    clear h h'
    revert p q
    decide
  · intro h
    exact beq_iff_eq.2 (and_of_exceeds h1 h2 h)
theorem exceeds_all {a : Int} (h1 : -9223372036854775808 ≤ a) (h2 : a ≤ 9223372036854775807) : (exceeds a 15 == 0) = (decide (0 ≤ a) && decide (a ≤ 15)) := by
  rw [← and_exceeds h1 h2, Bool.eq_iff_iff, beq_iff_eq, Bool.and_eq_true, decide_eq_true_eq, decide_eq_true_eq]
  have hlt := (BitVec.ofInt 64 a).isLt
  have ha := wrap_of h1 h2
  have e : (BitVec.ofInt 64 a &&& BitVec.ofInt 64 15).toNat = (BitVec.ofInt 64 a).toNat % 16 := by
    rw [BitVec.toNat_and]
    exact Nat.and_two_pow_sub_one_eq_mod _ 4
  unfold andI
  rw [e]
  generalize (BitVec.ofInt 64 a).toNat = n at *
  rw [wrap64 _ hlt] at ha
  rw [wrap64 _ (by omega)]
  constructor
  · intro h
    split at h <;> split at ha <;> omega
  · rintro ⟨g1, g2⟩
    split <;> split at ha <;> omega
def sigR : Option Sig → AV
  | some s => .tup [s.av, .bool true]
  | none => .tup [sig0.av, .bool false]
theorem loop38 (f : Face) (hf : f.Lim) (name : Str) (x3 x4 x5 x6 x7 : AV) : ∀ (n i : Nat), f.funcs.length - i = n → i ≤ f.funcs.length →
    fixW (L38_0 (callW pg) fixW) [.str name, .ip (acells f.av), .int .i64 i, x3, x4, x5, x6, x7] = M.pure (sigR ((f.funcs.drop i).find? fun s => s.name == name)) := by
  have hlen := hf.len
  intro n
  induction n with
  | zero =>
    intro i hn hi
    rw [FL38_0]
    have h1 : ¬ ((i : Int) < (f.funcs.length : Int)) := by omega
    have h2 : f.funcs.drop i = [] := List.drop_eq_nil_of_le (by omega)
    have e1 : buildA T false 56 [] = some sig0.av := rfl
    simp only [L38_0, nth_zero, nth_succ, acells_face, FA24_1, bnd_some, List.drop_succ_cons, List.drop_zero, LD22, LENE22, bin_lss, h1, decide_false, condM_bool, Bool.false_eq_true, if_false, e1, cellsNil_sig, bnd_pure, acells_sig, fold_sig, h2, List.find?_nil, sigR]
  | succ n ih =>
    intro i hn hi
    have hlt : i < f.funcs.length := by omega
    have h1 : (i : Int) < (f.funcs.length : Int) := by omega
    have h2 : f.funcs.drop i = f.funcs[i] :: f.funcs.drop (i + 1) := List.drop_eq_getElem_cons hlt
    have hix := IX22 (l := f.funcs) (n := (i : Int)) (by omega) h1
    rw [Int.toNat_natCast, getElem!_pos f.funcs i hlt] at hix
    have hw : IntKind.i64.wrap ((i : Int) + 1) = ((i + 1 : Nat) : Int) := wrap_add1 (by omega)
    have ih' := ih (i + 1) (by omega) (by omega)
    simp only [acells_face] at ih'
    rw [h2, FL38_0, List.find?_cons]
    generalize f.funcs[i] = s at hix ⊢
    cases hs : s.name == name with
    | true =>
      simp only [L38_0, nth_zero, nth_succ, acells_face, FA24_1, bnd_some, List.drop_succ_cons, List.drop_zero, LD22, LENE22, bin_lss, h1, decide_true, condM_bool, if_true, hix, acells_sig, FA56_0, LD9, str_eql, hs, LD56, List.length_cons, List.length_nil, Nat.zero_add, Nat.reduceAdd, Nat.le_refl, List.take_succ_cons, List.take_zero, fold_sig, cellsNil_sig, bnd_pure, sigR]
    | false =>
      simp only [L38_0, nth_zero, nth_succ, acells_face, FA24_1, bnd_some, List.drop_succ_cons, List.drop_zero, LD22, LENE22, bin_lss, h1, decide_true, condM_bool, if_true, hix, acells_sig, FA56_0, LD9, str_eql, hs, Bool.false_eq_true, if_false, bin_add, hw, ih']
theorem t38 (f : Face) (hf : f.Lim) (name : Str) : callW pg 38 [f.av, .str name] = M.pure (sigR (findS f name)) := by
  have h := loop38 f hf name (.str []) (.sl []) (.int .i64 0) (.sl []) (.int .i64 0) f.funcs.length 0 rfl (Nat.zero_le _)
  rw [List.drop_zero] at h
  have h' : fixW (L38_0 (callW pg) fixW) [.str name, .ip (acells f.av), .int .i64 0, .str [], .sl [], .int .i64 0, .sl [], .int .i64 0] = M.pure (sigR (findS f name)) := h
  rw [C38]
  simp only [S38, cl_face, cl_str, h']
  cases findS f name with
  | none => exact isoP_pure fun g => by simp [sigR, cl, cls]
  | some s => exact isoP_pure fun g => by simp [sigR, cl, cls]
theorem loop45 (a b : Sig) (ha : a.Lim) (hb : b.Lim) (hl : a.params.length = b.params.length) : ∀ (n i : Nat), a.params.length - i = n → i ≤ a.params.length →
    fixW (L45_0 (callW pg) fixW) [.ip (acells a.av), .ip (acells b.av), .int .i64 i] = M.pure (.bool (all2 subT (b.params.drop i) (a.params.drop i))) := by
  have hlen := ha.plen
  intro n
  induction n with
  | zero =>
    intro i hn hi
    rw [FL45_0]
    have h1 : ¬ ((i : Int) < (a.params.length : Int)) := by omega
    have h2 : a.params.drop i = [] := List.drop_eq_nil_of_le (by omega)
    have h3 : b.params.drop i = [] := List.drop_eq_nil_of_le (by omega)
    simp only [L45_0, nth_zero, nth_succ, acells_sig, FA56_1, bnd_some, List.drop_succ_cons, List.drop_zero, LD54, LENE54, bin_lss, h1, decide_false, condM_bool, Bool.false_eq_true, if_false, h2, h3, all2]
  | succ n ih =>
    intro i hn hi
    have hlt : i < a.params.length := by omega
    have hltb : i < b.params.length := by omega
    have h1 : (i : Int) < (a.params.length : Int) := by omega
    have hix := IX54 (l := a.params) (n := (i : Int)) (by omega) h1
    rw [Int.toNat_natCast, getElem!_pos a.params i hlt] at hix
    have hix2 := IX54 (l := b.params) (n := (i : Int)) (by omega) (by omega)
    rw [Int.toNat_natCast, getElem!_pos b.params i hltb] at hix2
    have hw : IntKind.i64.wrap ((i : Int) + 1) = ((i + 1 : Nat) : Int) := wrap_add1 (by omega)
    have ih' := ih (i + 1) (by omega) (by omega)
    simp only [acells_sig] at ih'
    have hs := t112 b.params[i] a.params[i] (hb.ptys _ (List.getElem_mem hltb)) (ha.ptys _ (List.getElem_mem hlt))
    rw [all2_drop subT b.params a.params i hltb hlt, FL45_0]
    generalize a.params[i] = t at hix hs ⊢
    generalize b.params[i] = u at hix2 hs ⊢
    cases hst : subT u t <;> rw [hst] at hs <;>
    simp only [L45_0, nth_zero, nth_succ, acells_sig, FA56_1, bnd_some, List.drop_succ_cons, List.drop_zero, LD54, LENE54, bin_lss, h1, decide_true, condM_bool, if_true, hix, hix2, acells_ty, LD27, List.length_cons, List.length_nil, Nat.zero_add, Nat.reduceAdd, Nat.le_refl, List.take_succ_cons, List.take_zero, fold_ty, hs, noPan_pure, bnd_pure, unA_not, Bool.not_true, Bool.not_false, Bool.false_eq_true, if_false, bin_add, hw, ih', Bool.true_and, Bool.false_and]
theorem t45 (a b : Sig) (ha : a.Lim) (hb : b.Lim) (h1 : -9223372036854775808 ≤ a.effects) (h2 : a.effects ≤ 9223372036854775807) : callW pg 45 [a.av, b.av] = M.pure (.bool (subS a b)) := by
  have hs := t112 a.result b.result ha.result hb.result
  have hae := and_exceeds (b := b.effects) h1 h2
  have hand : binA T .and 3 (.int .i64 a.effects) (.int .i64 b.effects) = some (.int .i64 (andI a.effects b.effects)) := rfl
  rw [C45]
  unfold subS
  by_cases hl : a.params.length = b.params.length
  · have hloop := loop45 a b ha hb hl a.params.length 0 rfl (Nat.zero_le _)
    rw [List.drop_zero, List.drop_zero] at hloop
    have h' : fixW (L45_0 (callW pg) fixW) [.ip (acells a.av), .ip (acells b.av), .int .i64 0] = M.pure (.bool (all2 subT b.params a.params)) := hloop
    simp only [acells_sig] at h'
    rw [← hae]
    generalize all2 subT b.params a.params = q at h' ⊢
    cases hst : subT a.result b.result with
    | false => rw [hst] at hs; simp [S45, hl, hs]
    | true =>
      rw [hst] at hs
      by_cases he : andI a.effects b.effects = a.effects
      · simp [S45, hl, hs, hand, he, h']
      · have he' : (andI a.effects b.effects == a.effects) = false := beq_eq_false_iff_ne.2 he
        simp [S45, hl, hs, hand, he, he']
  · have hq : all2 subT b.params a.params = false := all2_length subT _ _ fun e => hl e.symm
    have hl' : ¬ ((a.params.length : Int) = (b.params.length : Int)) := by omega
    have hl2 : (a.params.length != b.params.length) = true := by simpa using hl
    simp [S45, hq, hl, hl', hl2]
theorem loopP41 (v10 : List AV → M AV) (s : Sig) (hs : s.Lim) (x0 : AV) (k : Nat) (hk : k ≤ 4611686018427387904) : ∀ (n i : Nat), s.params.length - i = n → i ≤ s.params.length →
    fixW (L41_0 (callW pg) fixW v10) [x0, .int .i64 k, .ip (acells s.av), .int .i64 i] = if (s.params.drop i).all rightT = true then v10 [x0, .int .i64 ((k + 1 : Nat) : Int)] else M.pure (.bool false) := by
  have hlen := hs.plen
  have hwk : IntKind.i64.wrap ((k : Int) + 1) = ((k + 1 : Nat) : Int) := wrap_add1 hk
  intro n
  induction n with
  | zero =>
    intro i hn hi
    rw [FL41_0]
    have h1 : ¬ ((i : Int) < (s.params.length : Int)) := by omega
    have h2 : s.params.drop i = [] := List.drop_eq_nil_of_le (by omega)
    simp only [L41_0, nth_zero, nth_succ, acells_sig, FA56_1, bnd_some, List.drop_succ_cons, List.drop_zero, LD54, LENE54, bin_lss, h1, decide_false, condM_bool, Bool.false_eq_true, if_false, h2, List.all_nil, if_true, bin_add, hwk]
  | succ n ih =>
    intro i hn hi
    have hlt : i < s.params.length := by omega
    have h1 : (i : Int) < (s.params.length : Int) := by omega
    have h2 : s.params.drop i = s.params[i] :: s.params.drop (i + 1) := List.drop_eq_getElem_cons hlt
    have hix := IX54 (l := s.params) (n := (i : Int)) (by omega) h1
    rw [Int.toNat_natCast, getElem!_pos s.params i hlt] at hix
    have hw : IntKind.i64.wrap ((i : Int) + 1) = ((i + 1 : Nat) : Int) := wrap_add1 (by omega)
    have ih' := ih (i + 1) (by omega) (by omega)
    simp only [acells_sig] at ih'
    have hr := t74 s.params[i] (hs.ptys _ (List.getElem_mem hlt))
    rw [h2, List.all_cons, FL41_0]
    generalize s.params[i] = t at hix hr ⊢
    cases hrt : rightT t <;> rw [hrt] at hr <;>
    simp only [L41_0, nth_zero, nth_succ, acells_sig, FA56_1, bnd_some, List.drop_succ_cons, List.drop_zero, LD54, LENE54, bin_lss, h1, decide_true, condM_bool, if_true, hix, acells_ty, LD27, List.length_cons, List.length_nil, Nat.zero_add, Nat.reduceAdd, Nat.le_refl, List.take_succ_cons, List.take_zero, fold_ty, hr, bnd_pure, unA_not, Bool.not_true, Bool.not_false, Bool.false_eq_true, if_false, bin_add, hw, ih', Bool.true_and, Bool.false_and]
def Face.Eff (f : Face) : Prop := ∀ s ∈ f.funcs, -9223372036854775808 ≤ s.effects ∧ s.effects ≤ 9223372036854775807
theorem t41 (f : Face) (hf : f.Lim) (he : Face.Eff f) : callW pg 41 [f.av] = M.pure (.bool (rightFc f)) := by
  have hlen := hf.len
  have hloop := fix_all (FL41_1 (callW pg)) (fun k => [.ip (acells f.av), .int .i64 (k : Int)]) f.funcs.length
    (fun k => rightS f.funcs[k]! && (decide (k = 0) || strLess (f.funcs[k - 1]!).name (f.funcs[k]!).name))
    (by simp [L41_1]) (fun k hk => by
      have h1 : (k : Int) < (f.funcs.length : Int) := by omega
      have hix := IX22 (l := f.funcs) (n := (k : Int)) (by omega) h1
      rw [Int.toNat_natCast] at hix
      have hm : f.funcs[k]! ∈ f.funcs := by rw [getElem!_pos f.funcs k hk]; exact List.getElem_mem hk
      have hsl := hf.sigs _ hm
      have hse := he _ hm
      generalize f.funcs[k]! = x at hix hm hsl hse ⊢
      have hn := t106 x.name
      have hr := t74 x.result hsl.result
      have hP := loopP41 (fixW (L41_1 (callW pg) fixW)) x hsl (.ip (acells f.av)) k (by omega) x.params.length 0 rfl (Nat.zero_le _)
      rw [List.drop_zero] at hP
      have hP' : fixW (L41_0 (callW pg) fixW (fixW (L41_1 (callW pg) fixW))) [.ip [.str f.module, sigs f.funcs], .int .i64 k, .ip [.str x.name, tys x.params, .int .i64 x.result.kind, flds x.result.fields, .int .i64 x.effects], .int .i64 0] = if x.params.all rightT = true then fixW (L41_1 (callW pg) fixW) [.ip [.str f.module, sigs f.funcs], .int .i64 ((k + 1 : Nat) : Int)] else M.pure (.bool false) := by
        simp only [acells_sig, acells_face] at hP
        exact hP
      have hx15 := exceeds_all hse.1 hse.2
      unfold rightS
      rw [hx15]
      generalize x.params.all rightT = q at hP' ⊢
      generalize rightT x.result = r at hr ⊢
      generalize nameP x.name = nm at hn ⊢
      have hp6 : decide (x.params.length ≤ 6) = !decide (6 < (x.params.length : Int)) := by
        by_cases h6 : x.params.length ≤ 6
        · have : ¬ (6 < (x.params.length : Int)) := by omega
          simp [h6, this]
        · have : 6 < (x.params.length : Int) := by omega
          simp [h6, this]
      rw [hp6]
      have he0 : decide (0 ≤ x.effects) = !decide (x.effects < 0) := by
        by_cases h : x.effects < 0
        · have : ¬ 0 ≤ x.effects := by omega
          simp [h, this]
        · have : 0 ≤ x.effects := by omega
          simp [h, this]
      have he15 : decide (x.effects ≤ 15) = !decide (15 < x.effects) := by
        by_cases h : 15 < x.effects
        · have : ¬ x.effects ≤ 15 := by omega
          simp [h, this]
        · have : x.effects ≤ 15 := by omega
          simp [h, this]
      rw [he0, he15]
      have hb6 : binA T .gtr 3 (.int .i64 x.params.length) (.int .i64 6) = some (.bool (decide (6 < (x.params.length : Int)))) := rfl
      have hbe : binA T .lss 3 (.int .i64 x.effects) (.int .i64 0) = some (.bool (decide (x.effects < 0))) := rfl
      have hbf : binA T .gtr 3 (.int .i64 x.effects) (.int .i64 15) = some (.bool (decide (15 < x.effects))) := rfl
      generalize decide (6 < (x.params.length : Int)) = p6 at hb6 ⊢
      generalize decide (x.effects < 0) = e0 at hbe ⊢
      generalize decide (15 < x.effects) = e15 at hbf ⊢
      clear hp6 he0 he15 hx15 hse
      rcases Nat.eq_zero_or_pos k with hk0 | hk0
      · subst hk0
        have hix0 : indexAddrA T 22 (sigs f.funcs) (.int .i64 0) = some (.ip (acells x.av)) := hix
        have hP0 : fixW (L41_0 (callW pg) fixW (fixW (L41_1 (callW pg) fixW))) [.ip [.str f.module, sigs f.funcs], .int .i64 0, .ip [.str x.name, tys x.params, .int .i64 x.result.kind, flds x.result.fields, .int .i64 x.effects], .int .i64 0] = if q = true then fixW (L41_1 (callW pg) fixW) [.ip [.str f.module, sigs f.funcs], .int .i64 1] else M.pure (.bool false) := hP'
        cases nm <;> cases p6 <;> cases e0 <;> cases e15 <;> cases r <;> simp [L41_1, hix0, hn, hr, hb6, hbe, hbf, hk, hP0]
      · have hp : IntKind.i64.wrap ((k : Int) - 1) = ((k - 1 : Nat) : Int) := by
          rw [wrap_in (by omega) (by omega)]; omega
        have h4 : ((k - 1 : Nat) : Int) < (f.funcs.length : Int) := by omega
        have hix2 := IX22 (l := f.funcs) (n := ((k - 1 : Nat) : Int)) (by omega) h4
        rw [Int.toNat_natCast] at hix2
        generalize f.funcs[k - 1]! = g at hix2 ⊢
        have hk1 : ¬ k = 0 := by omega
        have hk2 : 0 < (k : Int) := by omega
        generalize hsl2 : strLess g.name x.name = sl
        cases nm <;> cases sl <;> cases p6 <;> cases e0 <;> cases e15 <;> cases r <;> simp [L41_1, h1, hix, hn, hr, hb6, hbe, hbf, hp, hix2, hk0, hk1, hk2, hk, hP', hsl2]) 0 (Nat.zero_le _)
  have hall : ((List.range' 0 f.funcs.length).all fun k => rightS f.funcs[k]! && (decide (k = 0) || strLess (f.funcs[k - 1]!).name (f.funcs[k]!).name)) = (f.funcs.all rightS && ascQ (fun a b => strLess a.name b.name) f.funcs) :=
    all_asc rightS (fun a b => strLess a.name b.name) f.funcs
  rw [Nat.sub_zero, hall] at hloop
  have hl2 : fixW (L41_1 (callW pg) fixW) [.ip [.str f.module, sigs f.funcs], .int .i64 0] = M.pure (.bool (f.funcs.all rightS && ascQ (fun a b => strLess a.name b.name) f.funcs)) := by
    simpa using hloop
  rw [C41]
  have hn := t106 f.module
  unfold rightFc
  generalize (f.funcs.all rightS && ascQ (fun a b => strLess a.name b.name) f.funcs) = q at hl2 ⊢
  cases hm : nameP f.module with
  | false => rw [hm] at hn; simp [S41, hn]
  | true =>
    rw [hm] at hn
    by_cases h30 : f.funcs.length ≤ 30
    · have h30' : ¬ (30 < (f.funcs.length : Int)) := by omega
      simp [S41, hn, h30, h30', hl2]
    · have h30' : 30 < (f.funcs.length : Int) := by omega
      simp [S41, hn, h30, h30']
end Go.Proofs.YteemeakjlfnapaaGreatDoor
