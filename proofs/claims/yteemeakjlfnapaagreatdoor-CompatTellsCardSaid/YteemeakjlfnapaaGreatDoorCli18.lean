/- The client of two interfaces: the reference's is the program's. No condition. -/
import Derived.Test.YteemeakjlfnapaaGreatDoorWit18
import Derived.Test.YteemeakjlfnapaaGreatDoorRef18
namespace Go.Proofs.YteemeakjlfnapaaGreatDoor
open Go Go.Av Go.Av.Ap
set_option maxRecDepth 100000
def clientS : Str := [99, 108, 105, 101, 110, 116]
def mainS : Str := [109, 97, 105, 110]
def mod0 : Ap.Mod := ⟨[], [], [], [], [], false, [], [], []⟩
def cliE (old : Face) (f : Sig) : Exp := .mk 15 0 f.name old.module [] (f.params.map witF)
def cliFn (old : Face) (f : Sig) : Fun := ⟨mainS, false, [], f.result, f.effects, cliE old f⟩
def cliM (old : Face) (f : Sig) : Ap.Mod := ⟨if old.module = clientS then mainS else clientS, [old.module], [], [], [cliFn old f], false, [], [], []⟩
def cliR (old now : Face) : AV := if matchF old now = true then (match lostS old now with
    | some f => .tup [(cliM old f).av, .bool true]
    | none => .tup [mod0.av, .bool false]) else .tup [mod0.av, .bool false]
theorem build_mod0 : buildA T false 41 [] = some mod0.av := rfl
theorem build_mod1 (s u : Str) : buildA T false 41 [(0, .str s), (1, strs [u])] = some (Ap.Mod.mk s [u] [] [] [] false [] [] []).av := rfl
theorem cn_mod (m : Ap.Mod) : cellsNil 9 [] m.av = M.pure m.av := by rw [cellsNil_of (okEl_mod m), acells_mod, fold_mod]
def fnH (old : Face) (f : Sig) (es : List Exp) : AV := .agg [.str mainS, .bool false, .sl [], .int .i64 f.result.kind, flds f.result.fields, .int .i64 f.effects, .int .i64 15, .int .i64 0, .str f.name, .str old.module, .hn, exps es]
def cliH (nm : Str) (old : Face) (f : Sig) (es : List Exp) : AV := .agg [.str nm, strs [old.module], .sl [], .sl [], .sl [fnH old f es], .bool false, .sl [], .sl [], .sl []]
theorem cliH_cl (nm : Str) (old : Face) (f : Sig) (es : List Exp) (g : Nat → Nat → Nat → Nat → Bool → AV) : cl g (cliH nm old f es) = (Ap.Mod.mk nm [old.module] [] [] [Fun.mk mainS false [] f.result f.effects (.mk 15 0 f.name old.module [] es)] false [] [] []).av := by
  have h : cl g (fnH old f es) = (Fun.mk mainS false [] f.result f.effects (.mk 15 0 f.name old.module [] es)).av := by
    rw [← fold_fun]
    simp [fnH, cl, cls]
    and_intros <;> rfl
  rw [← fold_mod]
  simp only [cliH, cl, cls, h]
  simp [funs, flds, fldsAv, exps, expsAv]
theorem isoP_cl {x y : AV} (h : ∀ g, cl g x = y) : isoP (M.pure x) = M.pure y := by
  funext hp
  show R.ok (frz 6 [] x) hp = R.ok y hp
  rw [show frz 6 [] x = y from h _]
theorem build_fnH (old : Face) (f : Sig) (es : List Exp) : buildA T false 73 [(0, .str mainS), (3, f.result.av), (4, .int .i64 f.effects), (5, .agg [.int .i64 15, .int .i64 0, .str f.name, .str old.module, .hn, exps es])] = some (fnH old f es) := by
  unfold fnH
  cases f.result
  rfl
theorem ok_fnH (old : Face) (f : Sig) (es : List Exp) : okEl 12 (fnH old f es) = true := by
  rw [fnH]
  simp [okEl, okCell, flds, exps, sizeA, acells]
theorem cm_fnH (old : Face) (f : Sig) (es : List Exp) : cellsM 12 (fnH old f es) = M.pure (fnH old f es) := by rw [cellsM_of (ok_fnH old f es)]; rfl
theorem builds_fnH (old : Face) (f : Sig) (es : List Exp) : buildSliceA T 37 1 [(0, fnH old f es)] = some (.sl [fnH old f es]) := by
  have h := ok_fnH old f es
  have hs : sizeA (fnH old f es) = some 12 := rfl
  have e : buildSliceA T 37 1 [(0, fnH old f es)] = (fillEls 12 [AV.agg [.str [], .bool false, .sl [], .int .i64 0, .sl [], .int .i64 0, .int .i64 0, .int .i64 0, .str [], .str [], .sl [], .sl []]] [(0, fnH old f es)]).map .sl := rfl
  rw [e]
  simp [fillEls, hs]
theorem build_cliH (nm : Str) (old : Face) (f : Sig) (es : List Exp) : buildA T false 41 [(0, .str nm), (1, strs [old.module]), (4, .sl [fnH old f es])] = some (cliH nm old f es) := rfl
theorem cn_cliH (nm : Str) (old : Face) (f : Sig) (es : List Exp) : cellsNil 9 [] (cliH nm old f es) = M.pure (cliH nm old f es) := by
  rw [cellsNil_of (by simp [cliH, okEl, okCell, strs, sizeA, acells])]
  rfl
theorem loop19 (old : Face) (f : Sig) (hp : f.params.length ≤ 6) (hk : ∀ t ∈ f.params, callW pg 68 [t.av] = M.pure (witF t).av) (nm : Str) (x6 x7 x8 x9 x10 x11 x12 x13 x14 : AV) : ∀ (n i : Nat), f.params.length - i = n → i ≤ f.params.length → ∀ es : List Exp, es.length = i →
    fixW (L19_0 (callW pg) fixW) [.ip (acells old.av), .ip (acells f.av), .str nm, tys f.params, .int .i64 f.params.length, .int .i64 i, x6, x7, x8, x9, x10, x11, x12, x13, x14, .int .i64 15, .int .i64 0, .str f.name, .str old.module, .hn, exps es] =
      M.pure (.tup [cliH nm old f (es ++ (f.params.drop i).map witF), .bool true]) := by
  intro n
  induction n with
  | zero =>
    intro i hn hi es hes
    rw [FL19_0]
    have h1 : ¬ ((i : Int) < (f.params.length : Int)) := by omega
    have h2 : f.params.drop i = [] := List.drop_eq_nil_of_le (by omega)
    rw [h2, List.map_nil, List.append_nil]
    have hb := build_fnH old f es
    have hs : buildSliceA T 35 1 [(0, .str old.module)] = some (strs [old.module]) := rfl
    have hl : loadA T 73 (.ip (acells (fnH old f es))) = some (fnH old f es) := rfl
    have ha : acells (cliH nm old f es) = [.str nm, strs [old.module], .sl [], .sl [], .sl [fnH old f es], .bool false, .sl [], .sl [], .sl []] := rfl
    simp only [L19_0, nth_zero, nth_succ, bin_lss, bnd_some, h1, decide_false, condM_bool, Bool.false_eq_true, if_false, acells_sig, FA56_2, FA56_3, List.drop_succ_cons, List.drop_zero, LD27, LD3, List.length_cons, List.length_nil, Nat.zero_add, Nat.reduceAdd, Nat.le_refl, Nat.reduceLeDiff, if_true, List.take_succ_cons, List.take_zero, fold_ty, show ([109, 97, 105, 110] : Str) = mainS from rfl, hb, cm_fnH, bnd_pure, acells_face, FA24_0, LD9, hs, hl, builds_fnH, build_cliH, cn_cliH, ha]
    rfl
  | succ n ih =>
    intro i hn hi es hes
    have hlt : i < f.params.length := by omega
    have h1 : (i : Int) < (f.params.length : Int) := by omega
    have h2 : f.params.drop i = f.params[i] :: f.params.drop (i + 1) := List.drop_eq_getElem_cons hlt
    have hix := IX54 (l := f.params) (n := (i : Int)) (by omega) h1
    rw [Int.toNat_natCast, getElem!_pos f.params i hlt] at hix
    have hm := hk f.params[i] (List.getElem_mem hlt)
    have hw : IntKind.i64.wrap ((i : Int) + 1) = ((i + 1 : Nat) : Int) := wrap_add1 (by omega)
    have ih' := ih (i + 1) (by omega) (by omega) (es ++ [witF f.params[i]]) (by simp [hes])
    rw [List.append_assoc, List.singleton_append] at ih'
    rw [h2, List.map_cons, ← ih', FL19_0]
    generalize f.params[i] = t at hix hm ⊢
    have hb := AP36 (a := es) (b := [witF t]) (by simp; omega)
    simp only [L19_0, nth_zero, nth_succ, bin_lss, bnd_some, h1, decide_true, condM_bool, if_true, hix, acells_ty, LD27, List.length_cons, List.length_nil, Nat.zero_add, Nat.reduceAdd, Nat.le_refl, List.take_succ_cons, List.take_zero, fold_ty, Av.cellsM_ty, bnd_pure, hm, noPan_pure, exp1, hb, cell_exps, bin_add, hw]
theorem right_params {f : Sig} (h : rightS f = true) : f.params.length ≤ 6 ∧ ∀ t ∈ f.params, rightT t = true := by
  unfold rightS at h
  simp only [Bool.and_eq_true, List.all_eq_true, decide_eq_true_eq] at h
  exact ⟨h.1.1.1.2, h.2⟩
theorem cli_funs {old : Face} (h : rightFc old = true) {f : Sig} (hf : f ∈ old.funcs) : rightS f = true := by
  unfold rightFc at h
  simp only [Bool.and_eq_true, List.all_eq_true] at h
  exact h.2.1 f hf
theorem t19 (a b : Face) (ha : a.Lim) (hb : b.Lim) : callW pg 19 [a.av, b.av] = M.pure (cliR a b) := by
  have h1 := t64 a b ha hb
  have hz := cn_mod mod0
  rw [C19]
  have hz0 : ∀ b : Bool, isoP (M.pure (.tup [mod0.av, .bool b])) = M.pure (.tup [mod0.av, .bool b]) := fun b => isoP_pure fun g => by simp [cl, cls]
  have key : isoP (S19 (callW pg) fixW (cl noHs a.av) (cl noHs b.av)) = M.pure (cliR a b) := by
    unfold cliR
    cases hm : matchF a b with
    | false =>
      rw [hm] at h1
      simp [S19, h1, build_mod0, hz, -acells_mod]
      exact hz0 false
    | true =>
      rw [hm] at h1
      have hm' := (matchF_iff _ _).1 hm
      have h2 := t65 a b ha hb hm'.2.2
      rw [if_pos rfl]
      cases hl : lostS a b with
      | none =>
        rw [hl] at h2
        simp [S19, h1, h2, build_mod0, hz, -acells_mod]
        exact hz0 false
      | some f =>
        rw [hl] at h2
        have hf : f ∈ a.funcs := List.mem_of_find?_eq_some hl
        have hrp := right_params (cli_funs hm'.2.1 hf)
        have hfl := ha.sigs f hf
        have hk : ∀ t ∈ f.params, callW pg 68 [t.av] = M.pure (witF t).av := fun t ht => t68 4 t (hfl.ptys t ht) (hrp.2 t ht)
        have hloop := fun nm => loop19 a f hrp.1 hk nm (.str []) (.sl []) (.sl []) (.sl []) (.sl []) (.bool false) (.sl []) (.sl []) (.sl []) f.params.length 0 rfl (Nat.zero_le _) [] rfl
        simp only [List.drop_zero, List.nil_append] at hloop
        have hloop' : ∀ nm, fixW (L19_0 (callW pg) fixW) [.ip [.str a.module, sigs a.funcs], .ip [.str f.name, tys f.params, .int .i64 f.result.kind, flds f.result.fields, .int .i64 f.effects], .str nm, tys f.params, .int .i64 f.params.length, .int .i64 0, .str [], .sl [], .sl [], .sl [], .sl [], .bool false, .sl [], .sl [], .sl [], .int .i64 15, .int .i64 0, .str f.name, .str a.module, .hn, .sl []] =
            M.pure (.tup [cliH nm a f (f.params.map witF), .bool true]) := fun nm => by
          have := hloop nm
          simp only [acells_sig, acells_face] at this
          exact this
        have hb1 : ∃ v, buildA T true 47 [(0, .int .i64 15), (2, .str f.name), (3, .str a.module)] = some v ∧ cellsNil 6 [5] v = M.pure v ∧ acells v = [.int .i64 15, .int .i64 0, .str f.name, .str a.module, .hn, .hn] := ⟨_, rfl, rfl, rfl⟩
        obtain ⟨v, hb1, hb2, hb3⟩ := hb1
        have hcm : (cliM a f).av = (Ap.Mod.mk (if a.module = clientS then mainS else clientS) [a.module] [] [] [Fun.mk mainS false [] f.result f.effects (.mk 15 0 f.name a.module [] (f.params.map witF))] false [] [] []).av := rfl
        simp only
        rw [hcm]
        have hcs : binA T .eql 9 (.str a.module) (.str clientS) = some (.bool (a.module == clientS)) := rfl
        by_cases hc : a.module = clientS
        · have hc' : (a.module == clientS) = true := beq_iff_eq.2 hc
          rw [hc'] at hcs
          rw [if_pos hc]
          simp [S19, K19_0, h1, h2, hcs, hb1, hb2, hb3, -str_eql, show ([109, 97, 105, 110] : Str) = mainS from rfl, show ([99, 108, 105, 101, 110, 116] : Str) = clientS from rfl, hloop']
          exact isoP_cl fun g => by simp [cl, cls, cliH_cl]
        · have hc' : (a.module == clientS) = false := beq_eq_false_iff_ne.2 hc
          rw [hc'] at hcs
          rw [if_neg hc]
          simp [S19, K19_0, h1, h2, hcs, hb1, hb2, hb3, -str_eql, show ([109, 97, 105, 110] : Str) = mainS from rfl, show ([99, 108, 105, 101, 110, 116] : Str) = clientS from rfl, hloop']
          exact isoP_cl fun g => by simp [cl, cls, cliH_cl]
  exact key
theorem loop20 (old : Face) (f : Sig) (hp : f.params.length ≤ 6) (hk : ∀ t ∈ f.params, callW pg 24 [t.av] = M.pure (witF t).av) (x3 x4 x5 x6 x7 x8 x9 x10 x11 : AV) : ∀ (n i : Nat), f.params.length - i = n → i ≤ f.params.length → ∀ es : List Exp, es.length = i →
    fixW (L20_0 (callW pg) fixW) [.ip (acells old.av), .ip (acells f.av), .int .i64 i, x3, x4, x5, x6, x7, x8, x9, x10, x11, .int .i64 15, .int .i64 0, .str f.name, .str old.module, .hn, exps es] =
      M.pure (.tup [cliH (if old.module = clientS then mainS else clientS) old f (es ++ (f.params.drop i).map witF), .bool true]) := by
  intro n
  induction n with
  | zero =>
    intro i hn hi es hes
    rw [FL20_0]
    have h1 : ¬ ((i : Int) < (f.params.length : Int)) := by omega
    have h2 : f.params.drop i = [] := List.drop_eq_nil_of_le (by omega)
    rw [h2, List.map_nil, List.append_nil]
    have hb := build_fnH old f es
    have hs : buildSliceA T 35 1 [(0, .str old.module)] = some (strs [old.module]) := rfl
    have hm1 := build_mod1 clientS old.module
    have hcm := cn_mod (Ap.Mod.mk clientS [old.module] [] [] [] false [] [] [])
    have ha : acells (Ap.Mod.mk clientS [old.module] [] [] [] false [] [] []).av = [.str clientS, strs [old.module], flds [], exps [], funs [], .bool false, flds [], exps [], exps []] := rfl
    have hca : ∀ nm, acells (cliH nm old f es) = [.str nm, strs [old.module], .sl [], .sl [], .sl [fnH old f es], .bool false, .sl [], .sl [], .sl []] := fun nm => rfl
    have hcc : ∀ nm, cellsNil 9 [] (AV.agg [.str nm, strs [old.module], flds [], exps [], .sl [fnH old f es], .bool false, flds [], exps [], exps []]) = M.pure (cliH nm old f es) := fun nm => cn_cliH nm old f es
    have hc1 : cell1M (.sl [fnH old f es]) = M.pure (.sl [fnH old f es]) := rfl
    have hc2 : cell1M (.str mainS) = M.pure (.str mainS) := rfl
    have hcs : binA T .eql 9 (.str old.module) (.str clientS) = some (.bool (old.module == clientS)) := rfl
    by_cases hc : old.module = clientS
    · rw [if_pos hc]
      have hc' : (old.module == clientS) = true := beq_iff_eq.2 hc
      rw [hc'] at hcs
      simp [L20_0, K20_0, h1, -str_eql, hs, show ([109, 97, 105, 110] : Str) = mainS from rfl, show ([99, 108, 105, 101, 110, 116] : Str) = clientS from rfl, hm1, hcm, -acells_mod, ha, hcs, hc2, hb, builds_fnH, hc1, hcc, hca]
      rfl
    · rw [if_neg hc]
      have hc' : (old.module == clientS) = false := beq_eq_false_iff_ne.2 hc
      rw [hc'] at hcs
      simp [L20_0, K20_0, h1, -str_eql, hs, show ([109, 97, 105, 110] : Str) = mainS from rfl, show ([99, 108, 105, 101, 110, 116] : Str) = clientS from rfl, hm1, hcm, -acells_mod, ha, hcs, hc2, hb, builds_fnH, hc1, hcc, hca]
      rfl
  | succ n ih =>
    intro i hn hi es hes
    have hlt : i < f.params.length := by omega
    have h1 : (i : Int) < (f.params.length : Int) := by omega
    have h2 : f.params.drop i = f.params[i] :: f.params.drop (i + 1) := List.drop_eq_getElem_cons hlt
    have hix := IX54 (l := f.params) (n := (i : Int)) (by omega) h1
    rw [Int.toNat_natCast, getElem!_pos f.params i hlt] at hix
    have hm := hk f.params[i] (List.getElem_mem hlt)
    have hw : IntKind.i64.wrap ((i : Int) + 1) = ((i + 1 : Nat) : Int) := wrap_add1 (by omega)
    have ih' := ih (i + 1) (by omega) (by omega) (es ++ [witF f.params[i]]) (by simp [hes])
    rw [List.append_assoc, List.singleton_append] at ih'
    simp only [acells_sig, acells_face] at ih'
    rw [h2, List.map_cons, ← ih', FL20_0]
    generalize f.params[i] = t at hix hm ⊢
    have hb := AP36 (a := es) (b := [witF t]) (by simp; omega)
    simp only [L20_0, nth_zero, nth_succ, acells_sig, acells_face, FA56_1, List.drop_succ_cons, List.drop_zero, LD54, LENE54, bin_lss, bnd_some, h1, decide_true, condM_bool, if_true, hix, acells_ty, LD27, List.length_cons, List.length_nil, Nat.zero_add, Nat.reduceAdd, Nat.le_refl, List.take_succ_cons, List.take_zero, fold_ty, bnd_pure, hm, noPan_pure, exp1, hb, cell_exps, bin_add, hw]
theorem t20 (a b : Face) (ha : a.Lim) (hb : b.Lim) (hea : Face.Eff a) (heb : Face.Eff b) : callW pg 20 [a.av, b.av] = M.pure (cliR a b) := by
  have h1 := t66 a b ha hb hea heb
  have h2 := t67 a b ha hb heb
  have hz := cn_mod mod0
  have hx0 : ∀ s, extractA (keptR (some s)) 0 = some s.av := fun s => rfl
  have hx1 : ∀ s, extractA (keptR (some s)) 1 = some (.bool false) := fun s => rfl
  have hy0 : extractA (keptR none) 0 = some sig0.av := rfl
  have hy1 : extractA (keptR none) 1 = some (.bool true) := rfl
  have hz0 : ∀ b : Bool, isoP (M.pure (.tup [mod0.av, .bool b])) = M.pure (.tup [mod0.av, .bool b]) := fun b => isoP_pure fun g => by simp [cl, cls]
  rw [C20]
  unfold cliR
  cases hm : matchF a b with
  | false =>
    rw [hm] at h1
    simp [S20, h1, build_mod0, hz, -acells_mod]
    exact hz0 false
  | true =>
    rw [hm] at h1
    have hm' := (matchF_iff _ _).1 hm
    rw [if_pos rfl]
    cases hl : lostS a b with
    | none =>
      rw [hl] at h2
      simp [S20, h1, h2, hy0, hy1, build_mod0, hz, -acells_mod]
      exact hz0 false
    | some f =>
      rw [hl] at h2
      have hf : f ∈ a.funcs := List.mem_of_find?_eq_some hl
      have hrp := right_params (cli_funs hm'.2.1 hf)
      have hfl := ha.sigs f hf
      have hk : ∀ t ∈ f.params, callW pg 24 [t.av] = M.pure (witF t).av := fun t ht => t24_right 4 (Nat.le_refl _) t (hfl.ptys t ht) (hrp.2 t ht)
      have hloop := loop20 a f hrp.1 hk (.str []) (.sl []) (.sl []) (.sl []) (.sl []) (.bool false) (.sl []) (.sl []) (.sl []) f.params.length 0 rfl (Nat.zero_le _) [] rfl
      simp only [List.drop_zero, List.nil_append] at hloop
      have hloop' : fixW (L20_0 (callW pg) fixW) [.ip [.str a.module, sigs a.funcs], .ip [.str f.name, tys f.params, .int .i64 f.result.kind, flds f.result.fields, .int .i64 f.effects], .int .i64 0, .str [], .sl [], .sl [], .sl [], .sl [], .bool false, .sl [], .sl [], .sl [], .int .i64 15, .int .i64 0, .str f.name, .str a.module, .hn, .sl []] =
          M.pure (.tup [cliH (if a.module = clientS then mainS else clientS) a f (f.params.map witF), .bool true]) := by
        simp only [acells_sig, acells_face] at hloop
        exact hloop
      have hb1 : ∃ v, buildA T true 47 [(0, .int .i64 15), (3, .str a.module), (2, .str f.name)] = some v ∧ cellsNil 6 [5] v = M.pure v ∧ acells v = [.int .i64 15, .int .i64 0, .str f.name, .str a.module, .hn, .hn] := ⟨_, rfl, rfl, rfl⟩
      obtain ⟨v, hb1, hb2, hb3⟩ := hb1
      have hcm : (cliM a f).av = (Ap.Mod.mk (if a.module = clientS then mainS else clientS) [a.module] [] [] [Fun.mk mainS false [] f.result f.effects (.mk 15 0 f.name a.module [] (f.params.map witF))] false [] [] []).av := rfl
      simp only
      rw [hcm]
      generalize (if a.module = clientS then mainS else clientS) = nm at hloop' ⊢
      simp [S20, h1, h2, hx0, hx1, hb1, hb2, hb3, hloop']
      exact isoP_cl fun g => by simp [cl, cls, cliH_cl]
theorem lim_wit : ∀ (d : Nat) (t : Ty), rightN d t = true → ∀ n, (witF t).limN n
  | 0, _, h => by cases h
  | d + 1, t, h => by
    have hr := h
    rw [rightN_succ] at hr
    simp only [Bool.and_eq_true, List.all_eq_true] at hr
    have h8 : t.fields.length ≤ 8 := of_decide_eq_true hr.1.1.2
    intro n
    cases n with
    | zero => exact trivial
    | succ n =>
      rw [witF_eq]
      split
      · exact ⟨by simp [Exp.names], by simp [Exp.args], fun x hx => by simp [Exp.args] at hx⟩
      · split
        · exact ⟨by simp [Exp.names], by simp [Exp.args], fun x hx => by simp [Exp.args] at hx⟩
        · refine ⟨by simp [Exp.names]; omega, by simp [Exp.args]; omega, fun x hx => ?_⟩
          simp only [Exp.args, List.mem_map] at hx
          obtain ⟨f, hf, rfl⟩ := hx
          exact lim_wit d f.2 (hr.2.1 f hf).2 n
theorem lim_cli {a : Face} {f : Sig} (hr : rightS f = true) (hf : f.Lim) : (cliM a f).Lim := by
  have hp := right_params hr
  have he : (cliE a f).Lim := fun n => by
    cases n with
    | zero => exact trivial
    | succ n =>
      refine ⟨by simp [cliE, Exp.names], by simp [cliE, Exp.args]; omega, fun x hx => ?_⟩
      simp only [cliE, Exp.args, List.mem_map] at hx
      obtain ⟨t, ht, rfl⟩ := hx
      exact lim_wit 4 t (hp.2 t ht) n
  exact ⟨by simp [cliM], by simp [cliM], fun x hx => by simp [cliM] at hx, by simp [cliM], fun x hx => by simp [cliM] at hx, by simp [cliM], fun x hx => by
    simp only [cliM, List.mem_singleton] at hx
    subst hx
    exact ⟨by simp [cliFn], fun y hy => by simp [cliFn] at hy, hf.result, he⟩, by simp [cliM], fun x hx => by simp [cliM] at hx, by simp [cliM], fun x hx => by simp [cliM] at hx, by simp [cliM], fun x hx => by simp [cliM] at hx⟩
theorem lim_mod0 : mod0.Lim :=
  ⟨by simp [mod0], by simp [mod0], fun x hx => by simp [mod0] at hx, by simp [mod0], fun x hx => by simp [mod0] at hx, by simp [mod0], fun x hx => by simp [mod0] at hx, by simp [mod0], fun x hx => by simp [mod0] at hx, by simp [mod0], fun x hx => by simp [mod0] at hx, by simp [mod0], fun x hx => by simp [mod0] at hx⟩
theorem cliR_mod (a b : Face) (ha : a.Lim) : ∃ (m : Ap.Mod) (is : Bool), cliR a b = .tup [m.av, .bool is] ∧ m.Lim := by
  unfold cliR
  cases hm : matchF a b with
  | false => exact ⟨mod0, false, rfl, lim_mod0⟩
  | true =>
    have hm' := (matchF_iff _ _).1 hm
    cases hl : lostS a b with
    | none => exact ⟨mod0, false, by simp, lim_mod0⟩
    | some f =>
      have hf : f ∈ a.funcs := List.mem_of_find?_eq_some hl
      exact ⟨cliM a f, true, by simp, lim_cli (cli_funs hm'.2.1 hf) (ha.sigs f hf)⟩
end Go.Proofs.YteemeakjlfnapaaGreatDoor
