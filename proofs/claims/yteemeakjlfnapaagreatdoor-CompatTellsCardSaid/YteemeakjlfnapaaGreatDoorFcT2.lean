/- What face.Find and compat.Compare compute. No condition. -/
import Derived.Test.YteemeakjlfnapaaGreatDoorFcT1
import Derived.Test.YteemeakjlfnapaaGreatDoorLd
namespace Go.Proofs.YteemeakjlfnapaaGreatDoor
open Go Go.Av Go.Av.Ap
set_option maxRecDepth 100000
theorem bnd_ok {α β : Type} {m : M α} {a : α} {h h' : Hp} (e : m h = .ok a h') (f : α → M β) : bnd m f h = f a h' := by simp only [bnd, e]
theorem cl3 (x : Fld) : (acells (fldAv x)).length = 3 := by simp
theorem cl2 (x : Ty) : (acells x.av).length = 2 := by simp
theorem flds_map (l : List Fld) : flds l = .sl (l.map fldAv) := by rw [flds, fldsAv_map]
theorem load_fld {q : Nat} {l : List Fld} {i : Nat} {h : Hp} (hi : i < l.length) (hq : h[q]? = some (rowOf fldAv l)) : loadH T 76 (.hp q (0 + i * 3)) h = .ok (fldAv l[i]) h := by
  have hlen := rowOf_len (f := fldAv) cl3 l
  rw [loadH_row (T := T) (t := 76) rfl rfl hq (show 0 + i * 3 + 3 ≤ _ by omega)]
  show R.ok (AV.agg (((rowOf fldAv l).drop (0 + i * 3)).take 3)) h = _
  rw [Nat.zero_add, rowOf_chunk cl3 l i hi, acells_fld, fold_fld]
theorem store_ty {q : Nat} {l : List Fld} {i : Nat} {h : Hp} (hi : i < l.length) (hq : h[q]? = some (rowOf fldAv l)) : storeH T 27 (.hp q (0 + i * 3 + 1)) l[i].2.av h = .ok (.tup []) h := by
  have hlen := rowOf_len (f := fldAv) cl3 l
  refine storeH_same (T := T) (t := 27) rfl hq (Ap.okEl_ty _) (show 0 + i * 3 + 1 + 2 ≤ _ by omega) (by decide) ?_
  have := rowOf_chunk cl3 l i hi
  have h2 : ((rowOf fldAv l).drop (0 + i * 3 + 1)).take 2 = (((rowOf fldAv l).drop (i * 3)).take 3).drop 1 := by
    rw [List.drop_take, List.drop_drop]
    congr 2
    omega
  rw [acells_ty]
  show ((rowOf fldAv l).drop (0 + i * 3 + 1)).take 2 = _
  rw [h2, this, acells_fld]
  rfl
theorem ixH {q n i : Nat} (h : i < n) : indexAddrA T 25 (.hs q 0 n 3 true) (.int .i64 (i : Int)) = some (.hp q (0 + i * 3)) := by
  have e : indexAddrA T 25 (.hs q 0 n 3 true) (.int .i64 (i : Int)) = if 0 ≤ (i : Int) ∧ (i : Int) < (n : Int) then some (.hp q (0 + (i : Int).toNat * 3)) else none := rfl
  rw [e, if_pos (by omega), Int.toNat_natCast]
theorem loop104 (t : Ty) (hb : t.fields.length ≤ 4611686018427387904) (hk : ∀ f ∈ t.fields, callW pg 104 [f.2.av] = M.pure f.2.av) (q : Nat) (h : Hp) (hq : h[q]? = some (rowOf fldAv t.fields)) (x5 x6 : AV) : ∀ (n i : Nat), t.fields.length - i = n → i ≤ t.fields.length →
    fixW (L104_0 (callW pg) fixW) [.hs q 0 t.fields.length 3 true, .int .i64 t.fields.length, .int .i64 i, .int .i64 t.kind, .hs q 0 t.fields.length 3 true, x5, x6] h = .ok (.agg [.int .i64 t.kind, .hs q 0 t.fields.length 3 true]) h := by
  intro n
  induction n with
  | zero =>
    intro i hn hi
    rw [FL104_0]
    have h1 : ¬ ((i : Int) < (t.fields.length : Int)) := by omega
    have h2 : cellsNil 2 [] (.agg [.int .i64 t.kind, .hs q 0 t.fields.length 3 true]) = M.pure (.agg [.int .i64 t.kind, .hs q 0 t.fields.length 3 true]) := cellsNil_of rfl
    simp [L104_0, h1, h2, M.pure]
  | succ n ih =>
    intro i hn hi
    have hlt : i < t.fields.length := by omega
    have h1 : (i : Int) < (t.fields.length : Int) := by omega
    have ih' := ih (i + 1) (by omega) (by omega)
    have hw : IntKind.i64.wrap ((i : Int) + 1) = ((i + 1 : Nat) : Int) := wrap_add1 (by omega)
    have hc := hk t.fields[i] (List.getElem_mem hlt)
    rw [← ih']
    generalize hcode : fixW (L104_0 (callW pg) fixW) [.hs q 0 t.fields.length 3 true, .int .i64 t.fields.length, .int .i64 i, .int .i64 t.kind, .hs q 0 t.fields.length 3 true, x5, x6] h = code
    rw [FL104_0] at hcode
    simp -implicitDefEqProofs only [L104_0, nth_zero, nth_succ, bin_lss, bnd_some, condM_bool, h1, decide_true, if_true, ixH hlt] at hcode
    rw [bnd_ok (load_fld hlt hq)] at hcode
    simp -implicitDefEqProofs only [cellsM_fld, bnd_pure, acells_fld, FA76_1, bnd_some, List.drop_succ_cons, List.drop_zero, LD27, List.length_cons, List.length_nil, Nat.zero_add, Nat.reduceAdd, Nat.le_refl, if_true, List.take_succ_cons, List.take_zero, fold_ty, hc, noPan_pure, FH76_1] at hcode
    rw [show (i * 3 + 1) = 0 + i * 3 + 1 by omega] at hcode
    rw [bnd_ok (store_ty hlt hq)] at hcode
    simp -implicitDefEqProofs only [bin_add, bnd_some, hw] at hcode
    rw [← hcode]
theorem t104 : ∀ (d : Nat) (t : Ty), rightN d t = true → callW pg 104 [t.av] = M.pure t.av
  | 0, t, h => by cases h
  | d + 1, t, h => by
    have hr := h
    rw [rightN_succ] at h
    simp only [Bool.and_eq_true, decide_eq_true_eq, List.all_eq_true] at h
    have hlen : t.fields.length ≤ 8 := h.1.1.2
    have ih : ∀ f ∈ t.fields, callW pg 104 [f.2.av] = M.pure f.2.av := fun f hf => t104 d f.2 (h.2.1 f hf).2
    have e0 : callW pg 163 [flds t.fields] = cloneH T 25 (callW pg) [flds t.fields] := callW_other hOther rfl _
    have e1 := cloneH_map (T := T) (t := 25) (f := fldAv) (sz := 3) rfl rfl rfl rfl rfl (by decide) (by decide) (fun x => okEl_fld x) (callW pg) t.fields (show t.fields.length * 48 ≤ 140737488355328 by omega) []
    rw [← flds_map, ← e0] at e1
    rw [C104]
    funext hp
    show isoP _ hp = R.ok t.av hp
    by_cases hf : t.fields = []
    · rw [if_pos hf] at e1
      have e2 : cellsNil 2 [] (.agg [.int .i64 t.kind, .sl []]) = M.pure (.agg [.int .i64 t.kind, .sl []]) := cellsNil_of rfl
      have key : S104 (callW pg) fixW (cl noHs t.av) [] = .ok (.agg [.int .i64 t.kind, .sl []]) [] := by
        simp only [S104, cl_ty, cellsM_ty, bnd_pure, acells_ty, nth_zero, nth_succ]
        rw [bnd_ok e1]
        simp only [cell1M, okCell, cond_true, bnd_some, LEN25]
        rw [FL104_0]
        simp [L104_0, e2, M.pure]
      unfold isoP
      rw [key]
      have : (AV.agg [.int .i64 t.kind, .sl []]) = t.av := by rw [← fold_ty, hf]; rfl
      rw [this]
      simp only [R.ok.injEq, and_true]
      exact (Clean.frz (fun g => cl_ty g t) 6 [])
    · rw [if_neg hf] at e1
      have hq : ([] ++ [rowOf fldAv t.fields] : Hp)[0]? = some (rowOf fldAv t.fields) := rfl
      have key : S104 (callW pg) fixW (cl noHs t.av) [] = .ok (.agg [.int .i64 t.kind, .hs 0 0 t.fields.length 3 true]) ([] ++ [rowOf fldAv t.fields]) := by
        simp only [S104, cl_ty, cellsM_ty, bnd_pure, acells_ty, nth_zero, nth_succ]
        rw [bnd_ok e1]
        simp only [cell1M, okCell, cond_true, bnd_some, LENH25, List.length_nil]
        exact loop104 t (by omega) ih 0 _ hq _ _ t.fields.length 0 rfl (by omega)
      unfold isoP
      rw [key]
      have hfr := frz_rowOf (f := fldAv) cl3 (fun x => by rw [acells_fld, fold_fld]) (fun x g => cl_fld g x) (by decide) hq 5
      have : frz 6 ([] ++ [rowOf fldAv t.fields]) (.agg [.int .i64 t.kind, .hs 0 0 t.fields.length 3 true]) = t.av := by
        rw [← fold_ty, flds_map, ← hfr]
        rfl
      show R.ok (frz 6 _ _) hp = _
      rw [this]
theorem idxAt_find {α : Type} (F : α → Bool) : (l : List α) → (i : Int) → (l.find? F = none ∧ idxAt F l i = -1) ∨ ∃ (k : Nat) (x : α), l.find? F = some x ∧ l[k]? = some x ∧ idxAt F l i = i + k
  | [], i => .inl ⟨rfl, rfl⟩
  | x :: l, i => by
    cases h : F x with
    | true => exact .inr ⟨0, x, by simp [h], rfl, by simp [idxAt, h]⟩
    | false =>
      rcases idxAt_find F l (i + 1) with ⟨h1, h2⟩ | ⟨k, y, h1, h2, h3⟩
      · exact .inl ⟨by simp [h, h1], by simp [idxAt, h, h2]⟩
      · exact .inr ⟨k + 1, y, by simp [h, h1], by simpa using h2, by simp [idxAt, h, h3]; omega⟩
theorem ixH2 {q n i : Nat} (h : i < n) : indexAddrA T 54 (.hs q 0 n 2 true) (.int .i64 (i : Int)) = some (.hp q (0 + i * 2)) := by
  have e : indexAddrA T 54 (.hs q 0 n 2 true) (.int .i64 (i : Int)) = if 0 ≤ (i : Int) ∧ (i : Int) < (n : Int) then some (.hp q (0 + (i : Int).toNat * 2)) else none := rfl
  rw [e, if_pos (by omega), Int.toNat_natCast]
theorem load_ty {q : Nat} {l : List Ty} {i : Nat} {h : Hp} (hi : i < l.length) (hq : h[q]? = some (rowOf Ty.av l)) : loadH T 27 (.hp q (0 + i * 2)) h = .ok l[i].av h := by
  have hlen := rowOf_len (f := Ty.av) cl2 l
  rw [loadH_row (T := T) (t := 27) rfl rfl hq (show 0 + i * 2 + 2 ≤ _ by omega)]
  show R.ok (AV.agg (((rowOf Ty.av l).drop (0 + i * 2)).take 2)) h = _
  rw [Nat.zero_add, rowOf_chunk cl2 l i hi, acells_ty, fold_ty]
theorem store_ty2 {q : Nat} {l : List Ty} {i : Nat} {h : Hp} (hi : i < l.length) (hq : h[q]? = some (rowOf Ty.av l)) : storeH T 27 (.hp q (0 + i * 2)) l[i].av h = .ok (.tup []) h := by
  have hlen := rowOf_len (f := Ty.av) cl2 l
  refine storeH_same (T := T) (t := 27) rfl hq (Ap.okEl_ty _) (show 0 + i * 2 + 2 ≤ _ by omega) (by decide) ?_
  rw [acells_ty]
  show ((rowOf Ty.av l).drop (0 + i * 2)).take 2 = _
  rw [Nat.zero_add, rowOf_chunk cl2 l i hi, acells_ty]
theorem loop37 (l : List Ty) (hb : l.length ≤ 4611686018427387904) (hk : ∀ t ∈ l, callW pg 104 [t.av] = M.pure t.av) (q : Nat) (h : Hp) (hq : h[q]? = some (rowOf Ty.av l)) (x3 x4 x5 x6 x7 : AV) (nm : Str) (k e : Int) (fs : List Fld) : ∀ (n i : Nat), l.length - i = n → i ≤ l.length →
    fixW (L37_0 (callW pg) fixW) [.hs q 0 l.length 2 true, .int .i64 l.length, .int .i64 i, x3, x4, x5, x6, x7, .str nm, .hs q 0 l.length 2 true, .int .i64 k, flds fs, .int .i64 e] h = .ok (.tup [.agg [.str nm, .hs q 0 l.length 2 true, .int .i64 k, flds fs, .int .i64 e], .bool true]) h := by
  intro n
  induction n with
  | zero =>
    intro i hn hi
    rw [FL37_0]
    have h1 : ¬ ((i : Int) < (l.length : Int)) := by omega
    have h2 : cellsNil 5 [] (.agg [.str nm, .hs q 0 l.length 2 true, .int .i64 k, flds fs, .int .i64 e]) = M.pure (.agg [.str nm, .hs q 0 l.length 2 true, .int .i64 k, flds fs, .int .i64 e]) := cellsNil_of rfl
    simp [L37_0, h1, h2, M.pure]
  | succ n ih =>
    intro i hn hi
    have hlt : i < l.length := by omega
    have h1 : (i : Int) < (l.length : Int) := by omega
    have ih' := ih (i + 1) (by omega) (by omega)
    have hw : IntKind.i64.wrap ((i : Int) + 1) = ((i + 1 : Nat) : Int) := wrap_add1 (by omega)
    have hc := hk l[i] (List.getElem_mem hlt)
    rw [← ih']
    generalize hcode : fixW (L37_0 (callW pg) fixW) [.hs q 0 l.length 2 true, .int .i64 l.length, .int .i64 i, x3, x4, x5, x6, x7, .str nm, .hs q 0 l.length 2 true, .int .i64 k, flds fs, .int .i64 e] h = code
    rw [FL37_0] at hcode
    simp -implicitDefEqProofs only [L37_0, nth_zero, nth_succ, bin_lss, bnd_some, condM_bool, h1, decide_true, if_true, ixH2 hlt] at hcode
    rw [bnd_ok (load_ty hlt hq)] at hcode
    simp -implicitDefEqProofs only [Av.cellsM_ty, bnd_pure, acells_ty, bnd_some, LD27, List.length_cons, List.length_nil, Nat.zero_add, Nat.reduceAdd, Nat.le_refl, if_true, List.take_succ_cons, List.take_zero, fold_ty, hc, noPan_pure] at hcode
    rw [show (i * 2) = 0 + i * 2 by omega] at hcode
    rw [bnd_ok (store_ty2 hlt hq)] at hcode
    simp -implicitDefEqProofs only [bin_add, bnd_some, hw] at hcode
    rw [← hcode]
def sig0 : Sig := ⟨[], [], ty0, 0⟩
theorem t102 (s : Sig) (name : Str) : callW pg 102 [s.av, .ip [.str name]] = M.pure (.bool (s.name == name)) := by
  rw [C102]
  simp [S102, cl, cls]
theorem t37 (f : Face) (hf : f.Lim) (hr : rightFc f = true) (name : Str) : callW pg 37 [f.av, .str name] = M.pure (match findS f name with
    | some s => .tup [s.av, .bool true]
    | none => .tup [sig0.av, .bool false]) := by
  have hlen := hf.len
  have h1 := t101 (.fn (.func 102) [] [.ip [.str name]]) (fun s => s.name == name) f.funcs (by omega) (fun g => rfl) (fun x _ => t102 x name)
  unfold rightFc at hr
  simp only [Bool.and_eq_true, List.all_eq_true] at hr
  rw [C37]
  unfold findS
  rcases idxAt_find (fun s : Sig => s.name == name) f.funcs 0 with ⟨h2, h3⟩ | ⟨k, s, h2, h3, h4⟩
  · rw [h3] at h1
    rw [h2]
    have e1 : buildA T false 56 [] = some sig0.av := rfl
    simp [S37, cl, h1, e1]
    exact isoP_pure fun g => by simp [cl, cls]
  · have hm : s ∈ f.funcs := List.mem_of_getElem? h3
    have hrs := hr.2.1 s hm
    unfold rightS at hrs
    simp only [Bool.and_eq_true, decide_eq_true_eq, List.all_eq_true] at hrs
    obtain ⟨⟨⟨⟨_, hpl⟩, _⟩, hrr⟩, hps⟩ := hrs
    have hk : k < f.funcs.length := (List.getElem?_eq_some_iff.1 h3).1
    rw [Int.zero_add] at h4
    rw [h4] at h1
    rw [h2]
    have hix := IX22 (l := f.funcs) (n := (k : Int)) (by omega) (by omega)
    rw [Int.toNat_natCast, List.getElem!_eq_getElem?_getD, h3] at hix
    have hix' : indexAddrA T 22 (sigs f.funcs) (.int .i64 (k : Int)) = some (.ip (acells s.av)) := hix
    have hneg : ¬ ((k : Int) < 0) := by omega
    have hcl := fun t (ht : t ∈ s.params) => t104 4 t (hps t ht)
    have hcr := t104 4 s.result hrr
    have e0 : callW pg 103 [tys s.params] = cloneH T 54 (callW pg) [tys s.params] := callW_other hOther rfl _
    have e1 := cloneH_map (T := T) (t := 54) (f := Ty.av) (sz := 2) rfl rfl rfl rfl rfl (by decide) (by decide) (fun x => Ap.okEl_ty x) (callW pg) s.params (show s.params.length * 32 ≤ 140737488355328 by omega) []
    rw [show AV.sl (s.params.map Ty.av) = tys s.params from rfl, ← e0] at e1
    funext hp
    show isoP _ hp = R.ok (.tup [s.av, .bool true]) hp
    by_cases hps0 : s.params = []
    · rw [if_pos hps0] at e1
      have e2 : cellsNil 5 [] (.agg [.str s.name, .sl [], .int .i64 s.result.kind, flds s.result.fields, .int .i64 s.effects]) = M.pure (.agg [.str s.name, .sl [], .int .i64 s.result.kind, flds s.result.fields, .int .i64 s.effects]) := cellsNil_of rfl
      have key : S37 (callW pg) fixW (cl noHs f.av) (cl noHs (.str name)) [] = .ok (.tup [.agg [.str s.name, .sl [], .int .i64 s.result.kind, flds s.result.fields, .int .i64 s.effects], .bool true]) [] := by
        simp only [S37, cl_face, cl_str, acells_face, FA24_1, bnd_some, List.drop_succ_cons, List.drop_zero, LD22, acells_str, h1, bnd_pure, bin_lss, hneg, decide_false, condM_bool, if_false, Bool.false_eq_true, hix', LD56, acells_sig, List.length_cons, List.length_nil, Nat.zero_add, Nat.reduceAdd, Nat.le_refl, if_true, List.take_succ_cons, List.take_zero, fold_sig, cellsNil_sig, nth_zero, nth_succ]
        rw [bnd_ok e1]
        simp only [fold_ty, hcr, noPan_pure, bnd_pure, cell1M, okCell, cond_true, bnd_some, cellsNil_ty, acells_ty, LEN54, nth_zero, nth_succ]
        rw [FL37_0]
        simp [L37_0, e2, M.pure]
      unfold isoP
      rw [key]
      have : (AV.agg [.str s.name, .sl [], .int .i64 s.result.kind, flds s.result.fields, .int .i64 s.effects]) = s.av := by rw [← fold_sig, hps0]; rfl
      rw [this]
      have hc : Ap.Clean (AV.tup [s.av, .bool true]) := fun g => by simp [cl, cls]
      exact congrArg (fun x => R.ok x hp) (hc.frz 6 [])
    · rw [if_neg hps0] at e1
      have hq : ([] ++ [rowOf Ty.av s.params] : Hp)[0]? = some (rowOf Ty.av s.params) := rfl
      have key : S37 (callW pg) fixW (cl noHs f.av) (cl noHs (.str name)) [] = .ok (.tup [.agg [.str s.name, .hs 0 0 s.params.length 2 true, .int .i64 s.result.kind, flds s.result.fields, .int .i64 s.effects], .bool true]) ([] ++ [rowOf Ty.av s.params]) := by
        simp only [S37, cl_face, cl_str, acells_face, FA24_1, bnd_some, List.drop_succ_cons, List.drop_zero, LD22, acells_str, h1, bnd_pure, bin_lss, hneg, decide_false, condM_bool, if_false, Bool.false_eq_true, hix', LD56, acells_sig, List.length_cons, List.length_nil, Nat.zero_add, Nat.reduceAdd, Nat.le_refl, if_true, List.take_succ_cons, List.take_zero, fold_sig, cellsNil_sig, nth_zero, nth_succ]
        rw [bnd_ok e1]
        simp only [fold_ty, hcr, noPan_pure, bnd_pure, cell1M, okCell, cond_true, bnd_some, cellsNil_ty, acells_ty, LENH54, nth_zero, nth_succ, List.length_nil]
        exact loop37 s.params (by omega) hcl 0 _ hq _ _ _ _ _ _ _ _ _ s.params.length 0 rfl (by omega)
      unfold isoP
      rw [key]
      have hfr := frz_rowOf (f := Ty.av) cl2 (fun x => by rw [acells_ty, fold_ty]) (fun x g => cl_ty g x) (by decide) hq 5
      have : frz 6 ([] ++ [rowOf Ty.av s.params]) (.tup [.agg [.str s.name, .hs 0 0 s.params.length 2 true, .int .i64 s.result.kind, flds s.result.fields, .int .i64 s.effects], .bool true]) = .tup [s.av, .bool true] := by
        rw [← fold_sig]
        show AV.tup [.agg [.str s.name, frz 6 ([] ++ [rowOf Ty.av s.params]) (.hs 0 0 s.params.length 2 true), .int .i64 s.result.kind, cl _ (flds s.result.fields), .int .i64 s.effects], .bool true] = _
        rw [hfr, cl_flds]
        rfl
      show R.ok (frz 6 _ _) hp = _
      rw [this]
theorem t64 (a b : Face) (ha : a.Lim) (hb : b.Lim) : callW pg 64 [a.av, b.av] = M.pure (.bool (matchF a b)) := by
  rw [C64]
  have h1 := t27 a ha
  have h2 := t27 b hb
  unfold matchF
  by_cases g1 : a.module = b.module
  · have g1' : (a.module == b.module) = true := beq_iff_eq.2 g1
    by_cases g2 : rightFc a = true
    · rw [g2] at h1
      simp only [S64, cl_face, acells_face, FA24_0, List.drop_zero, LD9, bnd_some, str_eql, g1', guardM_take1, LD24, List.length_cons, List.length_nil, Nat.zero_add, Nat.reduceAdd, Nat.le_refl, if_true, List.take_succ_cons, List.take_zero, fold_face, h1, h2, g2, bnd_pure, nth_zero, pickA_true, isoP_bool, Bool.true_and, Bool.and_true]
    · rw [Bool.not_eq_true] at g2
      rw [g2] at h1
      simp only [S64, cl_face, acells_face, FA24_0, List.drop_zero, LD9, bnd_some, str_eql, g1', guardM_take1, guardM_ft, List.replicate, LD24, List.length_cons, List.length_nil, Nat.zero_add, Nat.reduceAdd, Nat.le_refl, if_true, List.take_succ_cons, List.take_zero, fold_face, h1, g2, bnd_pure, nth_zero, pickA_true, pickA_false, isoP_bool, Bool.true_and, Bool.false_and, Bool.and_false]
  · have g1' : (a.module == b.module) = false := beq_eq_false_iff_ne.2 g1
    simp [S64, g1, g1']
theorem loop65 (old now : Face) (ho : old.Lim) (hn : now.Lim) (hr : rightFc now = true) (x4 x5 x6 x7 x8 : AV) : ∀ (n i : Nat), old.funcs.length - i = n → i ≤ old.funcs.length →
    fixW (L65_0 (callW pg) fixW) [.ip (acells now.av), sigs old.funcs, .int .i64 old.funcs.length, .int .i64 i, x4, x5, x6, x7, x8] = M.pure (match (old.funcs.drop i).find? (fun f => !(keepsB now f)) with
      | some s => .tup [s.av, .bool true]
      | none => .tup [sig0.av, .bool false]) := by
  have hlen := ho.len
  intro n
  induction n with
  | zero =>
    intro i hni hi
    rw [FL65_0]
    have h1 : ¬ ((i : Int) < (old.funcs.length : Int)) := by omega
    have h2 : old.funcs.drop i = [] := List.drop_eq_nil_of_le (by omega)
    have e1 : buildA T false 56 [] = some sig0.av := rfl
    simp [L65_0, h1, h2, e1]
  | succ n ih =>
    intro i hni hi
    have hlt : i < old.funcs.length := by omega
    have h1 : (i : Int) < (old.funcs.length : Int) := by omega
    have h2 : old.funcs.drop i = old.funcs[i] :: old.funcs.drop (i + 1) := List.drop_eq_getElem_cons hlt
    have ih' := ih (i + 1) (by omega) (by omega)
    have hw : IntKind.i64.wrap ((i : Int) + 1) = ((i + 1 : Nat) : Int) := wrap_add1 (by omega)
    have hix := IX22 (l := old.funcs) (n := (i : Int)) (by omega) h1
    rw [Int.toNat_natCast, getElem!_pos old.funcs i hlt] at hix
    have hfl := ho.sigs _ (List.getElem_mem hlt)
    generalize old.funcs[i] = f at hix h2 hfl
    have h3 := t37 now hn hr f.name
    have hkb : keepsB now f = (match findS now f.name with | some g => subS g f | none => false) := rfl
    rw [h2, FL65_0]
    simp only [L65_0, nth_zero, nth_succ, bin_lss, bnd_some, h1, decide_true, condM_bool, if_true, hix, acells_sig, LD56, List.length_cons, List.length_nil, Nat.zero_add, Nat.reduceAdd, Nat.le_refl, List.take_succ_cons, List.take_zero, fold_sig, cellsM_sig, bnd_pure, acells_face, LD24, fold_face, FA56_0, List.drop_zero, LD9, h3]
    cases hfs : findS now f.name with
    | none =>
      rw [hfs] at hkb
      simp [hkb]
    | some g =>
      rw [hfs] at hkb
      simp only at hkb
      have hgl : g.Lim := hn.sigs g (List.mem_of_find?_eq_some hfs)
      have h4 := t44 g f hgl hfl
      cases hs : subS g f with
      | true =>
        rw [hs] at h4 hkb
        simp [hkb, h4, hw]
        simpa using ih'
      | false =>
        rw [hs] at h4 hkb
        simp [hkb, h4]
theorem t65 (old now : Face) (ho : old.Lim) (hn : now.Lim) (hr : rightFc now = true) : callW pg 65 [old.av, now.av] = M.pure (match lostS old now with
      | some s => .tup [s.av, .bool true]
      | none => .tup [sig0.av, .bool false]) := by
  rw [C65]
  have h := loop65 old now ho hn hr (.str []) (.sl []) (.int .i64 0) (.sl []) (.int .i64 0) old.funcs.length 0 rfl (by omega)
  rw [List.drop_zero] at h
  unfold lostS
  simp [S65, sigs] at h ⊢
  rw [h]
  cases List.find? (fun f => !keepsB now f) old.funcs with
  | none => exact isoP_pure fun g => by simp [cl, cls]
  | some s => exact isoP_pure fun g => by simp [cl, cls]
theorem t17 (a b : Face) (ha : a.Lim) (hb : b.Lim) : callW pg 17 [a.av, b.av] = M.pure (.tup [.int .i64 (compareF a b).1, .str (compareF a b).2]) := by
  rw [C17]
  have h1 := t64 a b ha hb
  have hc : ∀ (k : Int) (s : Str), isoP (M.pure (.tup [.int .i64 k, .str s])) = M.pure (.tup [.int .i64 k, .str s]) := fun k s => isoP_pure fun g => rfl
  unfold compareF
  cases hm : matchF a b with
  | false =>
    rw [hm] at h1
    simp [S17, h1, hc]
  | true =>
    rw [hm] at h1
    unfold matchF at hm
    simp only [Bool.and_eq_true] at hm
    have h2 := t65 a b ha hb hm.2
    have h3 := t65 b a hb ha hm.1.2
    cases hl : lostS a b with
    | some s =>
      rw [hl] at h2
      simp [S17, h1, h2, hc]
    | none =>
      rw [hl] at h2
      cases hl2 : lostS b a with
      | some s =>
        rw [hl2] at h3
        simp [S17, h1, h2, h3, hc]
      | none =>
        rw [hl2] at h3
        simp [S17, h1, h2, h3, hc]
end Go.Proofs.YteemeakjlfnapaaGreatDoor
