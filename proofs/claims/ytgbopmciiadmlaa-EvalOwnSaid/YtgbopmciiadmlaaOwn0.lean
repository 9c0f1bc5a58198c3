/- EvalOwn's first loops: a program of which all functions are public. Conditions: bounds. -/
import Derived.Test.YtgbopmciiadmlaaCopy
import Derived.Test.YtgbopmciiadmlaaLaw6
namespace Go.Proofs.Ytgbopmciiadmlaa
open Go Go.Av Go.Av.Ap
def openF (f : Fun) : Fun := { f with pub := true }
def openM (m : Mod) : Mod := { m with funcs := m.funcs.map openF }
def funCells (l : List Fun) : List AV := l.flatMap fun f => acells f.av
theorem acells_fun_len (f : Fun) : (acells f.av).length = 12 := by simp
theorem funCells_len (l : List Fun) : (funCells l).length = l.length * 12 := by
  induction l with
  | nil => rfl
  | cons v l ih => simp only [funCells, List.flatMap_cons, List.length_append] at ih ⊢; rw [ih]; simp; omega
theorem funCells_get {l : List Fun} {k : Nat} (h : k < l.length) : ((funCells l).drop (k * 12)).take 12 = acells (l[k]).av := by
  induction l generalizing k with
  | nil => simp at h
  | cons v l ih =>
    cases k with
    | zero => simp [funCells]
    | succ k =>
      have := ih (k := k) (by simpa using h)
      simp only [funCells, List.flatMap_cons] at this ⊢
      have e : (k + 1) * 12 = (acells v.av).length + k * 12 := by simp; omega
      rw [e, List.drop_append, List.getElem_cons_succ]
      simp only [Nat.add_sub_cancel_left]
      rw [List.drop_of_length_le (by omega), List.nil_append]
      exact this
theorem funCells_set {l : List Fun} {k : Nat} (h : k < l.length) : setCells (funCells l) (k * 12 + 1) [.bool true] = funCells (l.set k (openF l[k])) := by
  induction l generalizing k with
  | nil => simp at h
  | cons w l ih =>
    cases k with
    | zero =>
      simp only [setCells, funCells, List.flatMap_cons, Nat.zero_mul, List.set_cons_zero, List.getElem_cons_zero]
      simp [openF]
    | succ k =>
      have := ih (k := k) (by simpa using h)
      simp only [setCells, funCells, List.flatMap_cons, List.set_cons_succ, List.getElem_cons_succ] at this ⊢
      have e : (k + 1) * 12 + 1 = (acells w.av).length + (k * 12 + 1) := by simp; omega
      have e2 : (acells w.av).length + (k * 12 + 1) + [AV.bool true].length - (acells w.av).length = k * 12 + 1 + [AV.bool true].length := by omega
      have e3 : (acells w.av).length + (k * 12 + 1) - (acells w.av).length = k * 12 + 1 := by omega
      rw [e, List.take_append, List.drop_append, e2, e3, List.take_of_length_le (by omega), List.drop_of_length_le (by omega)]
      simp only [List.nil_append, List.append_assoc]
      congr 1
      rw [← List.append_assoc]
      exact this
theorem funCells_ok (l : List Fun) : (funCells l).all okCell = true := by
  induction l with
  | nil => rfl
  | cons f l ih =>
    simp only [funCells, List.flatMap_cons, List.all_append] at ih ⊢
    rw [ih]
    simp [okCell, flds, strs, exps]
theorem frz_fun (d : Nat) (h : Hp) (v : Fun) : frz d h v.av = v.av := by
  cases d with
  | zero => exact cl_fun _ v
  | succ d => exact cl_fun _ v
theorem frG_funs {d : Nat} {h : Hp} {r : Nat} {l : List Fun} (h0 : h[r]? = some (funCells l)) : frG d h r 0 l.length 12 true = funs l := by
  rw [frG_row h0 (funCells_len l) (by decide)]
  unfold funs
  congr 1
  refine range_map fun i v hv => ?_
  have hi := (List.getElem?_eq_some_iff.1 hv).1
  rw [funCells_get hi, (List.getElem?_eq_some_iff.1 hv).2]
  have : AV.agg (acells v.av) = v.av := by simp
  rw [this, frz_fun]
theorem appH_funs (l : List Fun) (hl : l.length ≤ 4) (h : Hp) : appH T 59 true (.sl []) (funs l) h = if l = [] then .ok (.sl []) h else .ok (.hs h.length 0 l.length 12 true) (h ++ [funCells l]) := by
  have h1 : okSz 12 (l.map Fun.av) = true := okSz_funs l
  by_cases hn : l = []
  · subst hn; rfl
  · rw [if_neg hn]
    have ht : T 59 = some _ := rfl
    have hb : (l.map Fun.av).isEmpty = false := by cases l with
      | nil => exact absurd rfl hn
      | cons a b => rfl
    have hfm : (l.map Fun.av).flatMap acells = funCells l := by simp [funCells, List.flatMap_map]
    have hk : (match T 59 with | none => none | some ti => match ti.kind with | .slice e => T e | _ => none) = some _ := rfl
    have hd : decide ((l.map Fun.av).length * 184 ≤ 140737488355328) = true := by rw [List.length_map]; exact decide_eq_true (by omega)
    show (bif okSz 12 (l.map Fun.av) && decide (0 < 184) && decide (0 < 12) && true then (bif true then (bif (l.map Fun.av).isEmpty then R.ok (AV.sl []) h else bif decide ((l.map Fun.av).length * 184 ≤ 140737488355328) then R.ok (AV.hs h.length 0 (l.map Fun.av).length 12 true) (h ++ [(l.map Fun.av).flatMap acells]) else R.fail) else R.fail) else R.fail) = _
    rw [h1, hb, hd, hfm, List.length_map]
    rfl
def opened (l : List Fun) (k : Nat) : List Fun := (l.take k).map openF ++ l.drop k
theorem opened_len (l : List Fun) (k : Nat) : (opened l k).length = l.length := by simp [opened]; omega
theorem opened_succ {l : List Fun} {k : Nat} (h : k < l.length) : (opened l k).set k (openF ((opened l k)[k]'(by rw [opened_len]; exact h))) = opened l (k + 1) := by
  have hk : (opened l k)[k]'(by rw [opened_len]; exact h) = l[k] := by
    simp [opened, List.getElem_append, Nat.min_eq_left (Nat.le_of_lt h)]
  rw [hk]
  apply List.ext_getElem?
  intro i
  have m1 : min k l.length = k := Nat.min_eq_left (by omega)
  have m2 : min (k + 1) l.length = k + 1 := Nat.min_eq_left (by omega)
  rw [List.getElem?_set]
  unfold opened
  simp only [List.getElem?_append, List.length_append, List.length_map, List.length_take, List.length_drop, List.getElem?_map, List.getElem?_take, List.getElem?_drop, m1, m2]
  by_cases hik : k = i
  · subst hik
    rw [if_pos rfl, if_pos (by omega), if_pos (by omega), if_pos (by omega), List.getElem?_eq_getElem h]
    rfl
  · rw [if_neg hik]
    by_cases h1 : i < k
    · rw [if_pos h1, if_pos h1, if_pos (by omega), if_pos (by omega)]
    · rw [if_neg h1, if_neg (by omega)]
      congr 1
      omega
theorem opened_all (l : List Fun) : opened l l.length = l.map openF := by simp [opened]
theorem loop6_0 (v3 : List AV → M AV) (b0 b1 b2 b3 b4 b5 b6 b7 b8 : AV) (m : Mod) (hl : m.funcs.length ≤ 4) (q : Nat) :
    ∀ (n k : Nat) (h : Hp), m.funcs.length - k = n → k ≤ m.funcs.length → h[q]? = some (funCells (opened m.funcs k)) →
    ∃ h', h'[q]? = some (funCells (m.funcs.map openF)) ∧ fixW (L6_0 (callW pg) fixW v3) [b0, b1, b2, b3, b4, b5, b6, b7, b8, .int .i64 k, .str m.name, strs m.uses, flds m.vars, exps m.init, .hs q 0 m.funcs.length 12 true, .bool m.moves, flds m.old, exps m.forward, exps m.back] h =
      fixW (L6_0 (callW pg) fixW v3) [b0, b1, b2, b3, b4, b5, b6, b7, b8, .int .i64 m.funcs.length, .str m.name, strs m.uses, flds m.vars, exps m.init, .hs q 0 m.funcs.length 12 true, .bool m.moves, flds m.old, exps m.forward, exps m.back] h' := by
  intro n
  induction n with
  | zero =>
    intro k h hn hk hq
    obtain rfl : k = m.funcs.length := by omega
    rw [opened_all] at hq
    exact ⟨h, hq, rfl⟩
  | succ n ih =>
    intro k h hn hk hq
    have hlt : k < m.funcs.length := by omega
    have h1 : (k : Int) < (m.funcs.length : Int) := by omega
    have hix : indexAddrA T 59 (.hs q 0 m.funcs.length 12 true) (.int .i64 (k : Int)) = some (.hp q (0 + k * 12)) := by
      show (if 0 ≤ (k : Int) ∧ (k : Int) < (m.funcs.length : Int) then some (AV.hp q (0 + (k : Int).toNat * 12)) else none) = _
      rw [if_pos ⟨by omega, h1⟩]
      rfl
    have hst := storeH_ok (T := T) (t := 4) rfl (v := .bool true) hq rfl (k := 0 + k * 12 + 1) (by rw [funCells_len, opened_len]; show 0 + k * 12 + 1 + 1 ≤ _; omega) (by decide)
    have hset : setCells (funCells (opened m.funcs k)) (0 + k * 12 + 1) (acells (.bool true)) = funCells (opened m.funcs (k + 1)) := by
      rw [Nat.zero_add, ← opened_succ hlt]
      exact funCells_set (by rw [opened_len]; exact hlt)
    rw [hset] at hst
    have hqlt : q < h.length := (List.getElem?_eq_some_iff.1 hq).1
    obtain ⟨h', j1, j2⟩ := ih (k + 1) (h.set q (funCells (opened m.funcs (k + 1)))) (by omega) (by omega) (by simp [hqlt])
    refine ⟨h', j1, ?_⟩
    rw [← j2]
    have hw : IntKind.i64.wrap ((k : Int) + 1) = ((k + 1 : Nat) : Int) := wrap_add1 (by omega)
    rw [FL6_0]
    have hlen : lenA T 59 (.hs q 0 m.funcs.length 12 true) = some (.int .i64 m.funcs.length) := rfl
    simp only [L6_0, nth_zero, nth_succ, hlen, bin_lss, bnd_some, condM_bool, h1, decide_true, if_true, hix, FH67_1]
    rw [bnd_ok hst]
    simp only [bin_add, bnd_some, hw]
theorem cells_mod (m : Mod) (l : List Fun) : AV.agg [.str m.name, strs m.uses, flds m.vars, exps m.init, funs l, .bool m.moves, flds m.old, exps m.forward, exps m.back] = ({ m with funcs := l } : Mod).av := rfl
theorem own_step (p : List Mod) (b1 b2 b3 b4 b5 b6 : AV) (A : List Mod) (i : Nat) (hi : i < p.length) (hp : p.length ≤ 4) (hA : A.length ≤ 4) (hl : p[i].funcs.length ≤ 4) (h : Hp) :
    ∃ h', fixW (L6_3 (callW pg) fixW) [mods p, b1, b2, b3, b4, b5, b6, mods A, .int .i64 i] h = fixW (L6_3 (callW pg) fixW) [mods p, b1, b2, b3, b4, b5, b6, mods (A ++ [openM p[i]]), .int .i64 (i + 1 : Nat)] h' := by
  have h1 : (i : Int) < (p.length : Int) := by omega
  have hix := IX22 (l := p) (n := (i : Int)) (by omega) h1
  rw [show ((i : Int)).toNat = i by omega, getElem!_pos p i hi] at hix
  have hlen : lenA T 22 (mods p) = some (.int .i64 p.length) := by simp [mods]
  have hld : loadA T 63 (.ip (acells p[i].av)) = some p[i].av := rfl
  have hcn : cellsNil 9 [] p[i].av = M.pure p[i].av := by
    unfold cellsNil cellsN
    rw [okEl_mod]
    rfl
  have hb0 : buildSliceA T 59 0 [] = some (.sl []) := rfl
  have hlf : loadA T 59 (.ip ((acells p[i].av).drop 4)) = some (funs p[i].funcs) := rfl
  have hap := appH_funs p[i].funcs hl h
  -- the end of an iteration
  have hend : ∀ (av : AV) (hh : Hp), lenA T 59 av = some (.int .i64 p[i].funcs.length) → cl (frG 5 hh) av = funs (p[i].funcs.map openF) → ∃ h', fixW (L6_0 (callW pg) fixW (fixW (L6_3 (callW pg) fixW))) [mods p, b1, b2, b3, b4, b5, b6, mods A, .int .i64 i, .int .i64 p[i].funcs.length, .str p[i].name, strs p[i].uses, flds p[i].vars, exps p[i].init, av, .bool p[i].moves, flds p[i].old, exps p[i].forward, exps p[i].back] hh =
      fixW (L6_3 (callW pg) fixW) [mods p, b1, b2, b3, b4, b5, b6, mods (A ++ [openM p[i]]), .int .i64 (i + 1 : Nat)] h' := by
    intro av hh hln hcl
    refine ⟨hh.map fun _ => [], ?_⟩
    have hlt : ¬ ((p[i].funcs.length : Int) < (p[i].funcs.length : Int)) := by omega
    have hfz : fzM (AV.agg [.str p[i].name, strs p[i].uses, flds p[i].vars, exps p[i].init, av, .bool p[i].moves, flds p[i].old, exps p[i].forward, exps p[i].back]) hh = .ok (openM p[i]).av (hh.map fun _ => []) := by
      unfold fzM
      rw [frz_succ]
      simp only [cl, cls, cl_strs, cl_flds, cl_exps, hcl]
      rfl
    have hbs : buildSliceA T 22 1 [(0, (openM p[i]).av)] = some (mods [openM p[i]]) := rfl
    have hap2 := AP22 (a := A) (b := [openM p[i]]) (by simp; omega)
    have hw : IntKind.i64.wrap ((i : Int) + 1) = ((i + 1 : Nat) : Int) := wrap_add1 (by omega)
    rw [FL6_0]
    simp only [L6_0, nth_zero, nth_succ, hln, bin_lss, bnd_some, condM_bool, hlt, decide_false, Bool.false_eq_true, if_false]
    rw [bnd_ok hfz]
    simp only [hbs, hap2, bin_add, bnd_some, hw]
  have hcell : ∀ av, okCell av = true → cell1M av = M.pure av := fun av h => by unfold cell1M; rw [h]; rfl
  by_cases hn : p[i].funcs = []
  · rw [if_pos hn] at hap
    obtain ⟨h', he⟩ := hend (.sl []) h (by rw [hn]; rfl) (by rw [hn]; rfl)
    refine ⟨h', ?_⟩
    rw [← he]
    conv => lhs; rw [FL6_3]
    simp only [L6_3, nth_zero, nth_succ, hlen, bin_lss, bnd_some, condM_bool, h1, decide_true, if_true, hix, hld, hcn, bnd_pure, hb0, FA63_4, hlf]
    rw [bnd_ok hap]
    simp only [hcell (.sl []) rfl, bnd_pure, acells_mod, nth_zero, nth_succ, hn]
    rfl
  · rw [if_neg hn] at hap
    obtain ⟨h2, j1, j2⟩ := loop6_0 (fixW (L6_3 (callW pg) fixW)) (mods p) b1 b2 b3 b4 b5 b6 (mods A) (.int .i64 i) p[i] hl h.length _ 0 (h ++ [funCells p[i].funcs]) rfl (by omega) (by simp [opened])
    obtain ⟨h', he⟩ := hend (.hs h.length 0 p[i].funcs.length 12 true) h2 rfl (by
      have := frG_funs (d := 5) j1
      rw [List.length_map] at this
      exact this)
    refine ⟨h', ?_⟩
    rw [← he, ← j2]
    conv => lhs; rw [FL6_3]
    simp only [L6_3, nth_zero, nth_succ, hlen, bin_lss, bnd_some, condM_bool, h1, decide_true, if_true, hix, hld, hcn, bnd_pure, hb0, FA63_4, hlf]
    rw [bnd_ok hap]
    simp only [hcell (.hs h.length 0 p[i].funcs.length 12 true) rfl, bnd_pure, acells_mod, nth_zero, nth_succ]
    rfl
theorem own_loop (p : List Mod) (b1 b2 b3 b4 b5 b6 : AV) (hp : p.length ≤ 4) (hl : ∀ m ∈ p, m.funcs.length ≤ 4) : ∀ (n i : Nat) (h : Hp), p.length - i = n → i ≤ p.length →
    ∃ h', fixW (L6_3 (callW pg) fixW) [mods p, b1, b2, b3, b4, b5, b6, mods ((p.take i).map openM), .int .i64 i] h = fixW (L6_3 (callW pg) fixW) [mods p, b1, b2, b3, b4, b5, b6, mods (p.map openM), .int .i64 p.length] h' := by
  intro n
  induction n with
  | zero =>
    intro i h hn hi
    obtain rfl : i = p.length := by omega
    rw [List.take_length]
    exact ⟨h, rfl⟩
  | succ n ih =>
    intro i h hn hi
    have hlt : i < p.length := by omega
    obtain ⟨h1, e1⟩ := own_step p b1 b2 b3 b4 b5 b6 ((p.take i).map openM) i hlt hp (by simp; omega) (hl _ (List.getElem_mem hlt)) h
    obtain ⟨h2, e2⟩ := ih (i + 1) h1 (by omega) (by omega)
    refine ⟨h2, ?_⟩
    rw [e1, ← e2, List.take_succ_eq_append_getElem hlt, List.map_append]
    rfl
end Go.Proofs.Ytgbopmciiadmlaa
