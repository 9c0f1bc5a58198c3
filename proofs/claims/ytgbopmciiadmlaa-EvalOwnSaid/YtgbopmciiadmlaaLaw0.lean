/- What the law's counts compute. Condition: bounds on slices. -/
import Derived.Test.YtgbopmciiadmlaaRef
import Derived.Test.YtgbopmciiadmlaaLc
namespace Go.Proofs.Ytgbopmciiadmlaa
open Go Go.Av Go.Av.Ap
theorem t31 : ∀ (d : Nat), d ≤ 100 → ∀ (v : Val), v.Lim → ∀ most : Int, 0 ≤ most → most ≤ 1000 → callW pg 31 [v.av, .int .i64 most, .int .i64 d] = M.pure (.int .i64 (partsX d v most))
  | 0, _, v, _, most, h0, h1 => by
    rw [C31]
    simp (disch := omega) [S31, partsX, wrap_in]
  | d + 1, hd, v, hv, most, h0, h1 => by
    have hlen := hv.len
    have hloop := fix_cap (FL31_0 (callW pg)) (fun n k => [.int .i64 most, .int .i64 ((d : Int) + 1), .ip (acells v.av), .int .i64 n, .int .i64 (k : Int)]) most (partsX d) v.values
      (fun x _ m h _ => partsX_bounds d x m h)
      (fun n => by simp [L31_0])
      (fun n k hk hn => by
        have hk' : (k : Int) < (v.values.length : Int) := by omega
        have hn' : ¬ n ≤ most := by omega
        simp [L31_0, hk', hn', guardM, gv])
      (fun n k hk h2 h3 => by
        have hk' : (k : Int) < (v.values.length : Int) := by omega
        have hx := t31 d (by omega) v.values[k] (hv.kid (List.getElem_mem hk)) (most - n) (by omega) (by omega)
        have hb := partsX_bounds d v.values[k] (most - n) (by omega)
        simp only [L31_0]
        simp (disch := omega) [hk, hk', h3, wrap_in, IX23, hx, show (d : Int) + 1 - 1 = d by omega])
      _ 1 0 rfl (by omega) (by omega) (by omega)
    have h1 : ¬ ((d : Int) + 1 < 1) := by omega
    simp at hloop
    rw [C31]
    simp [S31, partsX, h1, hloop]
theorem t9 : ∀ (d : Nat), d ≤ 100 → ∀ (v : Exp), v.Lim → ∀ most : Int, 0 ≤ most → most ≤ 1000 → callW pg 9 [v.av, .int .i64 most, .int .i64 d] = M.pure (.int .i64 (nodesX d v most))
  | 0, _, v, _, most, h0, h1 => by
    rw [C9]
    simp (disch := omega) [S9, nodesX, wrap_in]
  | d + 1, hd, v, hv, most, h0, h1 => by
    have hlen := hv.len
    have hloop := fix_cap (FL9_0 (callW pg)) (fun n k => [.int .i64 most, .int .i64 ((d : Int) + 1), .ip (acells v.av), .int .i64 n, .int .i64 (k : Int)]) most (nodesX d) v.args
      (fun x _ m h _ => nodesX_bounds d x m h)
      (fun n => by simp [L9_0])
      (fun n k hk hn => by
        have hk' : (k : Int) < (v.args.length : Int) := by omega
        have hn' : ¬ n ≤ most := by omega
        simp [L9_0, hk', hn', guardM, gv])
      (fun n k hk h2 h3 => by
        have hk' : (k : Int) < (v.args.length : Int) := by omega
        have hx := t9 d (by omega) v.args[k] (hv.kid (List.getElem_mem hk)) (most - n) (by omega) (by omega)
        have hb := nodesX_bounds d v.args[k] (most - n) (by omega)
        simp only [L9_0]
        simp (disch := omega) [hk, hk', h3, wrap_in, IX26, hx, show (d : Int) + 1 - 1 = d by omega])
      _ 1 0 rfl (by omega) (by omega) (by omega)
    have h1 : ¬ ((d : Int) + 1 < 1) := by omega
    simp at hloop
    rw [C9]
    simp [S9, nodesX, h1, hloop]
theorem t57 : ∀ (d : Nat), d ≤ 100 → ∀ (v : Ty), v.Lim → ∀ most : Int, 0 ≤ most → most ≤ 1000 → callW pg 57 [v.av, .int .i64 most, .int .i64 d] = M.pure (.int .i64 (kindsX d v most))
  | 0, _, v, _, most, h0, h1 => by
    rw [C57]
    simp (disch := omega) [S57, kindsX, wrap_in]
  | d + 1, hd, v, hv, most, h0, h1 => by
    have hlen := hv.len
    have hloop := fix_cap (FL57_0 (callW pg)) (fun n k => [.int .i64 most, .int .i64 ((d : Int) + 1), .ip (acells v.av), .int .i64 n, .int .i64 (k : Int)]) most (fun f => kindsX d f.2) v.fields
      (fun x _ m h _ => kindsX_bounds d x.2 m h)
      (fun n => by simp [L57_0])
      (fun n k hk hn => by
        have hk' : (k : Int) < (v.fields.length : Int) := by omega
        have hn' : ¬ n ≤ most := by omega
        simp [L57_0, hk', hn', guardM, gv])
      (fun n k hk h2 h3 => by
        have hk' : (k : Int) < (v.fields.length : Int) := by omega
        have hx := t57 d (by omega) v.fields[k].2 (hv.kid (List.getElem_mem hk)) (most - n) (by omega) (by omega)
        have hb := kindsX_bounds d v.fields[k].2 (most - n) (by omega)
        simp only [L57_0]
        simp (disch := omega) [hk, hk', h3, wrap_in, IX58, hx, show (d : Int) + 1 - 1 = d by omega])
      _ 1 0 rfl (by omega) (by omega) (by omega)
    have h1 : ¬ ((d : Int) + 1 < 1) := by omega
    simp at hloop
    rw [C57]
    simp [S57, kindsX, h1, hloop]
theorem take_all {α : Type} [Inhabited α] (P : α → Bool) (l : List α) (c k : Nat) (hk : k < l.length) (hc : k < c) : ((l.take c).drop k).all P = (P l[k]! && ((l.take c).drop (k + 1)).all P) := by
  have h : k < (l.take c).length := by rw [List.length_take]; omega
  rw [List.drop_eq_getElem_cons h, List.all_cons, List.getElem_take, getElem!_pos l k hk]
theorem loop56 (l : List Fld) (hl : l.length ≤ 140737488355328) (ht : ∀ x ∈ l, x.2.Lim) : ∀ r k, 9 - k = r → k ≤ l.length → k ≤ 9 → fixW (L56_0 (callW pg) fixW) [flds l, .int .i64 (k : Int)] = M.pure (.bool (((l.take 9).drop k).all (fun f => decide (kindsX 8 f.2 20 ≤ 20)) && decide (l.length ≤ 8))) := by
  intro r
  induction r with
  | zero =>
    intro k hr hk h9
    obtain rfl : k = 9 := by omega
    have h8 : ((l.length : Int) ≤ 8) = (l.length ≤ 8) := by rw [eq_iff_iff]; omega
    have hd : (l.take 9).drop 9 = [] := List.drop_eq_nil_of_le (List.length_take_le 9 l)
    rw [FL56_0, hd]
    simp only [L56_0]
    by_cases h : (9 : Int) < (l.length : Int)
    · simp [h, h8]
    · simp [h, h8, guardM, gv]
  | succ r ih =>
    intro k hr hk h9
    rw [FL56_0]
    simp only [L56_0]
    have h8 : ((l.length : Int) ≤ 8) = (l.length ≤ 8) := by rw [eq_iff_iff]; omega
    by_cases h : k < l.length
    · have hk' : (k : Int) < (l.length : Int) := by omega
      have hk9 : (k : Int) < 9 := by omega
      have hx := t57 8 (by omega) l[k].2 (ht _ (List.getElem_mem h)) 20 (by omega) (by omega)
      have hi := ih (k + 1) (by omega) (by omega) (by omega)
      rw [take_all _ l 9 k h (by omega)]
      simp at hx hi
      simp (disch := omega) [h, hk', hk9, wrap_in, IX58, hx, hi]
      by_cases hc : kindsX 8 l[k].2 20 ≤ 20
      · have : ¬ 20 < kindsX 8 l[k].2 20 := by omega
        simp [hc, this]
      · have : 20 < kindsX 8 l[k].2 20 := by omega
        simp [hc, this]
    · have hk' : ¬ (k : Int) < (l.length : Int) := by omega
      have hd : (l.take 9).drop k = [] := List.drop_eq_nil_of_le (by rw [List.length_take]; omega)
      rw [hd]
      simp [hk', guardM, gv, h8]
theorem t56 (l : List Fld) (hl : l.length ≤ 140737488355328) (ht : ∀ x ∈ l, x.2.Lim) : callW pg 56 [flds l] = M.pure (.bool (plainlyX l)) := by
  have := loop56 l hl ht 9 0 rfl (by omega) (by omega)
  simp at this
  rw [C56]
  simp [S56, this, plainlyX]
end Go.Proofs.Ytgbopmciiadmlaa
