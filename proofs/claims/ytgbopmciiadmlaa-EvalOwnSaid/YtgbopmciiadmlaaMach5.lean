/- Calls. Condition: what eval gives with less fuel. -/
import Derived.Test.YtgbopmciiadmlaaMach4
namespace Go.Proofs.Ytgbopmciiadmlaa
open Go Go.Av Go.Av.Ap
theorem okEl_call3 (s t : Str) (v : AV) (h : okCell v = true) : okEl 3 (.agg [.str s, .str t, v]) = true := by
  simp only [okEl, sizeA, acells, List.all_cons, List.all_nil]
  rw [h]
  rfl
theorem clone_args {p : List Mod} {nm : SNm} {tag : Nat → Nat} {dv cv sv : AV} {m : Ms} {h : Hp} (R : RepT (rowP p nm.told) nm tag dv cv sv m h) (l : List Val) (hb : l.length ≤ 274877906944) :
    ∃ av h1 tag1, callW pg 39 [vals l] h = .ok av h1 ∧ RepT (rowP p nm.told) nm tag1 dv cv sv m h1 ∧ ArgR tag1 4 h1 l av ∧ okCell av = true := by
  have e0 : callW pg 39 [vals l] = cloneH T 23 (callW pg) [vals l] := callW_other hOther rfl _
  have e1 := cloneH_vals (T := T) (t := 23) rfl rfl rfl rfl rfl (by decide) (callW pg) l (show l.length * 64 ≤ 140737488355328 by omega) h
  rw [e0]
  by_cases hl : l = []
  · rw [if_pos hl] at e1
    exact ⟨_, h, tag, e1, R, .inl (by rw [hl]), rfl⟩
  · rw [if_neg hl] at e1
    refine ⟨_, _, _, e1, (R.more (valCells l) 4).1, .inr ⟨h.length, rfl, by simp, by simp⟩, rfl⟩
theorem push_call {p : List Mod} {nm : SNm} {tag : Nat → Nat} {dv cv sv : AV} {m : Ms} {h : Hp} (R : RepT (rowP p nm.told) nm tag dv cv sv m h) (c : Ap.Call) (av : AV) (ha : ArgR tag 4 h c.args av) (hok : okCell av = true) (hb : m.calls.length ≤ 2000000) :
    ∃ cv' h1 h2, appH T 41 false cv (.sl [.agg [.str c.module, .str c.func, av]]) h = .ok cv' h1 ∧ storeH T 41 (.hp 0 10) cv' h1 = .ok (.tup []) h2 ∧ RepP p nm { m with calls := m.calls ++ [c] } h2 := by
  obtain ⟨h1, cv', tag', e1, K, H, hc⟩ := push_row (T := T) (t := 41) rfl rfl rfl rfl (by decide) rfl (by decide) (x := .agg [.str c.module, .str c.func, av]) R.cs (fun h0 => by
    have : m.calls = [] := List.eq_nil_of_length_eq_zero h0
    rw [this]; rfl) (fun cs h => h.ok.1) (okEl_call3 _ _ _ hok) (show (m.calls.length + 1) * 56 ≤ 140737488355328 by omega)
  have h0 := (K 0 _ R.r0 (by rw [R.t0]; decide)).1
  refine ⟨cv', h1, _, e1, storeH_ok rfl h0 (okCell_one hc).1 (show 10 + 1 ≤ 12 by decide) (by decide), ?_⟩
  have hac : acells cv' = [cv'] := (okCell_one hc).2.1
  have := R.pushCall (m' := { m with calls := m.calls ++ [c] }) K ha H rfl rfl rfl id
  refine ⟨tag', dv, cv', sv, ?_⟩
  rw [hac]
  exact this
theorem set_frames {p : List Mod} {nm : SNm} {m : Ms} {h : Hp} (R : RepP p nm m h) (x : Int) : ∃ h1, RepP p nm { m with frames := x } h1 ∧ (∀ f : AV → M AV, bnd (loadH T 3 (.hp 0 3)) f h = f (.int .i64 m.frames) h) ∧
    (∀ f : AV → M AV, bnd (storeH T 3 (.hp 0 3) (.int .i64 x)) f h = f (.tup []) h1) := by
  obtain ⟨tag, dv, cv, sv, R⟩ := R
  exact ⟨_, ⟨tag, dv, cv, sv, R.set0 rfl rfl rfl id⟩, fun f => bnd_ok (loadH_one rfl rfl R.r0 rfl), fun f => bnd_ok (storeH_ok rfl R.r0 rfl (show 3 + 1 ≤ 12 by decide) (by decide))⟩
theorem loop_bind (f : Fun) (a : Int) (ps : List Fld) (l : List Val) (x6 x7 x8 x9 : AV) (hb : ps.length ≤ 274877906944) (hl : l.length = ps.length) : ∀ (B A : List Fld) (lb la : List Val), A ++ B = ps → la ++ lb = l → la.length = A.length →
    fixW (L42_0 (callW pg) fixW) [.hp 0 0, vals l, .ip (acells f.av), flds ps, .int .i64 ps.length, .int .i64 A.length, x6, x7, x8, x9, .int .i64 a, strs (A.map (·.1)), vals la] =
    fixW (L42_0 (callW pg) fixW) [.hp 0 0, vals l, .ip (acells f.av), flds ps, .int .i64 ps.length, .int .i64 ps.length, x6, x7, x8, x9, .int .i64 a, strs (ps.map (·.1)), vals l]
  | [], A, lb, la, e, e2, hla => by
    simp only [List.append_nil] at e
    subst e
    have hz : lb = [] := by
      apply List.eq_nil_of_length_eq_zero
      have : (la ++ lb).length = l.length := by rw [e2]
      rw [List.length_append] at this
      omega
    rw [hz, List.append_nil] at e2
    rw [e2]
  | x :: B, A, lb, la, e, e2, hla => by
    have hll : A.length + (B.length + 1) = ps.length := by rw [← e]; simp
    have h1 : (A.length : Int) < (ps.length : Int) := by omega
    have hx : ps[A.length]'(by omega) = x := by subst e; simp
    obtain ⟨v, lb', rfl⟩ : ∃ v lb', lb = v :: lb' := by
      cases lb with
      | nil =>
        have : (la ++ ([] : List Val)).length = l.length := by rw [e2]
        simp at this
        omega
      | cons v lb' => exact ⟨v, lb', rfl⟩
    have hv : l[A.length]'(by omega) = v := by
      subst e2
      rw [List.getElem_append_right (by omega)]
      simp [hla]
    have hi := IX58 (l := ps) (n := (A.length : Int)) (by omega) h1
    rw [show ((A.length : Int)).toNat = A.length by omega, getElem!_pos ps A.length (by omega), hx] at hi
    have hj := IX23 (l := l) (n := (A.length : Int)) (by omega) (by omega)
    rw [show ((A.length : Int)).toNat = A.length by omega, getElem!_pos l A.length (by omega), hv] at hj
    have hfl : loadA T 104 (.ip [.str x.1, .int .i64 x.2.kind, flds x.2.fields]) = some (fldAv x) := by simp
    have hvl : loadA T 39 (.ip (acells v.av)) = some v.av := by simp
    have hw : IntKind.i64.wrap ((A.length : Int) + 1) = ((A.length + 1 : Nat) : Int) := wrap_add1 (by omega)
    have hbd := t70 a (A.map (·.1)) la x.1 v (by simp; omega) (by omega)
    have ih := loop_bind f a ps l x6 x7 x8 x9 hb hl B (A ++ [x]) lb' (la ++ [v]) (by rw [← e]; simp) (by rw [← e2]; simp) (by simp [hla])
    simp only [List.map_append, List.map_cons, List.map_nil, List.length_append, List.length_singleton] at ih
    rw [← ih, FL42_0]
    simp only [L42_0, nth_zero, nth_succ, bin_lss, bnd_some, condM_bool, h1, decide_true, if_true, hi, hfl, cellsM_of (okEl_fld x), bnd_pure, acells_agg, acells_fld, FA104_0, List.drop_zero, LD9, hj, hvl, fold_scope, hbd, noPan_pure, cellsNil_of (okEl_scope _ _ _), acells_scope, bin_add, hw]
def EnterOK (p : List Mod) (nm : SNm) (n : Nat) : Prop := ∀ (a : Int) (f : Fun) (l : List Val) m h, 0 ≤ a → a < p.length → f ∈ (p[a.toNat]?.getD default).funcs → l.length = f.params.length → (∀ v ∈ l, Rv v) → RepP p nm m h → GoodM p m → mu m < 1000000 → m.fuel ≤ n →
  OutG p nm Val.av (enterX p (evalX p n) a f l m) (callW pg 42 [.hp 0 0, .int .i64 a, f.av, vals l] h)
end Go.Proofs.Ytgbopmciiadmlaa
