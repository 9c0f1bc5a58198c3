/- The bounds of the reference of layer 17 answer something. No condition. -/
import Derived.Test.YteemeakjlfnapaaGreatDoorFcT3
namespace Go.Proofs.YteemeakjlfnapaaGreatDoor
open Go Go.Av Go.Av.Ap
set_option maxRecDepth 100000
theorem ex130 : ∀ (d : Nat), d ≤ 6 → ∀ (t : Ty), t.Lim → ∀ most : Int, 0 ≤ most → most ≤ 1000 → ∃ r : Int, callW pg 130 [t.av, .int .i64 most, .int .i64 d] = M.pure (.int .i64 r) ∧ 1 ≤ r ∧ r ≤ most + 1
  | 0, _, t, ht, most, h0, h1 => by
    have w1 : IntKind.i64.wrap (most + 1) = most + 1 := wrap_in (by omega) (by omega)
    refine ⟨most + 1, ?_, by omega, by omega⟩
    rw [C130]
    simp [S130, w1]
  | d + 1, hd, t, ht, most, h0, h1 => by
    have hlen := ht.len
    have hd1 : IntKind.i64.wrap (((d + 1 : Nat) : Int) - 1) = (d : Int) := wrap_sub1 (by omega)
    have hl : ∀ (k i : Nat), t.fields.length - i = k → i ≤ t.fields.length → ∀ m : Int, 1 ≤ m → m ≤ most + 1 → ∃ r : Int, fixW (L130_0 (callW pg) fixW) [.int .i64 most, .int .i64 ((d + 1 : Nat) : Int), .ip (acells t.av), .int .i64 m, .int .i64 i] = M.pure (.int .i64 r) ∧ 1 ≤ r ∧ r ≤ most + 1 := by
      intro k
      induction k with
      | zero =>
        intro i hk hi m hm1 hm2
        rw [FL130_0]
        have h1 : ¬ ((i : Int) < (t.fields.length : Int)) := by omega
        exact ⟨m, by simp [L130_0, h1], hm1, hm2⟩
      | succ k ihk =>
        intro i hk hi m hm1 hm2
        rw [FL130_0]
        have hlt : i < t.fields.length := by omega
        have h1' : (i : Int) < (t.fields.length : Int) := by omega
        by_cases hm : m ≤ most
        · have hix := IX25 (l := t.fields) (n := (i : Int)) (by omega) h1'
          rw [Int.toNat_natCast, getElem!_pos t.fields i hlt] at hix
          have hm' := List.getElem_mem hlt
          generalize t.fields[i] = f at hix hm'
          obtain ⟨r, e1, e2, e3⟩ := ex130 d (by omega) f.2 (ht.kid hm') (most - m) (by omega) (by omega)
          obtain ⟨r2, g1, g2, g3⟩ := ihk (i + 1) (by omega) (by omega) (m + r) (by omega) (by omega)
          have w1 : IntKind.i64.wrap (most - m) = most - m := wrap_in (by omega) (by omega)
          have w2 : IntKind.i64.wrap (m + r) = m + r := wrap_in (by omega) (by omega)
          have w3 : IntKind.i64.wrap ((i : Int) + 1) = ((i + 1 : Nat) : Int) := wrap_add1 (by omega)
          refine ⟨r2, ?_, g2, g3⟩
          rw [← g1]
          simp only [L130_0, nth_zero, nth_succ, acells_ty, FA27_1, bnd_some, List.drop_succ_cons, List.drop_zero, LD25, LENE25, bin_lss, bin_leq, h1', hm, decide_true, guardM_take1, bnd_pure, pickA_true, condM_bool, if_true, hix, acells_fld, FA76_1, LD27, List.length_cons, List.length_nil, Nat.zero_add, Nat.reduceAdd, Nat.le_refl, List.take_succ_cons, List.take_zero, fold_ty, bin_sub, w1, hd1, e1, bin_add, w2, w3]
        · exact ⟨m, by simp [L130_0, h1', hm], hm1, hm2⟩
    obtain ⟨r, e1, e2, e3⟩ := hl t.fields.length 0 rfl (by omega) 1 (by omega) (by omega)
    refine ⟨r, ?_, e2, e3⟩
    rw [C130]
    have e1' : fixW (L130_0 (callW pg) fixW) [.int .i64 most, .int .i64 ((d + 1 : Nat) : Int), .ip (acells t.av), .int .i64 1, .int .i64 0] = M.pure (.int .i64 r) := e1
    have hge : ¬ ((((d + 1 : Nat) : Int)) < 1) := by omega
    simp only [S130, cl_ty, cl_int, bin_lss, bnd_some, hge, decide_false, condM_bool, Bool.false_eq_true, if_false, e1', isoP_int]
theorem ex53 (t : Ty) (ht : t.Lim) : ∃ b, callW pg 53 [t.av] = M.pure (.bool b) := by
  obtain ⟨r, e1, e2, e3⟩ := ex130 6 (by omega) t ht 40 (by omega) (by omega)
  have e1' : callW pg 130 [t.av, .int .i64 40, .int .i64 6] = M.pure (.int .i64 r) := e1
  rw [C53]
  exact ⟨decide (r ≤ 40), by simp [S53, e1']⟩
theorem ex32 (s : Sig) (hs : s.Lim) : ∃ b, callW pg 32 [s.av] = M.pure (.bool b) := by
  have hlen := hs.plen
  obtain ⟨br, hbr⟩ := ex53 s.result hs.result
  have hfin : ∃ b, (bnd (bnd (lft (binA T BinOp.leq 3 (.int .i64 s.params.length) (AV.int IntKind.i64 8))) fun v19 => bnd (guardM v19 true 1 (M.pure [.bool br])) fun v23 => bnd (lft (pickA v19 (nth v23 0) (AV.bool false))) fun v24 => M.pure v24) M.pure : M AV) = M.pure (.bool b) := by
    cases br <;> by_cases h : (s.params.length : Int) ≤ 8 <;> simp [h]
  obtain ⟨b, hb⟩ := fix_ex (FL32_0 (callW pg)) (fun k => [.ip (acells s.av), .int .i64 (k : Int)]) s.params.length (by
    cases br <;> by_cases h : (s.params.length : Int) ≤ 8 <;> simp [L32_0, hbr, h]) (fun k hk => by
    have h1 : (k : Int) < (s.params.length : Int) := by omega
    have hix := IX54 (l := s.params) (n := (k : Int)) (by omega) h1
    rw [Int.toNat_natCast, getElem!_pos s.params k hk] at hix
    have hm' := List.getElem_mem hk
    generalize s.params[k] = t at hix hm'
    have w3 : IntKind.i64.wrap ((k : Int) + 1) = (k : Int) + 1 := by rw [wrap_add1 (by omega)]; simp
    obtain ⟨b, hb⟩ := ex53 t (hs.ptys t hm')
    by_cases h9 : (k : Int) < 9
    · have h9' : k < 9 := by omega
      cases b with
      | false => exact .inl ⟨false, by simp [L32_0, h1, hk, hix, hb, h9, h9']⟩
      | true => exact .inr (by simp [L32_0, h1, hk, hix, hb, h9, h9', w3])
    · have h9' : ¬ k < 9 := by omega
      refine .inl ?_
      cases br <;> by_cases h : (s.params.length : Int) ≤ 8 <;> simp [L32_0, h1, hk, h9, h9', hbr, h]) 0 (Nat.zero_le _)
  refine ⟨b, ?_⟩
  rw [C32]
  have hb' : fixW (L32_0 (callW pg) fixW) [.ip (acells s.av), .int .i64 0] = M.pure (.bool b) := hb
  simp only [S32, cl_sig, hb', isoP_bool]
end Go.Proofs.YteemeakjlfnapaaGreatDoor
