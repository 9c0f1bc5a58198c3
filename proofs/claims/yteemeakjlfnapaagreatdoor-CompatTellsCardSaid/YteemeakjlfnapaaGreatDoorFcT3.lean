/- The limits of the statements of layer 18 answer. No condition. -/
import Derived.Test.YteemeakjlfnapaaGreatDoorFcT1
namespace Go.Proofs.YteemeakjlfnapaaGreatDoor
open Go Go.Av Go.Av.Ap
set_option maxRecDepth 100000
theorem fix_ex {F : (List AV → M AV) → List AV → M AV} (hF : ∀ vs, fixW F vs = F (fixW F) vs) (st : Nat → List AV) (n : Nat)
    (hend : ∃ b, F (fixW F) (st n) = M.pure (.bool b)) (hstep : ∀ k, k < n → (∃ b, F (fixW F) (st k) = M.pure (.bool b)) ∨ F (fixW F) (st k) = fixW F (st (k + 1))) :
    ∀ k, k ≤ n → ∃ b, fixW F (st k) = M.pure (.bool b) := by
  have key : ∀ r k, n - k = r → k ≤ n → ∃ b, fixW F (st k) = M.pure (.bool b) := by
    intro r
    induction r with
    | zero =>
      intro k hr hk
      obtain rfl : k = n := by omega
      rw [hF]
      exact hend
    | succ r ih =>
      intro k hr hk
      rw [hF]
      rcases hstep k (by omega) with h | h
      · exact h
      · rw [h]
        exact ih (k + 1) (by omega) (by omega)
  exact fun k hk => key (n - k) k rfl hk
theorem size_fld2 {t : Ty} {f : Fld} (h : f ∈ t.fields) : SizeOf.sizeOf f.2 < SizeOf.sizeOf t := by
  cases t with
  | mk k fs =>
    have h1 := List.sizeOf_lt_of_mem (show f ∈ fs from h)
    obtain ⟨a, b⟩ := f
    show SizeOf.sizeOf b < _
    simp at h1 ⊢
    omega
theorem ex62 : ∀ (n : Nat) (t : Ty), SizeOf.sizeOf t ≤ n → t.Lim → ∀ most : Int, 0 ≤ most → most ≤ 1000 → ∃ r : Int, callW pg 62 [t.av, .int .i64 most] = M.pure (.int .i64 r) ∧ 1 ≤ r ∧ r ≤ most + 1 := by
  intro n
  induction n with
  | zero =>
    intro t h
    cases t
    simp at h
  | succ n ih =>
    intro t hs ht most h0 h1
    have hlen := ht.len
    have hl : ∀ (k i : Nat), t.fields.length - i = k → i ≤ t.fields.length → ∀ m : Int, 1 ≤ m → m ≤ most + 1 → ∃ r : Int, fixW (L62_0 (callW pg) fixW) [.int .i64 most, .ip (acells t.av), .int .i64 m, .int .i64 i] = M.pure (.int .i64 r) ∧ 1 ≤ r ∧ r ≤ most + 1 := by
      intro k
      induction k with
      | zero =>
        intro i hk hi m hm1 hm2
        rw [FL62_0]
        have h1 : ¬ ((i : Int) < (t.fields.length : Int)) := by omega
        exact ⟨m, by simp [L62_0, h1], hm1, hm2⟩
      | succ k ihk =>
        intro i hk hi m hm1 hm2
        rw [FL62_0]
        have hlt : i < t.fields.length := by omega
        have h1' : (i : Int) < (t.fields.length : Int) := by omega
        by_cases hm : m ≤ most
        · have hix := IX25 (l := t.fields) (n := (i : Int)) (by omega) h1'
          rw [Int.toNat_natCast, getElem!_pos t.fields i hlt] at hix
          have hm' := List.getElem_mem hlt
          generalize t.fields[i] = f at hix hm'
          have hsz := size_fld2 hm'
          obtain ⟨r, e1, e2, e3⟩ := ih f.2 (by omega) (ht.kid hm') (most - m) (by omega) (by omega)
          obtain ⟨r2, g1, g2, g3⟩ := ihk (i + 1) (by omega) (by omega) (m + r) (by omega) (by omega)
          have w1 : IntKind.i64.wrap (most - m) = most - m := wrap_in (by omega) (by omega)
          have w2 : IntKind.i64.wrap (m + r) = m + r := wrap_in (by omega) (by omega)
          have w3 : IntKind.i64.wrap ((i : Int) + 1) = ((i + 1 : Nat) : Int) := wrap_add1 (by omega)
          refine ⟨r2, ?_, g2, g3⟩
          rw [← g1]
          simp only [L62_0, nth_zero, nth_succ, acells_ty, FA27_1, bnd_some, List.drop_succ_cons, List.drop_zero, LD25, LENE25, bin_lss, bin_leq, h1', hm, decide_true, guardM_take1, bnd_pure, pickA_true, condM_bool, if_true, hix, acells_fld, FA76_1, LD27, List.length_cons, List.length_nil, Nat.zero_add, Nat.reduceAdd, Nat.le_refl, List.take_succ_cons, List.take_zero, fold_ty, bin_sub, w1, e1, bin_add, w2, w3]
        · exact ⟨m, by simp [L62_0, h1', hm], hm1, hm2⟩
    obtain ⟨r, e1, e2, e3⟩ := hl t.fields.length 0 rfl (by omega) 1 (by omega) (by omega)
    refine ⟨r, ?_, e2, e3⟩
    rw [C62]
    have e1' : fixW (L62_0 (callW pg) fixW) [.int .i64 most, .ip (acells t.av), .int .i64 1, .int .i64 0] = M.pure (.int .i64 r) := e1
    simp only [S62, cl_ty, cl_int, e1', isoP_int]
theorem ex63 : ∀ (n : Nat) (t : Ty), SizeOf.sizeOf t ≤ n → t.Lim → ∃ b, callW pg 63 [t.av] = M.pure (.bool b) := by
  intro n
  induction n with
  | zero =>
    intro t h
    cases t
    simp at h
  | succ n ih =>
    intro t hs ht
    have hlen := ht.len
    obtain ⟨b, hb⟩ := fix_ex (FL63_0 (callW pg)) (fun k => [.ip (acells t.av), .int .i64 (k : Int)]) t.fields.length ⟨true, by simp [L63_0]⟩ (fun k hk => by
      have h1 : (k : Int) < (t.fields.length : Int) := by omega
      have hix := IX25 (l := t.fields) (n := (k : Int)) (by omega) h1
      rw [Int.toNat_natCast, getElem!_pos t.fields k hk] at hix
      have hm' := List.getElem_mem hk
      generalize t.fields[k] = f at hix hm'
      have hsz := size_fld2 hm'
      have w3 : IntKind.i64.wrap ((k : Int) + 1) = (k : Int) + 1 := by rw [wrap_add1 (by omega)]; simp
      obtain ⟨b, hb⟩ := ih f.2 (by omega) (ht.kid hm')
      by_cases hn : 30 < (f.1.length : Int)
      · refine .inl ⟨false, ?_⟩
        have hn' : 30 < f.1.length := by omega
        simp [L63_0, h1, hk, hix, hn, hn']
      · have hn' : ¬ 30 < f.1.length := by omega
        cases b with
        | false => exact .inl ⟨false, by simp [L63_0, h1, hk, hix, hn, hn', hb]⟩
        | true => exact .inr (by simp [L63_0, h1, hk, hix, hn, hn', hb, w3])) 0 (Nat.zero_le _)
    refine ⟨b, ?_⟩
    rw [C63]
    have hb' : fixW (L63_0 (callW pg) fixW) [.ip (acells t.av), .int .i64 0] = M.pure (.bool b) := hb
    simp only [S63, cl_ty, hb', isoP_bool]
theorem ex16 (t : Ty) (ht : t.Lim) : ∃ b, callW pg 16 [t.av] = M.pure (.bool b) := by
  obtain ⟨r, e1, e2, e3⟩ := ex62 _ t (Nat.le_refl _) ht 40 (by omega) (by omega)
  obtain ⟨b, hb⟩ := ex63 _ t (Nat.le_refl _) ht
  rw [C16]
  by_cases h : r ≤ 40
  · exact ⟨b, by simp [S16, e1, hb, h]⟩
  · exact ⟨false, by simp [S16, e1, h]⟩
theorem ex61 (l : List Ty) (hl : l.length ≤ 4611686018427387904) (ht : ∀ t ∈ l, t.Lim) : ∃ b, callW pg 61 [tys l] = M.pure (.bool b) := by
  obtain ⟨b, hb⟩ := fix_ex (FL61_0 (callW pg)) (fun k => [tys l, .int .i64 (k : Int)]) l.length ⟨true, by simp [L61_0]⟩ (fun k hk => by
    have h1 : (k : Int) < (l.length : Int) := by omega
    have hix := IX54 (l := l) (n := (k : Int)) (by omega) h1
    rw [Int.toNat_natCast, getElem!_pos l k hk] at hix
    have hm' := List.getElem_mem hk
    generalize l[k] = t at hix hm'
    have w3 : IntKind.i64.wrap ((k : Int) + 1) = (k : Int) + 1 := by rw [wrap_add1 (by omega)]; simp
    obtain ⟨b, hb⟩ := ex16 t (ht t hm')
    cases b with
    | false => exact .inl ⟨false, by simp [L61_0, h1, hk, hix, hb]⟩
    | true => exact .inr (by simp [L61_0, h1, hk, hix, hb, w3])) 0 (Nat.zero_le _)
  refine ⟨b, ?_⟩
  rw [C61]
  have hb' : fixW (L61_0 (callW pg) fixW) [tys l, .int .i64 0] = M.pure (.bool b) := hb
  simp only [S61, cl_tys, hb', isoP_bool]
theorem buildT1 (t : Ty) : buildSliceA T 54 1 [(0, t.av)] = some (tys [t]) := by
  have e : buildSliceA T 54 1 [(0, t.av)] = (fillEls 2 [AV.agg [.int .i64 0, .sl []]] [(0, t.av)]).map .sl := rfl
  rw [e]
  simp [fillEls, tys]
theorem ex15 (f : Face) (hf : f.Lim) : ∃ b, callW pg 15 [f.av] = M.pure (.bool b) := by
  have hlen := hf.len
  have tail : ∀ (p q : Bool), ∃ b, (bnd (guardM (.bool p) true 1 (M.pure [.bool q])) fun v46 => bnd (lft (pickA (.bool p) (nth v46 0) (.bool false))) fun v47 => M.pure v47 : M AV) = M.pure (.bool b) := by
    intro p q
    cases p <;> cases q <;> exact ⟨_, rfl⟩
  obtain ⟨b, hb⟩ := fix_ex (FL15_0 (callW pg)) (fun k => [.ip (acells f.av), .int .i64 (k : Int)]) f.funcs.length (by
    obtain ⟨b, hb⟩ := tail (decide ((f.module.length : Int) ≤ 30)) (decide ((f.funcs.length : Int) ≤ 10))
    refine ⟨b, ?_⟩
    rw [← hb]
    simp [L15_0]) (fun k hk => by
    have h1 : (k : Int) < (f.funcs.length : Int) := by omega
    have hix := IX22 (l := f.funcs) (n := (k : Int)) (by omega) h1
    rw [Int.toNat_natCast, getElem!_pos f.funcs k hk] at hix
    have hm' := List.getElem_mem hk
    generalize f.funcs[k] = s at hix hm'
    have hs := hf.sigs s hm'
    have w3 : IntKind.i64.wrap ((k : Int) + 1) = (k : Int) + 1 := by rw [wrap_add1 (by omega)]; simp
    obtain ⟨b1, hb1⟩ := ex61 s.params (by have := hs.plen; omega) hs.ptys
    obtain ⟨b2, hb2⟩ := ex61 [s.result] (by simp) (fun t ht => by simp at ht; subst ht; exact hs.result)
    have hbs : buildSliceA T 54 1 [(0, s.result.av)] = some (tys [s.result]) := buildT1 _
    obtain ⟨b, hb⟩ := tail (decide ((f.module.length : Int) ≤ 30)) (decide ((f.funcs.length : Int) ≤ 10))
    by_cases h10 : k ≤ 10
    · have h10' : ((k : Int) ≤ 10) := by omega
      by_cases h30 : 30 < s.name.length
      · have h30' : 30 < (s.name.length : Int) := by omega
        exact .inl ⟨false, by simp [L15_0, h1, hk, hix, h10, h10', h30, h30']⟩
      · have h30' : ¬ 30 < (s.name.length : Int) := by omega
        by_cases h8 : 8 < s.params.length
        · have h8' : 8 < (s.params.length : Int) := by omega
          exact .inl ⟨false, by simp [L15_0, h1, hk, hix, h10, h10', h30, h30', h8, h8']⟩
        · have h8' : ¬ 8 < (s.params.length : Int) := by omega
          cases b1 with
          | false => exact .inl ⟨false, by simp [L15_0, h1, hk, hix, h10, h10', h30, h30', h8, h8', hb1]⟩
          | true =>
            cases b2 with
            | false => exact .inl ⟨false, by simp [L15_0, h1, hk, hix, h10, h10', h30, h30', h8, h8', hb1, hbs, hb2]⟩
            | true => exact .inr (by simp [L15_0, h1, hk, hix, h10, h10', h30, h30', h8, h8', hb1, hbs, hb2, w3])
    · have h10' : ¬ ((k : Int) ≤ 10) := by omega
      refine .inl ⟨b, ?_⟩
      rw [← hb]
      simp [L15_0, h1, hk, h10, h10']) 0 (Nat.zero_le _)
  refine ⟨b, ?_⟩
  rw [C15]
  have hb' : fixW (L15_0 (callW pg) fixW) [.ip (acells f.av), .int .i64 0] = M.pure (.bool b) := hb
  simp only [S15, cl_face, hb', isoP_bool]
end Go.Proofs.YteemeakjlfnapaaGreatDoor
