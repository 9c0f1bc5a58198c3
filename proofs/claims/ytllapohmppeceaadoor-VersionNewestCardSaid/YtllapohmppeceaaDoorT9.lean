/- The law VersionNewest returns true. No condition. -/
import Derived.Test.YtllapohmppeceaaDoorT8
namespace Go.Proofs.YtllapohmppeceaaDoor.N
open Go Go.Av Go.Av.Ap
theorem newest_gen (q : Ver → Bool) : ∀ (l : List Ver) (b : Ver) (f : Bool), ((newestL q l b f).2 = (f || l.any q)) ∧ ((newestL q l b f).2 = true → (f = true ∧ (newestL q l b f).1 = b) ∨ ((newestL q l b f).1 ∈ l ∧ q (newestL q l b f).1 = true)) ∧
    (∀ v ∈ l, q v = true → v ≤ (newestL q l b f).1) ∧ (f = true → b ≤ (newestL q l b f).1) ∧ ((newestL q l b f).2 = false → (newestL q l b f).1 = b)
  | [], b, f => by simp [newestL]
  | v :: l, b, f => by
    unfold newestL
    by_cases h : (q v && (!f || decide (0 < cmpV v b))) = true
    · rw [if_pos h]
      obtain ⟨h1, h2, h3, h4, h5⟩ := newest_gen q l v true
      simp only [Bool.and_eq_true, Bool.or_eq_true, Bool.not_eq_true', decide_eq_true_iff, c_gt] at h
      refine ⟨by rw [h1]; simp [h.1], fun hr => ?_, fun u hu hq => ?_, fun hf => ?_, fun hr => ?_⟩
      · rcases h2 hr with ⟨_, e⟩ | ⟨e1, e2⟩
        · right; rw [e]; exact ⟨List.mem_cons_self, h.1⟩
        · right; exact ⟨List.mem_cons_of_mem _ e1, e2⟩
      · rcases List.mem_cons.1 hu with rfl | hu
        · exact h4 rfl
        · exact h3 u hu hq
      · have := h4 rfl
        rcases h.2 with e | e
        · rw [e] at hf; cases hf
        · grind
      · rw [h1] at hr; simp at hr
    · rw [if_neg h]
      obtain ⟨h1, h2, h3, h4, h5⟩ := newest_gen q l b f
      simp only [Bool.and_eq_true, Bool.or_eq_true, Bool.not_eq_true', decide_eq_true_iff, c_gt, not_and, not_or] at h
      have hqf : q v = true → f = true ∧ v ≤ b := fun hq => by
        obtain ⟨e1, e2⟩ := h hq
        exact ⟨by simpa using e1, by grind⟩
      refine ⟨?_, fun hr => ?_, fun u hu hq => ?_, h4, h5⟩
      · rw [h1, List.any_cons]
        cases hq : q v with
        | false => simp
        | true => rw [(hqf hq).1]; simp
      · rcases h2 hr with e | ⟨e1, e2⟩
        · exact .inl e
        · exact .inr ⟨List.mem_cons_of_mem _ e1, e2⟩
      · rcases List.mem_cons.1 hu with rfl | hu
        · obtain ⟨e1, e2⟩ := hqf hq
          have := h4 e1
          grind
        · exact h3 u hu hq
def newest (q : Ver → Bool) (l : List Ver) : Ver × Bool := newestL q l ⟨0, 0, 0⟩ false
structure NewOK (q : Ver → Bool) (l : List Ver) (r : Ver × Bool) : Prop where
  is : r.2 = l.any q
  mem : r.2 = true → r.1 ∈ l ∧ q r.1 = true
  top : ∀ v ∈ l, q v = true → v ≤ r.1
  none : r.2 = false → r.1 = ⟨0, 0, 0⟩
theorem newest_ok (q : Ver → Bool) (l : List Ver) : NewOK q l (newest q l) := by
  obtain ⟨h1, h2, h3, _, h5⟩ := newest_gen q l ⟨0, 0, 0⟩ false
  refine ⟨?_, fun h => ?_, h3, h5⟩
  · rw [Bool.false_or] at h1
    exact h1
  · rcases h2 h with ⟨e, _⟩ | e
    · cases e
    · exact e
theorem newest_rev (q : Ver → Bool) (l : List Ver) : newest q l.reverse = newest q l := by
  have h1 := newest_ok q l
  have h2 := newest_ok q l.reverse
  have e2 : (newest q l.reverse).2 = (newest q l).2 := by rw [h1.is, h2.is, List.any_reverse]
  have e1 : (newest q l.reverse).1 = (newest q l).1 := by
    cases hs : (newest q l).2 with
    | false => rw [h1.none hs, h2.none (e2.trans hs)]
    | true =>
      obtain ⟨m1, q1⟩ := h1.mem hs
      obtain ⟨m2, q2⟩ := h2.mem (e2.trans hs)
      have t1 := h1.top _ (List.mem_reverse.1 m2) q2
      have t2 := h2.top _ (List.mem_reverse.2 m1) q1
      grind
  exact Prod.ext e1 e2
theorem ix42 (A : List Ver) (x : Ver) (B : List Ver) : indexAddrA T 42 (vers (A ++ x :: B)) (.int .i64 A.length) = some (.ip (acells x.av)) := by
  rw [IX42 (by omega) (by simp; omega)]
  simp
theorem neV (v w : Ver) : binA T .neq 23 v.av w.av = some (.bool !(decide (v = w))) := by
  have h := eqV v w
  have e1 : binA T .eql 23 v.av w.av = (eqA T 20 23 v.av w.av).map .bool := rfl
  have e2 : binA T .neq 23 v.av w.av = (eqA T 20 23 v.av w.av).map fun b => .bool !b := rfl
  rw [e1] at h
  rw [e2]
  cases hq : eqA T 20 23 v.av w.av with
  | none => rw [hq] at h; cases h
  | some b => rw [hq] at h; simp at h; simp [h]
theorem build23 : buildA T false 23 [] = some (Ver.av ⟨0, 0, 0⟩) := rfl
theorem bv42 (x : Ver) : buildSliceA T 42 1 [(0, x.av)] = some (vers [x]) := rfl
theorem loop7 (l : List Ver) (a b : List Rng) (hl : l.length ≤ 20) (ha : a.length ≤ 8) (x y : Ver) (is more : Bool) (hN : newest (hasL a) l = (x, is)) (hM : is = true → more = true ∧ x ≤ y) : ∀ (B A TB TA : List Ver) (found : Bool), A ++ B = l → TA ++ TB = l.reverse → A.length = TA.length →
    found = A.any (fun v => hasL a v && (is && decide (v = x))) →
    fixW (L7_0 (callW pg) fixW) [vers l, rngs a, .bool true, .ip (acells x.av), .bool is, .ip (acells y.av), .bool more, vers TA, .bool found, .int .i64 A.length] = M.pure (.bool true)
  | [], A, TB, TA, found, e, eT, hlen, hf => by
    simp only [List.append_nil] at e
    subst e
    have hTB : TB = [] := by
      have := congrArg List.length eT
      simp at this
      exact List.length_eq_zero_iff.1 (by omega)
    subst hTB
    simp only [List.append_nil] at eT
    subst eT
    have hok := newest_ok (hasL a) A
    rw [hN] at hok
    have hfi : found = is := by
      rw [hf]
      cases his : is with
      | false => simp
      | true =>
        obtain ⟨m1, m2⟩ := hok.mem his
        simp only [Bool.true_and]
        rw [List.any_eq_true]
        exact ⟨x, m1, by simp at m2; simp [m2]⟩
    have h21 := t21 A.reverse a (by simp; omega) (by omega)
    rw [show newestL (hasL a) A.reverse ⟨0, 0, 0⟩ false = newest (hasL a) A.reverse from rfl, newest_rev, hN] at h21
    simp only at h21
    rw [FL7_0]
    have lv : ∀ x : Ver, loadA T 23 (.ip (acells x.av)) = some x.av := fun _ => rfl
    cases his : is with
    | true =>
      obtain ⟨hm, hxy⟩ := hM his
      have hxy' : cmpV x y ≤ 0 := (c_le _ _).2 hxy
      subst hfi
      simp [L7_0, h21, his, neqB, neV, t12, hm, hxy']
    | false =>
      have hx0 := hok.none his
      simp only at hx0
      subst hfi
      have hb := build23
      generalize (⟨0, 0, 0⟩ : Ver) = z0 at hb hx0
      subst hx0
      simp [L7_0, h21, his, neqB, neV, hb]
  | v :: B, A, TB, TA, found, e, eT, hlen, hf => by
    have hok := newest_ok (hasL a) l
    rw [hN] at hok
    have hll : A.length + (B.length + 1) = l.length := by rw [← e]; simp
    have hTl : TA.length + TB.length = l.length := by
      have := congrArg List.length eT
      simpa using this
    obtain ⟨z, TB', rfl⟩ : ∃ z TB', TB = z :: TB' := by
      cases TB with
      | nil => simp at hTl; omega
      | cons z t => exact ⟨z, t, rfl⟩
    simp only [List.length_cons] at hTl
    have hvl : v ∈ l := by rw [← e]; simp
    have ih := loop7 l a b hl ha x y is more hN hM B (A ++ [v]) TB' (TA ++ [z]) (found || (hasL a v && (is && decide (v = x)))) (by rw [← e]; simp) (by rw [← eT]; simp) (by simp; omega) (by rw [hf, List.any_append]; simp)
    rw [show (A ++ [v]).length = A.length + 1 by simp] at ih
    have h1 : (A.length : Int) < (l.length : Int) := by omega
    have hw : IntKind.i64.wrap ((A.length : Int) + 1) = ((A.length + 1 : Nat) : Int) := wrap_add1 (by omega)
    have hw1 : IntKind.i64.wrap ((l.length : Int) - 1) = (l.length : Int) - 1 := wrap_in (by omega) (by omega)
    have hw2 : IntKind.i64.wrap ((l.length : Int) - 1 - A.length) = (TB'.length : Int) := by rw [wrap_in (by omega) (by omega)]; omega
    have hix : indexAddrA T 42 (vers l) (.int .i64 A.length) = some (.ip (acells v.av)) := by rw [← e]; exact ix42 A v B
    have hiz : indexAddrA T 42 (vers l) (.int .i64 TB'.length) = some (.ip (acells z.av)) := by
      have e2 : l = TB'.reverse ++ z :: TA.reverse := by
        rw [← List.reverse_reverse l, ← eT]
        simp
      have := ix42 TB'.reverse z TA.reverse
      rw [← e2, List.length_reverse] at this
      exact this
    have hap : appA T 42 (vers TA) (vers [z]) = some (vers (TA ++ [z])) := AP42 (by simp; omega)
    have hc : ((A.length + 1 : Nat) : Int) = (A.length : Int) + 1 := rfl
    rw [hc] at ih hw
    have hv18 := t18 a v (by omega)
    have htop : hasL a v = true → ¬ (0 < cmpV v x) ∧ is = true := by
      intro h
      have h2 := hok.top v hvl h
      simp only at h2
      refine ⟨fun h3 => ?_, ?_⟩
      · rw [c_gt] at h3
        grind
      · have := hok.is
        simp only at this
        rw [this, List.any_eq_true]
        exact ⟨v, hvl, h⟩
    rw [FL7_0]
    cases hq : hasL a v with
    | false =>
      simp only [hq, Bool.false_and, Bool.or_false] at ih
      cases found <;> (simp [L7_0, h1, hw, hw1, hw2, hix, hiz, hap, bv42, hv18, hq] at ih ⊢; exact ih)
    | true =>
      obtain ⟨h3, h4⟩ := htop hq
      simp only [hq, h4, Bool.true_and] at ih
      cases found with
      | true => simp [L7_0, h1, hw, hw1, hw2, hix, hiz, hap, bv42, hv18, hq, h4, h3, t12] at ih ⊢; exact ih
      | false =>
        simp [L7_0, h1, hw, hw1, hw2, hix, hiz, hap, bv42, hv18, hq, h4, h3, t12, eqV] at ih ⊢
        exact ih
theorem t7 (l : List Ver) (a b : List Rng) : callW pg 7 [vers l, rngs a, rngs b] = M.pure (.bool true) := by
  rw [C7]
  simp only [cl_rngs, cl_vers]
  by_cases hl : 20 < l.length
  · have h1 : ((20 : Int) < l.length) := by omega
    simp [S7, t8, h1]
  by_cases ha : 8 < a.length
  · have h0 : ¬ ((20 : Int) < l.length) := by omega
    have h1 : ((8 : Int) < a.length) := by omega
    simp [S7, t8, h0, h1]
  by_cases hb : 8 < b.length
  · have h0 : ¬ ((20 : Int) < l.length) := by omega
    have h1 : ¬ ((8 : Int) < a.length) := by omega
    have h2 : ((8 : Int) < b.length) := by omega
    simp [S7, t8, h0, h1, h2]
  have h0 : ¬ ((20 : Int) < l.length) := by omega
  have h1 : ¬ ((8 : Int) < a.length) := by omega
  have h2 : ¬ ((8 : Int) < b.length) := by omega
  have l1 := union_len a b
  have h21 := t21 l a (by omega) (by omega)
  have h21' := t21 l (unionL a b) (by omega) (by omega)
  rw [show newestL (hasL a) l ⟨0, 0, 0⟩ false = newest (hasL a) l from rfl] at h21
  rw [show newestL (hasL (unionL a b)) l ⟨0, 0, 0⟩ false = newest (hasL (unionL a b)) l from rfl] at h21'
  have hA := newest_ok (hasL a) l
  have hU := newest_ok (hasL (unionL a b)) l
  have hM : (newest (hasL a) l).2 = true → (newest (hasL (unionL a b)) l).2 = true ∧ (newest (hasL a) l).1 ≤ (newest (hasL (unionL a b)) l).1 := by
    intro h
    obtain ⟨m1, m2⟩ := hA.mem h
    have hu : hasL (unionL a b) (newest (hasL a) l).1 = true := by rw [union_has, m2]; rfl
    refine ⟨?_, hU.top _ m1 hu⟩
    rw [hU.is, List.any_eq_true]
    exact ⟨_, m1, hu⟩
  have hlp := loop7 l a b (by omega) (by omega) (newest (hasL a) l).1 (newest (hasL (unionL a b)) l).1 (newest (hasL a) l).2 (newest (hasL (unionL a b)) l).2 rfl hM l [] l.reverse [] false rfl rfl rfl rfl
  generalize (newest (hasL a) l).1 = x at *
  generalize (newest (hasL a) l).2 = is at *
  generalize (newest (hasL (unionL a b)) l).1 = y at *
  generalize (newest (hasL (unionL a b)) l).2 = more at *
  simp only [List.length_nil, show ((0 : Nat) : Int) = 0 from rfl, show vers [] = AV.sl [] from rfl] at hlp
  have h15 := t15 a b (by omega)
  have x0 : ∀ p q : AV, extractA (.tup [p, q]) 0 = some p := fun _ _ => rfl
  have x1 : ∀ p q : AV, extractA (.tup [p, q]) 1 = some q := fun _ _ => rfl
  simp at hlp
  simp [S7, t8, h0, h1, h2, h21, h21', h15, x0, x1, hlp]
end Go.Proofs.YtllapohmppeceaaDoor.N
