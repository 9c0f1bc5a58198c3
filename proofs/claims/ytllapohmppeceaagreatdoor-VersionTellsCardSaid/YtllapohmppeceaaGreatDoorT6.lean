/- The laws of normal forms of lists of ranges. No condition. -/
import Derived.Test.YtllapohmppeceaaGreatDoorT5
namespace Go.Proofs.YtllapohmppeceaaGreatDoor.N
open Go Go.Av Go.Av.Ap
instance : LT Ver := ⟨ltV⟩
instance : LE Ver := ⟨fun v w => ¬ ltV w v⟩
instance (v w : Ver) : Decidable (v < w) := inferInstanceAs (Decidable (v.a < w.a ∨ v.a = w.a ∧ (v.b < w.b ∨ v.b = w.b ∧ v.c < w.c)))
instance (v w : Ver) : Decidable (v ≤ w) := inferInstanceAs (Decidable (¬ (w.a < v.a ∨ w.a = v.a ∧ (w.b < v.b ∨ w.b = v.b ∧ w.c < v.c))))
theorem lt_iff (v w : Ver) : v < w ↔ ltV v w := Iff.rfl
theorem le_iff (v w : Ver) : v ≤ w ↔ ¬ ltV w v := Iff.rfl
instance : Std.IsLinearOrder Ver where
  le_refl v := by rw [le_iff]; unfold ltV; omega
  le_trans v w u := by rw [le_iff, le_iff, le_iff]; unfold ltV; omega
  le_antisymm v w := by
    rw [le_iff, le_iff]
    obtain ⟨a, b, c⟩ := v
    obtain ⟨a', b', c'⟩ := w
    unfold ltV
    simp only [Ver.mk.injEq]
    omega
  le_total v w := by rw [le_iff, le_iff]; unfold ltV; omega
instance : Std.LawfulOrderLT Ver where
  lt_iff v w := by rw [lt_iff, le_iff, le_iff]; unfold ltV; omega
theorem c_lt (v w : Ver) : cmpV v w < 0 ↔ v < w := cmpV_lt v w
theorem c_le (v w : Ver) : cmpV v w ≤ 0 ↔ v ≤ w := cmpV_le v w
theorem c_ge (v w : Ver) : 0 ≤ cmpV v w ↔ w ≤ v := by rw [le_iff, ← cmpV_lt]; omega
theorem maxV_eq (v w : Ver) : maxV v w = if v < w then w else v := by
  unfold maxV
  by_cases h : v < w
  · rw [if_pos h, if_pos ((c_lt _ _).2 h)]
  · rw [if_neg h, if_neg (fun k => h ((c_lt _ _).1 k))]
theorem minV_eq (v w : Ver) : minV v w = if v < w then v else w := by
  unfold minV
  by_cases h : v < w
  · rw [if_pos h, if_pos ((c_lt _ _).2 h)]
  · rw [if_neg h, if_neg (fun k => h ((c_lt _ _).1 k))]
theorem inR_iff (x : Rng) (v : Ver) : inR x v = true ↔ x.lo ≤ v ∧ v < x.hi := by
  unfold inR
  rw [Bool.and_eq_true, decide_eq_true_iff, decide_eq_true_iff, c_le, c_lt]
theorem emptyR_iff (x : Rng) : emptyR x = true ↔ x.hi ≤ x.lo := by
  unfold emptyR
  rw [decide_eq_true_iff, c_ge]
theorem has_iff (l : List Rng) (v : Ver) : hasL l v = true ↔ ∃ x ∈ l, x.lo ≤ v ∧ v < x.hi := by
  unfold hasL
  rw [List.any_eq_true]
  exact ⟨fun ⟨x, h1, h2⟩ => ⟨x, h1, (inR_iff x v).1 h2⟩, fun ⟨x, h1, h2⟩ => ⟨x, h1, (inR_iff x v).2 h2⟩⟩
theorem has_app (a b : List Rng) (v : Ver) : hasL (a ++ b) v = (hasL a v || hasL b v) := by simp [hasL]
def NF (l : List Rng) : Prop := (∀ x ∈ l, x.lo < x.hi) ∧ l.Pairwise fun x y => x.hi < y.lo
theorem NF.tail {x : Rng} {l : List Rng} (h : NF (x :: l)) : NF l := ⟨fun y hy => h.1 y (List.mem_cons_of_mem _ hy), (List.pairwise_cons.1 h.2).2⟩
theorem NF.ext : ∀ {a b : List Rng}, NF a → NF b → (∀ v, hasL a v = hasL b v) → a = b
  | [], [], _, _, _ => rfl
  | [], y :: b, _, hb, h => by
    have h1 := h y.lo
    have h2 : hasL (y :: b) y.lo = true := (has_iff _ _).2 ⟨y, List.mem_cons_self, by grind, hb.1 y List.mem_cons_self⟩
    rw [h2] at h1
    cases h1
  | x :: a, [], ha, _, h => by
    have h1 := h x.lo
    have h2 : hasL (x :: a) x.lo = true := (has_iff _ _).2 ⟨x, List.mem_cons_self, by grind, ha.1 x List.mem_cons_self⟩
    rw [h2] at h1
    cases h1
  | x :: a, y :: b, ha, hb, h => by
    have low : ∀ {x y : Rng} {a b : List Rng}, NF (x :: a) → NF (y :: b) → (∀ v, hasL (x :: a) v = hasL (y :: b) v) → y.lo ≤ x.lo := by
      intro x y a b ha hb h
      have h1 : hasL (y :: b) x.lo = true := by rw [← h]; exact (has_iff _ _).2 ⟨x, List.mem_cons_self, by grind, ha.1 x List.mem_cons_self⟩
      obtain ⟨z, hz, h2, _⟩ := (has_iff _ _).1 h1
      rcases List.mem_cons.1 hz with rfl | hz
      · exact h2
      · have := (List.pairwise_cons.1 hb.2).1 z hz
        have := hb.1 y List.mem_cons_self
        grind
    have hlo : x.lo = y.lo := by
      have h1 := low ha hb h
      have h2 := low hb ha fun v => (h v).symm
      grind
    have high : ∀ {x y : Rng} {a b : List Rng}, NF (x :: a) → NF (y :: b) → (∀ v, hasL (x :: a) v = hasL (y :: b) v) → x.lo = y.lo → ¬ x.hi < y.hi := by
      intro x y a b ha hb h hlo hlt
      have hx := ha.1 x List.mem_cons_self
      have h1 : hasL (x :: a) x.hi = true := by rw [h]; exact (has_iff _ _).2 ⟨y, List.mem_cons_self, by grind, hlt⟩
      obtain ⟨z, hz, h2, h3⟩ := (has_iff _ _).1 h1
      rcases List.mem_cons.1 hz with rfl | hz
      · grind
      · have := (List.pairwise_cons.1 ha.2).1 z hz
        grind
    have hhi : x.hi = y.hi := by
      have h1 := high ha hb h hlo
      have h2 := high hb ha (fun v => (h v).symm) hlo.symm
      grind
    have hxy : x = y := by
      obtain ⟨_, _⟩ := x
      obtain ⟨_, _⟩ := y
      simp only at hlo hhi
      rw [hlo, hhi]
    subst hxy
    have htl : ∀ {b : List Rng}, NF (x :: b) → ∀ v, hasL b v = (hasL (x :: b) v && decide (x.hi ≤ v)) := by
      intro b hb v
      rw [Bool.eq_iff_iff, Bool.and_eq_true, decide_eq_true_iff, has_iff, has_iff]
      constructor
      · rintro ⟨z, hz, h1, h2⟩
        have := (List.pairwise_cons.1 hb.2).1 z hz
        exact ⟨⟨z, List.mem_cons_of_mem _ hz, h1, h2⟩, by grind⟩
      · rintro ⟨⟨z, hz, h1, h2⟩, h3⟩
        rcases List.mem_cons.1 hz with rfl | hz
        · grind
        · exact ⟨z, hz, h1, h2⟩
    rw [NF.ext ha.tail hb.tail fun v => by rw [htl ha, htl hb, h]]
def RNF (l : List Rng) : Prop := (∀ x ∈ l, x.lo < x.hi) ∧ l.Pairwise fun x y => y.hi < x.lo
theorem mrg_ok {acc : List Rng} {r : Rng} (h : RNF acc) (hr : r.lo < r.hi) (hl : ∀ o ∈ acc.head?, o.lo ≤ r.lo) :
    RNF (mrg acc r) ∧ (∀ v, hasL (mrg acc r) v = (hasL acc v || inR r v)) ∧ ∀ o ∈ (mrg acc r).head?, o.lo ≤ r.lo := by
  cases acc with
  | nil =>
    refine ⟨⟨by simpa [mrg] using hr, by simp [mrg]⟩, fun v => by simp [mrg, hasL], fun o ho => ?_⟩
    simp only [mrg, List.head?_cons, Option.mem_some_iff] at ho
    subst ho
    grind
  | cons o t =>
    have ho := hl o rfl
    have hoo := h.1 o List.mem_cons_self
    obtain ⟨h3, h4⟩ := List.pairwise_cons.1 h.2
    simp only [mrg, c_le, c_lt]
    by_cases hc : r.lo ≤ o.hi
    · rw [if_pos hc]
      by_cases hd : o.hi < r.hi
      · rw [if_pos hd]
        refine ⟨⟨fun x hx => ?_, List.pairwise_cons.2 ⟨h3, h4⟩⟩, fun v => ?_, fun o' ho' => ?_⟩
        · rcases List.mem_cons.1 hx with rfl | hx
          · show o.lo < r.hi; grind
          · exact h.1 x (List.mem_cons_of_mem _ hx)
        · have e : inR ⟨o.lo, r.hi⟩ v = (inR o v || inR r v) := by
            rw [Bool.eq_iff_iff, Bool.or_eq_true, inR_iff, inR_iff, inR_iff]
            show o.lo ≤ v ∧ v < r.hi ↔ _
            grind
          simp only [hasL, List.any_cons, e]
          cases inR o v <;> cases inR r v <;> simp
        · simp only [List.head?_cons, Option.mem_some_iff] at ho'
          subst ho'
          exact ho
      · rw [if_neg hd]
        refine ⟨h, fun v => ?_, fun o' ho' => ?_⟩
        · have e : inR r v = true → inR o v = true := by
            rw [inR_iff, inR_iff]
            grind
          simp only [hasL, List.any_cons]
          cases hq : inR r v with
          | false => simp
          | true => rw [e hq]; rfl
        · simp only [List.head?_cons, Option.mem_some_iff] at ho'
          subst ho'
          exact ho
    · rw [if_neg hc]
      refine ⟨⟨fun x hx => ?_, List.pairwise_cons.2 ⟨fun x hx => ?_, h.2⟩⟩, fun v => ?_, fun o' ho' => ?_⟩
      · rcases List.mem_cons.1 hx with rfl | hx
        · exact hr
        · exact h.1 x hx
      · rcases List.mem_cons.1 hx with rfl | hx
        · grind
        · have := h3 x hx
          grind
      · simp only [hasL, List.any_cons]
        cases inR r v <;> cases inR o v <;> simp
      · simp only [List.head?_cons, Option.mem_some_iff] at ho'
        subst ho'
        grind
theorem fold_ok : ∀ (L acc : List Rng), RNF acc → (∀ x ∈ L, x.lo < x.hi) → L.Pairwise (fun x y => x.lo ≤ y.lo) → (∀ o ∈ acc.head?, ∀ x ∈ L, o.lo ≤ x.lo) →
    RNF (L.foldl mrg acc) ∧ ∀ v, hasL (L.foldl mrg acc) v = (hasL acc v || hasL L v)
  | [], acc, h, _, _, _ => ⟨h, fun v => by simp [hasL]⟩
  | r :: L, acc, h, h1, h2, h3 => by
    obtain ⟨h4, h5⟩ := List.pairwise_cons.1 h2
    obtain ⟨m1, m2, m3⟩ := mrg_ok h (h1 r List.mem_cons_self) fun o ho => h3 o ho r List.mem_cons_self
    obtain ⟨i1, i2⟩ := fold_ok L (mrg acc r) m1 (fun x hx => h1 x (List.mem_cons_of_mem _ hx)) h5 fun o ho x hx => by
      have := m3 o ho
      have := h4 x hx
      grind
    refine ⟨i1, fun v => ?_⟩
    rw [List.foldl_cons, i2, m2]
    simp only [hasL, List.any_cons, Bool.or_assoc]
theorem fold_len : ∀ (L acc : List Rng), (L.foldl mrg acc).length ≤ acc.length + L.length
  | [], acc => by simp
  | r :: L, acc => by
    have := fold_len L (mrg acc r)
    have := mrg_len acc r
    simp only [List.foldl_cons, List.length_cons]
    omega
theorem norm_ok (l : List Rng) : NF (normL l) ∧ ∀ v, hasL (normL l) v = hasL l v := by
  obtain ⟨hp, ho⟩ := srt_ok (keepR l)
  have hk : ∀ x ∈ srt (keepR l), x.lo < x.hi := fun x hx => by
    have := hp.mem_iff.1 hx
    unfold keepR at this
    rw [List.mem_filter] at this
    have h2 : ¬ emptyR x = true := by simpa using this.2
    rw [emptyR_iff] at h2
    grind
  obtain ⟨h1, h2⟩ := fold_ok (srt (keepR l)) [] ⟨by simp, .nil⟩ hk (ho.imp fun h => (c_le _ _).1 h) (by simp)
  refine ⟨⟨fun x hx => h1.1 x (by simpa [normL] using hx), by unfold normL; rw [List.pairwise_reverse]; exact h1.2⟩, fun v => ?_⟩
  have e1 : hasL (normL l) v = hasL ((srt (keepR l)).foldl mrg []) v := by
    unfold normL hasL
    rw [List.any_reverse]
  rw [e1, h2 v]
  rw [Bool.eq_iff_iff]
  simp only [show hasL [] v = false from rfl, Bool.false_or]
  rw [has_iff, has_iff]
  constructor
  · rintro ⟨x, hx, h3⟩
    have := hp.mem_iff.1 hx
    unfold keepR at this
    exact ⟨x, (List.mem_filter.1 this).1, h3⟩
  · rintro ⟨x, hx, h3, h4⟩
    refine ⟨x, hp.mem_iff.2 ?_, h3, h4⟩
    unfold keepR
    rw [List.mem_filter]
    refine ⟨hx, ?_⟩
    have h2 : ¬ emptyR x = true := by
      rw [emptyR_iff]
      grind
    simpa using h2
theorem norm_nf (l : List Rng) : NF (normL l) := (norm_ok l).1
theorem norm_has (l : List Rng) (v : Ver) : hasL (normL l) v = hasL l v := (norm_ok l).2 v
theorem norm_len (l : List Rng) : (normL l).length ≤ (keepR l).length := by
  unfold normL
  have := fold_len (srt (keepR l)) []
  rw [List.length_reverse]
  rw [srt_len] at this
  simpa using this
theorem keep_len (l : List Rng) : (keepR l).length ≤ l.length := List.length_filter_le _ _
theorem union_nf (a b : List Rng) : NF (unionL a b) := norm_nf _
theorem union_has (a b : List Rng) (v : Ver) : hasL (unionL a b) v = (hasL a v || hasL b v) := by unfold unionL; rw [norm_has, has_app]
theorem common_nf (a b : List Rng) : NF (commonL a b) := norm_nf _
theorem meet_in (x y : Rng) (v : Ver) : inR (meetR x y) v = (inR x v && inR y v) := by
  rw [Bool.eq_iff_iff, Bool.and_eq_true, inR_iff, inR_iff, inR_iff]
  simp only [meetR, maxV_eq, minV_eq]
  grind
theorem common_has (a b : List Rng) (v : Ver) : hasL (commonL a b) v = (hasL a v && hasL b v) := by
  unfold commonL
  rw [norm_has, Bool.eq_iff_iff, Bool.and_eq_true]
  unfold meetL hasL
  simp only [List.any_eq_true, List.mem_flatMap, List.mem_map]
  constructor
  · rintro ⟨_, ⟨x, hx, y, hy, rfl⟩, hm⟩
    rw [meet_in, Bool.and_eq_true] at hm
    exact ⟨⟨x, hx, hm.1⟩, ⟨y, hy, hm.2⟩⟩
  · rintro ⟨⟨x, hx, h1⟩, ⟨y, hy, h2⟩⟩
    exact ⟨_, ⟨x, hx, y, hy, rfl⟩, by rw [meet_in, h1, h2]; rfl⟩
theorem cut_has (y : Rng) (l : List Rng) (v : Ver) : hasL (cutL y l) v = (hasL l v && !inR y v) := by
  induction l with
  | nil => rfl
  | cons x l ih =>
    have e : hasL (cutR y x) v = (inR x v && !inR y v) := by
      rw [Bool.eq_iff_iff, has_iff, Bool.and_eq_true, Bool.not_eq_true', ← Bool.not_eq_true, inR_iff, inR_iff]
      simp only [cutR, List.mem_cons, List.not_mem_nil, or_false, exists_eq_or_imp, exists_eq_left, maxV_eq, minV_eq]
      grind
    unfold cutL at ih ⊢
    rw [List.flatMap_cons, has_app, ih, e]
    simp only [hasL, List.any_cons]
    cases inR x v <;> cases inR y v <;> simp
theorem minus_fold : ∀ (B out : List Rng), NF out → NF (B.foldl (fun out y => normL (cutL y out)) out) ∧ ∀ v, hasL (B.foldl (fun out y => normL (cutL y out)) out) v = (hasL out v && !hasL B v)
  | [], out, h => ⟨h, fun v => by simp [hasL]⟩
  | y :: B, out, _ => by
    obtain ⟨h1, h2⟩ := minus_fold B (normL (cutL y out)) (norm_nf _)
    refine ⟨h1, fun v => ?_⟩
    rw [List.foldl_cons, h2, norm_has, cut_has]
    simp only [hasL, List.any_cons]
    cases inR y v <;> simp
theorem minus_nf (a b : List Rng) : NF (minusL a b) := (minus_fold _ _ (norm_nf a)).1
theorem minus_has (a b : List Rng) (v : Ver) : hasL (minusL a b) v = (hasL a v && !hasL b v) := by
  unfold minusL
  rw [(minus_fold _ _ (norm_nf a)).2, norm_has, norm_has]
theorem cut_len (y : Rng) (hy : y.lo < y.hi) : ∀ (l : List Rng), NF l → (keepR (cutL y l)).length ≤ l.length + 1 ∧ ((∀ x ∈ l, y.lo ≤ x.lo) → (keepR (cutL y l)).length ≤ l.length)
  | [], _ => ⟨by simp [cutL, keepR], fun _ => by simp [cutL, keepR]⟩
  | x :: l, h => by
    obtain ⟨i1, i2⟩ := cut_len y hy l h.tail
    have hx := h.1 x List.mem_cons_self
    have hc : keepR (cutL y (x :: l)) = keepR (cutR y x) ++ keepR (cutL y l) := by
      unfold cutL keepR
      rw [List.flatMap_cons, List.filter_append]
    have hone : ¬ (x.lo < y.lo ∧ y.hi < x.hi) → (keepR (cutR y x)).length ≤ 1 := by
      intro hn
      have e1 : emptyR ⟨x.lo, minV x.hi y.lo⟩ = true ∨ emptyR ⟨maxV x.lo y.hi, x.hi⟩ = true := by
        rw [emptyR_iff, emptyR_iff]
        simp only [maxV_eq, minV_eq]
        grind
      unfold keepR cutR
      rcases e1 with e | e
      · simp only [List.filter_cons, e, Bool.not_true, Bool.false_eq_true, if_false]
        split <;> simp
      · simp only [List.filter_cons, e, Bool.not_true, Bool.false_eq_true, if_false]
        split <;> simp
    have htwo : (keepR (cutR y x)).length ≤ 2 := by
      have := List.length_filter_le (fun x => !emptyR x) (cutR y x)
      exact this
    rw [hc, List.length_append, List.length_cons]
    refine ⟨?_, fun hl => ?_⟩
    · by_cases hs : x.lo < y.lo ∧ y.hi < x.hi
      · have := i2 fun z hz => by
          have := (List.pairwise_cons.1 h.2).1 z hz
          grind
        omega
      · have := hone hs
        omega
    · have h1 := hl x List.mem_cons_self
      have := hone (by grind)
      have := i2 fun z hz => hl z (List.mem_cons_of_mem _ hz)
      omega
theorem minus_len : ∀ (B out : List Rng), NF out → (∀ y ∈ B, y.lo < y.hi) → (B.foldl (fun out y => normL (cutL y out)) out).length ≤ out.length + B.length
  | [], out, _, _ => by simp
  | y :: B, out, h, hB => by
    have h1 := minus_len B (normL (cutL y out)) (norm_nf _) fun z hz => hB z (List.mem_cons_of_mem _ hz)
    have h2 := norm_len (cutL y out)
    have h3 := (cut_len y (hB y List.mem_cons_self) out h).1
    rw [List.foldl_cons, List.length_cons]
    omega
theorem t25' (a b : List Rng) (ha : a.length ≤ 1048576) (hb : b.length ≤ 1048576) : callW pg 25 [rngs a, rngs b] = M.pure (rngs (minusL a b)) := by
  have ka := norm_len a
  have kb := norm_len b
  have la := keep_len a
  have lb := keep_len b
  refine t25 a b ha hb (by omega) fun k hk => ?_
  have := minus_len ((normL b).take k) (normL a) (norm_nf a) fun y hy => (norm_nf b).1 y (List.mem_of_mem_take hy)
  rw [List.length_take] at this
  omega
theorem minus_len' (a b : List Rng) : (minusL a b).length ≤ a.length + b.length := by
  have ka := norm_len a
  have kb := norm_len b
  have la := keep_len a
  have lb := keep_len b
  have := minus_len (normL b) (normL a) (norm_nf a) (norm_nf b).1
  unfold minusL
  omega
theorem union_len (a b : List Rng) : (unionL a b).length ≤ a.length + b.length := by
  have h1 := norm_len (a ++ b)
  have h2 := keep_len (a ++ b)
  unfold unionL
  rw [List.length_append] at h2
  omega
theorem common_len (a b : List Rng) : (commonL a b).length ≤ a.length * b.length := by
  have h1 := norm_len (meetL a b)
  have h2 := keep_len (meetL a b)
  unfold commonL
  rw [meetL_len] at h2
  omega
end Go.Proofs.YtllapohmppeceaaGreatDoor.N
