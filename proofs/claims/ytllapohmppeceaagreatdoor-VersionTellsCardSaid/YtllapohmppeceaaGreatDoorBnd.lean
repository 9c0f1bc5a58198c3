/- What the reference's functions on ranges compute, and that it is what it should be: ends, forms. No condition. -/
import Derived.Test.YtllapohmppeceaaGreatDoorT6
namespace Go.Proofs.YtllapohmppeceaaGreatDoor.N
open Go Go.Av Go.Av.Ap
def endsOf (l : List Rng) : List Ver := l.flatMap fun r => [r.lo, r.hi]
def insV (out : List Ver) (v : Ver) : List Ver :=
  if (out.dropWhile fun x => decide (x < v)).head? = some v then out
  else (out.takeWhile fun x => decide (x < v)) ++ v :: (out.dropWhile fun x => decide (x < v))
def boundsL (a b : List Rng) : List Ver := (endsOf (a ++ b)).foldl insV []
abbrev Asc (l : List Ver) : Prop := l.Pairwise (· < ·)
theorem mem_take {q : Ver → Bool} : ∀ {l : List Ver} {x : Ver}, x ∈ l.takeWhile q → q x = true ∧ x ∈ l
  | [], x, h => by simp at h
  | y :: l, x, h => by
    rw [List.takeWhile_cons] at h
    split at h
    · rename_i hy
      rcases List.mem_cons.1 h with rfl | h
      · exact ⟨hy, List.mem_cons_self⟩
      · exact ⟨(mem_take h).1, List.mem_cons_of_mem _ (mem_take h).2⟩
    · simp at h
theorem drop_ge {v : Ver} : ∀ {l : List Ver}, Asc l → ∀ x ∈ l.dropWhile (fun x => decide (x < v)), v ≤ x
  | [], _, x, h => by simp at h
  | y :: l, ha, x, h => by
    obtain ⟨h1, h2⟩ := List.pairwise_cons.1 ha
    rw [List.dropWhile_cons] at h
    split at h
    · exact drop_ge h2 x h
    · rename_i hy
      simp only [decide_eq_true_eq] at hy
      rcases List.mem_cons.1 h with rfl | h
      · grind
      · have := h1 x h
        grind
theorem ins_mem (out : List Ver) (v x : Ver) : x ∈ insV out v ↔ x = v ∨ x ∈ out := by
  have hs : (out.takeWhile fun x => decide (x < v)) ++ (out.dropWhile fun x => decide (x < v)) = out := List.takeWhile_append_dropWhile
  unfold insV
  split
  · rename_i h
    have hv : v ∈ out := by
      rw [← hs]
      exact List.mem_append_right _ (List.mem_of_mem_head? (by rw [h]; rfl))
    constructor
    · exact .inr
    · rintro (rfl | h)
      · exact hv
      · exact h
  · rw [List.mem_append, List.mem_cons]
    conv => rhs; rw [← hs]
    rw [List.mem_append]
    constructor
    · rintro (h | h | h)
      · exact .inr (.inl h)
      · exact .inl h
      · exact .inr (.inr h)
    · rintro (h | h | h)
      · exact .inr (.inl h)
      · exact .inl h
      · exact .inr (.inr h)
theorem ins_asc {out : List Ver} (h : Asc out) (v : Ver) : Asc (insV out v) := by
  have hs : (out.takeWhile fun x => decide (x < v)) ++ (out.dropWhile fun x => decide (x < v)) = out := List.takeWhile_append_dropWhile
  unfold insV
  split
  · exact h
  · rename_i hne
    have h' := h
    rw [← hs] at h'
    obtain ⟨h1, h2, h3⟩ := List.pairwise_append.1 h'
    refine List.pairwise_append.2 ⟨h1, List.pairwise_cons.2 ⟨fun x hx => ?_, h2⟩, fun x hx y hy => ?_⟩
    · have hge := drop_ge h x hx
      cases hd : out.dropWhile fun x => decide (x < v) with
      | nil => rw [hd] at hx; simp at hx
      | cons y l =>
        rw [hd] at hx hne h2
        have hy : v ≤ y := drop_ge h y (by rw [hd]; exact List.mem_cons_self)
        have hyv : y ≠ v := fun e => hne (by rw [e]; rfl)
        rcases List.mem_cons.1 hx with rfl | hx
        · grind
        · have := (List.pairwise_cons.1 h2).1 x hx
          grind
    · have := (mem_take hx).1
      simp only [decide_eq_true_eq] at this
      rcases List.mem_cons.1 hy with rfl | hy
      · exact this
      · exact h3 x hx y hy
theorem ins_len (out : List Ver) (v : Ver) : (insV out v).length ≤ out.length + 1 := by
  unfold insV
  split
  · omega
  · have hs : (out.takeWhile fun x => decide (x < v)) ++ (out.dropWhile fun x => decide (x < v)) = out := List.takeWhile_append_dropWhile
    have := congrArg List.length hs
    simp only [List.length_append, List.length_cons] at this ⊢
    omega
theorem foldIns_ok : ∀ (vs out : List Ver), Asc out → Asc (vs.foldl insV out) ∧ (∀ x, x ∈ vs.foldl insV out ↔ x ∈ vs ∨ x ∈ out) ∧ (vs.foldl insV out).length ≤ out.length + vs.length
  | [], out, h => ⟨h, fun x => by simp, by simp⟩
  | v :: vs, out, h => by
    obtain ⟨h1, h2, h3⟩ := foldIns_ok vs (insV out v) (ins_asc h v)
    refine ⟨h1, fun x => ?_, ?_⟩
    · rw [List.foldl_cons, h2 x, ins_mem, List.mem_cons]
      constructor
      · rintro (h | h | h)
        · exact .inl (.inr h)
        · exact .inl (.inl h)
        · exact .inr h
      · rintro ((h | h) | h)
        · exact .inr (.inl h)
        · exact .inl h
        · exact .inr (.inr h)
    · have := ins_len out v
      rw [List.foldl_cons, List.length_cons]
      omega
theorem bounds_asc (a b : List Rng) : Asc (boundsL a b) := (foldIns_ok _ [] .nil).1
theorem bounds_mem (a b : List Rng) (x : Ver) : x ∈ boundsL a b ↔ x ∈ endsOf (a ++ b) := by
  unfold boundsL
  rw [(foldIns_ok _ [] .nil).2.1 x]
  simp
theorem ends_len (l : List Rng) : (endsOf l).length = 2 * l.length := by
  unfold endsOf
  induction l with
  | nil => rfl
  | cons x l ih => simp only [List.flatMap_cons, List.length_append, List.length_cons, List.length_nil, ih]; omega
theorem bounds_len (a b : List Rng) : (boundsL a b).length ≤ 2 * (a.length + b.length) := by
  have := (foldIns_ok (endsOf (a ++ b)) [] .nil).2.2
  rw [ends_len, List.length_append] at this
  unfold boundsL
  simpa using this
theorem ends_lo {l : List Rng} {x : Rng} (h : x ∈ l) : x.lo ∈ endsOf l := List.mem_flatMap.2 ⟨x, h, by simp⟩
theorem ends_hi {l : List Rng} {x : Rng} (h : x ∈ l) : x.hi ∈ endsOf l := List.mem_flatMap.2 ⟨x, h, by simp⟩
def wantB (form : Int) (x y : Bool) : Bool := decide (form = 0) && (x || y) || (decide (form = 1) && x && y || decide (form = 2) && x && !y)
def wantedL (a b : List Rng) (form : Int) (v : Ver) : Bool := wantB form (hasL a v) (hasL b v)
def formGo (q : Ver → Bool) : List Ver → List Rng → List Rng
  | u :: w :: l, acc => if q u = true then (match acc with
      | r :: acc' => if r.hi = u then formGo q (w :: l) (⟨r.lo, w⟩ :: acc') else formGo q (w :: l) (⟨u, w⟩ :: r :: acc')
      | [] => formGo q (w :: l) [⟨u, w⟩])
    else formGo q (w :: l) acc
  | _, acc => acc
def formL (a b : List Rng) (form : Int) : List Rng := (formGo (wantedL a b form) (boundsL a b) []).reverse
inductive Adj : List Ver → Ver → Ver → Prop
  | head (u w : Ver) (l : List Ver) : Adj (u :: w :: l) u w
  | tail (x : Ver) {l : List Ver} {u w : Ver} (h : Adj l u w) : Adj (x :: l) u w
theorem Adj.mem {l : List Ver} {u w : Ver} (h : Adj l u w) : u ∈ l ∧ w ∈ l := by
  induction h with
  | head u w l => simp
  | tail x _ ih => exact ⟨List.mem_cons_of_mem _ ih.1, List.mem_cons_of_mem _ ih.2⟩
theorem Adj.gap {l : List Ver} {u w : Ver} (h : Adj l u w) : Asc l → u < w ∧ ∀ x ∈ l, x ≤ u ∨ w ≤ x := by
  induction h with
  | head u w l =>
    intro ha
    obtain ⟨h1, h2⟩ := List.pairwise_cons.1 ha
    refine ⟨h1 w (by simp), fun x hx => ?_⟩
    rcases List.mem_cons.1 hx with rfl | hx
    · exact .inl (by grind)
    · rcases List.mem_cons.1 hx with rfl | hx
      · exact .inr (by grind)
      · have := (List.pairwise_cons.1 h2).1 x hx
        exact .inr (by grind)
  | tail y h ih =>
    intro ha
    obtain ⟨h1, h2⟩ := List.pairwise_cons.1 ha
    obtain ⟨g1, g2⟩ := ih h2
    refine ⟨g1, fun x hx => ?_⟩
    rcases List.mem_cons.1 hx with rfl | hx
    · have := h1 _ h.mem.1
      exact .inl (by grind)
    · exact g2 x hx
theorem adj_cover : ∀ {l : List Ver}, Asc l → ∀ {v x y : Ver}, x ∈ l → y ∈ l → x ≤ v → v < y → ∃ u w, Adj l u w ∧ u ≤ v ∧ v < w
  | [], _, _, _, _, hx, _, _, _ => by simp at hx
  | [z], _, v, x, y, hx, hy, h1, h2 => by
    simp only [List.mem_singleton] at hx hy
    subst hx
    subst hy
    exact absurd h2 (by grind)
  | z :: z' :: l, ha, v, x, y, hx, hy, h1, h2 => by
    obtain ⟨a1, a2⟩ := List.pairwise_cons.1 ha
    have a3 := (List.pairwise_cons.1 a2).1
    have hz := a1 z' (by simp)
    by_cases hv : v < z'
    · have hxz : x ≤ z := by
        rcases List.mem_cons.1 hx with rfl | hx
        · grind
        · rcases List.mem_cons.1 hx with rfl | hx
          · grind
          · have := a3 x hx
            grind
      have hzv : z ≤ v := by
        rcases List.mem_cons.1 hx with rfl | hx
        · exact h1
        · have := a1 x hx
          grind
      exact ⟨z, z', .head z z' l, hzv, hv⟩
    · have hy' : y ∈ z' :: l := by
        rcases List.mem_cons.1 hy with rfl | hy
        · grind
        · exact hy
      obtain ⟨u, w, g1, g2⟩ := adj_cover a2 (x := z') (y := y) (v := v) (by simp) hy' (by grind) h2
      exact ⟨u, w, .tail z g1, g2⟩
theorem has_rev (l : List Rng) (v : Ver) : hasL l.reverse v = hasL l v := by simp [hasL]
theorem has_cons (x : Rng) (l : List Rng) (v : Ver) : hasL (x :: l) v = (inR x v || hasL l v) := rfl
theorem formGo_ok (q : Ver → Bool) : ∀ (l : List Ver) (acc : List Rng), Asc l → RNF acc → (∀ r ∈ acc.head?, ∀ u ∈ l, r.hi ≤ u) →
    RNF (formGo q l acc) ∧ ∀ v, hasL (formGo q l acc) v = true ↔ hasL acc v = true ∨ ∃ u w, Adj l u w ∧ q u = true ∧ u ≤ v ∧ v < w
  | [], acc, _, hr, _ => ⟨hr, fun v => by simp only [formGo]; exact ⟨.inl, fun h => h.elim id fun ⟨_, _, h, _⟩ => by cases h⟩⟩
  | [z], acc, _, hr, _ => ⟨hr, fun v => by simp only [formGo]; exact ⟨.inl, fun h => h.elim id fun ⟨_, _, h, _⟩ => by cases h with | tail _ h => cases h⟩⟩
  | u :: w :: l, acc, ha, hr, hh => by
    obtain ⟨a1, a2⟩ := List.pairwise_cons.1 ha
    have huw := a1 w (by simp)
    have hadj : ∀ v, (∃ u' w', Adj (u :: w :: l) u' w' ∧ q u' = true ∧ u' ≤ v ∧ v < w') ↔ (q u = true ∧ u ≤ v ∧ v < w) ∨ ∃ u' w', Adj (w :: l) u' w' ∧ q u' = true ∧ u' ≤ v ∧ v < w' := fun v => by
      constructor
      · rintro ⟨u', w', h, h2⟩
        cases h with
        | head => exact .inl h2
        | tail _ h => exact .inr ⟨u', w', h, h2⟩
      · rintro (h | ⟨u', w', h, h2⟩)
        · exact ⟨u, w, .head u w l, h⟩
        · exact ⟨u', w', .tail u h, h2⟩
    have hle : ∀ x ∈ w :: l, w ≤ x := fun x hx => by
      rcases List.mem_cons.1 hx with rfl | hx
      · grind
      · have := (List.pairwise_cons.1 a2).1 x hx
        grind
    simp only [formGo]
    by_cases hq : q u = true
    · rw [if_pos hq]
      cases acc with
      | nil =>
        simp only
        obtain ⟨g1, g2⟩ := formGo_ok q (w :: l) [⟨u, w⟩] a2 ⟨by simpa using huw, by simp⟩ (by intro r hr' x hx; simp at hr'; subst hr'; exact hle x hx)
        refine ⟨g1, fun v => ?_⟩
        rw [g2 v, hadj v, has_cons, Bool.or_eq_true, inR_iff]
        simp only [hq, true_and, hasL, List.any_nil, Bool.false_eq_true, or_false, false_or]
      | cons r acc =>
        simp only
        have hru : r.hi ≤ u := hh r (by simp) u (by simp)
        have hrl : r.lo < r.hi := hr.1 r (by simp)
        obtain ⟨r1, r2⟩ := List.pairwise_cons.1 hr.2
        by_cases he : r.hi = u
        · rw [if_pos he]
          obtain ⟨g1, g2⟩ := formGo_ok q (w :: l) (⟨r.lo, w⟩ :: acc) a2 ⟨fun x hx => by
            rcases List.mem_cons.1 hx with rfl | hx
            · show r.lo < w
              grind
            · exact hr.1 x (List.mem_cons_of_mem _ hx), List.pairwise_cons.2 ⟨fun x hx => r1 x hx, r2⟩⟩ (by intro r' hr' x hx; simp at hr'; subst hr'; exact hle x hx)
          refine ⟨g1, fun v => ?_⟩
          rw [g2 v, hadj v, has_cons, has_cons, Bool.or_eq_true, Bool.or_eq_true, inR_iff, inR_iff]
          simp only [hq, true_and]
          have : (r.lo ≤ v ∧ v < w) ↔ (r.lo ≤ v ∧ v < r.hi) ∨ (u ≤ v ∧ v < w) := by grind
          rw [this]
          constructor
          · rintro (((h | h) | h) | h)
            · exact .inl (.inl h)
            · exact .inr (.inl h)
            · exact .inl (.inr h)
            · exact .inr (.inr h)
          · rintro ((h | h) | h | h)
            · exact .inl (.inl (.inl h))
            · exact .inl (.inr h)
            · exact .inl (.inl (.inr h))
            · exact .inr h
        · rw [if_neg he]
          obtain ⟨g1, g2⟩ := formGo_ok q (w :: l) (⟨u, w⟩ :: r :: acc) a2 ⟨fun x hx => by
            rcases List.mem_cons.1 hx with rfl | hx
            · exact huw
            · exact hr.1 x hx, List.pairwise_cons.2 ⟨fun x hx => by
              rcases List.mem_cons.1 hx with rfl | hx
              · show x.hi < u
                grind
              · have h1 := r1 x hx
                show x.hi < u
                grind, hr.2⟩⟩ (by intro r' hr' x hx; simp at hr'; subst hr'; exact hle x hx)
          refine ⟨g1, fun v => ?_⟩
          rw [g2 v, hadj v, has_cons ⟨u, w⟩, Bool.or_eq_true, inR_iff]
          simp only [hq, true_and]
          constructor
          · rintro ((h | h) | h)
            · exact .inr (.inl h)
            · exact .inl h
            · exact .inr (.inr h)
          · rintro (h | h | h)
            · exact .inl (.inr h)
            · exact .inl (.inl h)
            · exact .inr h
    · rw [if_neg hq]
      obtain ⟨g1, g2⟩ := formGo_ok q (w :: l) acc a2 hr (fun r hr' x hx => hh r hr' x (List.mem_cons_of_mem _ hx))
      refine ⟨g1, fun v => ?_⟩
      rw [g2 v, hadj v]
      simp [hq]
theorem rnf_rev {l : List Rng} (h : RNF l) : NF l.reverse := ⟨fun x hx => h.1 x (by simpa using hx), List.pairwise_reverse.2 h.2⟩
theorem form_nf (a b : List Rng) (form : Int) : NF (formL a b form) := rnf_rev (formGo_ok _ _ [] (bounds_asc a b) ⟨by simp, .nil⟩ (by simp)).1
theorem has_gap {l : List Rng} {B : List Ver} (hB : ∀ x ∈ l, x.lo ∈ B ∧ x.hi ∈ B) {u w v : Ver} (hg : u < w ∧ ∀ x ∈ B, x ≤ u ∨ w ≤ x) (h1 : u ≤ v) (h2 : v < w) : hasL l u = hasL l v := by
  rw [Bool.eq_iff_iff, has_iff, has_iff]
  constructor
  · rintro ⟨x, hx, h3, h4⟩
    have := hg.2 x.hi (hB x hx).2
    exact ⟨x, hx, by grind, by grind⟩
  · rintro ⟨x, hx, h3, h4⟩
    have := hg.2 x.lo (hB x hx).1
    exact ⟨x, hx, by grind, by grind⟩
theorem form_has (a b : List Rng) (form : Int) (v : Ver) : hasL (formL a b form) v = wantedL a b form v := by
  have hBa : ∀ x ∈ a, x.lo ∈ boundsL a b ∧ x.hi ∈ boundsL a b := fun x hx => ⟨(bounds_mem a b _).2 (ends_lo (List.mem_append_left _ hx)), (bounds_mem a b _).2 (ends_hi (List.mem_append_left _ hx))⟩
  have hBb : ∀ x ∈ b, x.lo ∈ boundsL a b ∧ x.hi ∈ boundsL a b := fun x hx => ⟨(bounds_mem a b _).2 (ends_lo (List.mem_append_right _ hx)), (bounds_mem a b _).2 (ends_hi (List.mem_append_right _ hx))⟩
  have hA := bounds_asc a b
  have hq : ∀ u w, Adj (boundsL a b) u w → u ≤ v → v < w → wantedL a b form u = wantedL a b form v := fun u w h h1 h2 => by
    unfold wantedL
    rw [has_gap hBa (h.gap hA) h1 h2, has_gap hBb (h.gap hA) h1 h2]
  unfold formL
  rw [has_rev, Bool.eq_iff_iff, (formGo_ok _ _ [] hA ⟨by simp, .nil⟩ (by simp)).2 v]
  constructor
  · rintro (h | ⟨u, w, h1, h2, h3, h4⟩)
    · cases h
    · rw [← hq u w h1 h3 h4]
      exact h2
  · intro h
    have hor : hasL a v = true ∨ hasL b v = true := by
      unfold wantedL wantB at h
      cases h1 : hasL a v <;> cases h2 : hasL b v <;> simp_all
    have : ∃ x y, x ∈ boundsL a b ∧ y ∈ boundsL a b ∧ x ≤ v ∧ v < y := by
      rcases hor with h | h
      · obtain ⟨x, hx, h1, h2⟩ := (has_iff a v).1 h
        exact ⟨x.lo, x.hi, (hBa x hx).1, (hBa x hx).2, h1, h2⟩
      · obtain ⟨x, hx, h1, h2⟩ := (has_iff b v).1 h
        exact ⟨x.lo, x.hi, (hBb x hx).1, (hBb x hx).2, h1, h2⟩
    obtain ⟨x, y, hx, hy, h1, h2⟩ := this
    obtain ⟨u, w, h3, h4, h5⟩ := adj_cover hA hx hy h1 h2
    exact .inr ⟨u, w, h3, by rw [hq u w h3 h4 h5]; exact h, h4, h5⟩
theorem form_norm (l : List Rng) : formL l [] 0 = normL l := NF.ext (form_nf _ _ _) (norm_nf l) fun v => by
  rw [form_has, norm_has]
  simp [wantedL, wantB, hasL]
theorem form_union (a b : List Rng) : formL a b 0 = unionL a b := NF.ext (form_nf _ _ _) (union_nf a b) fun v => by
  rw [form_has, union_has]
  simp [wantedL, wantB]
theorem form_common (a b : List Rng) : formL a b 1 = commonL a b := NF.ext (form_nf _ _ _) (common_nf a b) fun v => by
  rw [form_has, common_has]
  simp [wantedL, wantB]
theorem form_minus (a b : List Rng) : formL a b 2 = minusL a b := NF.ext (form_nf _ _ _) (minus_nf a b) fun v => by
  rw [form_has, minus_has]
  simp [wantedL, wantB]
end Go.Proofs.YtllapohmppeceaaGreatDoor.N
