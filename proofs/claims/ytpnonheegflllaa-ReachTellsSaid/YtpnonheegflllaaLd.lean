/- The abstract evaluator of the model and plain laws, part 4: its soundness holds for every program whose table of types is the evaluator's. No further condition. -/
import Derived.Test.YtpnonheegflllaaLc
import Derived.Test.YtpnonheegflllaaLb
import Derived.KernelRfl
import Derived.Below
import Derived.Shelf.SlSortCmp.WholeK
import Derived.IntWalk
import Derived.ChangeSame
import Derived.OpenShut
import Derived.ChangeReads
import Derived.ReadAgain
import Derived.Deep.Slices
import Derived.WideShapes
import Derived.SizedLaws

/- What is carried into a loop or a join. No condition. -/
namespace Go.Av
variable [Dr]
omit [Dr] in
theorem packVals_inv {e : Env} : ∀ (l : List (Nat × Option Nat)) (used : List Nat) (vs : List AV), packVals e l used = some vs → vs.length = l.length ∧
    (∀ (i : Nat) (t : Nat) (z : Option Nat), l[i]? = some (t, z) → ∃ a, vs[i]? = some a ∧ (e.get t).v = .val a ∧ ∀ sz, z = some sz → ∃ g z0, (e.get t).g = some g ∧ aliveG e.al g = some z0 ∧ (z0 = none ∨ z0 = some sz) ∧ g ∉ used) ∧
    ∀ (i j : Nat) (t t' sz sz' : Nat), i < j → l[i]? = some (t, some sz) → l[j]? = some (t', some sz') → (e.get t).g ≠ (e.get t').g
  | [], used, vs, h => by
    simp only [packVals, Option.some.injEq] at h
    subst h
    exact ⟨rfl, by simp, by simp⟩
  | (t, none) :: r, used, vs, h => by
    simp only [packVals] at h
    split at h
    · rename_i a ha
      split at h
      · rename_i vs' hvs
        simp only [Option.some.injEq] at h
        subst h
        obtain ⟨h1, h2, h3⟩ := packVals_inv r used vs' hvs
        refine ⟨by simp [h1], fun i t' z hi => ?_, fun i j t1 t2 sz1 sz2 hij hi hj => ?_⟩
        · cases i with
          | zero =>
            simp only [List.getElem?_cons_zero, Option.some.injEq, Prod.mk.injEq] at hi
            obtain ⟨rfl, rfl⟩ := hi
            exact ⟨a, rfl, ha, fun sz hsz => by cases hsz⟩
          | succ i => simpa using h2 i t' z (by simpa using hi)
        · cases i with
          | zero => simp at hi
          | succ i =>
            cases j with
            | zero => omega
            | succ j => exact h3 i j t1 t2 sz1 sz2 (by omega) (by simpa using hi) (by simpa using hj)
      · cases h
    · cases h
  | (t, some sz) :: r, used, vs, h => by
    simp only [packVals] at h
    split at h
    · rename_i a g ha hg
      split at h
      · cases h
      · rename_i z0 hz0
        have hcond : szOk z0 (some sz) = true ∧ memN used g = false ∧ (match packVals e r (g :: used) with | some vs => some (a :: vs) | none => none) = some vs := by
          cases hm : memN used g with
          | true =>
            rw [hm] at h
            cases z0 with
            | none => cases h
            | some n =>
              simp only at h
              cases hb : Nat.beq n sz <;> rw [hb] at h <;> cases h
          | false =>
            rw [hm] at h
            cases z0 with
            | none => exact ⟨rfl, rfl, h⟩
            | some n =>
              simp only at h
              cases hb : Nat.beq n sz with
              | true => rw [hb] at h; exact ⟨hb, rfl, h⟩
              | false => rw [hb] at h; cases h
        obtain ⟨hc1, hc2, h⟩ := hcond
        have hc := And.intro hc1 hc2
        · split at h
          · rename_i vs' hvs
            simp only [Option.some.injEq] at h
            subst h
            have hgu : g ∉ used := fun hm => by
              rw [(memN_iff _ _).2 hm] at hc
              exact Bool.noConfusion hc.2
            have hz : z0 = none ∨ z0 = some sz := by
              cases z0 with
              | none => exact .inl rfl
              | some n => exact .inr (by rw [Nat.eq_of_beq_eq_true hc.1])
            obtain ⟨h1, h2, h3⟩ := packVals_inv r (g :: used) vs' hvs
            refine ⟨by simp [h1], fun i t' z hi => ?_, fun i j t1 t2 sz1 sz2 hij hi hj => ?_⟩
            · cases i with
              | zero =>
                simp only [List.getElem?_cons_zero, Option.some.injEq, Prod.mk.injEq] at hi
                obtain ⟨rfl, rfl⟩ := hi
                exact ⟨a, rfl, ha, fun sz' hsz => by cases hsz; exact ⟨g, z0, hg, hz0, hz, hgu⟩⟩
              | succ i =>
                obtain ⟨a', k1, k2, k3⟩ := h2 i t' z (by simpa using hi)
                refine ⟨a', by simpa using k1, k2, fun sz' hsz => ?_⟩
                obtain ⟨g', z', m1, m2, m3, m4⟩ := k3 sz' hsz
                exact ⟨g', z', m1, m2, m3, fun hm => m4 (by simp [hm])⟩
            · cases i with
              | zero =>
                cases j with
                | zero => omega
                | succ j =>
                  simp only [List.getElem?_cons_zero, Option.some.injEq, Prod.mk.injEq] at hi
                  obtain ⟨rfl, _⟩ := hi
                  obtain ⟨a', k1, k2, k3⟩ := h2 j t2 (some sz2) (by simpa using hj)
                  obtain ⟨g', z', m1, m2, m3, m4⟩ := k3 sz2 rfl
                  rw [hg, m1]
                  intro hh
                  simp only [Option.some.injEq] at hh
                  exact m4 (by simp [hh])
              | succ i =>
                cases j with
                | zero => omega
                | succ j => exact h3 i j t1 t2 sz1 sz2 (by omega) (by simpa using hi) (by simpa using hj)
          · cases h
    · cases h
omit [Dr] in
theorem unpackVals_look (vs : List AV) (r : List (Nat × Ent)) (t : Nat) : ∀ (l : List (Nat × Option Nat)) (k : Nat),
    (∃ (i : Nat) (z : Option Nat), l[i]? = some (t, z) ∧ lookE (unpackVals vs k l ++ r) t = ⟨.val (nth vs (k + i)), z.map fun _ => k + i⟩) ∨
    ((∀ (i : Nat) (z : Option Nat), l[i]? ≠ some (t, z)) ∧ lookE (unpackVals vs k l ++ r) t = lookE r t)
  | [], k => .inr ⟨by simp, rfl⟩
  | (s, z) :: l, k => by
    have hh : unpackVals vs k ((s, z) :: l) = (s, ⟨.val (nth vs k), z.map fun _ => k⟩) :: unpackVals vs (k + 1) l := by cases z <;> rfl
    rw [hh, List.cons_append, lookE_cons]
    by_cases hs : s = t
    · subst hs
      rw [if_pos rfl]
      exact .inl ⟨0, z, rfl, rfl⟩
    · rw [if_neg hs]
      rcases unpackVals_look vs r t l (k + 1) with ⟨i, z', h1, h2⟩ | ⟨h1, h2⟩
      · refine .inl ⟨i + 1, z', by simpa using h1, ?_⟩
        rw [h2, show k + 1 + i = k + (i + 1) by omega]
      · refine .inr ⟨fun i z' hi => ?_, h2⟩
        cases i with
        | zero => simp at hi; exact hs hi.1
        | succ i => exact h1 i z' (by simpa using hi)
omit [Dr] in
theorem unpackAl_look : ∀ (l : List (Nat × Option Nat)) (k g : Nat) (y : Option Nat), aliveG (unpackAl k l) g = some y → ∃ (i t sz : Nat), l[i]? = some (t, some sz) ∧ g = k + i ∧ y = some sz
  | [], k, g, y, h => by simp [unpackAl, aliveG] at h
  | (s, none) :: l, k, g, y, h => by
    obtain ⟨i, t, sz, h1, h2, h3⟩ := unpackAl_look l (k + 1) g y h
    exact ⟨i + 1, t, sz, by simpa using h1, by omega, h3⟩
  | (s, some n) :: l, k, g, y, h => by
    simp only [unpackAl, aliveG_cons] at h
    split at h
    · rename_i hk
      simp only [Option.some.injEq] at h
      exact ⟨0, s, n, rfl, by omega, h.symm⟩
    · obtain ⟨i, t, sz, h1, h2, h3⟩ := unpackAl_look l (k + 1) g y h
      exact ⟨i + 1, t, sz, by simpa using h1, by omega, h3⟩
omit [Dr] in
theorem locs_look (t : Nat) : ∀ (l : List (Nat × Nat × Nat)), (∃ B off, (t, B, off) ∈ l ∧ lookE (l.map fun x => (x.1, (⟨.loc x.2.1 x.2.2, none⟩ : Ent))) t = ⟨.loc B off, none⟩) ∨ lookE (l.map fun x => (x.1, (⟨.loc x.2.1 x.2.2, none⟩ : Ent))) t = Ent.none
  | [] => .inr rfl
  | (s, B, off) :: l => by
    rw [List.map_cons, lookE_cons]
    by_cases hs : s = t
    · subst hs
      rw [if_pos rfl]
      exact .inl ⟨B, off, by simp, rfl⟩
    · rw [if_neg hs]
      rcases locs_look t l with ⟨B', off', h1, h2⟩ | h
      · exact .inl ⟨B', off', by simp [h1], h2⟩
      · exact .inr h
omit [Dr] in
theorem locsOk_inv {e : Env} : ∀ {l : List (Nat × Nat × Nat)}, locsOk e l = true → ∀ t B off, (t, B, off) ∈ l → (e.get t).v = .loc B off
  | [], _, t, B, off, h => by simp at h
  | (s, B0, off0) :: l, h, t, B, off, hm => by
    simp only [locsOk, Bool.and_eq_true] at h
    simp only [List.mem_cons, Prod.mk.injEq] at hm
    rcases hm with ⟨rfl, rfl, rfl⟩ | hm
    · have h1 := h.1
      split at h1
      · rename_i B' off' hv
        simp only [Bool.and_eq_true] at h1
        rw [hv, Nat.eq_of_beq_eq_true h1.1, Nat.eq_of_beq_eq_true h1.2]
      · cases h1
    · exact locsOk_inv h.2 t B off hm
omit [Dr] in
theorem lbsOk_inv {e : Env} : ∀ {l : List (Nat × Nat)}, lbsOk e l = true → ∀ B n, lbSize l B = some n → lbSize e.lb B = some n
  | [], _, B, n, h => by simp [lbSize] at h
  | (B0, n0) :: l, h, B, n, hm => by
    simp only [lbsOk, Bool.and_eq_true] at h
    rw [lbSize_cons] at hm
    split at hm
    · rename_i hB
      subst hB
      simp only [Option.some.injEq] at hm
      subst hm
      have h1 := h.1
      split at h1
      · rename_i m hv
        rw [hv, Nat.eq_of_beq_eq_true h1]
      · cases h1
    · exact lbsOk_inv h.2 B n hm
section
variable {c : Entry} {N : Nat} {e : Env} {h : Hp} {a : Act} {w : World}
open Classical in
theorem unpack_sound {ja : JA} {vs : List AV} (H : SatE c N e h a w) (hp : pack ja e = some vs) : SatE c N (unpack ja vs) h a w := by
  obtain ⟨S, β, γ, lam, ω, F⟩ := H
  unfold pack at hp
  cases hlo : (locsOk e ja.locs && lbsOk e ja.lbs) with
  | false => rw [hlo] at hp; cases hp
  | true =>
    rw [hlo] at hp
    simp only [cond_true] at hp
    simp only [Bool.and_eq_true] at hlo
    obtain ⟨hlen, hval, hdis⟩ := packVals_inv ja.vals [] vs hp
    -- the groups carried
    let gOf : Nat → Option Nat := fun i => match ja.vals[i]? with | some (t, some _) => (e.get t).g | _ => none
    have hg1 : ∀ i t sz, ja.vals[i]? = some (t, some sz) → ∃ g z0, gOf i = some g ∧ (e.get t).g = some g ∧ aliveG e.al g = some z0 ∧ (z0 = none ∨ z0 = some sz) := by
      intro i t sz hi
      obtain ⟨a', _, _, h3⟩ := hval i t (some sz) hi
      obtain ⟨g, z0, k1, k2, k3, _⟩ := h3 sz rfl
      refine ⟨g, z0, ?_, k1, k2, k3⟩
      show (match ja.vals[i]? with | some (t, some _) => (e.get t).g | _ => none) = some g
      rw [hi]
      exact k1
    have hg2 : ∀ i j g, gOf i = some g → gOf j = some g → i = j := by
      have hex : ∀ i g, gOf i = some g → ∃ t sz, ja.vals[i]? = some (t, some sz) ∧ (e.get t).g = some g := by
        intro i g hi
        have hi' : (match ja.vals[i]? with | some (t, some _) => (e.get t).g | _ => none) = some g := hi
        split at hi'
        · rename_i t sz ht; exact ⟨t, sz, ht, hi'⟩
        · cases hi'
      intro i j g hi hj
      obtain ⟨t, sz, k1, k2⟩ := hex i g hi
      obtain ⟨t', sz', m1, m2⟩ := hex j g hj
      rcases Nat.lt_trichotomy i j with hlt | heq | hlt
      · exact absurd (k2.trans m2.symm) (hdis i j t t' sz sz' hlt k1 m1)
      · exact heq
      · exact absurd (m2.trans k2.symm) (hdis j i t' t sz' sz hlt m1 k1)
    let γ' : Nat → Value := fun i => match gOf i with | some g => γ g | none => undef
    let ω' : Nat → Owner := fun b => match ω b with
      | .grp g => if hx : ∃ i, gOf i = some g then .grp (Classical.choose hx) else .no
      | o => o
    have hωg : ∀ b g i, ω b = .grp g → gOf i = some g → ω' b = .grp i := by
      intro b g i hb hi
      show (match ω b with | .grp g => if hx : ∃ i, gOf i = some g then Owner.grp (Classical.choose hx) else .no | o => o) = .grp i
      rw [hb]
      simp only
      have hx : ∃ i, gOf i = some g := ⟨i, hi⟩
      rw [dif_pos hx, hg2 _ _ g (Classical.choose_spec hx) hi]
    have hωo : ∀ b, (∀ g, ω b ≠ .grp g) → ω' b = ω b := by
      intro b hb
      show (match ω b with | .grp g => if hx : ∃ i, gOf i = some g then Owner.grp (Classical.choose hx) else .no | o => o) = ω b
      cases ho : ω b with
      | grp g => exact absurd ho (hb g)
      | _ => rfl
    have hωn : ∀ b, ω' b ≠ .no → ω b ≠ .no := by
      intro b hb ho
      refine hb ?_
      rw [hωo b (fun g hg => by rw [ho] at hg; cases hg), ho]
    have hωx : ∀ b g, ω' b = .grp g → ∃ g', ω b = .grp g' := by
      intro b g hg
      cases ho : ω b with
      | grp g' => exact ⟨g', rfl⟩
      | _ => rw [hωo b (fun g' h' => by rw [ho] at h'; cases h'), ho] at hg; cases hg
    -- the slots
    have hget : ∀ t, (∃ (i : Nat) (z : Option Nat) (a' : AV), ja.vals[i]? = some (t, z) ∧ (e.get t).v = .val a' ∧ (unpack ja vs).get t = ⟨.val a', z.map fun _ => i⟩) ∨ (∃ B off, (e.get t).v = .loc B off ∧ (unpack ja vs).get t = ⟨.loc B off, none⟩) ∨ (unpack ja vs).get t = Ent.none := by
      intro t
      have hu : (unpack ja vs).get t = lookE (unpackVals vs 0 ja.vals ++ ja.locs.map fun x => (x.1, (⟨.loc x.2.1 x.2.2, none⟩ : Ent))) t := rfl
      rcases unpackVals_look vs (ja.locs.map fun x => (x.1, (⟨.loc x.2.1 x.2.2, none⟩ : Ent))) t ja.vals 0 with ⟨i, z, h1, h2⟩ | ⟨h1, h2⟩
      · obtain ⟨a', k1, k2, _⟩ := hval i t z h1
        refine .inl ⟨i, z, a', h1, k2, ?_⟩
        rw [hu, h2, Nat.zero_add]
        have : nth vs i = a' := by simp [nth, k1]
        rw [this]
      · rcases locs_look t ja.locs with ⟨B, off, k1, k2⟩ | k
        · exact .inr (.inl ⟨B, off, locsOk_inv hlo.1 t B off k1, by rw [hu, h2, k2]⟩)
        · exact .inr (.inr (by rw [hu, h2, k]))
    have hgg : ∀ t g, ((unpack ja vs).get t).g = some g → ∃ sz, ja.vals[g]? = some (t, some sz) := by
      intro t g hg
      rcases hget t with ⟨i, z, a', h1, _, h3⟩ | ⟨_, _, _, h3⟩ | h3
      · rw [h3] at hg
        cases z with
        | none => simp at hg
        | some sz => simp at hg; subst hg; exact ⟨sz, h1⟩
      · rw [h3] at hg; cases hg
      · rw [h3] at hg; cases hg
    have hγ : ∀ t g, ((unpack ja vs).get t).g = some g → ∃ g0 z0, (e.get t).g = some g0 ∧ aliveG e.al g0 = some z0 ∧ γ' g = γ g0 := by
      intro t g hg
      obtain ⟨sz, h1⟩ := hgg t g hg
      obtain ⟨g0, z0, k1, k2, k3, _⟩ := hg1 g t sz h1
      refine ⟨g0, z0, k2, k3, ?_⟩
      show (match gOf g with | some g => γ g | none => undef) = γ g0
      rw [k1]
    refine ⟨S, β, γ', lam, ω', ⟨F.wf, F.gro, F.keep, F.le, F.ext, F.hlen, fun l cs hl hcs => ?_, F.tsz, fun t ht => ?_, fun t g z ht hg hz => ?_, fun B n hB => ?_, fun g z hz => ?_, fun b hb => ⟨(F.mine b (hωn b hb)).1.imp (fun hE => ⟨hE.1, fun g hg => by obtain ⟨g', h'⟩ := hωx b g hg; exact hE.2 g' h'⟩) id, (F.mine b (hωn b hb)).2⟩, fun t g hg => ?_, fun g z hz => ?_⟩⟩
    · rcases F.heap l cs hl hcs with ⟨b, x, h1, h2, h3, h4⟩ | ⟨b, h1, h3, h4⟩
      · exact .inl ⟨b, x, h1, h2, by rw [hωo b (fun g hg => by rw [h3] at hg; cases hg)]; exact h3, h4⟩
      · exact .inr ⟨b, h1, by rw [hωo b (fun g hg => by rw [h3] at hg; cases hg)]; exact h3, h4⟩
    · have hs := F.slots t ht
      rcases hget t with ⟨i, z, a', _, h2, h3⟩ | ⟨B, off, h2, h3⟩ | h3
      · rw [h3]; rw [h2] at hs; exact hs
      · rw [h3]; rw [h2] at hs; exact hs
      · rw [h3]; simp [Ent.none, SlotR, VR]
    · obtain ⟨g0, z0, k1, k2, k3⟩ := hγ t g hg
      rw [k3]
      exact F.grps t g0 z0 ht k1 k2
    · obtain ⟨k1, k2, k3, b, x, k4, k5, k6, k7, k8⟩ := F.lblk B n (lbsOk_inv hlo.2 B n hB)
      refine ⟨k1, k2, k3, b, x, k4, k5, by rw [hωo b (fun g hg => by rw [k6] at hg; cases hg)]; exact k6, k7, fun i hi => ?_⟩
      obtain ⟨v, a', m1, m2, m3, m4⟩ := k8 i hi
      have hgr : ∀ g z, ((unpack ja vs).get (B + i)).g = some g → aliveG (unpack ja vs).al g = some z → v = γ' g := by
        intro g z hg _
        obtain ⟨g0, z0, p1, p2, p3⟩ := hγ _ g hg
        rw [p3]
        exact m4 g0 z0 p1 p2
      rcases hget (B + i) with ⟨j, z, a2, _, h2, h3⟩ | ⟨B', off, h2, h3⟩ | h3
      · refine ⟨v, a2, m1, by rw [h3], ?_, hgr⟩
        rw [m2] at h2
        cases h2
        exact m3
      · rw [m2] at h2; cases h2
      · exact ⟨v, .any, m1, by rw [h3]; rfl, by simp [VR], hgr⟩
    · obtain ⟨i, t, sz, h1, h2, h3⟩ := unpackAl_look ja.vals 0 g z hz
      rw [Nat.zero_add] at h2
      subst h2
      obtain ⟨g0, z0, k1, k2, k3, k4⟩ := hg1 g t sz h1
      have hγ' : γ' g = γ g0 := by
        show (match gOf g with | some g => γ g | none => undef) = γ g0
        rw [k1]
      rw [hγ']
      obtain ⟨ad, len, cap, m1, m2, m3, m4⟩ := F.free g0 z0 k3
      refine ⟨ad, len, cap, m1, m2, m3, m4.imp id ?_⟩
      rintro ⟨sz', b, off, x, p1, p2, p3, p4, p5, p6⟩
      have : sz' = sz := by
        rcases k4 with k4 | k4 <;> rw [k4] at p1 <;> cases p1
        rfl
      subst this
      exact ⟨sz', b, off, x, h3, p2, p3, p4, hωg b g0 g p5 k1, p6⟩
    · obtain ⟨sz, h1⟩ := hgg t g hg
      have : g < ja.vals.length := by
        rcases Nat.lt_or_ge g ja.vals.length with h | h
        · exact h
        · rw [List.getElem?_eq_none h] at h1; cases h1
      show g < ja.vals.length * 1000
      omega
    · obtain ⟨i, t, sz, h1, h2, h3⟩ := unpackAl_look ja.vals 0 g z hz
      have : i < ja.vals.length := by
        rcases Nat.lt_or_ge i ja.vals.length with h | h
        · exact h
        · rw [List.getElem?_eq_none h] at h1; cases h1
      show g < ja.vals.length * 1000
      omega
omit [Dr] in
theorem frz_any (d : Nat) (h : Hp) : frz d h .any = .any := by cases d <;> rfl
omit [Dr] in
theorem nth_map (g : AV → AV) (hg : g .any = .any) (vs : List AV) (i : Nat) : nth (vs.map g) i = g (nth vs i) := by
  unfold nth
  rw [List.getD_eq_getElem?_getD, List.getD_eq_getElem?_getD, List.getElem?_map]
  cases vs[i]? with
  | none => simp [hg]
  | some v => rfl
structure Reval (g : AV → AV) (x y : Ent) : Prop where
  gr : y.g = x.g
  v : (∃ a, x.v = .val a ∧ y.v = .val (g a)) ∨ (∃ B off, x.v = .loc B off ∧ y.v = .loc B off)
omit [Dr] in
theorem unpackVals_reval (g : AV → AV) (hg : g .any = .any) (vs : List AV) (r : List (Nat × Ent)) (hr : ∀ t, Reval g (lookE r t) (lookE r t)) (t : Nat) : ∀ (l : List (Nat × Option Nat)) (k : Nat),
    Reval g (lookE (unpackVals vs k l ++ r) t) (lookE (unpackVals (vs.map g) k l ++ r) t)
  | [], k => by simpa [unpackVals] using hr t
  | (s, none) :: l, k => by
    simp only [unpackVals, List.cons_append, lookE]
    cases Nat.beq s t with
    | true => exact ⟨rfl, .inl ⟨_, rfl, by simp only [cond_true]; rw [nth_map g hg]⟩⟩
    | false => exact unpackVals_reval g hg vs r hr t l (k + 1)
  | (s, some z) :: l, k => by
    simp only [unpackVals, List.cons_append, lookE]
    cases Nat.beq s t with
    | true => exact ⟨rfl, .inl ⟨_, rfl, by simp only [cond_true]; rw [nth_map g hg]⟩⟩
    | false => exact unpackVals_reval g hg vs r hr t l (k + 1)
omit [Dr] in
theorem unpack_reval (g : AV → AV) (hg : g .any = .any) (ja : JA) (vs : List AV) (t : Nat) : Reval g ((unpack ja vs).get t) ((unpack ja (vs.map g)).get t) := by
  refine unpackVals_reval g hg vs _ (fun t => ?_) t ja.vals 0
  rcases locs_look t ja.locs with ⟨B, off, _, k2⟩ | k
  · rw [k2]; exact ⟨rfl, .inr ⟨B, off, rfl, rfl⟩⟩
  · rw [k]; exact ⟨rfl, .inl ⟨.any, rfl, by simp [Ent.none, hg]⟩⟩
theorem FR.reval {U : Nat → Prop} {S : Stab} {β : List Blk} {γ : Nat → Value} {lam : Nat → Option Nat} {ω : Nat → Owner} {e2 : Env} {h2 : Hp} {S2 : Stab} {ω2 : Nat → Owner} {g : AV → AV} (F : FR c N U e h a w S β γ lam ω) (F2 : FR c N U e h2 a w S2 β γ lam ω2) (hg : ∀ x v, VR S β x v → VR S2 β (g x) v)
    (hr : ∀ t, Reval g (e.get t) (e2.get t)) (hal : e2.al = e.al) (hlb : e2.lb = e.lb) : FR c N U e2 h2 a w S2 β γ lam ω2 := by
  refine ⟨F2.wf, F2.gro, F2.keep, F2.le, F2.ext, F2.hlen, F2.heap, F2.tsz, fun t ht => ?_, fun t k z ht hk hz => ?_, fun B n hB => ?_, fun k z hz => F2.free k z (by rw [← hal]; exact hz), F2.mine, fun t k hk => ?_, fun k z hz => F2.used.2 k z (by rw [← hal]; exact hz)⟩
  · have h1 := F.slots t ht
    rcases (hr t).v with ⟨x, q1, q2⟩ | ⟨B, off, q1, q2⟩
    · rw [q1] at h1; rw [q2]; exact hg _ _ h1
    · rw [q1] at h1; rw [q2]; exact h1
  · rw [(hr t).gr] at hk
    rw [hal] at hz
    exact F2.grps t k z ht hk hz
  · rw [hlb] at hB
    obtain ⟨k1, k2, k3, b, x, k4, k5, k6, k7, k8⟩ := F2.lblk B n hB
    obtain ⟨_, _, _, b', x', j4, j5, j6, j7, j8⟩ := F.lblk B n hB
    rw [k4] at j4
    cases j4
    cases k5.inj j5
    refine ⟨k1, k2, k3, b, x, k4, k5, k6, k7, fun i hi => ?_⟩
    obtain ⟨v, a', m1, m2, m3, m4⟩ := k8 i hi
    obtain ⟨v', a'', n1, n2, n3, _⟩ := j8 i hi
    rw [m1] at n1
    cases n1
    rcases (hr (B + i)).v with ⟨y, q1, q2⟩ | ⟨B', off, q1, q2⟩
    · rw [n2] at q1
      cases q1
      refine ⟨v, g a'', m1, q2, hg _ _ n3, fun k z hk hz => ?_⟩
      rw [(hr (B + i)).gr] at hk
      rw [hal] at hz
      exact m4 k z hk hz
    · rw [n2] at q1; cases q1
  · rw [(hr t).gr] at hk
    exact F2.used.1 t k hk
theorem freeze_unpack {ja : JA} {vs : List AV} (H : SatE c N (unpack ja vs) h a w) : SatE c N (unpack ja (vs.map (frz 6 h))) (h.map fun _ => []) a w := by
  obtain ⟨S, β, γ, lam, ω, F⟩ := H
  obtain ⟨S2, ω2, F2, hf⟩ := F.freeze
  have F3 := F.reval F2 (g := frz 6 h) (fun x v hx => hf _ _ hx) (unpack_reval _ (frz_any 6 h) ja vs) (e2 := unpack ja (vs.map (frz 6 h))) rfl rfl
  exact ⟨S2, β, γ, lam, ω2, F3⟩
end
end Go.Av

/- A region that steps over a map. Conditions: the table of types is the program's; the calls are right. -/
namespace Go.Av
variable [Dr]
omit [Dr] in
theorem demM_inv {ρ : Type} {ps : List Nat} {k : Nat → M ρ} {h : Hp} (hr : demM ps k h ≠ .fail) : ∀ q ∈ ps, demM ps k h = k q h := by
  intro q hq
  unfold demM at hr ⊢
  cases ps with
  | nil => simp at hq
  | cons p ps =>
    simp only at hr ⊢
    by_cases hall : ∀ q ∈ ps, k q h = k p h
    · rw [if_pos hall]
      rcases List.mem_cons.1 hq with rfl | hq
      · rfl
      · exact (hall q hq).symm
    · rw [if_neg hall] at hr; exact absurd rfl hr
omit [Dr] in
theorem nextOf_inv {ops : Array Oper} {draw : Bool} {p d q : Nat} (h : nextOf ops draw = some (p, d, q)) : draw = false ∧ d ≠ q ∧ ∃ x y : Oper, ops.toList = [x, y] ∧ x.op = .next (.tmp p) false ∧ x.dst = some d ∧ x.guard = none ∧
    y.op = .extract (.tmp d) 0 ∧ y.dst = some q ∧ y.guard = none := by
  unfold nextOf at h
  cases draw with
  | true => cases h
  | false =>
    simp only [cond_false] at h
    split at h
    · rename_i x y hops
      split at h
      · rename_i p' d' d2 q' h1 h2 h3 h4 h5 h6
        cases hb : Nat.beq d' d2 && !(Nat.beq d' q') with
        | false => rw [hb] at h; cases h
        | true =>
          rw [hb] at h
          simp only [cond_true, Option.some.injEq, Prod.mk.injEq] at h
          obtain ⟨rfl, rfl, rfl⟩ := h
          simp only [Bool.and_eq_true, Bool.not_eq_true'] at hb
          have := Nat.eq_of_beq_eq_true hb.1
          subst this
          exact ⟨rfl, fun hh => by subst hh; simp at hb, x, y, hops, h1, h2, h3, h4, h5, h6⟩
      · cases h
    · cases h
omit [Dr] in
theorem natOf_map (ps : List Nat) : (ps.map fun (i : Nat) => AV.int .i64 i).map natOf = ps := by
  rw [List.map_map]
  apply List.ext_getElem? fun i => ?_
  rw [List.getElem?_map]
  cases ps[i]? <;> simp [natOf]
section
variable {P : Program} {cx : Cx} {c : Entry} {e : Env} {h : Hp} {a : Act} {w : World} {ops : Array Oper} {id : Nat}
omit [Dr] in
theorem step_wp {Q : Exit → Act → World → Prop} {p d q N : Nat} {x y : Oper} {b : Bool} {w' : World} {vs : List Value} (hN : N ≤ a.tmps.size) (hops : ops.toList = [x, y]) (h1 : x.op = .next (.tmp p) false) (h2 : x.dst = some d) (h3 : x.guard = none)
    (h4 : y.op = .extract (.tmp d) 0) (h5 : y.dst = some q) (h6 : y.guard = none) (hd : d < N)
    (hrun : (Instr.next (a.eval (.tmp p)) false x.type).run P w = .ok (.tuple (.bool b :: vs).toArray) w')
    (hq : Q .normal ((a.put (some d) (.tuple (.bool b :: vs).toArray)).put (some q) (.bool b)) w') : (Code.region id ops false).wp P Q a w := by
  refine wp_region_list ?_
  rw [hops]
  unfold wpList
  rw [if_pos (by unfold Region.wanted; rw [h3])]
  refine .inl ?_
  unfold Oper.wp
  have hr1 : (execOp a.eval x).run P w = .ok (.value (.tuple (.bool b :: vs).toArray)) w' := by
    simp only [execOp, h1, Sem.run_bind, hrun, Result.andThen_ok, Sem.run_pure]
  rw [hr1]
  simp only [Oper.upon]
  unfold wpList
  rw [if_pos (by unfold Region.wanted; rw [h6])]
  refine .inl ?_
  unfold Oper.wp
  have hev : (a.put x.dst (.tuple (.bool b :: vs).toArray)).eval (.tmp d) = .tuple (.bool b :: vs).toArray := by
    rw [h2]
    have hlt : d < a.tmps.size := by omega
    simp [Act.put, Act.eval, hlt]
  have hr2 : (execOp (a.put x.dst (.tuple (.bool b :: vs).toArray)).eval y).run P w' = .ok (.value (.bool b)) w' := by
    simp [execOp, h4, hev, Instr.extract]
  rw [hr2]
  simp only [Oper.upon]
  unfold wpList
  rw [h2, h5]
  exact hq
theorem FR.two {N : Nat} {U : Nat → Prop} {S : Stab} {β : List Blk} {γ : Nat → Value} {lam : Nat → Option Nat} {ω : Nat → Owner} (F : FR c N U e h a w S β γ lam ω) {d q : Nat} (hd : d < N) (hq : q < N) (v : Value) (b : Bool) :
    FR c N U ((e.set d Ent.none).set q ⟨.val (.bool b), none⟩) h ((a.put (some d) v).put (some q) (.bool b)) w S β γ lam ω := by
  have F1 := F.setV (d := some d) (r := .any) (v := v) (fun t ht => by cases ht; exact hd) (by simp [VR])
  exact F1.setV (d := some q) (r := .bool b) (v := .bool b) (fun t ht => by cases ht; exact hq) (by simp [VR])
theorem regN_sound {ρ : Type} (hT : TOK P cx.T) (hC : CallsOK P cx.own cx.call) (hI : IsoCall cx) (hk : ∀ p, isS (findK cx.ann.kinds p .L) = true → p < cx.nt) {draw : Bool} {k : Env → M ρ}
    (H : SatE c cx.nt e h a w) (hr : evRegN cx id ops draw e k h ≠ .fail) {Q : Exit → Act → World → Prop}
    (hn : ∀ e' h' a' w', evRegN cx id ops draw e k h = k e' h' → SatE c cx.nt e' h' a' w' → a'.defers = a.defers → Q .normal a' w')
    (hp : ∀ pv h' v w' a', evRegN cx id ops draw e k h = .pan pv h' → PanSat c pv h' v w' → a'.defers = a.defers → Q (.panic [{ v, recovered := false }]) a' w') :
    (Code.region id ops draw).wp P Q a w := by
  unfold evRegN at hr hn hp
  cases hno : nextOf ops draw with
  | none =>
    rw [hno] at hr hn hp
    exact reg_sound hT hC hI hk H hr hn hp
  | some pdq =>
    obtain ⟨p, d, q⟩ := pdq
    obtain ⟨rfl, hdq, x, y, hops, g1, g2, g3, g4, g5, g6⟩ := nextOf_inv hno
    rw [hno] at hr hn
    simp only at hr hn
    clear hp
    cases hb : decide (p < 1000) && decide (d < cx.nt) && decide (q < cx.nt) with
    | false => rw [hb] at hr; exact absurd rfl hr
    | true =>
      rw [hb] at hr hn
      simp only [cond_true] at hr hn
      simp only [Bool.and_eq_true, decide_eq_true_eq] at hb
      obtain ⟨⟨hp, hd⟩, hq⟩ := hb
      obtain ⟨S, β, γ, lam, ω, F⟩ := H
      have hdef : ∀ (v u : Value), ((a.put (some d) v).put (some q) u).defers = a.defers := fun v u => rfl
      have hvp := opnd_ok F (.tmp p) (fun t ht => by cases ht; exact hp)
      simp only [opnd] at hvp
      cases hx : e.av p with
      | it l =>
        rw [hx] at hr hn hvp
        simp only [nxtM] at hr hn
        simp only [VR] at hvp
        obtain ⟨⟨b, z⟩, hbl, h0, hv⟩ := hvp
        simp only at h0
        subst h0
        cases hh : h[l]? with
        | none => rw [hh] at hr; exact absurd rfl hr
        | some cs =>
          rw [hh] at hr hn
          have hcases : (cs = [.tup [], .nilm]) ∨ (∃ m n qs cu, cs = [.tup [], .mp m, .int .i64 n, .sl qs, cu]) ∨ ¬ ((cs = [.tup [], .nilm]) ∨ (∃ m n qs cu, cs = [.tup [], .mp m, .int .i64 n, .sl qs, cu])) := by
            by_cases h1 : (cs = [.tup [], .nilm]) ∨ (∃ m n qs cu, cs = [.tup [], .mp m, .int .i64 n, .sl qs, cu])
            · exact h1.elim .inl (fun h => .inr (.inl h))
            · exact .inr (.inr h1)
          rcases hcases with rfl | ⟨m, n, qs, cu, rfl⟩ | hno
          · simp only at hr hn
            obtain ⟨hI, _, _⟩ := F.heap.iterRow hh (by simp) (by simp) hbl
            rcases hI with ⟨_, _, _, _, _, _, _, _, h1, _⟩ | ⟨_, since, seen, last, h4⟩
            · simp at h1
            · refine step_wp (vs := []) (b := false) (w' := w) F.tsz.1 hops g1 g2 g3 g4 g5 g6 hd ?_ ?_
              · rw [hv]
                simp [Instr.next, run_getI h4 (by simp)]
              · exact hn _ _ _ _ rfl ⟨_, _, _, _, _, (F.killH l).two hd hq _ _⟩ (hdef _ _)
          · simp only at hr hn
            cases hm : h[m]? with
            | none => rw [hm] at hr; exact absurd rfl hr
            | some ds =>
              rw [hm] at hr hn
              by_cases hds : ∃ es, ds = [.tup es]
              · obtain ⟨es, rfl⟩ := hds
                simp only at hr hn
                by_cases hnl : (es.length : Int) = n
                · rw [if_pos hnl] at hr hn
                  obtain ⟨hI, hωb, _⟩ := F.heap.iterRow hh (by simp) (by simp) hbl
                  rcases hI with ⟨l', n', ps, bm, since, seen, last, cur, h1, h2, h3, h4, hcu, h5⟩ | ⟨h1, _⟩
                  · simp only [posA, List.cons.injEq, AV.mp.injEq, AV.int.injEq, AV.sl.injEq, true_and, and_true] at h1
                    obtain ⟨rfl, rfl, rfl, rfl⟩ := h1
                    obtain ⟨_, k2⟩ := h5 es hm
                    obtain ⟨ents, clock, j1, j2, j3, j4, j5⟩ := k2 (by omega)
                    obtain ⟨ents0, clock0, r1, r2, r3, _⟩ := F.heap.mapRow hm h2
                    rw [j1] at r1
                    simp only [Option.some.injEq, Obj.map.injEq] at r1
                    obtain ⟨rfl, rfl⟩ := r1
                    subst j4
                    rw [natOf_map] at hr hn
                    have hbb : bm ≠ b := by rintro rfl; rw [j1] at h4; cases h4
                    rcases run_nextM (P := P) x.type h4 j1 j2 h3 with ⟨i1, i2⟩ | ⟨i, u, w1, i1, i2, i3, i4⟩
                    · rw [← j3] at i1
                      subst i1
                      simp only at hr hn
                      refine step_wp (vs := []) (b := false) (w' := w) F.tsz.1 hops g1 g2 g3 g4 g5 g6 hd (by rw [hv]; exact i2) ?_
                      exact hn _ _ _ _ rfl ⟨_, _, _, _, _, (F.killH l).two hd hq _ _⟩ (hdef _ _)
                    · rw [← j3] at i1
                      cases hps : ps with
                      | nil => rw [hps] at i1; simp at i1
                      | cons r rs =>
                        rw [hps] at hr hn i1
                        simp only at hr hn
                        have hdm := demM_inv hr i i1
                        refine step_wp (vs := [u.key, u.val]) (b := true) F.tsz.1 hops g1 g2 g3 g4 g5 g6 hd (by rw [hv]; exact i4) ?_
                        have F1 : FR c cx.nt (fun g => g < e.nx * 1000) e h a w1 S β γ lam ω := by rcases i3 with rfl | rfl; exact F; exact F.drew
                        have hw1 : w1.heap = w.heap := by rcases i3 with rfl | rfl <;> rfl
                        have hml : l ≠ m := by rintro rfl; rw [hm] at hh; simp at hh
                        have hlt := lt_of_get hh
                        have hbw : b < w1.heap.size := by rw [hw1]; exact (Array.getElem?_eq_some_iff.1 h4).1
                        have F2 := F1.turnI (cs' := [.tup [], .mp m, .int .i64 (n' : Nat), posA ((r :: rs).filter fun r => !(Nat.beq r i)), .int .i64 (i : Nat)]) (.mapIter (some bm) since (seen.push u.born) last) hh (by simp) (by simp) (by simp) hbl
                          (.inr (.inl ⟨m, n', (r :: rs).filter fun r => !(Nat.beq r i), bm, since, seen.push u.born, last, .int .i64 (i : Nat), rfl, h2, h3, setBlk_new _ hbw, .inr ⟨i, rfl⟩, fun es2 he2 => by
                            rw [List.getElem?_set, if_neg hml, hm] at he2
                            simp only [Option.some.injEq, List.cons.injEq, AV.tup.injEq, and_true] at he2
                            subst he2
                            refine ⟨by omega, fun _ => ⟨ents, last, by rw [setBlk_old _ _ _ hbb, hw1]; exact j1, j2, by rw [leftPos_push r3.2 i2, ← j3, hps], rfl, fun c hc => ?_⟩⟩
                            simp only [AV.int.injEq, true_and, Int.natCast_inj] at hc
                            subst hc
                            exact ⟨u, i2, by simp⟩⟩))
                        exact hn _ _ _ _ hdm ⟨_, _, _, _, _, F2.two hd hq _ _⟩ (hdef _ _)
                  · simp at h1
                · rw [if_neg hnl] at hr; exact absurd rfl hr
              · exfalso
                apply hr
                split
                · rename_i es hes; simp only [Option.some.injEq] at hes; exact absurd ⟨es, hes⟩ hds
                · rfl
          · exfalso
            apply hr
            split
            · rename_i hes; simp only [Option.some.injEq] at hes; exact absurd (.inl hes) hno
            · rename_i m n qs cu hes; simp only [Option.some.injEq] at hes; exact absurd (.inr ⟨m, n, qs, cu, hes⟩) hno
            · rfl
      | _ => rw [hx] at hr; exact absurd rfl hr
end
end Go.Av

/- A piece of code. Conditions: the table of types is the program's; the calls are right; isolated calls see nothing of the heap. -/
namespace Go.Av
variable [Dr]
section
variable {P : Program} {Q : Exit → Act → World → Prop} {b : Code}
def LoopAt (P : Program) (c : Code) (Q : Exit → Act → World → Prop) (a : Act) (w : World) : Prop :=
  ∀ (b : Frame) (k : List Item) (cs : List Frame), ∃ e a' w', Q e a' w' ∧ Arrives P (lone (b.at a (.code c :: .inLoop c :: k)) cs w) b k cs e a' w'
omit [Dr] in
theorem LoopAt.loop {a : Act} {w : World} (h : LoopAt P b Q a w) : (Code.loop b).wp P Q a w :=
  fun f k cs => let ⟨e, a', w', q, r⟩ := h f k cs; ⟨e, a', w', q, .of_steps (.one step_loop) r⟩
omit [Dr] in
theorem LoopAt.round {a : Act} {w : World} (h : b.wp P (Exit.then (LoopAt P b Q) Q) a w) : LoopAt P b Q a w := by
  intro f k cs
  obtain ⟨e, a₁, w₁, hq, harr⟩ := h f (.inLoop b :: k) cs
  cases e with
  | normal =>
    obtain ⟨e₂, a₂, w₂, hq₂, harr₂⟩ := hq f k cs
    exact ⟨e₂, a₂, w₂, hq₂, .of_steps (Steps.trans harr (.one step_inLoop)) harr₂⟩
  | exit id => exact ⟨_, a₁, w₁, hq, .pass (x := .inLoop b) rfl (fun _ _ => .inl (by simp)) harr⟩
  | goto l => exact ⟨_, a₁, w₁, hq, .pass (x := .inLoop b) rfl (fun _ _ => .inl (by simp)) harr⟩
  | ret => exact ⟨_, a₁, w₁, hq, .pass (x := .inLoop b) rfl (fun _ _ => .inl (by simp)) harr⟩
  | panic ch => exact ⟨_, a₁, w₁, hq, .pass (x := .inLoop b) rfl (fun _ _ => .inl (by simp)) harr⟩
  | outgrown => exact ⟨_, a₁, w₁, hq, .pass (x := .inLoop b) rfl (fun _ _ => .inl (by simp)) harr⟩
end
section
variable {P : Program} {cx : Cx} {c : Entry} {ρ : Type}
omit [Dr] in
theorem ev_block {fx : Fix ρ} {id : Nat} {code : Code} {e : Env} {kn kr : Env → M ρ} {kx : Nat → Env → M ρ} (hc : ∀ b, code ≠ .loop b) :
    ev cx fx (.block id code) e kn kx kr = ev cx fx code e kn (fun i e' => bif Nat.beq i id then kn e' else kx i e') kr := by
  cases code <;> first | rfl | exact absurd rfl (hc _)
def joinAt (cx : Cx) (x : Code) : Option JA := match condKey x with
  | some t => findJ cx.ann.joins t
  | none => none
omit [Dr] in
theorem ev_seq {fx : Fix ρ} {x y : Code} {e : Env} {kn kr : Env → M ρ} {kx : Nat → Env → M ρ} : ev cx fx (.seq x y) e kn kx kr = (match joinAt cx x with
    | some ja => jn (fun vs => ev cx fx y (unpack ja vs) kn kx kr) fun j => ev cx fx x e (toJ ja j) kx kr
    | none => ev cx fx x e (fun e' => ev cx fx y e' kn kx kr) kx kr) := by
  unfold joinAt
  simp only [ev]
  cases condKey x with
  | none => rfl
  | some t =>
    simp only
    cases findJ cx.ann.joins t <;> rfl
structure Posts (c : Entry) (N : Nat) (r : R ρ) (a : Act) (kn : Env → M ρ) (kx : Nat → Env → M ρ) (kr : Env → M ρ) (Q : Exit → Act → World → Prop) : Prop where
  nrm : ∀ e' h' a' w', r = kn e' h' → SatE c N e' h' a' w' → a'.defers = a.defers → Q .normal a' w'
  ext : ∀ i e' h' a' w', r = kx i e' h' → SatE c N e' h' a' w' → a'.defers = a.defers → Q (.exit i) a' w'
  ret : ∀ e' h' a' w', r = kr e' h' → SatE c N e' h' a' w' → a'.defers = a.defers → Q .ret a' w'
  pan : ∀ pv h' v w' a', r = .pan pv h' → PanSat c pv h' v w' → a'.defers = a.defers → Q (.panic [{ v, recovered := false }]) a' w'
theorem toJ_inv {ja : JA} {j : List AV → M ρ} {e : Env} {h : Hp} {N : Nat} {a : Act} {w : World} (H : SatE c N e h a w) (hr : toJ ja j e h ≠ .fail) : ∃ vs h', toJ ja j e h = j vs h' ∧ SatE c N (unpack ja vs) h' a w := by
  unfold toJ at hr ⊢
  cases hp : pack ja e with
  | none => rw [hp] at hr; exact absurd rfl hr
  | some vs =>
    have hs := unpack_sound H hp
    simp only
    cases ja.fz with
    | false => exact ⟨vs, h, rfl, hs⟩
    | true => exact ⟨_, _, rfl, freeze_unpack hs⟩
theorem ev_sound (hT : TOK P cx.T) (hC : CallsOK P cx.own cx.call) (hI : IsoCall cx) (hk : ∀ p, isS (findK cx.ann.kinds p .L) = true → p < cx.nt) (m : Nat) : ∀ (n : Nat) (code : Code), SizeOf.sizeOf code < n →
    ∀ (e : Env) (h : Hp) (a : Act) (w : World) (kn : Env → M ρ) (kx : Nat → Env → M ρ) (kr : Env → M ρ) (Q : Exit → Act → World → Prop), SatE c cx.nt e h a w → ev cx (fixM m) code e kn kx kr h ≠ .fail →
    Posts c cx.nt (ev cx (fixM m) code e kn kx kr h) a kn kx kr Q → code.wp P Q a w := by
  intro n
  induction n with
  | zero => intro code hn; omega
  | succ n ih =>
    intro code hn e h a w kn kx kr Q H hr hp
    cases code <;> (try exact absurd rfl hr)
    case skip => exact wp_skip (hp.nrm e h a w rfl H rfl)
    case exit id => exact wp_exit (hp.ext id e h a w rfl H rfl)
    case ret => exact wp_ret (hp.ret e h a w rfl H rfl)
    case region id ops draw => exact regN_sound hT hC hI hk H hr hp.nrm hp.pan
    case seq x y =>
      have hx : SizeOf.sizeOf x < n := by simp at hn; omega
      have hy : SizeOf.sizeOf y < n := by simp at hn; omega
      refine wp_seq ?_
      rw [ev_seq] at hr hp
      generalize joinAt cx x = oj at hr hp
      cases oj with
      | none =>
        simp only at hr hp
        refine ih x hx e h a w _ kx kr _ H hr ⟨fun e' h' a' w' hok hs hd => ?_, fun i e' h' a' w' hok hs hd => hp.ext i e' h' a' w' hok hs hd, fun e' h' a' w' hok hs hd => hp.ret e' h' a' w' hok hs hd, fun pv h' v w' a' hok hs hd => hp.pan pv h' v w' a' hok hs hd⟩
        rw [hok] at hr hp
        exact ih y hy e' h' a' w' kn kx kr Q hs hr ⟨fun e2 h2 a2 w2 k1 k2 k3 => hp.nrm e2 h2 a2 w2 k1 k2 (k3.trans hd), fun i e2 h2 a2 w2 k1 k2 k3 => hp.ext i e2 h2 a2 w2 k1 k2 (k3.trans hd), fun e2 h2 a2 w2 k1 k2 k3 => hp.ret e2 h2 a2 w2 k1 k2 (k3.trans hd), fun pv h2 v w2 a2 k1 k2 k3 => hp.pan pv h2 v w2 a2 k1 k2 (k3.trans hd)⟩
      | some ja =>
        simp only [jn] at hr hp
        refine ih x hx e h a w _ kx kr _ H hr ⟨fun e' h' a' w' hok hs hd => ?_, fun i e' h' a' w' hok hs hd => hp.ext i e' h' a' w' hok hs hd, fun e' h' a' w' hok hs hd => hp.ret e' h' a' w' hok hs hd, fun pv h' v w' a' hok hs hd => hp.pan pv h' v w' a' hok hs hd⟩
        rw [hok] at hr hp
        obtain ⟨vs, h3, hj, hs3⟩ := toJ_inv hs hr
        rw [hj] at hr hp
        exact ih y hy (unpack ja vs) h3 a' w' kn kx kr Q hs3 hr ⟨fun e2 h2 a2 w2 k1 k2 k3 => hp.nrm e2 h2 a2 w2 k1 k2 (k3.trans hd), fun i e2 h2 a2 w2 k1 k2 k3 => hp.ext i e2 h2 a2 w2 k1 k2 (k3.trans hd), fun e2 h2 a2 w2 k1 k2 k3 => hp.ret e2 h2 a2 w2 k1 k2 (k3.trans hd), fun pv h2 v w2 a2 k1 k2 k3 => hp.pan pv h2 v w2 a2 k1 k2 (k3.trans hd)⟩
    case cond o x y =>
      have hx : SizeOf.sizeOf x < n := by simp at hn; omega
      have hy : SizeOf.sizeOf y < n := by simp at hn; omega
      cases o <;> (try exact absurd rfl hr)
      case const v =>
        simp only [ev] at hr hp
        have hav : ∀ b, cA v = .bool b → a.eval (.const v) = .bool b := by
          intro b hb
          show v = .bool b
          cases v with
          | bool c => simp only [cA, cA1, AV.bool.injEq] at hb; rw [hb]
          | tuple vs => simp only [cA] at hb; cases hvs : vs.isEmpty <;> rw [hvs] at hb <;> cases hb
          | pointer p => cases p <;> (simp only [cA, cA1] at hb; cases hb)
          | map p => cases p <;> (simp only [cA, cA1] at hb; cases hb)
          | slice p n m =>
            have hs : cA1 (.slice p n m) = .sl [] ∨ cA1 (.slice p n m) = .any := by
              cases p with
              | some q => exact .inr rfl
              | none => cases n with
                | succ n => exact .inr rfl
                | zero => cases m with
                  | succ m => exact .inr rfl
                  | zero => exact .inl rfl
            simp only [cA] at hb
            rcases hs with hs | hs <;> rw [hs] at hb <;> cases hb
          | _ => simp only [cA, cA1] at hb; cases hb
        cases hq : cA v <;> rw [hq] at hr hp <;> (try exact absurd rfl hr)
        rename_i b
        cases b with
        | true => exact wp_cond (hav true hq) (ih x hx e h a w kn kx kr Q H hr hp)
        | false => exact wp_cond (hav false hq) (ih y hy e h a w kn kx kr Q H hr hp)
      rename_i t
      simp only [ev] at hr hp
      cases ht : decide (t < 1000) with
      | false => rw [ht] at hr; exact absurd rfl hr
      | true =>
        rw [ht] at hr hp
        simp only [cond_true] at hr hp
        have htl : t < 1000 := by simpa using ht
        have hav : ∀ b, e.av t = .bool b → a.eval (.tmp t) = .bool b := by
          intro b hb
          obtain ⟨S, β, γ, lam, ω, F⟩ := H
          have hs := F.slots t htl
          simp only [Env.av, Ent.av] at hb
          cases hv : (e.get t).v with
          | val av =>
            rw [hv] at hs hb
            simp only at hb
            subst hb
            simp only [SlotR, VR] at hs
            exact hs
          | loc B off => rw [hv] at hb; cases hb
        cases hq : e.av t <;> rw [hq] at hr hp <;> (try exact absurd rfl hr)
        rename_i b
        cases b with
        | true => exact wp_cond (hav true hq) (ih x hx e h a w kn kx kr Q H hr hp)
        | false => exact wp_cond (hav false hq) (ih y hy e h a w kn kx kr Q H hr hp)
    case block id code =>
      refine wp_block ?_
      by_cases hc : ∃ b, code = .loop b
      · obtain ⟨b, rfl⟩ := hc
        have hb : SizeOf.sizeOf b < n := by simp at hn; omega
        simp only [ev] at hr hp
        cases hja : findJ cx.ann.loops id with
        | none => rw [hja] at hr; exact absurd rfl hr
        | some ja =>
          rw [hja] at hr hp
          simp only at hr hp
          refine LoopAt.loop ?_
          obtain ⟨vs, h3, hj, hs3⟩ := toJ_inv H hr
          rw [hj] at hr hp
          have key : ∀ (k : Nat) (vs : List AV) (h : Hp) (a1 : Act) (w : World), SatE c cx.nt (unpack ja vs) h a1 w → a1.defers = a.defers →
              fixM k (fun self vs => ev cx (fixM m) b (unpack ja vs) (toJ ja self) (fun i e' => bif Nat.beq i id then kn e' else kx i e') kr) vs h ≠ .fail →
              Posts c cx.nt (fixM k (fun self vs => ev cx (fixM m) b (unpack ja vs) (toJ ja self) (fun i e' => bif Nat.beq i id then kn e' else kx i e') kr) vs h) a kn kx kr Q → LoopAt P b (Exit.inBlock id Q) a1 w := by
            intro k
            induction k with
            | zero => intro vs h a1 w _ _ hr _; exact absurd rfl hr
            | succ k ihk =>
              intro vs h a1 w hs hd hr hp
              simp only [fixM] at hr hp
              refine LoopAt.round (ih b hb (unpack ja vs) h a1 w _ _ kr _ hs hr ⟨fun e' h' a' w' hok hs' hd' => ?_, fun i e' h' a' w' hok hs' hd' => ?_, fun e' h' a' w' hok hs' hd' => hp.ret e' h' a' w' hok hs' (hd'.trans hd), fun pv h' v w' a' hok hs' hd' => hp.pan pv h' v w' a' hok hs' (hd'.trans hd)⟩)
              · rw [hok] at hr hp
                obtain ⟨vs', h4, hj', hs4⟩ := toJ_inv hs' hr
                rw [hj'] at hr hp
                exact ihk vs' h4 a' w' hs4 (hd'.trans hd) hr hp
              · cases hi : Nat.beq i id with
                | true =>
                  rw [hi] at hok
                  have := Nat.eq_of_beq_eq_true hi
                  subst this
                  show Exit.inBlock i Q (.exit i) a' w'
                  simp only [Exit.inBlock, if_true]
                  exact hp.nrm e' h' a' w' hok hs' (hd'.trans hd)
                | false =>
                  rw [hi] at hok
                  have hne : i ≠ id := fun hh => by subst hh; simp at hi
                  show Exit.inBlock id Q (.exit i) a' w'
                  simp only [Exit.inBlock, if_neg hne]
                  exact hp.ext i e' h' a' w' hok hs' (hd'.trans hd)
          exact key m vs h3 a w hs3 rfl hr hp
      · have hc' : ∀ b, code ≠ .loop b := fun b hb => hc ⟨b, hb⟩
        rw [ev_block hc'] at hr hp
        have hs : SizeOf.sizeOf code < n := by simp at hn; omega
        refine ih code hs e h a w kn _ kr _ H hr ⟨fun e' h' a' w' hok hs' hd' => hp.nrm e' h' a' w' hok hs' hd', fun i e' h' a' w' hok hs' hd' => ?_, fun e' h' a' w' hok hs' hd' => hp.ret e' h' a' w' hok hs' hd', fun pv h' v w' a' hok hs' hd' => hp.pan pv h' v w' a' hok hs' hd'⟩
        cases hi : Nat.beq i id with
        | true =>
          rw [hi] at hok
          have := Nat.eq_of_beq_eq_true hi
          subst this
          show Exit.inBlock i Q (.exit i) a' w'
          simp only [Exit.inBlock, if_true]
          exact hp.nrm e' h' a' w' hok hs' hd'
        | false =>
          rw [hi] at hok
          have hne : i ≠ id := fun hh => by subst hh; simp at hi
          show Exit.inBlock id Q (.exit i) a' w'
          simp only [Exit.inBlock, if_neg hne]
          exact hp.ext i e' h' a' w' hok hs' hd'
end
end Go.Av

/- A function's body. Conditions: the table of types is the program's; the calls are right; isolated calls see nothing of the heap. -/
namespace Go.Av
variable [Dr]
omit [Dr] in
theorem argSl_look : ∀ (args : List AV) (i t : Nat), lookE (argSl i args) t = if i ≤ t ∧ t < i + args.length then ⟨.val (nth args (t - i)), none⟩ else Ent.none
  | [], i, t => by
    simp only [argSl, lookE, List.length_nil, Nat.add_zero]
    rw [if_neg (by omega)]
  | a :: as0, i, t => by
    simp only [argSl, lookE_cons, List.length_cons]
    by_cases h : i = t
    · subst h
      rw [if_pos rfl, if_pos (by omega)]
      simp [nth]
    · rw [if_neg h, argSl_look as0 (i + 1) t]
      by_cases h2 : i + 1 ≤ t ∧ t < i + 1 + as0.length
      · rw [if_pos h2, if_pos (by omega)]
        have : t - i = (t - (i + 1)) + 1 := by omega
        simp [nth, this]
      · rw [if_neg h2, if_neg (by omega)]
section
variable {P : Program} {cx : Cx}
open Classical in
theorem startF {w : World} {S : Stab} {β : List Blk} {h : Hp} {args : List AV} {vs : List Value} {n : Nat} (hg : GOK β h w) (hw : Wf S w) (hh : HeapX S β w h) (hv : VRs S β args vs) (hn : args.length ≤ n) (hn2 : n ≤ 1000) :
    ∃ γ lam ω, FR { w, S, β, E := HOwn β h, gok := hg } n (fun g => g < (env0 args).nx * 1000) (env0 args) h { tmps := vs.toArray ++ Array.replicate (n - vs.toArray.size) undef, defers := [] } w S β γ lam ω := by
  obtain ⟨hlen, ω0, hr⟩ := hh
  have hvl := hv.length
  have hget : ∀ t, (env0 args).get t = if t < args.length then ⟨.val (nth args t), none⟩ else Ent.none := fun t => by
    have := argSl_look args 0 t
    simp only [Nat.zero_le, true_and, Nat.zero_add, Nat.sub_zero] at this
    exact this
  let ω : Nat → Owner := fun b => if HOwn β h b then ω0 b else .no
  refine ⟨fun _ => undef, fun _ => none, ω, ⟨hw, Gro.refl _, fun b _ _ => ⟨rfl, fun _ => rfl⟩, Stab.le_refl S, Ext.refl β, hlen, fun l cs hl hcs => ?_, ⟨?_, hn2⟩, fun t ht => ?_, fun t g z ht hg => ?_, fun B m hB => ?_, fun g z hz => ?_, fun b hb => ?_, fun t g hg => ?_, fun g z hz => ?_⟩⟩
  · have hown : ∀ b n, β[l]? = some (b, n) → ω0 b = .heap l → ω b = .heap l := fun b n h1 h3 => by
      show (if HOwn β h b then ω0 b else .no) = _
      rw [if_pos ⟨l, cs, _, hl, hcs, h1⟩]
      exact h3
    rcases hr l cs hl hcs with ⟨b, x, h1, h2, h3, h4⟩ | ⟨b, h1, h3, h4⟩
    · exact .inl ⟨b, x, h1, h2, hown b _ h1 h3, h4⟩
    · exact .inr ⟨b, h1, hown b _ h1 h3, h4⟩
  · simp; omega
  · rw [hget]
    split
    · rename_i hlt
      have hx : args[t]? = some (nth args t) := by simp [nth, hlt]
      obtain ⟨v, h1, h2⟩ := hv.get hx
      have : (vs.toArray ++ Array.replicate (n - vs.toArray.size) undef).getD t undef = v := by
        rw [Array.getD_eq_getD_getElem?, Array.getElem?_append_left (by simp; omega)]
        simp [h1]
      rw [this]
      exact h2
    · simp [Ent.none, SlotR, VR]
  · rw [hget] at hg
    split at hg <;> cases hg
  · cases hB
  · cases hz
  · have hb' : HOwn β h b := by
      by_cases ho : HOwn β h b
      · exact ho
      · exact absurd (show ω b = .no from if_neg ho) hb
    obtain ⟨l, cs, m, h1, h2, h3⟩ := hb'
    obtain ⟨b', x, k1, k2, k3, _⟩ := hr.own h1 h2
    rw [h3] at k1
    cases k1
    have hω : ω b = .heap l := by
      show (if HOwn β h b then ω0 b else .no) = _
      rw [if_pos ⟨l, cs, _, h1, h2, h3⟩]
      exact k3
    exact ⟨.inl ⟨⟨l, cs, _, h1, h2, h3⟩, fun g => by rw [hω]; simp⟩, k2⟩
  · rw [hget] at hg
    split at hg <;> cases hg
  · cases hz
theorem start {w : World} {S : Stab} {β : List Blk} {h : Hp} {args : List AV} {vs : List Value} {n : Nat} (hg : GOK β h w) (hw : Wf S w) (hh : HeapX S β w h) (hv : VRs S β args vs) (hn : args.length ≤ n) (hn2 : n ≤ 1000) :
    SatE { w, S, β, E := HOwn β h, gok := hg } n (env0 args) h { tmps := vs.toArray ++ Array.replicate (n - vs.toArray.size) undef, defers := [] } w := ⟨S, β, startF hg hw hh hv hn hn2⟩
def readRes (tmps : Array Value) : ResultVar → Sem Value
  | .tmp t => pure (tmps.getD t undef)
  | .cell p t => do loadVar t (← asAddr (tmps.getD p undef))
omit [Dr] in
theorem results_eq (fn : Func) (tmps : Array Value) : results fn tmps = (do let vs ← fn.results.mapM (readRes tmps); pure (if h : vs.size = 1 then vs[0] else .tuple vs)) := by
  unfold results
  congr 1
theorem res_ok {c : Entry} {N : Nat} {U : Nat → Prop} {e : Env} {h : Hp} {a : Act} {w : World} {S : Stab} {β : List Blk} {γ : Nat → Value} {lam : Nat → Option Nat} {ω : Nat → Owner} (hT : TOK P cx.T) (F : FR c N U e h a w S β γ lam ω)
    {r : ResultVar} {v : AV} (hr : resOf cx.T e r = some v) : ∃ u, (readRes a.tmps r).run P w = .ok u w ∧ VR S β v u := by
  cases r with
  | tmp t =>
    simp only [resOf] at hr
    cases ht : decide (t < 1000) with
    | false => rw [ht] at hr; cases hr
    | true =>
      rw [ht] at hr
      simp only [cond_true] at hr
      have hs := F.slots t (by simpa using ht)
      cases hv : (e.get t).v with
      | loc B off => rw [hv] at hr; cases hr
      | val av =>
        rw [hv] at hr hs
        simp only [Option.some.injEq] at hr
        subst hr
        exact ⟨_, by simp only [readRes, Sem.run_pure], hs⟩
  | cell p t =>
    simp only [resOf] at hr
    cases hp : decide (p < 1000) with
    | false => rw [hp] at hr; cases hr
    | true =>
      rw [hp] at hr
      simp only [cond_true] at hr
      have hs := F.slots p (by simpa using hp)
      cases hv : (e.get p).v with
      | loc B off =>
        rw [hv] at hr hs
        cases ht : cx.T t with
        | none => rw [ht] at hr; cases hr
        | some ti =>
          rw [ht] at hr
          simp only at hr
          cases hin : inLb e B off ti.size with
          | false => rw [hin] at hr; cases hr
          | true =>
            rw [hin] at hr
            simp only [cond_true] at hr
            simp only [SlotR] at hs
            obtain ⟨b, hlam, hpv⟩ := hs
            obtain ⟨b', x, m, hm, hle, hlam', hrow, hms, hcells⟩ := F.locals hin
            rw [hlam] at hlam'; cases hlam'
            let f : Nat → Value := fun i => (x[off + i]?).getD undef
            have hf : ∀ i, i < ti.size → x[off + i]? = some (f i) := fun i hi => by
              obtain ⟨v, _, hv', _⟩ := hcells i hi
              show _ = some ((x[off + i]?).getD undef)
              rw [hv']; rfl
            have hload := loadVar_row hT ht hrow f hf
            have hexec : ∀ v, (loadVar t ⟨b, off, none⟩).run P w = .ok v w → (readRes a.tmps (.cell p t)).run P w = .ok v w := fun v hv' => by
              simp only [readRes]; rw [hpv]; simpa [asAddr] using hv'
            cases hag : ti.agg with
            | true =>
              rw [hag] at hr
              simp only [cond_true, Option.some.injEq] at hr
              subst hr
              refine ⟨_, hexec _ (hload.1 hag), ?_⟩
              simp only [VR]
              refine ⟨_, rfl, getLs_ok ti.size fun i hi => ?_⟩
              obtain ⟨v, a', g1, g2, g3, _⟩ := hcells i hi
              have : f i = v := by show (x[off + i]?).getD undef = v; rw [g1]; rfl
              rw [this]
              simp only [Env.av, Ent.av, g2]
              exact g3
            | false =>
              rw [hag] at hr
              simp only [cond_false] at hr
              cases hone : decide (ti.size = 1) with
              | false => rw [hone] at hr; cases hr
              | true =>
                rw [hone] at hr
                simp only [cond_true, Option.some.injEq] at hr
                subst hr
                have hone' : ti.size = 1 := by simpa using hone
                obtain ⟨v, a', g1, g2, g3, g4⟩ := hcells 0 (by omega)
                simp only [Nat.add_zero] at g1 g2 g4
                have hfv : f 0 = v := by show (x[off + 0]?).getD undef = v; rw [Nat.add_zero, g1]; rfl
                refine ⟨v, hexec _ (hfv ▸ hload.2 hag hone'), ?_⟩
                simp only [Env.av, Ent.av, g2]
                exact g3
      | val av =>
        rw [hv] at hr hs
        cases ht : cx.T t with
        | none => rw [ht] at hr; cases hr
        | some ti =>
          rw [ht] at hr
          simp only at hr
          obtain ⟨v, h1, h2⟩ := load_ok hT F.wf hr hs
          refine ⟨v, ?_, h2⟩
          unfold loadA at hr
          rw [ht] at hr
          cases av <;> simp only [reduceCtorEq] at hr
          simp only [SlotR, VR] at hs
          obtain ⟨b, off, vs, hpv, _, _⟩ := hs
          simp only [readRes]
          rw [hpv] at h1 ⊢
          simpa [Instr.loadAt, Instr.sureAddr, asAddr] using h1
theorem results_ok {c : Entry} {N : Nat} {U : Nat → Prop} {e : Env} {h : Hp} {a : Act} {w : World} {S : Stab} {β : List Blk} {γ : Nat → Value} {lam : Nat → Option Nat} {ω : Nat → Owner} (hT : TOK P cx.T) (F : FR c N U e h a w S β γ lam ω)
    {fn : Func} {vs : List AV} (hr : resAll cx.T e fn.results.toList = some vs) : ∃ u, (results fn a.tmps).run P w = .ok u w ∧ VR S β (tupOf vs) u := by
  have key : ∀ (l : List ResultVar) (vs : List AV), resAll cx.T e l = some vs → ∃ us : List Value, (l.mapM (readRes a.tmps)).run P w = .ok us w ∧ VRs S β vs us := by
    intro l
    induction l with
    | nil => intro vs h; simp only [resAll, Option.some.injEq] at h; subst h; exact ⟨[], by simp, by simp [VRs]⟩
    | cons r rs ih =>
      intro vs h
      simp only [resAll] at h
      cases h1 : resOf cx.T e r with
      | none => rw [h1] at h; cases h
      | some v =>
        cases h2 : resAll cx.T e rs with
        | none => rw [h1, h2] at h; cases h
        | some vs' =>
          rw [h1, h2] at h
          simp only [Option.some.injEq] at h
          subst h
          obtain ⟨u, k1, k2⟩ := res_ok hT F h1
          obtain ⟨us, m1, m2⟩ := ih vs' h2
          refine ⟨u :: us, ?_, by simp only [VRs]; exact ⟨u, us, rfl, k2, m2⟩⟩
          rw [List.mapM_cons, Sem.run_bind, k1, Result.andThen_ok, Sem.run_bind, m1, Result.andThen_ok, Sem.run_pure]
  obtain ⟨us, k1, k2⟩ := key _ _ hr
  have hlen := k2.length
  have hrun : (fn.results.mapM (readRes a.tmps)).run P w = .ok us.toArray w := by
    rw [Array.mapM_eq_mapM_toList]
    rw [map_eq_pure_bind, Sem.run_bind, k1, Result.andThen_ok, Sem.run_pure]
  refine ⟨if h : us.toArray.size = 1 then us.toArray[0] else .tuple us.toArray, ?_, ?_⟩
  · rw [results_eq, Sem.run_bind, hrun, Result.andThen_ok, Sem.run_pure]
  · unfold tupOf
    split
    · rename_i v
      cases us with
      | nil => simp at hlen
      | cons u us =>
        cases us with
        | nil => simp only [VRs] at k2; obtain ⟨x, xs, hx, hy, _⟩ := k2; simp at hx; simp [hx.1, hy]
        | cons u2 us => simp at hlen
    · rename_i hne
      rw [dif_neg]
      · simp only [VR]; exact ⟨us, rfl, k2⟩
      · intro h1
        have : vs.length = 1 := by rw [← hlen]; simpa using h1
        match vs, this with
        | [v], _ => exact hne v rfl
end
end Go.Av

/- A function. Conditions: the table of types is the program's; the calls are right; isolated calls see nothing of the heap. -/
namespace Go.Av
variable [Dr]
omit [Dr] in
theorem kindsOk_inv {n : Nat} {ks : List (Nat × Kind)} (h : kindsOk n ks = true) : ∀ p, isS (findK ks p .L) = true → p < n := by
  intro p hp
  induction ks with
  | nil => simp [findK, isS] at hp
  | cons x ks ih =>
    obtain ⟨k, y⟩ := x
    unfold kindsOk at h
    simp only [List.all_cons, Bool.and_eq_true] at h
    simp only [findK] at hp
    cases hk : Nat.beq k p with
    | true =>
      rw [hk] at hp
      simp only [cond_true] at hp
      have := h.1
      rw [hp] at this
      have hk' := Nat.eq_of_beq_eq_true hk
      subst hk'
      simpa using this
    | false =>
      rw [hk] at hp
      exact ih h.2 hp
section
variable {P : Program} {cx : Cx}
theorem own_ok {c : Entry} {N : Nat} {U : Nat → Prop} {e : Env} {h : Hp} {a : Act} {w : World} {S : Stab} {β : List Blk} {γ : Nat → Value} {lam : Nat → Option Nat} {ω : Nat → Owner} (F : FR c N U e h a w S β γ lam ω)
    {fn : Func} {sz : Nat} (ho : ownRes fn e sz = true) {u : Value} (hu : (results fn a.tmps).run P w = .ok u w) : OwnedR c.w.heap.size S β w h sz u := by
  unfold ownRes at ho
  split at ho
  · rename_i t hres
    cases ht : decide (t < 1000) with
    | false => rw [ht] at ho; cases ho
    | true =>
      rw [ht] at ho
      simp only [Bool.true_and] at ho
      split at ho
      · rename_i g hg
        split at ho
        · rename_i z hz
          have hgr := F.grps t g z (by simpa using ht) hg hz
          obtain ⟨ad, len, cap, h1, h2, h3, h4⟩ := F.free g z hz
          have hue : u = a.tmps.getD t undef := by
            have hr : fn.results = #[.tmp t] := by apply Array.ext'; simpa using hres
            rw [results_eq, hr] at hu
            simp [readRes] at hu
            simpa using hu.symm
          rw [hue, hgr]
          refine ⟨ad, len, cap, h1, h2, h3, h4.imp id ?_⟩
          rintro ⟨sz', b, off, x, k1, k2, k3, k4, k5, k6⟩
          have hsz : sz' = sz := by
            rw [k1] at ho
            simp only [szOk] at ho
            exact Nat.eq_of_beq_eq_true ho
          subst hsz
          refine ⟨b, off, x, k2, k3, k4, (F.mine b (by rw [k5]; simp)).1.grp k5, fun hb => ?_, k6⟩
          obtain ⟨l, _, hl, _⟩ := F.hown hb
          rw [k5] at hl
          cases hl
        · cases ho
      · cases ho
  · cases ho
omit [Dr] in
theorem retK_inv {fn : Func} {own : Option Nat} {e : Env} {h : Hp} (hr : retK cx fn own e h ≠ .fail) : ∃ rs, resAll cx.T e fn.results.toList = some rs ∧ (retK cx fn own e h = .ok (tupOf rs) h ∨ (own = none ∧ retK cx fn own e h = .ok (frz 6 h (tupOf rs)) (h.map fun _ => []))) ∧ ∀ sz, own = some sz → ownRes fn e sz = true := by
  have key : ∀ b z : Bool, (bif b then bnd (lft ((resAll cx.T e fn.results.toList).map tupOf)) (bif z then (bif own.isSome then fun _ => M.fail else fzM) else M.pure) else M.fail : M AV) h ≠ .fail → b = true ∧ ∃ rs, resAll cx.T e fn.results.toList = some rs ∧
      ((bif b then bnd (lft ((resAll cx.T e fn.results.toList).map tupOf)) (bif z then (bif own.isSome then fun _ => M.fail else fzM) else M.pure) else M.fail : M AV) h = .ok (tupOf rs) h ∨
        (own = none ∧ (bif b then bnd (lft ((resAll cx.T e fn.results.toList).map tupOf)) (bif z then (bif own.isSome then fun _ => M.fail else fzM) else M.pure) else M.fail : M AV) h = .ok (frz 6 h (tupOf rs)) (h.map fun _ => []))) := by
    intro b z hr
    cases b with
    | false => exact absurd rfl hr
    | true =>
      refine ⟨rfl, ?_⟩
      cases hres : resAll cx.T e fn.results.toList with
      | none => rw [hres] at hr; exact absurd rfl hr
      | some rs =>
        rw [hres] at hr
        cases z with
        | false => exact ⟨rs, rfl, .inl rfl⟩
        | true =>
          cases own with
          | none => exact ⟨rs, rfl, .inr ⟨rfl, rfl⟩⟩
          | some sz => exact absurd rfl hr
  unfold retK at hr ⊢
  cases own with
  | none =>
    obtain ⟨_, rs, h1, h2⟩ := key true _ hr
    exact ⟨rs, h1, h2, fun sz hsz => by cases hsz⟩
  | some sz =>
    obtain ⟨h0, rs, h1, h2⟩ := key _ _ hr
    exact ⟨rs, h1, h2, fun sz' hsz => by cases hsz; exact h0⟩
theorem body_sound (hT : TOK P cx.T) (hC : CallsOK P cx.own cx.call) (hI : IsoCall cx) (m : Nat) {f : FuncId} {fn : Func} (hf : P.funcs[f]? = some fn) (hnt : cx.nt = fn.ntmps) {own : Option Nat} {args : List AV} {h : Hp} {S : Stab} {β : List Blk} {w : World} {vs : List Value}
    (hr : evBody cx (fixM m) fn own args h ≠ .fail) (hg : GOK β h w) (hw : Wf S w) (hh : HeapX S β w h) (hv : VRs S β args vs) : Calls P f vs.toArray w (CPost own S β h w (evBody cx (fixM m) fn own args h)) ∧ fn.body.isSome = true := by
  unfold evBody at hr ⊢
  cases hb : fn.body with
  | none => rw [hb] at hr; exact absurd rfl hr
  | some code =>
    rw [hb] at hr
    simp only at hr ⊢
    refine ⟨?_, rfl⟩
    cases hc : (decide (args.length ≤ fn.ntmps) && decide (fn.ntmps ≤ 1000) && kindsOk cx.nt cx.ann.kinds) with
    | false => rw [hc] at hr; exact absurd rfl hr
    | true =>
      rw [hc] at hr
      simp only [cond_true] at hr ⊢
      simp only [Bool.and_eq_true, decide_eq_true_eq] at hc
      obtain ⟨⟨hc1, hc2⟩, hc3⟩ := hc
      have H : SatE { w, S, β, E := HOwn β h, gok := hg } cx.nt (env0 args) h { tmps := vs.toArray ++ Array.replicate (fn.ntmps - vs.toArray.size) undef, defers := [] } w := by
        rw [hnt]
        exact start hg hw hh hv hc1 hc2
      have hret : ∀ (e' : Env) (h' : Hp) (a' : Act) (w' : World), ev cx (fixM m) code (env0 args) (retK cx fn own) (fun _ _ => M.fail) (retK cx fn own) h = retK cx fn own e' h' →
          SatE { w, S, β, E := HOwn β h, gok := hg } cx.nt e' h' a' w' → ∃ v, (results fn a'.tmps).run P w' = .ok v w' ∧ CPost own S β h w (ev cx (fixM m) code (env0 args) (retK cx fn own) (fun _ _ => M.fail) (retK cx fn own) h) (.returned v) w' := by
        intro e' h' a' w' hok hs
        rw [hok] at hr ⊢
        obtain ⟨rs, hres, hret, hown⟩ := retK_inv hr
        obtain ⟨S', β', γ, lam, ω, F⟩ := hs
        obtain ⟨u, hu1, hu2⟩ := results_ok (P := P) hT F hres
        rcases hret with hret | ⟨rfl, hret⟩
        · rw [hret]
          exact ⟨u, hu1, S', β', u, rfl, hu2, F.out, fun sz hsz => own_ok F (hown sz hsz) hu1⟩
        · rw [hret]
          obtain ⟨S2, ω2, F2, hf⟩ := F.freeze
          exact ⟨u, hu1, S2, β', u, rfl, hf _ _ hu2, F2.out, fun sz hsz => by cases hsz⟩
      refine calls_of_wp hf hb (ev_sound hT hC hI (kindsOk_inv hc3) m _ code (Nat.lt_succ_self _) (env0 args) h _ w _ _ _ _ H hr ⟨fun e' h' a' w' hok hs hd => ?_, fun i e' h' a' w' hok hs hd => ?_, fun e' h' a' w' hok hs hd => ?_, fun pv h' v w' a' hok hs hd => ?_⟩)
      · exact ⟨hd, hret e' h' a' w' hok hs⟩
      · rw [hok] at hr; exact absurd rfl hr
      · exact ⟨hd, hret e' h' a' w' hok hs⟩
      · refine ⟨hd, ?_⟩
        rw [hok]
        obtain ⟨S', β', hout, hvr⟩ := hs
        exact ⟨S', β', v, rfl, hvr, hout⟩
end
open Classical in
theorem iso_key {S : Stab} {β : List Blk} {w w' : World} {h : Hp} (_hw : Wf S w) (hh : HeapX S β w h) {β0 : List Blk} {h0 : Hp} (hE : ∀ b, ¬ HOwn β0 h0 b) {S' : Stab} {β' : List Blk} {h' : Hp} (L : Left (HOwn β0 h0) S β0 w S' β' w' h') : ∃ S2, Left (HOwn β h) S β w S2 β w' h ∧ (∀ a v, VR S' β' a v → VR S2 β (frz 6 h' a) v) ∧ ∀ sz v, OwnedR w.heap.size S' β' w' h' sz v → OwnedR w.heap.size S2 β w' h sz v := by
  obtain ⟨hlen, ω, hH⟩ := L.heap
  have hnew : ∀ b, HOwn β' h' b → w.heap.size ≤ b := fun b hb => (L.owned b hb).resolve_left (hE b)
  let S2 : Stab := fun b o => if HOwn β' h' b then w'.cell? ⟨b, o, none⟩ else S' b o
  have hS2n : ∀ b, ¬ HOwn β' h' b → ∀ o, S2 b o = S' b o := fun b hb o => if_neg hb
  have hS2y : ∀ b, HOwn β' h' b → ∀ o, S2 b o = w'.cell? ⟨b, o, none⟩ := fun b hb o => if_pos hb
  have hle : S'.le S2 := by
    intro b o v hv
    by_cases hb : HOwn β' h' b
    · obtain ⟨l, cs, n, h1, h2, h3⟩ := hb
      obtain ⟨b', x, k1, k2, k3, k5⟩ := hH.own h1 h2
      rw [h3] at k1; cases k1
      rw [k5] at hv
      cases hv
    · rw [hS2n b hb]; exact hv
  have hrow : ∀ b, b < w.heap.size → w'.heap[b]? = w.heap[b]? ∧ ∀ o, S2 b o = S b o := by
    intro b hb
    have hk := L.keep b hb (hE b)
    refine ⟨hk.1, fun o => ?_⟩
    rw [hS2n b (fun ho => by have := hnew b ho; omega)]
    exact hk.2 o
  have hwf : Wf S2 w' := by
    intro b o v hv
    by_cases hb : HOwn β' h' b
    · rw [hS2y b hb] at hv; exact hv
    · rw [hS2n b hb] at hv; exact L.wf b o v hv
  obtain ⟨hlen0, ω0, hH0⟩ := hh
  have hlt0 : ∀ b, HOwn β h b → b < w.heap.size := by
    rintro b ⟨l, cs, n, h1, h2, h3⟩
    obtain ⟨b', x, k1, k2, _⟩ := hH0.own h1 h2
    rw [h3] at k1; cases k1
    exact k2
  have hle0 : S.le S2 := Stab.le_trans L.le hle
  refine ⟨S2, ⟨hle0, Ext.refl β, hwf, L.gro, fun b hb _ => hrow b hb, ⟨hlen0, ω0, hH0.rows hle0 (Ext.refl β) hlen0 fun l cs hl _ => .inl ⟨hl, fun b hb ho => ⟨ho, (hrow b hb).1, fun o h => by rw [(hrow b hb).2]; exact h⟩⟩⟩, fun b hb => .inl hb⟩, fun a v hv => frz_ok hH hle (fun b o x hb hr => ?_) 6 a v hv, fun sz v => ?_⟩
  · rw [hS2y b hb, hr.cell]
  · rintro ⟨ad, len, cap, k1, k2, k3, k4⟩
    refine ⟨ad, len, cap, k1, k2, k3, k4.imp id ?_⟩
    rintro ⟨b, off, x, p1, p2, p3, p4, p5, p6⟩
    refine ⟨b, off, x, p1, p2, p3, p4, fun hb => ?_, fun o ho => by rw [hS2n b p5]; exact p6 o ho⟩
    have := hlt0 b hb
    omega
theorem iso_post {S : Stab} {β : List Blk} {w w' : World} {h : Hp} {own : Option Nat} {m : List AV → M AV} {args : List AV} {en : Ending} (hw : Wf S w) (hh : HeapX S β w h) (hp : CPost own S [] [] w (m (cls noHs args) []) en w') : CPost own S β h w (isoM m args h) en w' := by
  have key := fun {S' : Stab} {β' : List Blk} {h' : Hp} (L : Left (HOwn [] []) S [] w S' β' w' h') => iso_key hw hh (by rintro b ⟨l, cs, n, h1, _⟩; simp at h1) L
  unfold isoM
  cases hm : m (cls noHs args) [] with
  | fail => rw [hm] at hp; exact hp.elim
  | ok r h' =>
    rw [hm] at hp
    obtain ⟨S', β', v, h1, h2, h3, h4⟩ := hp
    obtain ⟨S2, k1, k2, k3⟩ := key h3
    exact ⟨S2, β, v, h1, k2 r v h2, k1, fun sz hsz => k3 sz v (h4 sz hsz)⟩
  | pan r h' =>
    rw [hm] at hp
    obtain ⟨S', β', v, h1, h2, h3⟩ := hp
    obtain ⟨S2, k1, k2, k3⟩ := key h3
    exact ⟨S2, β, v, h1, k2 r v h2, k1⟩
structure GoodPg (P : Program) (p : Pg) : Prop where
  tok : TOK P p.T
  funcs : ∀ f fn a, p.funcs f = some (fn, a) → P.funcs[f]? = some fn ∧ (fn.name == "runtime.NumGoroutine") = false
  other : ∀ f E, p.other f = some E → ∀ call, CallsOK P p.own call → ∀ (args : List AV) (h : Hp) (S : Stab) (β : List Blk) (w : World) (vs : List Value), E call args h ≠ .fail → GOK β h w → Wf S w → HeapX S β w h → VRs S β args vs →
    Calls P f vs.toArray w (CPost (p.own f) S β h w (E call args h)) ∧ (P.funcs[f]?).any (fun fn => fn.body.isSome && !(fn.name == "runtime.NumGoroutine")) = true
  nw : ∀ f, p.nw f = true → ∃ E, p.other f = some E ∧ ∀ call args, NwM (E call args)
omit [Dr] in
theorem HeapX.nil {S : Stab} {w : World} : HeapX S [] w [] := ⟨rfl, fun _ => .no, fun l cs hl => by simp at hl⟩
theorem evFun_sound {P : Program} {p : Pg} (G : GoodPg P p) (m : Nat) {call : FuncId → List AV → M AV} (hC : CallsOK P p.own call) (hI : ∀ n a, IsoCall (p.cx call n a)) : CallsOK P p.own (evFun p call (fixM m)) := by
  intro f args h S β w vs hr hg hw hh hv
  unfold evFun at hr ⊢
  cases ho : p.other f with
  | some E => rw [ho] at hr; exact G.other f E ho call hC args h S β w vs hr hg hw hh hv
  | none =>
    rw [ho] at hr
    simp only at hr ⊢
    cases hf : p.funcs f with
    | none => rw [hf] at hr; exact absurd rfl hr
    | some x =>
      obtain ⟨fn, a⟩ := x
      rw [hf] at hr
      simp only at hr ⊢
      obtain ⟨hf1, hf2⟩ := G.funcs f fn a hf
      have hany : fn.body.isSome = true → (P.funcs[f]?).any (fun fn => fn.body.isSome && !(fn.name == "runtime.NumGoroutine")) = true := by
        intro hb
        rw [hf1]
        simp only [Option.any_some, hb, hf2, Bool.not_false, Bool.and_self]
      cases hi : a.iso with
      | false =>
        rw [hi] at hr
        simp only [cond_false] at hr ⊢
        obtain ⟨h1, h2⟩ := body_sound (cx := p.cx call fn.ntmps a) G.tok hC (hI _ _) m hf1 rfl hr hg hw hh hv
        exact ⟨h1, hany h2⟩
      | true =>
        rw [hi] at hr
        simp only [cond_true] at hr ⊢
        have hr' : evBody (p.cx call fn.ntmps a) (fixM m) fn (p.own f) (cls noHs args) [] ≠ .fail := by
          intro hf
          unfold isoM at hr
          rw [hf] at hr
          exact hr rfl
        obtain ⟨h1, h2⟩ := body_sound (cx := p.cx call fn.ntmps a) G.tok hC (hI _ _) m hf1 rfl hr' ⟨hg.1, fun b _ hb => by obtain ⟨l, _, _, h1, _⟩ := hb; simp at h1⟩ hw HeapX.nil (clean_ok hv)
        exact ⟨h1.mono fun en w' hp => iso_post hw hh hp, hany h2⟩
omit [Dr] in
theorem evCall_iso (p : Pg) (hN : ∀ f, p.nw f = true → ∃ E, p.other f = some E ∧ ∀ call args, NwM (E call args)) : ∀ n k a, IsoCall (p.cx (evCall p n) k a)
  | 0, k, a => ⟨fun f args _ => ⟨none, fun _ => rfl⟩, fun f args _ h v h' hh => by cases hh⟩
  | n + 1, k, a => by
    refine ⟨?_, fun f args hf => ?_⟩
    case refine_2 =>
      obtain ⟨E, hE, hn⟩ := hN f hf
      have : (p.cx (evCall p (n + 1)) k a).call f args = E (evCall p n) args := by
        show evFun p (evCall p n) (fixM n) f args = _
        unfold evFun
        rw [hE]
      rw [this]
      exact hn _ _
    intro f args hi
    have hi' : p.iso f = true := hi
    unfold Pg.iso at hi'
    cases ho : p.other f with
    | some E => rw [ho] at hi'; cases hi'
    | none =>
      rw [ho] at hi'
      simp only at hi'
      cases hf : p.funcs f with
      | none => rw [hf] at hi'; cases hi'
      | some x =>
        obtain ⟨fn, b⟩ := x
        rw [hf] at hi'
        simp only at hi'
        refine ⟨match evBody (p.cx (evCall p n) fn.ntmps b) (fixM n) fn (p.own f) (cls noHs args) [] with | .ok r h' => some (true, frz 6 h' r) | .pan v h' => some (false, frz 6 h' v) | .fail => none, fun h => ?_⟩
        show evFun p (evCall p n) (fixM n) f args h = _
        unfold evFun
        rw [ho]
        simp only
        rw [hf]
        simp only [hi', cond_true, isoM]
        cases evBody (p.cx (evCall p n) fn.ntmps b) (fixM n) fn (p.own f) (cls noHs args) [] <;> rfl
theorem evCall_sound {P : Program} {p : Pg} (G : GoodPg P p) : ∀ n, CallsOK P p.own (evCall p n)
  | 0 => fun _f _args _h _S _β _w _vs hr => absurd rfl hr
  | n + 1 => evFun_sound G n (evCall_sound G n) fun k a => evCall_iso p G.nw n k a
end Go.Av

/- Calls without fuel. Conditions: the program is good; the functions that are known by other means are continuous. -/
namespace Go.Av
theorem isoM_lim {m : List AV → M AV} {ms : Nat → List AV → M AV} (h : LimF m ms) (args : List AV) : LimM (isoM m args) fun n => isoM (ms n) args := by
  intro x
  obtain ⟨h1, h2⟩ := h (cls noHs args) []
  (try dsimp only at h1 h2)
  refine ⟨fun hne => ?_, fun n hne => ?_⟩
  · have hne' : m (cls noHs args) [] ≠ .fail := fun hf => hne (by simp only [isoM, hf])
    obtain ⟨N, hN⟩ := h1 hne'
    refine ⟨N, fun n hn => ?_⟩
    (try dsimp only)
    simp only [isoM, hN n hn]
  · (try dsimp only at hne ⊢)
    have hne' : ms n (cls noHs args) [] ≠ .fail := fun hf => hne (by simp only [isoM, hf])
    simp only [isoM, h2 n hne']
def OtherLim (p : Pg) : Prop := ∀ f E, p.other f = some E → ∀ (call : FuncId → List AV → M AV) (calls : Nat → FuncId → List AV → M AV), (∀ f, LimF (call f) fun n => calls n f) → LimF (E call) fun n => E (calls n)
section
variable {cx : Cx} {call : FuncId → List AV → M AV} {calls : Nat → FuncId → List AV → M AV} {fx : Fix AV} {fxs : Nat → Fix AV}
theorem evBody_lim (hc : ∀ f, LimF (call f) fun n => calls n f) (hfx : FixRel fx fxs) (hfc : FixC fx) (hfcs : ∀ n, FixC (fxs n)) (fn : Func) (own : Option Nat) :
    LimF (evBody (cx.wc call) fx fn own) fun n => evBody (cx.wc (calls n)) (fxs n) fn own := by
  intro args
  unfold evBody
  cases fn.body with
  | none => exact LimM.const _
  | some c =>
    have key : ∀ b : Bool, LimM (bif b then ev (cx.wc call) fx c (env0 args) (retK (cx.wc call) fn own) (fun _ _ => M.fail) (retK (cx.wc call) fn own) else M.fail) fun n => (bif b then ev (cx.wc (calls n)) (fxs n) c (env0 args) (retK (cx.wc (calls n)) fn own) (fun _ _ => M.fail) (retK (cx.wc (calls n)) fn own) else M.fail) := by
      intro b
      cases b with
      | false => exact LimM.const _
      | true =>
        have hr : LimF (retK (cx.wc call) fn own) fun n => retK (cx.wc (calls n)) fn own := LimF.const (retK cx fn own)
        exact ev_lim _ c (Nat.lt_succ_self _) call calls fx fxs hc hfx hfc hfcs (env0 args) _ (fun n => retK (cx.wc (calls n)) fn own) _ (fun _ _ _ => M.fail) _ (fun n => retK (cx.wc (calls n)) fn own) hr (fun i => LimF.const _) hr
    exact key (decide (args.length ≤ fn.ntmps) && decide (fn.ntmps ≤ 1000) && kindsOk cx.nt cx.ann.kinds)
theorem evFun_lim {p : Pg} (hO : OtherLim p) (hc : ∀ f, LimF (call f) fun n => calls n f) (hfx : FixRel fx fxs) (hfc : FixC fx) (hfcs : ∀ n, FixC (fxs n)) (f : FuncId) : LimF (evFun p call fx f) fun n => evFun p (calls n) (fxs n) f := by
  intro args
  unfold evFun
  cases ho : p.other f with
  | some E => exact hO f E ho call calls hc args
  | none =>
    simp only
    cases p.funcs f with
    | none => exact LimM.const _
    | some x =>
      obtain ⟨fn, a⟩ := x
      simp only
      have hb := evBody_lim (cx := p.cx call fn.ntmps a) hc hfx hfc hfcs fn (p.own f)
      cases a.iso with
      | true => exact isoM_lim hb args
      | false => exact hb args
end
theorem evCall_mono {p : Pg} (hO : OtherLim p) : ∀ n f args, LeM (evCall p n f args) (evCall p (n + 1) f args)
  | 0, f, args => fun x hne => absurd rfl hne
  | n + 1, f, args => by
    have hc : ∀ f, LimF (evCall p (n + 1) f) fun m => (if m = 0 then evCall p n else evCall p (n + 1)) f := by
      intro f args x
      refine ⟨fun _ => ⟨1, fun m hm => ?_⟩, fun m hne => ?_⟩
      · (try dsimp only)
        rw [if_neg (by omega)]
      · (try dsimp only at hne ⊢)
        by_cases h0 : m = 0
        · rw [if_pos h0] at hne ⊢; exact evCall_mono hO n f args x hne
        · rw [if_neg h0]
    have h := evFun_lim hO hc (fixRel_step n) (fixC_M (n + 1)) (fun m => by
      by_cases h0 : m = 0
      · rw [if_pos h0]; exact fixC_M n
      · rw [if_neg h0]; exact fixC_M (n + 1)) f args
    intro x hne
    have := (h x).2 0
    (try dsimp only at this)
    rw [if_pos rfl, if_pos rfl] at this
    exact this hne
theorem evCall_mono' {p : Pg} (hO : OtherLim p) {n m : Nat} (h : n ≤ m) (f : FuncId) (args : List AV) : LeM (evCall p n f args) (evCall p m f args) := by
  induction m with
  | zero => have : n = 0 := by omega
            subst this; exact .refl _
  | succ m ih =>
    by_cases hn : n = m + 1
    · subst hn; exact .refl _
    · exact (ih (by omega)).trans (evCall_mono hO m f args)
open Classical in
noncomputable def callW (p : Pg) (f : FuncId) (args : List AV) : M AV := fun h => if hx : ∃ n, evCall p n f args h ≠ .fail then evCall p (Classical.choose hx) f args h else .fail
theorem callW_lim {p : Pg} (hO : OtherLim p) (f : FuncId) : LimF (callW p f) fun n => evCall p n f := by
  intro args h
  refine chain_lim (fun n m hnm hne => evCall_mono' hO hnm f args h hne) ?_
  unfold callW
  by_cases hx : ∃ n, evCall p n f args h ≠ .fail
  · left
    simp only [dif_pos hx]
    exact ⟨_, Classical.choose_spec hx, rfl⟩
  · right
    simp only [dif_neg hx]
    exact ⟨fun n => Classical.byContradiction fun h => hx ⟨n, h⟩, trivial⟩
theorem IsLim.uniq {α : Type} {a a' : R α} {b : Nat → R α} (h : IsLim a b) (g : IsLim a' fun n => b (n + 1)) : a = a' := by
  by_cases ha : a = .fail
  · by_cases ha' : a' = .fail
    · rw [ha, ha']
    · obtain ⟨N, hN⟩ := g.1 ha'
      have h1 := hN N (Nat.le_refl _)
      (try dsimp only at h1)
      exact (h.2 (N + 1) (by rw [h1]; exact ha')).symm.trans h1
  · obtain ⟨N, hN⟩ := h.1 ha
    have h1 := hN (N + 1) (by omega)
    have h2 := g.2 N
    (try dsimp only at h2)
    exact h1.symm.trans (h2 (by rw [h1]; exact ha))
theorem callW_eq {p : Pg} (hO : OtherLim p) (f : FuncId) (args : List AV) : callW p f args = evFun p (callW p) fixW f args := by
  funext h
  have h1 := callW_lim hO f args h
  have h2 := evFun_lim hO (fun f => callW_lim hO f) fixRel_fuel fixC_W (fun n => fixC_M n) f args h
  exact h1.uniq h2
theorem callW_sound [Dr] {P : Program} {p : Pg} (G : GoodPg P p) (hO : OtherLim p) : CallsOK P p.own (callW p) := by
  intro f args h S β w vs hr hg hw hh hv
  obtain ⟨N, hN⟩ := (callW_lim hO f args h).1 hr
  have h1 := hN N (Nat.le_refl _)
  (try dsimp only at h1)
  rw [← h1] at hr ⊢
  exact evCall_sound G N f args h S β w vs hr hg hw hh hv
end Go.Av

/- Loops without fuel. No condition. -/
namespace Go.Av
section
variable {ρ : Type}
theorem fixW_eq {F : (List AV → M ρ) → List AV → M ρ} (hF : ContC F) (vs : List AV) : fixW F vs = F (fixW F) vs := by
  funext h
  exact (fixW_lim hF vs h).uniq (hF _ _ (fixW_lim hF) vs h)
theorem condM_lim {c : AV} {x y : M ρ} {xs ys : Nat → M ρ} (hx : LimM x xs) (hy : LimM y ys) : LimM (condM c x y) fun n => condM c (xs n) (ys n) := by
  unfold condM
  cases c with
  | bool b => cases b <;> first | exact hx | exact hy
  | _ => exact LimM.const _
theorem jn_lim {k : List AV → M ρ} {ks : Nat → List AV → M ρ} {m : (List AV → M ρ) → M ρ} {ms : Nat → (List AV → M ρ) → M ρ} (hk : LimF k ks) (hm : ∀ j js, LimF j js → LimM (m j) fun n => ms n (js n)) : LimM (jn k m) fun n => jn (ks n) (ms n) :=
  hm k ks hk
theorem fixW_limF {F : (List AV → M ρ) → List AV → M ρ} {Fs : Nat → (List AV → M ρ) → List AV → M ρ} (h1 : Cont1 F Fs) (h2 : ContC F) (h3 : ∀ n, ContC (Fs n)) : LimF (fixW F) fun n => fixW (Fs n) := fixC_W F Fs h1 h2 h3
end
end Go.Av

/- Shallow programs: what a call is, once the evaluator has gone over the code. No condition. -/
namespace Go.Av
def isoP (m : M AV) : M AV := fun h => match m [] with
  | .ok r h' => .ok (frz 6 h' r) h
  | .pan v h' => .pan (frz 6 h' v) h
  | .fail => .fail
theorem callW_iso {p : Pg} (hO : OtherLim p) {f : FuncId} {fn : Func} {a : Ann} (h1 : p.other f = none) (h2 : p.funcs f = some (fn, a)) (h3 : a.iso = true) (args : List AV) :
    callW p f args = isoP (evBody (p.cx (callW p) fn.ntmps a) fixW fn (p.own f) (cls noHs args)) := by
  rw [callW_eq hO]
  unfold evFun
  rw [h1]
  simp only
  rw [h2]
  simp only [h3, cond_true]
  rfl
theorem callW_heap {p : Pg} (hO : OtherLim p) {f : FuncId} {fn : Func} {a : Ann} (h1 : p.other f = none) (h2 : p.funcs f = some (fn, a)) (h3 : a.iso = false) (args : List AV) :
    callW p f args = evBody (p.cx (callW p) fn.ntmps a) fixW fn (p.own f) args := by
  rw [callW_eq hO]
  unfold evFun
  rw [h1]
  simp only
  rw [h2]
  simp only [h3, cond_false]
theorem callW_other {p : Pg} (hO : OtherLim p) {f : FuncId} {E : (FuncId → List AV → M AV) → List AV → M AV} (h1 : p.other f = some E) (args : List AV) : callW p f args = E (callW p) args := by
  rw [callW_eq hO]
  unfold evFun
  rw [h1]
theorem other_bif {α : Type} {b : Bool} {x : α} {o : Option α} {y : α} (h : (bif b then some x else o) = some y) : x = y ∨ o = some y := by
  cases b with
  | true => exact .inl (by simpa using h)
  | false => exact .inr h
end Go.Av

/- The types of the package api, and how their values stand as0 abstract values. No condition. -/
namespace Go.Av.Ap
abbrev Str := List UInt8
inductive Val where
  | mk (kind n : Int) (names : List Str) (values : List Val)
instance : Inhabited Val := ⟨.mk 0 0 [] []⟩
inductive Exp where
  | mk (op n : Int) (s m : Str) (names : List Str) (args : List Exp)
instance : Inhabited Exp := ⟨.mk 0 0 [] [] [] []⟩
inductive Ty where
  | mk (kind : Int) (fields : List (Str × Ty))
instance : Inhabited Ty := ⟨.mk 0 []⟩
abbrev Fld := Str × Ty
structure Fun where
  name : Str
  pub : Bool
  params : List Fld
  result : Ty
  effects : Int
  body : Exp
  deriving Inhabited
structure Mod where
  name : Str
  uses : List Str
  vars : List Fld
  init : List Exp
  funcs : List Fun
  moves : Bool
  old : List Fld
  forward : List Exp
  back : List Exp
  deriving Inhabited
def Val.kind : Val → Int | .mk k _ _ _ => k
def Val.n : Val → Int | .mk _ n _ _ => n
def Val.names : Val → List Str | .mk _ _ ns _ => ns
def Val.values : Val → List Val | .mk _ _ _ vs => vs
def Exp.op : Exp → Int | .mk o _ _ _ _ _ => o
def Exp.n : Exp → Int | .mk _ n _ _ _ _ => n
def Exp.s : Exp → Str | .mk _ _ s _ _ _ => s
def Exp.m : Exp → Str | .mk _ _ _ m _ _ => m
def Exp.names : Exp → List Str | .mk _ _ _ _ ns _ => ns
def Exp.args : Exp → List Exp | .mk _ _ _ _ _ es => es
def Ty.kind : Ty → Int | .mk k _ => k
def Ty.fields : Ty → List Fld | .mk _ fs => fs
@[simp] theorem Val.kind_mk (a b c d) : (Val.mk a b c d).kind = a := rfl
@[simp] theorem Val.n_mk (a b c d) : (Val.mk a b c d).n = b := rfl
@[simp] theorem Val.names_mk (a b c d) : (Val.mk a b c d).names = c := rfl
@[simp] theorem Val.values_mk (a b c d) : (Val.mk a b c d).values = d := rfl
def strs (l : List Str) : AV := .sl (l.map .str)
mutual
def Val.av : Val → AV
  | .mk k n ns vs => .agg [.int .i64 k, .int .i64 n, strs ns, .sl (valsAv vs)]
def valsAv : List Val → List AV
  | [] => []
  | v :: vs => v.av :: valsAv vs
end
mutual
def Exp.cells : Exp → List AV
  | .mk o n s m ns es => [.int .i64 o, .int .i64 n, .str s, .str m, strs ns, .sl (expsAv es)]
def expsAv : List Exp → List AV
  | [] => []
  | e :: es => .agg e.cells :: expsAv es
end
def Exp.av (e : Exp) : AV := .agg e.cells
mutual
def Ty.cells : Ty → List AV
  | .mk k fs => [.int .i64 k, .sl (fldsAv fs)]
def fldsAv : List (Str × Ty) → List AV
  | [] => []
  | f :: fs => fldAv f :: fldsAv fs
def fldAv : Str × Ty → AV
  | (n, t) => .agg (.str n :: t.cells)
end
def Ty.av (t : Ty) : AV := .agg t.cells
def Fun.av (f : Fun) : AV := .agg ([.str f.name, .bool f.pub, .sl (fldsAv f.params)] ++ f.result.cells ++ [.int .i64 f.effects] ++ f.body.cells)
def funs (l : List Fun) : AV := .sl (l.map Fun.av)
def Mod.av (m : Mod) : AV := .agg [.str m.name, strs m.uses, .sl (fldsAv m.vars), .sl (expsAv m.init), funs m.funcs, .bool m.moves, .sl (fldsAv m.old), .sl (expsAv m.forward), .sl (expsAv m.back)]
def vals (l : List Val) : AV := .sl (valsAv l)
def exps (l : List Exp) : AV := .sl (expsAv l)
def flds (l : List Fld) : AV := .sl (fldsAv l)
def mods (l : List Mod) : AV := .sl (l.map Mod.av)
def ints (l : List Int) : AV := .sl (l.map (.int .i64))
structure Vars where
  module : Str
  values : List Val
  deriving Inhabited
structure Deed where
  effect : Int
  arg : Int
  answer : Int
  deriving DecidableEq, Inhabited
structure Call where
  module : Str
  func : Str
  args : List Val
  deriving Inhabited
def Vars.av (v : Vars) : AV := .agg [.str v.module, vals v.values]
def Deed.av (d : Deed) : AV := .agg [.int .i64 d.effect, .int .i64 d.arg, .int .i64 d.answer]
def Call.av (c : Call) : AV := .agg [.str c.module, .str c.func, vals c.args]
def varss (l : List Vars) : AV := .sl (l.map Vars.av)
def deeds (l : List Deed) : AV := .sl (l.map Deed.av)
def calls (l : List Call) : AV := .sl (l.map Call.av)
structure Out where
  err : Int
  value : Val
  deeds : List Deed
  calls : List Call
  state : List Vars
def Out.av (o : Out) : AV := .agg [.int .i64 o.err, .int .i64 o.value.kind, .int .i64 o.value.n, strs o.value.names, vals o.value.values, Ap.deeds o.deeds, Ap.calls o.calls, varss o.state]
theorem valsAv_map : (l : List Val) → valsAv l = l.map Val.av
  | [] => rfl
  | v :: l => by simp [valsAv, valsAv_map l]
theorem expsAv_map : (l : List Exp) → expsAv l = l.map Exp.av
  | [] => rfl
  | v :: l => by simp [expsAv, expsAv_map l, Exp.av]
theorem fldsAv_map : (l : List Fld) → fldsAv l = l.map fldAv
  | [] => rfl
  | v :: l => by simp [fldsAv, fldsAv_map l]
theorem Val.av_eq (v : Val) : v.av = .agg [.int .i64 v.kind, .int .i64 v.n, strs v.names, vals v.values] := by cases v; rfl
theorem Exp.cells_eq (e : Exp) : e.cells = [.int .i64 e.op, .int .i64 e.n, .str e.s, .str e.m, strs e.names, exps e.args] := by cases e; rfl
theorem Ty.cells_eq (t : Ty) : t.cells = [.int .i64 t.kind, flds t.fields] := by cases t; simp [Ty.cells, flds, Ty.kind, Ty.fields]
theorem fldAv_eq (f : Fld) : fldAv f = .agg [.str f.1, .int .i64 f.2.kind, flds f.2.fields] := by obtain ⟨n, t⟩ := f; simp [fldAv, Ty.cells_eq]
@[simp] theorem acells_val (v : Val) : acells v.av = [.int .i64 v.kind, .int .i64 v.n, strs v.names, vals v.values] := by rw [v.av_eq]; rfl
@[simp] theorem acells_exp (e : Exp) : acells e.av = [.int .i64 e.op, .int .i64 e.n, .str e.s, .str e.m, strs e.names, exps e.args] := by rw [Exp.av, e.cells_eq]; rfl
@[simp] theorem acells_fld (f : Fld) : acells (fldAv f) = [.str f.1, .int .i64 f.2.kind, flds f.2.fields] := by rw [fldAv_eq]; rfl
@[simp] theorem acells_ty (t : Ty) : acells t.av = [.int .i64 t.kind, flds t.fields] := by rw [Ty.av, t.cells_eq]; rfl
@[simp] theorem acells_fun (f : Fun) : acells f.av = [.str f.name, .bool f.pub, flds f.params, .int .i64 f.result.kind, flds f.result.fields, .int .i64 f.effects, .int .i64 f.body.op, .int .i64 f.body.n, .str f.body.s, .str f.body.m, strs f.body.names, exps f.body.args] := by
  simp [Fun.av, acells, Ty.cells_eq, Exp.cells_eq, flds]
@[simp] theorem acells_mod (m : Mod) : acells m.av = [.str m.name, strs m.uses, flds m.vars, exps m.init, funs m.funcs, .bool m.moves, flds m.old, exps m.forward, exps m.back] := rfl
@[simp] theorem fold_val (v : Val) : AV.agg [.int .i64 v.kind, .int .i64 v.n, strs v.names, vals v.values] = v.av := (v.av_eq).symm
@[simp] theorem fold_exp (e : Exp) : AV.agg [.int .i64 e.op, .int .i64 e.n, .str e.s, .str e.m, strs e.names, exps e.args] = e.av := by rw [Exp.av, e.cells_eq]
@[simp] theorem fold_ty (t : Ty) : AV.agg [.int .i64 t.kind, flds t.fields] = t.av := by rw [Ty.av, t.cells_eq]
@[simp] theorem fold_fld (f : Fld) : AV.agg [.str f.1, .int .i64 f.2.kind, flds f.2.fields] = fldAv f := (fldAv_eq f).symm
@[simp] theorem fold_fun (f : Fun) : AV.agg [.str f.name, .bool f.pub, flds f.params, .int .i64 f.result.kind, flds f.result.fields, .int .i64 f.effects, .int .i64 f.body.op, .int .i64 f.body.n, .str f.body.s, .str f.body.m, strs f.body.names, exps f.body.args] = f.av := by
  simp [Fun.av, Ty.cells_eq, Exp.cells_eq, flds]
@[simp] theorem fold_mod (m : Mod) : AV.agg [.str m.name, strs m.uses, flds m.vars, exps m.init, funs m.funcs, .bool m.moves, flds m.old, exps m.forward, exps m.back] = m.av := rfl
theorem cls_map {α : Type} (g : Nat → Nat → Nat → Nat → Bool → AV) (f : α → AV) (h : ∀ x, cl g (f x) = f x) : (l : List α) → cls g (l.map f) = l.map f
  | [] => rfl
  | x :: l => by simp [cls, h x, cls_map g f h l]
@[simp] theorem cl_strs (g : Nat → Nat → Nat → Nat → Bool → AV) (l : List Str) : cl g (strs l) = strs l := by
  simp [strs, cl, cls_map g AV.str (fun _ => rfl) l]
@[simp] theorem cl_ints (g : Nat → Nat → Nat → Nat → Bool → AV) (l : List Int) : cl g (ints l) = ints l := by
  simp [ints, cl, cls_map g (AV.int .i64) (fun _ => rfl) l]
mutual
theorem Val.cl_av (g : Nat → Nat → Nat → Nat → Bool → AV) : (v : Val) → cl g v.av = v.av
  | .mk k n ns vs => by simp [Val.av, cl, cls, vals_cl g vs]
theorem vals_cl (g : Nat → Nat → Nat → Nat → Bool → AV) : (l : List Val) → cls g (valsAv l) = valsAv l
  | [] => rfl
  | v :: l => by simp [valsAv, cls, Val.cl_av g v, vals_cl g l]
end
mutual
theorem Exp.cl_cells (g : Nat → Nat → Nat → Nat → Bool → AV) : (e : Exp) → cls g e.cells = e.cells
  | .mk o n s m ns es => by simp [Exp.cells, cl, cls, exps_cl g es]
theorem exps_cl (g : Nat → Nat → Nat → Nat → Bool → AV) : (l : List Exp) → cls g (expsAv l) = expsAv l
  | [] => rfl
  | e :: l => by simp [expsAv, cls, cl, Exp.cl_cells g e, exps_cl g l]
end
mutual
theorem Ty.cl_cells (g : Nat → Nat → Nat → Nat → Bool → AV) : (t : Ty) → cls g t.cells = t.cells
  | .mk k fs => by simp [Ty.cells, cl, cls, flds_cl g fs]
theorem flds_cl (g : Nat → Nat → Nat → Nat → Bool → AV) : (l : List (Str × Ty)) → cls g (fldsAv l) = fldsAv l
  | [] => rfl
  | f :: l => by simp [fldsAv, cls, fld_cl g f, flds_cl g l]
theorem fld_cl (g : Nat → Nat → Nat → Nat → Bool → AV) : (f : Str × Ty) → cl g (fldAv f) = fldAv f
  | (n, t) => by simp [fldAv, cl, cls, Ty.cl_cells g t]
end
@[simp] theorem cl_val (g : Nat → Nat → Nat → Nat → Bool → AV) (v : Val) : cl g v.av = v.av := v.cl_av g
@[simp] theorem cl_vals (g : Nat → Nat → Nat → Nat → Bool → AV) (l : List Val) : cl g (vals l) = vals l := by simp [vals, cl, vals_cl]
@[simp] theorem cl_exp (g : Nat → Nat → Nat → Nat → Bool → AV) (e : Exp) : cl g e.av = e.av := by simp [Exp.av, cl, Exp.cl_cells]
@[simp] theorem cl_exps (g : Nat → Nat → Nat → Nat → Bool → AV) (l : List Exp) : cl g (exps l) = exps l := by simp [exps, cl, exps_cl]
@[simp] theorem cl_ty (g : Nat → Nat → Nat → Nat → Bool → AV) (t : Ty) : cl g t.av = t.av := by simp [Ty.av, cl, Ty.cl_cells]
@[simp] theorem cl_fld (g : Nat → Nat → Nat → Nat → Bool → AV) (f : Fld) : cl g (fldAv f) = fldAv f := fld_cl g f
@[simp] theorem cl_flds (g : Nat → Nat → Nat → Nat → Bool → AV) (l : List Fld) : cl g (flds l) = flds l := by simp [flds, cl, flds_cl]
theorem cls_append (g : Nat → Nat → Nat → Nat → Bool → AV) : (a b : List AV) → cls g (a ++ b) = cls g a ++ cls g b
  | [], b => rfl
  | x :: a, b => by simp [cls, cls_append g a b]
@[simp] theorem cl_fun (g : Nat → Nat → Nat → Nat → Bool → AV) (f : Fun) : cl g f.av = f.av := by
  simp [Fun.av, cl, cls, cls_append, flds_cl, Ty.cl_cells, Exp.cl_cells]
@[simp] theorem cl_funs (g : Nat → Nat → Nat → Nat → Bool → AV) (l : List Fun) : cl g (funs l) = funs l := by simp [funs, cl, cls_map g Fun.av (cl_fun g)]
@[simp] theorem cl_mod (g : Nat → Nat → Nat → Nat → Bool → AV) (m : Mod) : cl g m.av = m.av := by
  simp [Mod.av, cl, cls, flds_cl, exps_cl, cl_funs]
@[simp] theorem cl_mods (g : Nat → Nat → Nat → Nat → Bool → AV) (l : List Mod) : cl g (mods l) = mods l := by simp [mods, cl, cls_map g Mod.av (cl_mod g)]
@[simp] theorem cl_int (g : Nat → Nat → Nat → Nat → Bool → AV) (k : IntKind) (n : Int) : cl g (.int k n) = .int k n := rfl
@[simp] theorem cl_bool (g : Nat → Nat → Nat → Nat → Bool → AV) (b : Bool) : cl g (.bool b) = .bool b := rfl
@[simp] theorem cl_str (g : Nat → Nat → Nat → Nat → Bool → AV) (s : Str) : cl g (.str s) = .str s := rfl
@[simp] theorem cl_vars (g : Nat → Nat → Nat → Nat → Bool → AV) (v : Vars) : cl g v.av = v.av := by simp [Vars.av, cl, cls]
@[simp] theorem cl_deed (g : Nat → Nat → Nat → Nat → Bool → AV) (v : Deed) : cl g v.av = v.av := by simp [Deed.av, cl, cls]
@[simp] theorem cl_call (g : Nat → Nat → Nat → Nat → Bool → AV) (v : Call) : cl g v.av = v.av := by simp [Call.av, cl, cls]
@[simp] theorem cl_varss (g : Nat → Nat → Nat → Nat → Bool → AV) (l : List Vars) : cl g (varss l) = varss l := by simp [varss, cl, cls_map g Vars.av (cl_vars g)]
@[simp] theorem cl_deeds (g : Nat → Nat → Nat → Nat → Bool → AV) (l : List Deed) : cl g (deeds l) = deeds l := by simp [deeds, cl, cls_map g Deed.av (cl_deed g)]
@[simp] theorem cl_calls (g : Nat → Nat → Nat → Nat → Bool → AV) (l : List Call) : cl g (calls l) = calls l := by simp [calls, cl, cls_map g Call.av (cl_call g)]
@[simp] theorem cl_out (g : Nat → Nat → Nat → Nat → Bool → AV) (o : Out) : cl g o.av = o.av := by simp [Out.av, cl, cls]
@[simp] theorem acells_vars (v : Vars) : acells v.av = [.str v.module, vals v.values] := rfl
@[simp] theorem acells_deed (v : Deed) : acells v.av = [.int .i64 v.effect, .int .i64 v.arg, .int .i64 v.answer] := rfl
@[simp] theorem acells_call (v : Call) : acells v.av = [.str v.module, .str v.func, vals v.args] := rfl
@[simp] theorem acells_out (o : Out) : acells o.av = [.int .i64 o.err, .int .i64 o.value.kind, .int .i64 o.value.n, strs o.value.names, vals o.value.values, deeds o.deeds, calls o.calls, varss o.state] := rfl
@[simp] theorem fold_vars (v : Vars) : AV.agg [.str v.module, vals v.values] = v.av := rfl
@[simp] theorem fold_deed (v : Deed) : AV.agg [.int .i64 v.effect, .int .i64 v.arg, .int .i64 v.answer] = v.av := rfl
@[simp] theorem fold_call (v : Call) : AV.agg [.str v.module, .str v.func, vals v.args] = v.av := rfl
@[simp] theorem fold_out (o : Out) : AV.agg [.int .i64 o.err, .int .i64 o.value.kind, .int .i64 o.value.n, strs o.value.names, vals o.value.values, deeds o.deeds, calls o.calls, varss o.state] = o.av := rfl
@[simp] theorem size_vars (v : Vars) : sizeA v.av = some 2 := rfl
@[simp] theorem size_deed (v : Deed) : sizeA v.av = some 3 := rfl
@[simp] theorem size_call (v : Call) : sizeA v.av = some 3 := rfl
@[simp] theorem size_out (v : Out) : sizeA v.av = some 8 := rfl
@[simp] theorem okEl_vars (v : Vars) : okEl 2 v.av = true := by simp [okEl, okCell, vals]
@[simp] theorem okEl_deed (v : Deed) : okEl 3 v.av = true := by simp [okEl, okCell]
@[simp] theorem okEl_call (v : Call) : okEl 3 v.av = true := by simp [okEl, okCell, vals]
@[simp] theorem okEl_out (v : Out) : okEl 8 v.av = true := by simp [okEl, okCell, vals, strs, deeds, calls, varss]
def Clean (a : AV) : Prop := ∀ g, cl g a = a
theorem Clean.frz {a : AV} (h : Clean a) (d : Nat) (hp : Hp) : frz d hp a = a := by
  cases d with
  | zero => exact h _
  | succ d => exact h _
theorem isoP_pure {a : AV} (h : Clean a) : isoP (M.pure a) = M.pure a := by
  funext hp
  simp only [isoP, M.pure, h.frz]
@[simp] theorem isoP_bool (b : Bool) : isoP (M.pure (.bool b)) = M.pure (.bool b) := isoP_pure fun _ => rfl
@[simp] theorem isoP_int (k : IntKind) (n : Int) : isoP (M.pure (.int k n)) = M.pure (.int k n) := isoP_pure fun _ => rfl
@[simp] theorem isoP_str (s : Str) : isoP (M.pure (.str s)) = M.pure (.str s) := isoP_pure fun _ => rfl
@[simp] theorem isoP_val (v : Val) : isoP (M.pure v.av) = M.pure v.av := isoP_pure fun g => cl_val g v
@[simp] theorem isoP_vals (v : List Val) : isoP (M.pure (vals v)) = M.pure (vals v) := isoP_pure fun g => cl_vals g v
@[simp] theorem isoP_exp (v : Exp) : isoP (M.pure v.av) = M.pure v.av := isoP_pure fun g => cl_exp g v
@[simp] theorem isoP_fun (v : Fun) : isoP (M.pure v.av) = M.pure v.av := isoP_pure fun g => cl_fun g v
@[simp] theorem size_val (v : Val) : sizeA v.av = some 4 := by rw [v.av_eq]; rfl
@[simp] theorem size_exp (e : Exp) : sizeA e.av = some 6 := by rw [Exp.av, e.cells_eq]; rfl
@[simp] theorem size_fld (f : Fld) : sizeA (fldAv f) = some 3 := by rw [fldAv_eq]; rfl
@[simp] theorem size_ty (t : Ty) : sizeA t.av = some 2 := by rw [Ty.av, t.cells_eq]; rfl
@[simp] theorem size_fun (f : Fun) : sizeA f.av = some 12 := by simp [Fun.av, sizeA, Ty.cells_eq, Exp.cells_eq]
@[simp] theorem size_mod (m : Mod) : sizeA m.av = some 9 := rfl
@[simp] theorem okEl_val (v : Val) : okEl 4 v.av = true := by simp [okEl, okCell, strs, vals]
@[simp] theorem okEl_exp (e : Exp) : okEl 6 e.av = true := by simp [okEl, okCell, strs, exps]
@[simp] theorem okEl_fld (f : Fld) : okEl 3 (fldAv f) = true := by simp [okEl, okCell, flds]
@[simp] theorem okEl_fun (f : Fun) : okEl 12 f.av = true := by simp [okEl, okCell, flds, strs, exps]
@[simp] theorem okEl_mod (m : Mod) : okEl 9 m.av = true := by simp [okEl, okCell, flds, strs, exps, funs]
@[simp] theorem okEl_str (s : Str) : okEl 1 (.str s) = true := rfl
@[simp] theorem okEl_int (k : IntKind) (n : Int) : okEl 1 (.int k n) = true := rfl
theorem okSz_map {α : Type} {sz : Nat} {f : α → AV} (h : ∀ x, okEl sz (f x) = true) (l : List α) : okSz sz (l.map f) = true := by simp [okSz, h]
@[simp] theorem okSz_strs (l : List Str) : okSz 1 (l.map AV.str) = true := okSz_map okEl_str l
@[simp] theorem okSz_ints (l : List Int) : okSz 1 (l.map (AV.int .i64)) = true := okSz_map (okEl_int .i64) l
@[simp] theorem okSz_vals (l : List Val) : okSz 4 (valsAv l) = true := by rw [valsAv_map]; exact okSz_map okEl_val l
@[simp] theorem okSz_exps (l : List Exp) : okSz 6 (expsAv l) = true := by rw [expsAv_map]; exact okSz_map okEl_exp l
@[simp] theorem okSz_flds (l : List Fld) : okSz 3 (fldsAv l) = true := by rw [fldsAv_map]; exact okSz_map okEl_fld l
@[simp] theorem okSz_funs (l : List Fun) : okSz 12 (l.map Fun.av) = true := okSz_map okEl_fun l
@[simp] theorem okSz_mods (l : List Mod) : okSz 9 (l.map Mod.av) = true := okSz_map okEl_mod l
theorem indexAddrA_map {T : TT} {t e : Nat} {ti ei : TI} (ht : T t = some ti) (hk : ti.kind = .slice e) (he : T e = some ei) {α : Type} {f : α → AV} (hs : ∀ x, sizeA (f x) = some ei.size) {l : List α} {i : Nat} {x : α} (h : l[i]? = some x) :
    indexAddrA T t (.sl (l.map f)) (.int .i64 (i : Int)) = some (.ip (acells (f x))) := by
  unfold indexAddrA
  rw [ht]
  simp only [hk, he]
  rw [if_neg (by omega)]
  have : (l.map f)[(i : Int).toNat]? = some (f x) := by rw [Int.toNat_natCast, List.getElem?_map, h]; rfl
  rw [this]
  simp only
  rw [if_pos (hs x)]
theorem indexAddrA_int {T : TT} {t e : Nat} {ti ei : TI} (ht : T t = some ti) (hk : ti.kind = .slice e) (he : T e = some ei) {α : Type} [Inhabited α] {f : α → AV} (hs : ∀ x, sizeA (f x) = some ei.size) {l : List α} {n : Int} (h0 : 0 ≤ n) (h : n < (l.length : Int)) :
    indexAddrA T t (.sl (l.map f)) (.int .i64 n) = some (.ip (acells (f l[n.toNat]!))) := by
  have hlt : n.toNat < l.length := by omega
  have := indexAddrA_map ht hk he hs (l := l) (i := n.toNat) (x := l[n.toNat]!) (by rw [List.getElem!_eq_getElem?_getD, List.getElem?_eq_getElem hlt]; rfl)
  rw [show ((n.toNat : Nat) : Int) = n by omega] at this
  exact this
theorem appA_map {T : TT} {t e : Nat} {ti ei : TI} (ht : T t = some ti) (hk : ti.kind = .slice e) (he : T e = some ei) {α : Type} {f : α → AV} (hs : ∀ x, okEl ei.size (f x) = true) {a b : List α} (h : (a.length + b.length) * ei.bytes ≤ 140737488355328) (h0 : 0 < ei.bytes) :
    appA T t (.sl (a.map f)) (.sl (b.map f)) = some (.sl ((a ++ b).map f)) := by
  unfold appA
  rw [ht]
  simp only [hk, he, elsOf]
  rw [okSz_map hs, okSz_map hs]
  simp [h, h0, strOk]
end Go.Av.Ap

/- slices.SortFunc at elements of several cells, by its contract: what it computes, and from the contract to the evaluator's post. No condition. -/
namespace Go.Av
open Go.RowKit Go.Sort Go.Proofs
section
variable [Dr]
theorem Left.grew (hd : Dr.on) {S S' : Stab} {β β' : List Blk} {w w' : World} {h' : Hp} (L : Left (HOwn [] []) S β w S' β' w' h') : ∃ q os, w' = grow (w.drewN q) os := by
  have hg := L.gro
  have hd := hg.cnt hd
  have hk : ∀ b, b < w.heap.size → w'.heap[b]? = w.heap[b]? := fun b hb => (L.keep b hb (by rintro ⟨l, _, _, h1, _⟩; simp at h1)).1
  refine ⟨w'.drawn - w.drawn, w'.heap.extract w.heap.size w'.heap.size, ?_⟩
  have e1 : w.heap ++ w'.heap.extract w.heap.size w'.heap.size = w'.heap := by
    apply Array.ext_getElem?
    intro i
    by_cases hi : i < w.heap.size
    · rw [Array.getElem?_append_left hi, hk i hi]
    · rw [Array.getElem?_append_right (by omega), Array.getElem?_extract]
      split
      · rw [show w.heap.size + (i - w.heap.size) = i by omega]
      · rw [Array.getElem?_eq_none (by omega)]
  have e2 : w.drawn + (w'.drawn - w.drawn) = w'.drawn := by omega
  obtain ⟨h1, h2, h3, h4, h5⟩ := w'
  obtain ⟨g1, g2, g3, g4, g5⟩ := w
  have a1 := hg.os; have a2 := hg.out; have a3 := hg.tape
  simp only at a1 a2 a3 e1 e2
  unfold grow World.drewN
  simp only [e1, e2, a1, a2, a3]
end
theorem flatten_get {α β : Type} (f : α → List β) (k : Nat) (hk : ∀ x, (f x).length = k) (hp : 0 < k) : ∀ (l : List α) (t : Nat), (l.map f).flatten[t]? = (l[t / k]?).bind fun x => (f x)[t % k]?
  | [], t => by simp
  | x :: l, t => by
    simp only [List.map_cons, List.flatten_cons]
    by_cases h : t < k
    · rw [List.getElem?_append_left (by rw [hk]; exact h), Nat.div_eq_of_lt h, Nat.mod_eq_of_lt h]; simp
    · rw [List.getElem?_append_right (by rw [hk]; omega), hk, flatten_get f k hk hp l (t - k)]
      rw [Nat.div_eq_sub_div hp (by omega : k ≤ t), Nat.mod_eq_sub_mod (by omega : k ≤ t)]
      simp
theorem flatten_len {α β : Type} (f : α → List β) (k : Nat) (hk : ∀ x, (f x).length = k) : ∀ (l : List α), (l.map f).flatten.length = l.length * k
  | [] => by simp
  | x :: l => by simp only [List.map_cons, List.flatten_cons, List.length_append, hk, flatten_len f k hk l, List.length_cons, Nat.succ_mul]; omega
section
variable {α : Type} [Inhabited α]
theorem flatK_list (enc : α → List Value) (k : Nat) (hk : ∀ x, (enc x).length = k) (hp : 0 < k) (d : Array α) : (flatK enc k d).toList = (d.toList.map enc).flatten := by
  apply List.ext_getElem?
  intro t
  rw [flatten_get enc k hk hp]
  by_cases ht : t < d.size * k
  · have hd : t / k < d.size := by rw [Nat.div_lt_iff_lt_mul hp]; exact ht
    have hm : t % k < k := Nat.mod_lt _ hp
    have h1 := get_flatK enc k d t ht
    rw [getElem!_pos (flatK enc k d) t (by rw [size_flatK]; exact ht), getElem!_pos d _ hd, getElem!_pos (enc _) _ (by rw [hk]; exact hm)] at h1
    rw [List.getElem?_eq_getElem (by simpa using ht), Array.getElem_toList, h1, Array.getElem?_toList, Array.getElem?_eq_getElem hd]
    simp only [Option.bind_some]
    rw [List.getElem?_eq_getElem (by rw [hk]; exact hm)]
  · rw [List.getElem?_eq_none (by simp only [Array.length_toList, size_flatK]; omega), List.getElem?_eq_none (by simp only [Array.length_toList]; rw [Nat.le_div_iff_mul_le hp]; omega)]
    rfl
theorem putCells_list (F x : Array Value) (off : Nat) (hf : off + F.size ≤ x.size) : putCells id off F x = (x.toList.take off ++ F.toList ++ x.toList.drop (off + F.size)).toArray := by
  apply Array.ext_getElem?
  intro t
  unfold putCells
  simp only [Array.getElem?_mapIdx, List.getElem?_toArray]
  by_cases h1 : t < off
  · rw [List.getElem?_append_left (by simp; omega), List.getElem?_append_left (by simp; omega), List.getElem?_take, if_pos h1, Array.getElem?_toList, Array.getElem?_eq_getElem (by omega)]
    simp only [Option.map_some]
    rw [if_neg (by omega)]
  · by_cases h2 : t < off + F.size
    · rw [List.getElem?_append_left (by simp; omega), List.getElem?_append_right (by simp; omega)]
      have e : (x.toList.take off).length = off := by simp; omega
      rw [e, Array.getElem?_eq_getElem (by omega : t < x.size), Array.getElem?_toList, Array.getElem?_eq_getElem (by omega : t - off < F.size)]
      simp only [Option.map_some, id]
      rw [if_pos ⟨by omega, h2⟩, getElem!_pos F _ (by omega)]
    · have e : (x.toList.take off ++ F.toList).length = off + F.size := by simp; omega
      rw [List.getElem?_append_right (by rw [e]; omega), e, List.getElem?_drop, Array.getElem?_toList, show off + F.size + (t - (off + F.size)) = t by omega]
      cases x[t]? with
      | none => rfl
      | some y => simp only [Option.map_some]; rw [if_neg (by omega)]
theorem sort_row {w : World} {b : Nat} {x : Array Value} (hr : Row w b x) (enc : α → List Value) (k off n : Nat) (d : Array α) (os : Array Obj) (hf : off + d.size * k ≤ x.size) :
    Row (sortWorldK enc k w b off n d os) b (x.toList.take off ++ (flatK enc k d).toList ++ x.toList.drop (off + (flatK enc k d).size)).toArray := by
  have hlt := hr.lt
  obtain ⟨e, he⟩ := hr
  refine ⟨e, ?_⟩
  rw [← putCells_list (flatK enc k d) x off (by rw [size_flatK]; exact hf)]
  show ((w.heap.modify b (onCells (putCells id off (flatK enc k d)))) ++ os)[b]? = _
  rw [Array.getElem?_append_left (by simpa using hlt), Array.getElem?_modify, if_pos rfl, he]
  rfl
theorem sort_other {w : World} {b b' : Nat} (enc : α → List Value) (k off n : Nat) (d : Array α) (os : Array Obj) (hlt : b' < w.heap.size) (hb : b' ≠ b) : (sortWorldK enc k w b off n d os).heap[b']? = w.heap[b']? := by
  show ((w.heap.modify b (onCells (putCells id off (flatK enc k d)))) ++ os)[b']? = _
  rw [Array.getElem?_append_left (by simpa using hlt), Array.getElem?_modify, if_neg (fun h => hb h.symm)]
theorem sort_gro [Dr] {w : World} {b : Nat} (enc : α → List Value) (k off n : Nat) (d : Array α) (os : Array Obj) : Gro w (sortWorldK enc k w b off n d os) := by
  refine ⟨?_, rfl, rfl, rfl, fun _ => ?_⟩
  · show _ ≤ ((w.heap.modify b (onCells (putCells id off (flatK enc k d)))) ++ os).size
    simp
  · show w.drawn ≤ w.drawn + n
    omega
end
section
variable [Dr] {S : Stab} {β : List Blk} {h : Hp} {w w' : World}
theorem left_row (hw : Wf S w) (hh : HeapX S β w h) {l b nb off : Nat} {cs acs : List AV} {vs : List Value} (hcs : h[l]? = some cs) (hne : cs ≠ []) (hb : β[l]? = some (b, nb)) (hb0 : nb ≠ 0) (hvs : VRs S β acs vs) (hle : off + acs.length ≤ cs.length) (hoc : cs.all okCell = true) (hoa : acs.all okCell = true) (hg : Gro w w')
    (hr : ∀ x, Row w b x → cs.length ≤ x.size → Row w' b (x.toList.take off ++ vs ++ x.toList.drop (off + vs.length)).toArray) (ho : ∀ b', b' < w.heap.size → b' ≠ b → w'.heap[b']? = w.heap[b']?) :
    Left (HOwn β h) S β w S β w' (h.set l (setCells cs off acs)) := by
  obtain ⟨hlen, ω, hH⟩ := hh
  obtain ⟨z, j1, j2, j3, j4, j5⟩ := HeapR.cells hH hcs hne hb hb0
  rw [hb] at j1; cases j1
  have hvl := hvs.length
  have hzs : cs.length ≤ z.size := by
    have := j4.length
    simp at this
    omega
  have hrow := hr z j2 hzs
  have hll : l < h.length := by
    rcases Nat.lt_or_ge l h.length with k | k
    · exact k
    · rw [List.getElem?_eq_none k] at hcs; cases hcs
  have hown : ∀ b', HOwn β (h.set l (setCells cs off acs)) b' → HOwn β h b' := by
    rintro b' ⟨l', cs', n, k1, k2, k3⟩
    by_cases hl : l' = l
    · subst hl
      exact ⟨l', cs, n, hcs, hne, k3⟩
    · rw [List.getElem?_set_ne (fun e => hl e.symm)] at k1
      exact ⟨l', cs', n, k1, k2, k3⟩
  refine ⟨Stab.le_refl S, Ext.refl β, fun b' o v hv => ?_, hg, fun b' hb' hE => ?_, ⟨by simpa using hlen, ω, HeapR.rows hH (Stab.le_refl S) (Ext.refl β) hlen fun l' cs' hl' hne' => ?_⟩, fun b' hb' => .inl (hown b' hb')⟩
  · have hne2 : b' ≠ b := by rintro rfl; rw [j5] at hv; cases hv
    rw [cell_of_heap (ho b' (hw.lt hv) hne2)]
    exact hw b' o v hv
  · have hne2 : b' ≠ b := by rintro rfl; exact hE ⟨l, cs, _, hcs, hne, hb⟩
    exact ⟨ho b' hb' hne2, fun _ => rfl⟩
  · by_cases hl : l' = l
    · subst hl
      rw [List.getElem?_set_self hll] at hl'
      cases hl'
      refine .inr ⟨b, _, ?_, hrow, j3, ?_, j5, fun t ht => ?_⟩
      · rw [hb]; simp; omega
      · rw [setCells_length _ _ _ (by omega)]
        have hsp : VRs S β (setCells cs off acs) (((z.toList.take cs.length).take off ++ vs ++ (z.toList.take cs.length).drop (off + vs.length))) := by
          unfold setCells
          rw [hvl]
          exact ((j4.take off).append hvs).append (j4.drop _)
        have heq : (z.toList.take off ++ vs ++ z.toList.drop (off + vs.length)).take cs.length =
            (z.toList.take cs.length).take off ++ vs ++ (z.toList.take cs.length).drop (off + vs.length) := by
          rw [List.take_append, List.take_append]
          have e1 : (z.toList.take off).length = off := by simp; omega
          rw [List.take_take, List.take_take]
          have e2 : min cs.length off = off := by omega
          have e3 : min off cs.length = off := by omega
          rw [e2, e3, e1]
          have e4 : vs.take (cs.length - off) = vs := List.take_of_length_le (by omega)
          rw [e4]
          congr 1
          rw [List.take_drop, List.length_append, e1]
          congr 2
          omega
        show VRs S β _ (List.take _ _)
        rw [show (z.toList.take off ++ vs ++ z.toList.drop (off + vs.length)).toArray.toList = (z.toList.take off ++ vs ++ z.toList.drop (off + vs.length)) from rfl, heq]
        exact hsp
      · rcases ht.setCells with g | g
        · exact absurd g (nob_cells hoc t)
        · exact absurd g (nob_cells hoa t)
    · rw [List.getElem?_set_ne (fun e => hl e.symm)] at hl'
      refine .inl ⟨hl', fun b2 hlt hω => ⟨hω, ho b2 hlt ?_, fun o => id⟩⟩
      rintro rfl
      rw [j3] at hω
      cases hω
      exact hl rfl
end
structure Els (α : Type) where
  k : Nat
  ea : α → List AV
  ev : α → List Value
  dec : List AV → Option (List α)
structure ElsOK {α : Type} (X : Els α) : Prop where
  pos : 0 < X.k
  la : ∀ x, (X.ea x).length = X.k
  lv : ∀ x, (X.ev x).length = X.k
  one : ∀ x, ∀ v ∈ X.ev x, v.oneCell' = true
  vr : ∀ (S : Stab) (β : List Blk) (x : α), VRs S β (X.ea x) (X.ev x)
  rv : ∀ (S : Stab) (β : List Blk) (x : α) (vs : List Value), VRs S β (X.ea x) vs → vs = X.ev x
  dec : ∀ cs l, X.dec cs = some l → cs = (l.map X.ea).flatten
theorem ElsOK.flat {α : Type} {X : Els α} (hX : ElsOK X) (S : Stab) (β : List Blk) : ∀ l : List α, VRs S β (l.map X.ea).flatten (l.map X.ev).flatten
  | [] => by simp [VRs]
  | x :: l => by simp only [List.map_cons, List.flatten_cons]; exact (hX.vr S β x).append (hX.flat S β l)
theorem VRs.split {S : Stab} {β : List Blk} : {ps qs : List AV} → {vs : List Value} → VRs S β (ps ++ qs) vs → ∃ u v, vs = u ++ v ∧ VRs S β ps u ∧ VRs S β qs v
  | [], _, vs, h => ⟨[], vs, rfl, by simp [VRs], h⟩
  | _ :: ps, qs, vs, h => by
    simp only [List.cons_append, VRs] at h
    obtain ⟨x, xs, rfl, h1, h2⟩ := h
    obtain ⟨u, v, rfl, h3, h4⟩ := VRs.split h2
    exact ⟨x :: u, v, rfl, by simp only [VRs]; exact ⟨x, u, rfl, h1, h3⟩, h4⟩
theorem ElsOK.unflat {α : Type} {X : Els α} (hX : ElsOK X) {S : Stab} {β : List Blk} : ∀ (l : List α) (vs : List Value), VRs S β (l.map X.ea).flatten vs → vs = (l.map X.ev).flatten
  | [], vs, h => by simpa [VRs] using h
  | x :: l, vs, h => by
    simp only [List.map_cons, List.flatten_cons] at h ⊢
    obtain ⟨u, v, rfl, h1, h2⟩ := VRs.split h
    rw [hX.rv S β x u h1, hX.unflat l v h2]
def sortE {α : Type} (X : Els α) (g : Nat) (srt : List α → List α) : (FuncId → List AV → M AV) → List AV → M AV := fun _ args h => match args with
  | [.sl [], .fn (.func g') [] []] => bif Nat.beq g' g then .ok (.tup []) h else .fail
  | [.hs l off len sz _, .fn (.func g') [] []] => match h[l]? with
    | none => .fail
    | some cs => match X.dec ((cs.drop off).take (len * X.k)) with
      | none => .fail
      | some xs => bif Nat.beq g' g && Nat.beq sz X.k && decide (0 < len) && decide (off + len * X.k ≤ cs.length) && decide (xs.length = len) && decide (len < 4611686018427387904) && decide ((srt xs).length = len) && cs.all okCell && ((srt xs).map X.ea).flatten.all okCell
          then .ok (.tup []) (h.set l (setCells cs off ((srt xs).map X.ea).flatten)) else .fail
  | _ => .fail
section
variable [Dr] {α : Type} [Inhabited α] {P : Program}
theorem sort_hs {X : Els α} (hX : ElsOK X) {f g : Nat} {srt : List α → List α} (call : FuncId → List AV → M AV)
    (hcal : ∀ (w : World) (blk off cap : Nat) (d : Array α), GOKw w → gN ≤ blk → HoldsK X.ev X.k w blk off d → blk < w.heap.size → d.size < 4611686018427387904 →
      Calls P f #[.slice (some ⟨blk, off, none⟩) d.size cap, .func (.func g) #[] #[]] w fun e w' => e = .returned (.tuple #[]) ∧ ∃ n os, w' = sortWorldK X.ev X.k w blk off n (srt d.toList).toArray os)
    {l off len sz g' : Nat} {ag : Bool} {h : Hp} {S : Stab} {β : List Blk} {w : World} {vs : List Value} (hr : sortE X g srt call [.hs l off len sz ag, .fn (.func g') [] []] h ≠ .fail) (hg : GOK β h w) (hw : Wf S w) (hh : HeapX S β w h)
    (hv : VRs S β [.hs l off len sz ag, .fn (.func g') [] []] vs) : Calls P f vs.toArray w (CPost none S β h w (sortE X g srt call [.hs l off len sz ag, .fn (.func g') [] []] h)) := by
  unfold sortE at hr ⊢
  simp only at hr ⊢
  cases hl : h[l]? with
  | none => rw [hl] at hr; exact absurd rfl hr
  | some cs =>
    rw [hl] at hr
    simp only at hr ⊢
    cases hd : X.dec ((cs.drop off).take (len * X.k)) with
    | none => rw [hd] at hr; exact absurd rfl hr
    | some xs =>
      rw [hd] at hr
      simp only at hr ⊢
      cases hc : (Nat.beq g' g && Nat.beq sz X.k && decide (0 < len) && decide (off + len * X.k ≤ cs.length) && decide (xs.length = len) && decide (len < 4611686018427387904) && decide ((srt xs).length = len) && cs.all okCell && ((srt xs).map X.ea).flatten.all okCell) with
      | false => rw [hc] at hr; exact absurd rfl hr
      | true =>
        simp only [Bool.and_eq_true, decide_eq_true_eq] at hc
        obtain ⟨⟨⟨⟨⟨⟨⟨⟨c1, c2⟩, c3⟩, c4⟩, c5⟩, c6⟩, c7⟩, c8⟩, c9⟩ := hc
        obtain rfl := Nat.eq_of_beq_eq_true c1
        obtain rfl := Nat.eq_of_beq_eq_true c2
        simp only [cond_true]
        have hpos := hX.pos
        have hlk : 0 < len * X.k := Nat.mul_pos c3 hpos
        have hne : cs ≠ [] := by rintro rfl; simp at c4; omega
        simp only [VRs] at hv
        obtain ⟨v1, r1, rfl, hv1, v2, r2, rfl, hv2, rfl⟩ := hv
        obtain ⟨⟨b, nb⟩, cap, hb, hb0, rfl, k1, k2⟩ := hv1.hs_pos c3
        simp only [VR, VRs] at hv2
        obtain ⟨y1, y2, rfl, rfl, rfl⟩ := hv2
        have hh' := hh
        obtain ⟨hlen, ω, hH⟩ := hh
        obtain ⟨z, j1, j2, j3, j4, j5⟩ := HeapR.cells hH hl hne hb hb0
        rw [hb] at j1; cases j1
        have hzs : cs.length ≤ z.size := by
          have := j4.length
          simp at this
          omega
        have hown : HOwn β h b := ⟨l, cs, _, hl, hne, hb⟩
        have hgb : gN ≤ b := by
          rcases Nat.lt_or_ge b gN with k | k
          · exact absurd hown (hg.2 b k)
          · exact k
        have hxs := hX.dec _ _ hd
        have hvx := hX.unflat (S := S) (β := β) xs _ (by rw [← hxs]; exact (j4.drop off).take (len * X.k))
        have hflat := flatK_list X.ev X.k hX.lv hpos xs.toArray
        have hsz : (flatK X.ev X.k xs.toArray).size = len * X.k := by rw [size_flatK]; simp [c5]
        have hholds : HoldsK X.ev X.k w b off xs.toArray := by
          intro j hj
          rw [hsz] at hj
          have e1 : (flatK X.ev X.k xs.toArray)[j]! = z[off + j]'(by omega) := by
            have h1 : (flatK X.ev X.k xs.toArray).toList[j]? = z.toList[off + j]? := by
              rw [hflat, show xs.toArray.toList = xs from rfl, ← hvx, List.getElem?_take, if_pos hj, List.getElem?_drop, List.getElem?_take, if_pos (by omega)]
            rw [Array.getElem?_toList, Array.getElem?_toList, Array.getElem?_eq_getElem (by omega), Array.getElem?_eq_getElem (by omega)] at h1
            rw [getElem!_pos _ j (by omega)]
            exact Option.some.inj h1
          rw [e1]
          refine ⟨by rw [j2.cell, Array.getElem?_eq_getElem (by omega)]; rfl, ?_⟩
          obtain ⟨e, he⟩ := j2
          simp [World.frozen?, he]
        have hcall := hcal w b off cap xs.toArray hg.1 hgb hholds j2.lt (by simpa [c5] using c6)
        rw [show xs.toArray.size = len by simp [c5]] at hcall
        refine hcall.mono ?_
        rintro e w' ⟨rfl, n, os, rfl⟩
        have hfl2 := flatK_list X.ev X.k hX.lv hpos (srt xs).toArray
        have hs2 : (flatK X.ev X.k (srt xs).toArray).size = len * X.k := by rw [size_flatK]; simp [c7]
        have hal : ((srt xs).map X.ea).flatten.length = len * X.k := by rw [flatten_len X.ea X.k hX.la, c7]
        refine ⟨S, β, _, rfl, by simp only [VR, VRs]; exact ⟨[], rfl, rfl⟩, left_row (vs := (flatK X.ev X.k (srt xs).toArray).toList) hw hh' hl hne hb hb0 (by rw [hfl2]; exact hX.flat S β (srt xs)) (by rw [hal]; exact c4) c8 c9 (sort_gro X.ev X.k off n _ os) (fun x hx hle => ?_) (fun b' hlt hne2 => sort_other X.ev X.k off n _ os hlt hne2), fun _ hsz => by cases hsz⟩
        have := sort_row hx X.ev X.k off n (srt xs).toArray os (by simp only [List.size_toArray, c7]; omega)
        exact this
end
end Go.Av

/- References, the index of a program, references in order: plain functions, and what the evaluator knows of the functions that compute them. No condition. -/
namespace Go.Av.Ap
open Go Go.Av
abbrev Ref := Str × Str
def refA (r : Ref) : AV := .agg [.str r.1, .str r.2]
def refsA (l : List Ref) : AV := .sl (l.map refA)
def refssA (l : List (List Ref)) : AV := .sl (l.map refsA)
@[simp] theorem acells_ref (r : Ref) : acells (refA r) = [.str r.1, .str r.2] := rfl
@[simp] theorem fold_ref (r : Ref) : AV.agg [.str r.1, .str r.2] = refA r := rfl
@[simp] theorem okEl_ref (r : Ref) : okEl 2 (refA r) = true := rfl
@[simp] theorem okSz_refs (l : List Ref) : okSz 2 (l.map refA) = true := okSz_map okEl_ref l
@[simp] theorem cl_ref (g : Nat → Nat → Nat → Nat → Bool → AV) (r : Ref) : cl g (refA r) = refA r := rfl
@[simp] theorem cl_refs (g : Nat → Nat → Nat → Nat → Bool → AV) (l : List Ref) : cl g (refsA l) = refsA l := by simp [refsA, cl, cls_map g refA (cl_ref g)]
@[simp] theorem cl_refss (g : Nat → Nat → Nat → Nat → Bool → AV) (l : List (List Ref)) : cl g (refssA l) = refssA l := by simp [refssA, cl, cls_map g refsA (cl_refs g)]
section
variable {V : Type}
def putK : List (Ref × V) → Ref → V → List (Ref × V)
  | [], k, v => [(k, v)]
  | x :: r, k, v => if x.1 = k then (k, v) :: r else x :: putK r k v
def getK : List (Ref × V) → Ref → Option V
  | [], _ => none
  | x :: r, k => if x.1 = k then some x.2 else getK r k
def entA (f : V → AV) (x : Ref × V) : AV := .tup [refA x.1, f x.2]
def idxF (m : Str) (l : List (Str × V)) (out : List (Ref × V)) : List (Ref × V) := l.foldr (fun f o => putK o (m, f.1) f.2) out
def idxG : List (Str × List (Str × V)) → List Str → List (Ref × V) → List (Ref × V)
  | [], _, out => out
  | m :: ms, seen, out => if m.1 ∈ seen then idxG ms seen out else idxG ms (seen ++ [m.1]) (idxF m.1 m.2 out)
end
def funP : AV → Option (Str × AV)
  | .agg [.str s, .bool p, .sl l, .int .i64 k, .sl fs, .int .i64 e, .int .i64 o, .int .i64 n, .str a, .str b, .sl ns, .sl es] => some (s, .agg [.str s, .bool p, .sl l, .int .i64 k, .sl fs, .int .i64 e, .int .i64 o, .int .i64 n, .str a, .str b, .sl ns, .sl es])
  | _ => none
def modP : AV → Option (Str × List (Str × AV))
  | .agg [.str s, .sl _, .sl _, .sl _, .sl fs, .bool _, .sl _, .sl _, .sl _] => (fs.mapM funP).map fun l => (s, l)
  | _ => none
def indexE : (FuncId → List AV → M AV) → List AV → M AV := fun _ args h => match args with
  | [.sl ms] => (match ms.mapM modP with
    | some l => if l.length ≤ 1000000 ∧ ∀ m ∈ l, m.2.length ≤ 1000000 then .ok (.mp h.length) (h ++ [[.tup ((idxG l [] []).map (entA id))]]) else .fail
    | none => .fail)
  | _ => .fail
def ltR (a b : Ref) : Bool := strLess a.1 b.1 || (a.1 == b.1 && strLess a.2 b.2)
def leR (a b : Ref) : Bool := !(ltR b a)
def insLe (x : Ref) : List Ref → List Ref
  | [] => [x]
  | y :: l => if leR x y = true then x :: y :: l else y :: insLe x l
def sortR : List Ref → List Ref
  | [] => []
  | x :: l => insLe x (sortR l)
def keyR : AV → Option Ref
  | .tup [.agg [.str a, .str b], _] => some (a, b)
  | _ => none
def sortedE (gs : List Nat) (o : Nat) : (FuncId → List AV → M AV) → List AV → M AV := fun _ args h => match args with
  | [.fn (.func g) [] [.ip [x]], .fn (.func o') [] []] => bif memN gs g && Nat.beq o o' then
      (match entsA h x with
      | some es => (match es.mapM keyR with
        | some ks => if ks.length ≤ 1000000 then .ok (refsA (sortR ks)) h else .fail
        | none => .fail)
      | none => .fail) else .fail
  | _ => .fail
def cmpR (x y : Ref) : Int := if ltR x y = true then -1 else if ltR y x = true then 1 else 0
def decRef : List AV → Option (List Ref)
  | [] => some []
  | .str a :: .str b :: r => match decRef r with
    | some l => some ((a, b) :: l)
    | none => none
  | _ => none
def strV (s : Str) : Value := .string ⟨s.toArray⟩
def eaRef (r : Ref) : List AV := [.str r.1, .str r.2]
def evRef (r : Ref) : List Value := [strV r.1, strV r.2]
def elsRef : Els Ref := ⟨2, eaRef, evRef, decRef⟩
theorem str_eq {x : ByteArray} {s : Str} (h : x.data.toList = s) : Value.string x = strV s := by
  unfold strV
  congr 1
  exact ByteArray.ext (Array.ext' (by rw [h]))
theorem decRef_eq : ∀ (cs : List AV) (l : List Ref), decRef cs = some l → cs = (l.map eaRef).flatten := by
  intro cs
  fun_induction decRef cs with
  | case1 => intro l h; cases h; rfl
  | case2 a b r l' h ih =>
    intro l hl
    simp only [Option.some.injEq] at hl
    subst hl
    rw [ih l' h]
    rfl
  | case3 a b r h ih => intro l hl; cases hl
  | case4 => intro l hl; cases hl
theorem decRef_map (l : List Ref) : decRef (l.map eaRef).flatten = some l := by
  induction l with
  | nil => rfl
  | cons x l ih =>
    simp only [List.map_cons, List.flatten_cons, eaRef, List.cons_append, List.nil_append, decRef]
    rw [show (l.map eaRef).flatten = (l.map fun r : Ref => _).flatten from rfl] at ih
    rw [ih]
theorem elsRef_ok : ElsOK elsRef where
  pos := by decide
  la := fun _ => rfl
  lv := fun _ => rfl
  one := fun x v hv => by
    simp only [elsRef, evRef, List.mem_cons, List.not_mem_nil, or_false] at hv
    rcases hv with rfl | rfl <;> rfl
  vr := fun S β x => by
    simp only [elsRef, eaRef, evRef, VRs, VR, strV]
    exact ⟨_, _, rfl, ⟨_, rfl, by simp⟩, _, _, rfl, ⟨_, rfl, by simp⟩, rfl⟩
  rv := fun S β x vs h => by
    simp only [elsRef, eaRef, VRs, VR] at h
    obtain ⟨_, _, rfl, ⟨a, rfl, ha⟩, _, _, rfl, ⟨b, rfl, hb⟩, rfl⟩ := h
    simp only [elsRef, evRef, str_eq ha, str_eq hb]
  dec := decRef_eq
open Go.RowKit Go.Sort Go.Proofs in
def srtRef (l : List Ref) : List Ref := (pdq (ltOf cmpR) l.toArray 0 l.toArray.size (Lib.bitLen l.toArray.size) true true).toList
def sortRefE (o : Nat) : (FuncId → List AV → M AV) → List AV → M AV := fun call args h => match args with
  | [.hn, .fn (.func o') [] []] => bif Nat.beq o' o then .ok (.tup []) h else .fail
  | args => sortE elsRef o srtRef call args h
theorem strLess_irr : ∀ s : Str, strLess s s = false
  | [] => rfl
  | a :: x => by simp [strLess, strLess_irr x]
theorem strLess_tr : ∀ a b c : Str, strLess a b = true → strLess b c = true → strLess a c = true
  | _, [], _, h, _ => by simp [strLess] at h
  | _, _ :: _, [], _, h => by simp [strLess] at h
  | [], _ :: _, _ :: _, _, _ => rfl
  | a :: x, b :: y, c :: z, h1, h2 => by
    simp only [strLess, Bool.or_eq_true, decide_eq_true_eq, Bool.and_eq_true, beq_iff_eq] at h1 h2 ⊢
    rcases h1 with h1 | ⟨rfl, h1⟩
    · rcases h2 with h2 | ⟨rfl, h2⟩
      · exact .inl (UInt8.lt_trans h1 h2)
      · exact .inl h1
    · rcases h2 with h2 | ⟨rfl, h2⟩
      · exact .inl h2
      · exact .inr ⟨rfl, strLess_tr x y z h1 h2⟩
theorem strLess_tot : ∀ a b : Str, strLess a b = false → a ≠ b → strLess b a = true
  | [], [], _, h => absurd rfl h
  | [], _ :: _, h, _ => by simp [strLess] at h
  | _ :: _, [], _, _ => rfl
  | a :: x, b :: y, h, hn => by
    simp only [strLess, Bool.or_eq_false_iff, decide_eq_false_iff_not, Bool.and_eq_false_iff, beq_eq_false_iff_ne, Bool.or_eq_true, decide_eq_true_eq, Bool.and_eq_true, beq_iff_eq] at h ⊢
    by_cases hab : a = b
    · subst hab
      rcases h.2 with h2 | h2
      · exact absurd rfl h2
      · exact .inr ⟨rfl, strLess_tot x y h2 (fun e => hn (by rw [e]))⟩
    · left
      have h1 := h.1
      rw [UInt8.not_lt] at h1
      exact UInt8.lt_of_le_of_ne h1 (fun e => hab e.symm)
theorem ltR_irr (a : Ref) : ltR a a = false := by simp [ltR, strLess_irr]
theorem ltR_tr {a b c : Ref} (h1 : ltR a b = true) (h2 : ltR b c = true) : ltR a c = true := by
  simp only [ltR, Bool.or_eq_true, Bool.and_eq_true, beq_iff_eq] at *
  rcases h1 with h1 | ⟨e1, h1⟩ <;> rcases h2 with h2 | ⟨e2, h2⟩
  · exact .inl (strLess_tr _ _ _ h1 h2)
  · exact .inl (by rw [← e2]; exact h1)
  · exact .inl (by rw [e1]; exact h2)
  · exact .inr ⟨by rw [e1, e2], strLess_tr _ _ _ h1 h2⟩
theorem ltR_tot {a b : Ref} (h : ltR a b = false) (hn : a ≠ b) : ltR b a = true := by
  simp only [ltR, Bool.or_eq_false_iff, Bool.and_eq_false_iff, beq_eq_false_iff_ne, Bool.or_eq_true, Bool.and_eq_true, beq_iff_eq] at *
  by_cases e : a.1 = b.1
  · rcases h.2 with h2 | h2
    · exact absurd e h2
    · exact .inr ⟨e.symm, strLess_tot _ _ h2 (fun e2 => hn (Prod.ext e e2))⟩
  · exact .inl (strLess_tot _ _ h.1 e)
theorem ltR_asym {a b : Ref} (h : ltR a b = true) : ltR b a = false := by
  cases hb : ltR b a with
  | false => rfl
  | true => have := ltR_tr h hb; rw [ltR_irr] at this; cases this
theorem leR_tr {a b c : Ref} (h1 : leR a b = true) (h2 : leR b c = true) : leR a c = true := by
  simp only [leR, Bool.not_eq_true'] at *
  cases h3 : ltR c a with
  | false => rfl
  | true =>
    by_cases e : b = c
    · subst e; rw [h3] at h1; cases h1
    · have := ltR_tot h2 (fun e' => e e'.symm)
      have := ltR_tr this h3
      rw [this] at h1; cases h1
theorem leR_tot (a b : Ref) : (leR a b || leR b a) = true := by
  simp only [leR, Bool.or_eq_true, Bool.not_eq_true']
  cases h : ltR b a with
  | false => exact .inl rfl
  | true => exact .inr (ltR_asym h)
theorem leR_anti {a b : Ref} (h1 : leR a b = true) (h2 : leR b a = true) : a = b := by
  simp only [leR, Bool.not_eq_true'] at *
  by_cases e : a = b
  · exact e
  · have := ltR_tot h2 e
    rw [this] at h1; cases h1
theorem insLe_perm (x : Ref) : ∀ l : List Ref, (insLe x l).Perm (x :: l)
  | [] => .refl _
  | y :: l => by
    simp only [insLe]
    split
    · exact .refl _
    · exact ((insLe_perm x l).cons y).trans (.swap x y l)
theorem sortR_perm : ∀ l : List Ref, (sortR l).Perm l
  | [] => .refl _
  | x :: l => (insLe_perm x (sortR l)).trans ((sortR_perm l).cons x)
theorem insLe_sorted (x : Ref) : ∀ l : List Ref, l.Pairwise (fun a b => leR a b = true) → (insLe x l).Pairwise fun a b => leR a b = true
  | [], _ => by simp [insLe]
  | y :: l, h => by
    obtain ⟨h1, h2⟩ := List.pairwise_cons.1 h
    simp only [insLe]
    split
    · rename_i hxy
      refine List.pairwise_cons.2 ⟨fun z hz => ?_, h⟩
      rcases List.mem_cons.1 hz with rfl | hz
      · exact hxy
      · exact leR_tr hxy (h1 z hz)
    · rename_i hxy
      refine List.pairwise_cons.2 ⟨fun z hz => ?_, insLe_sorted x l h2⟩
      rcases List.mem_cons.1 ((insLe_perm x l).mem_iff.1 hz) with rfl | hz
      · have := leR_tot y z
        rw [Bool.or_eq_true] at this
        exact this.resolve_right hxy
      · exact h1 z hz
theorem sortR_sorted : ∀ l : List Ref, (sortR l).Pairwise fun a b => leR a b = true
  | [] => .nil
  | x :: l => insLe_sorted x _ (sortR_sorted l)
theorem sorted_one {l l' : List Ref} (hp : l.Perm l') (h : l.Pairwise fun a b => leR a b = true) (h' : l'.Pairwise fun a b => leR a b = true) : l = l' :=
  hp.eq_of_pairwise (fun _ _ _ _ h1 h2 => leR_anti h1 h2) h h'
theorem sortR_of_perm {l l' : List Ref} (hp : l.Perm l') : sortR l = sortR l' :=
  sorted_one ((sortR_perm l).trans (hp.trans (sortR_perm l').symm)) (sortR_sorted l) (sortR_sorted l')
open Go.RowKit Go.Sort Go.Proofs in
theorem ltOf_cmpR (x y : Ref) : ltOf cmpR x y = ltR x y := by
  unfold ltOf cmpR
  cases h : ltR x y with
  | true => simp
  | false => cases h2 : ltR y x <;> simp
open Go.RowKit Go.Sort Go.Proofs in
theorem swoR : SWO (ltOf cmpR) where
  irrefl := fun x => by rw [ltOf_cmpR]; exact ltR_irr x
  trans := fun x y z h1 h2 => by rw [ltOf_cmpR] at *; exact ltR_tr h1 h2
  ntrans := fun x y z h1 h2 => by
    rw [ltOf_cmpR] at *
    have := leR_tr (a := z) (b := y) (c := x) (by simp [leR, h2]) (by simp [leR, h1])
    simpa [leR] using this
open Go.RowKit Go.Sort Go.Proofs in
theorem srtRef_ok (l : List Ref) : (srtRef l).Perm l ∧ (srtRef l).Pairwise (fun a b => leR a b = true) := by
  have h := pdq_sorts (ltOf cmpR) swoR l.toArray 0 l.toArray.size (Lib.bitLen l.toArray.size) true true (Nat.zero_le _) (Nat.le_refl _) (Or.inl rfl)
  obtain ⟨⟨hs, _, hp⟩, ho⟩ := h
  unfold srtRef
  generalize pdq (ltOf cmpR) l.toArray 0 l.toArray.size (Lib.bitLen l.toArray.size) true true = d at hs hp ho
  refine ⟨?_, ?_⟩
  · rw [← hs, Array.extract_size, hs, Array.extract_size] at hp
    exact hp
  · rw [List.pairwise_iff_getElem]
    intro i j hi hj hij
    simp only [Array.length_toList] at hi hj
    have := ho i j (Nat.zero_le _) hij (by omega)
    rw [getElem!_pos d i hi, getElem!_pos d j hj, ltOf_cmpR] at this
    simp only [Array.getElem_toList, leR, this]
    rfl
theorem srtRef_eq (l : List Ref) : srtRef l = sortR l := sorted_one ((srtRef_ok l).1.trans (sortR_perm l).symm) (srtRef_ok l).2 (sortR_sorted l)
theorem sortR_len (l : List Ref) : (sortR l).length = l.length := (sortR_perm l).length_eq
end Go.Av.Ap

/- From a contract to the evaluator's post. No condition. -/
namespace Go.Av
variable [Dr]
open Go.RowKit
section
variable {S : Stab} {β : List Blk} {h : Hp} {w w' : World}
omit [Dr] in
theorem HeapX.below (hh : HeapX S β w h) {S' : Stab} (hb : ∀ b, b < w.heap.size → w'.heap[b]? = w.heap[b]? ∧ ∀ o, S' b o = S b o) (hle : S.le S') : HeapX S' β w' h := by
  obtain ⟨hlen, ω, hr⟩ := hh
  exact ⟨hlen, ω, hr.rows hle (Ext.refl β) hlen fun l cs hl _ => .inl ⟨hl, fun b hlt ho => ⟨ho, (hb b hlt).1, fun o h => by rw [(hb b hlt).2]; exact h⟩⟩⟩
theorem left_below (hw : Wf S w) (hh : HeapX S β w h) (hb : Below w.heap.size w w') (hd : Dr.on → w.drawn ≤ w'.drawn) {S' : Stab} (hS : ∀ b, b < w.heap.size → ∀ o, S' b o = S b o) (hnew : ∀ b o v, w.heap.size ≤ b → S' b o = some v → w'.cell? ⟨b, o, none⟩ = some v) :
    Left (HOwn β h) S β w S' β w' h := by
  have hle : S.le S' := fun b o v hv => by rw [hS b (hw.lt hv)]; exact hv
  refine ⟨hle, Ext.refl β, fun b o v hv => ?_, ⟨hb.size, hb.os, hb.output, hb.tape, hd⟩, fun b hlt _ => ⟨hb.block b hlt, hS b hlt⟩, hh.below (fun b hlt => ⟨hb.block b hlt, hS b hlt⟩) hle, fun b hb => .inl hb⟩
  rcases Nat.lt_or_ge b w.heap.size with hlt | hge
  · rw [hS b hlt] at hv
    rw [cell_of_heap (hb.block b hlt)]
    exact hw b o v hv
  · exact hnew b o v hge hv
theorem cpost_below (hw : Wf S w) (hh : HeapX S β w h) (hb : Below w.heap.size w w') (hd : Dr.on → w.drawn ≤ w'.drawn) {r : AV} {v : Value} (hv : VR S β r v) : CPost none S β h w (.ok r h) (.returned v) w' :=
  ⟨S, β, v, rfl, hv, left_below hw hh hb hd (fun _ _ _ => rfl) (fun b o v hge hv => by have := hw.lt hv; omega), fun sz hsz => by cases hsz⟩
theorem cpost_row (hw : Wf S w) (hh : HeapX S β w h) (hb : Below w.heap.size w w') (hd : Dr.on → w.drawn ≤ w'.drawn) {n : Nat} {x : Array Value} (hr : Row w' n x) (hn : w.heap.size ≤ n) {r : AV} {v : Value} (hv : VR (S.withRowTo n x.size x) β r v) : CPost none S β h w (.ok r h) (.returned v) w' :=
  ⟨_, β, v, rfl, hv, left_below hw hh hb hd (fun b hlt o => by unfold Stab.withRowTo; rw [if_neg (by omega)]) (fun b o v hge hv => by
    by_cases hbn : b = n
    · subst hbn
      unfold Stab.withRowTo at hv
      rw [if_pos rfl] at hv
      split at hv
      · rw [hr.cell]; exact hv
      · cases hv
    · unfold Stab.withRowTo at hv
      rw [if_neg hbn] at hv
      have := hw.lt hv; omega), fun sz hsz => by cases hsz⟩
theorem left_map (hw : Wf S w) (hh : HeapX S β w h) (hb : Below w.heap.size w w') (hd : Dr.on → w.drawn ≤ w'.drawn) {bo : Nat} {es : List AV} (hbo : w.heap.size ≤ bo) (hm : MapAt S β w' bo es) :
    Left (HOwn β h) S β w S (β ++ [(bo, 0)]) w' (h ++ [[.tup es]]) := by
  have hext : Ext β (β ++ [(bo, 0)]) := fun l b hb => by rw [List.getElem?_append_left (List.getElem?_eq_some_iff.1 hb).1]; exact hb
  obtain ⟨hlen, ω, hr⟩ := hh
  have hω : ∀ b, b < w.heap.size → setO ω bo (.heap h.length) b = ω b := fun b hb => by
    unfold setO; rw [if_neg]; rintro rfl; omega
  refine ⟨Stab.le_refl S, hext, fun b o v hv => ?_, ⟨hb.size, hb.os, hb.output, hb.tape, hd⟩, fun b hlt _ => ⟨hb.block b hlt, fun _ => rfl⟩, ⟨by simp [hlen], setO ω bo (.heap h.length), fun l cs hl hne => ?_⟩, fun b hb => ?_⟩
  · rw [cell_of_heap (hb.block b (hw.lt hv))]
    exact hw b o v hv
  · rcases Nat.lt_or_ge l h.length with hlt | hge
    · rw [List.getElem?_append_left hlt] at hl
      rcases hr l cs hl hne with ⟨b, x, k1, k2, k3, k4, k5, k6⟩ | ⟨b, k1, k2, k3, k4⟩
      · have hbl := k2.lt
        exact .inl ⟨b, x, hext _ _ k1, k2.of_eq (hb.block b hbl), by rw [hω b hbl]; exact k3, k4.mono (Stab.le_refl S) hext, k5, fun t ht => by obtain ⟨y, hy⟩ := k6 t ht; exact ⟨y, (hb.block b hbl).trans hy⟩⟩
      · have hbl := k4.lt
        refine .inr ⟨b, hext _ _ k1, by rw [hω b hbl]; exact k2, k3, k4.keep (Stab.le_refl S) hext (hb.block b hbl) fun j b' es' hj he => ?_⟩
        have hjl : j < h.length := by rw [← hlen]; exact (List.getElem?_eq_some_iff.1 hj).1
        rw [List.getElem?_append_left hjl] at he
        obtain ⟨_, _, g1, _⟩ := hr.mapRow he hj
        exact ⟨he, hb.block b' (Array.getElem?_eq_some_iff.1 g1).1⟩
    · rw [List.getElem?_append_right hge] at hl
      have hlz : l = h.length := by
        have := (List.getElem?_eq_some_iff.1 hl).1
        simp at this
        omega
      subst hlz
      simp only [Nat.sub_self, List.getElem?_cons_zero, Option.some.injEq] at hl
      subst hl
      have hnew : (β ++ [(bo, 0)])[h.length]? = some (bo, 0) := by rw [← hlen]; simp
      obtain ⟨ents, clock, m1, m2, m3⟩ := hm
      exact .inr ⟨bo, hnew, by simp [setO], fun o => hw.none hbo o, .inl ⟨es, rfl, ents, clock, m1, m2.mono (Stab.le_refl S) hext, m3⟩⟩
  · obtain ⟨l, cs, n, k1, k2, k3⟩ := hb
    rcases Nat.lt_or_ge l h.length with hlt | hge
    · rw [List.getElem?_append_left hlt] at k1
      rw [List.getElem?_append_left (by rw [hlen]; exact hlt)] at k3
      exact .inl ⟨l, cs, n, k1, k2, k3⟩
    · have hl2 := (List.getElem?_eq_some_iff.1 k3).1
      simp at hl2
      have : l = β.length := by omega
      subst this
      simp at k3
      exact .inr (by rw [← k3.1]; exact hbo)
theorem cpost_map (hw : Wf S w) (hh : HeapX S β w h) (hb : Below w.heap.size w w') (hd : Dr.on → w.drawn ≤ w'.drawn) {bo : Nat} {es : List AV} (hbo : w.heap.size ≤ bo) (hm : MapAt S β w' bo es) :
    CPost none S β h w (.ok (.mp h.length) (h ++ [[.tup es]])) (.returned (.map (some bo))) w' :=
  ⟨S, β ++ [(bo, 0)], _, rfl, by simp only [VR]; exact ⟨(bo, 0), by rw [← hh.1]; simp, rfl, rfl⟩, left_map hw hh hb hd hbo hm, fun sz hsz => by cases hsz⟩
end
end Go.Av

/- Rules by which shallow programs are simplified. No condition. -/
namespace Go.Av
attribute [simp] bnd_pure bnd_some bnd_fail bnd_throw
@[simp] theorem condM_bool {α : Type} (b : Bool) (x y : M α) : condM (.bool b) x y = if b = true then x else y := by cases b <;> rfl
def gv (b w : Bool) (y : AV) : AV := bif b == w then y else .tup []
@[simp] theorem gv_ff (y : AV) : gv false false y = y := rfl
@[simp] theorem gv_tt (y : AV) : gv true true y = y := rfl
@[simp] theorem gv_ft (y : AV) : gv false true y = .tup [] := rfl
@[simp] theorem gv_tf (y : AV) : gv true false y = .tup [] := rfl
@[simp high] theorem guardM_pure1 (b w : Bool) (y : AV) : guardM (.bool b) w 1 (M.pure [y]) = M.pure [gv b w y] := by cases b <;> cases w <;> rfl
@[simp high] theorem guardM_gv (b w c w2 : Bool) (y : AV) : guardM (gv b w (.bool c)) w2 1 (M.pure [y]) = M.pure [gv b w (gv c w2 y)] := by cases b <;> cases w <;> cases c <;> cases w2 <;> rfl
@[simp high] theorem guardM_or (b w c e : Bool) : guardM (.bool b) w 1 (bnd (lft (pickA (gv b w (.bool c)) (.bool true) (gv b w (gv c false (.bool e))))) fun v => M.pure [v]) = M.pure [gv b w (.bool (c || e))] := by
  cases b <;> cases w <;> cases c <;> rfl
@[simp high] theorem guardM_and (b w c e : Bool) : guardM (.bool b) w 1 (bnd (lft (pickA (gv b w (.bool c)) (gv b w (gv c true (.bool e))) (.bool false))) fun v => M.pure [v]) = M.pure [gv b w (.bool (c && e))] := by
  cases b <;> cases w <;> cases c <;> rfl
@[simp high] theorem pickA_and (b c : Bool) : pickA (.bool b) (gv b true (.bool c)) (.bool false) = some (.bool (b && c)) := by cases b <;> rfl
@[simp high] theorem pickA_or (b c : Bool) : pickA (.bool b) (.bool true) (gv b false (.bool c)) = some (.bool (b || c)) := by cases b <;> rfl
@[simp] theorem guardM_skip1 (w : Bool) (n : Nat) (m : M (List AV)) : guardM (.bool !w) w n m = M.pure (List.replicate n (.tup [])) := by cases w <;> rfl
@[simp] theorem guardM_take1 (w : Bool) (n : Nat) (m : M (List AV)) : guardM (.bool w) w n m = m := by cases w <;> rfl
@[simp] theorem guardM_ft (n : Nat) (m : M (List AV)) : guardM (.bool false) true n m = M.pure (List.replicate n (.tup [])) := rfl
@[simp] theorem guardM_tf (n : Nat) (m : M (List AV)) : guardM (.bool true) false n m = M.pure (List.replicate n (.tup [])) := rfl
@[simp] theorem guardM_tup (w : Bool) (n : Nat) (m : M (List AV)) : guardM (.tup []) w n m = M.pure (List.replicate n (.tup [])) := rfl
@[simp] theorem pickA_true (x y : AV) : pickA (.bool true) x y = some x := rfl
@[simp] theorem pickA_false (x y : AV) : pickA (.bool false) x y = some y := rfl
@[simp] theorem nth_zero (x : AV) (l : List AV) : nth (x :: l) 0 = x := rfl
@[simp] theorem nth_succ (x : AV) (l : List AV) (n : Nat) : nth (x :: l) (n + 1) = nth l n := rfl
@[simp] theorem jn_def {α : Type} (k : List AV → M α) (m : (List AV → M α) → M α) : jn k m = m k := rfl
@[simp] theorem noPan_pure {α : Type} (a : α) : noPan (M.pure a) = M.pure a := rfl
@[simp] theorem unA_not (b : Bool) : unA .not (.bool b) = some (.bool !b) := rfl
@[simp] theorem extractA_tup (l : List AV) (i : Nat) : extractA (.tup l) i = l[i]? := rfl
@[simp] theorem mkIface_nil : True := trivial
@[simp] theorem nilChkA_hp (l k : Nat) : nilChkA (.hp l k) = some (.hp l k) := rfl
@[simp] theorem nilChkA_ip (cs : List AV) : nilChkA (.ip cs) = some (.ip cs) := rfl
@[simp] theorem acells_str (s : List UInt8) : acells (.str s) = [.str s] := rfl
@[simp] theorem acells_int (k : IntKind) (n : Int) : acells (.int k n) = [.int k n] := rfl
@[simp] theorem acells_agg (cs : List AV) : acells (.agg cs) = cs := rfl
@[simp] theorem bin_add (T : TT) (t : Nat) (a b : Int) : binA T .add t (.int .i64 a) (.int .i64 b) = some (.int .i64 (IntKind.i64.wrap (a + b))) := rfl
@[simp] theorem bin_sub (T : TT) (t : Nat) (a b : Int) : binA T .sub t (.int .i64 a) (.int .i64 b) = some (.int .i64 (IntKind.i64.wrap (a - b))) := rfl
@[simp] theorem bin_mul (T : TT) (t : Nat) (a b : Int) : binA T .mul t (.int .i64 a) (.int .i64 b) = some (.int .i64 (IntKind.i64.wrap (a * b))) := rfl
@[simp] theorem bin_lss (T : TT) (t : Nat) (a b : Int) : binA T .lss t (.int .i64 a) (.int .i64 b) = some (.bool (decide (a < b))) := rfl
@[simp] theorem bin_leq (T : TT) (t : Nat) (a b : Int) : binA T .leq t (.int .i64 a) (.int .i64 b) = some (.bool (decide (a ≤ b))) := rfl
@[simp] theorem bin_gtr (T : TT) (t : Nat) (a b : Int) : binA T .gtr t (.int .i64 a) (.int .i64 b) = some (.bool (decide (b < a))) := rfl
@[simp] theorem bin_geq (T : TT) (t : Nat) (a b : Int) : binA T .geq t (.int .i64 a) (.int .i64 b) = some (.bool (decide (b ≤ a))) := rfl
@[simp] theorem bin_eql (T : TT) (t : Nat) (a b : Int) : binA T .eql t (.int .i64 a) (.int .i64 b) = some (.bool (a == b)) := rfl
@[simp] theorem bin_neq (T : TT) (t : Nat) (a b : Int) : binA T .neq t (.int .i64 a) (.int .i64 b) = some (.bool (a != b)) := rfl
@[simp] theorem str_eql (T : TT) (t : Nat) (a b : List UInt8) : binA T .eql t (.str a) (.str b) = some (.bool (a == b)) := rfl
@[simp] theorem str_neq (T : TT) (t : Nat) (a b : List UInt8) : binA T .neq t (.str a) (.str b) = some (.bool !(a == b)) := rfl
@[simp] theorem str_lss (T : TT) (t : Nat) (a b : List UInt8) : binA T .lss t (.str a) (.str b) = some (.bool (strLess a b)) := rfl
@[simp] theorem str_geq (T : TT) (t : Nat) (a b : List UInt8) : binA T .geq t (.str a) (.str b) = some (.bool !(strLess a b)) := rfl
@[simp] theorem cellsM_of {n : Nat} {x : AV} (h : okEl n x = true) : cellsM n x = M.pure (.agg (acells x)) := by
  unfold cellsM cellsN
  rw [h]
  rfl
@[simp] theorem cellsNil_of {n : Nat} {x : AV} (h : okEl n x = true) : cellsNil n [] x = M.pure (.agg (acells x)) := by
  unfold cellsNil cellsN
  rw [h]
  rfl
@[simp] theorem minsA_one (b : Bool) (x : AV) : minsA b [x] = some x := by simp [minsA]
@[simp] theorem minsA_two (b : Bool) (a c : Int) : minsA b [.int .i64 a, .int .i64 c] = some (.int .i64 (if b = true then max a c else min a c)) := by
  cases b
  · simp only [minsA, minA, cond_false]
    congr 2
    simp only [Int.min_def]
    split <;> split <;> simp_all <;> omega
  · simp only [minsA, minA, cond_true]
    congr 2
    simp only [Int.max_def]
    split <;> split <;> simp_all <;> omega
theorem wrap_in {x : Int} (h1 : -9223372036854775808 ≤ x) (h2 : x ≤ 9223372036854775807) : IntKind.i64.wrap x = x := IntWalk.i64_in _ ⟨h1, h2⟩
namespace Ap
mutual
def Val.sz : Val → Nat
  | .mk _ _ ns vs => 1 + ns.length + valsSz vs
def valsSz : List Val → Nat
  | [] => 0
  | v :: vs => v.sz + valsSz vs
end
end Ap
end Go.Av
namespace Go.Av
end Go.Av
namespace Go.Av
@[simp] theorem natCast_beq (a b : Nat) : ((a : Int) == (b : Int)) = (a == b) := by rw [Bool.eq_iff_iff]; simp; omega
@[simp] theorem natCast_beq0 (a : Nat) : ((a : Int) == 0) = (a == 0) := by rw [Bool.eq_iff_iff]; simp
@[simp] theorem natCast_bne (a b : Nat) : ((a : Int) != (b : Int)) = (a != b) := by rw [Bool.eq_iff_iff]; simp; omega
end Go.Av
namespace Go.Av
end Go.Av
namespace Go.Av
open Ap
@[simp high] theorem cellsM_val (x : Val) : cellsM 4 (Val.av x) = M.pure (Val.av x) := by rw [cellsM_of (okEl_val x), acells_val, fold_val]
@[simp high] theorem cellsNil_val (x : Val) : cellsNil 4 [] (Val.av x) = M.pure (Val.av x) := by rw [cellsNil_of (okEl_val x), acells_val, fold_val]
@[simp high] theorem cellsM_exp (x : Exp) : cellsM 6 (Exp.av x) = M.pure (Exp.av x) := by rw [cellsM_of (okEl_exp x), acells_exp, fold_exp]
@[simp high] theorem cellsNil_exp (x : Exp) : cellsNil 6 [] (Exp.av x) = M.pure (Exp.av x) := by rw [cellsNil_of (okEl_exp x), acells_exp, fold_exp]
@[simp high] theorem cellsM_fld (x : Fld) : cellsM 3 (fldAv x) = M.pure (fldAv x) := by rw [cellsM_of (okEl_fld x), acells_fld, fold_fld]
@[simp high] theorem cellsNil_fld (x : Fld) : cellsNil 3 [] (fldAv x) = M.pure (fldAv x) := by rw [cellsNil_of (okEl_fld x), acells_fld, fold_fld]
@[simp high] theorem cellsM_fun (x : Fun) : cellsM 12 (Fun.av x) = M.pure (Fun.av x) := by rw [cellsM_of (okEl_fun x), acells_fun, fold_fun]
@[simp high] theorem cellsNil_fun (x : Fun) : cellsNil 12 [] (Fun.av x) = M.pure (Fun.av x) := by rw [cellsNil_of (okEl_fun x), acells_fun, fold_fun]
@[simp high] theorem cellsM_mod (x : Mod) : cellsM 9 (Mod.av x) = M.pure (Mod.av x) := by rw [cellsM_of (okEl_mod x), acells_mod, fold_mod]
@[simp high] theorem cellsNil_mod (x : Mod) : cellsNil 9 [] (Mod.av x) = M.pure (Mod.av x) := by rw [cellsNil_of (okEl_mod x), acells_mod, fold_mod]
@[simp high] theorem cellsM_vars (x : Vars) : cellsM 2 (Vars.av x) = M.pure (Vars.av x) := by rw [cellsM_of (okEl_vars x), acells_vars, fold_vars]
@[simp high] theorem cellsNil_vars (x : Vars) : cellsNil 2 [] (Vars.av x) = M.pure (Vars.av x) := by rw [cellsNil_of (okEl_vars x), acells_vars, fold_vars]
@[simp high] theorem cellsM_deed (x : Deed) : cellsM 3 (Deed.av x) = M.pure (Deed.av x) := by rw [cellsM_of (okEl_deed x), acells_deed, fold_deed]
@[simp high] theorem cellsNil_deed (x : Deed) : cellsNil 3 [] (Deed.av x) = M.pure (Deed.av x) := by rw [cellsNil_of (okEl_deed x), acells_deed, fold_deed]
@[simp high] theorem cellsM_call (x : Ap.Call) : cellsM 3 (Ap.Call.av x) = M.pure (Ap.Call.av x) := by rw [cellsM_of (okEl_call x), acells_call, fold_call]
@[simp high] theorem cellsNil_call (x : Ap.Call) : cellsNil 3 [] (Ap.Call.av x) = M.pure (Ap.Call.av x) := by rw [cellsNil_of (okEl_call x), acells_call, fold_call]
@[simp high] theorem cellsM_out (x : Ap.Out) : cellsM 8 (Ap.Out.av x) = M.pure (Ap.Out.av x) := by rw [cellsM_of (okEl_out x), acells_out, fold_out]
@[simp high] theorem cellsNil_out (x : Ap.Out) : cellsNil 8 [] (Ap.Out.av x) = M.pure (Ap.Out.av x) := by rw [cellsNil_of (okEl_out x), acells_out, fold_out]
@[simp] theorem okEl_ty (t : Ty) : okEl 2 t.av = true := by simp [okEl, okCell, flds]
@[simp high] theorem cellsM_ty (x : Ty) : cellsM 2 (Ty.av x) = M.pure (Ty.av x) := by rw [cellsM_of (okEl_ty x), acells_ty, fold_ty]
@[simp high] theorem cellsNil_ty (x : Ty) : cellsNil 2 [] (Ty.av x) = M.pure (Ty.av x) := by rw [cellsNil_of (okEl_ty x), acells_ty, fold_ty]
end Go.Av
namespace Go.Av
@[simp] theorem ite_pure_bool (c : Prop) [Decidable c] (a b : Bool) : (if c then (M.pure (.bool a) : M AV) else M.pure (.bool b)) = M.pure (.bool (if c then a else b)) := by split <;> rfl
@[simp] theorem ite_pure_int (c : Prop) [Decidable c] (a b : Int) : (if c then (M.pure (.int .i64 a) : M AV) else M.pure (.int .i64 b)) = M.pure (.int .i64 (if c then a else b)) := by split <;> rfl
end Go.Av

/- From a call of the evaluator to the form's words. Conditions: the program is good; the package variables hold what they are said to hold. -/
namespace Go.Av
variable [Dr]
open Go.RowKit Go.WideShapes Go.ChangeShapes
theorem Left.below {S S' : Stab} {β β' : List Blk} {w w' : World} {h' : Hp} (L : Left (HOwn [] []) S β w S' β' w' h') : Below w.heap.size w w' :=
  ⟨L.gro.os, L.gro.tape, L.gro.out, L.gro.size, fun k hk => (L.keep k hk (by rintro ⟨l, _, _, h1, _⟩; simp at h1)).1⟩
def allS (W : World) : Stab := fun b o => W.cell? ⟨b, o, none⟩
omit [Dr] in
theorem allS_wf (W : World) : Wf (allS W) W := fun _ _ _ h => h
omit [Dr] in
theorem gok_start {W : World} (h : GOKw W) : GOK [] [] W := ⟨h, fun b _ ho => by obtain ⟨l, _, _, h1, _⟩ := ho; simp at h1⟩
theorem law_calls {P : Program} {p : Pg} (G : GoodPg P p) (hO : OtherLim p) {f : FuncId} {args : List AV} {vs : List Value} {W : World} (hg : GOKw W) (hv : VRs (allS W) [] args vs)
    (ht : callW p f args [] = .ok (.bool true) []) : Calls P f vs.toArray W fun e W' => e = .returned (.bool true) ∧ Below W.heap.size W W' := by
  have h := (callW_sound G hO f args [] (allS W) [] W vs (by rw [ht]; simp) (gok_start hg) (allS_wf W) ⟨rfl, fun _ => .no, fun l cs hl => by simp at hl⟩ hv).1
  rw [ht] at h
  refine h.mono fun e W' hp => ?_
  obtain ⟨S', β', v, rfl, hv, L, _⟩ := hp
  simp only [VR] at hv
  subst hv
  exact ⟨rfl, L.below⟩
section
variable {H : Type} {enc : TypeId × Value → H} {P : Program}
omit [Dr] in
theorem post_of_below {f : Func} {s : ChangeSpec} {apart fresh handsOn again : Bool} {W W' : World} {args : Array Value} {v : Value} {ds gs : List (DataW H)} {before pa pv : List MemPlace}
    (hW : DataW.Whole enc P f.params.toList s.vars apart W args.toList ds gs before)
    (hres : ∀ (b : Nat) (sp : Nat → Bool) (hd : Bool), DataW.TrodAll enc P W' b sp hd f.resultTypes.toList (v.resultList f.resultTypes.size) (s.fn H (ds ++ gs)).results [])
    (hargs : ∀ sp : Nat → Bool, (∀ p ∈ before, sp p.block = true) → DataW.TrodAll enc P W' 0 sp true f.params.toList args.toList (s.fn H (ds ++ gs)).args pa)
    (hvars : ∀ sp : Nat → Bool, (∀ p ∈ before, sp p.block = true) → DataW.TrodVars enc P W' sp s.vars (s.fn H (ds ++ gs)).vars pv)
    (hps : before = pa ++ pv) (hb : Below W.heap.size W W')
    (hok : ∀ (j : Nat) (t : TypeId) (r : Value), f.resultTypes[j]? = some t → (v.resultList f.resultTypes.size)[j]? = some r → Value.okWide P W' .any 0 t r) :
    s.post enc P f apart fresh handsOn again W args v W' := by
  have hlt : ∀ p ∈ before, p.block < W.heap.size := fun p hp => hW.lt p hp
  have hold : ∀ p ∈ before, (fun b => decide (b < W.heap.size)) p.block = true := fun p hp => by simpa using hlt p hp
  refine ⟨ds, gs, before, [], pa, pv, hW, hres _ _ _, hargs _ hold, hvars _ hold, World.keptBut_mono (fun p hp => ⟨hp, ?_⟩) (hb.frame (· ∈ before)), fun _ => ?_⟩
  · rw [hps, List.mem_append] at hp
    exact Or.inr hp
  · obtain ⟨_, _, _, _, _, hz, hn⟩ := hW
    refine ⟨hok, _, _, ([] ++ pa) ++ pv, ⟨[] ++ pa, pv, trodAll_append (hargs _ (fun _ _ => rfl)) (hres _ _ _), hvars _ (fun _ _ => rfl), rfl, ?_, ?_⟩, ?_⟩
    · intro b off hp
      have hin : MemPlace.cell b off ∈ before := by rw [hps]; simpa using hp
      rw [hb.frozen (hlt _ hin)]
      exact hz b off hin
    · intro ha
      have := hn ha
      rw [hps] at this
      simpa using this
    · intro p hp _
      rw [hps]
      simpa using hp
end
end Go.Av

/- Arguments that a call leaves as0 they were are read again behind it. Conditions: the program's table of types. -/
namespace Go.Av
open Go.RowKit
section
variable {H : Type} {enc : TypeId × Value → H} {P : Program} {w w' : World}
theorem trodAll_carry {base : Nat} {spare : Nat → Bool} {held : Bool} : ∀ {ts : List TypeId} {vs : List Value} {ds : List (DataW H)} {ps : List MemPlace}, DataW.TrodAll enc P w base spare held ts vs ds ps → (∀ p ∈ ps, w.sameAt w' p) → DataW.TrodAll enc P w' base spare held ts vs ds ps
  | [], [], [], _, h, _ => h
  | _ :: _, _ :: _, _ :: _, _, ⟨p, q, ⟨n, h1⟩, h2, e⟩, hs => ⟨p, q, ⟨n, DataW.trod_carry n _ _ _ h1 (fun x hx => hs x (by rw [e]; exact List.mem_append_left _ hx))⟩, trodAll_carry h2 (fun x hx => hs x (by rw [e]; exact List.mem_append_right _ hx)), e⟩
theorem sameAt_below (hb : Below w.heap.size w w') {p : MemPlace} (hp : p.block < w.heap.size) : w.sameAt w' p := by
  cases p with
  | cell b off =>
    have := hb.block b hp
    show w'.cell? ⟨b, off, none⟩ = w.cell? ⟨b, off, none⟩
    simp only [World.cell?, this]
  | map b => exact hb.block b hp
theorem args_again {T : TypeId → Prop} (K : Kids P T) (hz : ∀ t e, T t → P.underlying t = some (.slice e) → 0 < P.cellsOf e) {ts : List TypeId} {vs : List Value} {ds : List (DataW H)} {ps : List MemPlace} (hT : ∀ t ∈ ts, T t)
    (h : DataW.TrodAll enc P w 0 (fun _ => true) true ts vs ds ps) (hlt : ∀ p ∈ ps, p.block < w.heap.size) (hb : Below w.heap.size w w') (sp : Nat → Bool) (hsp : ∀ p ∈ ps, sp p.block = true) : DataW.TrodAll enc P w' 0 sp true ts vs ds ps :=
  (trodAll_carry h fun p hp => sameAt_below hb (hlt p hp)).respare K hz hT hsp
end
theorem list_of {α : Type} (Q : Nat → α → Prop) : ∀ n, (∀ i, i < n → ∃ x, Q i x) → ∃ l : List α, l.length = n ∧ ∀ i x, l[i]? = some x → Q i x
  | 0, _ => ⟨[], rfl, fun i x h => by simp at h⟩
  | n + 1, h => by
    obtain ⟨l, h1, h2⟩ := list_of Q n fun i hi => h i (by omega)
    obtain ⟨y, hy⟩ := h n (by omega)
    refine ⟨l ++ [y], by simp [h1], fun i x hx => ?_⟩
    by_cases hi : i < n
    · rw [List.getElem?_append_left (by omega)] at hx
      exact h2 i x hx
    · rw [List.getElem?_append_right (by omega)] at hx
      have hin : i - l.length = 0 := by
        rcases Nat.eq_zero_or_pos (i - l.length) with h | h
        · exact h
        · rw [List.getElem?_eq_none (by simp; omega)] at hx; cases hx
      rw [hin] at hx
      simp only [List.getElem?_cons_zero, Option.some.injEq] at hx
      subst hx
      obtain rfl : i = n := by omega
      exact hy
end Go.Av

/- Arguments of any shape, read as0 typed values. Conditions: the program's types, as0 each rule names them. -/
namespace Go.Av
open Go.RowKit Go.WideShapes Go.ChangeShapes
section
variable {H : Type} (enc : TypeId × Value → H) (P : Program) (W : World)
def Rd {α : Type} (N : Nat) (t : TypeId) (cells : α → List AV) (Ok : α → Prop) : Prop := ∀ (base : Nat) (held : Bool) (n : Nat), n < N → ∀ (cs : List Value) (x : DataW H × List MemPlace), DataW.trod enc P W base (fun _ => true) held n t cs = some x → (∀ k ∈ x.1.weights P t, k ≤ reachBytes) → ∃ a : α, VRs (allS W) [] (cells a) cs ∧ Ok a
def RdFs {α : Type} (N : Nat) (tot : Nat) (o : Nat) (fs : List Field) (cells : α → List AV) (Ok : α → Prop) : Prop := ∀ (base : Nat) (held : Bool) (n : Nat), n < N → ∀ (cs : List Value) (xs : List (DataW H × List MemPlace)), cs.length = tot →
  xs.length = fs.length → (∀ (i : Nat) (f : Field), fs[i]? = some f → DataW.trod enc P W base (fun _ => true) held n f.type ((cs.drop f.offset).take (P.cellsOf f.type)) = xs[i]?) → (∀ k ∈ DataW.weightsEach P (fs.map (·.type)) (xs.map (·.1)), k ≤ reachBytes) → ∃ a : α, VRs (allS W) [] (cells a) (cs.drop o) ∧ Ok a
variable {enc P W} {α β : Type} {N : Nat} {t : TypeId}
theorem Rd.zero {cells : α → List AV} {Ok : α → Prop} : Rd enc P W 0 t cells Ok := fun _ _ n hn => absurd hn (by omega)
theorem Rd.le {cells : α → List AV} {Ok : α → Prop} (h : Rd enc P W N t cells Ok) {M : Nat} (hm : M ≤ N) : Rd enc P W M t cells Ok := fun b hd n hn => h b hd n (by omega)
theorem Rd.map {cells : α → List AV} {Ok : α → Prop} (h : Rd enc P W N t cells Ok) (g : α → β) {cells' : β → List AV} {Ok' : β → Prop} (hc : ∀ a, cells' (g a) = cells a) (ho : ∀ a, Ok a → Ok' (g a)) : Rd enc P W N t cells' Ok' := by
  intro b hd n hn cs x hx hw
  obtain ⟨a, h1, h2⟩ := h b hd n hn cs x hx hw
  exact ⟨g a, by rw [hc]; exact h1, ho a h2⟩
theorem rd_bool (ht : P.underlying t = some .bool) : Rd enc P W N t (fun b : Bool => [.bool b]) (fun _ => True) := by
  intro b hd n hn cs x hx hw
  obtain ⟨b, rfl, _⟩ := DataW.trod_bool ht hx
  exact ⟨b, by simp [VRs, VR], trivial⟩
theorem rd_int {k : IntKind} (ht : P.underlying t = some (.int k)) : Rd enc P W N t (fun n : Int => [.int k n]) (fun n => (Lit.int k n).wf = true) := by
  intro b hd n hn cs x hx hw
  obtain ⟨b, rfl, _, hwf⟩ := DataW.trod_int ht hx
  exact ⟨b, by simp [VRs, VR], hwf⟩
theorem rd_str (ht : P.underlying t = some .string) : Rd enc P W N t (fun s : List UInt8 => [.str s]) (fun s => s.length ≤ reachBytes) := by
  intro b hd n hn cs x hx hw
  obtain ⟨s, rfl, rfl, _⟩ := DataW.trod_string ht hx
  exact ⟨s.data.toList, by simp [VRs, VR], hw _ (by simp [DataW.weights])⟩
def ElOf (cells : α → List AV) (ev : α → AV) (sz : Nat) : Prop := ∀ (a : α) (S : Stab) (β : List Blk) (vs : List Value), VRs S β (cells a) vs → vs.length = sz → ∃ v, VR S β (ev a) v ∧ v.cells.toList = vs
theorem elOf_agg' {cells : α → List AV} {ev : α → AV} {sz : Nat} (he : ∀ a, ev a = .agg (cells a)) : ElOf cells ev sz := fun a S β vs h hl => ⟨.agg vs.toArray, by rw [he]; simp only [VR]; exact ⟨vs, rfl, h⟩, by simp [Value.cells]⟩
theorem elOf_one {ev : α → AV} (ho : ∀ a, okCell (ev a) = true) : ElOf (fun a => [ev a]) ev 1 := fun a S β vs h hl => by
  simp only [VRs] at h
  obtain ⟨v, _, rfl, h, rfl⟩ := h
  exact ⟨v, h, by rw [(okCell_ok (ho a) h).1]⟩
theorem weightsAll_mem {e : TypeId} : ∀ {l : List (DataW H)} {d : DataW H}, d ∈ l → ∀ k ∈ d.weights P e, k ∈ DataW.weightsAll P e l
  | x :: l, d, hd, k, hk => by
    simp only [DataW.weightsAll, List.mem_append]
    rcases List.mem_cons.1 hd with rfl | hd
    · exact .inl hk
    · exact .inr (weightsAll_mem hd k hk)
theorem rd_slice {e : TypeId} {cells : α → List AV} {Ok : α → Prop} (h : Rd enc P W N e cells Ok) (ht : P.underlying t = some (.slice e)) {sz by_ : Nat} (hsz : P.cellsOf e = sz) (h0 : 0 < sz) (hby : P.bytesOf e = by_) {ev : α → AV} (hev : ElOf cells ev sz) :
    Rd enc P W N t (fun l : List α => [.sl (l.map ev)]) (fun l => l.length * by_ ≤ reachBytes ∧ ∀ a ∈ l, Ok a) := by
  intro base hd n hn cs x hx hw
  rcases DataW.trod_slice ht hx with ⟨rfl, rfl⟩ | ⟨a, len, cap, elems, rest, m, rfl, rfl, rfl, hb, hle, hm, hlen, hel, hsp, _⟩
  · exact ⟨[], by simp only [VRs, List.map_nil, VR]; exact ⟨_, _, rfl, ⟨none, 0, rfl, Nat.le_refl _, fun _ => rfl, fun q hq => by cases hq⟩, rfl⟩, by simp, fun a ha => by cases ha⟩
  obtain ⟨hrl, hre⟩ := hsp rfl
  rw [hsz] at hel hre
  simp only [DataW.weights, ht, List.mem_cons, List.mem_append, hby] at hw
  have hspot : 0 < cap → a.spot = none := by
    intro hc
    have : ∃ y, (W.cells? base (a.add 0) sz).bind (DataW.trod enc P W base (fun _ => true) hd m e) = some y := by
      by_cases h1 : 0 < len
      · have := hel 0 h1
        rw [List.getElem?_eq_getElem (by omega)] at this
        exact ⟨_, by simpa using this⟩
      · have := hre 0 (by omega)
        rw [List.getElem?_eq_getElem (by omega)] at this
        obtain rfl : len = 0 := by omega
        exact ⟨_, by simpa using this⟩
    obtain ⟨y, hy⟩ := this
    obtain ⟨cs, hcs, _⟩ := Option.bind_eq_some_iff.1 hy
    obtain ⟨_, hl, hc⟩ := World.cells?_some hcs
    have h2 := hc 0 h0
    rw [List.getElem?_eq_getElem (by omega)] at h2
    have h3 := World.cell?_spot h2
    have e : (a.add 0).add 0 = a := by unfold Addr.add; simp
    rwa [e] at h3
  have hx : ∀ i, i < len → ∃ y : α, (∃ v, VR (allS W) [] (ev y) v ∧ v.cells.size = sz ∧ cellsAt (allS W) a.block (a.off + i * sz) v.cells.toList) ∧ Ok y := by
    intro i hi
    have h1 := hel i hi
    rw [List.getElem?_eq_getElem (by omega)] at h1
    obtain ⟨cs, hcs, htr⟩ := Option.bind_eq_some_iff.1 h1
    obtain ⟨y, hy, hok⟩ := h base hd m (by omega) cs _ htr (fun k hk => hw k (.inr (.inl (weightsAll_mem (List.mem_map.2 ⟨_, List.getElem_mem _, rfl⟩) k hk))))
    obtain ⟨_, hl, hc⟩ := World.cells?_some hcs
    obtain ⟨v, hv, hvc⟩ := hev y _ _ cs hy hl
    refine ⟨y, ⟨v, hv, by rw [← Array.length_toList, hvc, hl], fun j u hj => ?_⟩, hok⟩
    rw [hvc] at hj
    have hjl : j < sz := by
      rcases Nat.lt_or_ge j cs.length with h | h
      · omega
      · rw [List.getElem?_eq_none h] at hj; cases hj
    have h2 := hc j hjl
    rw [hj] at h2
    unfold allS
    have hs := hspot (by omega)
    have e : (a.add (i * sz)).add j = ⟨a.block, a.off + i * sz + j, none⟩ := by
      obtain ⟨b, o, s⟩ := a
      simp only at hs
      subst hs
      rw [add_plain, add_plain]
    rw [← e]
    exact h2
  obtain ⟨l, hl1, hl2⟩ := list_of (fun i y => (∃ v, VR (allS W) [] (ev y) v ∧ v.cells.size = sz ∧ cellsAt (allS W) a.block (a.off + i * sz) v.cells.toList) ∧ Ok y) len hx
  refine ⟨l, ?_, ?_, fun y hy => ?_⟩
  · simp only [VRs, VR, List.length_map]
    refine ⟨_, _, rfl, ⟨some a, cap, by rw [hl1], by omega, (fun e => by cases e), fun q hq => ?_⟩, rfl⟩
    cases hq
    refine ⟨hspot, sz, .of_get fun i e he => ?_⟩
    rw [List.getElem?_map, Option.map_eq_some_iff] at he
    obtain ⟨y, hy, rfl⟩ := he
    exact (hl2 i y hy).1
  · have := hw _ (.inl rfl)
    simp only [List.length_map] at this
    have h3 := Nat.mul_le_mul_right by_ (show l.length ≤ elems.length + rest.length by omega)
    omega
  · obtain ⟨i, hi, e⟩ := List.getElem_of_mem hy
    exact (hl2 i y (by rw [List.getElem?_eq_getElem hi, e])).2
theorem rdFs_nil {tot : Nat} : RdFs enc P W N tot tot [] (fun _ : Unit => []) (fun _ => True) := fun base hd n hn cs xs hl _ _ _ => ⟨(), by simp [VRs, ← hl], trivial⟩
theorem rdFs_cons {tot o k : Nat} {f : Field} {fs : List Field} {c1 : α → List AV} {Ok1 : α → Prop} {c2 : β → List AV} {Ok2 : β → Prop} (h1 : Rd enc P W N f.type c1 Ok1) (ho : f.offset = o) (hk : P.cellsOf f.type = k) (h2 : RdFs enc P W N tot (o + k) fs c2 Ok2) :
    RdFs enc P W N tot o (f :: fs) (fun x : α × β => c1 x.1 ++ c2 x.2) (fun x => Ok1 x.1 ∧ Ok2 x.2) := by
  intro base hd n hn cs xs hl hx hf hw
  match xs, hx with
  | x :: xs, hx =>
    have hf0 := hf 0 f rfl
    rw [ho, hk] at hf0
    simp only [List.map_cons, DataW.weightsEach, List.mem_append] at hw
    obtain ⟨a, ha, oa⟩ := h1 base hd n hn _ x hf0 fun k hk => hw k (.inl hk)
    obtain ⟨b, hb, ob⟩ := h2 base hd n hn cs xs hl (by simpa using hx) (fun i g hg => by simpa using hf (i + 1) g (by simpa using hg)) fun k hk => hw k (.inr hk)
    refine ⟨(a, b), ?_, oa, ob⟩
    have := ha.append hb
    rwa [← List.drop_drop, List.take_append_drop] at this
theorem rd_struct {fs : Array Field} {tot : Nat} {cells : α → List AV} {Ok : α → Prop} (ht : P.underlying t = some (.struct fs)) (hc : P.cellsOf t = tot) (h : RdFs enc P W N tot 0 fs.toList cells Ok) : Rd enc P W (N + 1) t cells Ok := by
  intro base hd n hn cs x hx hw
  obtain ⟨xs, m, rfl, rfl, hl, hxs, hf⟩ := DataW.trod_struct ht hx
  simp only [DataW.weights, ht] at hw
  obtain ⟨a, h1, h2⟩ := h base hd m (by omega) cs xs (by rw [hl, hc]) (by simpa using hxs) (fun i f hi => hf i f (by simpa using hi)) hw
  exact ⟨a, by simpa using h1, h2⟩
theorem rd_arg {cells : α → List AV} {Ok : α → Prop} (h : ∀ N, Rd enc P W N t cells Ok) {base : Nat} {held : Bool} {v : Value} {d : DataW H} {p : List MemPlace} (hd : DataW.Trod enc P W base (fun _ => true) held t v d p) (hw : ∀ k ∈ d.weights P t, k ≤ reachBytes) :
    ∃ a : α, VRs (allS W) [] (cells a) v.cells.toList ∧ Ok a := by
  obtain ⟨n, hn⟩ := hd
  exact h (n + 1) base held n (by omega) _ _ hn hw
theorem rd_arg1 {f : α → AV} {Ok : α → Prop} (h : ∀ N, Rd enc P W N t (fun a => [f a]) Ok) {base : Nat} {held : Bool} {v : Value} {d : DataW H} {p : List MemPlace} (hv : v.cells.toList = [v]) (hd : DataW.Trod enc P W base (fun _ => true) held t v d p) (hw : ∀ k ∈ d.weights P t, k ≤ reachBytes) :
    ∃ a : α, VR (allS W) [] (f a) v ∧ Ok a := by
  obtain ⟨a, h1, h2⟩ := rd_arg h hd hw
  rw [hv] at h1
  simp only [VRs] at h1
  obtain ⟨y, ys, e, h1, rfl⟩ := h1
  cases e
  exact ⟨a, h1, h2⟩
theorem arg_slice {e : TypeId} {r : Reach} {b0 : Nat} {f : α → AV} {Ok : α → Prop} (h : ∀ N, Rd enc P W N t (fun a => [f a]) Ok) (ht : P.underlying t = some (.slice e)) {base : Nat} {held : Bool} {v : Value} {d : DataW H} {p : List MemPlace} (hok : Value.okWide P W r b0 t v)
    (hd : DataW.Trod enc P W base (fun _ => true) held t v d p) (hw : ∀ k ∈ d.weights P t, k ≤ reachBytes) : ∃ a : α, VR (allS W) [] (f a) v ∧ Ok a := by
  obtain ⟨a, len, cap, rfl⟩ := okWide_slice ht hok
  exact rd_arg1 h rfl hd hw
theorem arg_struct {fs : Array Field} {r : Reach} {b0 : Nat} {f : α → AV} {Ok : α → Prop} {cells : α → List AV} (h : ∀ N, Rd enc P W N t cells Ok) (hf : ∀ a, f a = .agg (cells a)) (ht : P.underlying t = some (.struct fs)) {base : Nat} {held : Bool} {v : Value} {d : DataW H} {p : List MemPlace} (hok : Value.okWide P W r b0 t v)
    (hd : DataW.Trod enc P W base (fun _ => true) held t v d p) (hw : ∀ k ∈ d.weights P t, k ≤ reachBytes) : ∃ a : α, VR (allS W) [] (f a) v ∧ Ok a := by
  obtain ⟨cs, rfl, _⟩ := okWide_struct ht hok
  obtain ⟨a, h1, h2⟩ := rd_arg h hd hw
  refine ⟨a, ?_, h2⟩
  rw [hf]
  simp only [VR]
  exact ⟨cs.toList, by simp, h1⟩
theorem each_light {ts : List TypeId} {ds : List (DataW H)} (h : (DataW.weightsEach P ts ds).all (· ≤ reachBytes) = true) {j : Nat} {u : TypeId} {d : DataW H} (ht : ts[j]? = some u) (hd : ds[j]? = some d) : ∀ k ∈ d.weights P u, k ≤ reachBytes := fun k hk => by
  have := List.all_eq_true.1 h _ (DataW.weights_mem_each ht hd k hk)
  simpa using this
end
end Go.Av

/- Counting loops of shallow programs as0 plain recursions. No condition. -/
namespace Go.Av
theorem sliceA_lo {T : TT} {t e : Nat} {ti ei : TI} (ht : T t = some ti) (hk : ti.kind = .slice e) (he : T e = some ei) (es : List AV) (hok : okSz ei.size es = true) {n : Int} (h0 : 0 ≤ n) (h1 : n ≤ es.length) : sliceA T t (.sl es) (some (.int .i64 n)) none none = some (.sl (es.drop n.toNat)) := by
  unfold sliceA
  rw [ht]
  simp [hk, he, boundA, h0, h1, hok]
end Go.Av

/- The law's guards on sizes, as0 pure functions. No condition. -/
namespace Go.Av.Ap
open Go Go.Av
def Val.limN : Nat → Val → Prop
  | 0, _ => True
  | n + 1, v => v.names.length ≤ 140737488355328 ∧ v.values.length ≤ 140737488355328 ∧ ∀ x ∈ v.values, x.limN n
def Val.Lim (v : Val) : Prop := ∀ n, v.limN n
def Exp.limN : Nat → Exp → Prop
  | 0, _ => True
  | n + 1, v => v.names.length ≤ 8796093022208 ∧ v.args.length ≤ 140737488355328 ∧ ∀ x ∈ v.args, x.limN n
def Exp.Lim (v : Exp) : Prop := ∀ n, v.limN n
def Ty.limN : Nat → Ty → Prop
  | 0, _ => True
  | n + 1, v => v.fields.length ≤ 140737488355328 ∧ ∀ x ∈ v.fields, x.2.limN n
def Ty.Lim (v : Ty) : Prop := ∀ n, v.limN n
theorem Val.Lim.names {v : Val} (h : v.Lim) : v.names.length ≤ 140737488355328 := (h 1).1
theorem Val.Lim.len {v : Val} (h : v.Lim) : v.values.length ≤ 140737488355328 := (h 1).2.1
theorem Val.Lim.kid {v : Val} (h : v.Lim) {x : Val} (hx : x ∈ v.values) : x.Lim := fun n => (h (n + 1)).2.2 x hx
theorem Exp.Lim.names {v : Exp} (h : v.Lim) : v.names.length ≤ 8796093022208 := (h 1).1
theorem Exp.Lim.len {v : Exp} (h : v.Lim) : v.args.length ≤ 140737488355328 := (h 1).2.1
theorem Exp.Lim.kid {v : Exp} (h : v.Lim) {x : Exp} (hx : x ∈ v.args) : x.Lim := fun n => (h (n + 1)).2.2 x hx
theorem Ty.Lim.len {v : Ty} (h : v.Lim) : v.fields.length ≤ 140737488355328 := (h 1).1
theorem Ty.Lim.kid {v : Ty} (h : v.Lim) {x : Fld} (hx : x ∈ v.fields) : x.2.Lim := fun n => (h (n + 1)).2 x hx
structure Fun.Lim (f : Fun) : Prop where
  params : f.params.length ≤ 140737488355328
  pty : ∀ x ∈ f.params, x.2.Lim
  result : f.result.Lim
  body : f.body.Lim
structure Mod.Lim (m : Mod) : Prop where
  uses : m.uses.length ≤ 140737488355328
  vars : m.vars.length ≤ 140737488355328
  vty : ∀ x ∈ m.vars, x.2.Lim
  init : m.init.length ≤ 140737488355328
  ies : ∀ e ∈ m.init, e.Lim
  funcs : m.funcs.length ≤ 140737488355328
  fns : ∀ f ∈ m.funcs, f.Lim
  old : m.old.length ≤ 140737488355328
  oty : ∀ x ∈ m.old, x.2.Lim
  forward : m.forward.length ≤ 140737488355328
  fes : ∀ e ∈ m.forward, e.Lim
  back : m.back.length ≤ 140737488355328
  bes : ∀ e ∈ m.back, e.Lim
end Go.Av.Ap

/- What can be reached in a program, as0 plain functions: the index, calls, the order in which functions are reached. No condition. -/
namespace Go.Av.Ap
open Go Go.Av
theorem getK_put {V : Type} (k r : Ref) (v : V) : ∀ l : List (Ref × V), getK (putK l k v) r = if k = r then some v else getK l r
  | [] => by simp [putK, getK]
  | x :: l => by
    simp only [putK]
    by_cases h : x.1 = k
    · subst h
      simp only [if_true, getK]
      split <;> rfl
    · simp only [h, if_false, getK, getK_put k r v l]
      by_cases h1 : x.1 = r
      · have : ¬ k = r := fun e => h (h1.trans e.symm)
        simp [h1, this]
      · simp [h1]
theorem getK_mem {V : Type} {l : List (Ref × V)} {r : Ref} {v : V} (h : getK l r = some v) : (r, v) ∈ l := by
  induction l with
  | nil => cases h
  | cons x l ih =>
    simp only [getK] at h
    split at h
    · rename_i e; cases h; subst e; exact List.mem_cons_self
    · exact List.mem_cons_of_mem _ (ih h)
theorem getK_none {V : Type} {l : List (Ref × V)} {r : Ref} : getK l r = none ↔ r ∉ l.map (·.1) := by
  induction l with
  | nil => simp [getK]
  | cons x l ih =>
    simp only [getK, List.map_cons, List.mem_cons, not_or]
    by_cases h : x.1 = r
    · simp [h]
    · have h' : ¬ r = x.1 := fun e => h e.symm
      simp [h, h', ih]
theorem getK_nodup {V : Type} {l : List (Ref × V)} (hn : (l.map (·.1)).Nodup) {r : Ref} {v : V} (h : (r, v) ∈ l) : getK l r = some v := by
  induction l with
  | nil => cases h
  | cons x l ih =>
    simp only [List.map_cons, List.nodup_cons] at hn
    simp only [getK]
    rcases List.mem_cons.1 h with rfl | h
    · simp
    · have : ¬ x.1 = r := fun e => hn.1 (by rw [e]; exact List.mem_map_of_mem (f := (·.1)) h)
      simp [this, ih hn.2 h]
theorem putK_keys {V : Type} (k : Ref) (v : V) : ∀ l : List (Ref × V), (putK l k v).map (·.1) = if k ∈ l.map (·.1) then l.map (·.1) else l.map (·.1) ++ [k]
  | [] => rfl
  | x :: l => by
    simp only [putK]
    by_cases h : x.1 = k
    · subst h; simp
    · have h' : ¬ k = x.1 := fun e => h e.symm
      simp only [h, if_false, List.map_cons, putK_keys k v l, List.mem_cons, h', false_or]
      split <;> rfl
theorem putK_nodup {V : Type} (k : Ref) (v : V) (l : List (Ref × V)) (h : (l.map (·.1)).Nodup) : ((putK l k v).map (·.1)).Nodup := by
  rw [putK_keys]
  split
  · exact h
  · rename_i hk
    exact List.nodup_append.2 ⟨h, by simp, fun a ha b hb e => by simp at hb; subst hb; subst e; exact hk ha⟩
theorem putK_mem {V : Type} (k r : Ref) (v : V) (l : List (Ref × V)) : r ∈ (putK l k v).map (·.1) ↔ r = k ∨ r ∈ l.map (·.1) := by
  rw [putK_keys]
  split
  · rename_i h
    constructor
    · exact .inr
    · rintro (rfl | h2); exact h; exact h2
  · rw [List.mem_append, List.mem_singleton]; exact ⟨fun h => h.symm, fun h => h.symm⟩
def findG {V : Type} (l : List (Str × List (Str × V))) (r : Ref) : Option V := match l.find? (fun m => m.1 == r.1) with
  | some m => (m.2.find? fun f => f.1 == r.2).map (·.2)
  | none => none
theorem getK_idxF {V : Type} (m : Str) (r : Ref) : ∀ (l : List (Str × V)) (out : List (Ref × V)), getK (idxF m l out) r = if r.1 = m then (match l.find? (fun f => f.1 == r.2) with | some f => some f.2 | none => getK out r) else getK out r
  | [], out => by simp [idxF]
  | f :: l, out => by
    have ih := getK_idxF m r l out
    show getK (putK (idxF m l out) (m, f.1) f.2) r = _
    rw [getK_put, ih]
    by_cases h1 : r.1 = m
    · by_cases h2 : f.1 = r.2
      · have e : ((m, f.1) : Ref) = r := Prod.ext h1.symm h2
        simp [h1, h2, e, List.find?_cons]
        rw [← h1, ← h2] at *
        simp [e]
      · have e : ¬ ((m, f.1) : Ref) = r := fun e => h2 (by rw [← e])
        have e2 : (f.1 == r.2) = false := beq_eq_false_iff_ne.2 h2
        simp [h1, e, List.find?_cons, e2]
    · have e : ¬ ((m, f.1) : Ref) = r := fun e => h1 (by rw [← e])
      simp [h1, e]
theorem idxF_keys {V : Type} (m : Str) : ∀ (l : List (Str × V)) (out : List (Ref × V)) (r : Ref), r ∈ (idxF m l out).map (·.1) ↔ (r.1 = m ∧ r.2 ∈ l.map (·.1)) ∨ r ∈ out.map (·.1)
  | [], out, r => by simp [idxF]
  | f :: l, out, r => by
    show r ∈ (putK (idxF m l out) (m, f.1) f.2).map (·.1) ↔ _
    rw [putK_mem, idxF_keys m l out r]
    constructor
    · rintro (rfl | ⟨h1, h2⟩ | h)
      · exact .inl ⟨rfl, by simp⟩
      · exact .inl ⟨h1, by simp [h2]⟩
      · exact .inr h
    · rintro (⟨h1, h2⟩ | h)
      · rcases List.mem_cons.1 h2 with h2 | h2
        · exact .inl (Prod.ext h1 h2)
        · exact .inr (.inl ⟨h1, h2⟩)
      · exact .inr (.inr h)
theorem getK_idxG {V : Type} (r : Ref) : ∀ (l : List (Str × List (Str × V))) (seen : List Str) (out : List (Ref × V)), (∀ k ∈ out.map (·.1), k.1 ∈ seen) → getK (idxG l seen out) r = if r.1 ∈ seen then getK out r else findG l r
  | [], seen, out, ho => by
    simp only [idxG, findG, List.find?_nil]
    split
    · rfl
    · rename_i h
      exact getK_none.2 fun hk => h (ho r hk)
  | m :: l, seen, out, ho => by
    simp only [idxG]
    by_cases hm : m.1 ∈ seen
    · rw [if_pos hm, getK_idxG r l seen out ho]
      split
      · rfl
      · rename_i h
        have : (m.1 == r.1) = false := beq_eq_false_iff_ne.2 fun e => h (e ▸ hm)
        simp [findG, List.find?_cons, this]
    · rw [if_neg hm, getK_idxG r l (seen ++ [m.1]) (idxF m.1 m.2 out) (fun k hk => by
        rcases (idxF_keys m.1 m.2 out k).1 hk with ⟨h, _⟩ | h
        · simp [h]
        · simp [ho k h]), getK_idxF]
      by_cases hr : r.1 = m.1
      · have h1 : r.1 ∈ seen ++ [m.1] := by simp [hr]
        have h2 : ¬ r.1 ∈ seen := by rw [hr]; exact hm
        have h3 : getK out r = none := getK_none.2 fun hk => h2 (ho r hk)
        have h4 : (m.1 == r.1) = true := beq_iff_eq.2 hr.symm
        rw [if_pos h1, if_neg h2, if_pos hr, h3]
        simp only [findG, List.find?_cons, h4]
        cases m.2.find? (fun f => f.1 == r.2) <;> rfl
      · have h4 : (m.1 == r.1) = false := beq_eq_false_iff_ne.2 fun e => hr e.symm
        have h1 : r.1 ∈ seen ++ [m.1] ↔ r.1 ∈ seen := by simp [hr]
        simp only [h1, hr, if_false, findG, List.find?_cons, h4]
theorem idxG_nodup {V : Type} : ∀ (l : List (Str × List (Str × V))) (seen : List Str) (out : List (Ref × V)), (out.map (·.1)).Nodup → ((idxG l seen out).map (·.1)).Nodup
  | [], _, _, h => h
  | m :: l, seen, out, h => by
    simp only [idxG]
    split
    · exact idxG_nodup l seen out h
    · refine idxG_nodup l _ _ ?_
      have : ∀ (fs : List (Str × V)), ((idxF m.1 fs out).map (·.1)).Nodup := by
        intro fs
        induction fs with
        | nil => exact h
        | cons f fs ih => exact putK_nodup _ _ _ ih
      exact this m.2
theorem putK_map {V W : Type} (g : V → W) (k : Ref) (v : V) : ∀ l : List (Ref × V), putK (l.map fun x => (x.1, g x.2)) k (g v) = (putK l k v).map fun x => (x.1, g x.2)
  | [] => rfl
  | x :: l => by
    simp only [List.map_cons, putK]
    split
    · rfl
    · rw [putK_map g k v l]; rfl
theorem idxF_map {V W : Type} (g : V → W) (m : Str) (out : List (Ref × V)) : ∀ l : List (Str × V), idxF m (l.map fun x => (x.1, g x.2)) (out.map fun x => (x.1, g x.2)) = (idxF m l out).map fun x => (x.1, g x.2)
  | [] => rfl
  | f :: l => by
    show putK (idxF m (l.map fun x => (x.1, g x.2)) (out.map fun x => (x.1, g x.2))) (m, f.1) (g f.2) = _
    rw [idxF_map g m out l, putK_map]
    rfl
theorem idxG_map {V W : Type} (g : V → W) : ∀ (l : List (Str × List (Str × V))) (seen : List Str) (out : List (Ref × V)), idxG (l.map fun m => (m.1, m.2.map fun x => (x.1, g x.2))) seen (out.map fun x => (x.1, g x.2)) = (idxG l seen out).map fun x => (x.1, g x.2)
  | [], _, _ => rfl
  | m :: l, seen, out => by
    simp only [List.map_cons, idxG]
    split
    · exact idxG_map g l seen out
    · rw [idxF_map, idxG_map g l]
def partsM (m : Mod) : Str × List (Str × Fun) := (m.name, m.funcs.map fun f => (f.name, f))
def idxP (p : List Mod) : List (Ref × Fun) := idxG (p.map partsM) [] []
def findR (p : List Mod) (r : Ref) : Option Fun := match p.find? (fun m => m.name == r.1) with
  | some m => m.funcs.find? fun f => f.name == r.2
  | none => none
theorem idx_get (p : List Mod) (r : Ref) : getK (idxP p) r = findR p r := by
  unfold idxP
  rw [getK_idxG r _ [] [] (by simp), if_neg (by simp)]
  unfold findG findR
  rw [List.find?_map]
  have : ((fun m : Str × List (Str × Fun) => m.1 == r.1) ∘ partsM) = fun m : Mod => m.name == r.1 := rfl
  rw [this]
  cases p.find? (fun m => m.name == r.1) with
  | none => rfl
  | some m =>
    simp only [Option.map_some, partsM]
    rw [List.find?_map]
    have : ((fun f : Str × Fun => f.1 == r.2) ∘ fun f : Fun => (f.name, f)) = fun f : Fun => f.name == r.2 := rfl
    rw [this]
    cases m.funcs.find? (fun f => f.name == r.2) <;> rfl
theorem idx_nodup (p : List Mod) : ((idxP p).map (·.1)).Nodup := idxG_nodup _ _ _ (by simp)
mutual
def nodesL : Exp → List Exp
  | .mk o n s m ns es => .mk o n s m ns es :: nodesLs es
def nodesLs : List Exp → List Exp
  | [] => []
  | e :: es => nodesL e ++ nodesLs es
end
theorem nodesLs_flat : ∀ l : List Exp, nodesLs l = l.flatMap nodesL
  | [] => rfl
  | e :: l => by simp [nodesLs, nodesLs_flat l]
theorem nodesL_eq (e : Exp) : nodesL e = e :: e.args.flatMap nodesL := by
  cases e with
  | mk o n s m ns es => simp only [nodesL, nodesLs_flat]; rfl
def zeroE : Exp := .mk 0 0 [] [] [] []
def zeroF : Fun := ⟨[], false, [], .mk 0 [], 0, zeroE⟩
def tgt (f : Ref) (e : Exp) : Ref := (if e.m = [] then f.1 else e.m, e.s)
def callB (p : List Mod) (f : Ref) (e : Exp) : Bool := e.op == 15 && (match findR p (tgt f e) with | some g => e.m == [] || g.pub | none => false)
def bodyR (p : List Mod) (f : Ref) : Exp := ((findR p f).getD zeroF).body
def foundS (p : List Mod) (f : Ref) (o : List (Ref × Bool)) (e : Exp) : List (Ref × Bool) := if callB p f e then putK o (tgt f e) true else o
def found (p : List Mod) (f : Ref) : List (Ref × Bool) := (nodesL (bodyR p f)).foldl (foundS p f) []
def callL (p : List Mod) (f : Ref) : List Ref := sortR ((found p f).map (·.1))
theorem found_mem (p : List Mod) (f r : Ref) : ∀ (l : List Exp) (o : List (Ref × Bool)), r ∈ (l.foldl (foundS p f) o).map (·.1) ↔ (∃ e ∈ l, callB p f e = true ∧ r = tgt f e) ∨ r ∈ o.map (·.1)
  | [], o => by simp
  | e :: l, o => by
    simp only [List.foldl_cons]
    rw [found_mem p f r l, foundS]
    by_cases h : callB p f e = true
    · rw [if_pos h, putK_mem]
      constructor
      · rintro (⟨e', h1, h2⟩ | rfl | h1)
        · exact .inl ⟨e', by simp [h1], h2⟩
        · exact .inl ⟨e, by simp, h, rfl⟩
        · exact .inr h1
      · rintro (⟨e', h1, h2, h3⟩ | h1)
        · rcases List.mem_cons.1 h1 with rfl | h1
          · exact .inr (.inl h3)
          · exact .inl ⟨e', h1, h2, h3⟩
        · exact .inr (.inr h1)
    · rw [if_neg h]
      constructor
      · rintro (⟨e', h1, h2⟩ | h1)
        · exact .inl ⟨e', by simp [h1], h2⟩
        · exact .inr h1
      · rintro (⟨e', h1, h2, h3⟩ | h1)
        · rcases List.mem_cons.1 h1 with rfl | h1
          · exact absurd h2 h
          · exact .inl ⟨e', h1, h2, h3⟩
        · exact .inr h1
theorem found_nodup (p : List Mod) (f : Ref) : ∀ (l : List Exp) (o : List (Ref × Bool)), (o.map (·.1)).Nodup → ((l.foldl (foundS p f) o).map (·.1)).Nodup
  | [], o, h => h
  | e :: l, o, h => by
    simp only [List.foldl_cons]
    refine found_nodup p f l _ ?_
    unfold foundS
    split
    · exact putK_nodup _ _ _ h
    · exact h
theorem mem_callL {p : List Mod} {f r : Ref} : r ∈ callL p f ↔ ∃ e ∈ nodesL (bodyR p f), callB p f e = true ∧ r = tgt f e := by
  unfold callL
  rw [(sortR_perm _).mem_iff]
  unfold found
  rw [found_mem]
  simp
theorem callL_nodup (p : List Mod) (f : Ref) : (callL p f).Nodup := (sortR_perm _).nodup_iff.2 (found_nodup p f _ [] (by simp))
theorem callL_in {p : List Mod} {f r : Ref} (h : r ∈ callL p f) : (findR p r).isSome = true := by
  obtain ⟨e, _, h2, rfl⟩ := mem_callL.1 h
  unfold callB at h2
  cases hf : findR p (tgt f e) with
  | none => rw [hf] at h2; simp at h2
  | some g => rfl
theorem callL_none {p : List Mod} {f : Ref} (h : findR p f = none) : callL p f = [] := by
  rw [List.eq_nil_iff_forall_not_mem]
  intro r hr
  obtain ⟨e, h1, h2, _⟩ := mem_callL.1 hr
  unfold bodyR at h1
  rw [h] at h1
  have : e = zeroE := by simpa [zeroF, zeroE, nodesL_eq, Exp.args] using h1
  subst this
  cases h2
def newD (C : Ref → List Ref) (D : List (Ref × List Ref)) (x : Ref) (c : List Ref) : List (Ref × List Ref) := ((C x).filter fun r => !(D.map (·.1)).contains r).map fun r => (r, c ++ [r])
def bfsD (C : Ref → List Ref) : Nat → Nat → List (Ref × List Ref) → List (Ref × List Ref)
  | 0, _, D => D
  | n + 1, k, D => match D[k]? with
    | none => D
    | some (x, c) => bfsD C n (k + 1) (D ++ newD C D x c)
def reachD (p : List Mod) (f : Ref) : List (Ref × List Ref) := if (findR p f).isSome then bfsD (callL p) ((idxP p).length + 1) 0 [(f, [f])] else []
end Go.Av.Ap

/- What is reached in its order: laws. No condition. -/
namespace Go.Av.Ap
open Go Go.Av
theorem len_le_of_sub {α : Type} [DecidableEq α] : ∀ {l m : List α}, l.Nodup → (∀ x ∈ l, x ∈ m) → l.length ≤ m.length
  | [], m, _, _ => Nat.zero_le _
  | x :: l, m, hn, hs => by
    have hx := hs x List.mem_cons_self
    have := len_le_of_sub (l := l) (m := m.erase x) (List.nodup_cons.1 hn).2 (fun y hy => by
      have hne : y ≠ x := fun e => (List.nodup_cons.1 hn).1 (e ▸ hy)
      exact (List.mem_erase_of_ne hne).2 (hs y (List.mem_cons_of_mem _ hy)))
    rw [List.length_erase_of_mem hx] at this
    have := List.length_pos_of_mem hx
    simp only [List.length_cons]
    omega
def stepD (c : List Ref) (D : List (Ref × List Ref)) (r : Ref) : List (Ref × List Ref) := if r ∈ D.map (·.1) then D else D ++ [(r, c ++ [r])]
theorem step_new (c : List Ref) : ∀ (l : List Ref) (D : List (Ref × List Ref)), l.Nodup → l.foldl (stepD c) D = D ++ ((l.filter fun r => !(D.map (·.1)).contains r).map fun r => (r, c ++ [r]))
  | [], D, _ => by simp
  | r :: l, D, hn => by
    obtain ⟨h1, h2⟩ := List.nodup_cons.1 hn
    simp only [List.foldl_cons]
    rw [step_new c l _ h2]
    unfold stepD
    by_cases hr : r ∈ D.map (·.1)
    · have : (!(D.map (·.1)).contains r) = false := by simpa using hr
      rw [if_pos hr, List.filter_cons_of_neg (p := fun r => !(D.map (·.1)).contains r) (by rw [this]; simp)]
    · have h3 : (!(D.map (·.1)).contains r) = true := by simpa using hr
      rw [if_neg hr, List.filter_cons_of_pos (p := fun r => !(D.map (·.1)).contains r) h3]
      simp only [List.map_cons, List.append_assoc, List.cons_append, List.nil_append]
      congr 2
      congr 1
      apply List.filter_congr
      intro y hy
      have hne : y ≠ r := fun e => h1 (e ▸ hy)
      simp [hne]
theorem newD_eq (C : Ref → List Ref) (D : List (Ref × List Ref)) (x : Ref) (c : List Ref) (h : (C x).Nodup) : (C x).foldl (stepD c) D = D ++ newD C D x c := step_new c _ _ h
theorem newD_mem {C : Ref → List Ref} {D : List (Ref × List Ref)} {x : Ref} {c : List Ref} {e : Ref × List Ref} : e ∈ newD C D x c ↔ e.1 ∈ C x ∧ e.1 ∉ D.map (·.1) ∧ e.2 = c ++ [e.1] := by
  unfold newD
  rw [List.mem_map]
  constructor
  · rintro ⟨r, hr, rfl⟩
    rw [List.mem_filter] at hr
    exact ⟨hr.1, by simpa using hr.2, rfl⟩
  · rintro ⟨h1, h2, h3⟩
    exact ⟨e.1, List.mem_filter.2 ⟨h1, by simpa using h2⟩, by rw [← h3]⟩
structure DInv (p : List Mod) (f : Ref) (k : Nat) (D : List (Ref × List Ref)) : Prop where
  nodup : (D.map (·.1)).Nodup
  inn : ∀ e ∈ D, (findR p e.1).isSome = true
  chain : ∀ e ∈ D, e = (f, [f]) ∨ ∃ y c, (y, c) ∈ D ∧ e.1 ∈ callL p y ∧ e.2 = c ++ [e.1]
  closed : ∀ i e, i < k → D[i]? = some e → ∀ r ∈ callL p e.1, r ∈ D.map (·.1)
  start : (f, [f]) ∈ D
theorem idx_keys (p : List Mod) (r : Ref) : r ∈ (idxP p).map (·.1) ↔ (findR p r).isSome = true := by
  have := @getK_none Fun (idxP p) r
  rw [idx_get] at this
  cases h : findR p r with
  | none => rw [h] at this; simpa using this.1 rfl
  | some g => rw [h] at this; simpa using this
theorem DInv.len {p : List Mod} {f : Ref} {k : Nat} {D : List (Ref × List Ref)} (I : DInv p f k D) : D.length ≤ (idxP p).length := by
  have := len_le_of_sub (l := D.map (·.1)) (m := (idxP p).map (·.1)) I.nodup (fun x hx => by
    obtain ⟨e, he, rfl⟩ := List.mem_map.1 hx
    exact (idx_keys p _).2 (I.inn e he))
  simpa using this
theorem DInv.zero {p : List Mod} {f : Ref} (h : (findR p f).isSome = true) : DInv p f 0 [(f, [f])] where
  nodup := by simp
  inn := fun e he => by rw [List.mem_singleton.1 he]; exact h
  chain := fun e he => .inl (List.mem_singleton.1 he)
  closed := fun i e hi => by omega
  start := List.mem_singleton.2 rfl
theorem DInv.step {p : List Mod} {f : Ref} {k : Nat} {D : List (Ref × List Ref)} (I : DInv p f k D) {x : Ref} {c : List Ref} (hk : D[k]? = some (x, c)) : DInv p f (k + 1) (D ++ newD (callL p) D x c) where
  nodup := by
    rw [List.map_append, List.nodup_append]
    refine ⟨I.nodup, ?_, fun a ha b hb e => ?_⟩
    · have : (newD (callL p) D x c).map (·.1) = (callL p x).filter fun r => !(D.map (·.1)).contains r := by
        unfold newD; rw [List.map_map]; exact List.map_id _
      rw [this]
      exact (callL_nodup p x).filter _
    · obtain ⟨y, hy, rfl⟩ := List.mem_map.1 hb
      exact (newD_mem.1 hy).2.1 (e ▸ ha)
  inn := fun e he => by
    rcases List.mem_append.1 he with he | he
    · exact I.inn e he
    · exact callL_in (newD_mem.1 he).1
  chain := fun e he => by
    rcases List.mem_append.1 he with he | he
    · rcases I.chain e he with h | ⟨y, c', h1, h2⟩
      · exact .inl h
      · exact .inr ⟨y, c', List.mem_append_left _ h1, h2⟩
    · obtain ⟨h1, h2, h3⟩ := newD_mem.1 he
      exact .inr ⟨x, c, List.mem_append_left _ (List.mem_of_getElem? hk), h1, h3⟩
  closed := fun i e hi he r hr => by
    rw [List.map_append, List.mem_append]
    have hkl : k < D.length := (List.getElem?_eq_some_iff.1 hk).1
    rw [List.getElem?_append_left (by omega)] at he
    by_cases h : i < k
    · exact .inl (I.closed i e h he r hr)
    · obtain rfl : i = k := by omega
      rw [hk] at he
      cases he
      by_cases hm : r ∈ D.map (·.1)
      · exact .inl hm
      · exact .inr (List.mem_map.2 ⟨(r, c ++ [r]), newD_mem.2 ⟨hr, hm, rfl⟩, rfl⟩)
  start := List.mem_append_left _ I.start
theorem bfs_inv {p : List Mod} {f : Ref} : ∀ (n k : Nat) (D : List (Ref × List Ref)), DInv p f k D → (idxP p).length ≤ k + n → DInv p f (bfsD (callL p) n k D).length (bfsD (callL p) n k D)
  | 0, k, D, I, h => by
    have := I.len
    exact ⟨I.nodup, I.inn, I.chain, fun i e hi he => I.closed i e (by simp only [bfsD] at hi; omega) he, I.start⟩
  | n + 1, k, D, I, h => by
    simp only [bfsD]
    cases hk : D[k]? with
    | none =>
      have := List.getElem?_eq_none_iff.1 hk
      exact ⟨I.nodup, I.inn, I.chain, fun i e hi he => I.closed i e (by simp only at hi; omega) he, I.start⟩
    | some e =>
      obtain ⟨x, c⟩ := e
      exact bfs_inv n (k + 1) _ (I.step hk) (by omega)
theorem reach_inv {p : List Mod} {f : Ref} (h : (findR p f).isSome = true) : DInv p f (reachD p f).length (reachD p f) := by
  unfold reachD
  rw [if_pos h]
  exact bfs_inv _ 0 _ (DInv.zero h) (by omega)
theorem reach_closed {p : List Mod} {f : Ref} {x : Ref} (hx : x ∈ (reachD p f).map (·.1)) : ∀ r ∈ callL p x, r ∈ (reachD p f).map (·.1) := by
  by_cases h : (findR p f).isSome = true
  · obtain ⟨e, he, rfl⟩ := List.mem_map.1 hx
    obtain ⟨i, hi, rfl⟩ := List.getElem_of_mem he
    exact (reach_inv h).closed i _ hi (List.getElem?_eq_getElem hi)
  · unfold reachD at hx
    rw [if_neg h] at hx
    cases hx
def preR (e : Ref × List Ref) : Ref × Ref := (e.1, e.2.dropLast.getLastD e.1)
theorem preR_cons (c : List Ref) (r y : Ref) (hc : c.getLast? = some y) : preR (r, c ++ [r]) = (r, y) := by
  simp [preR, List.getLastD_eq_getLast?, hc]
theorem DInv.last {p : List Mod} {f : Ref} {k : Nat} {D : List (Ref × List Ref)} (I : DInv p f k D) {e : Ref × List Ref} (he : e ∈ D) : e.2.getLast? = some e.1 := by
  rcases I.chain e he with rfl | ⟨y, c, _, _, h⟩
  · rfl
  · rw [h]; simp
def rowD (D : List (Ref × List Ref)) : List AV := [.tup ((D.map preR).map (entA refA))]
end Go.Av.Ap

/- Steps on rows, and over maps. No condition. -/
namespace Go.Av.Ap
open Go Go.Av
theorem loadH_one {T : TT} {t : Nat} {ti : TI} (ht : T t = some ti) (ha : ti.agg = false) {h : Hp} {l k : Nat} {cs : List AV} {v : AV} (h0 : h[l]? = some cs) (h1 : cs[k]? = some v) : loadH T t (.hp l k) h = .ok v h := by
  simp [loadH, ht, h0, ha, h1]
theorem loadH_agg {T : TT} {t : Nat} {ti : TI} (ht : T t = some ti) (ha : ti.agg = true) {h : Hp} {l k : Nat} {cs : List AV} (h0 : h[l]? = some cs) (hle : k + ti.size ≤ cs.length) : loadH T t (.hp l k) h = .ok (.agg ((cs.drop k).take ti.size)) h := by
  simp [loadH, ht, h0, ha, hle]
theorem storeH_ok {T : TT} {t : Nat} {ti : TI} (ht : T t = some ti) {h : Hp} {l k : Nat} {cs : List AV} {v : AV} (h0 : h[l]? = some cs) (hv : okEl ti.size v = true) (hle : k + ti.size ≤ cs.length) (hp : 0 < ti.size) :
    storeH T t (.hp l k) v h = .ok (.tup []) (h.set l (setCells cs k (acells v))) := by
  simp [storeH, ht, h0, hv, hle, hp]
theorem appH_row {T : TT} {t e : Nat} {ti ei : TI} (ht : T t = some ti) (hk : ti.kind = .slice e) (he : T e = some ei) {x : AV} (hx : okEl ei.size x = true) (hb : 0 < ei.bytes) (hs : 0 < ei.size) {h : Hp} {q n : Nat} {cs : List AV} (h0 : h[q]? = some cs) (hok : cs.all okCell = true)
    (hl : cs.length = n * ei.size) (hn : 0 < n) (hc : (n + 1) * ei.bytes ≤ 140737488355328) : appH T t false (.hs q 0 n ei.size ei.agg) (.sl [x]) h = .ok (.hs h.length 0 (n + 1) ei.size ei.agg) ((h.set q []) ++ [cs ++ acells x]) := by
  have h1 : okSz ei.size [x] = true := by simp [okSz, hx]
  have h2 : List.all cs okCell = true := hok
  have h3 : 0 < n * ei.size := Nat.mul_pos hn hs
  have h4 : cs.take (n * ei.size) = cs := by rw [← hl]; exact List.take_length
  simp only [appH, ht, hk, he, elsOf, h1, hb, hs, strOk, h0, h2, hl, decide_true, Bool.and_self, cond_true, beq_self_eq_true, List.length_singleton, List.isEmpty_cons, cond_false, List.flatMap_cons, List.flatMap_nil, List.append_nil, h3, h4, Nat.le_refl]
  rw [decide_eq_true hc]
  simp
theorem pos_back (qs : List Nat) : (qs.map fun (i : Nat) => AV.int .i64 i).map natOf = qs := by
  induction qs with
  | nil => rfl
  | cons q qs ih => simp only [List.map_cons, ih]; rfl
theorem nxt_nil {l m : Nat} {n : Int} {c : AV} {kf kt : M AV} {h : Hp} {es : List AV} (hl : h[l]? = some [.tup [], .mp m, .int .i64 n, posA [], c]) (hm : h[m]? = some [.tup es]) (hn : (es.length : Int) = n) : nxtM (.it l) kf kt h = kf (h.set l []) := by
  simp only [nxtM, hl, posA, hm, if_pos hn, pos_back]
theorem nxt_nilm {l : Nat} {kf kt : M AV} {h : Hp} (hl : h[l]? = some [.tup [], .nilm]) : nxtM (.it l) kf kt h = kf (h.set l []) := by simp only [nxtM, hl]
theorem demM_eq {ps : List Nat} {k : Nat → M AV} {h : Hp} {r : R AV} (hne : ps ≠ []) (hall : ∀ q ∈ ps, k q h = r) : demM ps k h = r := by
  cases ps with
  | nil => exact absurd rfl hne
  | cons p ps =>
    simp only [demM]
    rw [if_pos (fun q hq => (hall q (List.mem_cons_of_mem _ hq)).trans (hall p List.mem_cons_self).symm)]
    exact hall p List.mem_cons_self
theorem nxt_cons {l m : Nat} {n : Int} {qs : List Nat} {c : AV} {kf kt : M AV} {h : Hp} {es : List AV} {r : R AV} (hl : h[l]? = some [.tup [], .mp m, .int .i64 n, posA qs, c]) (hm : h[m]? = some [.tup es]) (hn : (es.length : Int) = n) (hne : qs ≠ [])
    (hall : ∀ q ∈ qs, kt (h.set l [.tup [], .mp m, .int .i64 n, posA (qs.filter fun r => !(Nat.beq r q)), .int .i64 (q : Nat)]) = r) : nxtM (.it l) kf kt h = r := by
  cases qs with
  | nil => exact absurd rfl hne
  | cons p ps =>
    have h1 : nxtM (.it l) kf kt h = demM (p :: ps) (fun q h => kt (h.set l [.tup [], .mp m, .int .i64 n, posA ((p :: ps).filter fun r => !(Nat.beq r q)), .int .i64 (q : Nat)])) h := by
      simp only [nxtM, hl, posA, hm, if_pos hn, pos_back]
    rw [h1]
    exact demM_eq (k := fun q h => kt (h.set l [.tup [], .mp m, .int .i64 n, posA ((p :: ps).filter fun r => !(Nat.beq r q)), .int .i64 (q : Nat)])) hne hall
theorem entry_at {l m q : Nat} {n : Int} {x k v : AV} {h : Hp} {es : List AV} (hl : h[l]? = some [.tup [], .mp m, .int .i64 n, x, .int .i64 (q : Nat)]) (hm : h[m]? = some [.tup es]) (hn : (es.length : Int) = n) (hq : es[q]? = some (.tup [k, v])) : entryH (.it l) h = .ok (.tup [k, v]) h := by
  simp only [entryH, hl, hm, if_pos hn, Int.toNat_natCast, hq]
theorem nbeq {a b : Nat} (h : ¬ a = b) : Nat.beq a b = false := by
  cases hb : Nat.beq a b with
  | false => rfl
  | true => exact absurd (Nat.eq_of_beq_eq_true hb) h
theorem perm_filter {q : Nat} : ∀ {qs : List Nat}, qs.Nodup → q ∈ qs → qs.Perm (q :: qs.filter fun r => !(Nat.beq r q))
  | [], _, h => by cases h
  | x :: qs, hn, h => by
    obtain ⟨h1, h2⟩ := List.nodup_cons.1 hn
    by_cases hx : x = q
    · subst hx
      have e : qs.filter (fun r => !(Nat.beq r x)) = qs := List.filter_eq_self.2 fun y hy => by
        have : ¬ y = x := fun e => h1 (e ▸ hy)
        simp [nbeq this]
      rw [List.filter_cons_of_neg (by simp), e]
    · have hq : q ∈ qs := by
        rcases List.mem_cons.1 h with h | h
        · exact absurd h.symm hx
        · exact h
      rw [List.filter_cons_of_pos (by simp [nbeq hx])]
      exact ((perm_filter h2 hq).cons x).trans (List.Perm.swap _ _ _)
theorem nodup_filter {q : Nat} {qs : List Nat} (h : qs.Nodup) : (qs.filter fun r => !(Nat.beq r q)).Nodup := h.filter _
def sA (b : BitVec 64) : AV := .int .i64 b.toInt
def effN (e : Exp) : BitVec 64 := if e.op = 16 then BitVec.ofInt 64 e.n &&& 15#64 else 0#64
def orS (s : BitVec 64) (e : Exp) : BitVec 64 := s ||| effN e
def effB (p : List Mod) (r : Ref) : BitVec 64 := (nodesL (bodyR p r)).foldl orS 0#64
theorem foldl_or {α : Type} (v : α → BitVec 64) : ∀ (l : List α) (s : BitVec 64), l.foldl (fun s x => s ||| v x) s = s ||| l.foldl (fun s x => s ||| v x) 0#64
  | [], s => by simp
  | x :: l, s => by
    simp only [List.foldl_cons]
    rw [foldl_or v l (s ||| v x), foldl_or v l (0#64 ||| v x)]
    simp [BitVec.or_assoc]
theorem effB_from (p : List Mod) (r : Ref) (s : BitVec 64) : (nodesL (bodyR p r)).foldl orS s = s ||| effB p r := foldl_or effN _ s
def orQ {α : Type} (v : α → BitVec 64) (s : BitVec 64) (qs : List α) : BitVec 64 := qs.foldl (fun s q => s ||| v q) s
theorem orQ_perm {α : Type} (v : α → BitVec 64) {a b : List α} (h : a.Perm b) (s : BitVec 64) : orQ v s a = orQ v s b := by
  refine h.foldl_eq' (fun x _ y _ z => ?_) s
  rw [BitVec.or_assoc, BitVec.or_comm (v x), ← BitVec.or_assoc]
theorem wrap_bv (b : BitVec 64) : IntKind.i64.wrap b.toNat = b.toInt := by
  have h := b.isLt
  rw [BitVec.toInt_eq_toNat_cond]
  have h1 : (2 : Int) ^ IntKind.i64.bits = 18446744073709551616 := rfl
  have h2 : (2 : Int) ^ (IntKind.i64.bits - 1) = 9223372036854775808 := rfl
  have h3 : ((2 ^ 64 : Nat) : Int) = 18446744073709551616 := rfl
  have h4 : (b.toNat : Int) % 18446744073709551616 = b.toNat := by omega
  simp only [IntKind.wrap, h1, h2, h3, h4]
  have h5 : IntKind.i64.signed = true := rfl
  rw [h5, Bool.true_and]
  by_cases hb : 2 * b.toNat < 2 ^ 64
  · rw [if_pos hb, if_neg (by simp; omega)]
  · rw [if_neg hb, if_pos (by simp; omega)]
theorem sA_or (T : TT) (t : Nat) (a b : BitVec 64) : binA T .or t (sA a) (sA b) = some (sA (a ||| b)) := by
  have : intA .or .i64 a.toInt b.toInt = some (sA (a ||| b)) := by
    show some (AV.int .i64 (IntKind.i64.wrap (BitVec.ofInt 64 a.toInt ||| BitVec.ofInt 64 b.toInt).toNat)) = _
    rw [BitVec.ofInt_toInt, BitVec.ofInt_toInt, wrap_bv]
    rfl
  simpa [binA, sA, isShift] using this
theorem sA_and (T : TT) (t : Nat) (n : Int) : binA T .and t (.int .i64 n) (.int .i64 15) = some (sA (BitVec.ofInt 64 n &&& 15#64)) := by
  have : intA .and .i64 n 15 = some (sA (BitVec.ofInt 64 n &&& 15#64)) := by
    show some (AV.int .i64 (IntKind.i64.wrap (BitVec.ofInt 64 n &&& BitVec.ofInt 64 15).toNat)) = _
    rw [wrap_bv]
    rfl
  simpa [binA, sA, isShift] using this
end Go.Av.Ap

/- References in rows. No condition. -/
namespace Go.Av.Ap
open Go Go.Av
def cellsR : List Ref → List AV
  | [] => []
  | r :: l => .str r.1 :: .str r.2 :: cellsR l
theorem cellsR_len : ∀ l : List Ref, (cellsR l).length = l.length * 2
  | [] => rfl
  | r :: l => by simp only [cellsR, List.length_cons, cellsR_len l]; omega
theorem cellsR_ok : ∀ l : List Ref, (cellsR l).all okCell = true
  | [] => rfl
  | r :: l => by simp only [cellsR, List.all_cons, cellsR_ok l, Bool.and_true]; rfl
theorem cellsR_app : ∀ a b : List Ref, cellsR (a ++ b) = cellsR a ++ cellsR b
  | [], b => rfl
  | r :: a, b => by simp only [List.cons_append, cellsR, cellsR_app a b]
theorem cellsR_get : ∀ (l : List Ref) (i : Nat) (h : i < l.length), ((cellsR l).drop (i * 2)).take 2 = [.str l[i].1, .str l[i].2]
  | r :: l, 0, _ => rfl
  | r :: l, i + 1, h => by
    rw [show (i + 1) * 2 = i * 2 + 1 + 1 by omega]
    simp only [cellsR, List.drop_succ_cons, List.getElem_cons_succ]
    exact cellsR_get l i (by simpa using h)
theorem cellsR_set : ∀ (l : List Ref) (i : Nat) (_ : i < l.length) (r : Ref), setCells (cellsR l) (i * 2) [.str r.1, .str r.2] = cellsR (l.set i r)
  | x :: l, 0, _, r => rfl
  | x :: l, i + 1, h, r => by
    have ih := cellsR_set l i (by simpa using h) r
    unfold setCells at ih ⊢
    rw [show (i + 1) * 2 = i * 2 + 1 + 1 by omega, show i * 2 + 1 + 1 + [AV.str r.1, AV.str r.2].length = i * 2 + [AV.str r.1, AV.str r.2].length + 1 + 1 by simp]
    simp only [cellsR, List.take_succ_cons, List.drop_succ_cons, List.cons_append, List.set_cons_succ]
    rw [ih]
theorem frz_refs {h : Hp} {l : Nat} {P : List Ref} (hl : h[l]? = some (cellsR P)) (d : Nat) : frz (d + 1) h (.hs l 0 P.length 2 true) = refsA P := by
  have h1 : (decide (0 + P.length * 2 ≤ (cellsR P).length) && decide (0 < 2) && (true || (Nat.beq 2 1 && (cellsR P).all okCell))) = true := by
    rw [cellsR_len]; simp
  simp only [frz, cl, hl, h1, cond_true]
  unfold refsA
  congr 1
  apply List.ext_getElem (by simp)
  intro i h2 h3
  simp at h2
  simp only [List.getElem_map, List.getElem_range, Nat.zero_add]
  rw [cellsR_get P i h2]
  cases d <;> rfl
def swapL (l : List Ref) (i j : Nat) : List Ref := (l.set i ((l[j]?).getD ([], []))).set j ((l[i]?).getD ([], []))
def RevTo (P Q : List Ref) (i : Nat) : Prop := Q.length = P.length ∧ ∀ x, x < P.length → Q[x]? = if x < i ∨ P.length < x + 1 + i then P[P.length - 1 - x]? else P[x]?
theorem revTo_step {P Q : List Ref} {i j : Nat} (H : RevTo P Q i) (hj : i + j + 1 = P.length) (hij : i < j) : RevTo P (swapL Q i j) (i + 1) := by
  refine ⟨by simp [swapL, H.1], fun x hx => ?_⟩
  have hi := H.2 i (by omega)
  have hjj := H.2 j (by omega)
  rw [if_neg (by omega)] at hi hjj
  unfold swapL
  rw [List.getElem?_set, List.getElem?_set]
  have hl : (Q.set i ((Q[j]?).getD ([], []))).length = P.length := by simp [H.1]
  by_cases h1 : j = x
  · subst h1
    rw [if_pos rfl, if_pos (by simp [H.1]; omega), hi, if_pos (by omega), show P.length - 1 - j = i by omega, List.getElem?_eq_getElem (by omega)]
    rfl
  · rw [if_neg h1]
    by_cases h2 : i = x
    · subst h2
      rw [if_pos rfl, if_pos (by rw [H.1]; omega), hjj, if_pos (by omega), show P.length - 1 - i = j by omega, List.getElem?_eq_getElem (by omega)]
      rfl
    · rw [if_neg h2, H.2 x hx]
      by_cases h3 : x < i ∨ P.length < x + 1 + i
      · rw [if_pos h3, if_pos (by omega)]
      · rw [if_neg h3, if_neg (by omega)]
theorem revTo_end {P Q : List Ref} {i j : Int} (H : RevTo P Q i.toNat) (hi : 0 ≤ i) (hj : i + j + 1 = P.length) (hij : ¬ i < j) : Q = P.reverse := by
  apply List.ext_getElem?
  intro x
  by_cases hx : x < P.length
  · rw [H.2 x hx, List.getElem?_reverse hx]
    by_cases h3 : x < i.toNat ∨ P.length < x + 1 + i.toNat
    · rw [if_pos h3]
    · rw [if_neg h3, show P.length - 1 - x = x by omega]
  · rw [List.getElem?_eq_none (by rw [H.1]; omega), List.getElem?_eq_none (by simp; omega)]
theorem DInv.uniq {p : List Mod} {f : Ref} {k : Nat} {D : List (Ref × List Ref)} (I : DInv p f k D) {x : Ref} {c d : List Ref} (h1 : (x, c) ∈ D) (h2 : (x, d) ∈ D) : c = d := by
  have e1 := getK_nodup I.nodup h1
  have e2 := getK_nodup I.nodup h2
  rw [e1] at e2
  exact Option.some.inj e2
theorem chain_list {p : List Mod} {f : Ref} {k : Nat} {D : List (Ref × List Ref)} (I : DInv p f k D) : ∀ (n : Nat) (e : Ref × List Ref), e ∈ D → e.2.length = n → ∃ l : List (Ref × List Ref), l.Nodup ∧ l.length = n ∧ ∀ a ∈ l, a ∈ D ∧ a.2.length ≤ n := by
  intro n
  induction n with
  | zero => intro e he hn; exact ⟨[], List.nodup_nil, rfl, fun a ha => by cases ha⟩
  | succ n ih =>
    intro e he hn
    rcases I.chain e he with rfl | ⟨y, c, h1, h2, h3⟩
    · simp at hn
      subst hn
      exact ⟨[(f, [f])], by simp, rfl, fun a ha => by rw [List.mem_singleton.1 ha]; exact ⟨he, Nat.le_refl _⟩⟩
    · obtain ⟨l, l1, l2, l3⟩ := ih (y, c) h1 (by rw [h3] at hn; simpa using hn)
      refine ⟨e :: l, List.nodup_cons.2 ⟨fun hm => ?_, l1⟩, by simp [l2], fun a ha => ?_⟩
      · have := (l3 e hm).2; omega
      · rcases List.mem_cons.1 ha with rfl | ha
        · exact ⟨he, by omega⟩
        · exact ⟨(l3 a ha).1, Nat.le_succ_of_le (l3 a ha).2⟩
theorem chain_len {p : List Mod} {f : Ref} {k : Nat} {D : List (Ref × List Ref)} (I : DInv p f k D) {e : Ref × List Ref} (he : e ∈ D) : e.2.length ≤ D.length := by
  obtain ⟨l, l1, l2, l3⟩ := chain_list I _ e he rfl
  have := len_le_of_sub l1 fun a ha => (l3 a ha).1
  omega
theorem frz_pair {h : Hp} {l : Nat} {P : List Ref} (hl : h[l]? = some (cellsR P)) (b : Bool) : frz 6 h (.tup [.hs l 0 P.length 2 true, .bool b]) = .tup [refsA P, .bool b] := by
  have := frz_refs hl 5
  have e : frz 6 h (.tup [.hs l 0 P.length 2 true, .bool b]) = .tup [frz 6 h (.hs l 0 P.length 2 true), .bool b] := rfl
  rw [e, this]
end Go.Av.Ap

/- Laws of what is reached: chains, closure, order. No condition. -/
namespace Go.Av.Ap
open Go Go.Av
def allL (p : List Mod) (f : Ref) : List Ref := sortR ((reachD p f).map (·.1))
def pathR (p : List Mod) (f t : Ref) : Option (List Ref) := getK (reachD p f) t
theorem mem_all {p : List Mod} {f x : Ref} : x ∈ allL p f ↔ x ∈ (reachD p f).map (·.1) := (sortR_perm _).mem_iff
theorem all_some {p : List Mod} {f x : Ref} (h : x ∈ allL p f) : (findR p f).isSome = true := by
  rw [mem_all] at h
  by_cases hf : (findR p f).isSome = true
  · exact hf
  · unfold reachD at h
    rw [if_neg hf] at h
    cases h
theorem all_self {p : List Mod} {f : Ref} (h : (findR p f).isSome = true) : f ∈ allL p f := mem_all.2 (List.mem_map.2 ⟨_, (reach_inv h).start, rfl⟩)
theorem all_closed {p : List Mod} {f x r : Ref} (h : x ∈ allL p f) (hr : r ∈ callL p x) : r ∈ allL p f := mem_all.2 (reach_closed (mem_all.1 h) r hr)
theorem all_least {p : List Mod} {x : Ref} {A : Ref → Prop} (hx : A x) (hA : ∀ y r, A y → r ∈ callL p y → A r) : ∀ y ∈ allL p x, A y := by
  intro y hy
  have hf := all_some hy
  have I := reach_inv hf
  have key : ∀ (n : Nat) (e : Ref × List Ref), e ∈ reachD p x → e.2.length = n → A e.1 := by
    intro n
    induction n with
    | zero =>
      intro e he hn
      have := I.last he
      rw [List.length_eq_zero_iff.1 hn] at this
      cases this
    | succ n ih =>
      intro e he hn
      rcases I.chain e he with rfl | ⟨z, c, h1, h2, h3⟩
      · exact hx
      · exact hA z _ (ih (z, c) h1 (by rw [h3] at hn; simpa using hn)) h2
  obtain ⟨e, he, rfl⟩ := List.mem_map.1 (mem_all.1 hy)
  exact key _ e he rfl
theorem all_trans {p : List Mod} {f x y : Ref} (h : x ∈ allL p f) (hy : y ∈ allL p x) : y ∈ allL p f := all_least (A := fun y => y ∈ allL p f) h (fun _ _ h1 h2 => all_closed h1 h2) y hy
theorem path_some {p : List Mod} {f t : Ref} : (pathR p f t).isSome = decide (t ∈ allL p f) := by
  unfold pathR
  cases h : getK (reachD p f) t with
  | none => rw [decide_eq_false (fun hm => getK_none.1 h (mem_all.1 hm))]; rfl
  | some c => rw [decide_eq_true (mem_all.2 (List.mem_map.2 ⟨_, getK_mem h, rfl⟩))]; rfl
theorem chain_pre {p : List Mod} {f : Ref} {k : Nat} {D : List (Ref × List Ref)} (I : DInv p f k D) : ∀ (n : Nat) (x : Ref) (c : List Ref), (x, c) ∈ D → c.length = n → ∀ i (hi : i < c.length), (c[i], c.take (i + 1)) ∈ D := by
  intro n
  induction n with
  | zero => intro x c _ hn i hi; omega
  | succ n ih =>
    intro x c hx hn i hi
    by_cases hl : i + 1 = c.length
    · have h1 := I.last hx
      rw [List.getLast?_eq_getElem?, show c.length - 1 = i by omega, List.getElem?_eq_getElem hi] at h1
      rw [hl, List.take_length, Option.some.inj h1]
      exact hx
    · rcases I.chain _ hx with e | ⟨y, c', h1, h2, h3⟩
      · cases e; simp at hi hl; omega
      · simp only at h3
        subst h3
        have hi' : i < c'.length := by simp at hi hl; omega
        have := ih y c' h1 (by simpa using hn) i hi'
        rw [List.getElem_append_left hi', List.take_append_of_le_length (by omega)]
        exact this
theorem chain_step {p : List Mod} {f : Ref} {k : Nat} {D : List (Ref × List Ref)} (I : DInv p f k D) {x : Ref} {c : List Ref} (hx : (x, c) ∈ D) (i : Nat) (hi : i + 1 < c.length) : c[i + 1] ∈ callL p c[i] := by
  have h1 := chain_pre I _ x c hx rfl (i + 1) hi
  rcases I.chain _ h1 with e | ⟨y, c', h2, h3, h4⟩
  · have := congrArg (fun q => q.2.length) e
    simp at this
    omega
  · simp only at h3 h4
    have h5 := I.last h2
    have hlen := congrArg List.length h4
    rw [List.length_take] at hlen
    simp at hlen
    have hy : c[i] = y := by
      rw [List.getLast?_eq_getElem?] at h5
      simp only at h5
      have e1 : (c.take (i + 1 + 1))[i]? = (c' ++ [c[i + 1]])[i]? := by rw [h4]
      rw [List.getElem?_take_of_lt (by omega), List.getElem?_eq_getElem (by omega), List.getElem?_append_left (by omega)] at e1
      rw [show c'.length - 1 = i by omega] at h5
      rw [h5] at e1
      exact Option.some.inj e1
    rw [hy]
    exact h3
theorem chain_zero {p : List Mod} {f : Ref} {k : Nat} {D : List (Ref × List Ref)} (I : DInv p f k D) {x : Ref} {c : List Ref} (hx : (x, c) ∈ D) (h0 : 0 < c.length) : c[0] = f := by
  have h1 := chain_pre I _ x c hx rfl 0 h0
  rcases I.chain _ h1 with e | ⟨y, c', h2, h3, h4⟩
  · exact congrArg Prod.fst e
  · have hlen := congrArg List.length h4
    rw [List.length_take] at hlen
    simp at hlen
    have h5 := I.last h2
    have : c' = [] := by
      have : c'.length = 0 := by omega
      exact List.length_eq_zero_iff.1 this
    rw [this] at h5
    cases h5
theorem chain_reach {p : List Mod} {f : Ref} {k : Nat} {D : List (Ref × List Ref)} (I : DInv p f k D) {x : Ref} {c : List Ref} (hx : (x, c) ∈ D) : ∀ (n i : Nat) (hi : i < c.length), c.length - 1 - i = n → x ∈ allL p c[i] := by
  intro n
  induction n with
  | zero =>
    intro i hi hn
    have h1 := I.last hx
    rw [List.getLast?_eq_getElem?, show c.length - 1 = i by omega, List.getElem?_eq_getElem hi] at h1
    rw [Option.some.inj h1]
    exact all_self (I.inn _ hx)
  | succ n ih =>
    intro i hi hn
    have h1 := ih (i + 1) (by omega) (by omega)
    have h2 := chain_step I hx i (by omega)
    have h3 := all_self (I.inn _ (chain_pre I _ x c hx rfl i hi))
    exact all_trans (all_closed h3 h2) h1
def allR (p : List Mod) : List Ref := p.flatMap fun m => m.funcs.map fun f => (m.name, f.name)
theorem findR_mem {p : List Mod} {r : Ref} (h : (findR p r).isSome = true) : r ∈ allR p := by
  unfold findR at h
  split at h
  · rename_i m hm
    cases hf : m.funcs.find? fun f => f.name == r.2 with
    | none => rw [hf] at h; cases h
    | some g =>
      have h1 := List.find?_some hm
      have h2 := List.find?_some hf
      refine List.mem_flatMap.2 ⟨m, List.mem_of_find?_eq_some hm, List.mem_map.2 ⟨g, List.mem_of_find?_eq_some hf, ?_⟩⟩
      simp only [beq_iff_eq] at h1 h2
      rw [h1, h2]
  · cases h
theorem allR_len (p : List Mod) {n : Nat} (h : ∀ m ∈ p, m.funcs.length ≤ n) : (allR p).length ≤ p.length * n := by
  induction p with
  | nil => simp [allR]
  | cons m p ih =>
    have h1 := ih (fun m hm => h m (List.mem_cons_of_mem _ hm))
    have h2 := h m List.mem_cons_self
    have : (allR (m :: p)).length = m.funcs.length + (allR p).length := by simp [allR]
    rw [this, List.length_cons, Nat.add_mul]
    omega
theorem idx_len (p : List Mod) : (idxP p).length ≤ (allR p).length := by
  have := len_le_of_sub (l := (idxP p).map (·.1)) (m := allR p) (idx_nodup p) (fun x hx => findR_mem ((idx_keys p x).1 hx))
  simpa using this
theorem all_nodup (p : List Mod) (f : Ref) : (allL p f).Nodup := by
  unfold allL
  refine (sortR_perm _).nodup_iff.2 ?_
  by_cases hf : (findR p f).isSome = true
  · exact (reach_inv hf).nodup
  · unfold reachD; rw [if_neg hf]; exact List.nodup_nil
end Go.Av.Ap

/- A module more; functions one after another. No condition. -/
namespace Go.Av.Ap
open Go Go.Av
theorem findR_more {p : List Mod} {m : Mod} {r : Ref} {g : Fun} (h : findR p r = some g) : findR (p ++ [m]) r = some g := by
  unfold findR at h ⊢
  rw [List.find?_append]
  cases hp : p.find? (fun m => m.name == r.1) with
  | none => rw [hp] at h; cases h
  | some x => rw [hp] at h; exact h
theorem callL_more {p : List Mod} {m : Mod} {x r : Ref} (hx : (findR p x).isSome = true) (h : r ∈ callL p x) : r ∈ callL (p ++ [m]) x := by
  obtain ⟨e, h1, h2, h3⟩ := mem_callL.1 h
  obtain ⟨g, hg⟩ := Option.isSome_iff_exists.1 hx
  refine mem_callL.2 ⟨e, ?_, ?_, h3⟩
  · unfold bodyR at h1 ⊢
    rw [findR_more hg]
    rw [hg] at h1
    exact h1
  · unfold callB at h2 ⊢
    cases ht : findR p (tgt x e) with
    | none => rw [ht] at h2; simp at h2
    | some t =>
      rw [ht] at h2
      rw [findR_more ht]
      exact h2
theorem all_more {p : List Mod} {m : Mod} {f y : Ref} (h : y ∈ allL p f) : y ∈ allL (p ++ [m]) f := by
  have hf := all_some h
  obtain ⟨g, hg⟩ := Option.isSome_iff_exists.1 hf
  have hf2 : (findR (p ++ [m]) f).isSome = true := by rw [findR_more hg]; rfl
  have := all_least (A := fun y => y ∈ allL (p ++ [m]) f ∧ (findR p y).isSome = true) ⟨all_self hf2, hf⟩ (fun y r h1 h2 => ⟨all_closed h1.1 (callL_more h1.2 h2), callL_in h2⟩) y h
  exact this.1
def enumF (n : Str) : List Fun → List Str → List Ref
  | [], _ => []
  | g :: gs, seen => (if g.name ∈ seen then [] else [(n, g.name)]) ++ enumF n gs (seen ++ [g.name])
def enumM : List Mod → List Str → List Ref
  | [], _ => []
  | m :: ms, seen => (if m.name ∈ seen then [] else enumF m.name m.funcs []) ++ enumM ms (seen ++ [m.name])
theorem mem_enumF (n : Str) (r : Ref) : ∀ (gs : List Fun) (seen : List Str), r ∈ enumF n gs seen ↔ r.1 = n ∧ r.2 ∉ seen ∧ r.2 ∈ gs.map (·.name)
  | [], seen => by simp [enumF]
  | g :: gs, seen => by
    simp only [enumF, List.mem_append, mem_enumF n r gs, List.map_cons, List.mem_cons, List.mem_append, not_or]
    by_cases hg : g.name ∈ seen
    · rw [if_pos hg]
      constructor
      · rintro (h | ⟨h1, h2, h3⟩)
        · cases h
        · exact ⟨h1, h2.1, .inr h3⟩
      · rintro ⟨h1, h2, h3⟩
        have hne : ¬ r.2 = g.name := fun e => h2 (e ▸ hg)
        rcases h3 with h3 | h3
        · exact absurd h3 hne
        · exact .inr ⟨h1, ⟨h2, hne, List.not_mem_nil⟩, h3⟩
    · rw [if_neg hg, List.mem_singleton]
      constructor
      · rintro (h | ⟨h1, h2, h3⟩)
        · subst h; exact ⟨rfl, hg, .inl rfl⟩
        · exact ⟨h1, h2.1, .inr h3⟩
      · rintro ⟨h1, h2, h3⟩
        by_cases hne : r.2 = g.name
        · exact .inl (Prod.ext h1 hne)
        · rcases h3 with h3 | h3
          · exact absurd h3 hne
          · exact .inr ⟨h1, ⟨h2, hne, List.not_mem_nil⟩, h3⟩
theorem enumF_nodup (n : Str) : ∀ (gs : List Fun) (seen : List Str), (enumF n gs seen).Nodup
  | [], _ => List.nodup_nil
  | g :: gs, seen => by
    simp only [enumF]
    refine List.nodup_append.2 ⟨by split <;> simp, enumF_nodup n gs _, fun a ha b hb e => ?_⟩
    subst e
    have h2 := ((mem_enumF n a gs _).1 hb).2.1
    split at ha
    · cases ha
    · rw [List.mem_singleton.1 ha] at h2
      simp at h2
theorem mem_enumM (r : Ref) : ∀ (ms : List Mod) (seen : List Str), r ∈ enumM ms seen ↔ r.1 ∉ seen ∧ (findR ms r).isSome = true
  | [], seen => by simp [enumM, findR]
  | m :: ms, seen => by
    simp only [enumM, List.mem_append, mem_enumM r ms, List.mem_singleton, not_or]
    by_cases hn : m.name = r.1
    · have h1 : findR (m :: ms) r = m.funcs.find? fun f => f.name == r.2 := by unfold findR; rw [List.find?_cons_of_pos (by simp [hn])]
      rw [h1, List.find?_isSome]
      by_cases hs : m.name ∈ seen
      · rw [if_pos hs]
        constructor
        · rintro (h | h)
          · cases h
          · exact absurd hn.symm h.1.2
        · rintro ⟨h, _⟩
          exact absurd (hn ▸ hs) h
      · rw [if_neg hs, mem_enumF]
        constructor
        · rintro (⟨_, _, h⟩ | h)
          · obtain ⟨g, hg, e⟩ := List.mem_map.1 h
            exact ⟨hn ▸ hs, g, hg, beq_iff_eq.2 e⟩
          · exact absurd hn.symm h.1.2
        · rintro ⟨_, g, hg, e⟩
          exact .inl ⟨hn.symm, List.not_mem_nil, List.mem_map.2 ⟨g, hg, beq_iff_eq.1 e⟩⟩
    · have h1 : findR (m :: ms) r = findR ms r := by unfold findR; rw [List.find?_cons_of_neg (by simp [hn])]
      have hn' : ¬ r.1 = m.name := fun e => hn e.symm
      rw [h1]
      constructor
      · rintro (h | h)
        · split at h
          · cases h
          · exact absurd ((mem_enumF _ _ _ _).1 h).1 hn'
        · exact ⟨h.1.1, h.2⟩
      · rintro ⟨h2, h3⟩
        exact .inr ⟨⟨h2, hn'⟩, h3⟩
theorem enumM_nodup : ∀ (ms : List Mod) (seen : List Str), (enumM ms seen).Nodup
  | [], _ => List.nodup_nil
  | m :: ms, seen => by
    simp only [enumM]
    refine List.nodup_append.2 ⟨by split; exact List.nodup_nil; exact enumF_nodup _ _ _, enumM_nodup ms _, fun a ha b hb e => ?_⟩
    subst e
    have h2 := ((mem_enumM a ms _).1 hb).1
    split at ha
    · cases ha
    · have := ((mem_enumF _ _ _ _).1 ha).1
      rw [this] at h2
      simp at h2
theorem findR_first {p : List Mod} {i j : Nat} (hi : i < p.length) (h1 : p[i].name ∉ (p.take i).map (·.name)) (hj : j < p[i].funcs.length) (h2 : p[i].funcs[j].name ∉ (p[i].funcs.take j).map (·.name)) :
    findR p (p[i].name, p[i].funcs[j].name) = some p[i].funcs[j] := by
  have hfm : p.find? (fun m => m.name == p[i].name) = some p[i] := by
    refine List.find?_eq_some_iff_getElem.2 ⟨by simp, i, hi, rfl, fun k hk => ?_⟩
    have : ¬ p[k].name = p[i].name := fun e => h1 (List.mem_map.2 ⟨p[k], List.mem_take_iff_getElem.2 ⟨k, by omega, rfl⟩, e⟩)
    simp [this]
  have hff : p[i].funcs.find? (fun m => m.name == p[i].funcs[j].name) = some p[i].funcs[j] := by
    refine List.find?_eq_some_iff_getElem.2 ⟨by simp, j, hj, rfl, fun k hk => ?_⟩
    have : ¬ p[i].funcs[k].name = p[i].funcs[j].name := fun e => h2 (List.mem_map.2 ⟨p[i].funcs[k], List.mem_take_iff_getElem.2 ⟨k, by omega, rfl⟩, e⟩)
    simp [this]
  unfold findR
  simp only [hfm, hff]
end Go.Av.Ap

/- The reference's lists in order: plain functions and their laws. No condition. -/
namespace Go.Av.Ap
open Go Go.Av
def Ord (l : List Ref) : Prop := l.Pairwise fun a b => ltR a b = true
theorem ord_nodup {l : List Ref} (h : Ord l) : l.Nodup := h.imp fun {a b} hab e => by
  subst e; rw [ltR_irr] at hab; cases hab
theorem ord_eq : ∀ {a b : List Ref}, Ord a → Ord b → (∀ x, x ∈ a ↔ x ∈ b) → a = b
  | [], [], _, _, _ => rfl
  | [], y :: b, _, _, h => absurd ((h y).2 List.mem_cons_self) List.not_mem_nil
  | x :: a, [], _, _, h => absurd ((h x).1 List.mem_cons_self) List.not_mem_nil
  | x :: a, y :: b, ha, hb, h => by
    obtain ⟨a1, a2⟩ := List.pairwise_cons.1 ha
    obtain ⟨b1, b2⟩ := List.pairwise_cons.1 hb
    have hxy : x = y := by
      rcases List.mem_cons.1 ((h x).1 List.mem_cons_self) with e | hx
      · exact e
      · rcases List.mem_cons.1 ((h y).2 List.mem_cons_self) with e | hy
        · exact e.symm
        · have := ltR_asym (a1 y hy)
          rw [b1 x hx] at this
          cases this
    subst hxy
    congr 1
    refine ord_eq a2 b2 fun z => ?_
    have := h z
    simp only [List.mem_cons] at this
    constructor
    · intro hz
      rcases this.1 (.inr hz) with e | hz'
      · subst e; have := a1 z hz; rw [ltR_irr] at this; cases this
      · exact hz'
    · intro hz
      rcases this.2 (.inr hz) with e | hz'
      · subst e; have := b1 z hz; rw [ltR_irr] at this; cases this
      · exact hz'
theorem sortR_ord {l : List Ref} (h : l.Nodup) : Ord (sortR l) := by
  have hn : (sortR l).Nodup := (sortR_perm l).nodup_iff.2 h
  have hs := sortR_sorted l
  refine List.Pairwise.imp (R := fun a b => leR a b = true ∧ a ≠ b) ?_ (hs.and hn)
  rintro a b ⟨h1, h2⟩
  exact ltR_tot (by simpa [leR] using h1) (fun e => h2 e.symm)
def putL : List Ref → Ref → List Ref
  | [], r => [r]
  | x :: l, r => if ltR x r = true then x :: putL l r else if x = r then r :: l else r :: x :: l
theorem mem_putL (r y : Ref) : ∀ l : List Ref, y ∈ putL l r ↔ y = r ∨ y ∈ l
  | [] => by simp [putL]
  | x :: l => by
    simp only [putL]
    split
    · simp only [List.mem_cons, mem_putL r y l]
      exact ⟨fun h => by rcases h with h | h | h; exact .inr (.inl h); exact .inl h; exact .inr (.inr h), fun h => by rcases h with h | h | h; exact .inr (.inl h); exact .inl h; exact .inr (.inr h)⟩
    · split
      · rename_i e; subst e; simp
      · simp
theorem putL_ord (r : Ref) : ∀ {l : List Ref}, Ord l → Ord (putL l r)
  | [], _ => List.pairwise_singleton _ _
  | x :: l, h => by
    obtain ⟨h1, h2⟩ := List.pairwise_cons.1 h
    simp only [putL]
    split
    · rename_i hx
      refine List.pairwise_cons.2 ⟨fun y hy => ?_, putL_ord r h2⟩
      rcases (mem_putL r y l).1 hy with rfl | hy
      · exact hx
      · exact h1 y hy
    · split
      · rename_i e; subst e; exact h
      · rename_i hx hne
        have hrx := ltR_tot (by simpa using hx) hne
        refine List.pairwise_cons.2 ⟨fun y hy => ?_, h⟩
        rcases List.mem_cons.1 hy with rfl | hy
        · exact hrx
        · exact ltR_tr hrx (h1 y hy)
def stepW (p : List Mod) (f : Ref) (o : List Ref) (e : Exp) : List Ref := if callB p f e = true then putL o (tgt f e) else o
def GoodO (p : List Mod) (o : List Ref) : Prop := Ord o ∧ ∀ x ∈ o, (findR p x).isSome = true
theorem GoodO.len {p : List Mod} {o : List Ref} (h : GoodO p o) : o.length ≤ (idxP p).length := by
  have := len_le_of_sub (m := (idxP p).map (·.1)) (ord_nodup h.1) (fun x hx => (idx_keys p x).2 (h.2 x hx))
  simpa using this
theorem callB_found {p : List Mod} {f : Ref} {e : Exp} (h : callB p f e = true) : (findR p (tgt f e)).isSome = true := by
  unfold callB at h
  cases hf : findR p (tgt f e) with
  | none => rw [hf] at h; simp at h
  | some g => rfl
theorem GoodO.put {p : List Mod} {o : List Ref} (h : GoodO p o) {r : Ref} (hr : (findR p r).isSome = true) : GoodO p (putL o r) := ⟨putL_ord r h.1, fun x hx => by
  rcases (mem_putL r x o).1 hx with rfl | hx
  · exact hr
  · exact h.2 x hx⟩
theorem GoodO.step {p : List Mod} {f : Ref} {o : List Ref} (h : GoodO p o) (e : Exp) : GoodO p (stepW p f o e) := by
  unfold stepW
  split
  · rename_i hc; exact h.put (callB_found hc)
  · exact h
theorem GoodO.fold {p : List Mod} {f : Ref} : ∀ (l : List Exp) {o : List Ref}, GoodO p o → GoodO p (l.foldl (stepW p f) o)
  | [], _, h => h
  | e :: l, _, h => GoodO.fold l (h.step e)
theorem mem_stepW {p : List Mod} {f r : Ref} : ∀ (l : List Exp) (o : List Ref), r ∈ l.foldl (stepW p f) o ↔ (∃ e ∈ l, callB p f e = true ∧ r = tgt f e) ∨ r ∈ o
  | [], o => by simp
  | e :: l, o => by
    rw [List.foldl_cons, mem_stepW l]
    unfold stepW
    by_cases hc : callB p f e = true
    · rw [if_pos hc, mem_putL]
      constructor
      · rintro (⟨e', h1, h2⟩ | rfl | h)
        · exact .inl ⟨e', List.mem_cons_of_mem _ h1, h2⟩
        · exact .inl ⟨e, List.mem_cons_self, hc, rfl⟩
        · exact .inr h
      · rintro (⟨e', h1, h2, h3⟩ | h)
        · rcases List.mem_cons.1 h1 with rfl | h1
          · exact .inr (.inl h3)
          · exact .inl ⟨e', h1, h2, h3⟩
        · exact .inr (.inr h)
    · rw [if_neg hc]
      constructor
      · rintro (⟨e', h1, h2⟩ | h)
        · exact .inl ⟨e', List.mem_cons_of_mem _ h1, h2⟩
        · exact .inr h
      · rintro (⟨e', h1, h2, h3⟩ | h)
        · rcases List.mem_cons.1 h1 with rfl | h1
          · exact absurd h2 hc
          · exact .inl ⟨e', h1, h2, h3⟩
        · exact .inr h
theorem goodO_nil (p : List Mod) : GoodO p [] := ⟨List.Pairwise.nil, fun x hx => by cases hx⟩
theorem stepW_calls (p : List Mod) (f : Ref) : (nodesL (bodyR p f)).foldl (stepW p f) [] = callL p f := by
  refine ord_eq (GoodO.fold _ (goodO_nil p)).1 (sortR_ord (found_nodup p f _ [] (by simp))) fun x => ?_
  rw [mem_stepW, mem_callL]
  simp
end Go.Av.Ap
