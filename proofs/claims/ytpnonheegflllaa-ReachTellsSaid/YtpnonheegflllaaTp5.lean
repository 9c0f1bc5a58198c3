/- Effects. No condition. -/
import Derived.Test.YtpnonheegflllaaTp4
import Derived.Test.YtpnonheegflllaaLd
namespace Go.Proofs.Ytpnonheegflllaa
open Go Go.Av Go.Av.Ap
set_option maxRecDepth 100000
theorem rep_of {l : Hp} {n : Nat} (h1 : l.length = n) (h2 : ∀ x ∈ l, x = []) : l = List.replicate n [] := List.eq_replicate_iff.2 ⟨h1, h2⟩
theorem t35 (e : Exp) (l : Nat) (h : Hp) (s : BitVec 64) (hl : h[l]? = some [sA s]) : callW pg 35 [e.av, .hp l 0] h = .ok (.tup []) (h.set l [sA (orS s e)]) := by
  rw [C35]
  have h1 : loadH T 3 (.hp l 0) h = .ok (sA s) h := loadH_one rfl rfl hl rfl
  have h2 : ∀ v, storeH T 3 (.hp l 0) (sA v) h = .ok (.tup []) (h.set l [sA v]) := fun v => storeH_ok (T := T) (t := 3) (h := h) (l := l) (k := 0) (cs := [sA s]) (v := sA v) rfl hl rfl (by exact Nat.le_refl 1) (by exact Nat.one_pos)
  simp [S35]
  unfold orS effN
  by_cases h16 : e.op = 16
  · simp only [h16, if_true]
    rw [bnd_ok h1]
    simp [sA_and, sA_or]
    rw [bnd_ok (h2 _)]
    rfl
  · simp only [h16, if_false]
    have : h.set l [sA (s ||| 0#64)] = h := by
      obtain ⟨h3, h4⟩ := List.getElem?_eq_some_iff.1 hl
      simp
      rw [← h4]
      simp
    rw [this]
    rfl
def keyD (D : List (Ref × List Ref)) (q : Nat) : Ref := ((D.map (·.1))[q]?).getD ([], [])
theorem loop15 {p : List Mod} (S : Sm p) (D : List (Ref × List Ref)) (J : Hp) : ∀ (n : Nat) (qs : List Nat) (s : BitVec 64) (c : AV), qs.length = n → qs.Nodup → (∀ q ∈ qs, q < D.length) →
    fixW (L15_0 (callW pg) fixW) [.mp 0, .hp 1 0, .it (J.length + 3)] ([.tup ((idxP p).map (entA Fun.av))] :: [sA s] :: rowD D :: (J ++ [[.tup [], .mp 2, .int .i64 D.length, posA qs, c]])) =
      .ok (sA (orQ (fun q => effB p (keyD D q)) s qs)) (List.replicate (J.length + 4) []) := by
  intro n
  induction n with
  | zero =>
    intro qs s c hn _ _
    obtain rfl : qs = [] := List.length_eq_zero_iff.1 hn
    rw [FL15_0]
    simp only [L15_0]
    simp only [nth_zero, nth_succ]
    rw [nxt_nil (l := J.length + 3) (m := 2) (n := D.length) (c := c) (es := (D.map preR).map (entA refA)) (by simp) rfl (by simp)]
    have h1 : loadH T 3 (.hp 1 0) (([.tup ((idxP p).map (entA Fun.av))] :: [sA s] :: rowD D :: (J ++ [[.tup [], .mp 2, .int .i64 D.length, posA [], c]])).set (J.length + 3) []) = .ok (sA s) _ := loadH_one rfl rfl rfl rfl
    rw [bnd_ok h1]
    simp [fzM, orQ]
    exact ⟨rfl, rep_of (by simp) (fun x hx => by simp at hx; rcases hx with h | ⟨_, h⟩ | h <;> exact h)⟩
  | succ n IH =>
    intro qs s c hn hnd hlt
    rw [FL15_0]
    simp only [L15_0]
    simp only [nth_zero, nth_succ]
    apply nxt_cons (m := 2) (n := D.length) (qs := qs) (c := c) (es := (D.map preR).map (entA refA))
    · simp
    · rfl
    · simp
    · intro e; rw [e] at hn; cases hn
    intro q hq
    have hset : ([.tup ((idxP p).map (entA Fun.av))] :: [sA s] :: rowD D :: (J ++ [[.tup [], .mp 2, .int .i64 D.length, posA qs, c]])).set (J.length + 3) [.tup [], .mp 2, .int .i64 D.length, posA (qs.filter fun r => !(Nat.beq r q)), .int .i64 (q : Nat)] =
      [.tup ((idxP p).map (entA Fun.av))] :: [sA s] :: rowD D :: (J ++ [[.tup [], .mp 2, .int .i64 D.length, posA (qs.filter fun r => !(Nat.beq r q)), .int .i64 (q : Nat)]]) := by simp
    rw [hset]
    have hqD := hlt q hq
    have hent : ((D.map preR).map (entA refA))[q]? = some (.tup [refA (keyD D q), refA (preR D[q]).2]) := by
      rw [List.getElem?_map, List.getElem?_map, List.getElem?_eq_getElem hqD]
      simp only [Option.map_some, keyD, List.getElem?_map, List.getElem?_eq_getElem hqD, Option.getD_some]
      rfl
    have h1 := entry_at (l := J.length + 3) (m := 2) (q := q) (n := D.length) (x := posA (qs.filter fun r => !(Nat.beq r q))) (k := refA (keyD D q)) (v := refA (preR D[q]).2) (es := (D.map preR).map (entA refA))
      (h := [.tup ((idxP p).map (entA Fun.av))] :: [sA s] :: rowD D :: (J ++ [[.tup [], .mp 2, .int .i64 D.length, posA (qs.filter fun r => !(Nat.beq r q)), .int .i64 (q : Nat)]])) (by simp) rfl (by simp) hent
    have hcm : ∀ r, cellsM 2 (refA r) = M.pure (refA r) := fun r => by rw [cellsM_of (okEl_ref _), acells_ref, fold_ref]
    have h2 := look_fun (p := p) (l := 0) (h := [.tup ((idxP p).map (entA Fun.av))] :: [sA s] :: rowD D :: (J ++ [[.tup [], .mp 2, .int .i64 D.length, posA (qs.filter fun r => !(Nat.beq r q)), .int .i64 (q : Nat)]])) rfl (keyD D q) false
    let H0 : BitVec 64 → Hp := fun s => [.tup ((idxP p).map (entA Fun.av))] :: [sA s] :: rowD D :: (J ++ [[.tup [], .mp 2, .int .i64 D.length, posA (qs.filter fun r => !(Nat.beq r q)), .int .i64 (q : Nat)]])
    have h3 := t34 (H := H0) (st := orS) (g := .fn (.func 35) [] [.hp 1 0]) (fun s e => t35 e 1 (H0 s) s rfl) _ (bodyR p (keyD D q)) (Nat.le_refl _) (S.body _) s
    rw [effB_from] at h3
    have hp := perm_filter hnd hq
    have h4 := IH (qs.filter fun r => !(Nat.beq r q)) (s ||| effB p (keyD D q)) (.int .i64 (q : Nat)) (by have := hp.length_eq; simp at this; omega) (nodup_filter hnd) (fun r hr => hlt r ((List.mem_filter.1 hr).1))
    rw [bnd_ok h1]
    simp [hcm]
    rw [bnd_ok h2]
    simp [fbody]
    refine (bnd_ok h3).trans ?_
    rw [orQ_perm _ hp]
    exact h4
def effS (p : List Mod) (f : Ref) : BitVec 64 := orQ (effB p) 0#64 ((reachD p f).map (·.1))
theorem orQ_range (p : List Mod) (D : List (Ref × List Ref)) : orQ (fun q => effB p (keyD D q)) 0#64 (List.range D.length) = orQ (effB p) 0#64 (D.map (·.1)) := by
  have : D.map (·.1) = (List.range D.length).map (keyD D) := by
    apply List.ext_getElem (by simp)
    intro i h1 h2
    simp at h1
    simp [keyD, h1]
  unfold orQ
  rw [this, List.foldl_map]
theorem t15 {p : List Mod} (S : Sm p) (f : Ref) : callW pg 15 [mods p, refA f] = M.pure (sA (effS p f)) := by
  rw [C15]
  obtain ⟨J, _, h2⟩ := t24 (h := [[.tup ((idxP p).map (entA Fun.av))], [sA 0#64]]) (la := 0) S rfl f
  have h3 : ∃ h', S15 (callW pg) fixW (mods p) (refA f) [] = .ok (sA (effS p f)) h' := by
    simp only [S15]
    rw [bnd_ok (idx0 S)]
    have hn : newH [.int .i64 0] [[.tup ((idxP p).map (entA Fun.av))]] = .ok (.hp 1 0) [[.tup ((idxP p).map (entA Fun.av))], [.int .i64 0]] := rfl
    have hs : storeH T 3 (.hp 1 0) (.int .i64 0) [[.tup ((idxP p).map (entA Fun.av))], [.int .i64 0]] = .ok (.tup []) [[.tup ((idxP p).map (entA Fun.av))], [sA 0#64]] := rfl
    rw [bnd_ok hn, bnd_ok hs]
    simp
    by_cases hf : (findR p f).isSome = true
    · rw [if_pos hf] at h2
      rw [bnd_ok h2]
      have h4 := loop15 S (reachD p f) J _ (List.range (reachD p f).length) 0#64 .any rfl List.nodup_range (fun q hq => List.mem_range.1 hq)
      rw [orQ_range] at h4
      have hr : rangeH T 54 (.mp 2) ([.tup ((idxP p).map (entA Fun.av))] :: [sA 0#64] :: rowD (reachD p f) :: J) = .ok (.it (J.length + 3)) ([.tup ((idxP p).map (entA Fun.av))] :: [sA 0#64] :: rowD (reachD p f) :: (J ++ [[.tup [], .mp 2, .int .i64 (reachD p f).length, posA (List.range (reachD p f).length), .any]])) := by
        simp [rangeH, mt54, rowD]
      exact ⟨_, (bnd_ok hr).trans h4⟩
    · rw [if_neg hf] at h2
      rw [bnd_ok h2]
      have he : effS p f = 0#64 := by unfold effS reachD; rw [if_neg hf]; rfl
      have hr : rangeH T 54 .nilm [[.tup ((idxP p).map (entA Fun.av))], [sA 0#64]] = .ok (.it 2) [[.tup ((idxP p).map (entA Fun.av))], [sA 0#64], [.tup [], .nilm]] := rfl
      rw [bnd_ok hr, FL15_0, he]
      simp only [L15_0, nth_zero, nth_succ]
      rw [nxt_nilm rfl]
      exact ⟨_, rfl⟩
  obtain ⟨h', h3⟩ := h3
  simp only [cl_mods, cl_ref]
  exact isoP_ok h3 (fun _ => rfl)
end Go.Proofs.Ytpnonheegflllaa
