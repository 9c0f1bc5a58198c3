/- ReachPaths holds. No condition. -/
import Derived.Test.YtpnonheegflllaaTp9
import Derived.Test.YtpnonheegflllaaTp10
import Derived.Test.YtpnonheegflllaaLd
namespace Go.Proofs.Ytpnonheegflllaa
open Go Go.Av Go.Av.Ap
set_option maxRecDepth 100000
theorem sm_few {p : List Mod} (hM : ∀ m ∈ p, m.Lim) (h1 : p.length ≤ 9) (h2 : ∀ m ∈ p, m.funcs.length ≤ 9) : Sm p where
  len := by omega
  funcs := fun m hm => by have := h2 m hm; omega
  idx := by
    have h3 := idx_len p
    have h4 := allR_len p h2
    have : p.length * 9 ≤ 9 * 9 := Nat.mul_le_mul_right 9 h1
    omega
  body := body_lim fun m hm f hf => ((hM m hm).fns f hf).body
theorem all_len {p : List Mod} (S : Sm p) (f : Ref) : (allL p f).length ≤ 1000000 := by
  unfold allL
  rw [sortR_len, List.length_map]
  exact reach_len S f
theorem str_leq (T : TT) (t : Nat) (a b : Str) : binA T .leq t (.str a) (.str b) = some (.bool (strLess a b || a == b)) := rfl
theorem lenRefs (l : List Ref) : lenA T 27 (refsA l) = some (.int .i64 l.length) := by simp [refsA]
def ordB (a b : Ref) : Bool := strLess b.1 a.1 || (b.1 == a.1 && (strLess b.2 a.2 || b.2 == a.2))
theorem ord_all {p : List Mod} {f : Ref} (i : Nat) (h : i + 1 < (allL p f).length) : ordB ((allL p f)[i]'(by omega)) ((allL p f)[i + 1]) = false := by
  have hs : (allL p f).Pairwise fun a b => leR a b = true := sortR_sorted _
  have hn := all_nodup p f
  have h1 := (List.pairwise_iff_getElem.1 hs) i (i + 1) (by omega) h (by omega)
  have hne : (allL p f)[i]'(by omega) ≠ (allL p f)[i + 1] := fun e => by
    have := (List.getElem_inj hn).1 e
    omega
  generalize (allL p f)[i]'(by omega) = a at h1 hne
  generalize (allL p f)[i + 1] = b at h1 hne
  have h2 : ltR b a = false := by simpa [leR] using h1
  unfold ordB
  unfold ltR at h2
  cases h4 : strLess b.1 a.1
  · by_cases e1 : b.1 = a.1
    · have e2 : ¬ b.2 = a.2 := fun e2 => hne (Prod.ext e1.symm e2.symm)
      simp [h4, e1] at h2
      simp [e1, e2, h2]
    · simp [e1]
  · rw [h4] at h2; simp at h2
theorem loopP0 {p : List Mod} (f : Ref) (K : List AV → M AV) (i : Nat) (hi : i < (allL p f).length) (v1 : AV) (S : Sm p)
    (hK : K [mods p, v1, refsA (allL p f), .int .i64 (i + 1)] = M.pure (.bool true)) (l : List Ref) (hl : l.length ≤ 1000000) (hm : ∀ r ∈ l, r ∈ allL p f) : ∀ (n : Nat) (j : Int), l.length - j.toNat = n → 0 ≤ j → j ≤ l.length →
    fixW (L4_0 (callW pg) fixW K) [mods p, v1, refsA (allL p f), .int .i64 i, refsA l, .int .i64 j] = M.pure (.bool true) := by
  have hA := all_len S f
  intro n
  induction n with
  | zero =>
    intro j hn hj hb
    rw [FL4_0]
    simp only [L4_0]
    have h1 : ¬ (j < (l.length : Int)) := by omega
    cases i with
    | zero =>
      have hw : IntKind.i64.wrap 1 = 1 := by rw [wrap_in (by omega) (by omega)]
      simp only [Int.zero_add, Int.ofNat_zero,] at hK
      simp [h1, lenRefs, hw, hK]
    | succ i =>
      have h2 := ord_all (p := p) (f := f) i hi
      have hK' : K [mods p, v1, refsA (allL p f), .int .i64 ((i : Int) + 1 + 1)] = M.pure (.bool true) := hK
      simp (disch := omega) [h1, lenRefs, IX27, wrap_in, str_leq]
      unfold ordB at h2
      generalize (allL p f)[i + 1] = b at h2 ⊢
      generalize (allL p f)[i]'(by omega) = a at h2 ⊢
      simp at h2
      obtain ⟨h6, h7⟩ := h2
      by_cases e1 : b.1 = a.1
      · obtain ⟨h8, h9⟩ := h7 e1
        rw [e1] at h6
        simp [h6, e1, h8, h9, hK']
      · simp [h6, e1, hK']
  | succ n ih =>
    intro j hn hj hb
    have h1 : j < (l.length : Int) := by omega
    have hlt : j.toNat < l.length := by omega
    have h4 := ih (j + 1) (by omega) (by omega) (by omega)
    have h5 := t19 (allL p f) l[j.toNat] (by omega)
    rw [decide_eq_true (hm _ (List.getElem_mem hlt))] at h5
    rw [FL4_0]
    simp only [L4_0]
    simp (disch := omega) [h1, lenRefs, IX27, getElem!_pos l j.toNat hlt, h5, wrap_in, h4]
theorem loopP1 {p : List Mod} (f : Ref) (S : Sm p) : ∀ (n : Nat) (i : Nat), (allL p f).length - i = n → i ≤ (allL p f).length →
    fixW (L4_1 (callW pg) fixW) [mods p, .bool true, refsA (allL p f), .int .i64 (i : Nat)] = M.pure (.bool true) := by
  intro n
  induction n with
  | zero =>
    intro i hn hb
    rw [FL4_1]
    simp only [L4_1]
    have h1 : ¬ (i < (allL p f).length) := by omega
    simp [h1, lenRefs]
  | succ n ih =>
    intro i hn hb
    have h1 : i < (allL p f).length := by omega
    have h4 := ih (i + 1) (by omega) (by omega)
    have h5 := t13 S (allL p f)[i]
    have h6 := loopP0 f (fixW (L4_1 (callW pg) fixW)) i h1 (.bool true) S h4 (allL p (allL p f)[i]) (all_len S _) (fun r hr => all_trans (List.getElem_mem h1) hr) _ 0 rfl (by omega) (by omega)
    rw [FL4_1]
    simp only [L4_1]
    simp (disch := omega) [h1, lenRefs, IX27, getElem!_pos (allL p f) i h1, h5, h6]
theorem loopP2 {p : List Mod} {f t : Ref} {c : List Ref} (S : Sm p) (hx : (t, c) ∈ reachD p f) (hf : (findR p f).isSome = true) : ∀ (n : Nat) (i : Nat), c.length - i = n → i ≤ c.length →
    fixW (L4_2 (callW pg) fixW) [mods p, .ip [.str f.1, .str f.2], .ip [.str t.1, .str t.2], .bool true, refsA (allL p f), refsA c, .int .i64 (i : Nat)] = M.pure (.bool true) := by
  have I := reach_inv hf
  have hcl := chain_len I hx
  have hRl := reach_len S f
  simp only at hcl
  intro n
  induction n with
  | zero =>
    intro i hn hb
    rw [FL4_2]
    simp only [L4_2]
    have h1 : ¬ (i < c.length) := by omega
    have h6 := loopP1 f S _ 0 rfl (by omega)
    simp at h6
    simp [h1, lenRefs, h6]
  | succ n ih =>
    intro i hn hb
    have h1 : i < c.length := by omega
    have h4 := ih (i + 1) (by omega) (by omega)
    have hpre := chain_pre I _ t c hx rfl i h1
    have h5 := t8 S f c[i]
    have h7 : pathR p f c[i] = some (c.take (i + 1)) := getK_nodup I.nodup hpre
    rw [h7] at h5
    have h8 := t13 S c[i]
    have h9 := t19 (allL p c[i]) t (by have := all_len S c[i]; omega)
    rw [decide_eq_true (chain_reach I hx _ i h1 rfl)] at h9
    have hlen : (c.take (i + 1)).length = i + 1 := by rw [List.length_take]; omega
    simp only [pathA] at h5
    rw [FL4_2]
    simp only [L4_2]
    cases i with
    | zero =>
      have h4' : fixW (L4_2 (callW pg) fixW) [mods p, .ip [.str f.1, .str f.2], .ip [.str t.1, .str t.2], .bool true, refsA (allL p f), refsA c, .int .i64 1] = M.pure (.bool true) := h4
      simp only [Nat.zero_add] at hlen h5
      simp (disch := omega) [h1, lenRefs, IX27, getElem!_pos c 0 h1, h5, h8, h9, hlen, wrap_in]
      simp [lenRefs, hlen, h4']
    | succ i =>
      have h10 := t11 S (c[i]'(by omega))
      have h11 := t19 (callL p (c[i]'(by omega))) c[i + 1] (by have := S.calls (c[i]'(by omega)); omega)
      rw [decide_eq_true (chain_step I hx i h1)] at h11
      have h4' : fixW (L4_2 (callW pg) fixW) [mods p, .ip [.str f.1, .str f.2], .ip [.str t.1, .str t.2], .bool true, refsA (allL p f), refsA c, .int .i64 ((i : Int) + 1 + 1)] = M.pure (.bool true) := h4
      have h1' : (i : Int) + 1 < c.length := by omega
      simp (disch := omega) [h1, h1', lenRefs, IX27, getElem!_pos c (i + 1) h1, getElem!_pos c i (by omega), h5, h8, h9, h10, h11, hlen, wrap_in]
      simp [lenRefs, hlen, h4']
theorem neFF : binA T .neq 4 (.bool false) (.bool false) = some (.bool false) := rfl
theorem neTT : binA T .neq 4 (.bool true) (.bool true) = some (.bool false) := rfl
theorem t4 (p : List Mod) (hp : p.length ≤ 140737488355328) (hM : ∀ m ∈ p, m.Lim) (f t : Ref) : callW pg 4 [mods p, refA f, refA t] = M.pure (.bool true) := by
  rw [C4]
  obtain ⟨b, hb1, hb2⟩ := t7 p hp hM
  simp only [cl_mods, cl_ref]
  have h : S4 (callW pg) fixW (mods p) (refA f) (refA t) = M.pure (.bool true) := by
    cases b with
    | false => simp [S4, t6, hb1]
    | true =>
      obtain ⟨q1, q2⟩ := hb2 rfl
      have S := sm_few hM (by omega) (fun m hm => by have := q2 m hm; omega)
      have h1 := t13 S f
      have h2 := t8 S f t
      have h3 := t19 (allL p f) t (by have := all_len S f; omega)
      rw [← path_some] at h3
      cases hg : pathR p f t with
      | none =>
        rw [hg] at h2 h3
        simp only [pathA] at h2
        simp [S4, t6, hb1, h1, h2, h3, lenRefs, neFF]
      | some c =>
        rw [hg] at h2 h3
        simp only [pathA] at h2
        have hx := getK_mem hg
        have hf : (findR p f).isSome = true := by
          by_cases hf : (findR p f).isSome = true
          · exact hf
          · unfold pathR reachD at hg
            rw [if_neg hf] at hg
            cases hg
        have I := reach_inv hf
        have hlast := I.last hx
        have h0 : 0 < c.length := by
          cases c with
          | nil => cases hlast
          | cons _ _ => simp
        have hz := chain_zero I hx h0
        have hcl := chain_len I hx
        have hRl := reach_len S f
        simp only at hcl
        have hl : c[c.length - 1]'(by omega) = t := by
          rw [List.getLast?_eq_getElem?] at hlast
          simp only at hlast
          rw [List.getElem?_eq_getElem (by omega)] at hlast
          exact Option.some.inj hlast
        have h4 := loopP2 (t := t) S hx hf _ 0 rfl (by omega)
        have h5 : ((c.length : Int) - 1).toNat = c.length - 1 := by omega
        have hc0 : (c.length == 0) = false := beq_eq_false_iff_ne.2 (by omega)
        have i0 : indexAddrA T 27 (refsA c) (.int .i64 0) = some (.ip (acells (refA f))) := by
          rw [IX27 (by omega) (by omega), ← hz]
          simp only [Int.toNat_zero]
          rw [getElem!_pos c 0 h0]
        have hw : IntKind.i64.wrap ((c.length : Int) - 1) = c.length - 1 := wrap_in (by omega) (by omega)
        have i1 : indexAddrA T 27 (refsA c) (.int .i64 ((c.length : Int) - 1)) = some (.ip (acells (refA t))) := by
          rw [IX27 (by omega) (by omega), h5, getElem!_pos c (c.length - 1) (by omega), hl]
        simp [S4, t6, hb1, h1, h2, h3, lenRefs, neTT]
        have h4' : fixW (L4_2 (callW pg) fixW) [mods p, .ip [.str f.1, .str f.2], .ip [.str t.1, .str t.2], .bool true, refsA (allL p f), refsA c, .int .i64 0] = M.pure (.bool true) := h4
        simp [hc0, i0, i1, hw, binNe, h4']
  rw [h]
  exact isoP_bool true
end Go.Proofs.Ytpnonheegflllaa
