/- VersionBack returns true. No condition. -/
import Derived.Test.YtllapohmppeceaaGreatDoorParse
import Derived.Test.YtllapohmppeceaaGreatDoorOrder
namespace Go.Proofs.YtllapohmppeceaaGreatDoor
open Go Go.Av Go.Av.Ap
theorem digs_mem : ∀ (f u : Nat) (x : UInt8), x ∈ digs f u → 48 ≤ x.toNat ∧ x.toNat ≤ 57
  | 0, _, x, h => by simp [digs] at h
  | f + 1, u, x, h => by
    simp only [digs] at h
    by_cases h10 : u < 10
    · rw [decide_eq_true h10] at h
      simp only [cond_true, List.mem_singleton] at h
      subst h
      simp [UInt8.toNat_ofNat']; omega
    · rw [decide_eq_false h10] at h
      simp only [cond_false, List.mem_append, List.mem_singleton] at h
      rcases h with h | rfl
      · exact digs_mem f _ x h
      · simp [UInt8.toNat_ofNat']; omega
theorem digs_ne : ∀ (f u : Nat), digs (f + 1) u ≠ []
  | f, u => by
    simp only [digs]
    cases decide (u < 10) <;> simp
theorem parse_snoc (d : Nat) (hd : d < 10) : ∀ (l : Str) (acc m : Nat), Lib.parseUint10 acc l = .ok m → m < 1000000000000 → Lib.parseUint10 acc (l ++ [UInt8.ofNat (48 + d)]) = .ok (m * 10 + d)
  | [], acc, m, h, hm => by
    simp only [Lib.parseUint10] at h
    cases h
    have e : (UInt8.ofNat (48 + d)).toNat = 48 + d := by simp [UInt8.toNat_ofNat']; omega
    simp only [List.nil_append, Lib.parseUint10, e]
    rw [if_pos (by omega), if_neg (by omega), if_neg (by omega)]
    congr 1
    omega
  | c :: l, acc, m, h, hm => by
    simp only [List.cons_append, Lib.parseUint10] at h ⊢
    split at h
    · rename_i hc
      rw [if_pos hc]
      split at h
      · cases h
      · rename_i h1
        rw [if_neg h1]
        split at h
        · cases h
        · rename_i h2
          rw [if_neg h2]
          exact parse_snoc d hd l _ m h hm
    · cases h
theorem parse_digs : ∀ (f u : Nat), u < 10 ^ (f + 1) → u < 10000000000 → Lib.parseUint10 0 (digs (f + 1) u) = .ok u
  | f, u, h, hb => by
    rw [show digs (f + 1) u = bif decide (u < 10) then [UInt8.ofNat (48 + u)] else digs f (u / 10) ++ [UInt8.ofNat (48 + u % 10)] from rfl]
    by_cases h10 : u < 10
    · rw [decide_eq_true h10]
      have := parse_snoc u h10 [] 0 0 rfl (by omega)
      simpa using this
    · rw [decide_eq_false h10]
      simp only [cond_false]
      cases f with
      | zero => omega
      | succ f =>
        have ih := parse_digs f (u / 10) (by rw [Nat.pow_succ] at h; omega) (by omega)
        rw [parse_snoc (u % 10) (by omega) _ 0 (u / 10) ih (by omega)]
        congr 1
        omega
theorem atoi_itoa (n : Int) (h0 : 0 ≤ n) (h1 : n ≤ 1048576) : Lib.atoiAll (itoaL n) = .ok n := by
  have e : itoaL n = digs 20 n.toNat := by unfold itoaL; rw [decide_eq_false (by omega)]; rfl
  rw [e]
  have hp := parse_digs 19 n.toNat (by omega) (by omega)
  cases hd : digs 20 n.toNat with
  | nil => exact absurd hd (digs_ne 19 _)
  | cons c r =>
    have hc := digs_mem 20 n.toNat c (by rw [hd]; simp)
    rw [Lib.atoiAll_plain c r (by omega) (by omega)]
    rw [← hd]
    unfold Lib.parseMag
    rw [if_neg (digs_ne 19 _), hp]
    simp only [Lib.signless]
    rw [if_neg (by omega)]
    congr 1
    omega
theorem itoaL_mem {n : Int} (h0 : 0 ≤ n) : ∀ x ∈ itoaL n, x ≠ 46 := by
  intro x hx
  have e : itoaL n = digs 20 n.toNat := by unfold itoaL; rw [decide_eq_false (by omega)]; rfl
  rw [e] at hx
  have := digs_mem 20 _ x hx
  rintro rfl
  simp at this
theorem splitC_none (c : UInt8) : ∀ (l : Str), (∀ x ∈ l, x ≠ c) → splitC c l = [l]
  | [], _ => rfl
  | x :: l, h => by
    have hx : (x == c) = false := beq_eq_false_iff_ne.2 (h x (by simp))
    simp only [splitC, hx, cond_false, splitC_none c l (fun y hy => h y (by simp [hy]))]
theorem splitC_app (c : UInt8) (r : Str) : ∀ (l : Str), (∀ x ∈ l, x ≠ c) → splitC c (l ++ c :: r) = l :: splitC c r
  | [], _ => by simp [splitC]
  | x :: l, h => by
    have hx : (x == c) = false := beq_eq_false_iff_ne.2 (h x (by simp))
    simp only [List.cons_append, splitC, hx, cond_false, splitC_app c r l (fun y hy => h y (by simp [hy]))]
def joinC (c : UInt8) : List Str → Str
  | [] => []
  | [p] => p
  | p :: ps => p ++ c :: joinC c ps
theorem joinC_split (c : UInt8) : ∀ (s : Str), joinC c (splitC c s) = s
  | [] => rfl
  | x :: l => by
    have ih := joinC_split c l
    simp only [splitC]
    cases hx : x == c with
    | true =>
      simp only [cond_true]
      cases hq : splitC c l with
      | nil => exact absurd hq (splitC_ne c l)
      | cons q qs =>
        rw [hq] at ih
        simp only [joinC, List.nil_append, ih]
        rw [eq_of_beq hx]
    | false =>
      simp only [cond_false]
      cases hq : splitC c l with
      | nil => exact absurd hq (splitC_ne c l)
      | cons q qs =>
        rw [hq] at ih
        cases qs with
        | nil => simp only [joinC] at ih ⊢; rw [ih]
        | cons q2 qs => simp only [joinC, List.cons_append] at ih ⊢; rw [ih]
theorem partV_itoa {n : Int} (h0 : 0 ≤ n) (h1 : n ≤ 1048576) : partV (itoaL n) = some n := by
  unfold partV
  rw [atoi_itoa n h0 h1]
  simp
theorem partV_inv {p : Str} {n : Int} (h : partV p = some n) : itoaL n = p := by
  unfold partV at h
  split at h
  · split at h
    · rename_i he
      simp only [Option.some.injEq] at h
      rw [← h]; exact he
    · cases h
  · cases h
theorem parse_print {v : Ver} (h : rightV v = true) : parseV (printV v) = (v, true) := by
  obtain ⟨h1, h2, h3⟩ := rightV_bd h
  have e : printV v = itoaL v.a ++ 46 :: (itoaL v.b ++ 46 :: itoaL v.c) := by simp [printV, h, dot]
  unfold parseV
  rw [e, splitC_app 46 _ _ (itoaL_mem h1.1), splitC_app 46 _ _ (itoaL_mem h2.1), splitC_none 46 _ (itoaL_mem h3.1)]
  simp only [partV_itoa h1.1 h1.2, partV_itoa h2.1 h2.2, partV_itoa h3.1 h3.2]
  rw [if_pos h]
theorem parse_nil : parseV [] = (zeroV, false) := rfl
theorem parse_true {s : Str} (h : (parseV s).2 = true) : rightV (parseV s).1 = true ∧ printV (parseV s).1 = s := by
  have hj := joinC_split 46 s
  unfold parseV at h ⊢
  split at h
  · rename_i p q r hs
    rw [hs] at hj
    split at h
    · rename_i a b c ha hb hc
      cases hr : rightV ⟨a, b, c⟩ with
      | false => rw [hr] at h; simp at h
      | true =>
        simp only [hr, if_true]
        refine ⟨trivial, ?_⟩
        unfold printV
        rw [if_pos hr, partV_inv ha, partV_inv hb, partV_inv hc, ← hj]
        simp [joinC, dot]
    · cases h
  · cases h
theorem parse_false {s : Str} (h : (parseV s).2 = false) : (parseV s).1 = zeroV := by
  unfold parseV at h ⊢
  split
  · rename_i p q r hs
    rw [hs] at h
    simp only at h
    split
    · rename_i a b c ha hb hc
      simp only [ha, hb, hc] at h
      split
      · rename_i hr
        rw [if_pos hr] at h
        cases h
      · rfl
    · rfl
  · rfl
theorem print_ne (v : Ver) : (printV v != []) = rightV v := by
  cases h : rightV v with
  | false => simp [printV, h]
  | true => simp [printV, h, dot]
end Go.Proofs.YtllapohmppeceaaGreatDoor
