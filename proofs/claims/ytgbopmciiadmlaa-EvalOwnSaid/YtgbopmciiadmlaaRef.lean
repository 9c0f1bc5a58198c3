/- What the reference's functions on values compute. No condition. -/
import Derived.Test.YtgbopmciiadmlaaVal
import Derived.Test.YtgbopmciiadmlaaLc
namespace Go.Proofs.Ytgbopmciiadmlaa
open Go Go.Av Go.Av.Ap
theorem t91 (l : List Str) (hb : l.length ≤ 4611686018427387904) : callW pg 91 [strs l] = M.pure (.bool (asc l)) := by
  have h : fixW (L91_0 (callW pg) fixW) = fixW (L89_0 (callW pg) fixW) := rfl
  rw [C91]
  simp [S91, h, loop89 (callW pg) l hb (l.length - 1) 1 rfl (by omega)]
def fitsR : Nat → Val → Bool
  | 0, _ => false
  | d + 1, v => if (v.kind < 0 ∨ 3 ≤ v.kind) ∨ ¬v.names.length = v.values.length then false
    else if v.kind = 0 then v.names.length == 0
    else if v.kind = 1 then v.names.length == 0 && decide (0 ≤ v.n) && decide (v.n ≤ 1)
    else if (¬v.n = 0 ∨ 8 < v.names.length) ∨ asc v.names = false then false
    else v.values.all (fitsR d)
theorem t53 : ∀ (d : Nat), d ≤ 4 → ∀ (v : Val), v.sz ≤ 4611686018427387904 → callW pg 53 [v.av, .int .i64 d] = M.pure (.bool (fitsR d v))
  | 0, _, v, _ => by
    rw [C53]
    simp [S53, fitsR]
  | d + 1, hd, v, hv => by
    have ih := t53 d (by omega)
    have h1 := t91 v.names (Nat.le_trans v.sz_names hv)
    have hlen := v.sz_len
    have hloop := fix_all (FL53_0 (callW pg)) (fun k => [.int .i64 ((d : Int) + 1), .ip (acells v.av), .int .i64 (k : Int)]) v.values.length (fun k => fitsR d v.values[k]!)
      (by simp [L53_0]) (fun k hk => by
        have hx := ih v.values[k] (by have := Val.sz_mem (List.getElem_mem hk); omega)
        have hk' : (k : Int) < (v.values.length : Int) := by omega
        simp only [L53_0]
        simp (disch := omega) [hk, hk', wrap_in, IX23, hx, show (d : Int) + 1 - 1 = d by omega]
        cases fitsR d v.values[k] <;> simp) 0 (Nat.zero_le _)
    simp only [Nat.sub_zero, all_range'] at hloop
    have h0 : ¬ ((d : Int) + 1 < 1) := by omega
    have h8 : ((8 : Int) < (v.names.length : Int)) = (8 < v.names.length) := by rw [eq_iff_iff]; omega
    simp at hloop
    rw [C53]
    simp [S53, fitsR, h0, h1, hloop, h8]
theorem t22 (v : Val) (hv : v.sz ≤ 4611686018427387904) : callW pg 22 [v.av] = M.pure (.bool (fitsR 4 v)) := by
  rw [C22]
  have := t53 4 (by omega) v hv
  simp at this
  simp [S22, this]
theorem t46 (l : List Val) (hl : valsSz l ≤ 4611686018427387904) : callW pg 46 [vals l] = M.pure (.bool (l.all (fitsR 4))) := by
  have hlen := valsSz_len l
  have hloop := fix_all (FL46_0 (callW pg)) (fun k => [vals l, .int .i64 (k : Int)]) l.length (fun k => fitsR 4 l[k]!)
    (by simp [L46_0]) (fun k hk => by
      have hx := t22 l[k] (by have := valsSz_mem (List.getElem_mem hk); omega)
      have hk' : (k : Int) < (l.length : Int) := by omega
      simp only [L46_0]
      simp (disch := omega) [hk, hk', wrap_in, IX23, hx]
      cases fitsR 4 l[k] <;> simp) 0 (Nat.zero_le _)
  simp only [Nat.sub_zero, all_range'] at hloop
  simp at hloop
  rw [C46]
  simp [S46, hloop]
def evenV : Nat → Val → Bool
  | 0, _ => true
  | n + 1, v => v.names.length == v.values.length && v.values.all (evenV n)
theorem t55 : ∀ (n : Nat) (v w : Val), v.sz ≤ n → v.sz ≤ 4611686018427387904 → evenV n v = true → evenV n w = true → callW pg 55 [v.av, w.av] = M.pure (.bool (sameP v w)) := by
  intro n
  induction n with
  | zero => intro v w h; have := v.sz_pos; omega
  | succ n ih =>
    intro v w hn hv ev ew
    simp only [evenV, Bool.and_eq_true, beq_iff_eq, List.all_eq_true] at ev ew
    have hlen := v.sz_len
    rw [C55, sameP_eq]
    by_cases hl : v.names.length = w.names.length
    · have hvw : v.values.length = w.values.length := by omega
      have hloop := fix_all (FL55_0 (callW pg)) (fun k => [.ip (acells v.av), .ip (acells w.av), .int .i64 (k : Int)]) v.names.length (fun k => v.names[k]! == w.names[k]! && sameP v.values[k]! w.values[k]!)
        (by simp [L55_0]) (fun k hk => by
          have a1 : k < v.values.length := by omega
          have a2 : k < w.values.length := by omega
          have a3 : k < w.names.length := by omega
          have hx := ih v.values[k] w.values[k] (by have := Val.sz_mem (List.getElem_mem a1); omega) (by have := Val.sz_mem (List.getElem_mem a1); omega) (ev.2 _ (List.getElem_mem a1)) (ew.2 _ (List.getElem_mem a2))
          simp only [L55_0]
          simp (disch := omega) [hk, a1, a2, a3, wrap_in, IX23, IX25, hx]
          cases v.names[k] == w.names[k] <;> cases sameP v.values[k] w.values[k] <;> simp) 0 (Nat.zero_le _)
      have hall : (List.range' 0 v.names.length).all (fun k => v.names[k]! == w.names[k]! && sameP v.values[k]! w.values[k]!) = (v.names == w.names && all2 sameP v.values w.values) := by
        rw [show (v.names == w.names) = all2 (fun a b => a == b) v.names w.names from ?_]
        · rw [← all_range2 _ v.names w.names hl, ← all_range2 _ v.values w.values hvw, ← ev.1]
          rw [Bool.eq_iff_iff]
          simp only [List.all_eq_true, Bool.and_eq_true]
          exact ⟨fun h => ⟨fun k hk => (h k hk).1, fun k hk => (h k hk).2⟩, fun h k hk => ⟨h.1 k hk, h.2 k hk⟩⟩
        · exact all2_beq _ _
      simp only [Nat.sub_zero, hall] at hloop
      simp at hloop
      simp [S55, hl, hloop]
      congr 2
      rw [show (v.kind == w.kind) = decide (v.kind = w.kind) from rfl, show (v.n == w.n) = decide (v.n = w.n) from rfl]
      simp [Bool.and_assoc]
    · have hne : (v.names == w.names) = false := by
        rw [beq_eq_false_iff_ne]; intro h; exact hl (by rw [h])
      simp [S55, hl, hne]
theorem fitsR_even : ∀ (d : Nat) (v : Val), fitsR d v = true → ∀ n, evenV n v = true
  | 0, v, h, n => by simp [fitsR] at h
  | d + 1, v, h, 0 => rfl
  | d + 1, v, h, n + 1 => by
    simp only [evenV, Bool.and_eq_true, beq_iff_eq, List.all_eq_true]
    simp only [fitsR] at h
    split at h
    · cases h
    · rename_i h1
      have hl : v.names.length = v.values.length := by
        rcases Nat.lt_trichotomy v.names.length v.values.length with h' | h' | h'
        · exact absurd (.inr (by omega)) h1
        · exact h'
        · exact absurd (.inr (by omega)) h1
      refine ⟨hl, fun x hx => ?_⟩
      split at h
      · have : v.values.length = 0 := by simp at h; rw [h] at hl; simpa using hl.symm
        rw [List.eq_nil_of_length_eq_zero this] at hx; cases hx
      · split at h
        · have : v.values.length = 0 := by simp at h; rw [h.1.1] at hl; simpa using hl.symm
          rw [List.eq_nil_of_length_eq_zero this] at hx; cases hx
        · split at h
          · cases h
          · rw [List.all_eq_true] at h
            exact fitsR_even d x (h x hx) n
theorem t24 (v w : Val) (hv : v.sz ≤ 4611686018427387904) (hw : w.sz ≤ 4611686018427387904) : callW pg 24 [v.av, w.av] = M.pure (.bool (fitsR 4 v && fitsR 4 w && sameP v w)) := by
  rw [C24]
  cases h1 : fitsR 4 v with
  | false => simp [S24, t22 v hv, h1]
  | true =>
    cases h2 : fitsR 4 w with
    | false => simp [S24, t22 v hv, t22 w hw, h1, h2]
    | true => simp [S24, t22 v hv, t22 w hw, h1, h2, t55 v.sz v w (Nat.le_refl _) hv (fitsR_even 4 v h1 _) (fitsR_even 4 w h2 _)]
theorem t26 (a b : List Val) (ha : valsSz a ≤ 4611686018427387904) (hb : valsSz b ≤ 4611686018427387904) : callW pg 26 [vals a, vals b] = M.pure (.bool (all2 (fun v w => fitsR 4 v && fitsR 4 w && sameP v w) a b)) := by
  have hla := valsSz_len a
  rw [C26]
  by_cases hl : a.length = b.length
  · have hloop := fix_all (FL26_0 (callW pg)) (fun k => [vals a, vals b, .int .i64 (k : Int)]) a.length (fun k => fitsR 4 a[k]! && fitsR 4 b[k]! && sameP a[k]! b[k]!)
      (by simp [L26_0]) (fun k hk => by
        have a1 : k < b.length := by omega
        have hx := t24 a[k] b[k] (by have := valsSz_mem (List.getElem_mem hk); omega) (by have := valsSz_mem (List.getElem_mem a1); omega)
        simp only [L26_0]
        simp (disch := omega) [hk, a1, wrap_in, IX23, hx]
        cases fitsR 4 a[k] <;> cases fitsR 4 b[k] <;> cases sameP a[k] b[k] <;> simp) 0 (Nat.zero_le _)
    have := all_range2 (fun v w => fitsR 4 v && fitsR 4 w && sameP v w) a b hl
    simp only [Nat.sub_zero, this] at hloop
    simp at hloop
    simp [S26, hl, hloop]
  · simp [S26, hl, all2_length _ a b hl]
end Go.Proofs.Ytgbopmciiadmlaa
