/- The reference's reading of a version's text is the program's. No condition. -/
import Derived.Test.YtllapohmppeceaaGreatDoorBack
namespace Go.Proofs.YtllapohmppeceaaGreatDoor
open Go Go.Av Go.Av.Ap
abbrev P3 := Int × Int × Int
def gP (ps : P3) (i : Nat) : Int := if i = 0 then ps.1 else if i = 1 then ps.2.1 else ps.2.2
def sP (ps : P3) (i : Nat) (n : Int) : P3 := if i = 0 then (n, ps.2.1, ps.2.2) else if i = 1 then (ps.1, n, ps.2.2) else (ps.1, ps.2.1, n)
theorem gP_sP (ps : P3) {i : Nat} (hi : i < 3) (n : Int) : gP (sP ps i n) i = n := by
  unfold gP sP
  split <;> rename_i h
  · simp
  · split <;> simp
theorem sP_sP (ps : P3) (i : Nat) (m n : Int) : sP (sP ps i m) i n = sP ps i n := by
  unfold sP
  split
  · rfl
  · split <;> rfl
def scan : Str → Nat → P3 → Option P3
  | [], _, ps => some ps
  | c :: s, i, ps => if c = 46 then (if 2 < i + 1 then none else scan s (i + 1) ps)
    else if c < 48 ∨ 57 < c ∨ 1048576 < gP ps i then none else scan s i (sP ps i (10 * gP ps i + (c.toNat - 48 : Int)))
def refParse (s : Str) : Ver × Bool := match scan s 0 (0, 0, 0) with
  | none => (zeroV, false)
  | some ps => if printV ⟨ps.1, ps.2.1, ps.2.2⟩ ≠ s ∨ s = [] then (zeroV, false) else (⟨ps.1, ps.2.1, ps.2.2⟩, true)
theorem scan_digit (d : Nat) (hd : d < 10) (r : Str) (i : Nat) (ps : P3) (h : gP ps i ≤ 1048576) : scan (UInt8.ofNat (48 + d) :: r) i ps = scan r i (sP ps i (10 * gP ps i + d)) := by
  have e : (UInt8.ofNat (48 + d)).toNat = 48 + d := by simp [UInt8.toNat_ofNat']; omega
  simp only [scan]
  rw [if_neg (by intro h; have := congrArg UInt8.toNat h; rw [e] at this; simp at this; omega), if_neg (by
    rintro (h1 | h1 | h1)
    · rw [UInt8.lt_iff_toNat_lt, e] at h1
      simp at h1
      omega
    · rw [UInt8.lt_iff_toNat_lt, e] at h1
      simp at h1
      omega
    · omega), e]
  congr 2
  omega
theorem scan_digs : ∀ (f u : Nat) (r : Str) (i : Nat) (ps : P3), i < 3 → gP ps i = 0 → u < 10 ^ (f + 1) → u ≤ 1048576 → scan (digs (f + 1) u ++ r) i ps = scan r i (sP ps i u)
  | 0, u, r, i, ps, hi, h0, hu, hb => by
    have hu : u < 10 := by simpa using hu
    have : digs (0 + 1) u = [UInt8.ofNat (48 + u)] := by simp [digs, hu]
    rw [this, List.singleton_append, scan_digit u hu r i ps (by omega), h0]
    simp
  | f + 1, u, r, i, ps, hi, h0, hu, hb => by
    by_cases h10 : u < 10
    · have : digs (f + 1 + 1) u = [UInt8.ofNat (48 + u)] := by simp [digs, h10]
      rw [this, List.singleton_append, scan_digit u h10 r i ps (by omega), h0]
      simp
    · have : digs (f + 1 + 1) u = digs (f + 1) (u / 10) ++ [UInt8.ofNat (48 + u % 10)] := by
        rw [show digs (f + 1 + 1) u = bif decide (u < 10) then [UInt8.ofNat (48 + u)] else digs (f + 1) (u / 10) ++ [UInt8.ofNat (48 + u % 10)] from rfl, decide_eq_false h10, cond_false]
      rw [this, List.append_assoc, List.singleton_append, scan_digs f (u / 10) _ i ps hi h0 (by rw [Nat.pow_succ] at hu; omega) (by omega),
        scan_digit (u % 10) (by omega) r i _ (by rw [gP_sP ps hi]; omega), gP_sP ps hi, sP_sP]
      congr 2
      omega
theorem scan_itoa {n : Int} (h0 : 0 ≤ n) (h1 : n ≤ 1048576) (r : Str) {i : Nat} {ps : P3} (hi : i < 3) (hz : gP ps i = 0) : scan (itoaL n ++ r) i ps = scan r i (sP ps i n) := by
  unfold itoaL
  rw [decide_eq_false (by omega), cond_false, scan_digs 19 n.toNat r i ps hi hz (by omega) (by omega)]
  congr 2
  omega
theorem scan_dot (r : Str) {i : Nat} (hi : i < 2) (ps : P3) : scan (46 :: r) i ps = scan r (i + 1) ps := by
  simp only [scan, if_true]
  rw [if_neg (by omega)]
theorem scan_print {v : Ver} (h : rightV v = true) : scan (printV v) 0 (0, 0, 0) = some (v.a, v.b, v.c) := by
  obtain ⟨⟨a0, a1⟩, ⟨b0, b1⟩, ⟨c0, c1⟩⟩ := rightV_bd h
  have e : printV v = itoaL v.a ++ (46 :: (itoaL v.b ++ (46 :: (itoaL v.c ++ [])))) := by
    unfold printV
    rw [if_pos h]
    simp [dot]
  rw [e, scan_itoa a0 a1 _ (by omega) rfl, scan_dot _ (by omega), scan_itoa b0 b1 _ (by omega) rfl, scan_dot _ (by omega), scan_itoa c0 c1 _ (by omega) rfl]
  rfl
theorem refParse_eq (s : Str) : refParse s = parseV s := by
  by_cases h : (parseV s).2 = true
  · obtain ⟨h1, h2⟩ := parse_true h
    have hne : s ≠ [] := by
      rintro rfl
      rw [parse_nil] at h
      cases h
    clear h
    generalize (parseV s).1 = v at h1 h2
    subst h2
    rw [parse_print h1]
    unfold refParse
    rw [scan_print h1]
    simp only
    rw [if_neg (fun h => h.elim (fun h => h rfl) hne)]
  · have hf : (parseV s).2 = false := by simpa using h
    have h0 := parse_false hf
    have hp : parseV s = (zeroV, false) := Prod.ext h0 hf
    rw [hp]
    unfold refParse
    split
    · rfl
    · rename_i ps _
      split
      · rfl
      · rename_i hc
        have h1 : printV ⟨ps.1, ps.2.1, ps.2.2⟩ = s := Classical.byContradiction fun h => hc (.inl h)
        have h2 : s ≠ [] := fun h => hc (.inr h)
        have hr : rightV ⟨ps.1, ps.2.1, ps.2.2⟩ = true := by
          rw [← print_ne, h1]
          simpa using h2
        have := parse_print hr
        rw [h1, hp] at this
        exact absurd (congrArg Prod.snd this) (by simp)
end Go.Proofs.YtllapohmppeceaaGreatDoor
