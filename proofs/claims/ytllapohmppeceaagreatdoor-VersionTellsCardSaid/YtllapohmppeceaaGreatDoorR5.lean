/- What the reference's Parse and Newest compute. No condition. -/
import Derived.Test.YtllapohmppeceaaGreatDoorR4
namespace Go.Proofs.YtllapohmppeceaaGreatDoor.N
open Go Go.Av Go.Av.Ap
def H3 (ps : P3) : Hp := [[.int .i64 ps.1, .int .i64 ps.2.1, .int .i64 ps.2.2]]
def resV (x : Ver × Bool) : AV := .tup [x.1.av, .bool x.2]
def res (s : Str) (o : Option P3) : Ver × Bool := match o with
  | none => (zeroV, false)
  | some ps => if printV ⟨ps.1, ps.2.1, ps.2.2⟩ ≠ s ∨ s = [] then (zeroV, false) else (⟨ps.1, ps.2.1, ps.2.2⟩, true)
theorem refParse_res (s : Str) : refParse s = res s (scan s 0 (0, 0, 0)) := by
  unfold refParse res
  cases scan s 0 (0, 0, 0) <;> rfl
theorem ix51 (k : Nat) (hk : k < 3) : indexAddrA T 51 (.hs 0 0 3 1 false) (.int .i64 (k : Int)) = some (.hp 0 k) := by
  have : k = 0 ∨ k = 1 ∨ k = 2 := by omega
  rcases this with rfl | rfl | rfl <;> rfl
theorem ldH3 (k : Nat) (hk : k < 3) (ps : P3) : loadH T 3 (.hp 0 k) (H3 ps) = .ok (.int .i64 (gP ps k)) (H3 ps) := by
  have : k = 0 ∨ k = 1 ∨ k = 2 := by omega
  rcases this with rfl | rfl | rfl <;> rfl
theorem stH3 (k : Nat) (hk : k < 3) (ps : P3) (n : Int) : storeH T 3 (.hp 0 k) (.int .i64 n) (H3 ps) = .ok (.tup []) (H3 (sP ps k n)) := by
  have : k = 0 ∨ k = 1 ∨ k = 2 := by omega
  rcases this with rfl | rfl | rfl <;> rfl
theorem lenS (s : Str) : lenA T 9 (.str s) = some (.int .i64 s.length) := rfl
theorem ixS {s p r : Str} {c : UInt8} (e : p ++ c :: r = s) : indexStrA T 9 (.str s) (.int .i64 p.length) = some (.int .u8 c.toNat) := by
  have e1 : indexStrA T 9 (.str s) (.int .i64 p.length) = (if ((p.length : Nat) : Int) < 0 then none else s[((p.length : Nat) : Int).toNat]?.map fun b => .int .u8 b.toNat) := rfl
  rw [e1, if_neg (by omega), ← e]
  simp
theorem e46 (x : Int) : binA T .eql 5 (.int .u8 x) (.int .u8 46) = some (.bool (x == 46)) := rfl
theorem l48 (x : Int) : binA T .lss 5 (.int .u8 x) (.int .u8 48) = some (.bool (decide (x < 48))) := rfl
theorem g57 (x : Int) : binA T .gtr 5 (.int .u8 x) (.int .u8 57) = some (.bool (decide (x > 57))) := rfl
theorem s48 (x : Int) : binA T .sub 5 (.int .u8 x) (.int .u8 48) = some (.int .u8 (IntKind.u8.wrap (x - 48))) := rfl
theorem gtrK (a b : Int) : binA T .gtr 3 (.int .i64 a) (.int .i64 b) = some (.bool (decide (a > b))) := rfl
theorem m10 (a : Int) : binA T .mul 3 (.int .i64 10) (.int .i64 a) = some (.int .i64 (IntKind.i64.wrap (10 * a))) := rfl
theorem cv53 (x : Int) : convA T 5 3 (.int .u8 x) = some (.int .i64 (IntKind.i64.wrap x)) := rfl
theorem bz : buildA T false 23 [] = some (zeroV.av) := rfl
theorem neS (x s : Str) : binA T .neq 9 (.str x) (.str s) = some (.bool !(x == s)) := rfl
theorem eqS0 (s : Str) : binA T .eql 9 (.str s) (.str []) = some (.bool (s == [])) := rfl
theorem cut3 (v : Ver) (b : Bool) : AV.tup [AV.agg [nth (acells v.av) 0, nth (acells v.av) 1, nth (acells v.av) 2], AV.bool b] = resV (v, b) := rfl
theorem wrap_u8 {x : Int} (h0 : 0 ≤ x) (h1 : x < 256) : IntKind.u8.wrap x = x := by
  have e : IntKind.u8.wrap x = x % 256 := rfl
  rw [e]
  omega
def PB (ps : P3) : Prop := ∀ k, 0 ≤ gP ps k ∧ gP ps k ≤ 10485769
theorem PB.set {ps : P3} (h : PB ps) (k : Nat) {n : Int} (h0 : 0 ≤ n) (h1 : n ≤ 10485769) : PB (sP ps k n) := by
  intro j
  have a0 := h 0
  have a1 := h 1
  have a2 := h 2
  simp only [gP, if_true] at a0
  simp only [gP, show ¬ (1 = 0) by omega, if_false, if_true] at a1
  simp only [gP, show ¬ (2 = 0) by omega, show ¬ (2 = 1) by omega, if_false] at a2
  unfold gP sP
  split <;> split <;> (try split) <;> (try split) <;> simp only <;> omega
theorem loop6 (s : Str) (hs : s.length ≤ 1099511627776) : ∀ (r p : Str) (k : Nat) (ps : P3), p ++ r = s → k < 3 → PB ps →
    ∃ h', fixW (L6_0 (callW pg) fixW) [.str s, .hs 0 0 3 1 false, .int .i64 (k : Int), .int .i64 p.length, .int .i64 0, .int .i64 0, .int .i64 0] (H3 ps) = .ok (resV (res s (scan r k ps))) h'
  | [], p, k, ps, e, hk, hb => by
    rw [List.append_nil] at e
    subst e
    have h1 : ¬ ((p.length : Int) < p.length) := by omega
    rw [FL6_0]
    simp only [L6_0, nth_zero, nth_succ, lenS, bnd_some, bin_lss, h1, decide_false, condM_bool, Bool.false_eq_true, if_false]
    have i0 := ix51 0 (by omega)
    have i1 := ix51 1 (by omega)
    have i2 := ix51 2 (by omega)
    rw [show ((0 : Nat) : Int) = 0 from rfl] at i0
    rw [show ((1 : Nat) : Int) = 1 from rfl] at i1
    rw [show ((2 : Nat) : Int) = 2 from rfl] at i2
    simp only [i0, i1, i2, bnd_some]
    rw [bnd_ok (ldH3 0 (by omega) ps), bnd_ok (ldH3 1 (by omega) ps), bnd_ok (ldH3 2 (by omega) ps)]
    simp only [show gP ps 0 = ps.1 from rfl, show gP ps 1 = ps.2.1 from rfl, show gP ps 2 = ps.2.2 from rfl, build23v, bnd_some, cellsM_ver, bnd_pure, ldV, t14, neS, cellsNil_ver, bz, cut3, eqS0, guardM_pure1, nth_zero, pickA_or, condM_bool]
    refine ⟨H3 ps, ?_⟩
    simp only [scan, res]
    generalize (⟨ps.1, ps.2.1, ps.2.2⟩ : Ver) = v
    by_cases hc : printV v ≠ p ∨ p = []
    · rw [if_pos hc]
      have : (!(printV v == p) || (p == [])) = true := by
        rw [Bool.or_eq_true]
        rcases hc with hc | hc
        · left; simpa using hc
        · right; simpa using hc
      rw [if_pos this]
      rfl
    · rw [if_neg hc]
      have h2 : printV v = p := Classical.byContradiction fun h => hc (.inl h)
      have h3 : p ≠ [] := fun h => hc (.inr h)
      have : ¬ (!(printV v == p) || (p == [])) = true := by
        rw [Bool.or_eq_true]
        rintro (h | h)
        · rw [h2] at h; simp at h
        · exact h3 (by simpa using h)
      rw [if_neg this]
      rfl
  | c :: r, p, k, ps, e, hk, hb => by
    have hll : p.length + (r.length + 1) = s.length := by rw [← e]; simp
    have h1 : (p.length : Int) < s.length := by omega
    have hw : IntKind.i64.wrap ((p.length : Int) + 1) = ((p.length + 1 : Nat) : Int) := wrap_add1 (by omega)
    have hwk : IntKind.i64.wrap ((k : Int) + 1) = ((k + 1 : Nat) : Int) := wrap_add1 (by omega)
    have hp1 : (p ++ [c]).length = p.length + 1 := by simp
    have he1 : (p ++ [c]) ++ r = s := by rw [← e]; simp
    have hc256 := c.toNat_lt
    have hK : ∀ k' : Int, K6_0 (callW pg) fixW (fixW (L6_0 (callW pg) fixW)) [.str s, .hs 0 0 3 1 false, .int .i64 k', .int .i64 p.length, .int .i64 0, .int .i64 0, .int .i64 0] =
        fixW (L6_0 (callW pg) fixW) [.str s, .hs 0 0 3 1 false, .int .i64 k', .int .i64 (p ++ [c]).length, .int .i64 0, .int .i64 0, .int .i64 0] := fun k' => by
      simp only [K6_0, nth_zero, nth_succ, bin_add, bnd_some, hw, hp1]
    rw [FL6_0]
    simp only [L6_0, jn, nth_zero, nth_succ, lenS, bnd_some, bin_lss, h1, decide_true, condM_bool, if_true, ixS e, e46, bin_add, hwk, gtrK, bz, cellsNil_ver, bnd_pure, cut3, l48, g57, guardM_pure1, pickA_or, ix51 k hk, m10, s48, cv53, hK]
    by_cases hdot : c = 46
    · have hb46 : ((c.toNat : Int) == 46) = true := by rw [hdot]; rfl
      rw [if_pos hb46]
      have hsc : scan (c :: r) k ps = if 2 < k + 1 then none else scan r (k + 1) ps := by
        simp only [scan]
        rw [if_pos hdot]
      rw [hsc]
      by_cases hk2 : 2 < k + 1
      · have : decide (((k + 1 : Nat) : Int) > 2) = true := decide_eq_true (by omega)
        rw [if_pos this, if_pos hk2]
        exact ⟨_, rfl⟩
      · have : ¬ decide (((k + 1 : Nat) : Int) > 2) = true := by rw [decide_eq_true_iff]; omega
        rw [if_neg this, if_neg hk2]
        exact loop6 s hs r (p ++ [c]) (k + 1) ps he1 (by omega) hb
    · have hne : c.toNat ≠ 46 := fun h => hdot (UInt8.toNat_inj.1 (by rw [h]; rfl))
      have hb46 : ¬ ((c.toNat : Int) == 46) = true := by
        rw [beq_iff_eq]
        omega
      rw [if_neg hb46]
      have hsc : scan (c :: r) k ps = if c < 48 ∨ 57 < c ∨ 1048576 < gP ps k then none else scan r k (sP ps k (10 * gP ps k + (c.toNat - 48 : Int))) := by
        simp only [scan]
        rw [if_neg hdot]
      rw [hsc]
      have k48 : c < 48 ↔ (c.toNat : Int) < 48 := by rw [UInt8.lt_iff_toNat_lt]; show c.toNat < 48 ↔ _; omega
      have k57 : 57 < c ↔ (c.toNat : Int) > 57 := by rw [UInt8.lt_iff_toNat_lt]; show 57 < c.toNat ↔ _; omega
      by_cases hout : (c.toNat : Int) < 48 ∨ (c.toNat : Int) > 57
      · have e1 : (decide ((c.toNat : Int) < 48) || decide ((c.toNat : Int) > 57)) = true := by
          rw [Bool.or_eq_true, decide_eq_true_iff, decide_eq_true_iff]
          exact hout
        have e2 : c < 48 ∨ 57 < c ∨ 1048576 < gP ps k := by
          rcases hout with h | h
          · exact .inl (k48.2 h)
          · exact .inr (.inl (k57.2 h))
        rw [if_pos e2, e1]
        simp only [guardM_tf, bnd_pure, pickA_true, bnd_some, condM_bool, if_true]
        exact ⟨_, rfl⟩
      · have e1 : (decide ((c.toNat : Int) < 48) || decide ((c.toNat : Int) > 57)) = false := by
          rw [Bool.or_eq_false_iff, decide_eq_false_iff_not, decide_eq_false_iff_not]
          exact ⟨fun h => hout (.inl h), fun h => hout (.inr h)⟩
        have e3 : guardM (.bool false) false 1 (bnd (loadH T 3 (.hp 0 k)) fun v21 => bnd (lft (binA T .gtr 3 v21 (.int .i64 1048576))) fun v22 => M.pure [v22]) (H3 ps) = .ok [.bool (decide (gP ps k > 1048576))] (H3 ps) := by
          rw [guardM_take1, bnd_ok (ldH3 k hk ps)]
          rfl
        rw [e1]
        rw [bnd_ok e3]
        simp only [nth_zero, pickA_false, bnd_some, condM_bool]
        by_cases hbig : gP ps k > 1048576
        · rw [if_pos (decide_eq_true hbig), if_pos (.inr (.inr hbig))]
          exact ⟨_, rfl⟩
        · have e4 : ¬ (c < 48 ∨ 57 < c ∨ 1048576 < gP ps k) := by
            rintro (h | h | h)
            · exact hout (.inl (k48.1 h))
            · exact hout (.inr (k57.1 h))
            · exact hbig h
          rw [if_neg (by rw [decide_eq_true_iff]; exact hbig), if_neg e4]
          rw [bnd_ok (ldH3 k hk ps)]
          have hg := hb k
          have w1 : IntKind.i64.wrap (10 * gP ps k) = 10 * gP ps k := wrap_in (by omega) (by omega)
          have w2 : IntKind.u8.wrap ((c.toNat : Int) - 48) = (c.toNat : Int) - 48 := by
            exact wrap_u8 (by omega) (by omega)
          have w3 : IntKind.i64.wrap ((c.toNat : Int) - 48) = (c.toNat : Int) - 48 := wrap_in (by omega) (by omega)
          have w4 : IntKind.i64.wrap (10 * gP ps k + ((c.toNat : Int) - 48)) = 10 * gP ps k + ((c.toNat : Int) - 48) := wrap_in (by omega) (by omega)
          simp only [m10, w1, w2, w3, bnd_some, bin_add, w4]
          rw [bnd_ok (stH3 k hk ps _)]
          exact loop6 s hs r (p ++ [c]) k _ he1 hk (hb.set k (by omega) (by omega))
theorem t6 (s : Str) (hs : s.length ≤ 1099511627776) : callW pg 6 [.str s] = M.pure (resV (parseV s)) := by
  rw [C6]
  funext h0
  obtain ⟨h', i1⟩ := loop6 s hs s [] 0 (0, 0, 0) rfl (by omega) (by intro k; unfold gP; split <;> (try split) <;> simp)
  have hb : buildH T 51 3 [(0, .int .i64 0), (1, .int .i64 0), (2, .int .i64 0)] [] = .ok (.hs 0 0 3 1 false) (H3 (0, 0, 0)) := rfl
  unfold isoP
  have key : S6 (callW pg) fixW (.str s) [] = .ok (resV (res s (scan s 0 (0, 0, 0)))) h' := by
    simp only [S6]
    rw [bnd_ok hb]
    exact i1
  simp only [cl]
  rw [key, ← refParse_res, refParse_eq]
  rfl
end Go.Proofs.YtllapohmppeceaaGreatDoor.N
