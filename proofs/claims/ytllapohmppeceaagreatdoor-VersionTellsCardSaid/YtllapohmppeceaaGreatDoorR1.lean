/- What the reference's functions on versions compute. No condition. -/
import Derived.Test.YtllapohmppeceaaGreatDoorT2
import Derived.Test.YtllapohmppeceaaGreatDoorPsc
import Derived.Test.YtllapohmppeceaaGreatDoorBnd
namespace Go.Proofs.YtllapohmppeceaaGreatDoor.N
open Go Go.Av Go.Av.Ap
theorem t33 (a b : Int) : callW pg 33 [.int .i64 a, .int .i64 b] = M.pure (.int .i64 (ordI a b)) := by
  rw [C33]
  unfold ordI
  by_cases h1 : a < b <;> by_cases h2 : b < a <;> simp [S33, h1, h2]
theorem ordI_zero (a b : Int) : ordI a b = 0 ↔ a = b := by
  unfold ordI
  constructor
  · intro h
    split at h
    · cases h
    · split at h
      · cases h
      · omega
  · rintro rfl
    simp
theorem t12 (v w : Ver) : callW pg 12 [v.av, w.av] = M.pure (.int .i64 (cmpV v w)) := by
  rw [C12]
  unfold cmpV orI
  by_cases h1 : v.a = w.a
  · by_cases h2 : v.b = w.b
    · simp [S12, t33, h1, h2, (ordI_zero _ _).2]
    · have e : ¬ (ordI v.b w.b = 0) := fun h => h2 ((ordI_zero v.b w.b).1 h)
      simp [S12, t33, h1, h2, (ordI_zero _ _).2, e]
  · have e : ¬ (ordI v.a w.a = 0) := fun h => h1 ((ordI_zero v.a w.a).1 h)
    simp [S12, t33, h1, e]
theorem rightV_iff (v : Ver) : rightV v = (decide (0 ≤ v.a) && (decide (v.a ≤ 1048576) && (decide (0 ≤ v.b) && (decide (v.b ≤ 1048576) && (decide (0 ≤ v.c) && decide (v.c ≤ 1048576)))))) := by
  unfold rightV
  rw [Bool.eq_iff_iff]
  simp only [Bool.and_eq_true, decide_eq_true_eq]
  omega
theorem t10 (v : Ver) : callW pg 10 [v.av] = M.pure (.bool (rightV v)) := by
  rw [C10, rightV_iff]
  by_cases h1 : 0 ≤ v.a
  · by_cases h2 : v.a ≤ 1048576
    · by_cases h3 : 0 ≤ v.b
      · by_cases h4 : v.b ≤ 1048576
        · by_cases h5 : 0 ≤ v.c
          · by_cases h6 : v.c ≤ 1048576 <;> simp [S10, h1, h2, h3, h4, h5, h6]
          · simp [S10, h1, h2, h3, h4, h5]
        · simp [S10, h1, h2, h3, h4]
      · simp [S10, h1, h2, h3]
    · simp [S10, h1, h2]
  · simp [S10, h1]
theorem t16 (v w : Ver) : callW pg 16 [v.av, w.av] = M.pure (.int .i64 (bumpV v w)) := by
  rw [C16]
  unfold bumpV
  cases h1 : rightV v
  · simp [S16, t10, h1]
  · cases h2 : rightV w
    · simp [S16, t10, h1, h2]
    · by_cases h3 : 0 ≤ cmpV v w
      · simp [S16, t10, t12, h1, h2, h3]
      · have hlt := (cmpV_lt v w).1 (by omega)
        unfold ltV at hlt
        by_cases h4 : v.a = w.a
        · have h5 : ¬ (v.a < w.a) := by omega
          by_cases h6 : v.b = w.b
          · have h7 : ¬ (v.b < w.b) := by omega
            simp [S16, t10, t12, h1, h2, h3]
            simp [h4, h6]
          · have h7 : v.b < w.b := by omega
            simp [S16, t10, t12, h1, h2, h3]
            simp [h4, h6, h7]
        · have h5 : v.a < w.a := by omega
          simp [S16, t10, t12, h1, h2, h3, h4, h5]
theorem loop18 (l : List Rng) (v : Ver) (hb : l.length ≤ 1099511627776) : ∀ (n : Nat) (i : Int), l.length - i.toNat = n → 0 ≤ i → i ≤ l.length →
    fixW (L18_0 (callW pg) fixW) [rngs l, .ip (acells v.av), .int .i64 i] = M.pure (.bool (hasL (l.drop i.toNat) v)) := by
  intro n
  induction n with
  | zero =>
    intro i hn hi hl
    rw [FL18_0]
    simp only [L18_0]
    have h1 : ¬ (i < (l.length : Int)) := by omega
    have h2 : l.drop i.toNat = [] := List.drop_eq_nil_of_le (by omega)
    simp [h1, h2, hasL]
  | succ n ih =>
    intro i hn hi hl
    have h1 : i < (l.length : Int) := by omega
    have hlt : i.toNat < l.length := by omega
    have h4 := ih (i + 1) (by omega) (by omega) (by omega)
    rw [show (i + 1).toNat = i.toNat + 1 by omega] at h4
    rw [FL18_0, List.drop_eq_getElem_cons hlt]
    simp only [L18_0]
    have hc : hasL (l[i.toNat] :: l.drop (i.toNat + 1)) v = (inR l[i.toNat] v || hasL (l.drop (i.toNat + 1)) v) := rfl
    rw [hc]
    generalize hx : l[i.toNat] = x
    have hld : ∀ (v : Ver), loadA T 23 (.ip (acells v.av)) = some v.av := fun x => rfl
    unfold inR
    by_cases h5 : cmpV x.lo v ≤ 0
    · by_cases h6 : cmpV v x.hi < 0
      · simp (disch := omega) [h1, wrap_in, IX24, h4, hx, t12, h5, h6]
      · simp (disch := omega) [h1, wrap_in, IX24, h4, hx, t12, h5, h6]
        simpa using h4
    · simp (disch := omega) [h1, wrap_in, IX24, h4, hx, t12, h5]
      simpa using h4
theorem t18 (l : List Rng) (v : Ver) (hb : l.length ≤ 1099511627776) : callW pg 18 [rngs l, v.av] = M.pure (.bool (hasL l v)) := by
  rw [C18]
  have h := loop18 l v hb l.length 0 rfl (by omega) (by omega)
  simp at h
  simp [S18, h]
theorem t45 (a b : List Rng) (form : Int) (v : Ver) (ha : a.length ≤ 1099511627776) (hb : b.length ≤ 1099511627776) : callW pg 45 [rngs a, rngs b, .int .i64 form, v.av] = M.pure (.bool (wantB form (hasL a v) (hasL b v))) := by
  rw [C45]
  unfold wantB
  by_cases h0 : form = 0
  · subst h0
    cases h1 : hasL a v <;> cases h2 : hasL b v <;> simp [S45, t18 _ _ ha, t18 _ _ hb, h1, h2]
  · by_cases h3 : form = 1
    · subst h3
      cases h1 : hasL a v <;> cases h2 : hasL b v <;> simp [S45, t18 _ _ ha, t18 _ _ hb, h1, h2]
    · by_cases h4 : form = 2
      · subst h4
        cases h1 : hasL a v <;> cases h2 : hasL b v <;> simp [S45, t18 _ _ ha, t18 _ _ hb, h1, h2]
      · have b0 : (form == 0) = false := beq_eq_false_iff_ne.2 h0
        have b1 : (form == 1) = false := beq_eq_false_iff_ne.2 h3
        have b2 : (form == 2) = false := beq_eq_false_iff_ne.2 h4
        cases h1 : hasL a v <;> cases h2 : hasL b v <;> simp [S45, t18 _ _ ha, t18 _ _ hb, h1, h2, h0, h3, h4, b0, b1, b2]
theorem slice10 (d : Nat) (hd : d < 10) : sliceA T 9 (.str [48, 49, 50, 51, 52, 53, 54, 55, 56, 57]) (some (.int .i64 (d : Int))) (some (.int .i64 ((d : Int) + 1))) none = some (.str [UInt8.ofNat (48 + d)]) := by
  have : d = 0 ∨ d = 1 ∨ d = 2 ∨ d = 3 ∨ d = 4 ∨ d = 5 ∨ d = 6 ∨ d = 7 ∨ d = 8 ∨ d = 9 := by omega
  rcases this with rfl | rfl | rfl | rfl | rfl | rfl | rfl | rfl | rfl | rfl <;> rfl
theorem binRem (a : Int) : binA T .rem 3 (.int .i64 a) (.int .i64 10) = some (.int .i64 (a.tmod 10)) := rfl
theorem binQuo (a : Int) : binA T .quo 3 (.int .i64 a) (.int .i64 10) = some (.int .i64 (IntKind.i64.wrap (a.tdiv 10))) := rfl
theorem t34_digs : ∀ (f u : Nat), f ≤ 100 → u < 10 ^ (f + 1) → u < 9223372036854775807 → callW pg 34 [.int .i64 (u : Int)] = M.pure (.str (digs (f + 1) u))
  | f, u, hf, hu, hm => by
    have hr : (u : Int).tmod 10 = ((u % 10 : Nat) : Int) := by rw [Int.tmod_eq_emod_of_nonneg (by omega)]; omega
    have hq : (u : Int).tdiv 10 = ((u / 10 : Nat) : Int) := by rw [Int.tdiv_eq_ediv_of_nonneg (by omega)]; omega
    have hs := slice10 (u % 10) (by omega)
    have hw1 : IntKind.i64.wrap (((u % 10 : Nat) : Int) + 1) = ((u % 10 : Nat) : Int) + 1 := wrap_in (by omega) (by omega)
    have hw2 : IntKind.i64.wrap ((u / 10 : Nat) : Int) = ((u / 10 : Nat) : Int) := wrap_in (by omega) (by omega)
    rw [C34]
    by_cases h10 : u < 10
    · have hd : digs (f + 1) u = [UInt8.ofNat (48 + u % 10)] := by
        have hu' : u % 10 = u := by omega
        rw [show digs (f + 1) u = bif decide (u < 10) then [UInt8.ofNat (48 + u)] else digs f (u / 10) ++ [UInt8.ofNat (48 + u % 10)] from rfl, decide_eq_true h10, cond_true, hu']
      rw [hd]
      generalize [UInt8.ofNat (48 + u % 10)] = ds at hs
      have h1 : (u : Int) < 10 := by omega
      generalize u % 10 = d at hr hw1 hs
      simp [S34, binRem, hr, hw1, hs, h1]
    · have h1 : ¬ ((u : Int) < 10) := by omega
      cases f with
      | zero => simp at hu; omega
      | succ f =>
        have ih := t34_digs f (u / 10) (by omega) (by rw [Nat.pow_succ] at hu; omega) (by omega)
        have hd : digs (f + 1 + 1) u = digs (f + 1) (u / 10) ++ [UInt8.ofNat (48 + u % 10)] := by
          rw [show digs (f + 1 + 1) u = bif decide (u < 10) then [UInt8.ofNat (48 + u)] else digs (f + 1) (u / 10) ++ [UInt8.ofNat (48 + u % 10)] from rfl, decide_eq_false h10, cond_false]
        have hl := digs_len (f + 1) (u / 10)
        have hc := catA (digs (f + 1) (u / 10)) [UInt8.ofNat (48 + u % 10)] (by simp; omega)
        rw [hd]
        generalize [UInt8.ofNat (48 + u % 10)] = ds at hs hc
        generalize u % 10 = d at hr hw1 hs
        clear hd hl
        generalize u / 10 = q at hq hw2 ih hc
        simp [S34, binRem, binQuo, hr, hq, hw1, hw2, hs, h1, ih, hc]
theorem t34 {n : Int} (h0 : 0 ≤ n) (h1 : n ≤ 1048576) : callW pg 34 [.int .i64 n] = M.pure (.str (itoaL n)) := by
  obtain ⟨u, rfl⟩ : ∃ u : Nat, n = u := ⟨n.toNat, by omega⟩
  rw [t34_digs 19 u (by omega) (by omega) (by omega)]
  unfold itoaL
  rw [decide_eq_false (by omega), cond_false]
  simp
theorem t14 (v : Ver) : callW pg 14 [v.av] = M.pure (.str (printV v)) := by
  rw [C14]
  unfold printV
  cases hr : rightV v with
  | false => simp [S14, t10, hr]
  | true =>
    obtain ⟨⟨a0, a1⟩, ⟨b0, b1⟩, ⟨c0, c1⟩⟩ := rightV_bd hr
    have l1 := itoaL_len v.a
    have l2 := itoaL_len v.b
    have l3 := itoaL_len v.c
    have e1 := catA (itoaL v.a) [46] (by simp; omega)
    have e2 := catA (itoaL v.a ++ [46]) (itoaL v.b) (by simp; omega)
    have e3 := catA (itoaL v.a ++ 46 :: itoaL v.b) [46] (by simp; omega)
    have e4 := catA (itoaL v.a ++ 46 :: (itoaL v.b ++ [46])) (itoaL v.c) (by simp; omega)
    simp only [List.append_assoc, List.cons_append, List.nil_append] at e2 e3 e4
    simp [S14, t10, hr, t34 a0 a1, t34 b0 b1, t34 c0 c1, e1, e2, e3, e4, dot]
end Go.Proofs.YtllapohmppeceaaGreatDoor.N
