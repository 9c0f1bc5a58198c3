/- What the functions on ranges compute: comparing, normal forms. No condition. -/
import Derived.Test.YtllapohmppeceaaDoorT1
import Derived.Test.YtllapohmppeceaaDoorOrder
namespace Go.Proofs.YtllapohmppeceaaDoor.N
open Go Go.Av Go.Av.Ap
def an (o r : Option Bool) : Option Bool := match o with
  | some true => r
  | some false => some false
  | none => none
theorem an_some (a b : Bool) : an (some a) (some b) = some (a && b) := by cases a <;> rfl
theorem eqA23a (x y z x' y' z' : Int) : eqA T 18 23 (.agg [.int .i64 x, .int .i64 y, .int .i64 z]) (.agg [.int .i64 x', .int .i64 y', .int .i64 z']) = an (some (x == x')) (an (some (y == y')) (an (some (z == z')) (some true))) := by rfl
theorem eqA23b (x y z x' y' z' : Int) : eqA T 17 23 (.agg [.int .i64 x, .int .i64 y, .int .i64 z]) (.agg [.int .i64 x', .int .i64 y', .int .i64 z']) = an (some (x == x')) (an (some (y == y')) (an (some (z == z')) (some true))) := by rfl
theorem eqA38 (a b c d e f a' b' c' d' e' f' : Int) : eqA T 20 38 (.agg [.int .i64 a, .int .i64 b, .int .i64 c, .int .i64 d, .int .i64 e, .int .i64 f]) (.agg [.int .i64 a', .int .i64 b', .int .i64 c', .int .i64 d', .int .i64 e', .int .i64 f']) =
    an (eqA T 18 23 (.agg [.int .i64 a, .int .i64 b, .int .i64 c]) (.agg [.int .i64 a', .int .i64 b', .int .i64 c'])) (an (eqA T 17 23 (.agg [.int .i64 d, .int .i64 e, .int .i64 f]) (.agg [.int .i64 d', .int .i64 e', .int .i64 f'])) (some true)) := by rfl
theorem neR (x y : Rng) : binA T .neq 38 x.av y.av = some (.bool !(decide (x = y))) := by
  have h : binA T .neq 38 x.av y.av = (eqA T 20 38 x.av y.av).map fun b => .bool !b := rfl
  rw [h]
  unfold Rng.av
  rw [eqA38, eqA23a, eqA23b]
  simp only [an_some]
  obtain ⟨⟨a, b, c⟩, ⟨d, e, f⟩⟩ := x
  obtain ⟨⟨a', b', c'⟩, ⟨d', e', f'⟩⟩ := y
  simp only [Rng.mk.injEq, Ver.mk.injEq, Option.map_some]
  congr 3
  rw [Bool.eq_iff_iff]
  simp
theorem loop20 (a b : List Rng) (hl : a.length = b.length) (hb : a.length ≤ 1099511627776) : ∀ (n : Nat) (i : Int), a.length - i.toNat = n → 0 ≤ i → i ≤ a.length →
    fixW (L20_0 (callW pg) fixW) [rngs a, rngs b, .int .i64 i] = M.pure (.bool (decide (a.drop i.toNat = b.drop i.toNat))) := by
  intro n
  induction n with
  | zero =>
    intro i hn hi hl'
    rw [FL20_0]
    simp only [L20_0]
    have h1 : ¬ (i < (a.length : Int)) := by omega
    have h2 : a.drop i.toNat = [] := List.drop_eq_nil_of_le (by omega)
    have h3 : b.drop i.toNat = [] := List.drop_eq_nil_of_le (by omega)
    simp [h1, h2, h3]
  | succ n ih =>
    intro i hn hi hl'
    have h1 : i < (a.length : Int) := by omega
    have h1' : i < (b.length : Int) := by omega
    have hlt : i.toNat < a.length := by omega
    have hlt' : i.toNat < b.length := by omega
    have h4 := ih (i + 1) (by omega) (by omega) (by omega)
    rw [show (i + 1).toNat = i.toNat + 1 by omega] at h4
    have hld : ∀ (x : Rng), loadA T 38 (.ip (acells x.av)) = some x.av := fun x => rfl
    rw [FL20_0, List.drop_eq_getElem_cons hlt, List.drop_eq_getElem_cons hlt']
    simp only [L20_0]
    generalize hx : a[i.toNat] = x
    generalize hy : b[i.toNat] = y
    simp (disch := omega) [h1, wrap_in, IX32, h4, hld, neR, hx, hy, -acells_rng]
theorem t20 (a b : List Rng) (hb : a.length ≤ 1099511627776) : callW pg 20 [rngs a, rngs b] = M.pure (.bool (decide (a = b))) := by
  rw [C20]
  by_cases h : a.length = b.length
  · have := loop20 a b h hb a.length 0 rfl (by omega) (by omega)
    simp at this
    simp [S20, h, this]
  · have h2 : a ≠ b := fun e => h (by rw [e])
    have h3 : ¬ ((a.length : Int) = b.length) := by omega
    simp [S20, h, h2]
/-- normal forms, the end of the range before being at hand -/
def okN : Option Ver → List Rng → Bool
  | _, [] => true
  | none, x :: l => decide (cmpV x.lo x.hi < 0) && okN (some x.hi) l
  | some p, x :: l => decide (cmpV x.lo x.hi < 0) && (decide (cmpV p x.lo < 0) && okN (some x.hi) l)
theorem loop19 (l : List Rng) (hb : l.length ≤ 1099511627776) : ∀ (n : Nat) (i : Int), l.length - i.toNat = n → 0 ≤ i → i ≤ l.length →
    fixW (L19_0 (callW pg) fixW) [rngs l, .int .i64 i] = M.pure (.bool (okN (if i = 0 then none else some l[i.toNat - 1]!.hi) (l.drop i.toNat))) := by
  intro n
  induction n with
  | zero =>
    intro i hn hi hl'
    rw [FL19_0]
    simp only [L19_0]
    have h1 : ¬ (i < (l.length : Int)) := by omega
    have h2 : l.drop i.toNat = [] := List.drop_eq_nil_of_le (by omega)
    have h3 : ∀ o, okN o [] = true := fun o => by cases o <;> rfl
    simp [h1, h2, h3]
  | succ n ih =>
    intro i hn hi hl'
    have h1 : i < (l.length : Int) := by omega
    have hlt : i.toNat < l.length := by omega
    have h4 := ih (i + 1) (by omega) (by omega) (by omega)
    rw [show (i + 1).toNat = i.toNat + 1 by omega, if_neg (by omega)] at h4
    simp only [Nat.add_sub_cancel] at h4
    rw [FL19_0, List.drop_eq_getElem_cons hlt]
    simp only [L19_0]
    by_cases h0 : i = 0
    · subst h0
      have hlt0 : 0 < l.length := by simpa using hlt
      rw [if_pos rfl]
      have h4' : fixW (L19_0 (callW pg) fixW) [rngs l, .int .i64 1] = M.pure (.bool (okN (some l[0].hi) (l.drop 1))) := by
        have := h4
        rw [getElem!_pos l _ hlt] at this
        exact this
      show _ = M.pure (AV.bool (okN none (l[0] :: l.drop 1)))
      generalize hx : l[0] = x at h4' ⊢
      by_cases hc : cmpV x.lo x.hi < 0
      · have hc' : ¬ (0 ≤ cmpV x.lo x.hi) := by omega
        simp (disch := omega) [hlt0, wrap_in, IX32, t12, hx, hc, hc', okN, h4']
      · have hc' : 0 ≤ cmpV x.lo x.hi := by omega
        simp (disch := omega) [hlt0, wrap_in, IX32, t12, hx, hc, hc', okN]
    · have hip : 0 < i := by omega
      have hlt1 : i.toNat - 1 < l.length := by omega
      have e1 : (i - 1).toNat = i.toNat - 1 := by omega
      rw [getElem!_pos l _ hlt] at h4
      rw [if_neg h0, getElem!_pos l _ hlt1]
      generalize hx : l[i.toNat] = x at h4 ⊢
      generalize hy : l[i.toNat - 1] = y
      by_cases hc : cmpV x.lo x.hi < 0
      · have hc' : ¬ (0 ≤ cmpV x.lo x.hi) := by omega
        by_cases hd : cmpV y.hi x.lo < 0
        · have hd' : ¬ (0 ≤ cmpV y.hi x.lo) := by omega
          simp (disch := omega) [h1, hip, wrap_in, IX32, t12, e1, hx, hy, hc, hc', hd, hd', okN, h4]
        · have hd' : 0 ≤ cmpV y.hi x.lo := by omega
          simp (disch := omega) [h1, hip, wrap_in, IX32, t12, e1, hx, hy, hc, hc', hd, hd', okN]
      · have hc' : 0 ≤ cmpV x.lo x.hi := by omega
        simp (disch := omega) [h1, hip, wrap_in, IX32, t12, e1, hx, hy, hc, hc', okN]
theorem t19 (l : List Rng) (hb : l.length ≤ 1099511627776) : callW pg 19 [rngs l] = M.pure (.bool (okN none l)) := by
  rw [C19]
  have := loop19 l hb l.length 0 rfl (by omega) (by omega)
  simp at this
  simp [S19, this]
/-- the greatest version of a list that the ranges have, and whether there is one -/
def newestL (q : Ver → Bool) : List Ver → Ver → Bool → Ver × Bool
  | [], b, f => (b, f)
  | v :: l, b, f => if (q v && (!f || decide (0 < cmpV v b))) = true then newestL q l v true else newestL q l b f
theorem loop21 (rs : List Rng) (hr : rs.length ≤ 1099511627776) (l : List Ver) (hb : l.length ≤ 1099511627776) : ∀ (n : Nat) (i : Int) (b : Ver) (f : Bool), l.length - i.toNat = n → 0 ≤ i → i ≤ l.length →
    fixW (L21_0 (callW pg) fixW) [rngs rs, .bool f, vers l, .int .i64 l.length, .int .i64 i, .int .i64 0, .int .i64 0, .int .i64 0, .int .i64 b.a, .int .i64 b.b, .int .i64 b.c] =
      M.pure (.tup [(newestL (hasL rs) (l.drop i.toNat) b f).1.av, .bool (newestL (hasL rs) (l.drop i.toNat) b f).2]) := by
  intro n
  induction n with
  | zero =>
    intro i b f hn hi hl'
    rw [FL21_0]
    simp only [L21_0]
    have h1 : ¬ (i < (l.length : Int)) := by omega
    have h2 : l.drop i.toNat = [] := List.drop_eq_nil_of_le (by omega)
    simp [h1, h2, newestL]
  | succ n ih =>
    intro i b f hn hi hl'
    have h1 : i < (l.length : Int) := by omega
    have hlt : i.toNat < l.length := by omega
    have h4 := fun b f => ih (i + 1) b f (by omega) (by omega) (by omega)
    simp only [show (i + 1).toNat = i.toNat + 1 by omega] at h4
    have hld : ∀ (x : Ver), loadA T 23 (.ip (acells x.av)) = some x.av := fun x => rfl
    rw [FL21_0, List.drop_eq_getElem_cons hlt]
    simp only [L21_0, newestL]
    generalize hx : l[i.toNat] = x at h4 ⊢
    by_cases hq : hasL rs x = true
    · cases f
      · simp (disch := omega) [h1, wrap_in, IX42, hx, t18 _ _ hr, t12, hq, h4]
      · by_cases hc : 0 < cmpV x b
        · simp (disch := omega) [h1, wrap_in, IX42, hx, t18 _ _ hr, t12, hq, hc, h4]
        · simp (disch := omega) [h1, wrap_in, IX42, hx, t18 _ _ hr, t12, hq, hc, h4]
    · simp only [Bool.not_eq_true] at hq
      simp (disch := omega) [h1, wrap_in, IX42, hx, t18 _ _ hr, t12, hq, h4]
theorem t21 (l : List Ver) (rs : List Rng) (hb : l.length ≤ 1099511627776) (hr : rs.length ≤ 1099511627776) :
    callW pg 21 [vers l, rngs rs] = M.pure (.tup [(newestL (hasL rs) l ⟨0, 0, 0⟩ false).1.av, .bool (newestL (hasL rs) l ⟨0, 0, 0⟩ false).2]) := by
  rw [C21]
  have := loop21 rs hr l hb l.length 0 ⟨0, 0, 0⟩ false rfl (by omega) (by omega)
  simp at this
  simp [S21, this]
  exact isoP_pure fun g => by simp [cl, cls]
end Go.Proofs.YtllapohmppeceaaDoor.N
