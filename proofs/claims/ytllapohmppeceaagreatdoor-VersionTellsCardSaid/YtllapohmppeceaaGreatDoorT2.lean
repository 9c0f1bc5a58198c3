/- What the functions on ranges compute: comparing, normal forms. No condition. -/
import Derived.Test.YtllapohmppeceaaGreatDoorT1
import Derived.Test.YtllapohmppeceaaGreatDoorOrder
namespace Go.Proofs.YtllapohmppeceaaGreatDoor.N
open Go Go.Av Go.Av.Ap
def an (o r : Option Bool) : Option Bool := match o with
  | some true => r
  | some false => some false
  | none => none
theorem an_some (a b : Bool) : an (some a) (some b) = some (a && b) := by cases a <;> rfl
theorem eqA23a (x y z x' y' z' : Int) : eqA T 18 23 (.agg [.int .i64 x, .int .i64 y, .int .i64 z]) (.agg [.int .i64 x', .int .i64 y', .int .i64 z']) = an (some (x == x')) (an (some (y == y')) (an (some (z == z')) (some true))) := by rfl
theorem eqA23b (x y z x' y' z' : Int) : eqA T 17 23 (.agg [.int .i64 x, .int .i64 y, .int .i64 z]) (.agg [.int .i64 x', .int .i64 y', .int .i64 z']) = an (some (x == x')) (an (some (y == y')) (an (some (z == z')) (some true))) := by rfl
theorem eqA40 (a b c d e f a' b' c' d' e' f' : Int) : eqA T 20 40 (.agg [.int .i64 a, .int .i64 b, .int .i64 c, .int .i64 d, .int .i64 e, .int .i64 f]) (.agg [.int .i64 a', .int .i64 b', .int .i64 c', .int .i64 d', .int .i64 e', .int .i64 f']) =
    an (eqA T 18 23 (.agg [.int .i64 a, .int .i64 b, .int .i64 c]) (.agg [.int .i64 a', .int .i64 b', .int .i64 c'])) (an (eqA T 17 23 (.agg [.int .i64 d, .int .i64 e, .int .i64 f]) (.agg [.int .i64 d', .int .i64 e', .int .i64 f'])) (some true)) := by rfl
theorem neR (x y : Rng) : binA T .neq 40 x.av y.av = some (.bool !(decide (x = y))) := by
  have h : binA T .neq 40 x.av y.av = (eqA T 20 40 x.av y.av).map fun b => .bool !b := rfl
  rw [h]
  unfold Rng.av
  rw [eqA40, eqA23a, eqA23b]
  simp only [an_some]
  obtain ⟨⟨a, b, c⟩, ⟨d, e, f⟩⟩ := x
  obtain ⟨⟨a', b', c'⟩, ⟨d', e', f'⟩⟩ := y
  simp only [Rng.mk.injEq, Ver.mk.injEq, Option.map_some]
  congr 3
  rw [Bool.eq_iff_iff]
  simp
theorem loop19 (a b : List Rng) (hl : a.length = b.length) (hb : a.length ≤ 1099511627776) : ∀ (n : Nat) (i : Int), a.length - i.toNat = n → 0 ≤ i → i ≤ a.length →
    fixW (L19_0 (callW pg) fixW) [rngs a, rngs b, .int .i64 i] = M.pure (.bool (decide (a.drop i.toNat = b.drop i.toNat))) := by
  intro n
  induction n with
  | zero =>
    intro i hn hi hl'
    rw [FL19_0]
    simp only [L19_0]
    have h1 : ¬ (i < (a.length : Int)) := by omega
    have h2 : a.drop i.toNat = [] := List.drop_eq_nil_of_le (by omega)
    have h3 : b.drop i.toNat = [] := List.drop_eq_nil_of_le (by omega)
    simp [h1, h2, h3]
  | succ n ih =>
    intro i hn hi hl'
    have h1 : i < (a.length : Int) := by omega
    have h1' : i < (b.length : Int) := by omega
    have hlt : i.toNat < a.length := by omega
    have hlt' : i.toNat < b.length := by omega
    have h4 := ih (i + 1) (by omega) (by omega) (by omega)
    rw [show (i + 1).toNat = i.toNat + 1 by omega] at h4
    have hld : ∀ (x : Rng), loadA T 40 (.ip (acells x.av)) = some x.av := fun x => rfl
    rw [FL19_0, List.drop_eq_getElem_cons hlt, List.drop_eq_getElem_cons hlt']
    simp only [L19_0]
    generalize hx : a[i.toNat] = x
    generalize hy : b[i.toNat] = y
    simp (disch := omega) [h1, wrap_in, IX24, h4, hld, neR, hx, hy, -acells_rng]
theorem t19 (a b : List Rng) (hb : a.length ≤ 1099511627776) : callW pg 19 [rngs a, rngs b] = M.pure (.bool (decide (a = b))) := by
  rw [C19]
  by_cases h : a.length = b.length
  · have := loop19 a b h hb a.length 0 rfl (by omega) (by omega)
    simp at this
    simp [S19, h, this]
  · have h2 : a ≠ b := fun e => h (by rw [e])
    have h3 : ¬ ((a.length : Int) = b.length) := by omega
    simp [S19, h, h2]
def newestL (q : Ver → Bool) : List Ver → Ver → Bool → Ver × Bool
  | [], b, f => (b, f)
  | v :: l, b, f => if (q v && (!f || decide (0 < cmpV v b))) = true then newestL q l v true else newestL q l b f
theorem loop7 (rs : List Rng) (hr : rs.length ≤ 1099511627776) (l : List Ver) (hb : l.length ≤ 1099511627776) : ∀ (n : Nat) (i : Int) (b : Ver) (f : Bool), l.length - i.toNat = n → 0 ≤ i → i ≤ l.length →
    fixW (L7_0 (callW pg) fixW) [rngs rs, .bool f, vers l, .int .i64 l.length, .int .i64 i, .int .i64 0, .int .i64 0, .int .i64 0, .int .i64 b.a, .int .i64 b.b, .int .i64 b.c] =
      M.pure (.tup [(newestL (hasL rs) (l.drop i.toNat) b f).1.av, .bool (newestL (hasL rs) (l.drop i.toNat) b f).2]) := by
  intro n
  induction n with
  | zero =>
    intro i b f hn hi hl'
    rw [FL7_0]
    simp only [L7_0]
    have h1 : ¬ (i < (l.length : Int)) := by omega
    have h2 : l.drop i.toNat = [] := List.drop_eq_nil_of_le (by omega)
    simp [h1, h2, newestL]
  | succ n ih =>
    intro i b f hn hi hl'
    have h1 : i < (l.length : Int) := by omega
    have hlt : i.toNat < l.length := by omega
    have h4 := fun b f => ih (i + 1) b f (by omega) (by omega) (by omega)
    simp only [show (i + 1).toNat = i.toNat + 1 by omega] at h4
    have hld : ∀ (x : Ver), loadA T 23 (.ip (acells x.av)) = some x.av := fun x => rfl
    rw [FL7_0, List.drop_eq_getElem_cons hlt]
    simp only [L7_0, newestL]
    generalize hx : l[i.toNat] = x at h4 ⊢
    by_cases hq : hasL rs x = true
    · cases f
      · simp (disch := omega) [h1, wrap_in, IX25, hx, t17 _ _ hr, t11, hq, h4]
      · by_cases hc : 0 < cmpV x b
        · simp (disch := omega) [h1, wrap_in, IX25, hx, t17 _ _ hr, t11, hq, hc, h4]
        · simp (disch := omega) [h1, wrap_in, IX25, hx, t17 _ _ hr, t11, hq, hc, h4]
    · simp only [Bool.not_eq_true] at hq
      simp (disch := omega) [h1, wrap_in, IX25, hx, t17 _ _ hr, t11, hq, h4]
theorem t7 (l : List Ver) (rs : List Rng) (hb : l.length ≤ 1099511627776) (hr : rs.length ≤ 1099511627776) :
    callW pg 7 [vers l, rngs rs] = M.pure (.tup [(newestL (hasL rs) l ⟨0, 0, 0⟩ false).1.av, .bool (newestL (hasL rs) l ⟨0, 0, 0⟩ false).2]) := by
  rw [C7]
  have := loop7 rs hr l hb l.length 0 ⟨0, 0, 0⟩ false rfl (by omega) (by omega)
  simp at this
  simp [S7, this]
  exact isoP_pure fun g => by simp [cl, cls]
end Go.Proofs.YtllapohmppeceaaGreatDoor.N
