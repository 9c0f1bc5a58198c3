/- What the reference's Form computes. No condition. -/
import Derived.Test.YtllapohmppeceaaGreatDoorR3
import Derived.Test.YtllapohmppeceaaGreatDoorT4
namespace Go.Proofs.YtllapohmppeceaaGreatDoor.N
open Go Go.Av Go.Av.Ap
def OutF (acc : List Rng) (ov : AV) (h : Hp) : Prop := (acc = [] ∧ ov = .hn) ∨ ∃ q, acc ≠ [] ∧ ov = .hs q 0 acc.length 6 true ∧ h[q]? = some (cR acc.reverse)
theorem ixV (A : List Ver) (x : Ver) (B : List Ver) : indexAddrA T 25 (vers (A ++ x :: B)) (.int .i64 A.length) = some (.ip (acells x.av)) := by
  rw [IX25 (by omega) (by simp; omega)]
  simp
theorem lenVs (l : List Ver) : lenA T 25 (vers l) = some (.int .i64 l.length) := by
  show some (AV.int .i64 ((l.map Ver.av).length : Nat)) = _
  rw [List.length_map]
theorem ldV (x : Ver) : loadA T 23 (.ip (acells x.av)) = some x.av := rfl
theorem gtr0 (a : Int) : binA T .gtr 3 (.int .i64 a) (.int .i64 0) = some (.bool (decide (a > 0))) := rfl
theorem bld (u w : Ver) : buildA T false 40 [(0, u.av), (1, w.av)] = some (Rng.av ⟨u, w⟩) := rfl
theorem bld1 (x : Rng) : buildSliceA T 24 1 [(0, x.av)] = some (.sl [x.av]) := rfl
theorem unNot (b : Bool) : unA .not (.bool b) = some (.bool (!b)) := rfl
theorem loop23 (a b : List Rng) (form : Int) (ha : a.length ≤ 1099511627776) (hb : b.length ≤ 1099511627776) (l : List Ver) (hl : l.length ≤ 1073741824) : ∀ (B A : List Ver) (acc : List Rng) (ov : AV) (h : Hp), A ++ B = l → acc.length ≤ A.length → OutF acc ov h →
    ∃ ov' h', fixW (L23_0 (callW pg) fixW) [rngs a, rngs b, .int .i64 form, vers l, ov, .int .i64 A.length] h = .ok ov' h' ∧ OutF (formGo (wantedL a b form) B acc) ov' h'
  | [], A, acc, ov, h, e, hal, ho => by
    rw [List.append_nil] at e
    subst e
    refine ⟨ov, h, ?_, ho⟩
    have hw : IntKind.i64.wrap ((A.length : Int) + 1) = ((A.length + 1 : Nat) : Int) := wrap_add1 (by omega)
    have h1 : ¬ ((A.length + 1 : Nat) : Int) < (A.length : Int) := by omega
    rw [FL23_0]
    simp only [L23_0, nth_zero, nth_succ, bin_add, bnd_some, hw, lenVs, bin_lss, h1, decide_false, condM_bool, Bool.false_eq_true, if_false]
    rfl
  | [u], A, acc, ov, h, e, hal, ho => by
    refine ⟨ov, h, ?_, ho⟩
    have hll : A.length + 1 = l.length := by rw [← e]; simp
    have hw : IntKind.i64.wrap ((A.length : Int) + 1) = ((A.length + 1 : Nat) : Int) := wrap_add1 (by omega)
    have h1 : ¬ ((A.length + 1 : Nat) : Int) < (l.length : Int) := by omega
    rw [FL23_0]
    simp only [L23_0, nth_zero, nth_succ, bin_add, bnd_some, hw, lenVs, bin_lss, h1, decide_false, condM_bool, Bool.false_eq_true, if_false]
    rfl
  | u :: w :: B, A, acc, ov, h, e, hal, ho => by
    have hll : A.length + (B.length + 1 + 1) = l.length := by rw [← e]; simp
    have hw : IntKind.i64.wrap ((A.length : Int) + 1) = ((A.length + 1 : Nat) : Int) := wrap_add1 (by omega)
    have h1 : ((A.length + 1 : Nat) : Int) < (l.length : Int) := by omega
    have hA1 : (A ++ [u]).length = A.length + 1 := by simp
    have hix : indexAddrA T 25 (vers l) (.int .i64 A.length) = some (.ip (acells u.av)) := by rw [← e]; exact ixV A u (w :: B)
    have hix1 : indexAddrA T 25 (vers l) (.int .i64 ((A.length + 1 : Nat) : Int)) = some (.ip (acells w.av)) := by
      rw [← e, ← hA1, show A ++ u :: w :: B = (A ++ [u]) ++ w :: B by simp]
      exact ixV (A ++ [u]) w B
    rw [FL23_0]
    simp only [L23_0, jn, nth_zero, nth_succ, bin_add, bnd_some, hw, lenVs, bin_lss, h1, decide_true, condM_bool, if_true, hix, ldV, t45 a b form u ha hb, bnd_pure, unNot]
    have hK : ∀ ov', K23_0 (callW pg) fixW (fixW (L23_0 (callW pg) fixW)) [rngs a, rngs b, .int .i64 form, vers l, ov', .int .i64 A.length] = fixW (L23_0 (callW pg) fixW) [rngs a, rngs b, .int .i64 form, vers l, ov', .int .i64 (A ++ [u]).length] := fun ov' => by
      simp only [K23_0, nth_zero, nth_succ, bin_add, bnd_some, hw, hA1]
    have hwant : wantB form (hasL a u) (hasL b u) = wantedL a b form u := rfl
    rw [hwant]
    simp only [formGo]
    have he1 : (A ++ [u]) ++ w :: B = l := by rw [← e]; simp
    cases hq : wantedL a b form u with
    | false =>
      simp only [Bool.not_false, if_true, hK, Bool.false_eq_true, if_false]
      exact loop23 a b form ha hb l hl (w :: B) (A ++ [u]) acc ov h he1 (by omega) ho
    | true =>
      simp only [Bool.not_true, Bool.false_eq_true, if_false, if_true]
      rcases ho with ⟨rfl, rfl⟩ | ⟨q, hne, rfl, hq⟩
      · obtain ⟨ov', h', i1, i2⟩ := loop23 a b form ha hb l hl (w :: B) (A ++ [u]) [⟨u, w⟩] (.hs h.length 0 1 6 true) (h ++ [cR [⟨u, w⟩]]) he1 (by simp) (.inr ⟨h.length, by simp, rfl, by simp⟩)
        refine ⟨ov', h', ?_, i2⟩
        simp only [LENN24, bnd_some, gtr0, show decide ((0 : Int) > 0) = false from rfl, guardM_ft, bnd_pure, pickA_false, condM_bool, Bool.false_eq_true, if_false, List.replicate, nth_zero, hw, hix1, ldV, bld, bld1]
        rw [bnd_ok (apn _ h), hK]
        exact i1
      · obtain ⟨o, t, rfl⟩ : ∃ o t, acc = o :: t := by
          cases acc with
          | nil => exact absurd rfl hne
          | cons o t => exact ⟨o, t, rfl⟩
        have hlen : (o :: t).length = t.length + 1 := rfl
        rw [hlen] at hal ⊢
        have hq' : h[q]? = some (cR t.reverse ++ (eaR o ++ [])) := by
          rw [hq, List.reverse_cons, cR_app]
          simp [cR]
        have hqlt : q < h.length := by
          rcases Nat.lt_or_ge q h.length with k | k
          · exact k
          · rw [List.getElem?_eq_none k] at hq; cases hq
        have hws : IntKind.i64.wrap (((t.length + 1 : Nat) : Int) - 1) = (t.length : Int) := wrap_sub1 (by omega)
        have hg : decide (((t.length + 1 : Nat) : Int) > 0) = true := decide_eq_true (by omega)
        have hih := ih24 (p := q) (show t.length < t.length + 1 by omega)
        have hfa : ∀ k, fieldAddrA T 40 (.hp q k) 1 = some (.hp q (k + 3)) := fun _ => rfl
        have hl23 := load23 hq' (show t.reverse.length = t.length by simp)
        simp only [LENH24, bnd_some, gtr0, hg, guardM_take1, bin_sub, hws, hih, hfa, hix, ldV]
        have e1 : bnd (loadH T 23 (.hp q (0 + t.length * 6 + 3))) (fun v18 => bnd (lft (binA T .eql 23 v18 u.av)) fun v21 => M.pure [v21]) h = .ok [.bool (decide (o.hi = u))] h := by
          rw [bnd_ok hl23, eqV]
          rfl
        rw [bnd_ok e1]
        simp only [nth_zero, pickA_true, bnd_some, condM_bool]
        by_cases hc : o.hi = u
        · rw [if_pos hc]
          have hst := store23 hq' (show t.reverse.length = t.length by simp) w
          obtain ⟨ov', h', i1, i2⟩ := loop23 a b form ha hb l hl (w :: B) (A ++ [u]) (⟨o.lo, w⟩ :: t) (.hs q 0 (t.length + 1) 6 true) (h.set q (cR t.reverse ++ (eaR ⟨o.lo, w⟩ ++ []))) he1 (by simp; omega)
            (.inr ⟨q, by simp, rfl, by rw [List.getElem?_set_self hqlt, List.reverse_cons, cR_app]; simp [cR]⟩)
          refine ⟨ov', h', ?_, i2⟩
          simp only [hc, decide_true, if_true, hix1, ldV, bnd_some]
          rw [bnd_ok hst, hK]
          exact i1
        · rw [if_neg hc]
          obtain ⟨ov', h', i1, i2⟩ := loop23 a b form ha hb l hl (w :: B) (A ++ [u]) (⟨u, w⟩ :: o :: t) (.hs h.length 0 (t.length + 1 + 1) 6 true) ((h.set q []) ++ [cR ((o :: t).reverse ++ [⟨u, w⟩])]) he1 (by simp; omega)
            (.inr ⟨h.length, by simp, rfl, by simp⟩)
          refine ⟨ov', h', ?_, i2⟩
          simp only [hc, decide_false, Bool.false_eq_true, if_false, hix1, ldV, bnd_some, bld, bld1]
          rw [bnd_ok (aps hq (by simp) (by omega) (by omega) _), hK]
          exact i1
theorem frz_outF {acc : List Rng} {ov : AV} {h : Hp} (ho : OutF acc ov h) : frz 6 h ov = rngs acc.reverse := by
  rcases ho with ⟨rfl, rfl⟩ | ⟨q, hne, rfl, hq⟩
  · rfl
  · have hl := cR_len acc.reverse
    simp only [List.length_reverse] at hl
    have e : frz 6 h (.hs q 0 acc.length 6 true) = (match h[q]? with
      | some cs => bif decide (0 + acc.length * 6 ≤ cs.length) && decide (0 < 6) && (true || (Nat.beq 6 1 && cs.all okCell)) then
          .sl ((List.range acc.length).map fun i => frz 5 h (bif true then .agg ((cs.drop (0 + i * 6)).take 6) else nth cs (0 + i * 6))) else .any
      | none => .any) := rfl
    rw [e, hq]
    simp only [Bool.true_or, Bool.and_true, cond_true]
    have e2 : decide (0 + acc.length * 6 ≤ (cR acc.reverse).length) = true := decide_eq_true (by omega)
    rw [e2]
    simp only [Bool.true_and, cond_true, show decide (0 < 6) = true from rfl]
    unfold rngs
    congr 1
    apply List.ext_getElem
    · simp
    · intro i h1 h2
      simp only [List.length_map, List.length_range] at h1
      simp only [List.getElem_map, List.getElem_range]
      have hi : i < acc.reverse.length := by simpa using h1
      have hs : acc.reverse = acc.reverse.take i ++ acc.reverse[i] :: acc.reverse.drop (i + 1) := by
        rw [← List.drop_eq_getElem_cons hi, List.take_append_drop]
      have htl : (acc.reverse.take i).length = i := by rw [List.length_take]; omega
      have hd : ((cR acc.reverse).drop (0 + i * 6)).take 6 = eaR acc.reverse[i] := by
        have h3 : cR acc.reverse = cR (acc.reverse.take i) ++ (eaR acc.reverse[i] ++ cR (acc.reverse.drop (i + 1))) := by
          conv => lhs; rw [hs]
          rw [cR_app, cR_cons]
        have h4 := cR_len (acc.reverse.take i)
        rw [htl] at h4
        rw [h3, Nat.zero_add, ← h4, List.drop_left]
        rfl
      rw [hd]
      rfl
theorem t23 (a b : List Rng) (form : Int) (hb : a.length + b.length ≤ 1048576) : callW pg 23 [rngs a, rngs b, .int .i64 form] = M.pure (rngs (formL a b form)) := by
  rw [C23]
  simp only [cl_rngs, cl]
  funext h0
  have hL := bounds_len a b
  obtain ⟨ov, h', i1, i2⟩ := loop23 a b form (by omega) (by omega) (boundsL a b) (by omega) (boundsL a b) [] [] .hn [] rfl (by simp) (.inl ⟨rfl, rfl⟩)
  unfold isoP
  have key : S23 (callW pg) fixW (rngs a) (rngs b) (.int .i64 form) [] = .ok ov h' := by
    simp only [S23, t44 a b hb, bnd_pure]
    exact i1
  rw [key]
  simp only
  rw [frz_outF i2]
  rfl
theorem t21 (l : List Rng) (hb : l.length ≤ 1048576) : callW pg 21 [rngs l] = M.pure (rngs (normL l)) := by
  rw [C21]
  have h := t23 l [] 0 (by simpa using hb)
  have hn : rngs [] = .sl [] := rfl
  rw [hn, form_norm] at h
  simp [S21, h]
end Go.Proofs.YtllapohmppeceaaGreatDoor.N
