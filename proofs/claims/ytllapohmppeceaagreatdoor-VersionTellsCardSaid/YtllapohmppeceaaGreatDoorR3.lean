/- The reference's bounds, whole. No condition. -/
import Derived.Test.YtllapohmppeceaaGreatDoorR2
import Derived.Test.YtllapohmppeceaaGreatDoorT5
namespace Go.Proofs.YtllapohmppeceaaGreatDoor.N
open Go Go.Av Go.Av.Ap
theorem lenR (l : List Rng) : lenA T 24 (rngs l) = some (.int .i64 l.length) := by
  show some (AV.int .i64 ((l.map Rng.av).length : Nat)) = _
  rw [List.length_map]
theorem bin_mul2 (b : Int) : binA T .mul 3 (.int .i64 2) (.int .i64 b) = some (.int .i64 (IntKind.i64.wrap (2 * b))) := rfl
theorem bin_quo2 (a : Int) : binA T .quo 3 (.int .i64 a) (.int .i64 2) = some (.int .i64 (IntKind.i64.wrap (a.tdiv 2))) := rfl
theorem bin_rem2 (a : Int) : binA T .rem 3 (.int .i64 a) (.int .i64 2) = some (.int .i64 (a.tmod 2)) := rfl
theorem eql1 (a : Int) : binA T .eql 3 (.int .i64 a) (.int .i64 1) = some (.bool (a == 1)) := rfl
theorem even44 (L : List Rng) (A : List Rng) (x : Rng) (B : List Rng) (e : A ++ x :: B = L) (hL : L.length ≤ 1048576) (O : List Ver) (hO : O.length ≤ 1073741824) (ov : AV) (h : Hp) (ho : OutV O ov h) :
    ∃ ov' h', fixW (L44_1 (callW pg) fixW) [ov, rngs L, .int .i64 ((2 * A.length : Nat) : Int)] h = fixW (L44_1 (callW pg) fixW) [ov', rngs L, .int .i64 ((2 * A.length + 1 : Nat) : Int)] h' ∧ OutV (insV O x.lo) ov' h' := by
  have hll : A.length + (B.length + 1) = L.length := by rw [← e]; simp
  have hm : IntKind.i64.wrap (2 * (L.length : Int)) = ((2 * L.length : Nat) : Int) := by rw [wrap_in (by omega) (by omega)]; omega
  have hq : IntKind.i64.wrap (((2 * A.length : Nat) : Int).tdiv 2) = (A.length : Int) := by
    have : ((2 * A.length : Nat) : Int).tdiv 2 = (A.length : Int) := by rw [Int.tdiv_eq_ediv_of_nonneg (by omega)]; omega
    rw [this, wrap_in (by omega) (by omega)]
  have hr : ((2 * A.length : Nat) : Int).tmod 2 = 0 := by rw [Int.tmod_eq_emod_of_nonneg (by omega)]; omega
  have hlt : ((2 * A.length : Nat) : Int) < ((2 * L.length : Nat) : Int) := by omega
  have hix : indexAddrA T 24 (rngs L) (.int .i64 A.length) = some (.ip (acells x.av)) := by rw [← e]; exact ix24 A x B
  obtain ⟨ov', h', i1, i2⟩ := loop44 (K44_0 (callW pg) fixW (fixW (L44_1 (callW pg) fixW))) (rngs L) (.int .i64 ((2 * A.length : Nat) : Int)) x.lo O hO ov h ho O [] rfl (by simp)
  refine ⟨ov', h', ?_, i2⟩
  have hw : IntKind.i64.wrap (((2 * A.length : Nat) : Int) + 1) = ((2 * A.length + 1 : Nat) : Int) := wrap_add1 (by omega)
  rw [FL44_1]
  simp only [L44_1, jn, K44_1, nth_zero, nth_succ, lenR, bin_mul2, bnd_some, hm, bin_lss, hlt, decide_true, condM_bool, if_true, bin_quo2, hq, hix, flo, llo, cellsNil_ver, bnd_pure, bin_rem2, hr, eql1, show ((0 : Int) == 1) = false from rfl, Bool.false_eq_true, if_false, acells_ver]
  have i1' := i1
  rw [show ((([] : List Ver).length : Nat) : Int) = 0 from rfl] at i1'
  refine i1'.trans ?_
  simp only [K44_0, nth_zero, nth_succ, bin_add, bnd_some, hw]
theorem odd44 (L : List Rng) (A : List Rng) (x : Rng) (B : List Rng) (e : A ++ x :: B = L) (hL : L.length ≤ 1048576) (O : List Ver) (hO : O.length ≤ 1073741824) (ov : AV) (h : Hp) (ho : OutV O ov h) :
    ∃ ov' h', fixW (L44_1 (callW pg) fixW) [ov, rngs L, .int .i64 ((2 * A.length + 1 : Nat) : Int)] h = fixW (L44_1 (callW pg) fixW) [ov', rngs L, .int .i64 ((2 * (A.length + 1) : Nat) : Int)] h' ∧ OutV (insV O x.hi) ov' h' := by
  have hll : A.length + (B.length + 1) = L.length := by rw [← e]; simp
  have hm : IntKind.i64.wrap (2 * (L.length : Int)) = ((2 * L.length : Nat) : Int) := by rw [wrap_in (by omega) (by omega)]; omega
  have hq : IntKind.i64.wrap (((2 * A.length + 1 : Nat) : Int).tdiv 2) = (A.length : Int) := by
    have : ((2 * A.length + 1 : Nat) : Int).tdiv 2 = (A.length : Int) := by rw [Int.tdiv_eq_ediv_of_nonneg (by omega)]; omega
    rw [this, wrap_in (by omega) (by omega)]
  have hr : ((2 * A.length + 1 : Nat) : Int).tmod 2 = 1 := by rw [Int.tmod_eq_emod_of_nonneg (by omega)]; omega
  have hlt : ((2 * A.length + 1 : Nat) : Int) < ((2 * L.length : Nat) : Int) := by omega
  have hix : indexAddrA T 24 (rngs L) (.int .i64 A.length) = some (.ip (acells x.av)) := by rw [← e]; exact ix24 A x B
  obtain ⟨ov', h', i1, i2⟩ := loop44 (K44_0 (callW pg) fixW (fixW (L44_1 (callW pg) fixW))) (rngs L) (.int .i64 ((2 * A.length + 1 : Nat) : Int)) x.hi O hO ov h ho O [] rfl (by simp)
  refine ⟨ov', h', ?_, i2⟩
  have hw : IntKind.i64.wrap (((2 * A.length + 1 : Nat) : Int) + 1) = ((2 * (A.length + 1) : Nat) : Int) := by rw [wrap_add1 (by omega)]; omega
  rw [FL44_1]
  simp only [L44_1, jn, K44_1, nth_zero, nth_succ, lenR, bin_mul2, bnd_some, hm, bin_lss, hlt, decide_true, condM_bool, if_true, bin_quo2, hq, hix, flo, fhi, llo, lhi, cellsNil_ver, bnd_pure, bin_rem2, hr, eql1, show ((1 : Int) == 1) = true from rfl, acells_ver]
  have i1' := i1
  rw [show ((([] : List Ver).length : Nat) : Int) = 0 from rfl] at i1'
  refine i1'.trans ?_
  simp only [K44_0, nth_zero, nth_succ, bin_add, bnd_some, hw]
theorem outer44 (L : List Rng) (hL : L.length ≤ 1048576) : ∀ (B A : List Rng) (O : List Ver) (ov : AV) (h : Hp), A ++ B = L → O.length ≤ 2 * A.length → OutV O ov h →
    ∃ ov' h', fixW (L44_1 (callW pg) fixW) [ov, rngs L, .int .i64 ((2 * A.length : Nat) : Int)] h = .ok ov' h' ∧ OutV ((endsOf B).foldl insV O) ov' h'
  | [], A, O, ov, h, e, hO, ho => by
    rw [List.append_nil] at e
    subst e
    refine ⟨ov, h, ?_, ho⟩
    have hm : IntKind.i64.wrap (2 * (A.length : Int)) = ((2 * A.length : Nat) : Int) := by rw [wrap_in (by omega) (by omega)]; omega
    have hlt : ¬ ((2 * A.length : Nat) : Int) < ((2 * A.length : Nat) : Int) := by omega
    rw [FL44_1]
    simp only [L44_1, nth_zero, nth_succ, lenR, bin_mul2, bnd_some, hm, bin_lss, hlt, decide_false, condM_bool, Bool.false_eq_true, if_false]
    rfl
  | x :: B, A, O, ov, h, e, hO, ho => by
    have hll : A.length + (B.length + 1) = L.length := by rw [← e]; simp
    have k1 := ins_len O x.lo
    have k2 := ins_len (insV O x.lo) x.hi
    obtain ⟨ov1, h1, i1, o1⟩ := even44 L A x B e hL O (by omega) ov h ho
    obtain ⟨ov2, h2, i2, o2⟩ := odd44 L A x B e hL (insV O x.lo) (by omega) ov1 h1 o1
    obtain ⟨ov3, h3, i3, o3⟩ := outer44 L hL B (A ++ [x]) _ ov2 h2 (by rw [← e]; simp) (by simp; omega) o2
    rw [show (A ++ [x]).length = A.length + 1 by simp] at i3
    exact ⟨ov3, h3, i1.trans (i2.trans i3), o3⟩
theorem frz_outV {O : List Ver} {ov : AV} {h : Hp} (ho : OutV O ov h) : frz 6 h ov = vers O := by
  rcases ho with ⟨rfl, rfl⟩ | ⟨q, hne, rfl, hq⟩
  · rfl
  · have hl := cV_len O
    have e : frz 6 h (.hs q 0 O.length 3 true) = (match h[q]? with
      | some cs => bif decide (0 + O.length * 3 ≤ cs.length) && decide (0 < 3) && (true || (Nat.beq 3 1 && cs.all okCell)) then
          .sl ((List.range O.length).map fun i => frz 5 h (bif true then .agg ((cs.drop (0 + i * 3)).take 3) else nth cs (0 + i * 3))) else .any
      | none => .any) := rfl
    rw [e, hq]
    simp only [Bool.true_or, Bool.and_true, cond_true]
    have e2 : decide (0 + O.length * 3 ≤ (cV O).length) = true := decide_eq_true (by omega)
    rw [e2]
    simp only [Bool.true_and, cond_true, show decide (0 < 3) = true from rfl]
    unfold vers
    congr 1
    apply List.ext_getElem
    · simp
    · intro i h1 h2
      simp only [List.length_map, List.length_range] at h1
      simp only [List.getElem_map, List.getElem_range]
      have hs : O = O.take i ++ O[i] :: O.drop (i + 1) := by
        rw [← List.drop_eq_getElem_cons h1, List.take_append_drop]
      have htl : (O.take i).length = i := by rw [List.length_take]; omega
      have hd : ((cV O).drop (0 + i * 3)).take 3 = eaV O[i] := by
        have h3 : cV O = cV (O.take i) ++ (eaV O[i] ++ cV (O.drop (i + 1))) := by
          conv => lhs; rw [hs]
          rw [cV_app, cV_cons]
        have h4 := cV_len (O.take i)
        rw [htl] at h4
        rw [h3, Nat.zero_add, ← h4, List.drop_left]
        rfl
      rw [hd]
      rfl
theorem t44 (a b : List Rng) (hb : a.length + b.length ≤ 1048576) : callW pg 44 [rngs a, rngs b] = M.pure (vers (boundsL a b)) := by
  rw [C44]
  simp only [cl_rngs]
  funext h0
  have hL : (a ++ b).length ≤ 1048576 := by simpa using hb
  obtain ⟨ov, h', i1, i2⟩ := outer44 (a ++ b) hL (a ++ b) [] [] .hn [] rfl (by simp) (.inl ⟨rfl, rfl⟩)
  have e0 : buildSliceA T 24 0 [] = some (rngs []) := rfl
  have e1 : appA T 24 (rngs []) (rngs a) = some (rngs a) := ap24 (o := []) (bs := a) (by simp; omega)
  have e2 : appA T 24 (rngs a) (rngs b) = some (rngs (a ++ b)) := ap24 (by omega)
  unfold isoP
  have key : S44 (callW pg) fixW (rngs a) (rngs b) [] = .ok ov h' := by
    simp only [S44, e0, e1, e2, bnd_some]
    exact i1
  rw [key]
  simp only
  rw [frz_outV i2]
  rfl
end Go.Proofs.YtllapohmppeceaaGreatDoor.N
