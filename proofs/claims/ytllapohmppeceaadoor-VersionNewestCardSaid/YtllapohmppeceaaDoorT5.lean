/- What Union, Common and Minus compute. No condition. -/
import Derived.Test.YtllapohmppeceaaDoorT4
namespace Go.Proofs.YtllapohmppeceaaDoor.N
open Go Go.Av Go.Av.Ap
theorem IX73 (x y : List Rng) (i : Nat) (hi : i < 2) : indexAddrA T 73 (.sl [rngs x, rngs y]) (.int .i64 i) = some (.ip [if i = 0 then rngs x else rngs y]) := by
  rcases i with _ | _ | i
  · rfl
  · rfl
  · omega
theorem C48 (args : List AV) : callW pg 48 args = growE (callW pg) args := callW_other hOther rfl args
theorem t48 (n : Nat) (hn : n ≤ 1099511627776) : callW pg 48 [.hn, .int .i64 n] = M.pure (.sl []) := by
  rw [C48]
  have e : (decide ((0 : Int) ≤ (n : Int)) && decide ((n : Int) ≤ 1099511627776)) = true := by simp; omega
  simp only [growE, e]
  rfl
theorem t34 (a b : List Rng) (hb : a.length + b.length ≤ 1099511627776) : callW pg 34 [.sl [rngs a, rngs b]] = M.pure (rngs (a ++ b)) := by
  rw [C34]
  have hcl : cl noHs (.sl [rngs a, rngs b]) = .sl [rngs a, rngs b] := by
    show AV.sl [cl noHs (rngs a), cl noHs (rngs b)] = _
    rw [cl_rngs, cl_rngs]
  rw [hcl]
  have i0 := IX73 a b 0 (by omega)
  have i1 := IX73 a b 1 (by omega)
  simp only [Int.natCast_zero, Int.natCast_one, if_true, show ((0:Nat):Int) = 0 from rfl, show ((1:Nat):Int) = 1 from rfl, show ¬ (1 = 0) by omega, if_false] at i0 i1
  have w1 : IntKind.i64.wrap (0 + (a.length : Int)) = (a.length : Int) := by rw [Int.zero_add]; exact wrap_in (by omega) (by omega)
  have w2 : IntKind.i64.wrap ((a.length : Int) + (b.length : Int)) = ((a.length + b.length : Nat) : Int) := (wrap_in (x := (a.length : Int) + (b.length : Int)) (by omega) (by omega)).trans (by omega)
  have w3 : IntKind.i64.wrap (0 + 1) = 1 := by decide
  have w4 : IntKind.i64.wrap (1 + 1) = 2 := by decide
  have n1 : ¬ ((a.length : Int) < 0) := by omega
  have n2 : ¬ (((a.length + b.length : Nat) : Int) < 0) := by omega
  have lt0 : ((0 : Int) < 2) := by decide
  have lt1 : ((1 : Int) < 2) := by decide
  have lt2 : ¬ ((2 : Int) < 2) := by decide
  have a1 : appA T 32 (.sl []) (rngs a) = some (rngs a) := by
    have := AP32 (a := []) (b := a) (by simp; omega)
    simpa [rngs] using this
  have a2 : appA T 32 (rngs a) (rngs b) = some (rngs (a ++ b)) := AP32 (by omega)
  have hl0 : lenA T 73 (.sl [rngs a, rngs b]) = some (.int .i64 2) := rfl
  have final : fixW (L34_0 (callW pg) fixW) [.sl [], .sl [rngs a, rngs b], .int .i64 2, .int .i64 0] = M.pure (rngs (a ++ b)) := by
    rw [FL34_0]
    simp only [L34_0, nth_zero, nth_succ, bin_lss, bnd_some, lt0, decide_true, condM_bool, if_true, i0, LD32, a1, bin_add, w3]
    rw [FL34_0]
    simp only [L34_0, nth_zero, nth_succ, bin_lss, bnd_some, lt1, decide_true, condM_bool, if_true, i1, LD32, a2, bin_add, w4]
    rw [FL34_0]
    simp only [L34_0, nth_zero, nth_succ, bin_lss, bnd_some, lt2, decide_false, condM_bool, Bool.false_eq_true, if_false]
  have h48 := t48 (a.length + b.length) hb
  have loop : fixW (L34_1 (callW pg) fixW) [.sl [rngs a, rngs b], .int .i64 0, .sl [rngs a, rngs b], .int .i64 2, .int .i64 0] = M.pure (rngs (a ++ b)) := by
    rw [FL34_1]
    simp only [L34_1, nth_zero, nth_succ, bin_lss, bnd_some, lt0, decide_true, condM_bool, if_true, i0, LD32, LENE32, bin_add, w1, n1, decide_false, Bool.false_eq_true, if_false, w3]
    rw [FL34_1]
    simp only [L34_1, nth_zero, nth_succ, bin_lss, bnd_some, lt1, decide_true, condM_bool, if_true, i1, LD32, LENE32, bin_add, w2, n2, decide_false, Bool.false_eq_true, if_false, w4]
    rw [FL34_1]
    simp only [L34_1, nth_zero, nth_succ, bin_lss, bnd_some, lt2, decide_false, condM_bool, Bool.false_eq_true, if_false, h48, bnd_pure, hl0]
    exact final
  simp only [S34, hl0, bnd_some]
  rw [loop, isoP_rngs]
def unionL (a b : List Rng) : List Rng := normL (a ++ b)
theorem t15 (a b : List Rng) (hb : a.length + b.length ≤ 1099511627776) : callW pg 15 [rngs a, rngs b] = M.pure (rngs (unionL a b)) := by
  rw [C15]
  have h : buildSliceA T 73 2 [(0, rngs a), (1, rngs b)] = some (.sl [rngs a, rngs b]) := rfl
  simp only [S15, cl_rngs, h, bnd_some, t34 a b hb, bnd_pure, t14 (a ++ b) (by simpa using hb)]
  exact isoP_rngs _

/-- the parts of two ranges that both have -/
def meetR (x y : Rng) : Rng := ⟨maxV x.lo y.lo, minV x.hi y.hi⟩
def meetL (a b : List Rng) : List Rng := a.flatMap fun x => b.map fun y => meetR x y
def commonL (a b : List Rng) : List Rng := normL (meetL a b)
theorem build38 (v w : Ver) : buildA T false 38 [(0, v.av), (1, w.av)] = some (Rng.av ⟨v, w⟩) := rfl
theorem build1 (x : Rng) : buildSliceA T 32 1 [(0, x.av)] = some (rngs [x]) := rfl
theorem build2 (x y : Rng) : buildSliceA T 32 2 [(0, x.av), (1, y.av)] = some (rngs [x, y]) := rfl
theorem flo (x : Rng) : fieldAddrA T 38 (.ip (acells x.av)) 0 = some (.ip (eaR x)) := rfl
theorem fhi (x : Rng) : fieldAddrA T 38 (.ip (acells x.av)) 1 = some (.ip [.int .i64 x.hi.a, .int .i64 x.hi.b, .int .i64 x.hi.c]) := rfl
theorem llo (x : Rng) : loadA T 23 (.ip (eaR x)) = some x.lo.av := rfl
theorem lhi (x : Rng) : loadA T 23 (.ip [.int .i64 x.hi.a, .int .i64 x.hi.b, .int .i64 x.hi.c]) = some x.hi.av := rfl
theorem ld38 (x : Rng) : loadA T 38 (.ip (acells x.av)) = some x.av := rfl
theorem ix32 (A : List Rng) (x : Rng) (B : List Rng) : indexAddrA T 32 (rngs (A ++ x :: B)) (.int .i64 A.length) = some (.ip (acells x.av)) := by
  rw [IX32 (by omega) (by simp; omega)]
  simp
theorem ap32 {o : List Rng} {bs : List Rng} (h : (o.length + bs.length) * 48 ≤ 140737488355328) : appA T 32 (rngs o) (rngs bs) = some (rngs (o ++ bs)) := AP32 h


theorem loop16a (l b : List Rng) (v1 : List AV → M AV) (x : Rng) (n1 n2 n3 : AV) (hb : b.length ≤ 1073741824) : ∀ (B A out : List Rng), A ++ B = b → out.length + B.length ≤ 1099511627776 →
    fixW (L16_0 (callW pg) fixW v1) [rngs l, rngs out, .ip (acells x.av), n1, n2, n3, rngs b, .int .i64 b.length, .int .i64 A.length] =
      bnd (lft (binA T .add 3 n3 (.int .i64 1))) fun v28 => v1 [rngs l, rngs (out ++ B.map fun y => meetR x y), n1, n2, v28]
  | [], A, out, e, ho => by
    simp only [List.append_nil] at e
    subst e
    rw [FL16_0]
    simp [L16_0]
  | y :: B, A, out, e, ho => by
    have hll : A.length + (B.length + 1) = b.length := by rw [← e]; simp
    simp only [List.length_cons] at ho
    have h1 : (A.length : Int) < (b.length : Int) := by omega
    have hw : IntKind.i64.wrap ((A.length : Int) + 1) = ((A.length + 1 : Nat) : Int) := wrap_add1 (by omega)
    have ih := loop16a l b v1 x n1 n2 n3 hb B (A ++ [y]) (out ++ [meetR x y]) (by rw [← e]; simp) (by simp; omega)
    rw [show (A ++ [y]).length = A.length + 1 by simp] at ih
    have hix : indexAddrA T 32 (rngs b) (.int .i64 A.length) = some (.ip (acells y.av)) := by rw [← e]; exact ix32 A y B
    rw [FL16_0]
    simp only [L16_0, nth_zero, nth_succ, bin_lss, bnd_some, h1, decide_true, condM_bool, if_true, hix, ld38, cellsM_rng, bnd_pure, flo, fhi, llo, lhi, t35, t36, noPan_pure, build38, build1, bin_add, hw]
    rw [show (⟨maxV x.lo y.lo, minV x.hi y.hi⟩ : Rng) = meetR x y from rfl, ap32 (by simp; omega)]
    simp only [bnd_some]
    rw [ih]
    simp
theorem loop16b (a b : List Rng) (hb : b.length ≤ 1048576) (ha : a.length ≤ 1048576) : ∀ (B A out : List Rng), A ++ B = a → out.length + B.length * b.length ≤ 1099511627776 →
    fixW (L16_1 (callW pg) fixW) [rngs b, rngs out, rngs a, .int .i64 a.length, .int .i64 A.length] = callW pg 14 [rngs (out ++ meetL B b)]
  | [], A, out, e, ho => by
    simp only [List.append_nil] at e
    subst e
    rw [FL16_1]
    simp only [L16_1, nth_zero, nth_succ, bin_lss, bnd_some, Int.lt_irrefl, decide_false, condM_bool, Bool.false_eq_true, if_false]
    simp only [meetL, List.flatMap_nil, List.append_nil]
    exact bnd_id _
  | x :: B, A, out, e, ho => by
    have hll : A.length + (B.length + 1) = a.length := by rw [← e]; simp
    simp only [List.length_cons, Nat.succ_mul] at ho
    have h1 : (A.length : Int) < (a.length : Int) := by omega
    have hw : IntKind.i64.wrap ((A.length : Int) + 1) = ((A.length + 1 : Nat) : Int) := wrap_add1 (by omega)
    have ih := loop16b a b hb ha B (A ++ [x]) (out ++ b.map fun y => meetR x y) (by rw [← e]; simp) (by simp; omega)
    rw [show (A ++ [x]).length = A.length + 1 by simp] at ih
    have hix : indexAddrA T 32 (rngs a) (.int .i64 A.length) = some (.ip (acells x.av)) := by rw [← e]; exact ix32 A x B
    have h0 := loop16a b b (fixW (L16_1 (callW pg) fixW)) x (rngs a) (.int .i64 a.length) (.int .i64 A.length) (by omega) b [] out rfl (by omega)
    rw [FL16_1]
    simp only [L16_1, nth_zero, nth_succ, bin_lss, bnd_some, h1, decide_true, condM_bool, if_true, hix, ld38, cellsM_rng, bnd_pure, LENE32]
    simp only [List.length_nil] at h0
    rw [show ((0 : Nat) : Int) = 0 from rfl] at h0
    rw [h0]
    simp only [bin_add, bnd_some, hw]
    rw [ih]
    simp [meetL]
theorem meetL_len (a b : List Rng) : (meetL a b).length = a.length * b.length := by
  unfold meetL
  induction a with
  | nil => simp
  | cons x a ih => rw [List.flatMap_cons, List.length_append, ih, List.length_map, List.length_cons, Nat.succ_mul]; omega
theorem t16 (a b : List Rng) (ha : a.length ≤ 1048576) (hb : b.length ≤ 1048576) : callW pg 16 [rngs a, rngs b] = M.pure (rngs (commonL a b)) := by
  have hm : a.length * b.length ≤ 1048576 * 1048576 := Nat.mul_le_mul ha hb
  rw [C16]
  have h := loop16b a b hb ha a [] [] rfl (by simp; omega)
  simp only [List.nil_append, List.length_nil] at h
  rw [t14 _ (by rw [meetL_len]; omega)] at h
  simp only [S16, cl_rngs, LENE32, bnd_some]
  rw [show AV.sl [] = rngs [] from rfl, show (0 : Int) = ((0 : Nat) : Int) from rfl, h, isoP_rngs]
  rfl

/-- what is left of a range, without another -/
def cutR (y x : Rng) : List Rng := [⟨x.lo, minV x.hi y.lo⟩, ⟨maxV x.lo y.hi, x.hi⟩]
def cutL (y : Rng) (l : List Rng) : List Rng := l.flatMap (cutR y)
def minusL (a b : List Rng) : List Rng := (normL b).foldl (fun out y => normL (cutL y out)) (normL a)
theorem loop17a (b out : List Rng) (v3 : List AV → M AV) (y : Rng) (n1 n2 n3 : AV) (hb : out.length ≤ 1073741824) : ∀ (B A next : List Rng), A ++ B = out → next.length + 2 * B.length ≤ 1099511627776 →
    fixW (L17_0 (callW pg) fixW v3) [.ip (acells y.av), rngs next, n1, n2, n3, rngs out, .int .i64 out.length, .int .i64 A.length] =
      bnd (callW pg 14 [rngs (next ++ cutL y B)]) fun v35 => bnd (lft (binA T .add 3 n3 (.int .i64 1))) fun v36 => v3 [v35, n1, n2, v36]
  | [], A, next, e, ho => by
    simp only [List.append_nil] at e
    subst e
    rw [FL17_0]
    simp only [L17_0, nth_zero, nth_succ, bin_lss, bnd_some, Int.lt_irrefl, decide_false, condM_bool, Bool.false_eq_true, if_false, cutL, List.flatMap_nil, List.append_nil]
  | x :: B, A, next, e, ho => by
    have hll : A.length + (B.length + 1) = out.length := by rw [← e]; simp
    simp only [List.length_cons] at ho
    have h1 : (A.length : Int) < (out.length : Int) := by omega
    have hw : IntKind.i64.wrap ((A.length : Int) + 1) = ((A.length + 1 : Nat) : Int) := wrap_add1 (by omega)
    have ih := loop17a b out v3 y n1 n2 n3 hb B (A ++ [x]) (next ++ cutR y x) (by rw [← e]; simp) (by simp [cutR]; omega)
    rw [show (A ++ [x]).length = A.length + 1 by simp] at ih
    have hix : indexAddrA T 32 (rngs out) (.int .i64 A.length) = some (.ip (acells x.av)) := by rw [← e]; exact ix32 A x B
    rw [FL17_0]
    simp only [L17_0, nth_zero, nth_succ, bin_lss, bnd_some, h1, decide_true, condM_bool, if_true, hix, ld38, cellsM_rng, bnd_pure, flo, fhi, llo, lhi, t35, t36, noPan_pure, build38, build2, bin_add, hw]
    rw [show ([⟨x.lo, minV x.hi y.lo⟩, ⟨maxV x.lo y.hi, x.hi⟩] : List Rng) = cutR y x from rfl, ap32 (by simp [cutR]; omega)]
    simp only [bnd_some]
    rw [ih]
    simp [cutL]
theorem cutL_len (y : Rng) (out : List Rng) : (cutL y out).length = out.length * 2 := by
  unfold cutL
  induction out with
  | nil => rfl
  | cons x l ih => rw [List.flatMap_cons, List.length_append, show (cutR y x).length = 2 from rfl, ih, List.length_cons]; omega
theorem loop17b (b : List Rng) (hb : b.length ≤ 1048576) : ∀ (B A out : List Rng), A ++ B = b → (∀ k, k ≤ B.length → ((B.take k).foldl (fun out y => normL (cutL y out)) out).length ≤ 1073741824) →
    fixW (L17_1 (callW pg) fixW) [rngs out, rngs b, .int .i64 b.length, .int .i64 A.length] = M.pure (rngs (B.foldl (fun out y => normL (cutL y out)) out))
  | [], A, out, e, ho => by
    simp only [List.append_nil] at e
    subst e
    rw [FL17_1]
    simp only [L17_1, nth_zero, nth_succ, bin_lss, bnd_some, Int.lt_irrefl, decide_false, condM_bool, Bool.false_eq_true, if_false]
    rfl
  | y :: B, A, out, e, ho => by
    have hll : A.length + (B.length + 1) = b.length := by rw [← e]; simp
    have h1 : (A.length : Int) < (b.length : Int) := by omega
    have hw : IntKind.i64.wrap ((A.length : Int) + 1) = ((A.length + 1 : Nat) : Int) := wrap_add1 (by omega)
    have ho0 : out.length ≤ 1073741824 := ho 0 (Nat.zero_le _)
    have hcut := cutL_len y out
    have ih := loop17b b hb B (A ++ [y]) (normL (cutL y out)) (by rw [← e]; simp) (fun k hk => ho (k + 1) (by simp; omega))
    rw [show (A ++ [y]).length = A.length + 1 by simp] at ih
    have hix : indexAddrA T 32 (rngs b) (.int .i64 A.length) = some (.ip (acells y.av)) := by rw [← e]; exact ix32 A y B
    have h0 := loop17a b out (fixW (L17_1 (callW pg) fixW)) y (rngs b) (.int .i64 b.length) (.int .i64 A.length) ho0 out [] [] rfl (by simp; omega)
    simp only [List.length_nil, List.nil_append] at h0
    rw [show ((0 : Nat) : Int) = 0 from rfl, show rngs [] = AV.sl [] from rfl, t14 _ (by rw [hcut]; omega)] at h0
    rw [FL17_1]
    simp only [L17_1, nth_zero, nth_succ, bin_lss, bnd_some, h1, decide_true, condM_bool, if_true, hix, ld38, cellsM_rng, bnd_pure, LENE32]
    rw [h0]
    simp only [bnd_pure, bin_add, bnd_some, hw]
    exact ih
theorem t17 (a b : List Rng) (ha : a.length ≤ 1048576) (hb : b.length ≤ 1048576) (hnb : (normL b).length ≤ 1048576) (ho : ∀ k, k ≤ (normL b).length → (((normL b).take k).foldl (fun out y => normL (cutL y out)) (normL a)).length ≤ 1073741824) :
    callW pg 17 [rngs a, rngs b] = M.pure (rngs (minusL a b)) := by
  rw [C17]
  have h := loop17b (normL b) hnb (normL b) [] (normL a) rfl ho
  simp only [List.length_nil] at h
  simp only [S17, cl_rngs, t14 a (by omega), t14 b (by omega), bnd_pure, LENE32, bnd_some]
  rw [show (0 : Int) = ((0 : Nat) : Int) from rfl, h, isoP_rngs]
  rfl
end Go.Proofs.YtllapohmppeceaaDoor.N
