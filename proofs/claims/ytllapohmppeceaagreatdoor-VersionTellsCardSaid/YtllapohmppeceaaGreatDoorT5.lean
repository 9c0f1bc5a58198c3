/- What Union, Common and Minus compute. No condition. -/
import Derived.Test.YtllapohmppeceaaGreatDoorT4
namespace Go.Proofs.YtllapohmppeceaaGreatDoor.N
open Go Go.Av Go.Av.Ap
theorem IX71 (x y : List Rng) (i : Nat) (hi : i < 2) : indexAddrA T 71 (.sl [rngs x, rngs y]) (.int .i64 i) = some (.ip [if i = 0 then rngs x else rngs y]) := by
  rcases i with _ | _ | i
  · rfl
  · rfl
  · omega
theorem C56 (args : List AV) : callW pg 56 args = growE (callW pg) args := callW_other hOther rfl args
theorem t56 (n : Nat) (hn : n ≤ 1099511627776) : callW pg 56 [.hn, .int .i64 n] = M.pure (.sl []) := by
  rw [C56]
  have e : (decide ((0 : Int) ≤ (n : Int)) && decide ((n : Int) ≤ 1099511627776)) = true := by simp; omega
  simp only [growE, e]
  rfl
theorem t43 (a b : List Rng) (hb : a.length + b.length ≤ 1099511627776) : callW pg 43 [.sl [rngs a, rngs b]] = M.pure (rngs (a ++ b)) := by
  rw [C43]
  have hcl : cl noHs (.sl [rngs a, rngs b]) = .sl [rngs a, rngs b] := by
    show AV.sl [cl noHs (rngs a), cl noHs (rngs b)] = _
    rw [cl_rngs, cl_rngs]
  rw [hcl]
  have i0 := IX71 a b 0 (by omega)
  have i1 := IX71 a b 1 (by omega)
  simp only [Int.natCast_zero, Int.natCast_one, if_true, show ((0:Nat):Int) = 0 from rfl, show ((1:Nat):Int) = 1 from rfl, show ¬ (1 = 0) by omega, if_false] at i0 i1
  have w1 : IntKind.i64.wrap (0 + (a.length : Int)) = (a.length : Int) := by rw [Int.zero_add]; exact wrap_in (by omega) (by omega)
  have w2 : IntKind.i64.wrap ((a.length : Int) + (b.length : Int)) = ((a.length + b.length : Nat) : Int) := (wrap_in (x := (a.length : Int) + (b.length : Int)) (by omega) (by omega)).trans (by omega)
  have w3 : IntKind.i64.wrap (0 + 1) = 1 := by decide
  have w4 : IntKind.i64.wrap (1 + 1) = 2 := by decide
  have n1 : ¬ ((a.length : Int) < 0) := by omega
  have n2 : ¬ (((a.length + b.length : Nat) : Int) < 0) := by omega
  have lt0 : ((0 : Int) < 2) := by decide
  have lt1 : ((1 : Int) < 2) := by decide
  have lt2 : ¬ ((2 : Int) < 2) := by decide
  have a1 : appA T 24 (.sl []) (rngs a) = some (rngs a) := by
    have := AP24 (a := []) (b := a) (by simp; omega)
    simpa [rngs] using this
  have a2 : appA T 24 (rngs a) (rngs b) = some (rngs (a ++ b)) := AP24 (by omega)
  have hl0 : lenA T 71 (.sl [rngs a, rngs b]) = some (.int .i64 2) := rfl
  have final : fixW (L43_0 (callW pg) fixW) [.sl [], .sl [rngs a, rngs b], .int .i64 2, .int .i64 0] = M.pure (rngs (a ++ b)) := by
    rw [FL43_0]
    simp only [L43_0, nth_zero, nth_succ, bin_lss, bnd_some, lt0, decide_true, condM_bool, if_true, i0, LD24, a1, bin_add, w3]
    rw [FL43_0]
    simp only [L43_0, nth_zero, nth_succ, bin_lss, bnd_some, lt1, decide_true, condM_bool, if_true, i1, LD24, a2, bin_add, w4]
    rw [FL43_0]
    simp only [L43_0, nth_zero, nth_succ, bin_lss, bnd_some, lt2, decide_false, condM_bool, Bool.false_eq_true, if_false]
  have h48 := t56 (a.length + b.length) hb
  have loop : fixW (L43_1 (callW pg) fixW) [.sl [rngs a, rngs b], .int .i64 0, .sl [rngs a, rngs b], .int .i64 2, .int .i64 0] = M.pure (rngs (a ++ b)) := by
    rw [FL43_1]
    simp only [L43_1, nth_zero, nth_succ, bin_lss, bnd_some, lt0, decide_true, condM_bool, if_true, i0, LD24, LENE24, bin_add, w1, n1, decide_false, Bool.false_eq_true, if_false, w3]
    rw [FL43_1]
    simp only [L43_1, nth_zero, nth_succ, bin_lss, bnd_some, lt1, decide_true, condM_bool, if_true, i1, LD24, LENE24, bin_add, w2, n2, decide_false, Bool.false_eq_true, if_false, w4]
    rw [FL43_1]
    simp only [L43_1, nth_zero, nth_succ, bin_lss, bnd_some, lt2, decide_false, condM_bool, Bool.false_eq_true, if_false, h48, bnd_pure, hl0]
    exact final
  simp only [S43, hl0, bnd_some]
  rw [loop, isoP_rngs]
def unionL (a b : List Rng) : List Rng := normL (a ++ b)
theorem t22 (a b : List Rng) (hb : a.length + b.length ≤ 1099511627776) : callW pg 22 [rngs a, rngs b] = M.pure (rngs (unionL a b)) := by
  rw [C22]
  have h : buildSliceA T 71 2 [(0, rngs a), (1, rngs b)] = some (.sl [rngs a, rngs b]) := rfl
  simp only [S22, cl_rngs, h, bnd_some, t43 a b hb, bnd_pure, t20 (a ++ b) (by simpa using hb)]
  exact isoP_rngs _
def meetR (x y : Rng) : Rng := ⟨maxV x.lo y.lo, minV x.hi y.hi⟩
def meetL (a b : List Rng) : List Rng := a.flatMap fun x => b.map fun y => meetR x y
def commonL (a b : List Rng) : List Rng := normL (meetL a b)
theorem build40 (v w : Ver) : buildA T false 40 [(0, v.av), (1, w.av)] = some (Rng.av ⟨v, w⟩) := rfl
theorem build1 (x : Rng) : buildSliceA T 24 1 [(0, x.av)] = some (rngs [x]) := rfl
theorem build2 (x y : Rng) : buildSliceA T 24 2 [(0, x.av), (1, y.av)] = some (rngs [x, y]) := rfl
theorem flo (x : Rng) : fieldAddrA T 40 (.ip (acells x.av)) 0 = some (.ip (eaR x)) := rfl
theorem fhi (x : Rng) : fieldAddrA T 40 (.ip (acells x.av)) 1 = some (.ip [.int .i64 x.hi.a, .int .i64 x.hi.b, .int .i64 x.hi.c]) := rfl
theorem llo (x : Rng) : loadA T 23 (.ip (eaR x)) = some x.lo.av := rfl
theorem lhi (x : Rng) : loadA T 23 (.ip [.int .i64 x.hi.a, .int .i64 x.hi.b, .int .i64 x.hi.c]) = some x.hi.av := rfl
theorem ld40 (x : Rng) : loadA T 40 (.ip (acells x.av)) = some x.av := rfl
theorem ix24 (A : List Rng) (x : Rng) (B : List Rng) : indexAddrA T 24 (rngs (A ++ x :: B)) (.int .i64 A.length) = some (.ip (acells x.av)) := by
  rw [IX24 (by omega) (by simp; omega)]
  simp
theorem ap24 {o : List Rng} {bs : List Rng} (h : (o.length + bs.length) * 48 ≤ 140737488355328) : appA T 24 (rngs o) (rngs bs) = some (rngs (o ++ bs)) := AP24 h
theorem loop24a (l b : List Rng) (v1 : List AV → M AV) (x : Rng) (n1 n2 n3 : AV) (hb : b.length ≤ 1073741824) : ∀ (B A out : List Rng), A ++ B = b → out.length + B.length ≤ 1099511627776 →
    fixW (L24_0 (callW pg) fixW v1) [rngs l, rngs out, .ip (acells x.av), n1, n2, n3, rngs b, .int .i64 b.length, .int .i64 A.length] =
      bnd (lft (binA T .add 3 n3 (.int .i64 1))) fun v28 => v1 [rngs l, rngs (out ++ B.map fun y => meetR x y), n1, n2, v28]
  | [], A, out, e, ho => by
    simp only [List.append_nil] at e
    subst e
    rw [FL24_0]
    simp [L24_0]
  | y :: B, A, out, e, ho => by
    have hll : A.length + (B.length + 1) = b.length := by rw [← e]; simp
    simp only [List.length_cons] at ho
    have h1 : (A.length : Int) < (b.length : Int) := by omega
    have hw : IntKind.i64.wrap ((A.length : Int) + 1) = ((A.length + 1 : Nat) : Int) := wrap_add1 (by omega)
    have ih := loop24a l b v1 x n1 n2 n3 hb B (A ++ [y]) (out ++ [meetR x y]) (by rw [← e]; simp) (by simp; omega)
    rw [show (A ++ [y]).length = A.length + 1 by simp] at ih
    have hix : indexAddrA T 24 (rngs b) (.int .i64 A.length) = some (.ip (acells y.av)) := by rw [← e]; exact ix24 A y B
    rw [FL24_0]
    simp only [L24_0, nth_zero, nth_succ, bin_lss, bnd_some, h1, decide_true, condM_bool, if_true, hix, ld40, cellsM_rng, bnd_pure, flo, fhi, llo, lhi, t46, t47, noPan_pure, build40, build1, bin_add, hw]
    rw [show (⟨maxV x.lo y.lo, minV x.hi y.hi⟩ : Rng) = meetR x y from rfl, ap24 (by simp; omega)]
    simp only [bnd_some]
    rw [ih]
    simp
theorem loop24b (a b : List Rng) (hb : b.length ≤ 1048576) (ha : a.length ≤ 1048576) : ∀ (B A out : List Rng), A ++ B = a → out.length + B.length * b.length ≤ 1099511627776 →
    fixW (L24_1 (callW pg) fixW) [rngs b, rngs out, rngs a, .int .i64 a.length, .int .i64 A.length] = callW pg 20 [rngs (out ++ meetL B b)]
  | [], A, out, e, ho => by
    simp only [List.append_nil] at e
    subst e
    rw [FL24_1]
    simp only [L24_1, nth_zero, nth_succ, bin_lss, bnd_some, Int.lt_irrefl, decide_false, condM_bool, Bool.false_eq_true, if_false]
    simp only [meetL, List.flatMap_nil, List.append_nil]
    exact bnd_id _
  | x :: B, A, out, e, ho => by
    have hll : A.length + (B.length + 1) = a.length := by rw [← e]; simp
    simp only [List.length_cons, Nat.succ_mul] at ho
    have h1 : (A.length : Int) < (a.length : Int) := by omega
    have hw : IntKind.i64.wrap ((A.length : Int) + 1) = ((A.length + 1 : Nat) : Int) := wrap_add1 (by omega)
    have ih := loop24b a b hb ha B (A ++ [x]) (out ++ b.map fun y => meetR x y) (by rw [← e]; simp) (by simp; omega)
    rw [show (A ++ [x]).length = A.length + 1 by simp] at ih
    have hix : indexAddrA T 24 (rngs a) (.int .i64 A.length) = some (.ip (acells x.av)) := by rw [← e]; exact ix24 A x B
    have h0 := loop24a b b (fixW (L24_1 (callW pg) fixW)) x (rngs a) (.int .i64 a.length) (.int .i64 A.length) (by omega) b [] out rfl (by omega)
    rw [FL24_1]
    simp only [L24_1, nth_zero, nth_succ, bin_lss, bnd_some, h1, decide_true, condM_bool, if_true, hix, ld40, cellsM_rng, bnd_pure, LENE24]
    simp only [List.length_nil] at h0
    rw [show ((0 : Nat) : Int) = 0 from rfl] at h0
    rw [h0]
    simp only [bin_add, bnd_some, hw]
    rw [ih]
    simp [meetL]
theorem meetL_len (a b : List Rng) : (meetL a b).length = a.length * b.length := by
  unfold meetL
  induction a with
  | nil => simp
  | cons x a ih => rw [List.flatMap_cons, List.length_append, ih, List.length_map, List.length_cons, Nat.succ_mul]; omega
theorem t24 (a b : List Rng) (ha : a.length ≤ 1048576) (hb : b.length ≤ 1048576) : callW pg 24 [rngs a, rngs b] = M.pure (rngs (commonL a b)) := by
  have hm : a.length * b.length ≤ 1048576 * 1048576 := Nat.mul_le_mul ha hb
  rw [C24]
  have h := loop24b a b hb ha a [] [] rfl (by simp; omega)
  simp only [List.nil_append, List.length_nil] at h
  rw [t20 _ (by rw [meetL_len]; omega)] at h
  simp only [S24, cl_rngs, LENE24, bnd_some]
  rw [show AV.sl [] = rngs [] from rfl, show (0 : Int) = ((0 : Nat) : Int) from rfl, h, isoP_rngs]
  rfl
def cutR (y x : Rng) : List Rng := [⟨x.lo, minV x.hi y.lo⟩, ⟨maxV x.lo y.hi, x.hi⟩]
def cutL (y : Rng) (l : List Rng) : List Rng := l.flatMap (cutR y)
def minusL (a b : List Rng) : List Rng := (normL b).foldl (fun out y => normL (cutL y out)) (normL a)
theorem loop25a (b out : List Rng) (v3 : List AV → M AV) (y : Rng) (n1 n2 n3 : AV) (hb : out.length ≤ 1073741824) : ∀ (B A next : List Rng), A ++ B = out → next.length + 2 * B.length ≤ 1099511627776 →
    fixW (L25_0 (callW pg) fixW v3) [.ip (acells y.av), rngs next, n1, n2, n3, rngs out, .int .i64 out.length, .int .i64 A.length] =
      bnd (callW pg 20 [rngs (next ++ cutL y B)]) fun v35 => bnd (lft (binA T .add 3 n3 (.int .i64 1))) fun v36 => v3 [v35, n1, n2, v36]
  | [], A, next, e, ho => by
    simp only [List.append_nil] at e
    subst e
    rw [FL25_0]
    simp only [L25_0, nth_zero, nth_succ, bin_lss, bnd_some, Int.lt_irrefl, decide_false, condM_bool, Bool.false_eq_true, if_false, cutL, List.flatMap_nil, List.append_nil]
  | x :: B, A, next, e, ho => by
    have hll : A.length + (B.length + 1) = out.length := by rw [← e]; simp
    simp only [List.length_cons] at ho
    have h1 : (A.length : Int) < (out.length : Int) := by omega
    have hw : IntKind.i64.wrap ((A.length : Int) + 1) = ((A.length + 1 : Nat) : Int) := wrap_add1 (by omega)
    have ih := loop25a b out v3 y n1 n2 n3 hb B (A ++ [x]) (next ++ cutR y x) (by rw [← e]; simp) (by simp [cutR]; omega)
    rw [show (A ++ [x]).length = A.length + 1 by simp] at ih
    have hix : indexAddrA T 24 (rngs out) (.int .i64 A.length) = some (.ip (acells x.av)) := by rw [← e]; exact ix24 A x B
    rw [FL25_0]
    simp only [L25_0, nth_zero, nth_succ, bin_lss, bnd_some, h1, decide_true, condM_bool, if_true, hix, ld40, cellsM_rng, bnd_pure, flo, fhi, llo, lhi, t46, t47, noPan_pure, build40, build2, bin_add, hw]
    rw [show ([⟨x.lo, minV x.hi y.lo⟩, ⟨maxV x.lo y.hi, x.hi⟩] : List Rng) = cutR y x from rfl, ap24 (by simp [cutR]; omega)]
    simp only [bnd_some]
    rw [ih]
    simp [cutL]
theorem cutL_len (y : Rng) (out : List Rng) : (cutL y out).length = out.length * 2 := by
  unfold cutL
  induction out with
  | nil => rfl
  | cons x l ih => rw [List.flatMap_cons, List.length_append, show (cutR y x).length = 2 from rfl, ih, List.length_cons]; omega
theorem loop25b (b : List Rng) (hb : b.length ≤ 1048576) : ∀ (B A out : List Rng), A ++ B = b → (∀ k, k ≤ B.length → ((B.take k).foldl (fun out y => normL (cutL y out)) out).length ≤ 1073741824) →
    fixW (L25_1 (callW pg) fixW) [rngs out, rngs b, .int .i64 b.length, .int .i64 A.length] = M.pure (rngs (B.foldl (fun out y => normL (cutL y out)) out))
  | [], A, out, e, ho => by
    simp only [List.append_nil] at e
    subst e
    rw [FL25_1]
    simp only [L25_1, nth_zero, nth_succ, bin_lss, bnd_some, Int.lt_irrefl, decide_false, condM_bool, Bool.false_eq_true, if_false]
    rfl
  | y :: B, A, out, e, ho => by
    have hll : A.length + (B.length + 1) = b.length := by rw [← e]; simp
    have h1 : (A.length : Int) < (b.length : Int) := by omega
    have hw : IntKind.i64.wrap ((A.length : Int) + 1) = ((A.length + 1 : Nat) : Int) := wrap_add1 (by omega)
    have ho0 : out.length ≤ 1073741824 := ho 0 (Nat.zero_le _)
    have hcut := cutL_len y out
    have ih := loop25b b hb B (A ++ [y]) (normL (cutL y out)) (by rw [← e]; simp) (fun k hk => ho (k + 1) (by simp; omega))
    rw [show (A ++ [y]).length = A.length + 1 by simp] at ih
    have hix : indexAddrA T 24 (rngs b) (.int .i64 A.length) = some (.ip (acells y.av)) := by rw [← e]; exact ix24 A y B
    have h0 := loop25a b out (fixW (L25_1 (callW pg) fixW)) y (rngs b) (.int .i64 b.length) (.int .i64 A.length) ho0 out [] [] rfl (by simp; omega)
    simp only [List.length_nil, List.nil_append] at h0
    rw [show ((0 : Nat) : Int) = 0 from rfl, show rngs [] = AV.sl [] from rfl, t20 _ (by rw [hcut]; omega)] at h0
    rw [FL25_1]
    simp only [L25_1, nth_zero, nth_succ, bin_lss, bnd_some, h1, decide_true, condM_bool, if_true, hix, ld40, cellsM_rng, bnd_pure, LENE24]
    rw [h0]
    simp only [bnd_pure, bin_add, bnd_some, hw]
    exact ih
theorem t25 (a b : List Rng) (ha : a.length ≤ 1048576) (hb : b.length ≤ 1048576) (hnb : (normL b).length ≤ 1048576) (ho : ∀ k, k ≤ (normL b).length → (((normL b).take k).foldl (fun out y => normL (cutL y out)) (normL a)).length ≤ 1073741824) :
    callW pg 25 [rngs a, rngs b] = M.pure (rngs (minusL a b)) := by
  rw [C25]
  have h := loop25b (normL b) hnb (normL b) [] (normL a) rfl ho
  simp only [List.length_nil] at h
  simp only [S25, cl_rngs, t20 a (by omega), t20 b (by omega), bnd_pure, LENE24, bnd_some]
  rw [show (0 : Int) = ((0 : Nat) : Int) from rfl, h, isoP_rngs]
  rfl
end Go.Proofs.YtllapohmppeceaaGreatDoor.N
