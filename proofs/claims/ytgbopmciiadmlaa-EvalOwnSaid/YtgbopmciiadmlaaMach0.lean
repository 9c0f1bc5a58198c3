/- What the small functions of eval compute. No condition. -/
import Derived.Test.YtgbopmciiadmlaaLook
import Derived.Test.YtgbopmciiadmlaaLd
namespace Go.Proofs.Ytgbopmciiadmlaa
open Go Go.Av Go.Av.Ap
def scopeAv (o : Int) (ns : List Str) (vs : List Val) : AV := .agg [.int .i64 o, strs ns, vals vs]
@[simp] theorem acells_scope (o : Int) (ns : List Str) (vs : List Val) : acells (scopeAv o ns vs) = [.int .i64 o, strs ns, vals vs] := rfl
theorem fold_scope (o : Int) (ns : List Str) (vs : List Val) : AV.agg [.int .i64 o, strs ns, vals vs] = scopeAv o ns vs := rfl
theorem cl_scope (g) (o : Int) (ns : List Str) (vs : List Val) : cl g (scopeAv o ns vs) = scopeAv o ns vs := by
  simp [scopeAv, cl, cls, cl_strs, cl_vals]
theorem okEl_scope (o : Int) (ns : List Str) (vs : List Val) : okEl 3 (scopeAv o ns vs) = true := by simp [okEl, okCell, strs, vals, scopeAv, sizeA, acells]
theorem isoP_scope (o : Int) (ns : List Str) (vs : List Val) : isoP (M.pure (scopeAv o ns vs)) = M.pure (scopeAv o ns vs) := isoP_pure fun g => cl_scope g o ns vs
set_option maxHeartbeats 1000000 in
theorem t73 (n : Int) : callW pg 73 [.int .i64 n] = M.pure (.int .i64 (argsN n)) := by
  rw [C73]
  unfold argsN
  simp only [S73, K73_0, K73_1, K73_2, K73_3, cl, jn_def, bin_eql, bnd_some, condM_bool, nth_zero, nth_succ, beq_iff_eq]
  by_cases h0 : n = 0
  · simp [h0]
  by_cases h1 : n = 1
  · simp [h1]
  by_cases h2 : n = 2
  · simp [h2]
  by_cases h17 : n = 17
  · simp [h17]
  by_cases h10 : n = 10
  · simp [h10]
  by_cases h14 : n = 14
  · simp [h14]
  by_cases h16 : n = 16
  · simp [h16]
  by_cases h18 : n = 18
  · simp [h18]
  by_cases h3 : n = 3
  · simp [h3]
  by_cases h4 : n = 4
  · simp [h4]
  by_cases h5 : n = 5
  · simp [h5]
  by_cases h6 : n = 6
  · simp [h6]
  by_cases h7 : n = 7
  · simp [h7]
  by_cases h8 : n = 8
  · simp [h8]
  by_cases h9 : n = 9
  · simp [h9]
  by_cases h12 : n = 12
  · simp [h12]
  by_cases h11 : n = 11
  · simp [h11]
  by_cases h13 : n = 13
  · simp [h13]
  by_cases h15 : n = 15
  · simp [h15]
  simp [h0, h1, h2, h17, h10, h14, h16, h18, h3, h4, h5, h6, h7, h8, h9, h12, h11, h13, h15]
theorem t70 (o : Int) (ns : List Str) (vs : List Val) (s : Str) (v : Val) (h1 : ns.length ≤ 1099511627776) (h2 : vs.length ≤ 1099511627776) :
    callW pg 70 [scopeAv o ns vs, .str s, v.av] = M.pure (scopeAv o (ns ++ [s]) (vs ++ [v])) := by
  have hb1 : buildSliceA T 25 1 [(0, .str s)] = some (strs [s]) := rfl
  have hb2 : buildSliceA T 23 1 [(0, v.av)] = some (vals [v]) := by rw [v.av_eq]; simp [vals, valsAv, v.av_eq]; rfl
  have ha1 : appA T 25 (strs ns) (strs [s]) = some (strs (ns ++ [s])) := AP25 (by simp; omega)
  have ha2 : appA T 23 (vals vs) (vals [v]) = some (vals (vs ++ [v])) := AP23 (by simp; omega)
  have hb3 : buildA T false 98 [(0, .int .i64 o), (1, strs (ns ++ [s])), (2, vals (vs ++ [v]))] = some (scopeAv o (ns ++ [s]) (vs ++ [v])) := rfl
  rw [C70, cl_scope]
  simp [S70, cl, t94, t95, hb1, hb2, ha1, ha2, hb3, fold_scope, okEl_scope, isoP_scope]
def errAv (e : Int) : AV := .iface 33 (.int .i64 e)
def mustM (b : Bool) (e : Int) (x : M AV) : M AV := if b = true then x else throwM (errAv e)
theorem bnd_must (b : Bool) (e : Int) (f : AV → M AV) : bnd (callW pg 69 [.bool b, .int .i64 e]) f = mustM b e (f (.tup [])) := by
  rw [t69]
  unfold mustM
  cases b <;> rfl
def pureX : X Val → M AV := fun x => match x ⟨0, 0, [], [], [], []⟩ with
  | .ok v _ => M.pure v.av
  | .er e _ => throwM (errAv e)
theorem t76 (op : Int) (a b : Val) (h : op = 3 ∨ op = 4 ∨ op = 5 ∨ op = 6 ∨ op = 7) : callW pg 76 [.int .i64 op, a.av, b.av] = pureX (binX op a b) := by
  rw [C76]
  unfold binX
  have hn := t74
  have ht := t75
  simp only [S76, bin_eql, bnd_some, condM_bool, acells_val]
  by_cases h7 : op = 7
  · by_cases hk : a.kind = b.kind
    · by_cases h2 : a.kind = 2
      · have h2' : b.kind = 2 := by omega
        simp [h7, hk, h2', bnd_must, mustM, pureX, X.er]
      · have h2' : ¬ b.kind = 2 := by omega
        simp [h7, hk, h2', bnd_must, mustM, pureX, X.ok, ht]
    · simp [h7, hk, bnd_must, mustM, pureX, X.er]
  · by_cases ha : a.kind = 0
    · by_cases hb : b.kind = 0
      · simp only [h7, ha, hb, beq_self_eq_true, and_self, if_true, if_false, beq_iff_eq, FA39_0, FA39_1, List.drop_zero, LD3, bnd_some, bin_eql, guardM_pure1, bnd_pure, pickA_and, nth_zero, bnd_must, mustM, Bool.and_self, List.drop_succ_cons, condM_bool, bin_add, bin_sub, bin_mul, bin_lss, hn, ht]
        by_cases h3 : op = 3
        · simp [h3, pureX, X.ok, numV, wr]
          rfl
        by_cases h4 : op = 4
        · simp [h4, pureX, X.ok, numV, wr]
          rfl
        by_cases h5 : op = 5
        · simp [h5, pureX, X.ok, numV, wr]
          rfl
        simp [h3, h4, h5, pureX, X.ok]
      · simp [h7, ha, hb, bnd_must, mustM, pureX, X.er]
    · simp [h7, ha, bnd_must, mustM, pureX, X.er]
theorem t79 (l : List Str) (s : Str) (hb : l.length ≤ 1099511627776) : callW pg 79 [strs l, .str s] = M.pure (.int .i64 (idxAt (fun x => s == x) l 0)) := by
  have hl : ∀ (n : Nat) (i : Int), l.length - i.toNat = n → 0 ≤ i → i ≤ l.length → fixW (L79_0 (callW pg) fixW) [strs l, .str s, .int .i64 l.length, .int .i64 i] = M.pure (.int .i64 (idxAt (fun x => s == x) (l.drop i.toNat) i)) := by
    intro n
    induction n with
    | zero =>
      intro i hn hi hl
      rw [FL79_0]
      simp only [L79_0]
      have h1 : ¬ (i < (l.length : Int)) := by omega
      have h2 : l.drop i.toNat = [] := List.drop_eq_nil_of_le (by omega)
      simp [h1, h2, idxAt]
    | succ n ih =>
      intro i hn hi hl
      have h1 : i < (l.length : Int) := by omega
      have hlt : i.toNat < l.length := by omega
      have h2 : idxAt (fun x => s == x) (l.drop i.toNat) i = if (s == l[i.toNat]) = true then i else idxAt (fun x => s == x) (l.drop (i.toNat + 1)) (i + 1) := by rw [List.drop_eq_getElem_cons hlt]; rfl
      have h4 := ih (i + 1) (by omega) (by omega) (by omega)
      rw [show (i + 1).toNat = i.toNat + 1 by omega] at h4
      rw [FL79_0]
      simp only [L79_0]
      simp (disch := omega) [h1, wrap_in, IX25, h2]
      by_cases h : s = l[i.toNat]
      · simp [h]
      · simp [h]
        simpa using h4
  rw [C79]
  simp [S79, cl, hl l.length 0 rfl (by omega) (by omega)]
theorem t97 : ∀ (n : Nat) (v : Val), v.sz ≤ n → v.sz ≤ 1099511627776 → callW pg 97 [v.av] = M.pure (.int .i64 (levelV v : Nat)) := by
  intro n
  induction n with
  | zero => intro v h; have := v.sz_pos; omega
  | succ n ih =>
    intro v hn hv
    have hlen := v.sz_len
    have hlv : ∀ (l : List Val), valsSz l ≤ 1099511627776 → levelsV l ≤ 1099511627776 := by
      intro l
      induction l with
      | nil => intro _; simp [levelsV]
      | cons x l ih2 =>
        intro h
        simp only [valsSz] at h
        have := ih2 (by omega)
        have hx : ∀ (k : Nat) (y : Val), y.sz ≤ k → levelV y ≤ y.sz := by
          intro k
          induction k with
          | zero => intro y hy; have := y.sz_pos; omega
          | succ k ihk =>
            intro y hy
            rw [levelV_eq]
            have h1 := y.sz_values
            have h2 : levelsV y.values ≤ valsSz y.values := (levelsV_le _ _).2 fun z hz => Nat.le_trans (ihk z (by have := Val.sz_mem hz; omega)) (valsSz_mem hz)
            omega
        simp only [levelsV]
        have := hx _ x (Nat.le_refl _)
        omega
    have hl : ∀ (B A : List Val) (c : Nat), A ++ B = v.values → c ≤ 1099511627776 → fixW (L97_0 (callW pg) fixW) [.int .i64 (c : Nat), vals v.values, .int .i64 v.values.length, .int .i64 A.length] = M.pure (.int .i64 ((max c (levelsV B) + 1 : Nat))) := by
      intro B
      induction B with
      | nil =>
        intro A c e hc
        simp only [List.append_nil] at e
        subst e
        rw [FL97_0]
        simp (disch := omega) [L97_0, levelsV, wrap_in]
      | cons x B ih2 =>
        intro A c e hc
        have hll : A.length + (B.length + 1) = v.values.length := by rw [← e]; simp
        have h1 : (A.length : Int) < (v.values.length : Int) := by omega
        have hx : v.values[A.length]! = x := by
          rw [← e, getElem!_pos _ _ (by simp)]
          simp
        have hm : x ∈ v.values := by rw [← e]; simp
        have hx' : v.values[A.length]'(by omega) = x := by rw [← hx, getElem!_pos]
        have h3 := ih x (by have := Val.sz_mem hm; omega) (by have := Val.sz_mem hm; omega)
        have hxb : levelV x ≤ 1099511627776 := Nat.le_trans ((levelsV_le v.values _).1 (hlv v.values (by have := v.sz_values; omega)) x hm) (Nat.le_refl _)
        have h4 := ih2 (A ++ [x]) (max c (levelV x)) (by rw [← e]; simp) (by omega)
        rw [FL97_0]
        have hmx : (max (c : Int) (levelV x : Int)) = ((max c (levelV x) : Nat) : Int) := by omega
        simp (disch := omega) [L97_0, h1, wrap_in, IX23, hx', h3, hmx] at h4 ⊢
        rw [h4]
        simp only [levelsV]
    rw [C97]
    have := hl v.values [] 0 rfl (by omega)
    simp at this
    simp [S97, this, levelV_eq]
theorem t99 (f : Fld) (e : Exp) : callW pg 99 [fldAv f, .ip (acells e.av)] = M.pure (.bool (f.1 == e.s)) := by
  rw [C99]; simp [S99, cl, cls]
theorem t98' (l : List Fld) (hl : l.length ≤ 1099511627776) (e : Exp) : callW pg 98 [flds l, .fn (.func 99) [] [.ip (acells e.av)]] = M.pure (.int .i64 (fldAt l e.s)) :=
  t98 _ _ l (by omega) (fun g => by simp [cl, cls]) (fun f _ => t99 f e)
end Go.Proofs.Ytgbopmciiadmlaa
