/- What modest computes. Condition: bounds on slices. -/
import Derived.Test.YtgbopmciiadmlaaLaw0
namespace Go.Proofs.Ytgbopmciiadmlaa
open Go Go.Av Go.Av.Ap
theorem nodes_ok (e : Exp) (he : e.Lim) : callW pg 9 [e.av, .int .i64 40, .int .i64 16] = M.pure (.int .i64 (nodesX 16 e 40)) := t9 16 (by omega) e he 40 (by omega) (by omega)
theorem nodesOk_gt (e : Exp) : decide (40 < nodesX 16 e 40) = !(nodesOk e) := by
  unfold nodesOk
  by_cases h : nodesX 16 e 40 ≤ 40
  · have : ¬ 40 < nodesX 16 e 40 := by omega
    simp [h, this]
  · have : 40 < nodesX 16 e 40 := by omega
    simp [h, this]
theorem loop30_0 (m : Mod) (hm : m.Lim) (es : List Exp) (hlen : es.length ≤ 14) (hes : ∀ e ∈ es, e.Lim) : fixW (L30_0 (callW pg) fixW) [.ip (acells m.av), exps es, .int .i64 0] = M.pure (.bool (es.all nodesOk && (decide (m.uses.length ≤ 12) && plainlyX m.vars && plainlyX m.old && decide (m.forward.length ≤ 6) && decide (m.back.length ≤ 6)))) := by
  have key : ∀ r k, es.length - k = r → k ≤ es.length → fixW (L30_0 (callW pg) fixW) [.ip (acells m.av), exps es, .int .i64 (k : Int)] = M.pure (.bool ((es.drop k).all nodesOk && (decide (m.uses.length ≤ 12) && plainlyX m.vars && plainlyX m.old && decide (m.forward.length ≤ 6) && decide (m.back.length ≤ 6)))) := by
    intro r
    induction r with
    | zero =>
      intro k hr hk
      obtain rfl : k = es.length := by omega
      rw [FL30_0]
      simp only [L30_0]
      have p1 := t56 m.vars hm.vars hm.vty
      have p2 := t56 m.old hm.old hm.oty
      have e1 : ((m.uses.length : Int) ≤ 12) = (m.uses.length ≤ 12) := by rw [eq_iff_iff]; omega
      have e2 : ((m.forward.length : Int) ≤ 6) = (m.forward.length ≤ 6) := by rw [eq_iff_iff]; omega
      have e3 : ((m.back.length : Int) ≤ 6) = (m.back.length ≤ 6) := by rw [eq_iff_iff]; omega
      simp [p1, p2, e1, e2, e3]
    | succ r ih =>
      intro k hr hk
      have h : k < es.length := by omega
      have hk' : (k : Int) < (es.length : Int) := by omega
      have hx := nodes_ok es[k] (hes _ (List.getElem_mem h))
      have hi := ih (k + 1) (by omega) (by omega)
      have hg := nodesOk_gt es[k]
      rw [FL30_0]
      simp only [L30_0]
      rw [List.drop_eq_getElem_cons h, List.all_cons]
      simp at hx hi
      simp (disch := omega) [h, hk', wrap_in, IX26, hx, hi, hg]
      cases nodesOk es[k] <;> simp
  simpa using key es.length 0 rfl (by omega)
theorem hi26 (l : List Exp) {n : Int} (h0 : 0 ≤ n) (h1 : n ≤ l.length) : sliceA T 26 (exps l) none (some (.int .i64 n)) none = some (exps (l.take n.toNat)) := by
  rw [exps, expsAv_map, exps, expsAv_map, sliceA_hi (T := T) (t := 26) (e := 28) rfl rfl rfl _ h0 (by simpa using h1), List.map_take]
theorem loop30_1 (m : Mod) (hm : m.Lim) : ∀ r k, 9 - k = r → k ≤ m.funcs.length → k ≤ 9 → fixW (L30_1 (callW pg) fixW) [.ip (acells m.av), .int .i64 (k : Int)] = M.pure (.bool (((m.funcs.take 9).drop k).all (fun f => plainlyX f.params && decide (kindsX 8 f.result 20 ≤ 20)) && ((m.forward.take 7 ++ m.back.take 7).all nodesOk && (decide (m.uses.length ≤ 12) && plainlyX m.vars && plainlyX m.old && decide (m.forward.length ≤ 6) && decide (m.back.length ≤ 6))))) := by
  have hfw := hm.forward
  have hbk := hm.back
  have h0 := loop30_0 m hm (m.forward.take 7 ++ m.back.take 7) (by simp; omega) (fun e he => by
    rcases List.mem_append.1 he with h | h
    · exact hm.fes e (List.mem_of_mem_take h)
    · exact hm.bes e (List.mem_of_mem_take h))
  have s1 := hi26 m.forward (n := min (m.forward.length : Int) 7) (by omega) (by omega)
  have s2 := hi26 m.back (n := min (m.back.length : Int) 7) (by omega) (by omega)
  have n1 : m.forward.take (min (m.forward.length : Int) 7).toNat = m.forward.take 7 := by
    rw [show (min (m.forward.length : Int) 7).toNat = min 7 m.forward.length by omega, List.take_eq_take_iff]
    omega
  have n2 : m.back.take (min (m.back.length : Int) 7).toNat = m.back.take 7 := by
    rw [show (min (m.back.length : Int) 7).toNat = min 7 m.back.length by omega, List.take_eq_take_iff]
    omega
  rw [n1] at s1
  rw [n2] at s2
  have hb : buildSliceA T 26 0 [] = some (exps []) := rfl
  have a1 := AP26 (a := []) (b := m.forward.take 7) (by simp; omega)
  have a2 := AP26 (a := m.forward.take 7) (b := m.back.take 7) (by simp; omega)
  rw [List.nil_append] at a1
  have hend : ∀ k : Nat, 9 ≤ k ∨ m.funcs.length ≤ k → L30_1 (callW pg) fixW (fixW (L30_1 (callW pg) fixW)) [.ip (acells m.av), .int .i64 (k : Int)] = M.pure (.bool ((m.forward.take 7 ++ m.back.take 7).all nodesOk && (decide (m.uses.length ≤ 12) && plainlyX m.vars && plainlyX m.old && decide (m.forward.length ≤ 6) && decide (m.back.length ≤ 6)))) := by
    intro k hk
    have hg : ¬ (k < m.funcs.length ∧ (k : Int) < 9) := by omega
    simp only [L30_1]
    simp [hg, hb, a1, a2, s1, s2]
    simpa using h0
  intro r
  induction r with
  | zero =>
    intro k hr hk h9
    have hd : (m.funcs.take 9).drop k = [] := List.drop_eq_nil_of_le (by rw [List.length_take]; omega)
    rw [FL30_1, hend k (by omega), hd]
    rfl
  | succ r ih =>
    intro k hr hk h9
    rw [FL30_1]
    by_cases h : k < m.funcs.length
    · have hk' : (k : Int) < (m.funcs.length : Int) := by omega
      have hk9 : (k : Int) < 9 := by omega
      have hf := hm.fns _ (List.getElem_mem h)
      have hx := t56 m.funcs[k].params hf.params hf.pty
      have hy := t57 8 (by omega) m.funcs[k].result hf.result 20 (by omega) (by omega)
      have hi := ih (k + 1) (by omega) (by omega) (by omega)
      rw [take_all _ m.funcs 9 k h (by omega)]
      simp only [L30_1]
      simp at hx hy hi
      simp (disch := omega) [h, hk', hk9, wrap_in, IX59, hx, hy, hi]
      by_cases hc : kindsX 8 m.funcs[k].result 20 ≤ 20
      · have : ¬ 20 < kindsX 8 m.funcs[k].result 20 := by omega
        cases plainlyX m.funcs[k].params <;> simp [hc, this]
      · have : 20 < kindsX 8 m.funcs[k].result 20 := by omega
        cases plainlyX m.funcs[k].params <;> simp [hc, this]
    · have hd : (m.funcs.take 9).drop k = [] := List.drop_eq_nil_of_le (by rw [List.length_take]; omega)
      rw [hend k (by omega), hd]
      rfl
theorem t30 (m : Mod) (hm : m.Lim) : callW pg 30 [m.av] = M.pure (.bool (modestX m)) := by
  have := loop30_1 m hm 9 0 rfl (by omega) (by omega)
  simp at this
  rw [C30]
  simp [S30, this, modestX]
end Go.Proofs.Ytgbopmciiadmlaa
