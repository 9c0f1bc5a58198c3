/- What few computes. Condition: bounds on slices. -/
import Derived.Test.YtgbopmciiadmlaaLaw1
namespace Go.Proofs.Ytgbopmciiadmlaa
open Go Go.Av Go.Av.Ap
theorem loop8_2 (args : List Val) (hl : args.length ≤ 140737488355328) (ha : ∀ v ∈ args, v.Lim) : fixW (L8_2 (callW pg) fixW) [vals args, .int .i64 0] = M.pure (.bool (args.all fun v => decide (partsX 8 v 40 ≤ 40))) := by
  have hloop := fix_all (FL8_2 (callW pg)) (fun k => [vals args, .int .i64 (k : Int)]) args.length (fun k => decide (partsX 8 args[k]! 40 ≤ 40))
    (by simp [L8_2]) (fun k hk => by
      have hx := t31 8 (by omega) args[k] (ha _ (List.getElem_mem hk)) 40 (by omega) (by omega)
      have hk' : (k : Int) < (args.length : Int) := by omega
      simp only [L8_2]
      simp at hx
      simp (disch := omega) [hk, hk', wrap_in, IX23, hx]
      by_cases hc : partsX 8 args[k] 40 ≤ 40
      · have : ¬ 40 < partsX 8 args[k] 40 := by omega
        simp [hc, this]
      · have : 40 < partsX 8 args[k] 40 := by omega
        simp [hc, this]) 0 (Nat.zero_le _)
  simp only [Nat.sub_zero] at hloop
  rw [all_range' (fun v => decide (partsX 8 v 40 ≤ 40))] at hloop
  simpa using hloop
theorem loop8_0 (p : List Mod) (hp : p.length ≤ 140737488355328) (hm : ∀ m ∈ p, m.Lim) (a : AV) (i : Nat) (hi : i < p.length) (next : List AV → M AV) : ∀ r k, p[i].funcs.length - k = r → k ≤ p[i].funcs.length →
    fixW (L8_0 (callW pg) fixW next) [mods p, a, .int .i64 (i : Int), .int .i64 (k : Int)] = if (p[i].funcs.drop k).all (fun f => nodesOk f.body && decide (f.params.length ≤ 8)) = true then next [mods p, a, .int .i64 ((i : Int) + 1)] else M.pure (.bool false) := by
  have hM := hm _ (List.getElem_mem hi)
  have hfl := hM.funcs
  have hi' : (i : Int) < (p.length : Int) := by omega
  intro r
  induction r with
  | zero =>
    intro k hr hk
    obtain rfl : k = p[i].funcs.length := by omega
    rw [FL8_0]
    simp only [L8_0]
    simp (disch := omega) [hi, hi', wrap_in, IX22]
  | succ r ih =>
    intro k hr hk
    have h : k < p[i].funcs.length := by omega
    have hk' : (k : Int) < (p[i].funcs.length : Int) := by omega
    have hf := hM.fns _ (List.getElem_mem h)
    have hx := nodes_ok p[i].funcs[k].body hf.body
    have hg := nodesOk_gt p[i].funcs[k].body
    have hn := ih (k + 1) (by omega) (by omega)
    have e8 : ((8 : Int) < (p[i].funcs[k].params.length : Int)) = ¬ (p[i].funcs[k].params.length ≤ 8) := by rw [eq_iff_iff]; omega
    rw [FL8_0, List.drop_eq_getElem_cons h, List.all_cons]
    simp only [L8_0]
    simp at hx hn e8
    simp (disch := omega) [hi, hi', h, hk', wrap_in, IX22, IX59, hx, hn, hg, e8]
    by_cases hq : p[i].funcs[k].params.length ≤ 8
    · have hq' : ¬ 8 < p[i].funcs[k].params.length := by omega
      cases nodesOk p[i].funcs[k].body <;> simp [hq, hq']
    · have hq' : 8 < p[i].funcs[k].params.length := by omega
      cases nodesOk p[i].funcs[k].body <;> simp [hq, hq']
theorem loop8_1 (p : List Mod) (hp : p.length ≤ 140737488355328) (hm : ∀ m ∈ p, m.Lim) (a : AV) (i : Nat) (hi : i < p.length) (next : List AV → M AV) : ∀ r k, p[i].init.length - k = r → k ≤ p[i].init.length →
    fixW (L8_1 (callW pg) fixW next) [mods p, a, .int .i64 (i : Int), .int .i64 (k : Int)] = if ((p[i].init.drop k).all nodesOk && p[i].funcs.all (fun f => nodesOk f.body && decide (f.params.length ≤ 8))) = true then next [mods p, a, .int .i64 ((i : Int) + 1)] else M.pure (.bool false) := by
  have hM := hm _ (List.getElem_mem hi)
  have hfl := hM.init
  have hi' : (i : Int) < (p.length : Int) := by omega
  intro r
  induction r with
  | zero =>
    intro k hr hk
    obtain rfl : k = p[i].init.length := by omega
    have h0 := loop8_0 p hp hm a i hi next _ 0 rfl (by omega)
    rw [FL8_1]
    simp only [L8_1]
    simp at h0
    simp (disch := omega) [hi, hi', wrap_in, IX22, h0]
  | succ r ih =>
    intro k hr hk
    have h : k < p[i].init.length := by omega
    have hk' : (k : Int) < (p[i].init.length : Int) := by omega
    have hx := nodes_ok p[i].init[k] (hM.ies _ (List.getElem_mem h))
    have hg := nodesOk_gt p[i].init[k]
    have hn := ih (k + 1) (by omega) (by omega)
    rw [FL8_1, List.drop_eq_getElem_cons h, List.all_cons]
    simp only [L8_1]
    simp at hx hn
    simp (disch := omega) [hi, hi', h, hk', wrap_in, IX22, IX26, hx, hn, hg]
    cases nodesOk p[i].init[k] <;> simp
theorem loop8_3 (p : List Mod) (hp : p.length ≤ 140737488355328) (hm : ∀ m ∈ p, m.Lim) (args : List Val) (hl : args.length ≤ 140737488355328) (ha : ∀ v ∈ args, v.Lim) :
    fixW (L8_3 (callW pg) fixW) [mods p, vals args, .int .i64 0] = M.pure (.bool (p.all fewM && args.all (fun v => decide (partsX 8 v 40 ≤ 40)))) := by
  have h2 := loop8_2 args hl ha
  have key : ∀ r k, p.length - k = r → k ≤ p.length → fixW (L8_3 (callW pg) fixW) [mods p, vals args, .int .i64 (k : Int)] = M.pure (.bool ((p.drop k).all fewM && args.all (fun v => decide (partsX 8 v 40 ≤ 40)))) := by
    intro r
    induction r with
    | zero =>
      intro k hr hk
      obtain rfl : k = p.length := by omega
      rw [FL8_3]
      simp only [L8_3]
      simp [h2]
    | succ r ih =>
      intro k hr hk
      have h : k < p.length := by omega
      have hk' : (k : Int) < (p.length : Int) := by omega
      have hM := hm _ (List.getElem_mem h)
      have hx := t30 p[k] hM
      have hn := ih (k + 1) (by omega) (by omega)
      have h1 := loop8_1 p hp hm (vals args) k h (fixW (L8_3 (callW pg) fixW)) _ 0 rfl (by omega)
      have e1 : ((4 : Int) < (p[k].vars.length : Int)) = ¬ (p[k].vars.length ≤ 4) := by rw [eq_iff_iff]; omega
      have e2 : ((6 : Int) < (p[k].init.length : Int)) = ¬ (p[k].init.length ≤ 6) := by rw [eq_iff_iff]; omega
      have e3 : ((4 : Int) < (p[k].funcs.length : Int)) = ¬ (p[k].funcs.length ≤ 4) := by rw [eq_iff_iff]; omega
      rw [FL8_3, List.drop_eq_getElem_cons h, List.all_cons]
      simp only [L8_3]
      generalize hrest : (List.drop (k + 1) p).all fewM = rest at hn ⊢
      generalize hres2 : (args.all fun v => decide (partsX 8 v 40 ≤ 40)) = res2 at hn ⊢
      generalize hin : ((List.drop 0 p[k].init).all nodesOk && p[k].funcs.all (fun f => nodesOk f.body && decide (f.params.length ≤ 8))) = b at h1
      have hin' : (p[k].init.all nodesOk && p[k].funcs.all (fun f => nodesOk f.body && decide (f.params.length ≤ 8))) = b := hin
      simp only [fewM, hin']
      have hz : ((0 : Nat) : Int) = 0 := rfl
      rw [hz] at h1
      have hk1 : ((k + 1 : Nat) : Int) = (k : Int) + 1 := by omega
      rw [hk1] at hn
      simp (disch := omega) [h, hk', wrap_in, IX22, hx, e1, e2, e3]
      rw [h1, hn]
      by_cases c1 : p[k].vars.length ≤ 4
      · by_cases c2 : p[k].init.length ≤ 6
        · by_cases c3 : p[k].funcs.length ≤ 4
          · have d1 : ¬ 4 < p[k].vars.length := by omega
            have d2 : ¬ 6 < p[k].init.length := by omega
            have d3 : ¬ 4 < p[k].funcs.length := by omega
            cases modestX p[k] <;> cases b <;> simp [c1, c2, c3, d1, d2, d3]
          · have d3 : 4 < p[k].funcs.length := by omega
            simp [c3, d3]
        · have d2 : 6 < p[k].init.length := by omega
          simp [c2, d2]
      · have d1 : 4 < p[k].vars.length := by omega
        simp [c1, d1]
  simpa using key p.length 0 rfl (by omega)
theorem t8 (p : List Mod) (hp : p.length ≤ 140737488355328) (hm : ∀ m ∈ p, m.Lim) (args : List Val) (hl : args.length ≤ 140737488355328) (ha : ∀ v ∈ args, v.Lim) (world : List Int) (fuel : Int) :
    callW pg 8 [mods p, vals args, ints world, .int .i64 fuel] = M.pure (.bool (fewX p args world fuel)) := by
  have h3 := loop8_3 p hp hm args hl ha
  rw [C8]
  simp [S8, h3, fewX]
  by_cases c1 : p.length ≤ 4
  · by_cases c2 : args.length ≤ 8
    · by_cases c3 : world.length ≤ 30
      · by_cases c4 : fuel ≤ 2000
        · have d1 : ¬ (4 : Int) < (p.length : Int) := by omega
          have d2 : ¬ (8 : Int) < (args.length : Int) := by omega
          have d3 : ¬ (30 : Int) < (world.length : Int) := by omega
          have d4 : ¬ 2000 < fuel := by omega
          simp [c1, c2, c3, c4, d1, d2, d3, d4]
        · have d4 : 2000 < fuel := by omega
          simp [c4, d4]
      · have d3 : (30 : Int) < (world.length : Int) := by omega
        simp [c3, d3]
    · have d2 : (8 : Int) < (args.length : Int) := by omega
      simp [c2, d2]
  · have d1 : (4 : Int) < (p.length : Int) := by omega
    simp [c1, d1]
end Go.Proofs.Ytgbopmciiadmlaa
