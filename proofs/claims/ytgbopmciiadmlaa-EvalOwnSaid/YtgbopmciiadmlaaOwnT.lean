/- EvalOwn is true. Condition: bounds on slices. -/
import Derived.Test.YtgbopmciiadmlaaOwn
namespace Go.Proofs.Ytgbopmciiadmlaa
open Go Go.Av Go.Av.Ap
theorem own_end {p : List Mod} {fu : Int} (F : FewP p fu) (module fn : Str) (args : List Val) (hargs : valsSz args ≤ 4611686018427387904) (world : List Int) (fuel : Int) (h : Hp) :
    ∃ h', fixW (L6_3 (callW pg) fixW) [mods p, .str module, .str fn, vals args, ints world, .int .i64 fuel, .bool true, mods (p.map openM), .int .i64 p.length] h = .ok (.bool true) h' := by
  have Fq := few_open F
  have hfr := t10 (p.map openM) Fq.lim.body.lim.len (fun m hm => ⟨(Fq.lim.body.lim.funcs m hm).2, Fq.lim.init m hm⟩)
  have hrun := t14 Fq.lim module fn args world fuel hargs
  have hlen : lenA T 22 (mods p) = some (.int .i64 p.length) := by simp [mods]
  have hlenq : lenA T 22 (mods (p.map openM)) = some (.int .i64 p.length) := by simp [mods]
  have hlt : ¬ ((p.length : Int) < (p.length : Int)) := by omega
  have hql : (p.map openM).length = p.length := List.length_map _
  have hp0 : ∀ l : List Mod, l.length = 0 → l = [] := fun l h => List.eq_nil_of_length_eq_zero h
  rw [FL6_3]
  simp only [L6_3, nth_zero, nth_succ, hlen, bin_lss, bnd_some, condM_bool, hlt, decide_false, Bool.false_eq_true, if_false]
  simp only [hfr, hrun, bnd_pure]
  have ho := run_outLim Fq module fn args world fuel
  have hob := run_lim (p.map openM) module fn args world fuel Fq.small
  have hrr := run_right (p.map openM) module fn args world fuel
  cases hf : freshX (p.map openM) with
  | error e =>
    have he : runX (p.map openM) module fn args world fuel = errO e := by unfold runX; rw [hf]
    have hne := freshX_err hf
    rw [he]
    refine ⟨h, ?_⟩
    have hneb : (e != 0) = true := by simpa using hne
    simp only [freshAv, extractA_tup, List.getElem?_cons_zero, List.getElem?_cons_succ, bnd_some, cellsM_of (okEl_out (errO e)), bnd_pure, err_ne, condM_bool, hneb, if_true]
    simp [errO, varss, M.pure]
  | ok first =>
    have ha : runX (p.map openM) module fn args world fuel = fromX (p.map openM) first module fn args world fuel := by unfold runX; rw [hf]
    have hbel := freshX_belongs hf
    have hown := from_own (open_pub p) hbel module fn args world fuel _ ha
    obtain ⟨b1, b2, _⟩ := belongs_right hbel
    rw [hql] at b1
    generalize runX (p.map openM) module fn args world fuel = a at *
    simp only [freshAv, extractA_tup, List.getElem?_cons_zero, List.getElem?_cons_succ, bnd_some, cellsM_of (okEl_out a), bnd_pure, err_ne, condM_bool, bne_self_eq_false, Bool.false_eq_true, if_false]
    by_cases hs : a.state = []
    · have hz : a.err ≠ 0 ∨ p = [] := by
        rcases hown with ⟨_, h1⟩ | ⟨h1, _⟩
        · rcases h1 with h1 | h1
          · exact .inl h1
          · exact .inr (by simpa using h1)
        · rw [hs, hql] at h1
          exact .inr (hp0 p h1.symm)
      refine ⟨h, ?_⟩
      by_cases he : a.err = 0
      · obtain rfl : p = [] := hz.resolve_left (fun h => h he)
        simp [hs, he, varss, mods, M.pure, guardM]
      · have hneb : (a.err != 0) = true := by simpa using he
        simp [hs, hneb, varss, M.pure, guardM]
    · obtain ⟨h1, h2⟩ : a.state.length = (p.map openM).length ∧ ∀ i, (∀ c ∈ a.calls, c.module ≠ nameAt (p.map openM) i) → a.state[i]? = first[i]? := by
        rcases hown with ⟨h1, _⟩ | h1
        · exact absurd h1 hs
        · exact h1
      have hpos : a.state.length ≠ 0 := fun h => hs (List.eq_nil_of_length_eq_zero h)
      have hokf : ∀ x ∈ first, valsSz x.values ≤ 4611686018427387904 := fun x hx => by
        have hfL : freshL (p.map openM) = .ok first := by
          unfold freshX at hf
          split at hf
          · exact hf
          · cases hf
        obtain ⟨m, hm, hml⟩ := freshL_lens _ _ hfL x hx
        have := (Fq.lim.init m hm).1
        have := vals_right_sz x.values (b2 x hx)
        omega
      obtain ⟨h', e⟩ := own_states Fq (open_pub p) module fn args hargs fuel first a (by omega) h1 ho (fun x hx => ⟨by have := hob.vals x hx; omega, ho.state.2 x hx⟩) hokf (fun i hi hc => by
        have hnm : nameAt (p.map openM) i = (p.map openM)[i].name := by unfold nameAt; rw [List.getElem?_eq_getElem hi]; rfl
        have := h2 i (fun c hcm => by
          rw [hnm]
          unfold calledB at hc
          rw [List.drop_zero, List.any_eq_false] at hc
          simpa using hc c hcm)
        rw [List.getElem?_eq_getElem (by omega), List.getElem?_eq_getElem (by omega)] at this
        simp only [Option.some.injEq] at this
        rw [this]
        exact valsEq_refl _ (b2 _ (List.getElem_mem _))) _ 0 h rfl (by omega)
      refine ⟨h', ?_⟩
      have hstl : ((a.state.length : Int)) = (p.length : Int) := by omega
      have hfl : ((first.length : Int)) = (p.length : Int) := by omega
      have hp : ¬ (p = []) := fun h => by subst h; simp at h1; exact hs h1
      simp only [Int.natCast_zero] at e
      simp [hstl, hfl, hp, hs]
      exact e
theorem t6 (p : List Mod) (hp : p.length ≤ 140737488355328) (hm : ∀ m ∈ p, m.Lim) (module fn : Str) (args : List Val) (hl : args.length ≤ 140737488355328) (ha : ∀ v ∈ args, v.Lim) (world : List Int) (_hw : world.length ≤ 140737488355328) (fuel : Int) (_h0 : -9223372036854775808 ≤ fuel) (_h1 : fuel ≤ 9223372036854775807) :
    callW pg 6 [mods p, .str module, .str fn, vals args, ints world, .int .i64 fuel] = M.pure (.bool true) := by
  have hfew := t8 p hp hm args hl ha world fuel
  rw [C6]
  cases hq : fewX p args world fuel with
  | false =>
    rw [hq] at hfew
    simp [S6, small_W, hfew]
  | true =>
    rw [hq] at hfew
    have F := fewX_prog hq hm
    have hargs := (fewX_args hq ha).2
    obtain ⟨h1, e1⟩ := own_loop p (.str module) (.str fn) (vals args) (ints world) (.int .i64 fuel) (.bool true) F.len (fewX_funcs hq) _ 0 [] rfl (by omega)
    obtain ⟨h2, e2⟩ := own_end F module fn args (by omega) world fuel h1
    have hS : S6 (callW pg) fixW (mods p) (.str module) (.str fn) (vals args) (ints world) (.int .i64 fuel) [] = .ok (.bool true) h2 := by
      rw [← e2, ← e1]
      simp [S6, small_W, hfew]
      rfl
    have hcl1 : ∀ s : Str, cl noHs (.str s) = .str s := fun _ => rfl
    simp only [cl_mods, cl_vals, cl_ints, cl_str, cl_int]
    exact isoP_frz hS rfl
end Go.Proofs.Ytgbopmciiadmlaa
