/- What From and Run compute: the whole. Conditions: bounds. -/
import Derived.Test.YtgbopmciiadmlaaFrom
namespace Go.Proofs.Ytgbopmciiadmlaa
open Go Go.Av Go.Av.Ap
theorem err_ne (a b : Int) : binA T .neq 33 (.int .i64 a) (.int .i64 b) = some (.bool (a != b)) := rfl
theorem t17 {p : List Mod} (LB : LimB p) (st : List Vars) (module fn : Str) (args : List Val) (world : List Int) (fuel : Int) (hst : st.length ≤ 1099511627776) (hv : ∀ x ∈ st, x.values.length ≤ 274877906944 ∧ valsSz x.values ≤ 4611686018427387904)
    (hargs : valsSz args ≤ 4611686018427387904) : callW pg 17 [mods p, varss st, .str module, .str fn, vals args, ints world, .int .i64 fuel] = M.pure (fromX p st module fn args world fuel).av := by
  have hnm := t32 p LB.lim.len
  have hbl := t34 p st LB.lim.len (fun m hm => (LB.lim.funcs m hm).2) (fun x hx => (hv x hx).2)
  have hany := any_right args hargs
  have hcl1 : ∀ s : Str, cl noHs (.str s) = .str s := fun _ => rfl
  have hcl2 : ∀ n : Int, cl noHs (.int .i64 n) = .int .i64 n := fun _ => rfl
  rw [C17, cl_mods, cl_varss, hcl1, hcl1, cl_vals, cl_ints, hcl2]
  have key : ∃ a h', S17 (callW pg) fixW (mods p) (varss st) (.str module) (.str fn) (vals args) (ints world) (.int .i64 fuel) [] = .ok a h' ∧ frz 6 h' a = (fromX p st module fn args world fuel).av := by
    have done : ∀ (o : Out) (c : M AV), c [] = M.pure o.av [] → ∃ a h', c [] = .ok a h' ∧ frz 6 h' a = o.av := fun o c h => ⟨o.av, [], h, cl_out _ o⟩
    generalize hcode : S17 (callW pg) fixW (mods p) (varss st) (.str module) (.str fn) (vals args) (ints world) (.int .i64 fuel) [] = code
    simp -implicitDefEqProofs only [S17, hnm, bnd_pure, err_ne, bnd_some, condM_bool] at hcode
    unfold fromX
    by_cases hn : namesX p = 0
    · have hn' : (namesX p != 0) = false := by simp [hn]
      have hnn : ¬ (namesX p ≠ 0) := fun h => h hn
      simp only [hn', Bool.false_eq_true, if_false] at hcode
      simp only [if_neg hnn]
      have hg1 : guardM (.bool (decide (fuel < 0))) false 1 (M.pure [.bool (decide (100000 < fuel))]) = M.pure [gv (decide (fuel < 0)) false (.bool (decide (100000 < fuel)))] := guardM_pure1 _ _ _
      have hg2 : guardM (.bool (decide (fuel < 0) || decide (100000 < fuel))) false 1 (M.pure [.bool !(belongs p st)]) = M.pure [gv (decide (fuel < 0) || decide (100000 < fuel)) false (.bool !(belongs p st))] := guardM_pure1 _ _ _
      simp -implicitDefEqProofs only [bin_lss, bin_gtr, bnd_some, hg1, bnd_pure, nth_zero, pickA_or, hbl, unA_not, hg2, condM_bool] at hcode
      by_cases hb : fuel < 0 ∨ 100000 < fuel ∨ belongs p st = false
      · have hb' : (decide (fuel < 0) || decide (100000 < fuel) || !(belongs p st)) = true := by
          simp only [Bool.or_eq_true, decide_eq_true_eq, Bool.not_eq_true']
          rcases hb with h | h | h
          · exact .inl (.inl h)
          · exact .inl (.inr h)
          · exact .inr h
        simp only [hb', if_true, build_err, bnd_some, wrap8] at hcode
        simp only [if_pos hb]
        rw [← hcode]
        exact ⟨_, [], rfl, cl_out _ _⟩
      · have hb' : (decide (fuel < 0) || decide (100000 < fuel) || !(belongs p st)) = false := by
          rw [← Bool.not_eq_true]
          simp only [Bool.or_eq_true, decide_eq_true_eq, Bool.not_eq_true']
          rintro ((h | h) | h)
          · exact hb (.inl h)
          · exact hb (.inr (.inl h))
          · exact hb (.inr (.inr h))
        have hbe : belongs p st = true := by
          cases h : belongs p st with
          | true => rfl
          | false => exact absurd (.inr (.inr h)) hb
        have hfu : 0 ≤ fuel ∧ fuel ≤ 100000 := by omega
        have hB : buildA T true 81 [(0, mods p), (1, ints world), (2, .int .i64 fuel)] = some (.agg (rowF p world fuel)) := rfl
        have hnew : ∀ g : AV → M AV, bnd (newH (rowF p world fuel)) g [] = g (.hp 0 0) [rowF p world fuel] := fun g => rfl
        have hcell : cellsM 1 (.hp 0 0) = M.pure (.agg [.hp 0 0]) := rfl
        have hcelli : ∀ n : Int, cellsM 1 (.int .i64 n) = M.pure (.agg [.int .i64 n]) := fun _ => rfl
        have hlp : loadA T 79 (.ip [.hp 0 0]) = some (.hp 0 0) := rfl
        have hla : ∀ n : Int, loadA T 3 (.ip [.int .i64 n]) = some (.int .i64 n) := fun _ => rfl
        have hmd := t35 (rep_from p world fuel) LB.lim module
        have hlt : modAt p module < p.length ∨ p = [] := by
          rcases idxAt_lt (fun (x : Mod) => x.name == module) p 0 with k | k
          · have : modAt p module = -1 := k
            left
            omega
          · have : modAt p module = idxAt (fun (x : Mod) => x.name == module) p 0 := rfl
            left
            omega
        have hlt' : modAt p module < p.length := by
          rcases hlt with h | h
          · exact h
          · subst h; show idxAt _ [] 0 < _; simp [idxAt]
        have hfn := t36 (rep_from p world fuel) LB.lim (modAt p module) hlt' fn
        simp only [hb', Bool.false_eq_true, if_false] at hcode
        simp only [if_neg hb]
        simp -implicitDefEqProofs only [hB, bnd_some, acells_agg, hnew, hcell, bnd_pure, hlp] at hcode
        rw [bnd_ok hmd] at hcode
        simp -implicitDefEqProofs only [hcelli, bnd_pure, acells_agg, hlp, bnd_some, hla] at hcode
        rw [bnd_ok hfn] at hcode
        cases hf : funcX p (modAt p module) fn with
        | none =>
          rw [hf] at hcode
          simp -implicitDefEqProofs only [funTup, extractA_tup, List.getElem?_cons_zero, List.getElem?_cons_succ, bnd_some, cellsM_fun, bnd_pure, unA_not, Bool.not_false, condM_bool, if_true, build_err, wrap8] at hcode
          rw [← hcode]
          exact ⟨_, _, rfl, cl_out _ _⟩
        | some f =>
          rw [hf] at hcode
          obtain ⟨f1, f2, f3⟩ := funcX_some hf
          have hac : ∀ f : Fun, acells (.agg (acells f.av)) = acells f.av := fun _ => rfl
          have hpar : loadA T 58 (.ip (List.drop 2 (acells f.av))) = some (flds f.params) := by simp
          have hlv : loadA T 23 (.ip (acells (vals args))) = some (vals args) := rfl
          have hg3 : guardM (.bool ((args.length : Int) != (f.params.length : Int))) false 1 (M.pure [.bool !(args.all (fitsP 4))]) = M.pure [gv ((args.length : Int) != (f.params.length : Int)) false (.bool !(args.all (fitsP 4)))] := guardM_pure1 _ _ _
          simp -implicitDefEqProofs only [funTup, extractA_tup, List.getElem?_cons_zero, List.getElem?_cons_succ, bnd_some, cellsM_fun, bnd_pure, unA_not, Bool.not_true, condM_bool, Bool.false_eq_true, if_false, hlv, LENE23, hac, FA67_2, hpar, LENE58, bin_neq, hany, hg3, nth_zero, pickA_or] at hcode
          simp only
          by_cases hr : args.length = f.params.length ∧ args.all (fitsP 4) = true
          · have hr' : (((args.length : Int) != (f.params.length : Int)) || !(args.all (fitsP 4))) = false := by
              have : ((args.length : Int) != (f.params.length : Int)) = false := by simp [hr.1]
              rw [this, hr.2]
              rfl
            simp -implicitDefEqProofs only [hr', Bool.false_eq_true, if_false, LENE32, bnd_some] at hcode
            simp only [if_pos hr]
            obtain ⟨a, h', g1, g2⟩ := from_body LB st args world fuel (modAt p module) f hst (fun x hx => (hv x hx).1) (by omega) hlt' f3 hr.1 (fun v hv => (List.all_eq_true.1 hr.2) v hv) hbe hfu (.int .i64 0) (.int .i64 0) (.int .i64 0) (.sl []) (.sl []) (.sl []) (.sl []) (.sl [])
            rw [g1] at hcode
            exact ⟨a, h', hcode.symm, g2⟩
          · have hr' : (((args.length : Int) != (f.params.length : Int)) || !(args.all (fitsP 4))) = true := by
              by_cases h1 : args.length = f.params.length
              · have : args.all (fitsP 4) = false := by
                  rw [← Bool.not_eq_true]
                  exact fun h2 => hr ⟨h1, h2⟩
                rw [this]
                simp
              · have : ((args.length : Int) != (f.params.length : Int)) = true := by
                  rw [bne_iff_ne]
                  omega
                rw [this]
                rfl
            simp -implicitDefEqProofs only [hr', if_true, build_err, bnd_some, wrap8] at hcode
            simp only [if_neg hr]
            rw [← hcode]
            exact ⟨_, _, rfl, cl_out _ _⟩
    · have hn' : (namesX p != 0) = true := by simp [hn]
      simp only [hn', if_true, build_err, bnd_some, wrap8] at hcode
      simp only [if_pos hn]
      rw [← hcode]
      exact ⟨_, [], rfl, cl_out _ _⟩
  obtain ⟨a, h', h1, h2⟩ := key
  exact isoP_frz h1 h2
structure LimR (p : List Mod) : Prop where
  body : LimB p
  init : ∀ m ∈ p, m.init.length ≤ 274877906944 ∧ ∀ e ∈ m.init, expLim e
theorem vals_right_sz : (l : List Val) → (∀ v ∈ l, Rv v) → valsSz l ≤ l.length * 200000
  | [], _ => by simp [valsSz]
  | v :: l, h => by
    have h1 := right_sz (h v List.mem_cons_self)
    have h2 := vals_right_sz l fun w hw => h w (List.mem_cons_of_mem _ hw)
    simp only [valsSz, List.length_cons]
    omega
theorem freshL_lens : (p : List Mod) → (st : List Vars) → freshL p = .ok st → ∀ x ∈ st, ∃ m ∈ p, x.values.length = m.init.length
  | [], st, h, x, hx => by cases h; cases hx
  | m :: ms, st, h, x, hx => by
    unfold freshL at h
    split at h
    · split at h
      · cases h
      · rename_i vs hvs
        split at h
        · cases h
        · rename_i r hr
          cases h
          rcases List.mem_cons.1 hx with rfl | hx
          · exact ⟨m, List.mem_cons_self, (initL_right _ _ hvs).1⟩
          · obtain ⟨m', h1, h2⟩ := freshL_lens ms r hr x hx
            exact ⟨m', List.mem_cons_of_mem _ h1, h2⟩
    · cases h
theorem t14 {p : List Mod} (L : LimR p) (module fn : Str) (args : List Val) (world : List Int) (fuel : Int) (hargs : valsSz args ≤ 4611686018427387904) :
    callW pg 14 [mods p, .str module, .str fn, vals args, ints world, .int .i64 fuel] = M.pure (runX p module fn args world fuel).av := by
  have hfr := t10 p L.body.lim.len (fun m hm => ⟨(L.body.lim.funcs m hm).2, L.init m hm⟩)
  have hcl1 : ∀ s : Str, cl noHs (.str s) = .str s := fun _ => rfl
  have hcl2 : ∀ n : Int, cl noHs (.int .i64 n) = .int .i64 n := fun _ => rfl
  have hS : S14 (callW pg) fixW (mods p) (.str module) (.str fn) (vals args) (ints world) (.int .i64 fuel) = M.pure (runX p module fn args world fuel).av := by
    unfold runX
    simp -implicitDefEqProofs only [S14, hfr, bnd_pure]
    cases hx : freshX p with
    | error e =>
      have he : (e != 0) = true := by
        have := freshX_err hx
        simpa using this
      simp -implicitDefEqProofs only [freshAv, extractA_tup, List.getElem?_cons_zero, List.getElem?_cons_succ, bnd_some, err_ne, he, condM_bool, if_true, build_err, wrap8]
    | ok st =>
      have hb := belongs_right (freshX_belongs hx)
      have hlen : ∀ x ∈ st, x.values.length ≤ 274877906944 := fun x hx' => by
        unfold freshX at hx
        split at hx
        · obtain ⟨m, h1, h2⟩ := freshL_lens p st hx x hx'
          rw [h2]
          exact (L.init m h1).1
        · cases hx
      have hfrom := t17 L.body st module fn args world fuel (by rw [hb.1]; exact L.body.lim.len) (fun x hx' => ⟨hlen x hx', Nat.le_trans (vals_right_sz _ (hb.2.1 x hx')) (by have := hlen x hx'; omega)⟩) hargs
      have h0 : ((0 : Int) != 0) = false := rfl
      simp -implicitDefEqProofs only [freshAv, extractA_tup, List.getElem?_cons_zero, List.getElem?_cons_succ, bnd_some, err_ne, h0, condM_bool, Bool.false_eq_true, if_false, hfrom, bnd_pure, wrap8]
  rw [C14, cl_mods, hcl1, hcl1, cl_vals, cl_ints, hcl2, hS]
  exact isoP_pure fun g => cl_out g _
end Go.Proofs.Ytgbopmciiadmlaa
