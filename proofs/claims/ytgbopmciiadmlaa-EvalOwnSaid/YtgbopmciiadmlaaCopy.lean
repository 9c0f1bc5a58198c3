/- A copy of a state. Conditions: bounds. -/
import Derived.Test.YtgbopmciiadmlaaRun
namespace Go.Proofs.Ytgbopmciiadmlaa
open Go Go.Av Go.Av.Ap
def CpR (tag : Nat → Nat) (st : List Vars) (v : AV) (h : Hp) : Prop := SlR tag 5 2 st.length (fun cs => StatesR tag h 0 (st.map (·.module)) (st.map (·.values)) cs) v h
theorem cpR_len {tag : Nat → Nat} {st : List Vars} {v : AV} {h : Hp} (H : CpR tag st v h) : okCell v = true := by
  rcases H with ⟨_, rfl⟩ | ⟨_, _, rfl, _⟩ <;> rfl
theorem push_copy {tag : Nat → Nat} {st : List Vars} {v : AV} {h : Hp} (H : CpR tag st v h) (x : Vars) (hb : x.values.length ≤ 274877906944) (hs : st.length ≤ 1099511627776) :
    ∃ av h1 v' h2 tag', appH T 23 true (.sl []) (vals x.values) h = .ok av h1 ∧ okCell av = true ∧ appH T 32 false v (.sl [.agg [.str x.module, av]]) h1 = .ok v' h2 ∧ CpR tag' (st ++ [x]) v' h2 := by
  have e1 := cloneH_vals (T := T) (t := 23) rfl rfl rfl rfl rfl (by decide) (callW pg) x.values (show x.values.length * 64 ≤ 140737488355328 by omega) h
  have e0 : cloneH T 23 (callW pg) [vals x.values] h = appH T 23 true (.sl []) (vals x.values) h := rfl
  rw [e0] at e1
  have hcl : ∃ av h1 tag1, appH T 23 true (.sl []) (vals x.values) h = .ok av h1 ∧ CpR tag1 st v h1 ∧ okCell av = true ∧ ((x.values = [] ∧ av = .sl []) ∨ ∃ r, av = .hs r 0 x.values.length 4 true ∧ tag1 r = 6 + (0 + (st.map (·.values)).length) ∧ h1[r]? = some (valCells x.values)) := by
    by_cases hv : x.values = []
    · rw [if_pos hv] at e1
      exact ⟨_, h, tag, e1, H, rfl, .inl ⟨hv, rfl⟩⟩
    · rw [if_neg hv] at e1
      have K := Kp.new tag h (valCells x.values) (6 + st.length)
      exact ⟨_, _, _, e1, SlR.keep K (fun h => h) (fun cs hcs => hcs.keep K fun i h => h) H, rfl, .inr ⟨h.length, rfl, by simp, by simp⟩⟩
  obtain ⟨av, h1, tag1, c1, H1, ok1, A1⟩ := hcl
  obtain ⟨h2, v', tag', p1, K, H2, hc⟩ := push_row (T := T) (t := 32) rfl rfl rfl rfl (by decide) rfl (by decide) (x := .agg [.str x.module, av]) H1 (fun h0 => by
    have h00 : st = [] := List.eq_nil_of_length_eq_zero h0
    subst h00; rfl) (fun cs h => h.ok) (okEl_vars2 _ _ ok1) (show (st.length + 1) * 40 ≤ 140737488355328 by omega)
  refine ⟨av, h1, v', h2, tag', c1, ok1, p1, ?_⟩
  have A2 : (x.values = [] ∧ av = .sl []) ∨ ∃ r, av = .hs r 0 x.values.length 4 true ∧ tag' r = 6 + (0 + (st.map (·.values)).length) ∧ h2[r]? = some (valCells x.values) := by
    rcases A1 with A1 | ⟨r, a1, a2, a3⟩
    · exact .inl A1
    · obtain ⟨k1, k2⟩ := K r _ a3 (by rw [a2]; omega)
      exact .inr ⟨r, a1, k2.trans a2, k1⟩
  unfold CpR
  rw [List.length_append, List.length_singleton]
  have hst : ∀ cs', (∃ cs, StatesR tag1 h1 0 (st.map (·.module)) (st.map (·.values)) cs ∧ cs' = cs ++ acells (.agg [.str x.module, av])) → StatesR tag' h2 0 ((st ++ [x]).map (·.module)) ((st ++ [x]).map (·.values)) cs' := by
    rintro cs' ⟨cs, g1, rfl⟩
    rw [List.map_append, List.map_append]
    exact (g1.keep K fun i h => by omega).snoc A2
  rcases H2 with ⟨h0, _⟩ | ⟨q, cs, j1, j2, j3, j4, j5, j6⟩
  · omega
  · exact .inr ⟨q, cs, j1, j2, j3, j4, j5, hst cs j6⟩
theorem loop_copy (st : List Vars) (hst : st.length ≤ 1099511627776) (hv : ∀ x ∈ st, x.values.length ≤ 274877906944) : ∀ (B A : List Vars) (tag : Nat → Nat) (v : AV) (h : Hp), A ++ B = st → CpR tag A v h →
    ∃ tag' v' h', fixW (L16_0 (callW pg) fixW) [varss st, v, .int .i64 A.length] h = .ok v' h' ∧ CpR tag' st v' h'
  | [], A, tag, v, h, e, H => by
    have e' : A = st := by rw [← e]; simp
    subst e'
    refine ⟨tag, v, h, ?_, H⟩
    rw [FL16_0]
    simp [L16_0, M.pure]
  | x :: B, A, tag, v, h, e, H => by
    have hll : A.length + (B.length + 1) = st.length := by rw [← e]; simp
    have h1 : (A.length : Int) < (st.length : Int) := by omega
    have hx : st[A.length]'(by omega) = x := by subst e; simp
    have hm : x ∈ st := by rw [← e]; simp
    have hix := IX32 (l := st) (n := (A.length : Int)) (by omega) h1
    rw [show ((A.length : Int)).toNat = A.length by omega, getElem!_pos st A.length (by omega), hx] at hix
    obtain ⟨av, h1', v', h2', tag', c1, ok1, p1, H'⟩ := push_copy H x (hv x hm) (by omega)
    obtain ⟨tag2, v2, h2, j1, j2⟩ := loop_copy st hst hv B (A ++ [x]) tag' v' h2' (by rw [← e]; simp) H'
    refine ⟨tag2, v2, h2, ?_, j2⟩
    rw [← j1]
    generalize hcode : fixW (L16_0 (callW pg) fixW) [varss st, v, .int .i64 A.length] h = code
    have hac : acells x.av = [.str x.module, vals x.values] := rfl
    have hw : IntKind.i64.wrap ((A.length : Int) + 1) = ((A.length + 1 : Nat) : Int) := wrap_add1 (by omega)
    have hb0 : buildSliceA T 23 0 [] = some (.sl []) := rfl
    have hlen : lenA T 32 (varss st) = some (.int .i64 st.length) := by simp [varss]
    rw [FL16_0] at hcode
    simp -implicitDefEqProofs only [L16_0, nth_zero, nth_succ, hlen, bin_lss, bnd_some, condM_bool, h1, decide_true, if_true, hix, hac, FA47_0, FA47_1, List.drop_succ_cons, List.drop_zero, LD9, LD23, hb0] at hcode
    rw [bnd_ok c1] at hcode
    simp -implicitDefEqProofs only [build_vars _ _ ok1, buildS_vars (.agg [.str x.module, av]) rfl, bnd_some] at hcode
    rw [bnd_ok p1] at hcode
    simp -implicitDefEqProofs only [bin_add, bnd_some, hw] at hcode
    rw [← hcode]
    simp only [List.length_append, List.length_singleton]
theorem t16 (st : List Vars) (hst : st.length ≤ 1099511627776) (hv : ∀ x ∈ st, x.values.length ≤ 274877906944) (h : Hp) : ∃ tag v h', callW pg 16 [varss st] h = .ok v h' ∧ CpR tag st v h' := by
  obtain ⟨tag, v, h', j1, j2⟩ := loop_copy st hst hv st [] (fun _ => 0) .hn h rfl (.inl ⟨rfl, rfl⟩)
  exact ⟨tag, v, h', by rw [C16]; exact j1, j2⟩
theorem zip_vars (st : List Vars) : List.zipWith Vars.mk (st.map (·.module)) (st.map (·.values)) = st := by
  induction st with
  | nil => rfl
  | cons x st ih => simp [ih]
theorem frz_copy {tag : Nat → Nat} {st : List Vars} {v : AV} {h : Hp} (H : CpR tag st v h) : frz 6 h v = varss st := by
  rw [frz_succ, ← zip_vars st]
  rcases H with ⟨h0, rfl⟩ | ⟨q, cs, j1, j2, j3, j4, j5, j6⟩
  · have : st = [] := List.eq_nil_of_length_eq_zero h0
    subst this
    rfl
  · exact frz_states (c0 := cs) (tag := tag) (.inr ⟨q, cs, by simpa using j1, by simpa using j2, j3, j4, by simpa using j5, rfl, j6⟩)
theorem copy_frz (st : List Vars) (hst : st.length ≤ 1099511627776) (hv : ∀ x ∈ st, x.values.length ≤ 274877906944) (h : Hp) : ∃ h', bnd (callW pg 16 [varss st]) fzM h = .ok (varss st) h' := by
  obtain ⟨tag, v, h', j1, j2⟩ := t16 st hst hv h
  refine ⟨h'.map fun _ => [], ?_⟩
  rw [bnd_ok j1]
  unfold fzM
  rw [frz_copy j2]
end Go.Proofs.Ytgbopmciiadmlaa
