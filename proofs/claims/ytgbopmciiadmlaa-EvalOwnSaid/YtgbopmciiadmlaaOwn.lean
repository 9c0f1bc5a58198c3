/- EvalOwn is true. Condition: bounds on slices. -/
import Derived.Test.YtgbopmciiadmlaaOwn0
namespace Go.Proofs.Ytgbopmciiadmlaa
open Go Go.Av Go.Av.Ap
theorem open_mem {p : List Mod} {m : Mod} (h : m ∈ p.map openM) : ∃ m0 ∈ p, m = openM m0 := by
  rw [List.mem_map] at h
  obtain ⟨m0, h1, h2⟩ := h
  exact ⟨m0, h1, h2.symm⟩
theorem open_pub (p : List Mod) : ∀ m ∈ p.map openM, ∀ f ∈ m.funcs, f.pub = true := by
  intro m hm f hf
  obtain ⟨m0, _, rfl⟩ := open_mem hm
  have hf' : f ∈ m0.funcs.map openF := hf
  rw [List.mem_map] at hf'
  obtain ⟨f0, _, rfl⟩ := hf'
  rfl
theorem few_open {p : List Mod} {fu : Int} (F : FewP p fu) : FewP (p.map openM) fu := by
  have hfun : ∀ {m0 : Mod} {f : Fun}, f ∈ (openM m0).funcs → ∃ f0 ∈ m0.funcs, f = openF f0 := fun {m0 f} hf => by
    have hf' : f ∈ m0.funcs.map openF := hf
    rw [List.mem_map] at hf'
    obtain ⟨f0, h1, h2⟩ := hf'
    exact ⟨f0, h1, h2.symm⟩
  refine ⟨by rw [List.length_map]; exact F.len, F.fuel, ⟨⟨⟨by rw [List.length_map]; exact F.lim.body.lim.len, fun m hm => ?_⟩, fun m hm f hf => ?_⟩, fun m hm => ?_⟩, fun m hm => ?_⟩
  · obtain ⟨m0, h0, rfl⟩ := open_mem hm
    have := F.lim.body.lim.funcs m0 h0
    exact ⟨by show (m0.funcs.map openF).length ≤ _; rw [List.length_map]; exact this.1, this.2⟩
  · obtain ⟨m0, h0, rfl⟩ := open_mem hm
    obtain ⟨f0, h1, rfl⟩ := hfun hf
    exact F.lim.body.body m0 h0 f0 h1
  · obtain ⟨m0, h0, rfl⟩ := open_mem hm
    exact F.lim.init m0 h0
  · obtain ⟨m0, h0, rfl⟩ := open_mem hm
    refine ⟨(F.small m0 h0).1, fun f hf => ?_⟩
    obtain ⟨f0, h1, rfl⟩ := hfun hf
    exact (F.small m0 h0).2 f0 h1
theorem from_outLim {p : List Mod} {fu : Int} (F : FewP p fu) (st : List Vars) (module fn : Str) (args : List Val) (world : List Int) (fuel : Int) : OutLim (fromX p st module fn args world fuel) :=
  outLim_of (B := 8) (n := p.length) (from_lim p st module fn args world fuel F.small) (from_right ..) (by omega) (by have := F.len; omega)
theorem fewX_funcs {p : List Mod} {args : List Val} {world : List Int} {fuel : Int} (h : fewX p args world fuel = true) : ∀ m ∈ p, m.funcs.length ≤ 4 := by
  unfold fewX at h
  simp only [Bool.and_eq_true, decide_eq_true_eq, List.all_eq_true, fewM] at h
  obtain ⟨⟨⟨⟨c1, _⟩, _⟩, c4⟩, c5, _⟩ := h
  intro m hm
  obtain ⟨⟨⟨⟨d1, d2⟩, d3⟩, d4⟩, d5, d6⟩ := c5 m hm
  exact d3
def calledB (a : Out) (s : Str) (k : Nat) : Bool := (a.calls.drop k).any fun c => c.module == s
section
variable (q : List Mod) (b0 b1 b2 b3 : AV) (first : List Vars) (a : Out)
theorem own_calls (hq : q.length ≤ 4) (hc : a.calls.length ≤ 140737488355328) (v69 : List AV → M AV) (i : Nat) (hi : i < q.length) (hsl : i < a.state.length) (hfl : i < first.length) (ok : valsSz (a.state[i]).values ≤ 4611686018427387904) (okf : valsSz (first[i]).values ≤ 4611686018427387904) :
    ∀ (n k : Nat) (c : Bool), a.calls.length - k = n → k ≤ a.calls.length → ((c || calledB a q[i].name k) = false → valsEq (a.state[i]).values (first[i]).values = true) →
    fixW (L6_1 (callW pg) fixW v69) [b0, b1, b2, b3, .bool true, mods q, varss first, .ip (acells a.av), .int .i64 i, .bool c, .int .i64 k] = v69 [b0, b1, b2, b3, .bool true, mods q, varss first, .ip (acells a.av), .int .i64 (i + 1 : Nat)] := by
  have hlv := t26 (a.state[i]).values (first[i]).values ok okf
  intro n
  induction n with
  | zero =>
    intro k c hn hk hcond
    obtain rfl : k = a.calls.length := by omega
    have hlt : ¬ ((a.calls.length : Int) < (a.calls.length : Int)) := by omega
    have i1 : (i : Int) < (a.state.length : Int) := by omega
    have i2 : (i : Int) < (first.length : Int) := by omega
    have hw : IntKind.i64.wrap ((i : Int) + 1) = ((i + 1 : Nat) : Int) := wrap_add1 (by omega)
    have hcond' : c = false → valsEq (a.state[i]).values (first[i]).values = true := fun h => hcond (by rw [h]; simp [calledB])
    unfold valsEq at hcond'
    rw [FL6_1]
    simp only [L6_1]
    cases c with
    | true => simp (disch := omega) [hw]
    | false =>
      have := hcond' rfl
      rw [this] at hlv
      simp (disch := omega) [hw, IX32, i1, i2, hsl, hfl, hlv]
  | succ n ih =>
    intro k c hn hk hcond
    have hlt : k < a.calls.length := by omega
    have h1 : (k : Int) < (a.calls.length : Int) := by omega
    have hw : IntKind.i64.wrap ((k : Int) + 1) = ((k + 1 : Nat) : Int) := wrap_add1 (by omega)
    have hdrop : calledB a q[i].name k = (a.calls[k].module == q[i].name || calledB a q[i].name (k + 1)) := by
      unfold calledB
      rw [List.drop_eq_getElem_cons hlt, List.any_cons]
    have i0 : (i : Int) < (q.length : Int) := by omega
    rw [FL6_1]
    simp only [L6_1]
    cases c with
    | true =>
      have := ih (k + 1) true (by omega) (by omega) (fun h => by cases h)
      simp at this
      simp (disch := omega) [h1, hw, this]
    | false =>
      have := ih (k + 1) (a.calls[k].module == q[i].name) (by omega) (by omega) (fun h => hcond (by rw [hdrop]; simpa using h))
      simp at this
      simp (disch := omega) [h1, hw, hlt, hi, i0, IX41, IX22, this]
end
theorem own_states {q : List Mod} {fu : Int} (F : FewP q fu) (hpub : ∀ m ∈ q, ∀ f ∈ m.funcs, f.pub = true) (module fn : Str) (args : List Val) (hargs : valsSz args ≤ 4611686018427387904) (fuel : Int) (first : List Vars) (a : Out) (hfl : first.length = q.length) (hal : a.state.length = q.length) (ha : OutLim a)
    (hav : ∀ x ∈ a.state, x.values.length ≤ 274877906944 ∧ valsSz x.values ≤ 4611686018427387904) (okf : ∀ x ∈ first, valsSz x.values ≤ 4611686018427387904)
    (hsame : ∀ i (h : i < q.length), calledB a q[i].name 0 = false → valsEq (a.state[i]'(by omega)).values (first[i]'(by omega)).values = true) :
    ∀ (n i : Nat) (h : Hp), q.length - i = n → i ≤ q.length → ∃ h', fixW (L6_2 (callW pg) fixW) [.str module, .str fn, vals args, .int .i64 fuel, .bool true, mods q, varss first, .ip (acells a.av), .int .i64 i] h = .ok (.bool true) h' := by
  have hq := F.len
  intro n
  induction n with
  | zero =>
    intro i h hn hi
    obtain rfl : i = q.length := by omega
    have hlt : ¬ ((q.length : Int) < (q.length : Int)) := by omega
    have hb := t17 F.lim.body a.state module fn args [] fuel (by omega) hav hargs
    have hc := t17 F.lim.body a.state module fn args [0] fuel (by omega) hav hargs
    have hbc : fromX q a.state module fn args [0] fuel = fromX q a.state module fn args [] fuel := (from_worlds q a.state module fn args [] fuel).2 [0] fun i _ => by
      cases i with
      | zero => rfl
      | succ i => rfl
    rw [hbc] at hc
    have lb := from_outLim F a.state module fn args [] fuel
    have hal2 := t13 _ _ lb lb
    rw [alike_refl (from_right ..)] at hal2
    obtain ⟨h', hcp⟩ := copy_frz a.state (by omega) (fun x hx => (hav x hx).1) h
    have hz : ints [] = .sl [] := rfl
    rw [hz] at hb
    have hs0 : buildSliceA T 24 1 [(0, .int .i64 0)] = some (ints [0]) := rfl
    generalize fromX q a.state module fn args [] fuel = o at *
    refine ⟨h', ?_⟩
    rw [FL6_2]
    have hlen : lenA T 22 (mods q) = some (.int .i64 q.length) := by simp [mods]
    simp only [L6_2, nth_zero, nth_succ, hlen, bin_lss, bnd_some, condM_bool, hlt, decide_false, Bool.false_eq_true, if_false]
    have hst : loadA T 32 (.ip ((acells a.av).drop 7)) = some (varss a.state) := rfl
    simp only [FA43_4, hst, bnd_some, hb, bnd_pure, cellsM_of (okEl_out o)]
    have hcp' : ∀ g : AV → M AV, bnd (bnd (callW pg 16 [varss a.state]) fzM) g h = g (varss a.state) h' := fun g => bnd_ok hcp
    rw [hcp']
    simp only [hs0, bnd_some, hc, bnd_pure, cellsM_of (okEl_out o)]
    have hld : loadA T 43 (.ip (acells (AV.agg (acells o.av)))) = some o.av := rfl
    simp only [hld, guardM, bnd_some, hal2, bnd_pure]
    rfl
  | succ n ih =>
    intro i h hn hi
    have hlt : i < q.length := by omega
    have h1 : (i : Int) < (q.length : Int) := by omega
    obtain ⟨h', e⟩ := ih (i + 1) h (by omega) (by omega)
    refine ⟨h', ?_⟩
    have hcl := own_calls q (.str module) (.str fn) (vals args) (.int .i64 fuel) first a hq ha.calls (fixW (L6_2 (callW pg) fixW)) i hlt (by omega) (by omega) (hav _ (List.getElem_mem _)).2 (okf _ (List.getElem_mem _)) _ 0 false rfl (by omega) (fun h => hsame i hlt (by simpa using h))
    rw [FL6_2]
    have hlen : lenA T 22 (mods q) = some (.int .i64 q.length) := by simp [mods]
    simp only [L6_2, nth_zero, nth_succ, hlen, bin_lss, bnd_some, condM_bool, h1, decide_true, if_true]
    have hcl' : fixW (L6_1 (callW pg) fixW (fixW (L6_2 (callW pg) fixW))) [.str module, .str fn, vals args, .int .i64 fuel, .bool true, mods q, varss first, .ip (acells a.av), .int .i64 i, .bool false, .int .i64 0] = fixW (L6_2 (callW pg) fixW) [.str module, .str fn, vals args, .int .i64 fuel, .bool true, mods q, varss first, .ip (acells a.av), .int .i64 (i + 1 : Nat)] := hcl
    rw [hcl']
    exact e
end Go.Proofs.Ytgbopmciiadmlaa
