/- Path. No condition. -/
import Derived.Test.YtpnonheegflllaaTp6
namespace Go.Proofs.Ytpnonheegflllaa
open Go Go.Av Go.Av.Ap
set_option maxRecDepth 100000
theorem appR {h : Hp} {q : Nat} {P : List Ref} (hq : h[q]? = some (cellsR P)) (h0 : P ≠ []) (hb : P.length ≤ 4000000) (r : Ref) :
    appH T 27 false (.hs q 0 P.length 2 true) (refsA [r]) h = .ok (.hs h.length 0 (P ++ [r]).length 2 true) (h.set q [] ++ [cellsR (P ++ [r])]) := by
  have hp : 0 < P.length := by cases P with | nil => exact absurd rfl h0 | cons _ _ => simp
  have := appH_row (T := T) (t := 27) (e := 24) (ti := _) (ei := _) rfl rfl rfl (x := refA r) rfl (by decide) (by decide) (h := h) (q := q) (n := P.length) (cs := cellsR P) hq (cellsR_ok P) (cellsR_len P) hp (by show (P.length + 1) * 32 ≤ _; omega)
  rw [cellsR_app, List.length_append]
  exact this
theorem binNe (a b : Ref) : binA T .neq 24 (refA a) (refA b) = some (.bool !decide (a = b)) := by
  show (eqA T 20 24 (refA a) (refA b)).map (fun b => AV.bool !b) = _
  rw [eq24]
  rfl
theorem binEq (a b : Ref) : binA T .eql 24 (refA a) (refA b) = some (.bool (decide (a = b))) := by
  show (eqA T 20 24 (refA a) (refA b)).map AV.bool = _
  rw [eq24]
  rfl
theorem loop8 {p : List Mod} {f : Ref} {k : Nat} {D : List (Ref × List Ref)} (I : DInv p f k D) (m : Nat) : ∀ (n : Nat) (x : Ref) (c P : List Ref) (h : Hp) (q : Nat), c.length = n → (x, c) ∈ D → h[m]? = some (rowD D) → h[q]? = some (cellsR P) → q ≠ m → P ≠ [] → P.length + n ≤ 3000000 →
    ∃ h' q' R, R = (P ++ c.dropLast.reverse).reverse ∧ fixW (L8_0 (callW pg) fixW) [.ip [.str f.1, .str f.2], .mp m, .hs q 0 P.length 2 true, .str x.1, .str x.2] h = .ok (.tup [.hs q' 0 R.length 2 true, .bool true]) h' ∧ h'[q']? = some (cellsR R) := by
  intro n
  induction n with
  | zero =>
    intro x c P h q hn hx
    have := I.last hx
    rw [List.length_eq_zero_iff.1 hn] at this
    cases this
  | succ n IH =>
    intro x c P h q hn hx hm hq hqm h0 hb
    rw [FL8_0]
    simp only [L8_0]
    have hcm : ∀ r, cellsNil 2 [] (refA r) = M.pure (refA r) := fun r => by rw [cellsNil_of (okEl_ref _), acells_ref, fold_ref]
    by_cases hxf : x = f
    · subst hxf
      have hc := I.uniq hx I.start
      subst hc
      have h1 := t26 P (by omega) q h hq
      have hql : q < h.length := (List.getElem?_eq_some_iff.1 hq).1
      refine ⟨h.set q (cellsR P.reverse), q, P.reverse, by simp, ?_, List.getElem?_set_self hql⟩
      simp [binNe]
      exact bnd_ok h1
    · rcases I.chain _ hx with e | ⟨y, c', h1, h2, h3⟩
      · exact absurd (congrArg Prod.fst e) hxf
      · simp only at h3
        subst h3
        have hg : getK (D.map preR) x = some y := getK_nodup (by rw [pre_keys]; exact I.nodup) (List.mem_map.2 ⟨_, hx, preR_cons c' x y (I.last h1)⟩)
        have h4 := look_ref0 (es := D.map preR) hm x
        rw [hg] at h4
        have h5 := appR hq h0 (by omega) y
        have hml : m < h.length := (List.getElem?_eq_some_iff.1 hm).1
        obtain ⟨h', q', R, r1, r2, r3⟩ := IH y c' (P ++ [y]) (h.set q [] ++ [cellsR (P ++ [y])]) h.length (by simpa using hn) h1
          (by rw [List.getElem?_append_left (by simpa using hml), List.getElem?_set_ne hqm]; exact hm) (by simp) (by omega) (by simp) (by simp; omega)
        refine ⟨h', q', R, ?_, ?_, r3⟩
        · rw [r1, List.dropLast_concat]
          have : c' = c'.dropLast ++ [y] := by
            have hl := I.last h1
            have hne : c' ≠ [] := by intro e; rw [e] at hl; cases hl
            have := List.dropLast_concat_getLast hne
            rw [List.getLast?_eq_some_getLast hne] at hl
            rw [Option.some.inj hl] at this
            exact this.symm
          rw [this]
          simp
        · have hB : buildSliceA T 27 1 [(0, refA y)] = some (refsA [y]) := rfl
          simp [binNe, hxf]
          rw [bnd_ok h4]
          simp [hcm, hB]
          exact (bnd_ok h5).trans r2
def pathA : Option (List Ref) → AV
  | some c => .tup [refsA c, .bool true]
  | none => .tup [refsA [], .bool false]
theorem t8 {p : List Mod} (S : Sm p) (f t : Ref) : callW pg 8 [mods p, refA f, refA t] = M.pure (pathA (pathR p f t)) := by
  rw [C8]
  obtain ⟨J, _, h2⟩ := t24 S (isIdx0 p) f
  have hcm : ∀ r, cellsM 2 (refA r) = M.pure (refA r) := fun r => by rw [cellsM_of (okEl_ref _), acells_ref, fold_ref]
  simp only [cl_mods, cl_ref]
  cases hg : pathR p f t with
  | none =>
    have h3 : ∃ h', S8 (callW pg) fixW (mods p) (refA f) (refA t) [] = .ok (.tup [refsA [], .bool false]) h' := by
      simp only [S8]
      simp [hcm]
      rw [bnd_ok (idx0 S)]
      by_cases hf : (findR p f).isSome = true
      · rw [if_pos hf] at h2
        rw [bnd_ok h2]
        have h4 := look_ref (rowD_get [[.tup ((idxP p).map (entA Fun.av))]] (reachD p f) J) t
        have h5 : (getK ((reachD p f).map preR) t).isSome = false := by
          rw [getK_pre]
          exact decide_eq_false (getK_none.1 hg)
        rw [h5] at h4
        rw [bnd_ok h4]
        simp [hcm]
        exact ⟨_, rfl⟩
      · rw [if_neg hf] at h2
        rw [bnd_ok h2]
        exact ⟨_, rfl⟩
    obtain ⟨h', h3⟩ := h3
    exact isoP_ok h3 (fun _ => rfl)
  | some c =>
    have hf : (findR p f).isSome = true := by
      by_cases hf : (findR p f).isSome = true
      · exact hf
      · unfold pathR reachD at hg
        rw [if_neg hf] at hg
        cases hg
    have hI := reach_inv hf
    have hx := getK_mem hg
    have hlen := chain_len hI hx
    have hRl := reach_len S f
    have h3 : ∃ h' q', S8 (callW pg) fixW (mods p) (refA f) (refA t) [] = .ok (.tup [.hs q' 0 c.length 2 true, .bool true]) h' ∧ h'[q']? = some (cellsR c) := by
      simp only [S8]
      simp [hcm]
      rw [bnd_ok (idx0 S)]
      rw [if_pos hf] at h2
      rw [bnd_ok h2]
      have h4 := look_ref (rowD_get [[.tup ((idxP p).map (entA Fun.av))]] (reachD p f) J) t
      have h5 : (getK ((reachD p f).map preR) t).isSome = true := by
        rw [getK_pre]
        exact decide_eq_true (List.mem_map.2 ⟨_, hx, rfl⟩)
      rw [h5] at h4
      rw [bnd_ok h4]
      simp [hcm]
      obtain ⟨h', q', R, r1, r2, r3⟩ := loop8 hI 1 c.length t c [t] ([.tup ((idxP p).map (entA Fun.av))] :: rowD (reachD p f) :: (J ++ [cellsR [t]])) (J.length + 2) rfl hx rfl (by simp) (by simp) (by simp) (by simp at hlen ⊢; omega)
      have hR : R = c := by
        have hl := hI.last hx
        have hne : c ≠ [] := by intro e; rw [e] at hl; cases hl
        have := List.dropLast_concat_getLast hne
        rw [List.getLast?_eq_some_getLast hne] at hl
        rw [Option.some.inj hl] at this
        rw [r1]
        simp
        exact this
      subst hR
      have hB : buildH T 27 1 [(0, refA t)] ([.tup ((idxP p).map (entA Fun.av))] :: rowD (reachD p f) :: J) = .ok (.hs (J.length + 2) 0 [t].length 2 true) ([.tup ((idxP p).map (entA Fun.av))] :: rowD (reachD p f) :: (J ++ [cellsR [t]])) := rfl
      exact ⟨h', q', (bnd_ok hB).trans r2, r3⟩
    obtain ⟨h', q', h3, h4⟩ := h3
    funext h0
    simp only [isoP, h3]
    rw [frz_pair h4]
    rfl
end Go.Proofs.Ytpnonheegflllaa
