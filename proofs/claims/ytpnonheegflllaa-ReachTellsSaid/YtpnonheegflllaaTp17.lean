/- The reference: Path. No condition. -/
import Derived.Test.YtpnonheegflllaaTp16
namespace Go.Proofs.Ytpnonheegflllaa
open Go Go.Av Go.Av.Ap
set_option maxRecDepth 100000
theorem bfs_sub {C : Ref → List Ref} : ∀ (n k : Nat) (D : List (Ref × List Ref)) (e : Ref × List Ref), e ∈ D → e ∈ bfsD C n k D
  | 0, _, _, _, h => h
  | n + 1, k, D, e, h => by
    simp only [bfsD]
    cases hk : D[k]? with
    | none => exact h
    | some x => exact bfs_sub n (k + 1) _ e (List.mem_append_left _ h)
theorem lenLv (l : List (List Ref)) : lenA T 62 (refssA l) = some (.int .i64 l.length) := by simp [refssA]
theorem loopP9 (p : List Mod) (t : Ref) (lv : List (List Ref)) (K : List AV → M AV) (i : Nat) (hi : i < lv.length) (hib : i ≤ 1000000) (x : Ref) (e : Nat) (l : List Ref) (hl : l.length ≤ 1000000) (hcl : lv[i].length ≤ 1000000) : ∀ (n j : Nat) (D : List (Ref × List Ref)), l.length - j = n → j ≤ l.length → D.length + n ≤ 3000000 → e ≤ D.length →
    fixW (L9_0 (callW pg) fixW K) [mods p, .ip [.str t.1, .str t.2], refsA (D.map (·.1)), refssA lv, refssA ((D.drop e).map (·.2)), .int .i64 i, refsA l, .int .i64 j] =
      K [mods p, .ip [.str t.1, .str t.2], refsA (((l.drop j).foldl (stepD lv[i]) D).map (·.1)), refssA lv, refssA ((((l.drop j).foldl (stepD lv[i]) D).drop e).map (·.2)), .int .i64 ((i + 1 : Nat) : Int)] := by
  intro n
  induction n with
  | zero =>
    intro j D hn hj hD he
    have h1 : ¬ j < l.length := by omega
    have h2 : l.drop j = [] := List.drop_eq_nil_of_le (by omega)
    rw [FL9_0]
    simp only [L9_0, h2]
    simp (disch := omega) [lenRefs, h1, wrap_in]
  | succ n IH =>
    intro j D hn hj hD he
    have hlt : j < l.length := by omega
    have h5 : l.drop j = l[j] :: l.drop (j + 1) := List.drop_eq_getElem_cons hlt
    have h3 := t19 (D.map (·.1)) l[j] (by simp; omega)
    have hB1 : ∀ x : Ref, buildSliceA T 27 1 [(0, refA x)] = some (refsA [x]) := fun x => rfl
    have hB0 : buildSliceA T 27 0 [] = some (refsA []) := rfl
    have hBs : ∀ c : List Ref, buildSliceA T 62 1 [(0, refsA c)] = some (refssA [c]) := fun c => rfl
    rw [h5, List.foldl_cons]
    by_cases hm : l[j] ∈ D.map (·.1)
    · rw [decide_eq_true hm] at h3
      have hst : stepD lv[i] D l[j] = D := if_pos hm
      rw [hst]
      refine Eq.trans ?_ (IH (j + 1) D (by omega) (by omega) (by omega) he)
      rw [FL9_0]
      simp only [L9_0, jn_def]
      simp (disch := omega) [lenRefs, hlt, IX27, getElem!_pos l j hlt, wrap_in, h3, K9_0]
    · rw [decide_eq_false hm] at h3
      have hst : stepD lv[i] D l[j] = D ++ [(l[j], lv[i] ++ [l[j]])] := if_neg hm
      rw [hst]
      refine Eq.trans ?_ (IH (j + 1) (D ++ [(l[j], lv[i] ++ [l[j]])]) (by omega) (by omega) (by simp; omega) (by simp; omega))
      have a1 := apR (a := D.map (·.1)) (b := [l[j]]) (by simp; omega)
      have a2 := apR (a := []) (b := lv[i]) (by simp; omega)
      have a3 := apR (a := lv[i]) (b := [l[j]]) (by simp; omega)
      have a4 : appA T 62 (refssA ((D.drop e).map (·.2))) (refssA [lv[i] ++ [l[j]]]) = some (refssA ((D.drop e).map (·.2) ++ [lv[i] ++ [l[j]]])) := AP62 (by simp; omega)
      have hx1 : (D ++ [(l[j], lv[i] ++ [l[j]])]).map (·.1) = D.map (·.1) ++ [l[j]] := by simp
      have hx2 : ((D ++ [(l[j], lv[i] ++ [l[j]])]).drop e).map (·.2) = (D.drop e).map (·.2) ++ [lv[i] ++ [l[j]]] := by
        rw [List.drop_append_of_le_length he]; simp
      rw [hx1, hx2]
      simp only [List.nil_append] at a2
      rw [FL9_0]
      simp only [L9_0, jn_def]
      simp (disch := omega) [lenRefs, hlt, IX27, getElem!_pos l j hlt, wrap_in, h3, hB1, hB0, a1, IX62, getElem!_pos lv i hi, a2, a3, hBs, K9_0]
      rw [List.map_drop] at a4
      have hl27 : ∀ c, loadA T 27 (.ip (acells (refsA c))) = some (refsA c) := fun c => rfl
      simp [hl27, a2, a3, hBs, a4]
def LvOK (D : List (Ref × List Ref)) (k0 : Nat) (lv : List (List Ref)) : Prop := ∀ i (h : i < lv.length), ∃ x, D[k0 + i]? = some (x, lv[i])
theorem path_at {p : List Mod} (S : Sm p) {f : Ref} (t : Ref) (n k0 i e : Nat) (D : List (Ref × List Ref)) (lv : List (List Ref)) (I : DInv p f (k0 + i) D) (hlv : LvOK D k0 lv) (he : k0 + lv.length = e) (hi : i < lv.length) (hn : (idxP p).length ≤ k0 + i + n)
    (hno : ∀ q (h : q < D.length), q < k0 + i → D[q].1 ≠ t)
    (IH : ∀ (D' : List (Ref × List Ref)), LvOK D' k0 lv → DInv p f (k0 + i + 1) D' → e ≤ D'.length → (∀ q (h : q < D'.length), q < k0 + i + 1 → D'[q].1 ≠ t) → ∀ n', n = n' + 1 →
      fixW (L9_1 (callW pg) fixW (fixW (L9_2 (callW pg) fixW))) [mods p, .ip [.str t.1, .str t.2], refsA (D'.map (·.1)), refssA lv, refssA ((D'.drop e).map (·.2)), .int .i64 ((i + 1 : Nat) : Int)] = M.pure (pathA (getK (bfsD (callL p) n' (k0 + i + 1) D') t))) :
    fixW (L9_1 (callW pg) fixW (fixW (L9_2 (callW pg) fixW))) [mods p, .ip [.str t.1, .str t.2], refsA (D.map (·.1)), refssA lv, refssA ((D.drop e).map (·.2)), .int .i64 i] = M.pure (pathA (getK (bfsD (callL p) n (k0 + i) D) t)) := by
  have hDl := I.len
  have hidx := S.idx
  obtain ⟨x, hx⟩ := hlv i hi
  obtain ⟨hk, hke⟩ := List.getElem?_eq_some_iff.1 hx
  have hmem : (x, lv[i]) ∈ D := List.mem_of_getElem? hx
  have hlast := I.last hmem
  have hcl := chain_len I hmem
  simp only at hlast hcl
  have h0 : 0 < lv[i].length := by
    cases h : lv[i] with
    | nil => rw [h] at hlast; cases hlast
    | cons _ _ => simp
  have hlx : lv[i][lv[i].length - 1]'(by omega) = x := by
    rw [List.getLast?_eq_getElem?, List.getElem?_eq_getElem (by omega)] at hlast
    exact Option.some.inj hlast
  have hl27 : ∀ c, loadA T 27 (.ip (acells (refsA c))) = some (refsA c) := fun c => rfl
  have hw : IntKind.i64.wrap ((lv[i].length : Int) - 1) = lv[i].length - 1 := wrap_in (by omega) (by omega)
  have i1 : indexAddrA T 27 (refsA lv[i]) (.int .i64 ((lv[i].length : Int) - 1)) = some (.ip (acells (refA x))) := by
    rw [IX27 (by omega) (by omega), show ((lv[i].length : Int) - 1).toNat = lv[i].length - 1 by omega, getElem!_pos lv[i] (lv[i].length - 1) (by omega), hlx]
  have hlvl : lv.length ≤ D.length := by
    obtain ⟨y, hy⟩ := hlv (lv.length - 1) (by omega)
    have := (List.getElem?_eq_some_iff.1 hy).1
    omega
  have heD : e ≤ D.length := by
    obtain ⟨y, hy⟩ := hlv (lv.length - 1) (by omega)
    have := (List.getElem?_eq_some_iff.1 hy).1
    omega
  have hc := t12 S x
  rw [FL9_1]
  simp only [L9_1]
  by_cases hxt : x = t
  · subst hxt
    have hg : getK (bfsD (callL p) n (k0 + i) D) x = some lv[i] := getK_nodup (bfs_inv n _ D I (by omega)).nodup (bfs_sub n _ D _ hmem)
    rw [hg]
    simp (disch := omega) [lenLv, hi, IX62, getElem!_pos lv i hi, hl27, lenRefs, hw, i1]
    simp [hl27, lenRefs, hw, i1, hcmr, binEq, pathA]
    done
  · obtain ⟨n', rfl⟩ : ∃ n', n = n' + 1 := ⟨n - 1, by omega⟩
    have hb : bfsD (callL p) (n' + 1) (k0 + i) D = bfsD (callL p) n' (k0 + i + 1) (D ++ newD (callL p) D x lv[i]) := by simp only [bfsD, hx]
    have h9 := loopP9 p t lv (fixW (L9_1 (callW pg) fixW (fixW (L9_2 (callW pg) fixW)))) i hi (by omega) x e (callL p x) (S.calls x) (by omega) _ 0 D rfl (by omega) (by have := S.calls x; omega) heD
    rw [List.drop_zero, newD_eq _ _ _ _ (callL_nodup p x)] at h9
    have hst := I.step hx
    have h10 := IH (D ++ newD (callL p) D x lv[i]) (fun i' hi' => by
      obtain ⟨y, hy⟩ := hlv i' hi'
      exact ⟨y, by rw [List.getElem?_append_left (List.getElem?_eq_some_iff.1 hy).1]; exact hy⟩) hst (by simp; omega) (fun q h hq => by
      have hqD : q < D.length := by omega
      rw [List.getElem_append_left hqD]
      by_cases e' : q < k0 + i
      · exact hno q hqD e'
      · obtain rfl : q = k0 + i := by omega
        rw [hke]; exact hxt) n' rfl
    rw [hb, ← h10]
    refine Eq.trans ?_ h9
    simp (disch := omega) [lenLv, hi, IX62, getElem!_pos lv i hi, hl27, lenRefs, hw, i1]
    simp [hl27, lenRefs, hw, i1, hcmr, binEq, hxt, hc]
    done
theorem path_loop {p : List Mod} (S : Sm p) {f : Ref} (t : Ref) : ∀ (n k0 i : Nat) (D : List (Ref × List Ref)) (lv : List (List Ref)), DInv p f (k0 + i) D → LvOK D k0 lv → i ≤ lv.length → k0 + lv.length ≤ D.length → (idxP p).length ≤ k0 + i + n → (∀ q (h : q < D.length), q < k0 + i → D[q].1 ≠ t) →
    fixW (L9_1 (callW pg) fixW (fixW (L9_2 (callW pg) fixW))) [mods p, .ip [.str t.1, .str t.2], refsA (D.map (·.1)), refssA lv, refssA ((D.drop (k0 + lv.length)).map (·.2)), .int .i64 i] = M.pure (pathA (getK (bfsD (callL p) n (k0 + i) D) t)) := by
  intro n
  induction n using Nat.strongRecOn with
  | ind n ih =>
    have hA : ∀ (k0 i : Nat) (D : List (Ref × List Ref)) (lv : List (List Ref)), DInv p f (k0 + i) D → LvOK D k0 lv → i < lv.length → k0 + lv.length ≤ D.length → (idxP p).length ≤ k0 + i + n → (∀ q (h : q < D.length), q < k0 + i → D[q].1 ≠ t) →
        fixW (L9_1 (callW pg) fixW (fixW (L9_2 (callW pg) fixW))) [mods p, .ip [.str t.1, .str t.2], refsA (D.map (·.1)), refssA lv, refssA ((D.drop (k0 + lv.length)).map (·.2)), .int .i64 i] = M.pure (pathA (getK (bfsD (callL p) n (k0 + i) D) t)) := by
      intro k0 i D lv I hlv hi he hn hno
      exact path_at S t n k0 i (k0 + lv.length) D lv I hlv rfl hi hn hno fun D' h1 h2 h3 h4 n' hn' => ih n' (by omega) k0 (i + 1) D' lv h2 h1 (by omega) h3 (by omega) h4
    intro k0 i D lv I hlv hi he hn hno
    by_cases hlt : i < lv.length
    · exact hA k0 i D lv I hlv hlt he hn hno
    · obtain rfl : i = lv.length := by omega
      have hDl := I.len
      have h9 : fixW (L9_1 (callW pg) fixW (fixW (L9_2 (callW pg) fixW))) [mods p, .ip [.str t.1, .str t.2], refsA (D.map (·.1)), refssA lv, refssA ((D.drop (k0 + lv.length)).map (·.2)), .int .i64 lv.length] = fixW (L9_2 (callW pg) fixW) [mods p, .ip [.str t.1, .str t.2], refsA (D.map (·.1)), refssA ((D.drop (k0 + lv.length)).map (·.2))] := by
        rw [FL9_1]
        simp only [L9_1]
        simp [lenLv]
      rw [h9, FL9_2]
      simp only [L9_2, nth_zero, nth_succ, lenLv, bnd_some]
      by_cases hD : k0 + lv.length < D.length
      · have hlen : ((D.drop (k0 + lv.length)).map (·.2)).length = D.length - (k0 + lv.length) := by simp
        have h10 := hA (k0 + lv.length) 0 D ((D.drop (k0 + lv.length)).map (·.2)) I (fun i hi => by
          rw [hlen] at hi
          refine ⟨D[k0 + lv.length + i].1, ?_⟩
          rw [List.getElem?_eq_getElem (by omega)]
          simp) (by omega) (by omega) hn hno
        have hdr : D.drop (k0 + lv.length + ((D.drop (k0 + lv.length)).map (·.2)).length) = [] := List.drop_eq_nil_of_le (by omega)
        rw [hdr] at h10
        have h10' : fixW (L9_1 (callW pg) fixW (fixW (L9_2 (callW pg) fixW))) [mods p, .ip [.str t.1, .str t.2], refsA (D.map (·.1)), refssA ((D.drop (k0 + lv.length)).map (·.2)), .sl [], .int .i64 0] = M.pure (pathA (getK (bfsD (callL p) n (k0 + lv.length) D) t)) := h10
        have hpos : (0 : Int) < ((D.drop (k0 + lv.length)).map (·.2)).length := by omega
        simp only [bin_gtr, bnd_some, hpos, decide_true, condM_bool, if_true]
        exact h10'
      · have hDe : D.length = k0 + lv.length := by omega
        have hz : D.drop (k0 + lv.length) = [] := List.drop_eq_nil_of_le (by omega)
        have hb : bfsD (callL p) n (k0 + lv.length) D = D := by
          cases n with
          | zero => rfl
          | succ n => simp only [bfsD, List.getElem?_eq_none (show D.length ≤ k0 + lv.length by omega)]
        have hg : getK D t = none := getK_none.2 fun hm => by
          obtain ⟨e, he', rfl⟩ := List.mem_map.1 hm
          obtain ⟨q, hq, rfl⟩ := List.getElem_of_mem he'
          exact hno q hq (by omega) rfl
        rw [hb, hg, hz]
        simp [pathA]
        rfl
theorem t9 {p : List Mod} (S : Sm p) (f t : Ref) : callW pg 9 [mods p, refA f, refA t] = M.pure (pathA (pathR p f t)) := by
  rw [C9]
  simp only [cl_mods, cl_ref]
  have h1 := t27 S f
  have hB1 : ∀ x : Ref, buildSliceA T 27 1 [(0, refA x)] = some (refsA [x]) := fun x => rfl
  have hBs : ∀ c : List Ref, buildSliceA T 62 1 [(0, refsA c)] = some (refssA [c]) := fun c => rfl
  have h : S9 (callW pg) fixW (mods p) (refA f) (refA t) = M.pure (pathA (pathR p f t)) := by
    cases hf : findR p f with
    | none =>
      rw [hf] at h1
      have : pathR p f t = none := by unfold pathR reachD; rw [hf]; rfl
      rw [this]
      simp [S9, h1, findA, pathA]
      rfl
    | some g =>
      rw [hf] at h1
      have hfs : (findR p f).isSome = true := by rw [hf]; rfl
      have h2 := path_loop S t ((idxP p).length + 1) 0 0 [(f, [f])] [[f]] (DInv.zero hfs) (fun i hi => by
        have hi' : i < 1 := hi
        obtain rfl : i = 0 := by omega
        exact ⟨f, rfl⟩) (by simp) (by simp) (by omega) (fun q h hq => by omega)
      have h2' : fixW (L9_1 (callW pg) fixW (fixW (L9_2 (callW pg) fixW))) [mods p, .ip [.str t.1, .str t.2], refsA [f], refssA [[f]], .sl [], .int .i64 0] = M.pure (pathA (getK (bfsD (callL p) ((idxP p).length + 1) 0 [(f, [f])]) t)) := h2
      have h3 : pathR p f t = getK (bfsD (callL p) ((idxP p).length + 1) 0 [(f, [f])]) t := by unfold pathR reachD; rw [if_pos hfs]
      have h4 : fixW (L9_2 (callW pg) fixW) [mods p, .ip [.str t.1, .str t.2], refsA [f], refssA [[f]]] = fixW (L9_1 (callW pg) fixW (fixW (L9_2 (callW pg) fixW))) [mods p, .ip [.str t.1, .str t.2], refsA [f], refssA [[f]], .sl [], .int .i64 0] := by
        rw [FL9_2]
        simp only [L9_2]
        simp [lenLv]
      rw [h3, ← h2', ← h4]
      simp [S9, h1, findA, hB1, hBs]
  rw [h]
  exact isoP_pure (fun g => by cases pathR p f t <;> simp [pathA, cl, cls])
end Go.Proofs.Ytpnonheegflllaa
