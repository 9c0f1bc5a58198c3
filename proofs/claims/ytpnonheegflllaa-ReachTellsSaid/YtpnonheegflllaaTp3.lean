/- What is reached, in the order in which it is reached. No condition. -/
import Derived.Test.YtpnonheegflllaaTp2
import Derived.Test.YtpnonheegflllaaOps
import Derived.Test.YtpnonheegflllaaLd
namespace Go.Proofs.Ytpnonheegflllaa
open Go Go.Av Go.Av.Ap
set_option maxRecDepth 100000
structure Sm (p : List Mod) : Prop where
  len : p.length ≤ 1000000
  funcs : ∀ m ∈ p, m.funcs.length ≤ 1000000
  idx : (idxP p).length ≤ 1000000
  body : ∀ r, (bodyR p r).Lim
theorem Sm.calls {p : List Mod} (S : Sm p) (f : Ref) : (callL p f).length ≤ 1000000 := by
  have := len_le_of_sub (l := callL p f) (m := (idxP p).map (·.1)) (callL_nodup p f) (fun x hx => (idx_keys p x).2 (callL_in hx))
  have := S.idx
  simp at *
  omega
theorem Sm.found {p : List Mod} (S : Sm p) (f : Ref) : (found p f).length ≤ 1000000 := by
  have h1 := S.calls f
  have h2 : (callL p f).length = ((Ap.found p f).map (·.1)).length := (sortR_perm _).length_eq
  simp at h2
  omega
theorem set_mid (h : Hp) (x y : List AV) (J : Hp) : (h ++ x :: J).set h.length y = h ++ y :: J := by simp [List.set_append]
theorem look_ref {h : Hp} {l : Nat} {es : List (Ref × Ref)} (hl : h[l]? = some [.tup (es.map (entA refA))]) (k : Ref) : lookH T 54 (.mp l) (refA k) true h = .ok (.tup [refA ((getK es k).getD ([], [])), .bool (getK es k).isSome]) h := by
  obtain ⟨ei, h1, h2⟩ := zero24
  rw [lookH_ent mt54 h1 hl, h2]
  cases getK es k <;> rfl
theorem look_ref0 {h : Hp} {l : Nat} {es : List (Ref × Ref)} (hl : h[l]? = some [.tup (es.map (entA refA))]) (k : Ref) : lookH T 54 (.mp l) (refA k) false h = .ok (refA ((getK es k).getD ([], []))) h := by
  obtain ⟨ei, h1, h2⟩ := zero24
  rw [lookH_ent mt54 h1 hl, h2]
  cases getK es k <;> rfl
theorem pre_keys (D : List (Ref × List Ref)) : (D.map preR).map (·.1) = D.map (·.1) := by rw [List.map_map]; rfl
theorem getK_pre (D : List (Ref × List Ref)) (r : Ref) : (getK (D.map preR) r).isSome = decide (r ∈ D.map (·.1)) := by
  rw [← pre_keys]
  cases h : getK (D.map preR) r with
  | none => rw [decide_eq_false (getK_none.1 h)]; rfl
  | some v => rw [decide_eq_true (List.mem_map.2 ⟨_, getK_mem h, rfl⟩)]; rfl
theorem putK_new {V : Type} (l : List (Ref × V)) (k : Ref) (v : V) (h : k ∉ l.map (·.1)) : putK l k v = l ++ [(k, v)] := by
  induction l with
  | nil => rfl
  | cons x l ih =>
    simp only [List.map_cons, List.mem_cons, not_or] at h
    simp only [putK]
    rw [if_neg (fun e => h.1 e.symm), ih h.2]
    rfl
theorem cutRefs (x : Ref) (l : List Ref) : cutA T 27 (refsA (x :: l)) (some (.int .i64 1)) = some (refsA l) := by
  have : cutA T 27 (refsA (x :: l)) (some (.int .i64 1)) = sliceA T 27 (.sl ((x :: l).map refA)) (some (.int .i64 1)) none none := rfl
  rw [this, sliceA_lo (e := 24) rfl rfl rfl ((x :: l).map refA) (okSz_refs _) (n := 1) (by decide) (by simp; omega)]
  rfl
theorem ix0 (y : Ref) (l : List Ref) : indexAddrA T 27 (refsA (y :: l)) (.int .i64 0) = some (.ip (acells (refA y))) := by
  rw [IX27 (by omega) (by simp <;> omega)]
  rfl
theorem rowD_get (h : Hp) (D : List (Ref × List Ref)) (J : Hp) : (h ++ rowD D :: J)[h.length]? = some [.tup ((D.map preR).map (entA refA))] := by simp [rowD]
theorem rowD_add (h : Hp) (D : List (Ref × List Ref)) (J : Hp) (c : List Ref) (r y : Ref) (hc : c.getLast? = some y) (hr : r ∉ D.map (·.1)) : putH T 54 (.mp h.length) (refA r) (refA y) (h ++ rowD D :: J) = .ok (.tup []) (h ++ rowD (D ++ [(r, c ++ [r])]) :: J) := by
  rw [putH_ent mt54 (rowD_get h D J), set_mid, putK_new _ _ _ (by rw [pre_keys]; exact hr)]
  simp only [rowD, List.map_append, List.map_cons, List.map_nil, preR_cons c r y hc]
theorem loop24 (la : Nat) (h : Hp) (J : Hp) (l : List Ref) (y : Ref) (c : List Ref) (hc : c.getLast? = some y) (k : Nat) (K : List AV → M AV) : ∀ (n : Nat) (i : Int) (D : List (Ref × List Ref)), l.length - i.toNat = n → 0 ≤ i → i ≤ l.length → k ≤ D.length → D.length + n ≤ 4000000 → l.length ≤ 4000000 →
    fixW (L24_0 (callW pg) fixW K) [.mp la, .mp h.length, refsA (y :: (D.map (·.1)).drop k), refsA l, .int .i64 l.length, .int .i64 i] (h ++ rowD D :: J) =
      K [.mp la, .mp h.length, refsA ((((l.drop i.toNat).foldl (stepD c) D).map (·.1)).drop k)] (h ++ rowD ((l.drop i.toNat).foldl (stepD c) D) :: J) := by
  intro n
  induction n with
  | zero =>
    intro i D hn hi hb _ _ _
    rw [FL24_0]
    simp only [L24_0]
    have h1 : ¬ (i < (l.length : Int)) := by omega
    have h2 : l.drop i.toNat = [] := List.drop_eq_nil_of_le (by omega)
    simp [h1, h2, cutRefs]
  | succ n IH =>
    intro i D hn hi hb hk hD hll
    have h1 : i < (l.length : Int) := by omega
    have hlt : i.toNat < l.length := by omega
    have h3 := look_ref (rowD_get h D J) l[i.toNat]
    rw [getK_pre] at h3
    have hcm : ∀ r, cellsM 2 (refA r) = M.pure (refA r) := fun r => by rw [cellsM_of (okEl_ref _), acells_ref, fold_ref]
    rw [FL24_0]
    simp only [L24_0]
    simp (disch := omega) [h1, wrap_in, IX27, getElem!_pos l i.toNat hlt, hcm]
    rw [bnd_ok h3]
    have hB : ∀ x : Ref, buildSliceA T 27 1 [(0, refA x)] = some (refsA [x]) := fun x => rfl
    by_cases hr : l[i.toNat] ∈ D.map (·.1)
    · have h4 := IH (i + 1) D (by omega) (by omega) (by omega) hk (by omega) hll
      rw [show (i + 1).toNat = i.toNat + 1 by omega] at h4
      have h5 : stepD c D l[i.toNat] = D := if_pos hr
      simp only [hr, decide_true]
      simp [hcm]
      rw [h4, List.drop_eq_getElem_cons hlt, List.foldl_cons, h5]
    · have h4 := IH (i + 1) (D ++ [(l[i.toNat], c ++ [l[i.toNat]])]) (by omega) (by omega) (by omega) (by simp; omega) (by simp; omega) hll
      rw [show (i + 1).toNat = i.toNat + 1 by omega] at h4
      have h5 : stepD c D l[i.toNat] = D ++ [(l[i.toNat], c ++ [l[i.toNat]])] := if_neg hr
      have h6 := rowD_add h D J c l[i.toNat] y hc hr
      have h7 : ((D ++ [(l[i.toNat], c ++ [l[i.toNat]])]).map (·.1)).drop k = (D.map (·.1)).drop k ++ [l[i.toNat]] := by
        rw [List.map_append, List.drop_append_of_le_length (by simpa using hk)]; rfl
      rw [h7] at h4
      simp only [hr, decide_false]
      simp [hcm]
      simp [ix0, hB]
      rw [bnd_ok h6]
      have h8 : appA T 27 (refsA (y :: (D.map (·.1)).drop k)) (refsA [l[i.toNat]]) = some (refsA (y :: ((D.map (·.1)).drop k ++ [l[i.toNat]]))) := by
        rw [AP27 (by simp; omega)]; rfl
      simp only [h8]
      simp
      rw [h4, List.drop_eq_getElem_cons hlt, List.foldl_cons, h5]
theorem loop24o {p : List Mod} (S : Sm p) {f : Ref} (la : Nat) (h : Hp) (ha : IsIdx p h la) : ∀ (n k : Nat) (D : List (Ref × List Ref)) (J : Hp), DInv p f k D → (idxP p).length ≤ k + n → k ≤ D.length →
    ∃ J' : Hp, J'.length + k = J.length + (bfsD (callL p) n k D).length ∧ fixW (L24_1 (callW pg) fixW) [.mp la, .mp h.length, refsA ((D.map (·.1)).drop k)] (h ++ rowD D :: J) = .ok (.mp h.length) (h ++ rowD (bfsD (callL p) n k D) :: J') := by
  have hla : la < h.length := (List.getElem?_eq_some_iff.1 ha).1
  intro n
  induction n with
  | zero =>
    intro k D J I hn hk
    have := I.len
    have h1 : (D.map (·.1)).drop k = [] := List.drop_eq_nil_of_le (by simp; omega)
    refine ⟨J, by simp only [bfsD]; omega, ?_⟩
    rw [h1, FL24_1]
    simp only [L24_1]
    simp [refsA]
    rfl
  | succ n IH =>
    intro k D J I hn hk
    cases hD : D[k]? with
    | none =>
      have h0 := List.getElem?_eq_none_iff.1 hD
      have h1 : (D.map (·.1)).drop k = [] := List.drop_eq_nil_of_le (by simp; omega)
      refine ⟨J, by simp only [bfsD, hD]; omega, ?_⟩
      rw [h1, FL24_1]
      simp only [L24_1, bfsD, hD]
      simp [refsA]
      rfl
    | some e =>
      obtain ⟨x, c⟩ := e
      obtain ⟨hlt, he⟩ := List.getElem?_eq_some_iff.1 hD
      have hI := S.idx
      have hIl := I.len
      have hcl := S.calls x
      have h1 : (D.map (·.1)).drop k = x :: (D.map (·.1)).drop (k + 1) := by
        rw [List.drop_eq_getElem_cons (by simpa using hlt)]
        simp [he]
      have hc := t28 (p := p) (h := h ++ rowD D :: J) (la := la) (by unfold IsIdx; rw [List.getElem?_append_left hla]; exact ha) x (S.body x) (S.found x)
      have hlast : c.getLast? = some x := I.last (List.mem_of_getElem? hD)
      have h2 := loop24 la h (J ++ [[.tup ((found p x).map (entA AV.bool))]]) (callL p x) x c hlast (k + 1) (fixW (L24_1 (callW pg) fixW)) (callL p x).length 0 D rfl (by omega) (by omega) (by omega) (by omega) (by omega)
      obtain ⟨J', hJ, h3⟩ := IH (k + 1) (D ++ newD (callL p) D x c) (J ++ [[.tup ((found p x).map (entA AV.bool))]]) (I.step hD) (by omega) (by simp; omega)
      refine ⟨J', by simp only [bfsD, hD]; simp at hJ; omega, ?_⟩
      have hdr : (callL p x).drop (0 : Int).toNat = callL p x := rfl
      rw [hdr, newD_eq _ _ _ _ (callL_nodup p x), h3] at h2
      rw [h1, FL24_1]
      simp only [L24_1, bfsD, hD]
      have hpos : (0 : Int) < ((D.map (·.1)).drop (k + 1)).length + 1 := by omega
      simp [ix0]
      rw [bnd_ok hc]
      have hj : (h ++ rowD D :: J) ++ [[.tup ((found p x).map (entA AV.bool))]] = h ++ rowD D :: (J ++ [[.tup ((found p x).map (entA AV.bool))]]) := by simp
      rw [hj]
      have hlen : lenA T 27 (refsA (callL p x)) = some (.int .i64 (callL p x).length) := by simp [refsA]
      simp only [hlen]
      simp
      exact h2
theorem t24 {p : List Mod} (S : Sm p) {h : Hp} {la : Nat} (ha : IsIdx p h la) (f : Ref) :
    ∃ J : Hp, J.length = (reachD p f).length ∧ callW pg 24 [.mp la, refA f] h = if (findR p f).isSome = true then .ok (.mp h.length) (h ++ rowD (reachD p f) :: J) else .ok .nilm h := by
  have hla : la < h.length := (List.getElem?_eq_some_iff.1 ha).1
  have h1 := look_fun ha f true
  by_cases hf : (findR p f).isSome = true
  · obtain ⟨J, hJ, h2⟩ := loop24o S la h ha ((idxP p).length + 1) 0 [(f, [f])] [] (DInv.zero hf) (by omega) (by simp)
    have h3 : reachD p f = bfsD (callL p) ((idxP p).length + 1) 0 [(f, [f])] := if_pos hf
    refine ⟨J, by rw [h3]; simpa using hJ, ?_⟩
    rw [if_pos hf]
    rw [h3, C24]
    simp [S24]
    rw [bnd_ok h1]
    simp [hf]
    rw [bnd_ok (m := newMapH) (h := h) rfl]
    have h4 := putH_ent (f := refA) (h := h ++ [[.tup []]]) (l := h.length) (es := []) mt54 (by simp) f f
    rw [bnd_ok h4]
    have hB : buildSliceA T 27 1 [(0, refA f)] = some (refsA [f]) := rfl
    have h5 : (h ++ [[AV.tup []]]).set h.length [.tup ((putK [] f f).map (entA refA))] = h ++ rowD [(f, [f])] :: [] := by
      rw [set_mid]
      rfl
    simp only [hB]
    rw [h5]
    exact h2
  · refine ⟨[], by unfold reachD; rw [if_neg hf]; rfl, ?_⟩
    rw [if_neg hf]
    have hf' : (findR p f).isSome = false := by simpa using hf
    rw [C24]
    simp [S24]
    rw [bnd_ok h1]
    simp [hf']
    rfl
end Go.Proofs.Ytpnonheegflllaa
