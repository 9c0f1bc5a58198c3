/- The reference: Calls, acts, All, Effects. No condition. -/
import Derived.Test.YtpnonheegflllaaTp14
namespace Go.Proofs.Ytpnonheegflllaa
open Go Go.Av Go.Av.Ap
set_option maxRecDepth 100000
theorem t12 {p : List Mod} (S : Sm p) (f : Ref) : callW pg 12 [mods p, refA f] = M.pure (refsA (callL p f)) := by
  rw [C12]
  simp only [cl_mods, cl_ref]
  have h1 := t27 S f
  have h : S12 (callW pg) fixW (mods p) (refA f) = M.pure (refsA (callL p f)) := by
    cases hf : findR p f with
    | none =>
      rw [hf] at h1
      rw [callL_none hf]
      simp [S12, h1, findA]
      rfl
    | some g =>
      rw [hf] at h1
      have h2 := t29 S f _ (bodyR p f) (Nat.le_refl _) (S.body f) [] (goodO_nil p)
      rw [stepW_calls] at h2
      have hb : bodyR p f = g.body := by unfold bodyR; rw [hf]; rfl
      rw [hb] at h2
      have h2' : callW pg 29 [mods p, .str f.1, g.body.av, .sl []] = _ := h2
      simp [S12, h1, findA, h2']
  rw [h]
  exact isoP_pure (clean_refs _)
def actsB (e : Exp) : BitVec 64 := (nodesL e).foldl orS 0#64
theorem acts_from (e : Exp) (s : BitVec 64) : (nodesL e).foldl orS s = s ||| actsB e := foldl_or effN _ s
def ActsOK (e : Exp) : Prop := callW pg 36 [e.av] = M.pure (sA (actsB e))
theorem loopActs (e : Exp) (hL : e.Lim) (ih : ∀ x ∈ e.args, ActsOK x) : ∀ (n j : Nat) (s : BitVec 64), e.args.length - j = n → j ≤ e.args.length →
    fixW (L36_0 (callW pg) fixW) [.ip (acells e.av), sA s, .int .i64 j] = M.pure (sA (((e.args.drop j).flatMap nodesL).foldl orS s)) := by
  have hlen := hL.len
  intro n
  induction n with
  | zero =>
    intro j s hn hj
    have h1 : ¬ j < e.args.length := by omega
    have h2 : e.args.drop j = [] := List.drop_eq_nil_of_le (by omega)
    rw [FL36_0]
    simp only [L36_0, h2]
    simp [h1]
  | succ n IH =>
    intro j s hn hj
    have hlt : j < e.args.length := by omega
    have h5 : e.args.drop j = e.args[j] :: e.args.drop (j + 1) := List.drop_eq_getElem_cons hlt
    have h3 : callW pg 36 [e.args[j].av] = _ := ih _ (List.getElem_mem hlt)
    have h4 := IH (j + 1) (s ||| actsB e.args[j]) (by omega) (by omega)
    rw [h5, List.flatMap_cons, List.foldl_append, acts_from]
    refine Eq.trans ?_ h4
    rw [FL36_0]
    simp only [L36_0]
    simp (disch := omega) [hlt, IX37, getElem!_pos e.args j hlt, wrap_in, h3, sA_or]
theorem t36 : ∀ (N : Nat) (e : Exp), SizeOf.sizeOf e ≤ N → e.Lim → ActsOK e := by
  intro N
  induction N with
  | zero => intro e he; cases e; simp at he
  | succ N ih =>
    intro e he hL
    have h1 := loopActs e hL (fun x hx => ih x (by have := arg_size hx; omega) (hL.kid hx)) _ 0 (effN e) rfl (by omega)
    have hz : ((0 : Nat) : Int) = 0 := rfl
    rw [hz, List.drop_zero] at h1
    unfold ActsOK
    rw [C36]
    simp only [cl_exp]
    have he0 : actsB e = (e.args.flatMap nodesL).foldl orS (effN e) := by
      unfold actsB
      rw [nodesL_eq, List.foldl_cons]
      show _ = _
      unfold orS
      rw [BitVec.zero_or]
    have key : S36 (callW pg) fixW e.av = fixW (L36_0 (callW pg) fixW) [.ip (acells e.av), sA (effN e), .int .i64 0] := by
      unfold effN
      have h0 : sA 0#64 = .int .i64 0 := rfl
      by_cases ho : e.op = 16
      · simp [S36, K36_0, ho, sA_and]
      · simp [S36, K36_0, ho, h0]
    rw [key, h1, he0]
    exact isoP_pure (fun _ => rfl)
def AllOf (D : List (Ref × List Ref)) (A : List Ref) : Prop := Ord A ∧ ∀ x, x ∈ A ↔ x ∈ D.map (·.1)
theorem AllOf.len {D : List (Ref × List Ref)} {A : List Ref} (h : AllOf D A) : A.length ≤ D.length := by
  have := len_le_of_sub (l := A) (m := D.map (·.1)) (ord_nodup h.1) (fun x hx => (h.2 x).1 hx)
  simpa using this
theorem loopAll0 (p : List Mod) (l : List Ref) (hl : l.length ≤ 1000000) (c : List Ref) (K : List AV → M AV) (i : Nat) (hi : i ≤ 1000000) : ∀ (n j : Nat) (D : List (Ref × List Ref)) (A : List Ref), l.length - j = n → j ≤ l.length → D.length + n ≤ 3000000 → AllOf D A →
    ∃ A', AllOf ((l.drop j).foldl (stepD c) D) A' ∧ fixW (L14_0 (callW pg) fixW K) [mods p, refsA (D.map (·.1)), refsA A, .int .i64 i, refsA l, .int .i64 j] = K [mods p, refsA (((l.drop j).foldl (stepD c) D).map (·.1)), refsA A', .int .i64 ((i + 1 : Nat) : Int)] := by
  intro n
  induction n with
  | zero =>
    intro j D A hn hj hD hA
    have h1 : ¬ j < l.length := by omega
    have h2 : l.drop j = [] := List.drop_eq_nil_of_le (by omega)
    refine ⟨A, by rw [h2]; exact hA, ?_⟩
    rw [FL14_0]
    simp only [L14_0, h2]
    simp (disch := omega) [lenRefs, h1, wrap_in]
  | succ n IH =>
    intro j D A hn hj hD hA
    have hlt : j < l.length := by omega
    have h5 : l.drop j = l[j] :: l.drop (j + 1) := List.drop_eq_getElem_cons hlt
    have hAl := hA.len
    have h3 := t19 A l[j] (by omega)
    have hB1 : ∀ x : Ref, buildSliceA T 27 1 [(0, refA x)] = some (refsA [x]) := fun x => rfl
    by_cases hm : l[j] ∈ A
    · have hmD := (hA.2 _).1 hm
      rw [decide_eq_true hm] at h3
      have hst : stepD c D l[j] = D := if_pos hmD
      obtain ⟨A', a1, a2⟩ := IH (j + 1) D A (by omega) (by omega) (by omega) hA
      refine ⟨A', by rw [h5, List.foldl_cons, hst]; exact a1, ?_⟩
      rw [h5, List.foldl_cons, hst]
      refine Eq.trans ?_ a2
      rw [FL14_0]
      simp only [L14_0]
      simp (disch := omega) [lenRefs, hlt, IX27, getElem!_pos l j hlt, wrap_in, h3, K14_0]
    · have hmD : l[j] ∉ D.map (·.1) := fun h => hm ((hA.2 _).2 h)
      rw [decide_eq_false hm] at h3
      have hst : stepD c D l[j] = D ++ [(l[j], c ++ [l[j]])] := if_neg hmD
      have hA2 : AllOf (D ++ [(l[j], c ++ [l[j]])]) (putL A l[j]) := ⟨putL_ord _ hA.1, fun x => by
        rw [mem_putL, hA.2, List.map_append, List.mem_append]
        simp [or_comm]⟩
      have h6 := t33 A l[j] (by omega)
      have a3 := apR (a := D.map (·.1)) (b := [l[j]]) (by simp; omega)
      obtain ⟨A', a1, a2⟩ := IH (j + 1) (D ++ [(l[j], c ++ [l[j]])]) (putL A l[j]) (by omega) (by omega) (by simp; omega) hA2
      refine ⟨A', by rw [h5, List.foldl_cons, hst]; exact a1, ?_⟩
      rw [h5, List.foldl_cons, hst]
      refine Eq.trans ?_ a2
      rw [FL14_0]
      simp only [L14_0]
      simp (disch := omega) [lenRefs, hlt, IX27, getElem!_pos l j hlt, wrap_in, h3, h6, hB1, a3, K14_0]
theorem loopAll1 {p : List Mod} (S : Sm p) {f : Ref} : ∀ (n k : Nat) (D : List (Ref × List Ref)) (A : List Ref), DInv p f k D → AllOf D A → (idxP p).length ≤ k + n → k ≤ D.length →
    fixW (L14_1 (callW pg) fixW) [mods p, refsA (D.map (·.1)), refsA A, .int .i64 k] = M.pure (refsA (sortR ((bfsD (callL p) n k D).map (·.1)))) := by
  have hI := S.idx
  have hfin : ∀ (D : List (Ref × List Ref)) (A : List Ref) k, DInv p f k D → AllOf D A → A = sortR (D.map (·.1)) := fun D A k I hA =>
    ord_eq hA.1 (sortR_ord I.nodup) fun x => by rw [hA.2, (sortR_perm _).mem_iff]
  intro n
  induction n with
  | zero =>
    intro k D A I hA hn hk
    have := I.len
    have h1 : ¬ k < D.length := by omega
    rw [FL14_1]
    simp only [L14_1, bfsD]
    rw [← hfin D A k I hA]
    simp [lenRefs, h1]
  | succ n IH =>
    intro k D A I hA hn hk
    have hDl := I.len
    cases hD : D[k]? with
    | none =>
      have h0 := List.getElem?_eq_none_iff.1 hD
      have h1 : ¬ k < D.length := by omega
      rw [FL14_1]
      simp only [L14_1, bfsD, hD]
      rw [← hfin D A k I hA]
      simp [lenRefs, h1]
    | some e =>
      obtain ⟨x, c⟩ := e
      obtain ⟨hlt, he⟩ := List.getElem?_eq_some_iff.1 hD
      have hcl := S.calls x
      have hc := t12 S x
      obtain ⟨A', a1, a2⟩ := loopAll0 p (callL p x) hcl c (fixW (L14_1 (callW pg) fixW)) k (by omega) _ 0 D A rfl (by omega) (by omega) hA
      rw [List.drop_zero, newD_eq _ _ _ _ (callL_nodup p x)] at a1 a2
      have h3 := IH (k + 1) _ A' (I.step hD) a1 (by omega) (by simp; omega)
      have hk' : k < (D.map (·.1)).length := by simpa using hlt
      have hx : (D.map (·.1))[k] = x := by simp [he]
      simp only [bfsD, hD]
      rw [← h3]
      refine Eq.trans ?_ a2
      rw [FL14_1]
      simp only [L14_1]
      simp (disch := omega) [lenRefs, hlt, IX27, he, hc]
      done
end Go.Proofs.Ytpnonheegflllaa
