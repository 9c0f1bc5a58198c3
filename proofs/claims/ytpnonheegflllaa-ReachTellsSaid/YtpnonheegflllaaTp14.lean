/- The reference: put, within, Calls, acts. No condition. -/
import Derived.Test.YtpnonheegflllaaTp13
namespace Go.Proofs.Ytpnonheegflllaa
open Go Go.Av Go.Av.Ap
set_option maxRecDepth 100000
theorem apR {a b : List Ref} (h : a.length + b.length ≤ 4000000) : appA T 27 (refsA a) (refsA b) = some (refsA (a ++ b)) := AP27 (by omega)
theorem slR (l : List Ref) (n : Nat) (h : n ≤ l.length) : sliceA T 27 (refsA l) (some (.int .i64 n)) none none = some (refsA (l.drop n)) := by
  unfold refsA
  rw [sliceA_lo (e := 24) rfl rfl rfl (l.map refA) (okSz_refs l) (n := n) (by omega) (by simp; omega)]
  simp
theorem loopPut (l : List Ref) (r : Ref) (hl : l.length ≤ 3000000) : ∀ (n k : Nat), l.length - k = n → k ≤ l.length → (∀ i (h : i < k) (hl : i < l.length), ltR l[i] r = true) →
    fixW (L33_0 (callW pg) fixW) [refsA l, .ip [.str r.1, .str r.2], refsA (l.take k), .int .i64 k] = M.pure (refsA (putL l r)) := by
  intro n
  have hB1 : ∀ x : Ref, buildSliceA T 27 1 [(0, refA x)] = some (refsA [x]) := fun x => rfl
  induction n with
  | zero =>
    intro k hn hk hall
    obtain rfl : k = l.length := by omega
    have h1 := put_split r l l.length hall (by omega) (fun h => by omega)
    rw [dif_neg (by omega)] at h1
    have h2 := slR l l.length (by omega)
    rw [h1, FL33_0]
    simp only [L33_0, K33_0]
    have a1 := apR (a := l.take l.length) (b := [r]) (by simp; omega)
    have a2 := apR (a := l ++ [r]) (b := l.drop l.length) (by simp; omega)
    simp only [List.take_length, List.drop_length] at a1 a2 h2 ⊢
    simp [lenRefs, hB1, a1, h2, a2, K33_0]
  | succ n ih =>
    intro k hn hk hall
    have hlt : k < l.length := by omega
    have hb := t48 l[k] r
    by_cases hc : ltR l[k] r = true
    · rw [hc] at hb
      have h4 := ih (k + 1) (by omega) (by omega) (fun i h hl => by
        by_cases e : i < k
        · exact hall i e hl
        · obtain rfl : i = k := by omega
          exact hc)
      have h5 : l.take (k + 1) = l.take k ++ [l[k]] := by rw [List.take_add_one, List.getElem?_eq_getElem hlt]; rfl
      have a1 := apR (a := l.take k) (b := [l[k]]) (by simp; omega)
      rw [← h5] at a1
      have h4' : fixW (L33_0 (callW pg) fixW) [refsA l, .ip [.str r.1, .str r.2], refsA (l.take (k + 1)), .int .i64 ((k : Int) + 1)] = M.pure (refsA (putL l r)) := h4
      rw [FL33_0]
      simp only [L33_0]
      simp (disch := omega) [lenRefs, hlt, IX27, getElem!_pos l k hlt, wrap_in, hb, hB1, a1]
      exact h4'
    · have hc' : ltR l[k] r = false := by simpa using hc
      rw [hc'] at hb
      have h1 := put_split r l k hall hk (fun _ _ => hc')
      rw [dif_pos hlt] at h1
      have a1 := apR (a := l.take k) (b := [r]) (by simp; omega)
      have a2 := apR (a := l.take k ++ [r]) (b := l.drop k) (by simp; omega)
      have a3 := apR (a := l.take k ++ [r]) (b := l.drop (k + 1)) (by simp; omega)
      have s2 := slR l k (by omega)
      have s3 := slR l (k + 1) (by omega)
      have s3' : sliceA T 27 (refsA l) (some (.int .i64 ((k : Int) + 1))) none none = some (refsA (l.drop (k + 1))) := s3
      rw [h1, FL33_0]
      simp only [L33_0, K33_0]
      by_cases he : l[k] = r
      · have be := binEq l[k] r
        rw [decide_eq_true he] at be
        simp (disch := omega) [lenRefs, hlt, IX27, getElem!_pos l k hlt, wrap_in, hb, hB1, a1, be]
        simp [s3', a3, he, K33_0]
      · have be := binEq l[k] r
        rw [decide_eq_false he] at be
        simp (disch := omega) [lenRefs, hlt, IX27, getElem!_pos l k hlt, wrap_in, hb, hB1, a1, be]
        simp [s2, a2, he, K33_0]
theorem t33 (l : List Ref) (r : Ref) (hl : l.length ≤ 3000000) : callW pg 33 [refsA l, refA r] = M.pure (refsA (putL l r)) := by
  rw [C33]
  have h := loopPut l r hl _ 0 rfl (by omega) (fun i h => by omega)
  have h' : fixW (L33_0 (callW pg) fixW) [refsA l, .ip [.str r.1, .str r.2], .sl [], .int .i64 0] = _ := h
  simp only [cl_refs, cl_ref, S33, acells_ref]
  rw [h']
  exact isoP_pure (clean_refs _)
def WithinOK (p : List Mod) (f : Ref) (e : Exp) : Prop := ∀ o, GoodO p o → callW pg 29 [mods p, .str f.1, e.av, refsA o] = M.pure (refsA ((nodesL e).foldl (stepW p f) o))
theorem loopW {p : List Mod} (S : Sm p) (f : Ref) (e : Exp) (hL : e.Lim) (ih : ∀ x ∈ e.args, WithinOK p f x) : ∀ (n j : Nat) (o : List Ref), e.args.length - j = n → j ≤ e.args.length → GoodO p o →
    fixW (L29_0 (callW pg) fixW) [mods p, .str f.1, refsA o, .ip (acells e.av), .int .i64 j] = M.pure (refsA (((e.args.drop j).flatMap nodesL).foldl (stepW p f) o)) := by
  have hlen := hL.len
  intro n
  induction n with
  | zero =>
    intro j o hn hj ho
    have h1 : ¬ j < e.args.length := by omega
    have h2 : e.args.drop j = [] := List.drop_eq_nil_of_le (by omega)
    rw [FL29_0]
    simp only [L29_0, h2]
    simp [h1]
  | succ n IH =>
    intro j o hn hj ho
    have hlt : j < e.args.length := by omega
    have h5 : e.args.drop j = e.args[j] :: e.args.drop (j + 1) := List.drop_eq_getElem_cons hlt
    have h3 := ih _ (List.getElem_mem hlt) o ho
    have h4 := IH (j + 1) ((nodesL e.args[j]).foldl (stepW p f) o) (by omega) (by omega) (GoodO.fold _ ho)
    rw [h5, List.flatMap_cons, List.foldl_append]
    refine Eq.trans ?_ h4
    rw [FL29_0]
    simp only [L29_0]
    simp (disch := omega) [hlt, IX37, getElem!_pos e.args j hlt, wrap_in, h3]
theorem t29 {p : List Mod} (S : Sm p) (f : Ref) : ∀ (N : Nat) (e : Exp), SizeOf.sizeOf e ≤ N → e.Lim → WithinOK p f e := by
  intro N
  induction N with
  | zero => intro e he; cases e; simp at he
  | succ N ih =>
    intro e he hL o ho
    have hs := ho.step (f := f) e
    have h1 := loopW S f e hL (fun x hx => ih x (by have := arg_size hx; omega) (hL.kid hx)) _ 0 (stepW p f o e) rfl (by omega) hs
    have h2 := t27 S (tgt f e)
    have hol := ho.len
    have hidx := S.idx
    have h3 := t33 o (tgt f e) (by omega)
    have hB : ∀ x y : Str, buildA T false 24 [(0, .str x), (1, .str y)] = some (refA (x, y)) := fun x y => rfl
    have hcn : ∀ r, cellsNil 2 [] (refA r) = M.pure (refA r) := fun r => by rw [cellsNil_of (okEl_ref _), acells_ref, fold_ref]
    have hc1 : ∀ s : Str, cell1M (.str s) = M.pure (.str s) := fun _ => rfl
    rw [C29, nodesL_eq, List.foldl_cons]
    simp only [cl_mods, cl_refs, cl_exp]
    have hz : ((0 : Nat) : Int) = 0 := rfl
    rw [hz, List.drop_zero] at h1
    have hK : ∀ V : List AV → M AV, K29_1 (callW pg) fixW V [mods p, .str f.1, refsA o, .ip (acells e.av), .str (tgt f e).1, .str (tgt f e).2] = V [mods p, .str f.1, refsA (if (match findR p (tgt f e) with | some g => e.m == [] || g.pub | none => false) = true then putL o (tgt f e) else o), .ip (acells e.av)] := by
      intro V
      simp only [K29_1]
      cases hf : findR p (tgt f e) with
      | none =>
        rw [hf] at h2
        simp [h2, findA]
      | some g =>
        rw [hf] at h2
        by_cases hm : e.m = []
        · simp [h2, findA, hm, h3]
        · have hm' : (e.m == []) = false := beq_eq_false_iff_ne.2 hm
          cases hp : g.pub
          · simp [h2, findA, hm', hp, h3]
          · simp [h2, findA, hm', hp, h3]
    have key : S29 (callW pg) fixW (mods p) (.str f.1) e.av (refsA o) = fixW (L29_0 (callW pg) fixW) [mods p, .str f.1, refsA (stepW p f o e), .ip (acells e.av), .int .i64 0] := by
      have hK' := hK (K29_0 (callW pg) fixW)
      simp only [acells_exp] at hK'
      unfold stepW callB
      by_cases ho : e.op = 15
      · by_cases hm : e.m = []
        · have ht : tgt f e = (f.1, e.s) := by unfold tgt; rw [if_pos hm]
          rw [ht] at hK' ⊢
          simp only [S29]
          simp [hB, hcn, hc1, ho, hm]
          simp [ho, hm] at hK'
          rw [hK']
          simp [K29_0]
          cases findR p (f.1, e.s) <;> rfl
        · have ht : tgt f e = (e.m, e.s) := by unfold tgt; rw [if_neg hm]
          rw [ht] at hK' ⊢
          simp only [S29]
          simp [hB, hcn, hc1, ho, hm]
          simp [ho, hm] at hK'
          rw [hK']
          simp [K29_0]
          cases findR p (e.m, e.s) <;> rfl
      · simp only [S29]
        simp [hB, hcn, hc1, ho, K29_0]
    show isoP (S29 (callW pg) fixW (mods p) (.str f.1) e.av (refsA o)) = _
    rw [key, h1]
    exact isoP_pure (clean_refs _)
end Go.Proofs.Ytpnonheegflllaa
