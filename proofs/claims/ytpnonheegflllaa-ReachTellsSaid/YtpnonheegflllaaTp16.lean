/- The reference: All, Effects, Users. No condition. -/
import Derived.Test.YtpnonheegflllaaTp15
namespace Go.Proofs.Ytpnonheegflllaa
open Go Go.Av Go.Av.Ap
set_option maxRecDepth 100000
theorem t14 {p : List Mod} (S : Sm p) (f : Ref) : callW pg 14 [mods p, refA f] = M.pure (refsA (allL p f)) := by
  rw [C14]
  simp only [cl_mods, cl_ref]
  have h1 := t27 S f
  have hB1 : ∀ x : Ref, buildSliceA T 27 1 [(0, refA x)] = some (refsA [x]) := fun x => rfl
  have h : S14 (callW pg) fixW (mods p) (refA f) = M.pure (refsA (allL p f)) := by
    cases hf : findR p f with
    | none =>
      rw [hf] at h1
      have : allL p f = [] := by unfold allL reachD; rw [hf]; rfl
      rw [this]
      simp [S14, h1, findA]
      rfl
    | some g =>
      rw [hf] at h1
      have hfs : (findR p f).isSome = true := by rw [hf]; rfl
      have h2 := loopAll1 S ((idxP p).length + 1) 0 [(f, [f])] [f] (DInv.zero hfs) ⟨List.pairwise_singleton _ _, fun x => by simp⟩ (by omega) (by simp)
      have h3 : allL p f = sortR ((bfsD (callL p) ((idxP p).length + 1) 0 [(f, [f])]).map (·.1)) := by unfold allL reachD; rw [if_pos hfs]
      rw [h3, ← h2]
      simp [S14, h1, findA, hB1]
  rw [h]
  exact isoP_pure (clean_refs _)
theorem loopEff {p : List Mod} (S : Sm p) (l : List Ref) (hl : l.length ≤ 1000000) : ∀ (n i : Nat) (s : BitVec 64), l.length - i = n → i ≤ l.length →
    fixW (L16_0 (callW pg) fixW) [mods p, refsA l, sA s, .int .i64 i] = M.pure (sA (orQ (effB p) s (l.drop i))) := by
  intro n
  induction n with
  | zero =>
    intro i s hn hi
    have h1 : ¬ i < l.length := by omega
    have h2 : l.drop i = [] := List.drop_eq_nil_of_le (by omega)
    rw [FL16_0]
    simp only [L16_0, h2]
    simp [lenRefs, h1, orQ]
  | succ n ih =>
    intro i s hn hi
    have hlt : i < l.length := by omega
    have h5 : l.drop i = l[i] :: l.drop (i + 1) := List.drop_eq_getElem_cons hlt
    have h1 := t27 S l[i]
    have h2 : callW pg 36 [(bodyR p l[i]).av] = M.pure (sA (effB p l[i])) := t36 _ _ (Nat.le_refl _) (S.body l[i])
    have h3 : bodyR p l[i] = ((findR p l[i]).getD zeroF).body := rfl
    rw [h3] at h2
    have h4 := ih (i + 1) (s ||| effB p l[i]) (by omega) (by omega)
    rw [h5]
    refine Eq.trans ?_ h4
    rw [FL16_0]
    simp only [L16_0]
    simp (disch := omega) [lenRefs, hlt, IX27, getElem!_pos l i hlt, wrap_in, h1, findA]
    simp [h2, sA_or]
theorem t16 {p : List Mod} (S : Sm p) (f : Ref) : callW pg 16 [mods p, refA f] = M.pure (sA (effS p f)) := by
  rw [C16]
  simp only [cl_mods, cl_ref]
  have h1 := t14 S f
  have h2 := loopEff S (allL p f) (all_len S f) _ 0 0#64 rfl (by omega)
  have h2' : fixW (L16_0 (callW pg) fixW) [mods p, refsA (allL p f), .int .i64 0, .int .i64 0] = _ := h2
  have h3 : orQ (effB p) 0#64 (allL p f) = effS p f := orQ_perm _ (sortR_perm _) _
  have h : S16 (callW pg) fixW (mods p) (refA f) = M.pure (sA (effS p f)) := by
    rw [List.drop_zero, h3] at h2'
    simp [S16, h1, h2']
  rw [h]
  exact isoP_pure (fun _ => rfl)
def stepU (p : List Mod) (f : Ref) (o : List Ref) (r : Ref) : List Ref := if useR p f r = true ∧ r ∉ o then putL o r else o
def GoodU (p : List Mod) (f : Ref) (o : List Ref) : Prop := Ord o ∧ ∀ x ∈ o, x ∈ usersL p f
theorem GoodU.len {p : List Mod} {f : Ref} {o : List Ref} (S : Sm p) (h : GoodU p f o) : o.length ≤ 1000000 := by
  have := len_le_of_sub (ord_nodup h.1) h.2
  have := users_len S f
  omega
theorem GoodU.step {p : List Mod} {f : Ref} {o : List Ref} (h : GoodU p f o) (r : Ref) : GoodU p f (stepU p f o r) := by
  unfold stepU
  split
  · rename_i hc
    refine ⟨putL_ord r h.1, fun x hx => ?_⟩
    rcases (mem_putL r x o).1 hx with rfl | hx
    · exact of_decide_eq_true hc.1
    · exact h.2 x hx
  · exact h
theorem GoodU.fold {p : List Mod} {f : Ref} : ∀ (l : List Ref) {o : List Ref}, GoodU p f o → GoodU p f (l.foldl (stepU p f) o)
  | [], _, h => h
  | r :: l, _, h => GoodU.fold l (h.step r)
theorem mem_stepU {p : List Mod} {f x : Ref} : ∀ (l : List Ref) (o : List Ref), x ∈ l.foldl (stepU p f) o ↔ (x ∈ l ∧ useR p f x = true) ∨ x ∈ o
  | [], o => by simp
  | r :: l, o => by
    rw [List.foldl_cons, mem_stepU l, List.mem_cons]
    unfold stepU
    by_cases hc : useR p f r = true ∧ r ∉ o
    · rw [if_pos hc, mem_putL]
      constructor
      · rintro (h | rfl | h)
        · exact .inl ⟨.inr h.1, h.2⟩
        · exact .inl ⟨.inl rfl, hc.1⟩
        · exact .inr h
      · rintro (⟨rfl | h1, h2⟩ | h)
        · exact .inr (.inl rfl)
        · exact .inl ⟨h1, h2⟩
        · exact .inr (.inr h)
    · rw [if_neg hc]
      constructor
      · rintro (h | h)
        · exact .inl ⟨.inr h.1, h.2⟩
        · exact .inr h
      · rintro (⟨rfl | h1, h2⟩ | h)
        · by_cases ho : x ∈ o
          · exact .inr ho
          · exact absurd ⟨h2, ho⟩ hc
        · exact .inl ⟨h1, h2⟩
        · exact .inr h
theorem fold_users (p : List Mod) (f : Ref) : (allR p).foldl (stepU p f) [] = usersL p f := by
  refine ord_eq (GoodU.fold _ ⟨List.Pairwise.nil, fun x hx => by cases hx⟩).1 ?_ fun x => ?_
  · have hn := users_nodup p f
    unfold usersL at hn ⊢
    exact sortR_ord ((sortR_perm _).nodup_iff.1 hn)
  · rw [mem_stepU]
    constructor
    · rintro (⟨_, h⟩ | h)
      · exact of_decide_eq_true h
      · cases h
    · intro h
      refine .inl ⟨?_, decide_eq_true h⟩
      obtain ⟨g, h1, _⟩ := mem_users.1 h
      exact findR_mem (by rw [h1]; rfl)
def refsM (m : Mod) : List Ref := m.funcs.map fun g => (m.name, g.name)
theorem loopU0 {p : List Mod} (S : Sm p) (f : Ref) (K : List AV → M AV) (i : Nat) (hi : i < p.length) : ∀ (n j : Nat) (o : List Ref), p[i].funcs.length - j = n → j ≤ p[i].funcs.length → GoodU p f o →
    fixW (L18_0 (callW pg) fixW K) [mods p, .ip [.str f.1, .str f.2], refsA o, .int .i64 i, .int .i64 j] = K [mods p, .ip [.str f.1, .str f.2], refsA (((refsM p[i]).drop j).foldl (stepU p f) o), .int .i64 ((i + 1 : Nat) : Int)] := by
  have hpl := S.len
  have hip : (i : Int) < p.length := by omega
  have hfl := S.funcs _ (List.getElem_mem hi)
  have hlR : (refsM p[i]).length = p[i].funcs.length := by simp [refsM]
  intro n
  induction n with
  | zero =>
    intro j o hn hj ho
    have h1 : ¬ j < p[i].funcs.length := by omega
    have h2 : (refsM p[i]).drop j = [] := List.drop_eq_nil_of_le (by omega)
    rw [FL18_0]
    simp only [L18_0, h2]
    simp (disch := omega) [h1, IX22, getElem!_pos p i hi, wrap_in]
  | succ n ih =>
    intro j o hn hj ho
    have hlt : j < p[i].funcs.length := by omega
    have h5 : (refsM p[i]).drop j = (p[i].name, p[i].funcs[j].name) :: (refsM p[i]).drop (j + 1) := by
      rw [List.drop_eq_getElem_cons (by omega)]
      simp [refsM]
    have h4 := ih (j + 1) (stepU p f o (p[i].name, p[i].funcs[j].name)) (by omega) (by omega) (ho.step _)
    rw [h5, List.foldl_cons]
    refine Eq.trans ?_ h4
    have hol := ho.len S
    have h1 := t27 S (p[i].name, p[i].funcs[j].name)
    have h2 := t19 o (p[i].name, p[i].funcs[j].name) (by omega)
    have h3 := t14 S (p[i].name, p[i].funcs[j].name)
    have h6 := t19 (allL p (p[i].name, p[i].funcs[j].name)) f (by have := all_len S (p[i].name, p[i].funcs[j].name); omega)
    have h7 := t33 o (p[i].name, p[i].funcs[j].name) (by omega)
    have hB : ∀ x y : Str, buildA T false 24 [(0, .str x), (1, .str y)] = some (refA (x, y)) := fun x y => rfl
    have hfd : AV.agg [.str p[i].name, .str p[i].funcs[j].name] = refA (p[i].name, p[i].funcs[j].name) := rfl
    rw [FL18_0]
    simp only [L18_0, jn_def]
    unfold stepU
    cases hf : findR p (p[i].name, p[i].funcs[j].name) with
    | none =>
      have hu : useR p f (p[i].name, p[i].funcs[j].name) = false := by
        cases h : useR p f (p[i].name, p[i].funcs[j].name) with
        | false => rfl
        | true =>
          obtain ⟨g, e, _⟩ := mem_users.1 (of_decide_eq_true h)
          rw [hf] at e; cases e
      rw [hf] at h1
      simp (disch := omega) [hlt, IX22, IX38, getElem!_pos p i hi, getElem!_pos p[i].funcs j hlt, wrap_in, hB, hcmr, hfd, h1, findA, hu, K18_0]
      simp [hcmr, hfd, h1, findA, hu, K18_0]
    | some g =>
      have hu := use_eq (f := f) hf
      rw [hf] at h1
      cases hp : g.pub
      · rw [hp, Bool.false_and] at hu
        simp (disch := omega) [hlt, IX22, IX38, getElem!_pos p i hi, getElem!_pos p[i].funcs j hlt, wrap_in, hB, hcmr, hfd, h1, findA, hu, hp, K18_0]
        simp [hcmr, hfd, h1, findA, hu, hp, K18_0]
      · rw [hp, Bool.true_and] at hu
        by_cases ho' : (p[i].name, p[i].funcs[j].name) ∈ o
        · rw [decide_eq_true ho'] at h2
          simp (disch := omega) [hlt, IX22, IX38, getElem!_pos p i hi, getElem!_pos p[i].funcs j hlt, wrap_in, hB, hcmr, hfd, h1, findA, hu, hp, h2, ho', K18_0]
          simp [hcmr, hfd, h1, findA, hu, hp, h2, ho', K18_0]
        · rw [decide_eq_false ho'] at h2
          by_cases hm : f ∈ allL p (p[i].name, p[i].funcs[j].name)
          · rw [decide_eq_true hm] at h6 hu
            simp (disch := omega) [hlt, IX22, IX38, getElem!_pos p i hi, getElem!_pos p[i].funcs j hlt, wrap_in, hB, hcmr, hfd, h1, findA, hu, hp, h2, h3, h6, h7, ho', K18_0]
            simp [hcmr, hfd, h1, findA, hu, hp, h2, h3, h6, h7, ho', K18_0]
          · rw [decide_eq_false hm] at h6 hu
            simp (disch := omega) [hlt, IX22, IX38, getElem!_pos p i hi, getElem!_pos p[i].funcs j hlt, wrap_in, hB, hcmr, hfd, h1, findA, hu, hp, h2, h3, h6, ho', K18_0]
            simp [hcmr, hfd, h1, findA, hu, hp, h2, h3, h6, ho', K18_0]
theorem loopU1 {p : List Mod} (S : Sm p) (f : Ref) : ∀ (n i : Nat) (o : List Ref), p.length - i = n → i ≤ p.length → GoodU p f o →
    fixW (L18_1 (callW pg) fixW) [mods p, .ip [.str f.1, .str f.2], refsA o, .int .i64 i] = M.pure (refsA ((allR (p.drop i)).foldl (stepU p f) o)) := by
  have hlenM : lenA T 22 (mods p) = some (.int .i64 p.length) := by simp [mods]
  intro n
  induction n with
  | zero =>
    intro i o hn hi ho
    have h1 : ¬ i < p.length := by omega
    have h2 : p.drop i = [] := List.drop_eq_nil_of_le (by omega)
    rw [FL18_1]
    simp only [L18_1, h2]
    simp [hlenM, h1, allR]
  | succ n ih =>
    intro i o hn hi ho
    have hlt : i < p.length := by omega
    have h5 : p.drop i = p[i] :: p.drop (i + 1) := List.drop_eq_getElem_cons hlt
    have h6 := loopU0 S f (fixW (L18_1 (callW pg) fixW)) i hlt _ 0 o rfl (by omega) ho
    rw [List.drop_zero] at h6
    have h4 := ih (i + 1) ((refsM p[i]).foldl (stepU p f) o) (by omega) (by omega) (GoodU.fold _ ho)
    have h7 : allR (p[i] :: p.drop (i + 1)) = refsM p[i] ++ allR (p.drop (i + 1)) := by unfold allR refsM; rw [List.flatMap_cons]
    rw [h5, h7, List.foldl_append, ← h4]
    refine Eq.trans ?_ h6
    rw [FL18_1]
    simp only [L18_1]
    simp [hlenM, hlt]
theorem t18 {p : List Mod} (S : Sm p) (f : Ref) : callW pg 18 [mods p, refA f] = M.pure (refsA (usersL p f)) := by
  rw [C18]
  simp only [cl_mods, cl_ref]
  have h2 := loopU1 S f _ 0 [] rfl (by omega) ⟨List.Pairwise.nil, fun x hx => by cases hx⟩
  rw [List.drop_zero, fold_users] at h2
  have h2' : fixW (L18_1 (callW pg) fixW) [mods p, .ip [.str f.1, .str f.2], .sl [], .int .i64 0] = _ := h2
  have h : S18 (callW pg) fixW (mods p) (refA f) = M.pure (refsA (usersL p f)) := by
    simp only [S18, acells_ref]
    exact h2'
  rw [h]
  exact isoP_pure (clean_refs _)
end Go.Proofs.Ytpnonheegflllaa
