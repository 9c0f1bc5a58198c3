/- ReachUsers holds. No condition. -/
import Derived.Test.YtpnonheegflllaaTp11
import Derived.Test.YtpnonheegflllaaLd
namespace Go.Proofs.Ytpnonheegflllaa
open Go Go.Av Go.Av.Ap
set_option maxRecDepth 100000
theorem sel_at {p : List Mod} {f : Ref} {q : Nat} (hq : q < (idxP p).length) : idxK p q = (idxP p)[q].1 ∧ selB p f q = usesB p f (idxP p)[q].1 (idxP p)[q].2 ∧ findR p (idxP p)[q].1 = some (idxP p)[q].2 := by
  refine ⟨by simp [idxK, hq], by simp [selB, hq], ?_⟩
  rw [← idx_get]
  exact getK_nodup (idx_nodup p) (List.getElem_mem hq)
theorem mem_users {p : List Mod} {f r : Ref} : r ∈ usersL p f ↔ ∃ g, findR p r = some g ∧ g.pub = true ∧ f ∈ allL p r := by
  unfold usersL
  rw [(sortR_perm _).mem_iff]
  unfold selQ
  rw [List.mem_map]
  constructor
  · rintro ⟨q, hq, rfl⟩
    obtain ⟨h1, h2⟩ := List.mem_filter.1 hq
    have hq' := List.mem_range.1 h1
    obtain ⟨a, b, c⟩ := sel_at (f := f) hq'
    rw [b] at h2
    unfold usesB at h2
    rw [Bool.and_eq_true, decide_eq_true_eq] at h2
    exact ⟨_, by rw [a]; exact c, h2.2, by rw [a, mem_all]; exact h2.1⟩
  · rintro ⟨g, h1, h2, h3⟩
    rw [← idx_get] at h1
    obtain ⟨q, hq, e⟩ := List.getElem_of_mem (getK_mem h1)
    obtain ⟨a, b, c⟩ := sel_at (f := f) hq
    refine ⟨q, List.mem_filter.2 ⟨List.mem_range.2 hq, ?_⟩, by rw [a, e]⟩
    rw [b, e]
    unfold usesB
    rw [Bool.and_eq_true, decide_eq_true_eq]
    exact ⟨mem_all.1 h3, h2⟩
theorem users_nodup (p : List Mod) (f : Ref) : (usersL p f).Nodup := by
  unfold usersL
  refine (sortR_perm _).nodup_iff.2 ?_
  unfold selQ List.Nodup
  rw [List.pairwise_map]
  refine List.Pairwise.imp_of_mem ?_ (List.nodup_range.filter (selB p f))
  intro a b ha hb hne e
  have ha' := List.mem_range.1 (List.mem_filter.1 ha).1
  have hb' := List.mem_range.1 (List.mem_filter.1 hb).1
  rw [(sel_at (f := f) ha').1, (sel_at (f := f) hb').1] at e
  have := List.pairwise_iff_getElem.1 (idx_nodup p)
  rcases Nat.lt_trichotomy a b with h | h | h
  · have := this a b (by simpa using ha') (by simpa using hb') h; simp at this; exact this e
  · exact hne h
  · have := this b a (by simpa using hb') (by simpa using ha') h; simp at this; exact this e.symm
def useR (p : List Mod) (f : Ref) (r : Ref) : Bool := decide (r ∈ usersL p f)
theorem use_eq {p : List Mod} {f r : Ref} {g : Fun} (h : findR p r = some g) : useR p f r = (g.pub && decide (f ∈ allL p r)) := by
  unfold useR
  rw [Bool.eq_iff_iff, decide_eq_true_eq, mem_users, Bool.and_eq_true, decide_eq_true_eq]
  constructor
  · rintro ⟨g', h1, h2⟩
    rw [h] at h1
    cases h1
    exact h2
  · exact fun h2 => ⟨g, h, h2⟩
theorem users_len {p : List Mod} (S : Sm p) (f : Ref) : (usersL p f).length ≤ 1000000 := by
  unfold usersL
  rw [sortR_len]
  have := selQ_len p f (List.range (idxP p).length)
  rw [List.length_range] at this
  have := S.idx
  omega
theorem count_all (p : List Mod) (f : Ref) : ((enumM p []).filter (useR p f)).length = (usersL p f).length := by
  apply Nat.le_antisymm
  · exact len_le_of_sub ((enumM_nodup p []).filter _) fun x hx => by
      have := (List.mem_filter.1 hx).2
      unfold useR at this
      exact of_decide_eq_true this
  · refine len_le_of_sub (users_nodup p f) fun x hx => List.mem_filter.2 ⟨(mem_enumM x p []).2 ⟨List.not_mem_nil, ?_⟩, decide_eq_true hx⟩
    obtain ⟨g, h1, _⟩ := mem_users.1 hx
    rw [h1]; rfl
theorem neB (a b : Bool) : binA T .neq 4 (.bool a) (.bool b) = some (.bool (a != b)) := by cases a <;> cases b <;> rfl
theorem U0 {p : List Mod} (S : Sm p) {f : Ref} (V : List AV → M AV) (mv : AV) (count : Int) (hc0 : 0 ≤ count) (hc1 : count ≤ 4000000) (outside first : Bool) (i j : Nat) (hi : i < p.length) (g : Fun) (r : Ref) (hj : j ≤ p[i].funcs.length) (hjb : j ≤ 1000000) : ∀ (n k : Nat) (seen : Bool), j - k = n → k ≤ j →
    fixW (L5_0 (callW pg) fixW V) [mods p, .ip [.str f.1, .str f.2], mv, .bool true, refsA (usersL p f), .int .i64 count, .bool outside, .int .i64 i, .bool first, .int .i64 j, .ip (acells g.av), .ip [.str r.1, .str r.2], .bool seen, .int .i64 k] =
      if (seen || decide (g.name ∈ ((p[i].funcs.take j).drop k).map (·.name))) = true then V [mods p, .ip [.str f.1, .str f.2], mv, .bool true, refsA (usersL p f), .int .i64 count, .bool outside, .int .i64 i, .bool first, .int .i64 j]
      else if (g.pub && decide (f ∈ allL p r)) = useR p f r then V [mods p, .ip [.str f.1, .str f.2], mv, .bool true, refsA (usersL p f), .int .i64 (count + if useR p f r = true then 1 else 0), .bool outside, .int .i64 i, .bool first, .int .i64 j]
      else M.pure (.bool false) := by
  intro n
  induction n with
  | zero =>
    intro k seen hn hk
    obtain rfl : k = j := by omega
    have h1 : (p[i].funcs.take k).drop k = [] := List.drop_eq_nil_of_le (by simp; omega)
    have h2 := t13 S r
    have h3 := t19 (allL p r) f (by have := all_len S r; omega)
    have h4 := t19 (usersL p f) r (by have := users_len S f; omega)
    rw [FL5_0]
    simp only [L5_0, K5_1, h1]
    have hu : useR p f r = decide (r ∈ usersL p f) := rfl
    cases seen with
    | true => simp
    | false =>
      have hw : IntKind.i64.wrap (count + 1) = count + 1 := wrap_in (by omega) (by omega)
      rw [← hu] at h4
      cases hp : g.pub
      · cases hr : useR p f r <;> rw [hr] at h4 <;> simp [hp, h4, neB, K5_1]
      · by_cases hm : f ∈ allL p r
        · cases hr : useR p f r <;> rw [hr] at h4 <;> simp [hp, h2, h3, h4, neB, hm, hw, K5_1]
        · cases hr : useR p f r <;> rw [hr] at h4 <;> simp [hp, h2, h3, h4, neB, hm, hw, K5_1]
  | succ n ih =>
    intro k seen hn hk
    have h1 : (k : Int) < j := by omega
    have hlt : k < p[i].funcs.length := by omega
    have h3 : (p[i].funcs.take j).drop k = p[i].funcs[k] :: (p[i].funcs.take j).drop (k + 1) := by
      rw [List.drop_eq_getElem_cons (by simp; omega)]
      simp
    have h4 := ih (k + 1) (seen || p[i].funcs[k].name == g.name) (by omega) (by omega)
    have hip : (i : Int) < p.length := by omega
    have hc : (seen || decide (g.name ∈ ((p[i].funcs.take j).drop k).map (·.name))) = ((seen || p[i].funcs[k].name == g.name) || decide (g.name ∈ ((p[i].funcs.take j).drop (k + 1)).map (·.name))) := by
      rw [h3, Bool.eq_iff_iff]
      simp only [Bool.or_eq_true, decide_eq_true_eq, List.map_cons, List.mem_cons, beq_iff_eq, or_assoc]
      exact ⟨fun h => h.imp id (fun h => h.imp Eq.symm id), fun h => h.imp id (fun h => h.imp Eq.symm id)⟩
    rw [hc]
    refine Eq.trans ?_ h4
    rw [FL5_0]
    simp only [L5_0]
    simp (disch := omega) [h1, IX22, IX38, getElem!_pos p i hi, getElem!_pos p[i].funcs k hlt, wrap_in]
theorem U1 {p : List Mod} (S : Sm p) {f : Ref} (K : List AV → M AV) (mc : List AV) (outside : Bool) (i : Nat) (hi : i < p.length) (hfirst : p[i].name ∉ (p.take i).map (·.name)) : ∀ (n j : Nat) (count : Nat), p[i].funcs.length - j = n → j ≤ p[i].funcs.length → count + n ≤ 3000000 →
    fixW (L5_1 (callW pg) fixW K) [mods p, .ip [.str f.1, .str f.2], .ip mc, .bool true, refsA (usersL p f), .int .i64 count, .bool outside, .int .i64 i, .bool true, .int .i64 j] =
      K [mods p, .ip [.str f.1, .str f.2], .ip mc, .bool true, refsA (usersL p f), .int .i64 ((count + ((enumF p[i].name (p[i].funcs.drop j) ((p[i].funcs.take j).map (·.name))).filter (useR p f)).length : Nat) : Int), .bool outside, .int .i64 ((i + 1 : Nat) : Int)] := by
  have hpl := S.len
  have hip : (i : Int) < p.length := by omega
  have hfl := S.funcs _ (List.getElem_mem hi)
  intro n
  induction n with
  | zero =>
    intro j count hn hj hcn
    have h1 : ¬ (j : Int) < p[i].funcs.length := by omega
    have h2 : p[i].funcs.drop j = [] := List.drop_eq_nil_of_le (by omega)
    rw [FL5_1]
    simp only [L5_1, h2]
    have h3 : ¬ j < p[i].funcs.length := by omega
    simp (disch := omega) [h1, h3, IX22, getElem!_pos p i hi, wrap_in, enumF]
  | succ n ih =>
    intro j count hn hj hcn
    have hlt : j < p[i].funcs.length := by omega
    have h1 : (j : Int) < p[i].funcs.length := by omega
    have h2 : p[i].funcs.drop j = p[i].funcs[j] :: p[i].funcs.drop (j + 1) := List.drop_eq_getElem_cons hlt
    have h3 : (p[i].funcs.take (j + 1)).map (·.name) = (p[i].funcs.take j).map (·.name) ++ [p[i].funcs[j].name] := by
      rw [List.take_add_one, List.getElem?_eq_getElem hlt, List.map_append]; rfl
    have h4 := U0 S (f := f) (K5_0 (callW pg) fixW (fixW (L5_1 (callW pg) fixW K))) (.ip mc) count (by omega) (by omega) outside true i j hi p[i].funcs[j] (p[i].name, p[i].funcs[j].name) hj (by omega) j 0 false rfl (by omega)
    have hB : ∀ x y : Str, buildA T false 24 [(0, .str x), (1, .str y)] = some (refA (x, y)) := fun x y => rfl
    have hw : IntKind.i64.wrap ((j : Int) + 1) = (j + 1 : Nat) := by rw [wrap_in (by omega) (by omega)]; rfl
    have hj0 : ((0 : Nat) : Int) = 0 := rfl
    rw [hj0] at h4
    simp only [Bool.false_or, List.drop_zero] at h4
    rw [FL5_1]
    simp only [L5_1]
    simp only [jn_def]
    refine Eq.trans (b := _) ?_ (h4.trans ?_)
    · simp (disch := omega) [h1, hlt, IX22, IX38, getElem!_pos p i hi, getElem!_pos p[i].funcs j hlt, wrap_in, hB, hcmr]
    · have hcl : ((enumF p[i].name (p[i].funcs.drop j) ((p[i].funcs.take j).map (·.name))).filter (useR p f)).length = (if p[i].funcs[j].name ∈ (p[i].funcs.take j).map (·.name) then 0 else if useR p f (p[i].name, p[i].funcs[j].name) = true then 1 else 0) + ((enumF p[i].name (p[i].funcs.drop (j + 1)) ((p[i].funcs.take (j + 1)).map (·.name))).filter (useR p f)).length := by
        rw [h2, h3]
        simp only [enumF, List.filter_append, List.length_append]
        split
        · rfl
        · rw [List.filter_cons]; split <;> simp
      rw [hcl]
      by_cases hs : p[i].funcs[j].name ∈ (p[i].funcs.take j).map (·.name)
      · rw [if_pos (decide_eq_true hs), if_pos hs]
        have h5 := ih (j + 1) count (by omega) (by omega) (by omega)
        simp only [K5_0, nth_zero, nth_succ, bin_add, bnd_some, hw]
        rw [h5, Nat.zero_add]
      · rw [if_neg (by simpa using hs), if_neg hs]
        have hfr := findR_first hi hfirst hlt hs
        rw [if_pos (use_eq hfr).symm]
        have h5 := ih (j + 1) (count + if useR p f (p[i].name, p[i].funcs[j].name) = true then 1 else 0) (by omega) (by omega) (by split <;> omega)
        simp only [K5_0, nth_zero, nth_succ, bin_add, bnd_some, hw]
        have hcc : ((count : Int) + if useR p f (p[i].name, p[i].funcs[j].name) = true then 1 else 0) = ((count + if useR p f (p[i].name, p[i].funcs[j].name) = true then 1 else 0 : Nat) : Int) := by split <;> rfl
        rw [hcc, h5, Nat.add_assoc]
theorem U1n {p : List Mod} (K : List AV → M AV) (a1 a2 a3 a4 a5 a6 : AV) (i : Nat) (hb : i ≤ 1000000) :
    fixW (L5_1 (callW pg) fixW K) [mods p, a1, a2, a3, a4, a5, a6, .int .i64 i, .bool false, .int .i64 0] = K [mods p, a1, a2, a3, a4, a5, a6, .int .i64 ((i + 1 : Nat) : Int)] := by
  rw [FL5_1]
  simp only [L5_1]
  simp (disch := omega) [wrap_in]
theorem U2 {p : List Mod} (S : Sm p) (K : List AV → M AV) (a1 a3 a4 a5 : AV) (m : Mod) (outside : Bool) (i : Nat) (hi : i < p.length) : ∀ (n j : Nat) (first : Bool), i - j = n → j ≤ i →
    fixW (L5_2 (callW pg) fixW K) [mods p, a1, .ip (acells m.av), a3, a4, a5, .bool outside, .int .i64 i, .bool first, .int .i64 j] =
      fixW (L5_1 (callW pg) fixW K) [mods p, a1, .ip (acells m.av), a3, a4, a5, .bool (outside && !(p[i].name == m.name)), .int .i64 i, .bool (first && !(decide (p[i].name ∈ ((p.take i).drop j).map (·.name)))), .int .i64 0] := by
  have hpl := S.len
  have hip : (i : Int) < p.length := by omega
  intro n
  induction n with
  | zero =>
    intro j first hn hj
    obtain rfl : j = i := by omega
    have h1 : (p.take j).drop j = [] := List.drop_eq_nil_of_le (by simp; omega)
    rw [FL5_2]
    simp only [L5_2, h1]
    simp (disch := omega) [IX22, getElem!_pos p j hi, wrap_in]
  | succ n ih =>
    intro j first hn hj
    have hlt : j < i := by omega
    have hjp : j < p.length := by omega
    have h1 : (j : Int) < i := by omega
    have h4 := ih (j + 1) (first && !(p[j].name == p[i].name)) (by omega) (by omega)
    have h3 : (p.take i).drop j = p[j] :: (p.take i).drop (j + 1) := by
      rw [List.drop_eq_getElem_cons (by simp; omega)]
      simp
    have hc : (first && !(decide (p[i].name ∈ ((p.take i).drop j).map (·.name)))) = ((first && !(p[j].name == p[i].name)) && !(decide (p[i].name ∈ ((p.take i).drop (j + 1)).map (·.name)))) := by
      rw [h3]
      by_cases e : p[j].name = p[i].name
      · simp [e]
      · have e' : ¬ p[i].name = p[j].name := fun h => e h.symm
        have e2 : (p[j].name == p[i].name) = false := beq_eq_false_iff_ne.2 e
        simp [e', e2]
    rw [hc]
    refine Eq.trans ?_ h4
    rw [FL5_2]
    simp only [L5_2]
    simp (disch := omega) [h1, hlt, IX22, getElem!_pos p i hi, getElem!_pos p j hjp, wrap_in]
theorem U3 (S1 S2 : List Ref) (hs : ∀ r ∈ S1, r ∈ S2) (h1 : S1.length ≤ 1000000) (h2 : S2.length ≤ 1000000) (us : List Ref) (outside : Bool) : ∀ (n k : Nat), S1.length - k = n → k ≤ S1.length →
    fixW (L5_3 (callW pg) fixW) [.bool true, refsA us, .int .i64 us.length, .bool outside, refsA S1, refsA S2, .int .i64 k] = M.pure (.bool true) := by
  intro n
  induction n with
  | zero =>
    intro k hn hk
    have hk2 : ¬ k < S1.length := by omega
    rw [FL5_3]
    simp only [L5_3]
    cases outside <;> simp [lenRefs, hk2]
  | succ n ih =>
    intro k hn hk
    have hlt : k < S1.length := by omega
    have h3 := t19 S2 S1[k] (by omega)
    rw [decide_eq_true (hs _ (List.getElem_mem hlt))] at h3
    have h4 := ih (k + 1) (by omega) (by omega)
    have h4' : fixW (L5_3 (callW pg) fixW) [.bool true, refsA us, .int .i64 us.length, .bool outside, refsA S1, refsA S2, .int .i64 ((k : Int) + 1)] = M.pure (.bool true) := h4
    rw [FL5_3]
    simp only [L5_3]
    cases outside
    · simp [lenRefs]
    · simp (disch := omega) [lenRefs, hlt, IX27, getElem!_pos S1 k hlt, wrap_in, h3]
      exact h4'
theorem U4 {p : List Mod} {m : Mod} (S : Sm p) (S2 : Sm (p ++ [m])) {f : Ref} : ∀ (n i : Nat) (count : Nat) (outside : Bool), p.length - i = n → i ≤ p.length → count + ((enumM (p.drop i) ((p.take i).map (·.name))).filter (useR p f)).length = (usersL p f).length →
    fixW (L5_4 (callW pg) fixW) [mods p, .ip [.str f.1, .str f.2], .ip (acells m.av), .bool true, refsA (usersL p f), .int .i64 count, .bool outside, .int .i64 i] = M.pure (.bool true) := by
  have hpl := S.len
  have hul := users_len S f
  have hlenM : lenA T 22 (mods p) = some (.int .i64 p.length) := by simp [mods]
  intro n
  induction n with
  | zero =>
    intro i count outside hn hi hc
    have h1 : ¬ i < p.length := by omega
    have h2 : p.drop i = [] := List.drop_eq_nil_of_le (by omega)
    rw [h2] at hc
    simp [enumM] at hc
    subst hc
    have h3 := t13 S f
    have h4 := t13 S2 f
    have h5 := U3 (allL p f) (allL (p ++ [m]) f) (fun r hr => all_more hr) (all_len S f) (all_len S2 f) (usersL p f) outside _ 0 rfl (by omega)
    have hB : buildSliceA T 22 0 [] = some (mods []) := rfl
    have hB1 : buildSliceA T 22 1 [(0, m.av)] = some (mods [m]) := rfl
    have hA1 : appA T 22 (mods []) (mods p) = some (mods p) := by rw [AP22 (by simp; omega)]; rfl
    have hA2 : appA T 22 (mods p) (mods [m]) = some (mods (p ++ [m])) := AP22 (by simp; omega)
    rw [FL5_4]
    simp only [L5_4]
    simp [hlenM, h1, h3, hB, hA1, hB1, hA2, h4]
    exact h5
  | succ n ih =>
    intro i count outside hn hi hc
    have hlt : i < p.length := by omega
    have h2 : p.drop i = p[i] :: p.drop (i + 1) := List.drop_eq_getElem_cons hlt
    have h3 : (p.take (i + 1)).map (·.name) = (p.take i).map (·.name) ++ [p[i].name] := by
      rw [List.take_add_one, List.getElem?_eq_getElem hlt, List.map_append]; rfl
    have hfl := S.funcs _ (List.getElem_mem hlt)
    have h4 := U2 S (fixW (L5_4 (callW pg) fixW)) (.ip [.str f.1, .str f.2]) (.bool true) (refsA (usersL p f)) (.int .i64 count) m outside i hlt i 0 true rfl (by omega)
    rw [h2] at hc
    simp only [enumM, List.filter_append, List.length_append] at hc
    rw [← h3] at hc
    simp only [Bool.true_and, List.drop_zero] at h4
    have h6 : fixW (L5_4 (callW pg) fixW) [mods p, .ip [.str f.1, .str f.2], .ip (acells m.av), .bool true, refsA (usersL p f), .int .i64 count, .bool outside, .int .i64 i] = fixW (L5_2 (callW pg) fixW (fixW (L5_4 (callW pg) fixW))) [mods p, .ip [.str f.1, .str f.2], .ip (acells m.av), .bool true, refsA (usersL p f), .int .i64 count, .bool outside, .int .i64 i, .bool true, .int .i64 ((0 : Nat) : Int)] := by
      rw [FL5_4]
      simp only [L5_4]
      simp [hlenM, hlt]
    rw [h6, h4]
    by_cases hs : p[i].name ∈ (p.take i).map (·.name)
    · rw [if_pos hs] at hc
      rw [decide_eq_true hs, Bool.not_true, U1n _ _ _ _ _ _ _ i (by omega)]
      exact ih (i + 1) count _ (by omega) (by omega) (by simpa using hc)
    · rw [if_neg hs] at hc
      rw [decide_eq_false hs, Bool.not_false]
      have h7 := U1 S (f := f) (fixW (L5_4 (callW pg) fixW)) (acells m.av) (outside && !(p[i].name == m.name)) i hlt hs _ 0 count rfl (by omega) (by omega)
      simp only [List.drop_zero, List.take_zero, List.map_nil] at h7
      have hz : ((0 : Nat) : Int) = 0 := rfl
      rw [hz] at h7
      rw [h7]
      exact ih (i + 1) _ _ (by omega) (by omega) (by omega)
theorem t5 (p : List Mod) (hp : (p.length + 1) * 192 ≤ 140737488355328) (hM : ∀ m ∈ p, m.Lim) (f : Ref) (m : Mod) (hm : m.Lim) : callW pg 5 [mods p, refA f, m.av] = M.pure (.bool true) := by
  rw [C5]
  have hM2 : ∀ x ∈ p ++ [m], x.Lim := fun x hx => by
    rcases List.mem_append.1 hx with h | h
    · exact hM x h
    · rw [List.mem_singleton.1 h]; exact hm
  obtain ⟨b, hb1, hb2⟩ := t7 (p ++ [m]) (by simp; omega) hM2
  have hB : buildSliceA T 22 0 [] = some (mods []) := rfl
  have hB1 : buildSliceA T 22 1 [(0, m.av)] = some (mods [m]) := rfl
  have hA1 : appA T 22 (mods []) (mods p) = some (mods p) := by rw [AP22 (by simp; omega)]; rfl
  have hA2 : appA T 22 (mods p) (mods [m]) = some (mods (p ++ [m])) := AP22 (by simp; omega)
  simp only [cl_mods, cl_ref, cl_mod]
  have h : S5 (callW pg) fixW (mods p) (refA f) m.av = M.pure (.bool true) := by
    cases b with
    | false => simp [S5, t6, hb1, hB, hA1, hB1, hA2]
    | true =>
      obtain ⟨q1, q2⟩ := hb2 rfl
      have Q2 := sm_few hM2 (by omega) (fun x hx => by have := q2 x hx; omega)
      have Q1 := sm_few hM (by simp at q1; omega) (fun x hx => by have := q2 x (List.mem_append_left _ hx); omega)
      have h1 := t17 Q1 f
      have h2 := U4 (m := m) Q1 Q2 (f := f) p.length 0 0 true rfl (by omega) (by simpa using count_all p f)
      simp [S5, t6, hb1, hB, hA1, hB1, hA2, h1]
      simpa using h2
  rw [h]
  exact isoP_bool true
end Go.Proofs.Ytpnonheegflllaa
