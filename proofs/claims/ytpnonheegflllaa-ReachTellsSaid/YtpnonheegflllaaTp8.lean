/- Users. No condition. -/
import Derived.Test.YtpnonheegflllaaTp7
namespace Go.Proofs.Ytpnonheegflllaa
open Go Go.Av Go.Av.Ap
set_option maxRecDepth 100000
theorem cond_tr {α : Type} {b : Bool} {x y : α} (h : b = true) : (bif b then x else y) = x := by rw [h]; rfl
theorem flat_ea : ∀ l : List Ref, (l.map eaRef).flatten = cellsR l
  | [] => rfl
  | r :: l => by
    rw [List.map_cons, List.flatten_cons, flat_ea l]
    rfl
theorem t37 {h : Hp} {q : Nat} {P : List Ref} (hq : h[q]? = some (cellsR P)) (h0 : P ≠ []) (hb : P.length ≤ 4000000) :
    callW pg 37 [.hs q 0 P.length 2 true, .fn (.func 32) [] []] h = .ok (.tup []) (h.set q (cellsR (sortR P))) := by
  rw [callW_other hOther (E := sortRefE 32) rfl]
  show sortE elsRef 32 srtRef (callW pg) [.hs q 0 P.length 2 true, .fn (.func 32) [] []] h = _
  have hp : 0 < P.length := by cases P with | nil => exact absurd rfl h0 | cons _ _ => simp
  have h1 : elsRef.dec (((cellsR P).drop 0).take (P.length * elsRef.k)) = some P := by
    show decRef (((cellsR P).drop 0).take (P.length * 2)) = some P
    rw [List.drop_zero, ← cellsR_len, List.take_length, ← flat_ea]
    exact decRef_map P
  have h2 : ((srtRef P).map elsRef.ea).flatten = cellsR (sortR P) := by
    rw [srtRef_eq]
    exact flat_ea _
  have h3 : (Nat.beq 32 32 && Nat.beq 2 elsRef.k && decide (0 < P.length) && decide (0 + P.length * elsRef.k ≤ (cellsR P).length) && decide (P.length = P.length) && decide (P.length < 4611686018427387904) && decide ((srtRef P).length = P.length) && (cellsR P).all okCell && ((srtRef P).map elsRef.ea).flatten.all okCell) = true := by
    rw [h2, srtRef_eq, sortR_len, cellsR_ok, cellsR_ok, cellsR_len]
    have : elsRef.k = 2 := rfl
    rw [this]
    simp
    omega
  simp only [decide_true] at h3
  simp only [sortE, hq, h1]
  refine (cond_tr ?_).trans ?_
  · simpa using h3
  congr 2
  rw [h2]
  unfold setCells
  simp only [List.take_zero, List.nil_append, Nat.zero_add, cellsR_len, sortR_len]
  rw [List.drop_eq_nil_of_le (by rw [cellsR_len]; omega), List.append_nil]
def idxK (p : List Mod) (q : Nat) : Ref := ((idxP p)[q]?.map (·.1)).getD ([], [])
def usesB (p : List Mod) (f k : Ref) (g : Fun) : Bool := decide (f ∈ (reachD p k).map (·.1)) && g.pub
def selB (p : List Mod) (f : Ref) (q : Nat) : Bool := ((idxP p)[q]?.map fun e => usesB p f e.1 e.2).getD false
def cntB (p : List Mod) (f : Ref) (q : Nat) : Nat := 1 + (reachD p (idxK p q)).length + (if selB p f q = true then 1 else 0)
def selQ (p : List Mod) (f : Ref) (qs : List Nat) : List Ref := (qs.filter (selB p f)).map (idxK p)
def cntQ (p : List Mod) (f : Ref) (n : Nat) (qs : List Nat) : Nat := qs.foldl (fun n q => n + cntB p f q) n
def usersL (p : List Mod) (f : Ref) : List Ref := sortR (selQ p f (List.range (idxP p).length))
inductive OutR (h : Hp) : AV → List Ref → Prop
  | nil : OutR h .hn []
  | cons (q : Nat) (P : List Ref) : 2 ≤ q → h[q]? = some (cellsR P) → P ≠ [] → OutR h (.hs q 0 P.length 2 true) P
theorem OutR.grow {h : Hp} {out : AV} {P : List Ref} (H : OutR h out P) (J : Hp) : OutR (h ++ J) out P := by
  cases H with
  | nil => exact .nil
  | cons q P h1 h2 h3 => exact .cons q P h1 (by rw [List.getElem?_append_left (List.getElem?_eq_some_iff.1 h2).1]; exact h2) h3
theorem OutR.put {h : Hp} {out : AV} {P : List Ref} (H : OutR h out P) (hb : P.length ≤ 4000000) (h2 : 2 ≤ h.length) (r : Ref) : ∃ out' h', appH T 27 false out (refsA [r]) h = .ok out' h' ∧ OutR h' out' (P ++ [r]) ∧ h'.length = h.length + 1 ∧ ∀ i, i < 2 → h'[i]? = h[i]? := by
  cases H with
  | nil =>
    refine ⟨.hs h.length 0 1 2 true, h ++ [cellsR [r]], rfl, .cons h.length [r] h2 (by simp) (by simp), by simp, fun i hi => by rw [List.getElem?_append_left (by omega)]⟩
  | cons q P h3 h4 h5 =>
    have := appR h4 h5 hb r
    refine ⟨_, _, this, .cons h.length (P ++ [r]) h2 ?_ (by simp), by simp, fun i hi => ?_⟩
    · have : (h.set q []).length = h.length := by simp
      rw [← this]
      simp
    · rw [List.getElem?_append_left (by simp; omega), List.getElem?_set_ne (by omega)]
theorem OutR.set1 {h : Hp} {out : AV} {P : List Ref} (H : OutR h out P) (x : List AV) : OutR (h.set 1 x) out P := by
  cases H with
  | nil => exact .nil
  | cons q P h1 h2 h3 => exact .cons q P h1 (by rw [List.getElem?_set_ne (by omega)]; exact h2) h3
theorem OutR.done {h : Hp} {out : AV} {P : List Ref} (H : OutR h out P) (hb : P.length ≤ 4000000) : bnd (callW pg 37 [out, .fn (.func 32) [] []]) (fun _ => bnd (lft (some out)) fzM) h = .ok (refsA (sortR P)) (List.replicate h.length []) := by
  have hrep : ∀ h : Hp, h.map (fun _ => ([] : List AV)) = List.replicate h.length [] := fun h => rep_of (List.length_map _) (fun x hx => by obtain ⟨_, _, rfl⟩ := List.mem_map.1 hx; rfl)
  cases H with
  | nil =>
    have h1 : callW pg 37 [.hn, .fn (.func 32) [] []] h = .ok (.tup []) h := by
      rw [callW_other hOther (E := sortRefE 32) rfl]
      rfl
    rw [bnd_ok h1]
    simp only [bnd_some, fzM, hrep]
    rfl
  | cons q P h1 h2 h3 =>
    rw [bnd_ok (t37 h2 h3 hb)]
    simp only [bnd_some, fzM, hrep, List.length_set]
    have hql : q < h.length := (List.getElem?_eq_some_iff.1 h2).1
    have := frz_refs (h := h.set q (cellsR (sortR P))) (l := q) (P := sortR P) (List.getElem?_set_self hql) 5
    rw [sortR_len] at this
    rw [this]
theorem selQ_len (p : List Mod) (f : Ref) (qs : List Nat) : (selQ p f qs).length ≤ qs.length := by
  unfold selQ
  rw [List.length_map]
  exact List.length_filter_le _ _
theorem selQ_perm (p : List Mod) (f : Ref) {a b : List Nat} (h : a.Perm b) : (selQ p f a).Perm (selQ p f b) := (h.filter _).map _
theorem cntQ_perm (p : List Mod) (f : Ref) {a b : List Nat} (h : a.Perm b) (n : Nat) : cntQ p f n a = cntQ p f n b := h.foldl_eq' (fun x _ y _ z => by omega) n
theorem loop17 {p : List Mod} (S : Sm p) (f : Ref) : ∀ (n : Nat) (qs : List Nat) (P : List Ref) (out : AV) (h : Hp) (c : AV), qs.length = n → qs.Nodup → (∀ q ∈ qs, q < (idxP p).length) → OutR h out P → P.length + n ≤ 3000000 →
    IsIdx p h 0 → h[1]? = some [.tup [], .mp 0, .int .i64 (idxP p).length, posA qs, c] →
    fixW (L17_0 (callW pg) fixW) [.ip [.str f.1, .str f.2], .mp 0, out, .it 1] h = .ok (refsA (sortR (P ++ selQ p f qs))) (List.replicate (cntQ p f h.length qs) []) := by
  intro n
  induction n with
  | zero =>
    intro qs P out h c hn _ _ hO hb hi h1
    obtain rfl : qs = [] := List.length_eq_zero_iff.1 hn
    rw [FL17_0]
    simp only [L17_0, nth_zero, nth_succ]
    rw [nxt_nil h1 hi (by simp)]
    have := (hO.set1 []).done (by omega)
    rw [this]
    simp [selQ, cntQ]
  | succ n IH =>
    intro qs P out h c hn hnd hlt hO hb hi h1
    rw [FL17_0]
    simp only [L17_0, nth_zero, nth_succ]
    have hhl : 2 ≤ h.length := by have := (List.getElem?_eq_some_iff.1 h1).1; omega
    apply nxt_cons h1 hi (by simp)
    · intro e; rw [e] at hn; cases hn
    intro q hq
    have hqI := hlt q hq
    have hent : ((idxP p).map (entA Fun.av))[q]? = some (.tup [refA (idxP p)[q].1, (idxP p)[q].2.av]) := by
      rw [List.getElem?_map, List.getElem?_eq_getElem hqI]
      rfl
    have hk : idxK p q = (idxP p)[q].1 := by simp [idxK, hqI]
    have hs : selB p f q = usesB p f (idxP p)[q].1 (idxP p)[q].2 := by simp [selB, hqI]
    generalize hg : (idxP p)[q] = e at hent hk hs
    obtain ⟨k, g⟩ := e
    simp only at hent hk hs
    have hmem : (k, g) ∈ idxP p := hg ▸ List.getElem_mem hqI
    have hfk : (findR p k).isSome = true := (idx_keys p k).1 (List.mem_map.2 ⟨_, hmem, rfl⟩)
    let h2 := h.set 1 [.tup [], .mp 0, .int .i64 (idxP p).length, posA (qs.filter fun r => !(Nat.beq r q)), .int .i64 (q : Nat)]
    have hi2 : IsIdx p h2 0 := by unfold IsIdx; rw [List.getElem?_set_ne (by omega)]; exact hi
    have h12 : h2[1]? = some [.tup [], .mp 0, .int .i64 (idxP p).length, posA (qs.filter fun r => !(Nat.beq r q)), .int .i64 (q : Nat)] := List.getElem?_set_self (by omega)
    have hO2 : OutR h2 out P := hO.set1 _
    have hl2 : h2.length = h.length := List.length_set
    have he := entry_at (h := h2) h12 hi2 (by simp) hent
    have hcm : ∀ r, cellsM 2 (refA r) = M.pure (refA r) := fun r => by rw [cellsM_of (okEl_ref _), acells_ref, fold_ref]
    obtain ⟨J, hJ, hsp⟩ := t24 S hi2 k
    rw [if_pos hfk] at hsp
    have hlk := look_ref (rowD_get h2 (reachD p k) J) f
    rw [getK_pre] at hlk
    have hp := perm_filter hnd hq
    have hnl : (qs.filter fun r => !(Nat.beq r q)).length = n := by have := hp.length_eq; simp only [List.length_cons] at this; omega
    have hlt2 : ∀ r ∈ qs.filter (fun r => !(Nat.beq r q)), r < (idxP p).length := fun r hr => hlt r (List.mem_filter.1 hr).1
    have hO3 := hO2.grow (rowD (reachD p k) :: J)
    have hhl3 : (h2 ++ rowD (reachD p k) :: J).length = h.length + (1 + (reachD p k).length) := by simp [hl2, hJ]; omega
    have hi3 : IsIdx p (h2 ++ rowD (reachD p k) :: J) 0 := by unfold IsIdx; rw [List.getElem?_append_left (by omega)]; exact hi2
    have h13 : (h2 ++ rowD (reachD p k) :: J)[1]? = some [.tup [], .mp 0, .int .i64 (idxP p).length, posA (qs.filter fun r => !(Nat.beq r q)), .int .i64 (q : Nat)] := by rw [List.getElem?_append_left (by omega)]; exact h12
    have hres1 : sortR (P ++ selQ p f qs) = sortR (P ++ selQ p f (q :: qs.filter fun r => !(Nat.beq r q))) := sortR_of_perm ((selQ_perm p f hp).append_left P)
    rw [hres1, cntQ_perm p f hp]
    have hcnt : cntQ p f h.length (q :: qs.filter fun r => !(Nat.beq r q)) = cntQ p f (h.length + cntB p f q) (qs.filter fun r => !(Nat.beq r q)) := rfl
    rw [hcnt]
    refine (bnd_ok he).trans ?_
    simp [hcm]
    refine (bnd_ok hsp).trans ?_
    refine (bnd_ok hlk).trans ?_
    simp [hcm]
    have hB : buildSliceA T 27 1 [(0, refA k)] = some (refsA [k]) := rfl
    by_cases hu : usesB p f k g = true
    · have hsel : selQ p f (q :: qs.filter fun r => !(Nat.beq r q)) = k :: selQ p f (qs.filter fun r => !(Nat.beq r q)) := by
        unfold selQ
        rw [List.filter_cons_of_pos (by rw [hs]; exact hu), List.map_cons, hk]
      have hc1 : cntB p f q = 1 + (reachD p k).length + 1 := by unfold cntB; rw [hs, hk, if_pos hu]
      obtain ⟨out', h', a1, a2, a3, a4⟩ := hO3.put (by omega) (by omega) k
      have h4 := IH (qs.filter fun r => !(Nat.beq r q)) (P ++ [k]) out' h' (.int .i64 (q : Nat)) hnl (nodup_filter hnd) hlt2 a2 (by simp; omega) (by unfold IsIdx; rw [a4 0 (by omega)]; exact hi3) (by rw [a4 1 (by omega)]; exact h13)
      rw [a3, hhl3] at h4
      have hu' : (decide (f ∈ (reachD p k).map (·.1)) && g.pub) = true := hu
      rw [if_pos hu', hsel, hc1]
      simp only [hB, bnd_some]
      refine (bnd_ok a1).trans ?_
      rw [h4]
      simp only [List.append_assoc, List.cons_append, List.nil_append]
      congr 3
    · have hsel : selQ p f (q :: qs.filter fun r => !(Nat.beq r q)) = selQ p f (qs.filter fun r => !(Nat.beq r q)) := by
        unfold selQ
        rw [List.filter_cons_of_neg (by rw [hs]; exact hu)]
      have hc1 : cntB p f q = 1 + (reachD p k).length := by unfold cntB; rw [hs, hk, if_neg hu]; rfl
      have h4 := IH (qs.filter fun r => !(Nat.beq r q)) P out (h2 ++ rowD (reachD p k) :: J) (.int .i64 (q : Nat)) hnl (nodup_filter hnd) hlt2 hO3 (by omega) hi3 h13
      rw [hhl3] at h4
      have hu' : ¬ (decide (f ∈ (reachD p k).map (·.1)) && g.pub) = true := hu
      rw [if_neg hu', hsel, hc1]
      exact h4
theorem t17 {p : List Mod} (S : Sm p) (f : Ref) : callW pg 17 [mods p, refA f] = M.pure (refsA (usersL p f)) := by
  rw [C17]
  have h3 : ∃ h', S17 (callW pg) fixW (mods p) (refA f) [] = .ok (refsA (usersL p f)) h' := by
    simp only [S17]
    rw [bnd_ok (idx0 S)]
    have hr : rangeH T 56 (.mp 0) [[.tup ((idxP p).map (entA Fun.av))]] = .ok (.it 1) [[.tup ((idxP p).map (entA Fun.av))], [.tup [], .mp 0, .int .i64 (idxP p).length, posA (List.range (idxP p).length), .any]] := by
      simp [rangeH, mt56]
    have := loop17 S f _ (List.range (idxP p).length) [] .hn [[.tup ((idxP p).map (entA Fun.av))], [.tup [], .mp 0, .int .i64 (idxP p).length, posA (List.range (idxP p).length), .any]] .any rfl List.nodup_range (fun q hq => List.mem_range.1 hq) .nil (by have := S.idx; simp; omega) rfl rfl
    exact ⟨_, (bnd_ok hr).trans this⟩
  obtain ⟨h', h3⟩ := h3
  simp only [cl_mods, cl_ref]
  exact isoP_ok h3 (clean_refs _)
end Go.Proofs.Ytpnonheegflllaa
