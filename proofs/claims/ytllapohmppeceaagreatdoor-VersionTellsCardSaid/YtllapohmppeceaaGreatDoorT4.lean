/- What Norm computes. No condition. -/
import Derived.Test.YtllapohmppeceaaGreatDoorT3
namespace Go.Proofs.YtllapohmppeceaaGreatDoor.N
open Go Go.Av Go.Av.Ap
theorem APC (es : List AV) (h : Hp) : appH T 24 true (.sl []) (.sl es) h = (bif okSz 6 es && decide (0 < 48) && decide (0 < 6) && true then
    (bif true then (bif es.isEmpty then .ok (.sl []) h else bif decide (es.length * 48 ≤ 140737488355328) then .ok (.hs h.length 0 es.length 6 true) (h ++ [es.flatMap acells]) else .fail) else .fail) else .fail) := rfl
theorem APN (es : List AV) (h : Hp) : appH T 24 false .hn (.sl es) h = (bif okSz 6 es && decide (0 < 48) && decide (0 < 6) && true then
    (bif es.isEmpty then .ok .hn h else bif decide (es.length * 48 ≤ 140737488355328) then .ok (.hs h.length 0 es.length 6 true) (h ++ [es.flatMap acells]) else .fail) else .fail) := rfl
theorem APS (l len : Nat) (es : List AV) (h : Hp) : appH T 24 false (.hs l 0 len 6 true) (.sl es) h = (bif okSz 6 es && decide (0 < 48) && decide (0 < 6) && true then
    (match h[l]? with
      | none => .fail
      | some cs => bif (6 == 6) && (true == true) && cs.all okCell && decide (len * 6 ≤ cs.length) && decide (0 < cs.length) && decide ((len + es.length) * 48 ≤ 140737488355328) then
          (bif es.isEmpty then .ok (.hs l 0 len 6 true) h else .ok (.hs h.length 0 (len + es.length) 6 true) ((h.set l []) ++ [cs.take (len * 6) ++ es.flatMap acells])) else .fail) else .fail) := rfl
theorem apn (r : Rng) (h : Hp) : appH T 24 false .hn (.sl [r.av]) h = .ok (.hs h.length 0 1 6 true) (h ++ [cR [r]]) := by
  rw [APN]
  rfl
theorem okCells (l : List Rng) : (cR l).all okCell = true := by
  induction l with
  | nil => rfl
  | cons x l ih => rw [cR_cons, List.all_append, ih]; rfl
theorem aps {l len : Nat} {h : Hp} {O : List Rng} (hp : h[l]? = some (cR O)) (hl : O.length = len) (h0 : 0 < len) (hb : len ≤ 1099511627776) (r : Rng) :
    appH T 24 false (.hs l 0 len 6 true) (.sl [r.av]) h = .ok (.hs h.length 0 (len + 1) 6 true) ((h.set l []) ++ [cR (O ++ [r])]) := by
  rw [APS, hp]
  have e0 : decide (0 < len * 6) = true := decide_eq_true (by omega)
  have e1 : decide (len * 6 ≤ len * 6) = true := decide_eq_true (Nat.le_refl _)
  have e2 : (cR O).take (len * 6) = cR O := List.take_of_length_le (by rw [cR_len, hl]; exact Nat.le_refl _)
  simp only [okCells, cR_len, hl, e0, e1, e2]
  have e : decide ((len + [r.av].length) * 48 ≤ 140737488355328) = true := decide_eq_true (by simp; omega)
  rw [e, cR_app]
  rfl
theorem C39 (args : List AV) : callW pg 39 args = cloneH T 24 (callW pg) args := callW_other hOther rfl args
theorem t39 (l : List Rng) (hl : l ≠ []) (hb : l.length ≤ 1099511627776) (h : Hp) : callW pg 39 [rngs l] h = .ok (.hs h.length 0 l.length 6 true) (h ++ [cR l]) := by
  rw [C39]
  show appH T 24 true (.sl []) (.sl (l.map Rng.av)) h = _
  rw [APC, okSz_rngs, cR_flat]
  have e : decide ((l.map Rng.av).length * 48 ≤ 140737488355328) = true := decide_eq_true (by simp; omega)
  have e2 : (l.map Rng.av).isEmpty = false := by cases l with
    | nil => exact absurd rfl hl
    | cons x l => rfl
  rw [e, e2]
  simp
def mrg : List Rng → Rng → List Rng
  | [], r => [r]
  | o :: t, r => if cmpV r.lo o.hi ≤ 0 then (if cmpV o.hi r.hi < 0 then ⟨o.lo, r.hi⟩ :: t else o :: t) else r :: o :: t
theorem mrg_len (acc : List Rng) (r : Rng) : (mrg acc r).length ≤ acc.length + 1 := by
  unfold mrg
  split
  · simp
  · split
    · split <;> simp
    · simp
def normL (l : List Rng) : List Rng := ((srt (keepR l)).foldl mrg []).reverse
def OutOK (acc : List Rng) (ov : AV) (h : Hp) : Prop := (acc = [] ∧ ov = .hn) ∨ ∃ q, q ≠ 0 ∧ acc ≠ [] ∧ ov = .hs q 0 acc.length 6 true ∧ h[q]? = some (cR acc.reverse)
theorem loop20 (L : List Rng) (tl : List AV) (hb : L.length ≤ 1099511627776) : ∀ (B A acc : List Rng) (ov : AV) (h : Hp), A ++ B = L → acc.length ≤ A.length → h[0]? = some (cR L ++ tl) → OutOK acc ov h →
    ∃ ov' h', fixW (L20_0 (callW pg) fixW) [ov, .hs 0 0 L.length 6 true, .int .i64 L.length, .int .i64 A.length] h = .ok ov' h' ∧ OutOK (B.foldl mrg acc) ov' h'
  | [], A, acc, ov, h, e, hal, hp, ho => by
    simp only [List.append_nil] at e
    subst e
    refine ⟨ov, h, ?_, ho⟩
    rw [FL20_0]
    simp [L20_0, M.pure]
  | x :: B, A, acc, ov, h, e, hal, hp, ho => by
    have hll : A.length + (B.length + 1) = L.length := by rw [← e]; simp
    have h1 : (A.length : Int) < (L.length : Int) := by omega
    have hx : h[0]? = some (cR A ++ (eaR x ++ (cR B ++ tl))) := by rw [hp, ← e, cR_app, cR_cons]; simp
    have hw : IntKind.i64.wrap ((A.length : Int) + 1) = ((A.length + 1 : Nat) : Int) := wrap_add1 (by omega)
    have hA1 : (A ++ [x]).length = A.length + 1 := by simp
    have hh0 : 0 < h.length := by
      rcases Nat.lt_or_ge 0 h.length with k | k
      · exact k
      · rw [List.getElem?_eq_none k] at hp; cases hp
    have hl38 : ∀ x : Rng, loadA T 40 (.ip (acells x.av)) = some x.av := fun _ => rfl
    have hlo : ∀ x : Rng, fieldAddrA T 40 (.ip (acells x.av)) 0 = some (.ip (eaR x)) := fun _ => rfl
    have hhi : ∀ x : Rng, fieldAddrA T 40 (.ip (acells x.av)) 1 = some (.ip [.int .i64 x.hi.a, .int .i64 x.hi.b, .int .i64 x.hi.c]) := fun _ => rfl
    have llo : ∀ x : Rng, loadA T 23 (.ip (eaR x)) = some x.lo.av := fun _ => rfl
    have lhi : ∀ x : Rng, loadA T 23 (.ip [.int .i64 x.hi.a, .int .i64 x.hi.b, .int .i64 x.hi.c]) = some x.hi.av := fun _ => rfl
    have hbs : buildSliceA T 24 1 [(0, x.av)] = some (.sl [x.av]) := rfl
    have hcons : (x :: B).foldl mrg acc = B.foldl mrg (mrg acc x) := rfl
    rw [FL20_0]
    simp only [L20_0, nth_zero, nth_succ, bin_lss, bnd_some, h1, decide_true, condM_bool, if_true, ih24 (show A.length < L.length by omega)]
    rw [bnd_ok (load40 hx rfl)]
    rcases ho with ⟨rfl, rfl⟩ | ⟨q, hq0, hne, rfl, hq⟩
    · -- the first one
      obtain ⟨ov', h', i1, i2⟩ := loop20 L tl hb B (A ++ [x]) [x] (.hs h.length 0 1 6 true) (h ++ [cR [x]]) (by rw [← e]; simp) (by simp) (by rw [List.getElem?_append_left hh0, hp]) (.inr ⟨h.length, by omega, by simp, rfl, by simp⟩)
      refine ⟨ov', h', ?_, i2⟩
      have hw0 : IntKind.i64.wrap ((0 : Int) - 1) = -1 := by decide
      have hg : decide ((0 : Int) ≤ -1) = false := by decide
      simp only [cellsM_rng, bnd_pure, LENN24, bnd_some, bin_sub, bin_geq, hw0, hg, guardM_ft, pickA_false, condM_bool, Bool.false_eq_true, if_false, hl38, hbs, List.replicate, nth_zero]
      rw [bnd_ok (apn x h)]
      simp only [bin_add, bnd_some, hw]
      rw [← i1, hA1]
    · obtain ⟨o, t, rfl⟩ : ∃ o t, acc = o :: t := by
        cases acc with
        | nil => exact absurd rfl hne
        | cons o t => exact ⟨o, t, rfl⟩
      have hlen : (o :: t).length = t.length + 1 := rfl
      rw [hlen] at hal ⊢
      have hq' : h[q]? = some (cR t.reverse ++ (eaR o ++ [])) := by
        rw [hq, List.reverse_cons, cR_app]
        simp [cR]
      have hqlt : q < h.length := by
        rcases Nat.lt_or_ge q h.length with k | k
        · exact k
        · rw [List.getElem?_eq_none k] at hq; cases hq
      have hws : IntKind.i64.wrap (((t.length + 1 : Nat) : Int) - 1) = (t.length : Int) := wrap_sub1 (by omega)
      have hg : decide ((0 : Int) ≤ (t.length : Int)) = true := by simp
      have hih := ih24 (p := q) (show t.length < t.length + 1 by omega)
      have hfa : ∀ k, fieldAddrA T 40 (.hp q k) 1 = some (.hp q (k + 3)) := fun _ => rfl
      have hl23 := load23 hq' (show t.reverse.length = t.length by simp)
      simp only [cellsM_rng, bnd_pure, LENH24, bnd_some, bin_sub, bin_geq, hws, hg, guardM_take1, hlo, llo, hih, hfa]
      have e1 : bnd (loadH T 23 (.hp q (0 + t.length * 6 + 3))) (fun v17 => bnd (noPan (callW pg 11 [x.lo.av, v17])) fun v18 => bnd (lft (binA T .leq 3 v18 (.int .i64 0))) fun v19 => M.pure [v19]) h = .ok [.bool (decide (cmpV x.lo o.hi ≤ 0))] h := by
        rw [bnd_ok hl23, t11]
        rfl
      rw [bnd_ok e1]
      simp only [nth_zero, pickA_true, bnd_some, condM_bool]
      by_cases hc : cmpV x.lo o.hi ≤ 0
      · simp only [hc, decide_true, if_true]
        rw [bnd_ok hl23]
        simp only [hhi, lhi, bnd_some, t11, noPan_pure, bnd_pure, bin_lss, condM_bool]
        by_cases hd : cmpV o.hi x.hi < 0
        · have hm : mrg (o :: t) x = ⟨o.lo, x.hi⟩ :: t := by simp [mrg, hc, hd]
          rw [hcons, hm]
          have hst := store23 hq' (show t.reverse.length = t.length by simp) x.hi
          obtain ⟨ov', h', i1, i2⟩ := loop20 L tl hb B (A ++ [x]) (⟨o.lo, x.hi⟩ :: t) (.hs q 0 (t.length + 1) 6 true) (h.set q (cR t.reverse ++ (eaR ⟨o.lo, x.hi⟩ ++ []))) (by rw [← e]; simp) (by simp; omega) (by rw [List.getElem?_set_ne hq0, hp])
            (.inr ⟨q, hq0, by simp, rfl, by rw [List.getElem?_set_self hqlt, List.reverse_cons, cR_app]; simp [cR]⟩)
          refine ⟨ov', h', ?_, i2⟩
          simp only [hd, decide_true, if_true]
          rw [bnd_ok hst]
          simp only [bin_add, bnd_some, hw]
          rw [← i1, hA1]
        · have hm : mrg (o :: t) x = o :: t := by simp [mrg, hc, hd]
          rw [hcons, hm]
          obtain ⟨ov', h', i1, i2⟩ := loop20 L tl hb B (A ++ [x]) (o :: t) (.hs q 0 (t.length + 1) 6 true) h (by rw [← e]; simp) (by simp; omega) hp (.inr ⟨q, hq0, by simp, rfl, hq⟩)
          refine ⟨ov', h', ?_, i2⟩
          simp only [hd, decide_false, Bool.false_eq_true, if_false, bin_add, bnd_some, hw]
          rw [← i1, hA1]
      · have hm : mrg (o :: t) x = x :: o :: t := by simp [mrg, hc]
        rw [hcons, hm]
        obtain ⟨ov', h', i1, i2⟩ := loop20 L tl hb B (A ++ [x]) (x :: o :: t) (.hs h.length 0 (t.length + 1 + 1) 6 true) ((h.set q []) ++ [cR ((o :: t).reverse ++ [x])]) (by rw [← e]; simp) (by simp; omega)
          (by rw [List.getElem?_append_left (by simpa using hh0), List.getElem?_set_ne hq0, hp]) (.inr ⟨h.length, by omega, by simp, rfl, by simp⟩)
        refine ⟨ov', h', ?_, i2⟩
        simp only [hc, decide_false, Bool.false_eq_true, if_false, hl38, hbs, bnd_some]
        rw [bnd_ok (aps hq (by simp) (by omega) (by omega) x)]
        simp only [bin_add, bnd_some, hw]
        rw [← i1, hA1]
theorem frz_out {acc : List Rng} {ov : AV} {h : Hp} (ho : OutOK acc ov h) : frz 6 h ov = rngs acc.reverse := by
  rcases ho with ⟨rfl, rfl⟩ | ⟨q, _, hne, rfl, hq⟩
  · rfl
  · have hl := cR_len acc.reverse
    simp only [List.length_reverse] at hl
    have e : frz 6 h (.hs q 0 acc.length 6 true) = (match h[q]? with
      | some cs => bif decide (0 + acc.length * 6 ≤ cs.length) && decide (0 < 6) && (true || (Nat.beq 6 1 && cs.all okCell)) then
          .sl ((List.range acc.length).map fun i => frz 5 h (bif true then .agg ((cs.drop (0 + i * 6)).take 6) else nth cs (0 + i * 6))) else .any
      | none => .any) := rfl
    rw [e, hq]
    simp only [Bool.true_or, Bool.and_true, cond_true]
    have e2 : decide (0 + acc.length * 6 ≤ (cR acc.reverse).length) = true := decide_eq_true (by omega)
    rw [e2]
    simp only [Bool.true_and, cond_true, show decide (0 < 6) = true from rfl]
    unfold rngs
    congr 1
    apply List.ext_getElem
    · simp
    · intro i h1 h2
      simp only [List.length_map, List.length_range] at h1
      simp only [List.getElem_map, List.getElem_range]
      have hi : i < acc.reverse.length := by simpa using h1
      have hs : acc.reverse = acc.reverse.take i ++ acc.reverse[i] :: acc.reverse.drop (i + 1) := by
        rw [← List.drop_eq_getElem_cons hi, List.take_append_drop]
      have htl : (acc.reverse.take i).length = i := by rw [List.length_take]; omega
      have hd : ((cR acc.reverse).drop (0 + i * 6)).take 6 = eaR acc.reverse[i] := by
        have h3 : cR acc.reverse = cR (acc.reverse.take i) ++ (eaR acc.reverse[i] ++ cR (acc.reverse.drop (i + 1))) := by
          conv => lhs; rw [hs]
          rw [cR_app, cR_cons]
        have h4 := cR_len (acc.reverse.take i)
        rw [htl] at h4
        rw [h3, Nat.zero_add, ← h4, List.drop_left]
        rfl
      rw [hd]
      rfl
theorem t20 (l : List Rng) (hb : l.length ≤ 1099511627776) : callW pg 20 [rngs l] = M.pure (rngs (normL l)) := by
  rw [C20]
  simp only [cl_rngs]
  funext h0
  unfold isoP
  have hs0 : srt [] = [] := List.length_eq_zero_iff.1 (srt_len [])
  have hempty : ∀ (h : Hp), fixW (L20_0 (callW pg) fixW) [.hn, .sl [], .int .i64 0, .int .i64 0] h = .ok .hn h := fun h => by
    rw [FL20_0]
    simp [L20_0, M.pure]
  have h32 : ∀ h : Hp, callW pg 41 [.sl [], .fn (.func 42) [] []] h = .ok (.tup []) h := fun h => by rw [C41]; rfl
  have key : ∃ ov h', S20 (callW pg) fixW (rngs l) [] = .ok ov h' ∧ OutOK ((srt (keepR l)).foldl mrg []) ov h' := by
    by_cases hl : l = []
    · subst hl
      have h30 : callW pg 39 [rngs []] [] = .ok (.sl []) [] := by rw [C39]; rfl
      have h29 : callW pg 38 [.sl [], .fn (.func 40) [] []] [] = .ok (.sl []) [] := by
        rw [C38]
        have : callW pg 53 [.sl [], .fn (.func 40) [] []] [] = .ok (.int .i64 (-1)) [] := congrFun (t53 (.fn (.func 40) [] []) emptyR (fun x => t40 x) [] (by simp)) []
        simp only [S38]
        rw [bnd_ok this]
        rfl
      refine ⟨.hn, [], ?_, .inl ⟨by simp [keepR, hs0], rfl⟩⟩
      simp only [S20]
      rw [bnd_ok h30, bnd_ok h29, bnd_ok (h32 _)]
      exact hempty []
    · obtain ⟨tl, h29⟩ := t38 0 l hl hb ([] ++ [cR l]) rfl
      have hv0 : hv 0 l = .hs 0 0 l.length 6 true := by unfold hv; rw [if_neg hl]
      rw [hv0] at h29
      have hkl : (keepR l).length ≤ l.length := List.length_filter_le _ _
      have h32' := t41 0 (keepR l) tl (by omega) (([] ++ [cR l]).set 0 (cR (keepR l) ++ tl)) rfl
      simp only [S20]
      rw [bnd_ok (t39 l hl hb []), List.length_nil, bnd_ok h29, bnd_ok h32']
      by_cases hk : keepR l = []
      · have hv1 : hv 0 (keepR l) = .sl [] := by unfold hv; rw [if_pos hk]
        rw [hv1]
        exact ⟨.hn, _, hempty _, .inl ⟨by rw [hk, hs0]; rfl, rfl⟩⟩
      · have hv1 : hv 0 (keepR l) = .hs 0 0 (srt (keepR l)).length 6 true := by unfold hv; rw [if_neg hk, srt_len]
        rw [hv1]
        simp only [LENH24, bnd_some]
        exact loop20 (srt (keepR l)) tl (by rw [srt_len]; omega) (srt (keepR l)) [] [] .hn _ rfl (by simp) rfl (.inl ⟨rfl, rfl⟩)
  obtain ⟨ov, h', e1, e2⟩ := key
  rw [e1]
  simp only
  rw [frz_out e2]
  rfl
end Go.Proofs.YtllapohmppeceaaGreatDoor.N
