/- What the functions that write rows of ranges compute: DeleteFunc, sorting. No condition. -/
import Derived.Test.YtllapohmppeceaaGreatDoorT2
namespace Go.Proofs.YtllapohmppeceaaGreatDoor.N
open Go Go.Av Go.Av.Ap
def cR (l : List Rng) : List AV := (l.map eaR).flatten
@[simp] theorem cR_nil : cR [] = [] := rfl
theorem cR_cons (x : Rng) (l : List Rng) : cR (x :: l) = eaR x ++ cR l := rfl
theorem cR_app (a b : List Rng) : cR (a ++ b) = cR a ++ cR b := by simp [cR]
theorem cR_len (l : List Rng) : (cR l).length = l.length * 6 := flatten_len eaR 6 (fun _ => rfl) l
theorem cR_flat (l : List Rng) : (l.map Rng.av).flatMap acells = cR l := by
  induction l with
  | nil => rfl
  | cons x l ih => rw [List.map_cons, List.flatMap_cons, ih]; rfl
theorem eaR_len (x : Rng) : (eaR x).length = 6 := rfl
theorem bnd_ok {α β : Type} {m : M α} {f : α → M β} {h h' : Hp} {v : α} (e : m h = .ok v h') : bnd m f h = f v h' := by
  unfold bnd
  rw [e]
theorem LH40 (p o : Nat) (h : Hp) : loadH T 40 (.hp p o) h = match h[p]? with
    | some cs => if o + 6 ≤ cs.length then .ok (.agg ((cs.drop o).take 6)) h else .fail
    | none => .fail := by
  unfold loadH
  dsimp only
  cases h[p]? <;> rfl
theorem LH23 (p o : Nat) (h : Hp) : loadH T 23 (.hp p o) h = match h[p]? with
    | some cs => if o + 3 ≤ cs.length then .ok (.agg ((cs.drop o).take 3)) h else .fail
    | none => .fail := by
  unfold loadH
  dsimp only
  cases h[p]? <;> rfl
theorem SH40 (p o : Nat) (v : AV) (h : Hp) : storeH T 40 (.hp p o) v h = match h[p]? with
    | some cs => bif okEl 6 v && decide (o + 6 ≤ cs.length) && decide (0 < 6) then .ok (.tup []) (h.set p (setCells cs o (acells v))) else .fail
    | none => .fail := rfl
theorem SH23 (p o : Nat) (v : AV) (h : Hp) : storeH T 23 (.hp p o) v h = match h[p]? with
    | some cs => bif okEl 3 v && decide (o + 3 ≤ cs.length) && decide (0 < 3) then .ok (.tup []) (h.set p (setCells cs o (acells v))) else .fail
    | none => .fail := rfl
section
variable {h : Hp} {p k : Nat} {A : List Rng} {x : Rng} {r : List AV}
theorem load40 (hp : h[p]? = some (cR A ++ (eaR x ++ r))) (hk : A.length = k) : loadH T 40 (.hp p (0 + k * 6)) h = .ok x.av h := by
  subst hk
  rw [LH40, hp]
  simp only
  have hl := cR_len A
  rw [if_pos (by simp only [List.length_append, eaR_len]; omega), Nat.zero_add, ← hl, List.drop_left]
  rfl
theorem load23 (hp : h[p]? = some (cR A ++ (eaR x ++ r))) (hk : A.length = k) : loadH T 23 (.hp p (0 + k * 6 + 3)) h = .ok x.hi.av h := by
  subst hk
  rw [LH23, hp]
  simp only
  have hl := cR_len A
  rw [if_pos (by simp only [List.length_append, eaR_len]; omega), Nat.zero_add, ← hl, List.drop_append]
  rw [show (cR A).length + 3 - (cR A).length = 3 by omega, List.drop_eq_nil_of_le (by omega)]
  rfl
theorem store40 (hp : h[p]? = some (cR A ++ (eaR x ++ r))) (hk : A.length = k) (y : Rng) : storeH T 40 (.hp p (0 + k * 6)) y.av h = .ok (.tup []) (h.set p (cR A ++ (eaR y ++ r))) := by
  subst hk
  rw [SH40, hp]
  simp only
  have hl := cR_len A
  have e : decide (0 + A.length * 6 + 6 ≤ (cR A ++ (eaR x ++ r)).length) = true := by simp only [List.length_append, eaR_len, decide_eq_true_eq]; omega
  rw [okEl_rng, e]
  simp only [Nat.zero_add, ← hl, setCells, List.take_left]
  rw [List.drop_append, List.drop_eq_nil_of_le (by omega), show (cR A).length + (acells y.av).length - (cR A).length = 6 by simp]
  simp [eaR]
theorem store23 (hp : h[p]? = some (cR A ++ (eaR x ++ r))) (hk : A.length = k) (v : Ver) : storeH T 23 (.hp p (0 + k * 6 + 3)) v.av h = .ok (.tup []) (h.set p (cR A ++ (eaR ⟨x.lo, v⟩ ++ r))) := by
  subst hk
  rw [SH23, hp]
  simp only
  have hl := cR_len A
  have e : decide (0 + A.length * 6 + 3 + 3 ≤ (cR A ++ (eaR x ++ r)).length) = true := by simp only [List.length_append, eaR_len, decide_eq_true_eq]; omega
  rw [okEl_ver, e]
  simp only [Nat.zero_add, ← hl, setCells]
  rw [List.take_append, List.drop_append, List.drop_eq_nil_of_le (by omega), List.take_of_length_le (by omega), show (cR A).length + 3 + (acells v.av).length - (cR A).length = 6 by simp; omega, show (cR A).length + 3 - (cR A).length = 3 by omega]
  simp [eaR]
end
theorem IH24 (p n : Nat) (i : Int) : indexAddrA T 24 (.hs p 0 n 6 true) (.int .i64 i) = if 0 ≤ i ∧ i < n then some (.hp p (0 + i.toNat * 6)) else none := rfl
theorem ih24 {p n k : Nat} (h : k < n) : indexAddrA T 24 (.hs p 0 n 6 true) (.int .i64 k) = some (.hp p (0 + k * 6)) := by
  rw [IH24, if_pos (by omega)]
  rfl
theorem loop53h (f : AV) (q : Rng → Bool) (hf : ∀ x : Rng, callV (callW pg) f [x.av] = M.pure (.bool (q x))) (p : Nat) (l : List Rng) (tl : List AV) (hb : l.length ≤ 1099511627776) (h : Hp) (hp : h[p]? = some (cR l ++ tl)) : ∀ (B A : List Rng), A ++ B = l →
    fixW (L53_0 (callW pg) fixW) [.hs p 0 l.length 6 true, f, .int .i64 l.length, .int .i64 A.length] h = .ok (.int .i64 (idxAt q B A.length)) h
  | [], A, e => by
    rw [FL53_0]
    simp only [List.append_nil] at e
    subst e
    simp [L53_0, idxAt, M.pure]
  | x :: B, A, e => by
    have ih := loop53h f q hf p l tl hb h hp B (A ++ [x]) (by rw [← e]; simp)
    have hll : A.length + (B.length + 1) = l.length := by rw [← e]; simp
    rw [← e, cR_app, cR_cons] at hp
    simp only [List.append_assoc] at hp
    have h1 : (A.length : Int) < (l.length : Int) := by omega
    rw [FL53_0]
    simp only [L53_0, idxAt, nth_zero, nth_succ, bin_lss, bnd_some, h1, decide_true, condM_bool, if_true, ih24 (show A.length < l.length by omega)]
    rw [bnd_ok (load40 hp rfl)]
    simp only [hf, bnd_pure, condM_bool]
    rw [show (A ++ [x]).length = A.length + 1 by simp] at ih
    have hw : IntKind.i64.wrap ((A.length : Int) + 1) = ((A.length + 1 : Nat) : Int) := wrap_add1 (by omega)
    cases q x with
    | true => rfl
    | false =>
      simp only [Bool.false_eq_true, if_false, bin_add, bnd_some, hw]
      exact ih
theorem t53h (f : AV) (q : Rng → Bool) (hf : ∀ x : Rng, callV (callW pg) f [x.av] = M.pure (.bool (q x))) (p : Nat) (l : List Rng) (tl : List AV) (hb : l.length ≤ 1099511627776) (h : Hp) (hp : h[p]? = some (cR l ++ tl)) :
    callW pg 53 [.hs p 0 l.length 6 true, f] h = .ok (.int .i64 (idxAt q l 0)) h := by
  rw [C53]
  have := loop53h f q hf p l tl hb h hp l [] rfl
  simp only [S53, LENH24, bnd_some]
  exact this
def hv (p : Nat) (K : List Rng) : AV := if K = [] then .sl [] else .hs p 0 K.length 6 true
theorem idxAt_split (q : Rng → Bool) : ∀ (l A0 : List Rng), (idxAt q l A0.length = -1 ∧ ∀ x ∈ l, q x = false) ∨ ∃ A x B, l = A ++ x :: B ∧ (∀ y ∈ A, q y = false) ∧ q x = true ∧ idxAt q l A0.length = ((A0.length + A.length : Nat) : Int)
  | [], _ => .inl ⟨rfl, by simp⟩
  | x :: l, A0 => by
    cases hq : q x with
    | true => exact .inr ⟨[], x, l, rfl, by simp, hq, by simp [idxAt, hq]⟩
    | false =>
      have e : idxAt q (x :: l) A0.length = idxAt q l (A0 ++ [x]).length := by simp [idxAt, hq]
      rcases idxAt_split q l (A0 ++ [x]) with ⟨h1, h2⟩ | ⟨A, y, B, h1, h2, h3, h4⟩
      · exact .inl ⟨by rw [e, h1], by simp [hq]; exact h2⟩
      · refine .inr ⟨x :: A, y, B, by rw [h1]; rfl, by simp [hq]; exact h2, h3, ?_⟩
        rw [e, h4]
        simp
        omega
theorem SLO (p n k : Nat) (hk : k < n) : sliceA T 24 (.hs p 0 n 6 true) (some (.int .i64 k)) none none = some (.hs p (0 + k * 6) (n - k) 6 true) := by
  have e : sliceA T 24 (.hs p 0 n 6 true) (some (.int .i64 k)) none none = (match boundA (some (.int .i64 k)) 0 n with
    | none => none
    | some l => if l < n then some (.hs p (0 + l * 6) (n - l) 6 true) else some (.sl [])) := rfl
  rw [e]
  have e2 : boundA (some (.int .i64 k)) 0 n = some k := by
    unfold boundA
    simp only
    rw [if_pos (by omega)]
    rfl
  rw [e2]
  simp only
  rw [if_pos hk]
theorem SHI (p n : Nat) (K : List Rng) (hk : K.length ≤ n) : sliceA T 24 (.hs p 0 n 6 true) none (some (.int .i64 K.length)) none = some (hv p K) := by
  have e : sliceA T 24 (.hs p 0 n 6 true) none (some (.int .i64 K.length)) none = (match boundA (some (.int .i64 K.length)) n n with
    | none => none
    | some h => if 0 < h then some (.hs p (0 + 0 * 6) (h - 0) 6 true) else some (.sl [])) := rfl
  rw [e]
  have e2 : boundA (some (.int .i64 K.length)) n n = some K.length := by
    unfold boundA
    simp only
    rw [if_pos (by omega)]
    rfl
  rw [e2]
  unfold hv
  cases K with
  | nil => rfl
  | cons x l => simp
theorem CLR (p o n : Nat) (h : Hp) (cs : List AV) (hp : h[p]? = some cs) (hl : o + n * 6 ≤ cs.length) (hn : 0 < n) : ∃ zs, clearH T 24 (.hs p o n 6 true) h = .ok (.tup []) (h.set p (cs.take o ++ zs)) := by
  have e : clearH T 24 (.hs p o n 6 true) h = match h[p]? with
    | none => .fail
    | some cs => bif Nat.beq 6 6 && decide (o + n * 6 ≤ cs.length) && decide (0 < n) && decide (0 < 6) && true then
        .ok (.tup []) (h.set p (setCells cs o (List.replicate n (List.replicate 6 (.int .i64 0))).flatten)) else .fail := rfl
  rw [e, hp]
  simp only [hl, hn, decide_true]
  exact ⟨_, by unfold setCells; simp only [List.append_assoc]; rfl⟩
theorem loop38 (p n : Nat) (hb : n ≤ 1099511627776) : ∀ (R K J : List Rng) (h : Hp), J ≠ [] → K.length + J.length + R.length = n → h[p]? = some (cR K ++ (cR J ++ cR R)) →
    ∃ tl, fixW (L38_0 (callW pg) fixW) [.hs p 0 n 6 true, .fn (.func 40) [] [], .int .i64 K.length, .int .i64 ((K.length + J.length : Nat) : Int)] h = .ok (hv p (K ++ R.filter fun x => !emptyR x)) (h.set p (cR (K ++ R.filter fun x => !emptyR x) ++ tl))
  | [], K, J, h, hJ, hn, hp => by
    have hJ0 : 0 < J.length := List.length_pos_iff.2 hJ
    simp only [List.length_nil, Nat.add_zero] at hn
    have h1 : ¬ (((K.length + J.length : Nat) : Int) < (n : Int)) := by omega
    have hkl := cR_len K
    have hjl := cR_len J
    obtain ⟨zs, hc⟩ := CLR p (0 + K.length * 6) (n - K.length) h _ hp (by simp only [List.length_append, cR_nil, List.length_nil]; omega) (by omega)
    refine ⟨zs, ?_⟩
    rw [FL38_0]
    simp only [L38_0, nth_zero, nth_succ, LENH24, bin_lss, bnd_some, h1, decide_false, condM_bool, Bool.false_eq_true, if_false, SLO p n K.length (by omega)]
    rw [bnd_ok hc]
    simp only [SHI p n K (by omega), bnd_some, M.pure, List.filter_nil, List.append_nil]
    rw [show 0 + K.length * 6 = (cR K).length by omega, List.take_left]
  | x :: R, K, J, h, hJ, hn, hp => by
    simp only [List.length_cons] at hn
    have h1 : (((K.length + J.length : Nat) : Int) < (n : Int)) := by omega
    have hld : h[p]? = some (cR (K ++ J) ++ (eaR x ++ cR R)) := by rw [hp, cR_app, cR_cons, List.append_assoc]
    have hw : IntKind.i64.wrap (((K.length + J.length : Nat) : Int) + 1) = ((K.length + J.length + 1 : Nat) : Int) := wrap_add1 (by omega)
    have hw2 : IntKind.i64.wrap ((K.length : Int) + 1) = ((K.length + 1 : Nat) : Int) := wrap_add1 (by omega)
    have hl38 : ∀ x : Rng, loadA T 40 (.ip (acells x.av)) = some x.av := fun _ => rfl
    have hcv : callV (callW pg) (.fn (.func 40) [] []) [x.av] = M.pure (.bool (emptyR x)) := t40 x
    rw [FL38_0]
    simp only [L38_0, K38_0, jn_def, nth_zero, nth_succ, LENH24, bin_lss, bnd_some, h1, decide_true, condM_bool, if_true, ih24 (show K.length + J.length < n by omega)]
    rw [bnd_ok (load40 hld (by simp))]
    simp only [cellsM_rng, bnd_pure, hl38, bnd_some, hcv, unA_not, condM_bool]
    cases hq : emptyR x with
    | true =>
      have ih := loop38 p n hb R K (J ++ [x]) h (by simp) (by simp; omega) (by rw [hp, cR_app, cR_cons]; simp [cR])
      simp only [Bool.not_true, Bool.false_eq_true, if_false, bin_add, bnd_some, hw, nth_zero, nth_succ]
      rw [show (J ++ [x]).length = J.length + 1 by simp] at ih
      simp only [List.filter_cons, hq, Bool.not_true, Bool.false_eq_true, if_false]
      exact ih
    | false =>
      obtain ⟨y, J', rfl⟩ : ∃ y J', J = y :: J' := by
        cases J with
        | nil => exact absurd rfl hJ
        | cons y J' => exact ⟨y, J', rfl⟩
      have hst : h[p]? = some (cR K ++ (eaR y ++ (cR J' ++ (eaR x ++ cR R)))) := by rw [hp, cR_cons, cR_cons]; simp
      have hlt : p < h.length := by
        rcases Nat.lt_or_ge p h.length with k | k
        · exact k
        · rw [List.getElem?_eq_none k] at hp; cases hp
      have ih := loop38 p n hb R (K ++ [x]) (J' ++ [x]) (h.set p (cR K ++ (eaR x ++ (cR J' ++ (eaR x ++ cR R))))) (by simp) (by simp at hn ⊢; omega) (by
        rw [List.getElem?_set_self hlt, cR_app, cR_app, cR_cons]
        simp [cR])
      obtain ⟨tl, ih⟩ := ih
      refine ⟨tl, ?_⟩
      simp only [Bool.not_false, if_true, ih24 (show K.length < n by omega), bnd_some]
      rw [bnd_ok (store40 hst rfl x)]
      simp only [bin_add, bnd_some, hw, hw2, nth_zero, nth_succ]
      rw [show (K ++ [x]).length = K.length + 1 by simp, show K.length + 1 + (J' ++ [x]).length = K.length + (y :: J').length + 1 by simp; omega] at ih
      rw [List.set_set] at ih
      simp only [List.filter_cons, hq, Bool.not_false, if_true]
      rw [show K ++ x :: List.filter (fun x => !emptyR x) R = K ++ [x] ++ List.filter (fun x => !emptyR x) R by simp]
      exact ih
def keepR (l : List Rng) : List Rng := l.filter fun x => !emptyR x
theorem t38 (p : Nat) (l : List Rng) (hl : l ≠ []) (hb : l.length ≤ 1099511627776) (h : Hp) (hp : h[p]? = some (cR l)) :
    ∃ tl, callW pg 38 [hv p l, .fn (.func 40) [] []] h = .ok (hv p (keepR l)) (h.set p (cR (keepR l) ++ tl)) := by
  have hv0 : hv p l = .hs p 0 l.length 6 true := by unfold hv; rw [if_neg hl]
  rw [C38, hv0]
  have h45 := t53h (.fn (.func 40) [] []) emptyR (fun x => t40 x) p l [] hb h (by rw [List.append_nil]; exact hp)
  simp only [S38]
  rcases idxAt_split emptyR l [] with ⟨h1, h2⟩ | ⟨A, x, B, h1, h2, h3, h4⟩
  · simp only [List.length_nil, Int.natCast_zero] at h1
    rw [h1] at h45
    refine ⟨[], ?_⟩
    rw [bnd_ok h45]
    have hk : keepR l = l := by
      unfold keepR
      rw [List.filter_eq_self]
      intro a ha
      rw [h2 a ha]; rfl
    have hself : h.set p (cR l) = h := by
      have hlt : p < h.length := by
        rcases Nat.lt_or_ge p h.length with k | k
        · exact k
        · rw [List.getElem?_eq_none k] at hp; cases hp
      rw [List.getElem?_eq_getElem hlt] at hp
      have := Option.some.inj hp
      rw [← this, List.set_getElem_self]
    simp only [bin_eql, bnd_some, condM_bool, M.pure, hk, hv0, List.append_nil, hself]
    rfl
  · simp only [List.length_nil, Nat.zero_add] at h4
    have h4' : idxAt emptyR l 0 = (A.length : Int) := h4
    rw [h4'] at h45
    subst h1
    have hne : ((A.length : Int) == -1) = false := by simp
    have hA : A.filter (fun x => !emptyR x) = A := by
      rw [List.filter_eq_self]
      intro a ha
      rw [h2 a ha]; rfl
    obtain ⟨tl, ht⟩ := loop38 p (A ++ x :: B).length hb B A [x] h (by simp) (by simp; omega) (by rw [hp, cR_app, cR_cons, cR_cons]; simp)
    have hk : keepR (A ++ x :: B) = A ++ B.filter fun x => !emptyR x := by
      unfold keepR
      rw [List.filter_append, hA, List.filter_cons, h3]
      rfl
    refine ⟨tl, ?_⟩
    rw [bnd_ok h45]
    have hw2 : IntKind.i64.wrap ((A.length : Int) + 1) = ((A.length + 1 : Nat) : Int) := wrap_add1 (by simp only [List.length_append, List.length_cons] at hb; omega)
    simp only [bin_eql, hne, bnd_some, condM_bool, Bool.false_eq_true, if_false, bin_add, hw2, hk]
    exact ht
theorem C41 (args : List AV) : callW pg 41 args = sortE elsR 42 srt (callW pg) args := callW_other hOther rfl args
theorem t41 (p : Nat) (K : List Rng) (tl : List AV) (hb : K.length ≤ 1099511627776) (h : Hp) (hp : h[p]? = some (cR K ++ tl)) :
    callW pg 41 [hv p K, .fn (.func 42) [] []] h = .ok (.tup []) (h.set p (cR (srt K) ++ tl)) := by
  have hlt : p < h.length := by
    rcases Nat.lt_or_ge p h.length with k | k
    · exact k
    · rw [List.getElem?_eq_none k] at hp; cases hp
  rw [C41]
  unfold hv
  cases K with
  | nil =>
    have hs : srt [] = [] := List.length_eq_zero_iff.1 (srt_len [])
    rw [hs, List.getElem?_eq_getElem hlt] at *
    have := Option.some.inj hp
    rw [← this, List.set_getElem_self]
    rfl
  | cons x l =>
    rw [if_neg (by simp)]
    generalize hK : x :: l = K at *
    have h0 : 0 < K.length := by rw [← hK]; simp
    have hl := cR_len K
    have hl2 := cR_len (srt K)
    have hd : decR (cR K) = some K := decR_map K
    simp only [sortE, hp, List.drop_zero]
    rw [show elsR.k = 6 from rfl, ← hl, List.take_left, show elsR.dec (cR K) = decR (cR K) from rfl, hd]
    simp only
    have hc : (Nat.beq 42 42 && Nat.beq 6 6 && decide (0 < K.length) && decide (0 + (cR K).length ≤ (cR K ++ tl).length) && decide True && decide (K.length < 4611686018427387904) && decide ((srt K).length = K.length)) = true := by
      have e1 : decide (0 < K.length) = true := decide_eq_true h0
      have e2 : decide (0 + (cR K).length ≤ (cR K ++ tl).length) = true := decide_eq_true (by simp)
      have e3 : decide (K.length < 4611686018427387904) = true := decide_eq_true (by omega)
      have e4 : decide ((srt K).length = K.length) = true := decide_eq_true (srt_len K)
      rw [e1, e2, e3, e4]
      simp
    rw [hc]
    simp only [cond_true, setCells, List.take_zero, List.nil_append, Nat.zero_add]
    rw [show ((srt K).map elsR.ea).flatten = cR (srt K) from rfl, hl2, srt_len, ← hl, List.drop_left]
end Go.Proofs.YtllapohmppeceaaGreatDoor.N
