/- What the reference's bounds computes. No condition. -/
import Derived.Test.YtllapohmppeceaaGreatDoorR1
import Derived.Test.YtllapohmppeceaaGreatDoorBnd
namespace Go.Proofs.YtllapohmppeceaaGreatDoor.N
open Go Go.Av Go.Av.Ap
def eaV (v : Ver) : List AV := [.int .i64 v.a, .int .i64 v.b, .int .i64 v.c]
def cV (l : List Ver) : List AV := (l.map eaV).flatten
theorem cV_cons (x : Ver) (l : List Ver) : cV (x :: l) = eaV x ++ cV l := rfl
theorem cV_app (a b : List Ver) : cV (a ++ b) = cV a ++ cV b := by simp [cV]
theorem cV_len (l : List Ver) : (cV l).length = l.length * 3 := flatten_len eaV 3 (fun _ => rfl) l
theorem cV_flat (l : List Ver) : (l.map Ver.av).flatMap acells = cV l := by
  induction l with
  | nil => rfl
  | cons x l ih => rw [List.map_cons, List.flatMap_cons, ih]; rfl
theorem okCellsV (l : List Ver) : (cV l).all okCell = true := by
  induction l with
  | nil => rfl
  | cons x l ih => rw [cV_cons, List.all_append, ih]; rfl
section
variable {h : Hp} {p k n : Nat} {A B : List Ver} {x : Ver} {r : List AV}
theorem loadV (hp : h[p]? = some (cV A ++ (eaV x ++ r))) (hk : A.length = k) : loadH T 23 (.hp p (0 + k * 3)) h = .ok x.av h := by
  have hl := cV_len A
  rw [LH23, hp]
  simp only
  rw [if_pos (by simp [eaV]; omega)]
  congr 1
  rw [Nat.zero_add, ← hk, ← hl, List.drop_left]
  rfl
theorem ih25 (hk : k < n) : indexAddrA T 25 (.hs p 0 n 3 true) (.int .i64 k) = some (.hp p (0 + k * 3)) := by
  have e : ∀ i : Int, indexAddrA T 25 (.hs p 0 n 3 true) (.int .i64 i) = if 0 ≤ i ∧ i < n then some (.hp p (0 + i.toNat * 3)) else none := fun i => rfl
  rw [e, if_pos (by omega)]
  simp
theorem lenV : lenA T 25 (.hs p 0 n 3 true) = some (.int .i64 n) := rfl
theorem lenVN : lenA T 25 .hn = some (.int .i64 0) := rfl
theorem bvV (x : Ver) : buildSliceA T 25 1 [(0, .agg [.int .i64 x.a, .int .i64 x.b, .int .i64 x.c])] = some (vers [x]) := rfl
theorem slo_lt (hk : k < n) : sliceA T 25 (.hs p 0 n 3 true) (some (.int .i64 k)) none none = some (.hs p (0 + k * 3) (n - k) 3 true) := by
  have e : sliceA T 25 (.hs p 0 n 3 true) (some (.int .i64 k)) none none = (match boundA (some (.int .i64 k)) 0 n with
    | none => none
    | some l => if l < n then some (.hs p (0 + l * 3) (n - l) 3 true) else some (.sl [])) := rfl
  rw [e]
  have e2 : boundA (some (.int .i64 k)) 0 n = some k := by
    unfold boundA
    simp only
    rw [if_pos (by omega)]
    rfl
  rw [e2]
  simp only
  rw [if_pos hk]
theorem slo_eq : sliceA T 25 (.hs p 0 n 3 true) (some (.int .i64 n)) none none = some (.sl []) := by
  have e : sliceA T 25 (.hs p 0 n 3 true) (some (.int .i64 n)) none none = (match boundA (some (.int .i64 n)) 0 n with
    | none => none
    | some l => if l < n then some (.hs p (0 + l * 3) (n - l) 3 true) else some (.sl [])) := rfl
  rw [e]
  have e2 : boundA (some (.int .i64 n)) 0 n = some n := by
    unfold boundA
    simp only
    rw [if_pos (by omega)]
    rfl
  rw [e2]
  simp
theorem sloN : sliceA T 25 .hn (some (.int .i64 0)) none none = some .hn := rfl
theorem shiN : sliceT T 25 .hn none (some (.int .i64 0)) none = some .hn := rfl
theorem shi_le (hk : k ≤ n) : sliceT T 25 (.hs p 0 n 3 true) none (some (.int .i64 k)) none = some (.hs p 0 k 3 true) := by
  have e : sliceT T 25 (.hs p 0 n 3 true) none (some (.int .i64 k)) none = (match boundA (some (.int .i64 k)) n n with
    | none => none
    | some h => if 3 = 3 then some (.hs p 0 h 3 true) else none) := rfl
  rw [e]
  have e2 : boundA (some (.int .i64 k)) n n = some k := by
    unfold boundA
    simp only
    rw [if_pos (by omega)]
    rfl
  rw [e2]
  rfl
theorem chunksV : ∀ (l : List Ver) (r : List AV), chunksA true 3 l.length (cV l ++ r) = l.map Ver.av
  | [], r => rfl
  | x :: l, r => by
    have h1 : (cV (x :: l) ++ r).take 3 = eaV x := rfl
    have h2 : (cV (x :: l) ++ r).drop 3 = cV l ++ r := rfl
    show AV.agg ((cV (x :: l) ++ r).take 3) :: chunksA true 3 l.length ((cV (x :: l) ++ r).drop 3) = _
    rw [h1, h2, chunksV l r]
    rfl
theorem srcV (hp : h[p]? = some (cV (A ++ B))) (hk : A.length = k) (hn : B.length = n) : srcA h (.hs p (0 + k * 3) n 3 true) = some (B.map Ver.av) := by
  have hl := cV_len A
  have hl2 := cV_len B
  have hd : (cV (A ++ B)).drop (0 + k * 3) = cV B := by
    rw [cV_app, Nat.zero_add, ← hk, ← hl, List.drop_left]
  have e : srcA h (.hs p (0 + k * 3) n 3 true) = (match h[p]? with
    | some cs => bif (true || Nat.beq 3 1) && decide (0 + k * 3 + n * 3 ≤ cs.length) && ((cs.drop (0 + k * 3)).take (n * 3)).all okCell then some (chunksA true 3 n (cs.drop (0 + k * 3))) else none
    | none => none) := rfl
  rw [e, hp]
  simp only [hd]
  have e1 : decide (0 + k * 3 + n * 3 ≤ (cV (A ++ B)).length) = true := decide_eq_true (by rw [cV_app, List.length_append]; omega)
  have e2 : (cV B).take (n * 3) = cV B := List.take_of_length_le (by omega)
  have e3 := chunksV B []
  rw [List.append_nil, hn] at e3
  rw [e1, e2, okCellsV, e3]
  rfl
theorem appV (a b : List Ver) (hb : a.length + b.length ≤ 1099511627776) : appA T 25 (vers a) (vers b) = some (vers (a ++ b)) :=
  appA_map (T := T) (t := 25) (e := 23) rfl rfl rfl (f := Ver.av) okEl_ver (a := a) (b := b) (by show (a.length + b.length) * 24 ≤ 140737488355328; omega) (by decide)
theorem APVN (es : List AV) (h : Hp) : appH T 25 false .hn (.sl es) h = (bif okSz 3 es && decide (0 < 24) && decide (0 < 3) && true then
    (bif es.isEmpty then .ok .hn h else bif decide (es.length * 24 ≤ 140737488355328) then .ok (.hs h.length 0 es.length 3 true) (h ++ [es.flatMap acells]) else .fail) else .fail) := rfl
theorem APVS (l len : Nat) (es : List AV) (h : Hp) : appH T 25 false (.hs l 0 len 3 true) (.sl es) h = (bif okSz 3 es && decide (0 < 24) && decide (0 < 3) && true then
    (match h[l]? with
      | none => .fail
      | some cs => bif (3 == 3) && (true == true) && cs.all okCell && decide (len * 3 ≤ cs.length) && decide (0 < cs.length) && decide ((len + es.length) * 24 ≤ 140737488355328) then
          (bif es.isEmpty then .ok (.hs l 0 len 3 true) h else .ok (.hs h.length 0 (len + es.length) 3 true) ((h.set l []) ++ [cs.take (len * 3) ++ es.flatMap acells])) else .fail) else .fail) := rfl
theorem apvn (x : Ver) (h : Hp) : appH T 25 false .hn (vers [x]) h = .ok (.hs h.length 0 1 3 true) (h ++ [cV [x]]) := by
  show appH T 25 false .hn (.sl [x.av]) h = _
  rw [APVN]
  rfl
theorem apvs (hp : h[p]? = some (cV (A ++ B))) (hk : A.length = k) (hne : A ++ B ≠ []) (x : Ver) (C : List Ver) (hb : A.length + (C.length + 1) ≤ 1099511627776) :
    appH T 25 false (.hs p 0 k 3 true) (vers (x :: C)) h = .ok (.hs h.length 0 (A ++ x :: C).length 3 true) ((h.set p []) ++ [cV (A ++ x :: C)]) := by
  have hl := cV_len A
  have hlAB := cV_len (A ++ B)
  have h0 : 0 < (A ++ B).length := List.length_pos_iff.2 hne
  show appH T 25 false (.hs p 0 k 3 true) (.sl ((x :: C).map Ver.av)) h = _
  rw [APVS, hp]
  have e0 : decide (0 < (cV (A ++ B)).length) = true := decide_eq_true (by omega)
  have e1 : decide (k * 3 ≤ (cV (A ++ B)).length) = true := decide_eq_true (by rw [cV_app, List.length_append]; omega)
  have e2 : (cV (A ++ B)).take (k * 3) = cV A := by rw [cV_app, ← hk, ← hl, List.take_left]
  have e3 : decide ((k + ((x :: C).map Ver.av).length) * 24 ≤ 140737488355328) = true := decide_eq_true (by simp; omega)
  simp only [okSz_vers, okCellsV, e0, e1, e2, e3, cV_flat]
  rw [cV_app, List.length_append, hk]
  simp
end
def OutV (O : List Ver) (ov : AV) (h : Hp) : Prop := (O = [] ∧ ov = .hn) ∨ ∃ q, O ≠ [] ∧ ov = .hs q 0 O.length 3 true ∧ h[q]? = some (cV O)
theorem OutV.len {O : List Ver} {ov : AV} {h : Hp} (ho : OutV O ov h) : lenA T 25 ov = some (.int .i64 O.length) := by
  rcases ho with ⟨rfl, rfl⟩ | ⟨q, _, rfl, _⟩
  · exact lenVN
  · exact lenV
theorem tw_split {q : Ver → Bool} : ∀ (A B : List Ver), (∀ a ∈ A, q a = true) → (∀ b ∈ B.head?, q b = false) → (A ++ B).takeWhile q = A ∧ (A ++ B).dropWhile q = B
  | [], [], _, _ => by simp
  | [], b :: B, _, h => by
    have := h b (by simp)
    simp [List.takeWhile_cons, List.dropWhile_cons, this]
  | a :: A, B, h1, h2 => by
    obtain ⟨g1, g2⟩ := tw_split A B (fun x hx => h1 x (List.mem_cons_of_mem _ hx)) h2
    have := h1 a (by simp)
    simp [List.takeWhile_cons, List.dropWhile_cons, this, g1, g2]
theorem ins_at {A B : List Ver} {v : Ver} (h1 : ∀ a ∈ A, a < v) (h2 : ∀ b ∈ B.head?, ¬ b < v) : insV (A ++ B) v = if B.head? = some v then A ++ B else A ++ v :: B := by
  obtain ⟨g1, g2⟩ := tw_split (q := fun x => decide (x < v)) A B (fun a ha => decide_eq_true (h1 a ha)) (fun b hb => decide_eq_false (h2 b hb))
  unfold insV
  rw [g1, g2]
theorem eqV (v w : Ver) : binA T .eql 23 v.av w.av = some (.bool (decide (v = w))) := by
  have h : binA T .eql 23 v.av w.av = (eqA T 20 23 v.av w.av).map .bool := rfl
  have h2 : eqA T 20 23 v.av w.av = an (some (v.a == w.a)) (an (some (v.b == w.b)) (an (some (v.c == w.c)) (some true))) := rfl
  rw [h, h2]
  simp only [an_some, Option.map_some]
  congr 2
  obtain ⟨a, b, c⟩ := v
  obtain ⟨a', b', c'⟩ := w
  rw [Bool.eq_iff_iff]
  simp
theorem loop44 (v10 : List AV → M AV) (bo iv : AV) (v : Ver) (O : List Ver) (hb : O.length ≤ 1073741824) (ov : AV) (h : Hp) (ho : OutV O ov h) : ∀ (B A : List Ver), A ++ B = O → (∀ a ∈ A, a < v) →
    ∃ ov' h', fixW (L44_0 (callW pg) fixW v10) [ov, bo, iv, .int .i64 A.length, .int .i64 v.a, .int .i64 v.b, .int .i64 v.c] h = v10 [ov', bo, iv] h' ∧ OutV (insV O v) ov' h'
  | [], A, e, hA => by
    rw [List.append_nil] at e
    subst e
    have hins : insV A v = A ++ [v] := by
      have := ins_at (B := []) hA (by simp)
      rw [List.append_nil] at this
      rw [this]
      simp
    have h1 : ¬ ((A.length : Int) < A.length) := by omega
    rw [hins, FL44_0]
    simp only [L44_0, nth_zero, nth_succ, ho.len, bnd_some, bin_lss, h1, decide_false, guardM_ft, pickA_false, condM_bool, Bool.false_eq_true, if_false, List.replicate, bvV, bnd_pure]
    rcases ho with ⟨rfl, rfl⟩ | ⟨q, hne, rfl, hq⟩
    · refine ⟨.hs h.length 0 1 3 true, h ++ [cV [v]], ?_, .inr ⟨h.length, by simp, rfl, by simp⟩⟩
      have hz : ((([] : List Ver).length : Nat) : Int) = 0 := rfl
      simp only [hz, sloN, shiN, bnd_some]
      have e1 : appR T 25 (vers [v]) .hn h = .ok (vers [v]) h := rfl
      rw [bnd_ok e1]
      rw [bnd_ok (apvn v h)]
    · refine ⟨.hs h.length 0 (A ++ [v]).length 3 true, (h.set q []) ++ [cV (A ++ [v])], ?_, .inr ⟨h.length, by simp, rfl, by simp⟩⟩
      simp only [slo_eq, shi_le (Nat.le_refl _), bnd_some]
      have e1 : appR T 25 (vers [v]) (.sl []) h = .ok (vers [v]) h := rfl
      rw [bnd_ok e1]
      have hq' : h[q]? = some (cV (A ++ [])) := by rw [List.append_nil]; exact hq
      rw [bnd_ok (apvs hq' rfl (by simpa using hne) v [] (by simp; omega))]
  | x :: B, A, e, hA => by
    have hne : O ≠ [] := by rw [← e]; simp
    rcases ho with ⟨h0, _⟩ | ⟨q, _, rfl, hq⟩
    · exact absurd h0 hne
    have hll : A.length + (B.length + 1) = O.length := by rw [← e]; simp
    have h1 : (A.length : Int) < (O.length : Int) := by omega
    have hq2 : h[q]? = some (cV (A ++ x :: B)) := by rw [hq, e]
    have hq1 : h[q]? = some (cV A ++ (eaV x ++ cV B)) := by rw [hq2, cV_app, cV_cons]
    have hld := loadV hq1 rfl
    have hix := ih25 (p := q) (show A.length < O.length by omega)
    have hw : IntKind.i64.wrap ((A.length : Int) + 1) = ((A.length + 1 : Nat) : Int) := wrap_add1 (by omega)
    have hf : ∀ y : Ver, (AV.agg [.int .i64 y.a, .int .i64 y.b, .int .i64 y.c]) = y.av := fun _ => rfl
    rw [FL44_0]
    simp only [L44_0, nth_zero, nth_succ, lenV, bnd_some, bin_lss, h1, decide_true, guardM_take1, hix, hf]
    have e1 : bnd (loadH T 23 (.hp q (0 + A.length * 3))) (fun v22 => bnd (noPan (callW pg 12 [v22, v.av])) fun v23 => bnd (lft (binA T .lss 3 v23 (.int .i64 0))) fun v24 => M.pure [v24]) h = .ok [.bool (decide (cmpV x v < 0))] h := by
      rw [bnd_ok hld, t12]
      rfl
    rw [bnd_ok e1]
    simp only [nth_zero, pickA_true, bnd_some, condM_bool]
    by_cases hc : cmpV x v < 0
    · simp only [hc, decide_true, if_true, bin_add, bnd_some, hw]
      have hA1 : (A ++ [x]).length = A.length + 1 := by simp
      obtain ⟨ov', h', i1, i2⟩ := loop44 v10 bo iv v O hb _ h (.inr ⟨q, hne, rfl, hq⟩) B (A ++ [x]) (by rw [← e]; simp) (fun a ha => by
        rcases List.mem_append.1 ha with ha | ha
        · exact hA a ha
        · rw [List.mem_singleton] at ha
          rw [ha]
          exact (c_lt x v).1 hc)
      rw [hA1] at i1
      exact ⟨ov', h', i1, i2⟩
    · have hlt : ¬ x < v := fun h => hc ((c_lt x v).2 h)
      have hins := ins_at (A := A) (B := x :: B) hA (by simpa using hlt)
      rw [e] at hins
      simp only [hc, decide_false, Bool.false_eq_true, if_false, lenV, bnd_some, bin_lss, h1, decide_true, guardM_take1, hix]
      have e2 : bnd (loadH T 23 (.hp q (0 + A.length * 3))) (fun v31 => bnd (lft (binA T .eql 23 v31 v.av)) fun v32 => M.pure [v32]) h = .ok [.bool (decide (x = v))] h := by
        rw [bnd_ok hld, eqV]
        rfl
      rw [bnd_ok e2]
      simp only [nth_zero, pickA_true, bnd_some, condM_bool]
      by_cases hx : x = v
      · simp only [hx, decide_true, if_true]
        refine ⟨_, h, rfl, ?_⟩
        rw [hins, List.head?_cons, if_pos (by rw [hx])]
        exact .inr ⟨q, hne, rfl, hq⟩
      · simp only [hx, decide_false, Bool.false_eq_true, if_false]
        rw [← hf v, bvV]
        simp only [bnd_some, slo_lt (show A.length < O.length by omega), shi_le (show A.length ≤ O.length by omega)]
        have e3 : appR T 25 (vers [v]) (.hs q (0 + A.length * 3) (O.length - A.length) 3 true) h = .ok (vers (v :: x :: B)) h := by
          unfold appR
          rw [srcV hq2 rfl (by simp; omega)]
          have := appV [v] (x :: B) (by simp; omega)
          simp only
          rw [show (AV.sl ((x :: B).map Ver.av)) = vers (x :: B) from rfl, this]
          rfl
        rw [bnd_ok e3]
        rw [bnd_ok (apvs hq2 rfl (by simp) v (x :: B) (by simp; omega))]
        refine ⟨_, _, rfl, ?_⟩
        rw [hins, List.head?_cons, if_neg (by simpa using hx)]
        exact .inr ⟨h.length, by simp, rfl, by simp⟩
end Go.Proofs.YtllapohmppeceaaGreatDoor.N
