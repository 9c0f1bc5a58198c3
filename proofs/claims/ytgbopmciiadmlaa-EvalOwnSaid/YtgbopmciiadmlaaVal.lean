/- What the functions on values compute. No condition. -/
import Derived.Test.YtgbopmciiadmlaaSh0
import Derived.Test.YtgbopmciiadmlaaSh1
import Derived.Test.YtgbopmciiadmlaaSh2
import Derived.Test.YtgbopmciiadmlaaSh3
import Derived.Test.YtgbopmciiadmlaaOps
import Derived.Test.YtgbopmciiadmlaaLc
namespace Go.Proofs.Ytgbopmciiadmlaa
open Go Go.Av Go.Av.Ap
theorem asc_step (l : List Str) (i k : Nat) (hk : k = i + 1) (h : k < l.length) : asc (l.drop i) = (strLess (l[i]'(by omega)) l[k] && asc (l.drop k)) := by
  subst hk
  have e1 : l.drop i = l[i] :: l.drop (i + 1) := List.drop_eq_getElem_cons (by omega)
  have e2 : l.drop (i + 1) = l[i + 1] :: l.drop (i + 2) := List.drop_eq_getElem_cons h
  rw [e1, e2]
  rfl
theorem loop89 (call) (l : List Str) (hb : l.length ≤ 4611686018427387904) : ∀ (n : Nat) (i : Int), l.length - i.toNat = n → 1 ≤ i → fixW (L89_0 call fixW) [strs l, .int .i64 i] = M.pure (.bool (asc (l.drop (i.toNat - 1)))) := by
  intro n
  induction n with
  | zero =>
    intro i hn hi
    rw [FL89_0]
    simp only [L89_0]
    have h1 : ¬ (i < (l.length : Int)) := by omega
    have h2 : asc (l.drop (i.toNat - 1)) = true := by
      have : (l.drop (i.toNat - 1)).length ≤ 1 := by simp; omega
      match hq : l.drop (i.toNat - 1), this with
      | [], _ => rfl
      | [x], _ => rfl
      | x :: y :: r, h => simp at h
    simp [h1, h2]
  | succ n ih =>
    intro i hn hi
    have h1 : i < (l.length : Int) := by omega
    rw [FL89_0]
    simp only [L89_0]
    simp (disch := omega) [h1, wrap_in, IX25]
    rw [ih (i + 1) (by omega) (by omega), asc_step l (i.toNat - 1) i.toNat (by omega) (by omega), show (i + 1).toNat - 1 = i.toNat by omega]
    cases strLess l[i.toNat - 1] l[i.toNat] <;> simp
theorem t89 (l : List Str) (hb : l.length ≤ 4611686018427387904) : callW pg 89 [strs l] = M.pure (.bool (asc l)) := by
  rw [C89]
  simp [S89, loop89 (callW pg) l hb (l.length - 1) 1 rfl (by omega)]
theorem loop67 (f : AV) (F : Val → Bool) (l : List Val) (hb : l.length ≤ 4611686018427387904) (hf : ∀ x ∈ l, callV (callW pg) f [Val.av x] = M.pure (.bool (F x))) : ∀ (n : Nat) (i : Int), l.length - i.toNat = n → 0 ≤ i → i ≤ l.length →
    fixW (L67_0 (callW pg) fixW) [vals l, f, .int .i64 l.length, .int .i64 i] = M.pure (.int .i64 (idxAt F (l.drop i.toNat) i)) := by
  intro n
  induction n with
  | zero =>
    intro i hn hi hl
    rw [FL67_0]
    simp only [L67_0]
    have h1 : ¬ (i < (l.length : Int)) := by omega
    have h2 : l.drop i.toNat = [] := List.drop_eq_nil_of_le (by omega)
    simp [h1, h2, idxAt]
  | succ n ih =>
    intro i hn hi hl
    have h1 : i < (l.length : Int) := by omega
    have hlt : i.toNat < l.length := by omega
    have h2 : idxAt F (l.drop i.toNat) i = if F l[i.toNat] = true then i else idxAt F (l.drop (i.toNat + 1)) (i + 1) := by rw [List.drop_eq_getElem_cons hlt]; rfl
    have h3 := hf l[i.toNat] (List.getElem_mem hlt)
    have h4 := ih (i + 1) (by omega) (by omega) (by omega)
    rw [show (i + 1).toNat = i.toNat + 1 by omega] at h4
    rw [FL67_0]
    simp only [L67_0]
    simp (disch := omega) [h1, wrap_in, IX23, h3, h2]
    cases F l[i.toNat]
    · simpa using h4
    · simp
theorem t67 (f : AV) (F : Val → Bool) (l : List Val) (hb : l.length ≤ 4611686018427387904) (hc : ∀ g, cl g f = f) (hf : ∀ x ∈ l, callV (callW pg) f [Val.av x] = M.pure (.bool (F x))) : callW pg 67 [vals l, f] = M.pure (.int .i64 (idxAt F l 0)) := by
  rw [C67]
  simp [S67, hc, loop67 f F l hb hf l.length 0 rfl (by omega) (by omega)]
theorem t37 (f : AV) (F : Val → Bool) (l : List Val) (hb : l.length ≤ 4611686018427387904) (hc : ∀ g, cl g f = f) (hf : ∀ x ∈ l, callV (callW pg) f [Val.av x] = M.pure (.bool (F x))) : callW pg 37 [vals l, f] = M.pure (.bool (l.any F)) := by
  rw [C37]
  simp [S37, hc, t67 f F l hb hc hf, idxAt_any]
theorem drop_beq {α : Type} [BEq α] (a b : List α) (i : Nat) (h1 : i < a.length) (h2 : i < b.length) : (a.drop i == b.drop i) = (a[i] == b[i] && a.drop (i + 1) == b.drop (i + 1)) := by
  rw [List.drop_eq_getElem_cons h1, List.drop_eq_getElem_cons h2]
  rfl
theorem loop92 (a b : List Str) (hb : a.length ≤ 4611686018427387904) (hab : a.length = b.length) : ∀ (n : Nat) (i : Int), a.length - i.toNat = n → 0 ≤ i → i ≤ a.length →
    fixW (L92_0 (callW pg) fixW) [strs a, strs b, .int .i64 a.length, .int .i64 i] = M.pure (.bool (a.drop i.toNat == b.drop i.toNat)) := by
  intro n
  induction n with
  | zero =>
    intro i hn hi hl
    rw [FL92_0]
    simp only [L92_0]
    have h1 : ¬ (i < (a.length : Int)) := by omega
    have h2 : a.drop i.toNat = [] := List.drop_eq_nil_of_le (by omega)
    have h3 : b.drop i.toNat = [] := List.drop_eq_nil_of_le (by omega)
    simp [h1, h2, h3]
  | succ n ih =>
    intro i hn hi hl
    have h1 : i < (a.length : Int) := by omega
    have h1' : i < (b.length : Int) := by omega
    have hlt : i.toNat < a.length := by omega
    have h4 := ih (i + 1) (by omega) (by omega) (by omega)
    rw [show (i + 1).toNat = i.toNat + 1 by omega] at h4
    rw [FL92_0, drop_beq a b i.toNat hlt (by omega)]
    simp only [L92_0]
    simp (disch := omega) [h1, wrap_in, IX25, h4]
    by_cases h : a[i.toNat] = b[i.toNat]
    · simp [h]
    · have h' : (a[i.toNat] == b[i.toNat]) = false := beq_eq_false_iff_ne.2 h
      simp [h, h']
theorem t92 (a b : List Str) (hb : a.length ≤ 4611686018427387904) : callW pg 92 [strs a, strs b] = M.pure (.bool (a == b)) := by
  rw [C92]
  by_cases h : a.length = b.length
  · have := loop92 a b hb h a.length 0 rfl (by omega) (by omega)
    simp [S92, h] at this ⊢
    simp [this]
  · have h2 : (a == b) = false := by
      rw [beq_eq_false_iff_ne]
      intro hh; exact h (by rw [hh])
    have h3 : ((a.length : Int) != (b.length : Int)) = true := by simp; omega
    simp [S92, h3, h2]
theorem t52 : ∀ (d : Nat), d ≤ 4 → ∀ (v : Val), v.sz ≤ 4611686018427387904 → callW pg 52 [v.av, .int .i64 d] = M.pure (.bool (fitsP d v))
  | 0, _, v, _ => by
    rw [C52]
    simp [S52, fitsP]
  | d + 1, hd, v, hv => by
    have ih := t52 d (by omega)
    have h1 := t89 v.names (Nat.le_trans v.sz_names hv)
    have hf : ∀ x ∈ v.values, callV (callW pg) (.fn (.func 90) [] [.ip [.int .i64 ((d : Int) + 1)]]) [x.av] = M.pure (.bool !(fitsP d x)) := by
      intro x hx
      have hsz := Val.sz_mem hx
      have := ih x (by omega)
      show callW pg 90 [x.av, .ip [.int .i64 ((d : Int) + 1)]] = _
      rw [C90]
      simp (disch := omega) [S90, cl, cls, wrap_in, this, show (d : Int) + 1 - 1 = d by omega]
    have h2 := t37 (.fn (.func 90) [] [.ip [.int .i64 ((d : Int) + 1)]]) (fun x => !(fitsP d x)) v.values (by have := v.sz_len; omega) (fun g => rfl) hf
    have h0 : ¬ ((d : Int) + 1 = 0) := by omega
    rw [C52]
    simp [S52, fitsP, h0, h1, h2]
    have hall : (!v.values.any fun x => !fitsP d x) = v.values.all (fitsP d) := by simp [List.not_any_eq_all_not]
    rw [hall]
    split
    · rfl
    · congr 2
      rw [show (v.kind == 2) = decide (v.kind = 2) from rfl, show (v.n == 0) = decide (v.n = 0) from rfl, show (v.names.length == v.values.length) = decide (v.names.length = v.values.length) by rw [Bool.eq_iff_iff]; simp,
        show (!decide ((8 : Int) < (v.names.length : Int))) = decide (v.names.length ≤ 8) by rw [Bool.eq_iff_iff]; simp; omega]
theorem loop93 (f : AV) (F : Val → Val → Bool) (a : List Val) (b : List Val) (hb : a.length ≤ 4611686018427387904) (hab : a.length = b.length) (hf : ∀ x ∈ a, ∀ y ∈ b, callV (callW pg) f [Val.av x, Val.av y] = M.pure (.bool (F x y))) : ∀ (n : Nat) (i : Int), a.length - i.toNat = n → 0 ≤ i → i ≤ a.length →
    fixW (L93_0 (callW pg) fixW) [vals b, f, vals a, .int .i64 a.length, .int .i64 i] = M.pure (.bool (all2 F (a.drop i.toNat) (b.drop i.toNat))) := by
  intro n
  induction n with
  | zero =>
    intro i hn hi hl
    rw [FL93_0]
    simp only [L93_0]
    have h1 : ¬ (i < (a.length : Int)) := by omega
    have h2 : a.drop i.toNat = [] := List.drop_eq_nil_of_le (by omega)
    have h3 : b.drop i.toNat = [] := List.drop_eq_nil_of_le (by omega)
    simp [h1, h2, h3, all2]
  | succ n ih =>
    intro i hn hi hl
    have h1 : i < (a.length : Int) := by omega
    have h1' : i < (b.length : Int) := by omega
    have hlt : i.toNat < a.length := by omega
    have hlt' : i.toNat < b.length := by omega
    have h3 := hf a[i.toNat] (List.getElem_mem hlt) b[i.toNat] (List.getElem_mem hlt')
    have h4 := ih (i + 1) (by omega) (by omega) (by omega)
    rw [show (i + 1).toNat = i.toNat + 1 by omega] at h4
    rw [FL93_0, all2_drop F a b i.toNat hlt hlt']
    simp only [L93_0]
    simp (disch := omega) [h1, wrap_in, IX23, IX23, h4]
    rw [h3]
    cases F a[i.toNat] b[i.toNat] <;> simp
theorem t93 (f : AV) (F : Val → Val → Bool) (a : List Val) (b : List Val) (hb : a.length ≤ 4611686018427387904) (hc : ∀ g, cl g f = f) (hf : ∀ x ∈ a, ∀ y ∈ b, callV (callW pg) f [Val.av x, Val.av y] = M.pure (.bool (F x y))) : callW pg 93 [vals a, vals b, f] = M.pure (.bool (all2 F a b)) := by
  rw [C93]
  by_cases h : a.length = b.length
  · have := loop93 f F a b hb h hf a.length 0 rfl (by omega) (by omega)
    simp [S93, h, hc] at this ⊢
    simp [this]
  · have h3 : (a.length != b.length) = true := by simp [h]
    simp [S93, h3, all2_length F a b h]
mutual
def sameP : Val → Val → Bool
  | .mk k n ns vs, .mk k' n' ns' vs' => k == k' && n == n' && ns == ns' && samesP vs vs'
def samesP : List Val → List Val → Bool
  | [], [] => true
  | v :: vs, w :: ws => sameP v w && samesP vs ws
  | _, _ => false
end
theorem samesP_all2 : (a b : List Val) → samesP a b = all2 sameP a b
  | [], [] => rfl
  | [], _ :: _ => rfl
  | _ :: _, [] => rfl
  | v :: a, w :: b => by simp only [samesP, all2, samesP_all2 a b]
theorem sameP_eq (v w : Val) : sameP v w = (v.kind == w.kind && v.n == w.n && v.names == w.names && all2 sameP v.values w.values) := by
  cases v; cases w; simp only [sameP, samesP_all2, Val.kind, Val.n, Val.names, Val.values]
theorem t54 : ∀ (n : Nat) (v w : Val), v.sz ≤ n → v.sz ≤ 4611686018427387904 → callW pg 54 [v.av, w.av] = M.pure (.bool (sameP v w)) := by
  intro n
  induction n with
  | zero => intro v w h; have := v.sz_pos; omega
  | succ n ih =>
    intro v w hn hv
    have h1 := t92 v.names w.names (Nat.le_trans v.sz_names hv)
    have h2 := t93 (.fn (.func 54) [] []) sameP v.values w.values (by have := v.sz_len; omega) (fun g => rfl) (fun x hx y _ => by
      have := Val.sz_mem hx
      exact ih x y (by omega) (by omega))
    rw [C54, sameP_eq]
    simp [S54, h1, h2]
theorem t21 (v : Val) (hv : v.sz ≤ 4611686018427387904) : callW pg 21 [v.av] = M.pure (.bool (fitsP 4 v)) := by
  rw [C21]
  have := t52 4 (by omega) v hv
  simp at this
  simp [S21, this]
theorem t23 (v w : Val) (hv : v.sz ≤ 4611686018427387904) (hw : w.sz ≤ 4611686018427387904) : callW pg 23 [v.av, w.av] = M.pure (.bool (fitsP 4 v && fitsP 4 w && sameP v w)) := by
  rw [C23]
  simp [S23, t21 v hv, t21 w hw, t54 v.sz v w (Nat.le_refl _) hv]
end Go.Proofs.Ytgbopmciiadmlaa
