/- The guards on sizes: a Bool, and what it says. No condition. -/
import Derived.Test.YtpnonheegflllaaSh0
import Derived.Test.YtpnonheegflllaaOps
import Derived.Test.YtpnonheegflllaaLd
import Derived.Test.YtpnonheegflllaaTp2
namespace Go.Proofs.Ytpnonheegflllaa
open Go Go.Av Go.Av.Ap
set_option maxRecDepth 100000
def Cap (most : Int) (m : M AV) : Prop := ∃ n, m = M.pure (.int .i64 n) ∧ 1 ≤ n ∧ n ≤ most + 1
def SizeOK (e : Exp) : Prop := ∀ most depth : Int, 0 ≤ most → most ≤ 1099511627776 → depth ≤ 1099511627776 → Cap most (callW pg 39 [e.av, .int .i64 most, .int .i64 depth])
theorem loop39 (e : Exp) (hL : e.Lim) (ih : ∀ x ∈ e.args, SizeOK x) (most depth : Int) (h0 : 0 ≤ most) (h1 : most ≤ 1099511627776) (h2 : depth ≤ 1099511627776) (h3 : 1 ≤ depth) :
    ∀ (r : Nat) (n i : Int), e.args.length - i.toNat = r → 0 ≤ i → i ≤ e.args.length → 1 ≤ n → n ≤ most + 1 → Cap most (fixW (L39_0 (callW pg) fixW) [.int .i64 most, .int .i64 depth, .ip (acells e.av), .int .i64 n, .int .i64 i]) := by
  intro r
  induction r with
  | zero =>
    intro n i hr hi hb hn hm
    rw [FL39_0]
    simp only [L39_0]
    have h1 : ¬ (i < (e.args.length : Int)) := by omega
    simp [h1]
    exact ⟨n, rfl, hn, hm⟩
  | succ r IH =>
    intro n i hr hi hb hn hm
    have hlen := hL.len
    have h5 : i < (e.args.length : Int) := by omega
    have hlt : i.toNat < e.args.length := by omega
    rw [FL39_0]
    simp only [L39_0]
    by_cases hs : n ≤ most
    · obtain ⟨k, hk, hk1, hk2⟩ := ih e.args[i.toNat] (List.getElem_mem hlt) (most - n) (depth - 1) (by omega) (by omega) (by omega)
      have h4 := IH (n + k) (i + 1) (by omega) (by omega) (by omega) (by omega) (by omega)
      simp (disch := omega) [h5, hs, IX37, getElem!_pos e.args i.toNat hlt, wrap_in, hk]
      simpa using h4
    · simp [h5, hs]
      exact ⟨n, rfl, hn, hm⟩
theorem t39 : ∀ (N : Nat) (e : Exp), SizeOf.sizeOf e ≤ N → e.Lim → SizeOK e := by
  intro N
  induction N with
  | zero => intro e he; cases e; simp at he
  | succ N ih =>
    intro e he hL most depth h0 h1 h2
    rw [C39]
    have h4 : 1 ≤ depth → _ := fun h3 => loop39 e hL (fun x hx => ih x (by have := arg_size hx; omega) (hL.kid hx)) most depth h0 h1 h2 h3 e.args.length 1 0 rfl (by omega) (by omega) (by omega) (by omega)
    simp [S39]
    by_cases hc : depth < 1 ∨ 12 < (e.names.length : Int)
    · rw [if_pos hc, wrap_in (by omega) (by omega), isoP_int]
      exact ⟨_, rfl, by omega, by omega⟩
    · rw [if_neg hc]
      obtain ⟨n, hn, b⟩ := h4 (by omega)
      simp at hn
      rw [hn, isoP_int]
      exact ⟨n, rfl, b⟩
def PartsOK (e : Ty) : Prop := ∀ most depth : Int, 0 ≤ most → most ≤ 1099511627776 → depth ≤ 1099511627776 → Cap most (callW pg 23 [e.av, .int .i64 most, .int .i64 depth])
theorem fld_size {e : Ty} {x : Fld} (h : x ∈ e.fields) : SizeOf.sizeOf x.2 < SizeOf.sizeOf e := by
  cases e with
  | mk k fs =>
    have h1 := List.sizeOf_lt_of_mem h
    have h2 : SizeOf.sizeOf x.2 < SizeOf.sizeOf x := by cases x; simp; omega
    have h3 : SizeOf.sizeOf x < SizeOf.sizeOf fs := h1
    simp only [Ty.mk.sizeOf_spec]
    show SizeOf.sizeOf x.2 < 1 + SizeOf.sizeOf k + SizeOf.sizeOf fs
    omega
theorem loop23 (e : Ty) (hL : e.Lim) (ih : ∀ x ∈ e.fields, PartsOK x.2) (most depth : Int) (h0 : 0 ≤ most) (h1 : most ≤ 1099511627776) (h2 : depth ≤ 1099511627776) (h3 : 1 ≤ depth) :
    ∀ (r : Nat) (n i : Int), e.fields.length - i.toNat = r → 0 ≤ i → i ≤ e.fields.length → 1 ≤ n → n ≤ most + 1 → Cap most (fixW (L23_0 (callW pg) fixW) [.int .i64 most, .int .i64 depth, .ip (acells e.av), .int .i64 n, .int .i64 i]) := by
  intro r
  induction r with
  | zero =>
    intro n i hr hi hb hn hm
    rw [FL23_0]
    simp only [L23_0]
    have h1 : ¬ (i < (e.fields.length : Int)) := by omega
    simp [h1]
    exact ⟨n, rfl, hn, hm⟩
  | succ r IH =>
    intro n i hr hi hb hn hm
    have hlen := hL.len
    have h5 : i < (e.fields.length : Int) := by omega
    have hlt : i.toNat < e.fields.length := by omega
    rw [FL23_0]
    simp only [L23_0]
    by_cases hs : n ≤ most
    · obtain ⟨k, hk, hk1, hk2⟩ := ih e.fields[i.toNat] (List.getElem_mem hlt) (most - n) (depth - 1) (by omega) (by omega) (by omega)
      have h4 := IH (n + k) (i + 1) (by omega) (by omega) (by omega) (by omega) (by omega)
      simp (disch := omega) [h5, hs, IX36, getElem!_pos e.fields i.toNat hlt, wrap_in, hk]
      simpa using h4
    · simp [h5, hs]
      exact ⟨n, rfl, hn, hm⟩
theorem t23 : ∀ (N : Nat) (e : Ty), SizeOf.sizeOf e ≤ N → e.Lim → PartsOK e := by
  intro N
  induction N with
  | zero => intro e he; cases e; simp at he
  | succ N ih =>
    intro e he hL most depth h0 h1 h2
    rw [C23]
    have h4 : 1 ≤ depth → _ := fun h3 => loop23 e hL (fun x hx => ih x.2 (by have := fld_size hx; omega) (hL.kid hx)) most depth h0 h1 h2 h3 e.fields.length 1 0 rfl (by omega) (by omega) (by omega) (by omega)
    simp [S23]
    by_cases hc : depth < 1
    · rw [if_pos hc, wrap_in (by omega) (by omega), isoP_int]
      exact ⟨_, rfl, by omega, by omega⟩
    · rw [if_neg hc]
      obtain ⟨n, hn, b⟩ := h4 (by omega)
      simp at hn
      rw [hn, isoP_int]
      exact ⟨n, rfl, b⟩
def BB (P : Prop) (m : M AV) : Prop := ∃ b, m = M.pure (.bool b) ∧ (b = true → P)
theorem BB.no {P : Prop} : BB P (M.pure (.bool false)) := ⟨false, rfl, fun h => by cases h⟩
theorem loop21 (l : List Exp) (hl : l.length ≤ 140737488355328) (hL : ∀ e ∈ l, e.Lim) : ∀ (r : Nat) (i : Int), l.length - i.toNat = r → 0 ≤ i → i ≤ l.length → BB True (fixW (L21_0 (callW pg) fixW) [exps l, .int .i64 i]) := by
  intro r
  induction r with
  | zero =>
    intro i hr hi hb
    rw [FL21_0]
    simp only [L21_0]
    have h1 : ¬ (i < (l.length : Int)) := by omega
    simp [h1]
    exact ⟨_, rfl, fun _ => trivial⟩
  | succ r IH =>
    intro i hr hi hb
    have h5 : i < (l.length : Int) := by omega
    have hlt : i.toNat < l.length := by omega
    rw [FL21_0]
    simp only [L21_0]
    by_cases hs : i < 9
    · obtain ⟨k, hk, hk1, hk2⟩ := t39 _ l[i.toNat] (Nat.le_refl _) (hL _ (List.getElem_mem hlt)) 50 16 (by omega) (by omega) (by omega)
      have h4 := IH (i + 1) (by omega) (by omega) (by omega)
      simp (disch := omega) [h5, hs, IX37, getElem!_pos l i.toNat hlt, wrap_in, hk]
      by_cases hg : 50 < k
      · rw [if_pos hg]; exact .no
      · rw [if_neg hg]; exact h4
    · simp [h5, hs]
      exact ⟨_, rfl, fun _ => trivial⟩
theorem t21 (l : List Exp) (hl : l.length ≤ 140737488355328) (hL : ∀ e ∈ l, e.Lim) : ∃ b, callW pg 21 [exps l] = M.pure (.bool b) := by
  rw [C21]
  obtain ⟨b, hb, _⟩ := loop21 l hl hL l.length 0 rfl (by omega) (by omega)
  refine ⟨b, ?_⟩
  simp [S21, hb]
theorem loop22 (l : List Fld) (hl : l.length ≤ 140737488355328) (hL : ∀ e ∈ l, e.2.Lim) : ∀ (r : Nat) (i : Int), l.length - i.toNat = r → 0 ≤ i → i ≤ l.length → BB True (fixW (L22_0 (callW pg) fixW) [flds l, .int .i64 i]) := by
  intro r
  induction r with
  | zero =>
    intro i hr hi hb
    rw [FL22_0]
    simp only [L22_0]
    have h1 : ¬ (i < (l.length : Int)) := by omega
    simp [h1]
    exact ⟨_, rfl, fun _ => trivial⟩
  | succ r IH =>
    intro i hr hi hb
    have h5 : i < (l.length : Int) := by omega
    have hlt : i.toNat < l.length := by omega
    rw [FL22_0]
    simp only [L22_0]
    by_cases hs : i < 9
    · obtain ⟨k, hk, hk1, hk2⟩ := t23 _ l[i.toNat].2 (Nat.le_refl _) (hL _ (List.getElem_mem hlt)) 30 6 (by omega) (by omega) (by omega)
      have h4 := IH (i + 1) (by omega) (by omega) (by omega)
      simp (disch := omega) [h5, hs, IX36, getElem!_pos l i.toNat hlt, wrap_in, hk]
      by_cases hg : 30 < k
      · rw [if_pos hg]; exact .no
      · rw [if_neg hg]; exact h4
    · simp [h5, hs]
      exact ⟨_, rfl, fun _ => trivial⟩
theorem t22 (l : List Fld) (hl : l.length ≤ 140737488355328) (hL : ∀ e ∈ l, e.2.Lim) : ∃ b, callW pg 22 [flds l] = M.pure (.bool b) := by
  rw [C22]
  obtain ⟨b, hb, _⟩ := loop22 l hl hL l.length 0 rfl (by omega) (by omega)
  refine ⟨b, ?_⟩
  simp [S22, hb]
theorem few_in (K : List AV → M AV) {Q : Prop} (p : List Mod) (m : Mod) (M0 : m.Lim) (i : Int) (hi0 : 0 ≤ i) (hi1 : i ≤ 9) (hK : BB Q (K [mods p, .int .i64 (i + 1)])) : ∀ (r : Nat) (j : Int), m.funcs.length - j.toNat = r → 0 ≤ j → j ≤ m.funcs.length →
    BB (m.funcs.length ≤ 6 ∧ Q) (fixW (L7_0 (callW pg) fixW K) [mods p, .int .i64 i, .ip (acells m.av), .int .i64 j]) := by
  obtain ⟨bk, hk1, hk2⟩ := hK
  obtain ⟨b1, h1⟩ := t22 m.vars M0.vars M0.vty
  obtain ⟨b2, h2⟩ := t21 m.init M0.init M0.ies
  obtain ⟨b3, h3⟩ := t22 m.old M0.old M0.oty
  obtain ⟨b4, h4⟩ := t21 m.forward M0.forward M0.fes
  obtain ⟨b5, h5⟩ := t21 m.back M0.back M0.bes
  have hfl := M0.funcs
  intro r
  induction r with
  | zero =>
    intro j hr hj hb
    rw [FL7_0]
    simp only [L7_0]
    have hjl : ¬ (j < (m.funcs.length : Int)) := by omega
    simp (disch := omega) [hjl, h1, h2, h3, h4, h5, wrap_in, hk1]
    refine ⟨_, rfl, fun h => ?_⟩
    simp at h
    exact ⟨by omega, hk2 h.2⟩
  | succ r IH =>
    intro j hr hj hb
    have hjl : j < (m.funcs.length : Int) := by omega
    have hlt : j.toNat < m.funcs.length := by omega
    rw [FL7_0]
    simp only [L7_0]
    by_cases hs : j < 7
    · have hf := M0.fns _ (List.getElem_mem hlt)
      obtain ⟨b6, h6⟩ := t21 [m.funcs[j.toNat].body] (by simp) (fun e he => by rw [List.mem_singleton.1 he]; exact hf.body)
      obtain ⟨b7, h7⟩ := t22 m.funcs[j.toNat].params hf.params hf.pty
      obtain ⟨k, h8, _, _⟩ := t23 _ m.funcs[j.toNat].result (Nat.le_refl _) hf.result 30 6 (by omega) (by omega) (by omega)
      have hB : ∀ e : Exp, buildSliceA T 37 1 [(0, e.av)] = some (exps [e]) := fun e => by cases e; rfl
      have h9 := IH (j + 1) (by omega) (by omega) (by omega)
      simp (disch := omega) [hjl, hs, IX38, getElem!_pos m.funcs j.toNat hlt, hB, h6, h7, h8, wrap_in]
      split
      · exact .no
      · simpa using h9
    · simp (disch := omega) [hjl, hs, h1, h2, h3, h4, h5, wrap_in, hk1]
      refine ⟨_, rfl, fun h => ?_⟩
      simp at h
      exact ⟨by omega, hk2 h.2⟩
theorem loop7 (p : List Mod) (hp : p.length ≤ 140737488355328) (hM : ∀ m ∈ p, m.Lim) : ∀ (r : Nat) (i : Int), p.length - i.toNat = r → 0 ≤ i → i ≤ p.length → BB (p.length ≤ 4 ∧ ∀ m ∈ p.drop i.toNat, m.funcs.length ≤ 6) (fixW (L7_1 (callW pg) fixW) [mods p, .int .i64 i]) := by
  intro r
  induction r with
  | zero =>
    intro i hr hi hb
    rw [FL7_1]
    simp only [L7_1]
    have h1 : ¬ (i < (p.length : Int)) := by omega
    simp [h1]
    refine ⟨_, rfl, fun h => ⟨by simp at h; omega, fun m hm => ?_⟩⟩
    rw [List.drop_eq_nil_of_le (by omega)] at hm
    cases hm
  | succ r IH =>
    intro i hr hi hb
    have h1 : i < (p.length : Int) := by omega
    have hlt : i.toNat < p.length := by omega
    rw [FL7_1]
    simp only [L7_1]
    by_cases hs : i < 5
    · have h4 := IH (i + 1) (by omega) (by omega) (by omega)
      have h5 := few_in (fixW (L7_1 (callW pg) fixW)) p p[i.toNat] (hM _ (List.getElem_mem hlt)) i hi (by omega) h4 p[i.toNat].funcs.length 0 rfl (by omega) (by omega)
      simp (disch := omega) [h1, hs, IX22, getElem!_pos p i.toNat hlt]
      obtain ⟨b, e, hb⟩ := h5
      simp at e
      refine ⟨b, e, fun h => ?_⟩
      obtain ⟨q1, q2, q3⟩ := hb h
      refine ⟨q2, fun m hm => ?_⟩
      rw [List.drop_eq_getElem_cons hlt] at hm
      rcases List.mem_cons.1 hm with rfl | hm
      · exact q1
      · exact q3 m (by rw [show (i + 1).toNat = i.toNat + 1 by omega]; exact hm)
    · simp [h1, hs]
      refine ⟨_, rfl, fun h => ?_⟩
      simp at h
      omega
theorem t7 (p : List Mod) (hp : p.length ≤ 140737488355328) (hM : ∀ m ∈ p, m.Lim) : BB (p.length ≤ 4 ∧ ∀ m ∈ p, m.funcs.length ≤ 6) (callW pg 7 [mods p]) := by
  rw [C7]
  obtain ⟨b, h1, h2⟩ := loop7 p hp hM p.length 0 rfl (by omega) (by omega)
  refine ⟨b, ?_, fun h => h2 h⟩
  simp [S7, h1]
end Go.Proofs.Ytpnonheegflllaa
