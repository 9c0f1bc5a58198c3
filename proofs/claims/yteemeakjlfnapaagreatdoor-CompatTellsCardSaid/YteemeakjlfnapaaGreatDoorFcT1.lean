/- What the functions on names, types and interfaces compute. No condition. -/
import Derived.Test.YteemeakjlfnapaaGreatDoorSh0
import Derived.Test.YteemeakjlfnapaaGreatDoorSh1
import Derived.Test.YteemeakjlfnapaaGreatDoorSh2
import Derived.Test.YteemeakjlfnapaaGreatDoorSh3
import Derived.Test.YteemeakjlfnapaaGreatDoorOps
import Derived.Test.YteemeakjlfnapaaGreatDoorLd
namespace Go.Proofs.YteemeakjlfnapaaGreatDoor
open Go Go.Av Go.Av.Ap
set_option maxRecDepth 100000
@[simp] theorem bin8_geq (t : Nat) (a b : Int) : binA T .geq t (.int .u8 a) (.int .u8 b) = some (.bool (decide (b ≤ a))) := rfl
@[simp] theorem bin8_leq (t : Nat) (a b : Int) : binA T .leq t (.int .u8 a) (.int .u8 b) = some (.bool (decide (a ≤ b))) := rfl
@[simp] theorem str_leq (t : Nat) (a b : Str) : binA T .leq t (.str a) (.str b) = some (.bool (strLess a b || a == b)) := rfl
theorem loop189 (f : AV) (F : Fld → Bool) (l : List Fld) (hb : l.length ≤ 4611686018427387904) (hf : ∀ x ∈ l, callV (callW pg) f [fldAv x] = M.pure (.bool (F x))) : ∀ (n : Nat) (i : Int), l.length - i.toNat = n → 0 ≤ i → i ≤ l.length →
    fixW (L189_0 (callW pg) fixW) [flds l, f, .int .i64 l.length, .int .i64 i] = M.pure (.int .i64 (idxAt F (l.drop i.toNat) i)) := by
  intro n
  induction n with
  | zero =>
    intro i hn hi hl
    rw [FL189_0]
    simp only [L189_0]
    have h1 : ¬ (i < (l.length : Int)) := by omega
    have h2 : l.drop i.toNat = [] := List.drop_eq_nil_of_le (by omega)
    simp [h1, h2, idxAt]
  | succ n ih =>
    intro i hn hi hl
    have h1 : i < (l.length : Int) := by omega
    have hlt : i.toNat < l.length := by omega
    have h2 : idxAt F (l.drop i.toNat) i = if F l[i.toNat] = true then i else idxAt F (l.drop (i.toNat + 1)) (i + 1) := by rw [List.drop_eq_getElem_cons hlt]; rfl
    have h3 := hf l[i.toNat] (List.getElem_mem hlt)
    have h4 := ih (i + 1) (by omega) (by omega) (by omega)
    rw [show (i + 1).toNat = i.toNat + 1 by omega] at h4
    rw [FL189_0]
    simp only [L189_0]
    simp (disch := omega) [h1, wrap_in, IX25, h3, h2]
    cases F l[i.toNat]
    · simpa using h4
    · simp
theorem t189 (f : AV) (F : Fld → Bool) (l : List Fld) (hb : l.length ≤ 4611686018427387904) (hc : ∀ g, cl g f = f) (hf : ∀ x ∈ l, callV (callW pg) f [fldAv x] = M.pure (.bool (F x))) : callW pg 189 [flds l, f] = M.pure (.int .i64 (idxAt F l 0)) := by
  rw [C189]
  simp [S189, hc, loop189 f F l hb hf l.length 0 rfl (by omega) (by omega)]
theorem t131 (f : AV) (F : Fld → Bool) (l : List Fld) (hb : l.length ≤ 4611686018427387904) (hc : ∀ g, cl g f = f) (hf : ∀ x ∈ l, callV (callW pg) f [fldAv x] = M.pure (.bool (F x))) : callW pg 131 [flds l, f] = M.pure (.bool (l.any F)) := by
  rw [C131]
  simp [S131, hc, t189 f F l hb hc hf, idxAt_any]
theorem loop204 (f : AV) (F : Ty → Bool) (l : List Ty) (hb : l.length ≤ 4611686018427387904) (hf : ∀ x ∈ l, callV (callW pg) f [Ty.av x] = M.pure (.bool (F x))) : ∀ (n : Nat) (i : Int), l.length - i.toNat = n → 0 ≤ i → i ≤ l.length →
    fixW (L204_0 (callW pg) fixW) [tys l, f, .int .i64 l.length, .int .i64 i] = M.pure (.int .i64 (idxAt F (l.drop i.toNat) i)) := by
  intro n
  induction n with
  | zero =>
    intro i hn hi hl
    rw [FL204_0]
    simp only [L204_0]
    have h1 : ¬ (i < (l.length : Int)) := by omega
    have h2 : l.drop i.toNat = [] := List.drop_eq_nil_of_le (by omega)
    simp [h1, h2, idxAt]
  | succ n ih =>
    intro i hn hi hl
    have h1 : i < (l.length : Int) := by omega
    have hlt : i.toNat < l.length := by omega
    have h2 : idxAt F (l.drop i.toNat) i = if F l[i.toNat] = true then i else idxAt F (l.drop (i.toNat + 1)) (i + 1) := by rw [List.drop_eq_getElem_cons hlt]; rfl
    have h3 := hf l[i.toNat] (List.getElem_mem hlt)
    have h4 := ih (i + 1) (by omega) (by omega) (by omega)
    rw [show (i + 1).toNat = i.toNat + 1 by omega] at h4
    rw [FL204_0]
    simp only [L204_0]
    simp (disch := omega) [h1, wrap_in, IX54, h3, h2]
    cases F l[i.toNat]
    · simpa using h4
    · simp
theorem t204 (f : AV) (F : Ty → Bool) (l : List Ty) (hb : l.length ≤ 4611686018427387904) (hc : ∀ g, cl g f = f) (hf : ∀ x ∈ l, callV (callW pg) f [Ty.av x] = M.pure (.bool (F x))) : callW pg 204 [tys l, f] = M.pure (.int .i64 (idxAt F l 0)) := by
  rw [C204]
  simp [S204, hc, loop204 f F l hb hf l.length 0 rfl (by omega) (by omega)]
theorem t148 (f : AV) (F : Ty → Bool) (l : List Ty) (hb : l.length ≤ 4611686018427387904) (hc : ∀ g, cl g f = f) (hf : ∀ x ∈ l, callV (callW pg) f [Ty.av x] = M.pure (.bool (F x))) : callW pg 148 [tys l, f] = M.pure (.bool (l.any F)) := by
  rw [C148]
  simp [S148, hc, t204 f F l hb hc hf, idxAt_any]
theorem loop101 (f : AV) (F : Sig → Bool) (l : List Sig) (hb : l.length ≤ 4611686018427387904) (hf : ∀ x ∈ l, callV (callW pg) f [Sig.av x] = M.pure (.bool (F x))) : ∀ (n : Nat) (i : Int), l.length - i.toNat = n → 0 ≤ i → i ≤ l.length →
    fixW (L101_0 (callW pg) fixW) [sigs l, f, .int .i64 l.length, .int .i64 i] = M.pure (.int .i64 (idxAt F (l.drop i.toNat) i)) := by
  intro n
  induction n with
  | zero =>
    intro i hn hi hl
    rw [FL101_0]
    simp only [L101_0]
    have h1 : ¬ (i < (l.length : Int)) := by omega
    have h2 : l.drop i.toNat = [] := List.drop_eq_nil_of_le (by omega)
    simp [h1, h2, idxAt]
  | succ n ih =>
    intro i hn hi hl
    have h1 : i < (l.length : Int) := by omega
    have hlt : i.toNat < l.length := by omega
    have h2 : idxAt F (l.drop i.toNat) i = if F l[i.toNat] = true then i else idxAt F (l.drop (i.toNat + 1)) (i + 1) := by rw [List.drop_eq_getElem_cons hlt]; rfl
    have h3 := hf l[i.toNat] (List.getElem_mem hlt)
    have h4 := ih (i + 1) (by omega) (by omega) (by omega)
    rw [show (i + 1).toNat = i.toNat + 1 by omega] at h4
    rw [FL101_0]
    simp only [L101_0]
    simp (disch := omega) [h1, wrap_in, IX22, h3, h2]
    cases F l[i.toNat]
    · simpa using h4
    · simp
theorem t101 (f : AV) (F : Sig → Bool) (l : List Sig) (hb : l.length ≤ 4611686018427387904) (hc : ∀ g, cl g f = f) (hf : ∀ x ∈ l, callV (callW pg) f [Sig.av x] = M.pure (.bool (F x))) : callW pg 101 [sigs l, f] = M.pure (.int .i64 (idxAt F l 0)) := by
  rw [C101]
  simp [S101, hc, loop101 f F l hb hf l.length 0 rfl (by omega) (by omega)]
theorem t199 (b : UInt8) : callW pg 199 [.int .u8 b.toNat] = M.pure (.bool (letterB b)) := by
  rw [C199]
  have e : decide ((b.toNat : Int) ≤ 122) = decide (b.toNat ≤ 122) := decide_eq_decide.2 (by omega)
  have e2 : decide (97 ≤ (b.toNat : Int)) = decide (97 ≤ b.toNat) := decide_eq_decide.2 (by omega)
  simp [S199, letterB, e, e2]
theorem t202 (b : UInt8) : callW pg 202 [.int .u8 b.toNat] = M.pure (.bool (digitB b)) := by
  rw [C202]
  have e : decide ((b.toNat : Int) ≤ 57) = decide (b.toNat ≤ 57) := decide_eq_decide.2 (by omega)
  have e2 : decide (48 ≤ (b.toNat : Int)) = decide (48 ≤ b.toNat) := decide_eq_decide.2 (by omega)
  simp [S202, digitB, e, e2]
theorem t201 (b : UInt8) : callW pg 201 [.int .u8 b.toNat] = M.pure (.bool (alnumB b)) := by
  rw [C201]
  simp [S201, t199, t202, alnumB]
theorem ixStr {s : Str} {i : Nat} (h : i < s.length) : indexStrA T 9 (.str s) (.int .i64 (i : Int)) = some (.int .u8 (s[i].toNat : Int)) := by
  have e1 : indexStrA T 9 (.str s) (.int .i64 (i : Int)) = (if (i : Int) < 0 then none else s[(i : Int).toNat]?.map fun b => .int .u8 b.toNat) := rfl
  rw [e1, if_neg (by omega), Int.toNat_natCast, List.getElem?_eq_getElem h]
  rfl
theorem loop200 (F : UInt8 → Bool) (f : AV) (s : Str) (hb : s.length ≤ 4611686018427387904) (hf : ∀ b : UInt8, callV (callW pg) f [.int .u8 b.toNat] = M.pure (.bool (F b))) : ∀ (n i : Nat), s.length - i = n → i ≤ s.length →
    fixW (L200_0 (callW pg) fixW) [.str s, f, .int .i64 i] = M.pure (.int .i64 ((i + ((s.drop i).takeWhile F).length : Nat) : Int)) := by
  intro n
  induction n with
  | zero =>
    intro i hn hi
    rw [FL200_0]
    simp only [L200_0]
    have h1 : ¬ ((i : Int) < (s.length : Int)) := by omega
    have h2 : s.drop i = [] := List.drop_eq_nil_of_le (by omega)
    simp [h1, h2]
  | succ n ih =>
    intro i hn hi
    have hlt : i < s.length := by omega
    have h1 : (i : Int) < (s.length : Int) := by omega
    have h2 : s.drop i = s[i] :: s.drop (i + 1) := List.drop_eq_getElem_cons hlt
    have h4 := ih (i + 1) (by omega) (by omega)
    have hw : IntKind.i64.wrap ((i : Int) + 1) = ((i + 1 : Nat) : Int) := wrap_add1 (by omega)
    rw [FL200_0]
    simp only [L200_0, nth_zero, nth_succ, LEN9, bnd_some, bin_lss, h1, decide_true, guardM_take1, ixStr hlt, hf, bnd_pure, pickA_true, condM_bool, bin_add, hw, h4, h2, List.takeWhile_cons]
    cases F s[i]
    · simp
    · rw [if_pos rfl, if_pos rfl]
      congr 3
      simp
      omega
theorem t146 (s : Str) : callW pg 146 [.str s] = M.pure (.bool (wordP s)) := by
  rw [C146]
  by_cases hs : s = []
  · subst hs
    simp [S146, wordP]
  · have hs' : (s == []) = false := beq_eq_false_iff_ne.2 hs
    have hpos : 0 < s.length := List.length_pos_iff.2 hs
    have h0 := ixStr (s := s) (i := 0) hpos
    have hd : s[0] = s.headD 0 := by cases s with | nil => exact absurd rfl hs | cons c s => rfl
    rw [hd] at h0
    simp at h0
    by_cases hl : s.length ≤ 20
    · have h1 := loop200 alnumB (.fn (.func 201) [] []) s (by omega) (fun b => t201 b) s.length 0 (by simp) (by simp)
      have hsp : callW pg 200 [.str s, .fn (.func 201) [] []] = M.pure (.int .i64 (((s.takeWhile alnumB).length : Nat) : Int)) := by
        rw [C200]
        simp only [S200, cl, cls]
        rw [show (AV.int .i64 0) = AV.int .i64 ((0 : Nat) : Int) from rfl, h1]
        simp
      have e1 : decide (20 < (s.length : Int)) = false := by rw [decide_eq_false_iff_not]; omega
      have e3 : decide (20 < s.length) = false := by rw [decide_eq_false_iff_not]; omega
      have e4 : decide (s.length ≤ 20) = true := by simpa using hl
      simp [S146, hs', h0, t199, hsp, e1, e3, e4, wordP]
    · have e1 : decide (20 < (s.length : Int)) = true := by rw [decide_eq_true_eq]; omega
      have e3 : decide (20 < s.length) = true := by rw [decide_eq_true_eq]; omega
      have e4 : decide (s.length ≤ 20) = false := by simpa using hl
      simp [S146, hs', h0, t199, e1, e3, e4, wordP]
theorem t147 (s : Str) : callW pg 147 [.str reservedS, .str s] = M.pure (.bool (Lib.contains reservedS s)) := by
  rw [callW_other hOther (E := containsE) rfl]
  rfl
theorem str_add (t : Nat) (a b : Str) : binA T .add t (.str a) (.str b) = if a.length + b.length ≤ 4611686018427387904 then some (.str (a ++ b)) else none := rfl
theorem t76 (s : Str) : callW pg 76 [.str s] = M.pure (.bool (nameP s)) := by
  rw [C76]
  have h1 := t146 s
  unfold nameP
  cases hw : wordP s with
  | false =>
    rw [hw] at h1
    simp [S76, h1]
  | true =>
    have hl := wordP_len hw
    rw [hw] at h1
    have h2 := t147 ([32] ++ s ++ [32])
    unfold reservedS at h2
    have e1 : binA T .add 9 (.str [32]) (.str s) = some (.str ([32] ++ s)) := by rw [str_add, if_pos (by simp; omega)]
    have e2 : binA T .add 9 (.str ([32] ++ s)) (.str [32]) = some (.str ([32] ++ s ++ [32])) := by rw [str_add, if_pos (by simp; omega)]
    simp only [S76, cl_str, h1, bnd_pure, guardM_take1, e1, bnd_some, e2, h2, unA_not, nth_zero, pickA_true, isoP_bool, Bool.true_and]
    rfl
theorem lim_fld {t : Ty} (h : t.Lim) (k : Nat) (hk : k < t.fields.length) : (t.fields[k]!).2.Lim := by
  rw [getElem!_pos t.fields k hk]
  exact h.kid (List.getElem_mem hk)
theorem t116 : ∀ (d : Nat), d ≤ 4 → ∀ (t : Ty), t.Lim → callW pg 116 [t.av, .int .i64 d] = M.pure (.bool (rightN d t))
  | 0, _, t, _ => by
    rw [C116]
    simp [S116, rightN]
  | d + 1, hd, t, ht => by
    have ih := t116 d (by omega)
    have hlen := ht.len
    have hd1 : IntKind.i64.wrap ((((d + 1 : Nat)) : Int) - 1) = (d : Int) := wrap_sub1 (by omega)
    have hloop := fix_all (F := L116_0 (callW pg) fixW) (FL116_0 (callW pg)) (fun k => [.int .i64 ((d + 1 : Nat) : Int), .ip (acells t.av), flds t.fields, .int .i64 t.fields.length, .int .i64 k]) t.fields.length
      (fun k => (nameP (t.fields[k]!).1 && rightN d (t.fields[k]!).2) && (decide (k = 0) || aheadB (t.fields[k - 1]!).1 (t.fields[k]!).1))
      (by simp [L116_0]) (fun k hk => by
        have h1 : (k : Int) < (t.fields.length : Int) := by omega
        have hix := IX25 (l := t.fields) (n := (k : Int)) (by omega) h1
        rw [Int.toNat_natCast] at hix
        have hm : t.fields[k]! ∈ t.fields := by rw [getElem!_pos t.fields k hk]; exact List.getElem_mem hk
        have h2 := t76 (t.fields[k]!).1
        have h3 := ih (t.fields[k]!).2 (lim_fld ht k hk)
        have hw : IntKind.i64.wrap ((k : Int) + 1) = (k : Int) + 1 := by rw [wrap_add1 (by omega)]; simp
        have hd0 : IntKind.i64.wrap (d : Int) = (d : Int) := wrap_nat (by omega)
        generalize t.fields[k]! = f at hix h2 h3 hm ⊢
        rcases Nat.eq_zero_or_pos k with hk0 | hk0
        · subst hk0
          have hix0 : indexAddrA T 25 (flds t.fields) (.int .i64 0) = some (.ip (acells (fldAv f))) := hix
          have hw0 : IntKind.i64.wrap 1 = 1 := rfl
          simp [L116_0, hix0, h2, h3, hw0, hd0, hk]
          cases nameP f.1 <;> cases rightN d f.2 <;> simp
        · have hp : IntKind.i64.wrap ((k : Int) - 1) = ((k - 1 : Nat) : Int) := by
            rw [wrap_in (by omega) (by omega)]; omega
          have h4 : ((k - 1 : Nat) : Int) < (t.fields.length : Int) := by omega
          have hix2 := IX25 (l := t.fields) (n := ((k - 1 : Nat) : Int)) (by omega) h4
          rw [Int.toNat_natCast] at hix2
          generalize t.fields[k - 1]! = g at hix2 ⊢
          have hk1 : ¬ k = 0 := by omega
          simp [L116_0, h1, hix, h2, h3, hw, hd0, hp, hix2, hk0, hk1, hk]
          cases nameP f.1 <;> simp
          cases h5 : strLess f.1 g.1 <;> cases rightN d f.2 <;> by_cases h6 : f.1 = g.1 <;> simp [aheadB, h5, h6]) 0 (Nat.zero_le _)
    have hall : ((List.range' 0 t.fields.length).all fun k => (nameP (t.fields[k]!).1 && rightN d (t.fields[k]!).2) && (decide (k = 0) || aheadB (t.fields[k - 1]!).1 (t.fields[k]!).1)) = (t.fields.all (fun f => nameP f.1 && rightN d f.2) && ascQ (fun a b => aheadB a.1 b.1) t.fields) :=
      all_asc (fun f : Fld => nameP f.1 && rightN d f.2) (fun a b => aheadB a.1 b.1) t.fields
    rw [Nat.sub_zero, hall] at hloop
    rw [C116]
    have h0 : ¬ ((d : Int) + 1 = 0) := by omega
    have hl2 : fixW (L116_0 (callW pg) fixW) [.int .i64 ((d : Int) + 1), .ip [.int .i64 t.kind, flds t.fields], flds t.fields, .int .i64 t.fields.length, .int .i64 0] = M.pure (.bool (t.fields.all (fun f => nameP f.1 && rightN d f.2) && ascQ (fun a b => aheadB a.1 b.1) t.fields)) := by
      simpa using hloop
    have hR : rightN (d + 1) t = if ((t.kind < 0 ∨ 3 ≤ t.kind) ∨ 8 < (t.fields.length : Int)) ∨ ¬ t.kind = 2 ∧ 0 < t.fields.length then false else (t.fields.all (fun f => nameP f.1 && rightN d f.2) && ascQ (fun a b => aheadB a.1 b.1) t.fields) := by
      rw [rightN_succ]
      generalize (t.fields.all (fun f => nameP f.1 && rightN d f.2) && ascQ (fun a b => aheadB a.1 b.1) t.fields) = q
      generalize t.fields.length = n
      generalize t.kind = k
      split
      · rename_i hc
        cases q
        · simp
        · simp only [Bool.and_true, Bool.and_eq_false_iff, decide_eq_false_iff_not, Bool.or_eq_false_iff, beq_eq_false_iff_ne]
          rcases hc with ((h | h) | h) | h
          · exact .inl (.inl (.inl (by omega)))
          · exact .inl (.inl (.inr (by omega)))
          · exact .inl (.inr (by omega))
          · exact .inr ⟨h.1, by omega⟩
      · rename_i hc
        have e1 : decide (0 ≤ k) = true := by rw [decide_eq_true_eq]; omega
        have e2 : decide (k < 3) = true := by rw [decide_eq_true_eq]; omega
        have e3 : decide (n ≤ 8) = true := by rw [decide_eq_true_eq]; omega
        have e4 : (k == 2 || n == 0) = true := by
          rw [Bool.or_eq_true, beq_iff_eq, beq_iff_eq]; omega
        rw [e1, e2, e3, e4]
        simp
    rw [hR]
    simp [S116, h0, hl2]
theorem t47 (t : Ty) (ht : t.Lim) : callW pg 47 [t.av] = M.pure (.bool (rightT t)) := by
  rw [C47]
  have : callW pg 116 [t.av, .int .i64 4] = M.pure (.bool (rightN 4 t)) := t116 4 (by omega) t ht
  simp [S47, this]
theorem t73 (t : Ty) (ht : t.Lim) : callW pg 73 [t.av] = M.pure (.bool (rightT t)) := by
  rw [C73]
  simp [S73, t47 t ht]
theorem fldsOf_flds : (l : List Fld) → fldsOf (fldsAv l) = some (l.map fun f => (f.1, f.2.kind, fldsAv f.2.fields))
  | [] => rfl
  | f :: l => by simp [fldsAv, fldsOf, fldsOf_flds l, fldAv_eq, fldOf, flds]
theorem lastF_map {α β : Type} (g : α → β) (p : β → Bool) : (l : List α) → lastF p (l.map g) = (lastF (fun x => p (g x)) l).map g
  | [] => rfl
  | x :: l => by
    simp only [List.map_cons, lastF, lastF_map g p l]
    cases lastF (fun x => p (g x)) l with
    | some y => rfl
    | none => cases p (g x) <;> rfl
def ty0 : Ty := .mk 0 []
theorem t181 (l : List Fld) (hl : l.length ≤ 1000000000) (s : Str) : callW pg 181 [flds l, .str s] = M.pure (.tup [((lastF (fun f => f.1 == s) l).map (·.2)).getD ty0 |>.av, .bool (lastF (fun f => f.1 == s) l).isSome]) := by
  rw [callW_other hOther (E := lookupE) rfl]
  unfold lookupE flds
  simp only [fldsOf_flds, List.length_map, hl, decide_true, cond_true, lookA2, lastF_map]
  cases lastF (fun f : Fld => f.1 == s) l with
  | none => rfl
  | some f => simp [lft, M.pure, Ty.av, Ty.cells_eq, flds]; rfl
def Ty.Short : Nat → Ty → Prop
  | 0, _ => True
  | n + 1, t => t.fields.length ≤ 1000000000 ∧ ∀ f ∈ t.fields, Ty.Short n f.2
theorem rightN_short : ∀ (d : Nat) (t : Ty), rightN d t = true → ∀ n, Ty.Short n t
  | 0, t, h, _ => by cases h
  | d + 1, t, h, 0 => trivial
  | d + 1, t, h, n + 1 => by
    rw [rightN_succ] at h
    simp only [Bool.and_eq_true, decide_eq_true_eq, List.all_eq_true] at h
    exact ⟨by omega, fun f hf => rightN_short d f.2 (h.2.1 f hf).2 n⟩
theorem lastF_mem {α : Type} {p : α → Bool} : {l : List α} → {x : α} → lastF p l = some x → x ∈ l ∧ p x = true
  | [], x, h => by cases h
  | y :: l, x, h => by
    simp only [lastF] at h
    cases h2 : lastF p l with
    | some z =>
      rw [h2] at h
      cases h
      have := lastF_mem h2
      exact ⟨List.mem_cons_of_mem _ this.1, this.2⟩
    | none =>
      rw [h2] at h
      cases h3 : p y with
      | true => rw [h3] at h; cases h; exact ⟨List.mem_cons_self, h3⟩
      | false => rw [h3] at h; cases h
theorem not_any_not {α : Type} (P : α → Bool) (l : List α) : (!l.any fun x => !P x) = l.all P := by simp [List.not_any_eq_all_not]
theorem t125 : ∀ (n : Nat) (b a : Ty), Ty.Short n a → Ty.Short n b → rightN n b = true → callW pg 125 [a.av, b.av] = M.pure (.bool (belowT a b))
  | 0, b, a, _, _, h => by cases h
  | n + 1, b, a, ha, hb, h => by
    have ih := t125 n
    rw [rightN_succ] at h
    simp only [Bool.and_eq_true, decide_eq_true_eq, List.all_eq_true] at h
    have hf : ∀ f ∈ b.fields, callV (callW pg) (.fn (.func 186) [] [.ip (acells a.av)]) [fldAv f] = M.pure (.bool (!(match lastF (fun z => z.1 == f.1) a.fields with | some z => belowT z.2 f.2 | none => false))) := by
      intro f hfm
      show callW pg 186 [fldAv f, .ip (acells a.av)] = _
      have h1 := t181 a.fields ha.1 f.1
      rw [C186]
      cases hl : lastF (fun z : Fld => z.1 == f.1) a.fields with
      | none =>
        rw [hl] at h1
        simp [S186, h1, cl, cls]
      | some z =>
        rw [hl] at h1
        have h2 := ih f.2 z.2 (ha.2 z (lastF_mem hl).1) (hb.2 f hfm) (h.2.1 f hfm).2
        simp [S186, h1, cl, cls, h2]
    have h2 := t131 (.fn (.func 186) [] [.ip (acells a.av)]) _ b.fields (by have := hb.1; omega) (fun g => by simp [cl, cls]) hf
    rw [C125, belowT_eq]
    simp at h2
    simp [S125, h2]
    rw [not_any_not]
    rfl
theorem t56 (a b : Ty) (ha : a.Lim) (hb : b.Lim) : callW pg 56 [a.av, b.av] = M.pure (.bool (subT a b)) := by
  rw [C56]
  unfold subT
  have h1 := t73 a ha
  have h2 := t73 b hb
  cases r1 : rightT a with
  | false =>
    rw [r1] at h1
    simp [S56, h1]
  | true =>
    cases r2 : rightT b with
    | false =>
      rw [r1] at h1
      rw [r2] at h2
      simp [S56, h1, h2]
    | true =>
      rw [r1] at h1
      rw [r2] at h2
      have h3 := t125 4 b a (rightN_short 4 a r1 4) (rightN_short 4 b r2 4) r2
      simp [S56, h1, h2, h3]
theorem t111 (f : AV) (F : Ty → Ty → Bool) (a b : List Ty) (hb : a.length ≤ 4611686018427387904) (hc : ∀ g, cl g f = f) (hf : ∀ x ∈ a, ∀ y ∈ b, callV (callW pg) f [x.av, y.av] = M.pure (.bool (F x y))) : callW pg 111 [tys a, tys b, f] = M.pure (.bool (all2 F a b)) := by
  rw [C111]
  by_cases h : a.length = b.length
  · have hloop := fix_all (FL111_0 (callW pg)) (fun k => [tys b, f, tys a, .int .i64 a.length, .int .i64 (k : Int)]) a.length (fun k => F a[k]! b[k]!)
      (by simp [L111_0]) (fun k hk => by
        have h1 : (k : Int) < (a.length : Int) := by omega
        have h1b : (k : Int) < (b.length : Int) := by omega
        have hixa := IX54 (l := a) (n := (k : Int)) (by omega) h1
        have hixb := IX54 (l := b) (n := (k : Int)) (by omega) h1b
        rw [Int.toNat_natCast] at hixa hixb
        have hma : a[k]! ∈ a := by rw [getElem!_pos a k hk]; exact List.getElem_mem hk
        have hmb : b[k]! ∈ b := by rw [getElem!_pos b k (by omega)]; exact List.getElem_mem (by omega)
        have h3 := hf _ hma _ hmb
        have hw : IntKind.i64.wrap ((k : Int) + 1) = (k : Int) + 1 := by rw [wrap_add1 (by omega)]; simp
        generalize a[k]! = x at hixa h3 ⊢
        generalize b[k]! = y at hixb h3 ⊢
        simp [L111_0, hk, hixa, hixb, h3, hw]
        cases F x y <;> simp) 0 (Nat.zero_le _)
    rw [Nat.sub_zero, all_range2 F a b h] at hloop
    simp [S111, h, hc] at hloop ⊢
    simp [hloop]
  · have h2 := all2_length F a b h
    have h3 : (a.length != b.length) = true := by simp [h]
    simp [S111, h3, hc, h2]
@[simp] theorem bin_andNot (t : Nat) (a b : Int) : binA T .andNot t (.int .i64 a) (.int .i64 b) = some (.int .i64 (exceeds a b)) := rfl
theorem t44 (a b : Sig) (ha : a.Lim) (hb : b.Lim) : callW pg 44 [a.av, b.av] = M.pure (.bool (subS a b)) := by
  rw [C44]
  have h1 := t111 (.fn (.func 56) [] []) subT b.params a.params (by have := hb.plen; omega) (fun g => rfl) (fun x hx y hy => t56 x y (hb.ptys x hx) (ha.ptys y hy))
  have h2 := t56 a.result b.result ha.result hb.result
  unfold subS
  cases r1 : all2 subT b.params a.params with
  | false =>
    rw [r1] at h1
    simp [S44, h1]
  | true =>
    cases r2 : subT a.result b.result with
    | false =>
      rw [r1] at h1
      rw [r2] at h2
      simp [S44, h1, h2]
    | true =>
      rw [r1] at h1
      rw [r2] at h2
      simp [S44, h1, h2]
theorem t149 (t : Ty) (ht : t.Lim) : callW pg 149 [t.av] = M.pure (.bool (!(rightT t))) := by
  rw [C149]
  simp [S149, t47 t ht]
theorem t77 (s : Sig) (hs : s.Lim) : callW pg 77 [s.av] = M.pure (.bool (rightS s)) := by
  rw [C77]
  have h1 := t76 s.name
  have h2 := t47 s.result hs.result
  have h3 := t148 (.fn (.func 149) [] []) (fun t => !(rightT t)) s.params (by have := hs.plen; omega) (fun g => rfl) (fun x hx => t149 x (hs.ptys x hx))
  unfold rightS
  rw [← not_any_not rightT s.params]
  generalize (s.params.any fun x => !rightT x) = q at h3 ⊢
  by_cases g1 : nameP s.name = true
  · rw [g1] at h1
    by_cases g2 : s.params.length ≤ 6
    · have g2' : ¬ (6 < (s.params.length : Int)) := by omega
      have g2n : ¬ (6 < s.params.length) := by omega
      by_cases g3 : exceeds s.effects 15 = 0
      · by_cases g4 : rightT s.result = true
        · rw [g4] at h2
          simp [S77, h1, h2, h3, g1, g2, g2', g2n, g3, g4]
        · rw [Bool.not_eq_true] at g4
          rw [g4] at h2
          simp [S77, h1, h2, h3, g1, g2, g2', g2n, g3, g4]
      · have g3' : (exceeds s.effects 15 == 0) = false := beq_eq_false_iff_ne.2 g3
        simp [S77, h1, h2, h3, g1, g2, g2', g2n, g3, g3']
    · have g2' : 6 < (s.params.length : Int) := by omega
      have g2n : 6 < s.params.length := by omega
      simp [S77, h1, h2, h3, g1, g2, g2', g2n]
  · rw [Bool.not_eq_true] at g1
    rw [g1] at h1
    simp [S77, h1, h2, h3, g1]
theorem t27 (f : Face) (hf : f.Lim) : callW pg 27 [f.av] = M.pure (.bool (rightFc f)) := by
  have hlen := hf.len
  have hloop := fix_all (FL27_0 (callW pg)) (fun k => [.ip (acells f.av), sigs f.funcs, .int .i64 f.funcs.length, .int .i64 (k : Int)]) f.funcs.length
    (fun k => rightS f.funcs[k]! && (decide (k = 0) || strLess (f.funcs[k - 1]!).name (f.funcs[k]!).name))
    (by simp [L27_0]) (fun k hk => by
      have h1 : (k : Int) < (f.funcs.length : Int) := by omega
      have hix := IX22 (l := f.funcs) (n := (k : Int)) (by omega) h1
      rw [Int.toNat_natCast] at hix
      have hm : f.funcs[k]! ∈ f.funcs := by rw [getElem!_pos f.funcs k hk]; exact List.getElem_mem hk
      have h2 := t77 _ (hf.sigs _ hm)
      have hw : IntKind.i64.wrap ((k : Int) + 1) = (k : Int) + 1 := by rw [wrap_add1 (by omega)]; simp
      generalize f.funcs[k]! = x at hix h2 hm ⊢
      rcases Nat.eq_zero_or_pos k with hk0 | hk0
      · subst hk0
        have hix0 : indexAddrA T 22 (sigs f.funcs) (.int .i64 0) = some (.ip (acells x.av)) := hix
        have hw0 : IntKind.i64.wrap 1 = 1 := rfl
        simp [L27_0, hix0, h2, hw0, hk]
        cases rightS x <;> simp
      · have hp : IntKind.i64.wrap ((k : Int) - 1) = ((k - 1 : Nat) : Int) := by
          rw [wrap_in (by omega) (by omega)]; omega
        have h4 : ((k - 1 : Nat) : Int) < (f.funcs.length : Int) := by omega
        have hix2 := IX22 (l := f.funcs) (n := ((k - 1 : Nat) : Int)) (by omega) h4
        rw [Int.toNat_natCast] at hix2
        generalize f.funcs[k - 1]! = g at hix2 ⊢
        have hk1 : ¬ k = 0 := by omega
        simp [L27_0, h1, hix, h2, hw, hp, hix2, hk0, hk1, hk]
        cases rightS x <;> cases strLess g.name x.name <;> simp) 0 (Nat.zero_le _)
  have hall : ((List.range' 0 f.funcs.length).all fun k => rightS f.funcs[k]! && (decide (k = 0) || strLess (f.funcs[k - 1]!).name (f.funcs[k]!).name)) = (f.funcs.all rightS && ascQ (fun a b => strLess a.name b.name) f.funcs) :=
    all_asc rightS (fun a b => strLess a.name b.name) f.funcs
  rw [Nat.sub_zero, hall] at hloop
  have hl2 : fixW (L27_0 (callW pg) fixW) [.ip [.str f.module, sigs f.funcs], sigs f.funcs, .int .i64 f.funcs.length, .int .i64 0] = M.pure (.bool (f.funcs.all rightS && ascQ (fun a b => strLess a.name b.name) f.funcs)) := by
    simpa using hloop
  rw [C27]
  have h1 := t76 f.module
  unfold rightFc
  by_cases g1 : nameP f.module = true
  · rw [g1] at h1
    by_cases g2 : f.funcs.length ≤ 30
    · have g2' : ¬ (30 < (f.funcs.length : Int)) := by omega
      have g2n : ¬ (30 < f.funcs.length) := by omega
      simp [S27, h1, g1, g2, g2', g2n, hl2]
    · have g2' : 30 < (f.funcs.length : Int) := by omega
      have g2n : 30 < f.funcs.length := by omega
      simp [S27, h1, g1, g2, g2', g2n]
  · rw [Bool.not_eq_true] at g1
    rw [g1] at h1
    simp [S27, h1, g1]
end Go.Proofs.YteemeakjlfnapaaGreatDoor
