/- The reference's names and types are the program's. No condition. -/
import Derived.Test.YteemeakjlfnapaaGreatDoorFcT1
import Derived.Test.YteemeakjlfnapaaGreatDoorLd
namespace Go.Proofs.YteemeakjlfnapaaGreatDoor
open Go Go.Av Go.Av.Ap
set_option maxRecDepth 100000
theorem t212 (b : UInt8) : callW pg 212 [.int .u8 b.toNat] = M.pure (.bool (letterB b)) := by
  rw [C212]
  have e : decide ((b.toNat : Int) ≤ 122) = decide (b.toNat ≤ 122) := decide_eq_decide.2 (by omega)
  have e2 : decide (97 ≤ (b.toNat : Int)) = decide (97 ≤ b.toNat) := decide_eq_decide.2 (by omega)
  simp [S212, letterB, e, e2]
theorem t213 (b : UInt8) : callW pg 213 [.int .u8 b.toNat] = M.pure (.bool (digitB b)) := by
  rw [C213]
  have e : decide ((b.toNat : Int) ≤ 57) = decide (b.toNat ≤ 57) := decide_eq_decide.2 (by omega)
  have e2 : decide (48 ≤ (b.toNat : Int)) = decide (48 ≤ b.toNat) := decide_eq_decide.2 (by omega)
  simp [S213, digitB, e, e2]
theorem loop164 (s : Str) (hb : s.length ≤ 4611686018427387904) : ∀ (n i : Nat), s.length - i = n → i ≤ s.length → fixW (L164_0 (callW pg) fixW) [.str s, .int .i64 i] = M.pure (.bool ((s.drop i).all alnumB)) := by
  intro n
  induction n with
  | zero =>
    intro i hn hi
    rw [FL164_0]
    have h1 : ¬ ((i : Int) < (s.length : Int)) := by omega
    have h2 : s.drop i = [] := List.drop_eq_nil_of_le (by omega)
    simp [L164_0, h1, h2]
  | succ n ih =>
    intro i hn hi
    have hlt : i < s.length := by omega
    have h1 : (i : Int) < (s.length : Int) := by omega
    have h2 : s.drop i = s[i] :: s.drop (i + 1) := List.drop_eq_getElem_cons hlt
    have h4 := ih (i + 1) (by omega) (by omega)
    have hw : IntKind.i64.wrap ((i : Int) + 1) = ((i + 1 : Nat) : Int) := wrap_add1 (by omega)
    have hx := ixStr hlt
    rw [h2, FL164_0]
    generalize s[i] = c at hx
    have h5 := t212 c
    have h6 := t213 c
    have e : alnumB c = (letterB c || digitB c) := rfl
    rw [List.all_cons, e]
    cases hl : letterB c <;> cases hd : digitB c <;> rw [hl] at h5 <;> rw [hd] at h6 <;> simp [L164_0, h1, hlt, hx, h5, h6, hw]
    all_goals simpa using h4
theorem t164 (s : Str) : callW pg 164 [.str s] = M.pure (.bool (wordP s)) := by
  rw [C164, wordP_eq]
  by_cases hs : s = []
  · subst hs
    simp [S164]
  · have hs' : (s == []) = false := beq_eq_false_iff_ne.2 hs
    have hpos : 0 < s.length := List.length_pos_iff.2 hs
    have h0 := ixStr (s := s) (i := 0) hpos
    have hd : s[0] = s.headD 0 := by cases s with | nil => exact absurd rfl hs | cons c s => rfl
    rw [hd] at h0
    clear hd
    have e0 : ¬ ((s.length : Int) < 1) := by omega
    have hlet := t212 (s.headD 0)
    generalize s.headD 0 = c at h0 hlet ⊢
    have h0' : indexStrA T 9 (.str s) (.int .i64 0) = some (.int .u8 (c.toNat : Int)) := h0
    clear h0
    by_cases hl : s.length ≤ 20
    · have h1 := loop164 s (by omega) (s.length - 1) 1 rfl (by omega)
      have h1' : fixW (L164_0 (callW pg) fixW) [.str s, .int .i64 1] = M.pure (.bool ((s.drop 1).all alnumB)) := h1
      generalize (s.drop 1).all alnumB = q at h1' ⊢
      have e1 : ¬ (20 < (s.length : Int)) := by omega
      rw [hs', decide_eq_true hl]
      cases hh : letterB c with
      | false => rw [hh] at hlet; simp [S164, e0, e1, h0', hlet]
      | true => rw [hh] at hlet; simp [S164, e0, e1, h0', hlet, h1']
    · have e1 : 20 < (s.length : Int) := by omega
      have e4 : decide (s.length ≤ 20) = false := by simpa using hl
      simp [S164, e0, e1, e4]
theorem loop165 (l : List Str) (s : Str) (hb : l.length ≤ 4611686018427387904) : ∀ (n i : Nat), l.length - i = n → i ≤ l.length → fixW (L165_0 (callW pg) fixW) [strs l, .str s, .int .i64 i] = M.pure (.int .i64 (idxAt (fun x => x == s) (l.drop i) i)) := by
  intro n
  induction n with
  | zero =>
    intro i hn hi
    rw [FL165_0]
    have h1 : ¬ ((i : Int) < (l.length : Int)) := by omega
    have h2 : l.drop i = [] := List.drop_eq_nil_of_le (by omega)
    simp [L165_0, h1, h2, idxAt]
  | succ n ih =>
    intro i hn hi
    have hlt : i < l.length := by omega
    have h1 : (i : Int) < (l.length : Int) := by omega
    have h2 : l.drop i = l[i] :: l.drop (i + 1) := List.drop_eq_getElem_cons hlt
    have h4 := ih (i + 1) (by omega) (by omega)
    have hw : IntKind.i64.wrap ((i : Int) + 1) = ((i + 1 : Nat) : Int) := wrap_add1 (by omega)
    have hix := IX35 (l := l) (n := (i : Int)) (by omega) h1
    rw [Int.toNat_natCast, getElem!_pos l i hlt] at hix
    rw [h2, FL165_0]
    generalize l[i] = c at hix
    simp only [idxAt]
    by_cases hc : c = s
    · subst hc
      simp [L165_0, h1, hlt, hix]
    · have hc' : (c == s) = false := beq_eq_false_iff_ne.2 hc
      simp only [L165_0, nth_zero, nth_succ, LENE35, bnd_some, bin_lss, h1, decide_true, condM_bool, if_true, hix, acells_str, LD9, str_eql, hc', Bool.false_eq_true, if_false, bin_add, hw, h4]
      simp
theorem t165 (l : List Str) (s : Str) (hb : l.length ≤ 4611686018427387904) : callW pg 165 [strs l, .str s] = M.pure (.int .i64 (idxAt (fun x => x == s) l 0)) := by
  rw [C165]
  have h := loop165 l s hb l.length 0 rfl (Nat.zero_le _)
  rw [List.drop_zero] at h
  have h' : fixW (L165_0 (callW pg) fixW) [strs l, .str s, .int .i64 0] = M.pure (.int .i64 (idxAt (fun x => x == s) l 0)) := h
  simp [S165, h']
theorem t166 : callW pg 166 [] = M.pure (strs reservedL) := by
  rw [C166]
  rfl
theorem idx_neg (l : List Str) (s : Str) : decide (idxAt (fun x => x == s) l 0 < 0) = !(l.contains s) := by
  have h := idxAt_any (fun x => x == s) l
  have e : l.contains s = l.any fun x => x == s := by
    rw [List.contains_eq_any_beq]
    congr 1
    funext x
    rw [Bool.eq_iff_iff, beq_iff_eq, beq_iff_eq]
    exact eq_comm
  rw [e, ← h]
  by_cases hi : idxAt (fun x => x == s) l 0 < 0
  · have : ¬ 0 ≤ idxAt (fun x => x == s) l 0 := by omega
    simp [hi, this]
  · have : 0 ≤ idxAt (fun x => x == s) l 0 := by omega
    simp [hi, this]
theorem t106 (s : Str) : callW pg 106 [.str s] = M.pure (.bool (nameP s)) := by
  rw [C106, nameP_ref]
  have h1 := t164 s
  have h2 := t165 reservedL s (by decide)
  have h3 := idx_neg reservedL s
  generalize idxAt (fun x => x == s) reservedL 0 = i at h2 h3
  cases hw : wordP s with
  | false => rw [hw] at h1; simp [S106, h1]
  | true => rw [hw] at h1; simp [S106, h1, t166, h2, h3]
theorem t173 (a b c : Int) : callW pg 173 [.int .i64 a, .int .i64 b, .int .i64 c] = M.pure (.bool (decide (b ≤ a) && decide (a ≤ c))) := by
  rw [C173]
  by_cases h : b ≤ a <;> simp [S173, h]
theorem loop197 (l : List Fld) (hb : l.length ≤ 8) : ∀ (n i : Nat), l.length - i = n → i ≤ l.length → ∀ o : List Str, o.length = i → fixW (L197_0 (callW pg) fixW) [flds l, strs o, .int .i64 i] = M.pure (strs (o ++ (l.drop i).map (·.1))) := by
  intro n
  induction n with
  | zero =>
    intro i hn hi o ho
    rw [FL197_0]
    have h1 : ¬ ((i : Int) < (l.length : Int)) := by omega
    have h2 : l.drop i = [] := List.drop_eq_nil_of_le (by omega)
    simp [L197_0, h1, h2]
  | succ n ih =>
    intro i hn hi o ho
    have hlt : i < l.length := by omega
    have h1 : (i : Int) < (l.length : Int) := by omega
    have h2 : l.drop i = l[i] :: l.drop (i + 1) := List.drop_eq_getElem_cons hlt
    have h4 := ih (i + 1) (by omega) (by omega) (o ++ [(l[i]).1]) (by simp [ho])
    have hw : IntKind.i64.wrap ((i : Int) + 1) = ((i + 1 : Nat) : Int) := wrap_add1 (by omega)
    have hix := IX25 (l := l) (n := (i : Int)) (by omega) h1
    rw [Int.toNat_natCast, getElem!_pos l i hlt] at hix
    rw [List.append_assoc, List.singleton_append] at h4
    rw [h2, List.map_cons, ← h4, FL197_0]
    generalize l[i] = c at hix
    have hbs : buildSliceA T 35 1 [(0, .str c.1)] = some (strs [c.1]) := rfl
    have hap := AP35 (a := o) (b := [c.1]) (by simp; omega)
    simp only [L197_0, nth_zero, nth_succ, LENE25, bnd_some, bin_lss, h1, decide_true, condM_bool, if_true, hix, acells_fld, FA76_0, List.drop_zero, LD9, hbs, hap, bin_add, hw]
theorem t197 (l : List Fld) (hb : l.length ≤ 8) : callW pg 197 [flds l] = M.pure (strs (l.map (·.1))) := by
  rw [C197]
  have h := loop197 l hb l.length 0 rfl (Nat.zero_le _) [] rfl
  rw [List.drop_zero, List.nil_append] at h
  have h' : fixW (L197_0 (callW pg) fixW) [flds l, .sl [], .int .i64 0] = M.pure (strs (l.map (·.1))) := h
  simp only [S197, cl_flds, h']
  exact isoP_pure fun g => cl_strs _ _
end Go.Proofs.YteemeakjlfnapaaGreatDoor
