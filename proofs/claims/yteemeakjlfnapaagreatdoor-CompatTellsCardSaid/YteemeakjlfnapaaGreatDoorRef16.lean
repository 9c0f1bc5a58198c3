/- The reference's subtypes are the program's. No condition. -/
import Derived.Test.YteemeakjlfnapaaGreatDoorRef15B
import Derived.Test.YteemeakjlfnapaaGreatDoorLd
namespace Go.Proofs.YteemeakjlfnapaaGreatDoor
open Go Go.Av Go.Av.Ap
set_option maxRecDepth 100000
def fldR : Option Fld → AV
  | some z => .tup [z.2.av, .bool true]
  | none => .tup [(Ty.mk 0 []).av, .bool false]
theorem lastF_snoc {α : Type} (p : α → Bool) (z : α) : (l : List α) → lastF p (l ++ [z]) = if p z = true then some z else lastF p l
  | [] => by cases h : p z <;> simp [lastF, h]
  | y :: l => by
    rw [List.cons_append]
    unfold lastF
    rw [lastF_snoc p z l]
    cases p z <;> simp
theorem loop225 (l : List Fld) (hb : l.length ≤ 140737488355328) (s : Str) (x y : AV) : ∀ (n : Nat), n ≤ l.length → fixW (L225_0 (callW pg) fixW) [flds l, .str s, .int .i64 ((n : Int) - 1), x, y] = M.pure (fldR (lastF (fun z => z.1 == s) (l.take n))) := by
  intro n
  induction n with
  | zero =>
    intro _
    rw [FL225_0]
    have e1 : buildA T false 27 [] = some (Ty.mk 0 []).av := rfl
    have h1 : ¬ (0 ≤ ((0 : Nat) : Int) - 1) := by omega
    simp only [L225_0, nth_zero, nth_succ, bin_geq, h1, decide_false, bnd_some, condM_bool, Bool.false_eq_true, if_false, e1, cellsNil_ty, bnd_pure, acells_ty, List.take_zero, lastF, fldR, fold_ty]
  | succ n ih =>
    intro hn
    have hlt : n < l.length := by omega
    have e0 : ((n + 1 : Nat) : Int) - 1 = (n : Int) := by omega
    have h1 : (0 : Int) ≤ (n : Int) := by omega
    have h2 : (n : Int) < (l.length : Int) := by omega
    have hix := IX25 (l := l) (n := (n : Int)) h1 h2
    rw [Int.toNat_natCast, getElem!_pos l n hlt] at hix
    have hw : IntKind.i64.wrap ((n : Int) - 1) = (n : Int) - 1 := wrap_in (by omega) (by omega)
    have h4 := ih (by omega)
    rw [e0, FL225_0, List.take_succ_eq_append_getElem hlt, lastF_snoc]
    generalize l[n] = f at hix ⊢
    cases hf : f.1 == s with
    | true =>
      simp only [L225_0, nth_zero, nth_succ, bin_geq, h1, decide_true, bnd_some, condM_bool, if_true, hix, acells_fld, FA76_0, FA76_1, List.drop_zero, List.drop_succ_cons, LD9, str_eql, hf, LD27, List.length_cons, List.length_nil, Nat.zero_add, Nat.reduceAdd, Nat.le_refl, List.take_succ_cons, List.take_zero, fold_ty, cellsNil_ty, bnd_pure, acells_ty, fldR]
    | false =>
      simp only [L225_0, nth_zero, nth_succ, bin_geq, h1, decide_true, bnd_some, condM_bool, if_true, hix, acells_fld, FA76_0, List.drop_zero, LD9, str_eql, hf, Bool.false_eq_true, if_false, bin_sub, hw, h4]
theorem t225 (l : List Fld) (hb : l.length ≤ 140737488355328) (s : Str) : callW pg 225 [flds l, .str s] = M.pure (fldR (lastF (fun z => z.1 == s) l)) := by
  have h := loop225 l hb s (.int .i64 0) (.sl []) l.length (Nat.le_refl _)
  rw [List.take_length] at h
  rw [C225]
  have hw : IntKind.i64.wrap ((l.length : Int) - 1) = (l.length : Int) - 1 := wrap_in (by omega) (by omega)
  simp only [S225, cl_flds, cl_str, LENE25, bnd_some, bin_sub, hw, nth_zero, nth_succ, h]
  cases lastF (fun z => z.1 == s) l with
  | none => exact isoP_pure fun g => by simp [fldR, cl, cls]
  | some z => exact isoP_pure fun g => by simp [fldR, cl, cls]
theorem t176 : ∀ (n : Nat) (a b : Ty), SizeOf.sizeOf b ≤ n → a.Lim → b.Lim → callW pg 176 [a.av, b.av] = M.pure (.bool (belowT a b)) := by
  intro n
  induction n with
  | zero => intro a b hn; cases b; simp at hn
  | succ n ih =>
    intro a b hn ha hb
    have halen := ha.len
    have hblen := hb.len
    rw [C176, belowT_eq]
    have hloop := fix_all (F := L176_0 (callW pg) fixW) (FL176_0 (callW pg)) (fun k => [.ip (acells a.av), .ip (acells b.av), .int .i64 k]) b.fields.length
      (fun k => match lastF (fun z => z.1 == (b.fields[k]!).1) a.fields with | some z => belowT z.2 (b.fields[k]!).2 | none => false)
      (by simp [L176_0]) (fun k hk => by
        have h1 : (k : Int) < (b.fields.length : Int) := by omega
        have hix := IX25 (l := b.fields) (n := (k : Int)) (by omega) h1
        rw [Int.toNat_natCast] at hix
        have hm : b.fields[k]! ∈ b.fields := by rw [getElem!_pos b.fields k hk]; exact List.getElem_mem hk
        have hw : IntKind.i64.wrap ((k : Int) + 1) = ((k + 1 : Nat) : Int) := wrap_add1 (by omega)
        generalize b.fields[k]! = f at hix hm ⊢
        have hf := t225 a.fields halen f.1
        cases hl : lastF (fun z : Fld => z.1 == f.1) a.fields with
        | none =>
          rw [hl] at hf
          have hx0 : extractA (fldR none) 0 = some (Ty.mk 0 []).av := rfl
          have hx1 : extractA (fldR none) 1 = some (.bool false) := rfl
          simp only [L176_0, nth_zero, nth_succ, acells_ty, FA27_1, bnd_some, List.drop_succ_cons, List.drop_zero, LD25, LENE25, bin_lss, h1, decide_true, condM_bool, if_true, hix, acells_fld, FA76_0, LD9, hf, noPan_pure, bnd_pure, hx0, hx1, Av.cellsM_ty, unA_not, Bool.not_false, Bool.false_eq_true, if_false]
        | some z =>
          rw [hl] at hf
          have hz := (lastF_sat hl).2
          have hs := ih z.2 f.2 (by have := fld_lt hm; omega) (ha.kid hz) (hb.kid hm)
          have hx0 : extractA (fldR (some z)) 0 = some z.2.av := rfl
          have hx1 : extractA (fldR (some z)) 1 = some (.bool true) := rfl
          cases hbz : belowT z.2 f.2 <;> rw [hbz] at hs <;>
          simp only [L176_0, nth_zero, nth_succ, acells_ty, FA27_1, bnd_some, List.drop_succ_cons, List.drop_zero, LD25, LENE25, bin_lss, h1, decide_true, condM_bool, if_true, hix, acells_fld, FA76_0, FA76_1, LD9, hf, noPan_pure, bnd_pure, hx0, hx1, Av.cellsM_ty, unA_not, Bool.not_true, Bool.not_false, Bool.false_eq_true, if_false, LD27, List.length_cons, List.length_nil, Nat.zero_add, Nat.reduceAdd, Nat.le_refl, List.take_succ_cons, List.take_zero, fold_ty, hs, bin_add, hw, hbz]) 0 (Nat.zero_le _)
    rw [Nat.sub_zero] at hloop
    have e := all_range' (fun f : Fld => match lastF (fun z => z.1 == f.1) a.fields with | some z => belowT z.2 f.2 | none => false) b.fields
    rw [e] at hloop
    generalize (b.fields.all fun f : Fld => match lastF (fun z => z.1 == f.1) a.fields with | some z => belowT z.2 f.2 | none => false) = q at hloop ⊢
    have h' : fixW (L176_0 (callW pg) fixW) [.ip [.int .i64 a.kind, flds a.fields], .ip [.int .i64 b.kind, flds b.fields], .int .i64 0] = M.pure (.bool q) := by
      simp only [acells_ty] at hloop
      exact hloop
    by_cases hk : a.kind = b.kind
    · have hk1 : (a.kind == b.kind) = true := beq_iff_eq.2 hk
      rw [hk] at h'
      simp [S176, hk, h']
    · have hk1 : (a.kind == b.kind) = false := beq_eq_false_iff_ne.2 hk
      have hk2 : (a.kind != b.kind) = true := by simpa using hk
      simp [S176, hk1, hk2]
theorem t112 (a b : Ty) (ha : a.Lim) (hb : b.Lim) : callW pg 112 [a.av, b.av] = M.pure (.bool (subT a b)) := by
  have h1 := t175 a ha
  have h2 := t175 b hb
  have h3 := t176 _ a b (Nat.le_refl _) ha hb
  rw [C112]
  unfold subT
  cases hr : rightT a <;> rw [hr] at h1 <;> cases hs : rightT b <;> rw [hs] at h2 <;> simp [S112, h1, h2, h3]
end Go.Proofs.YteemeakjlfnapaaGreatDoor
