/- The reference's equality holds of a thing and itself. No condition. -/
import Derived.Test.YteemeakjlfnapaaGreatDoorFcT1
namespace Go.Proofs.YteemeakjlfnapaaGreatDoor
open Go Go.Av Go.Av.Ap
set_option maxRecDepth 100000
theorem fix_true {F : (List AV → M AV) → List AV → M AV} (hF : ∀ vs, fixW F vs = F (fixW F) vs) (st : Nat → List AV) (n : Nat) (hend : F (fixW F) (st n) = M.pure (.bool true)) (hstep : ∀ k, k < n → F (fixW F) (st k) = fixW F (st (k + 1))) : fixW F (st 0) = M.pure (.bool true) := by
  have h := fix_all hF st n (fun _ => true) hend (fun k hk => by rw [if_pos rfl]; exact hstep k hk) 0 (Nat.zero_le _)
  rw [h]
  congr 2
  simp
@[simp] theorem str_neq (t : Nat) (a b : Str) : binA T .neq t (.str a) (.str b) = some (.bool !(a == b)) := rfl
theorem t72 (l : List Str) (hb : l.length ≤ 4611686018427387904) : callW pg 72 [strs l, strs l] = M.pure (.bool true) := by
  have h := fix_true (FL72_0 (callW pg)) (fun k => [strs l, strs l, .int .i64 (k : Int)]) l.length (by simp [L72_0]) (fun k hk => by
    have h1 : (k : Int) < (l.length : Int) := by omega
    have hix := IX35 (l := l) (n := (k : Int)) (by omega) h1
    have hw : IntKind.i64.wrap ((k : Int) + 1) = ((k + 1 : Nat) : Int) := wrap_add1 (by omega)
    simp only [L72_0, nth_zero, nth_succ, LENE35, bnd_some, bin_lss, h1, decide_true, condM_bool, if_true, hix, acells_str, LD9, str_neq, beq_self_eq_true, Bool.not_true, Bool.false_eq_true, if_false, bin_add, hw])
  have h' : fixW (L72_0 (callW pg) fixW) [strs l, strs l, .int .i64 0] = M.pure (.bool true) := h
  rw [C72]
  simp [S72, h']
theorem t71 (l : List Exp) (hb : l.length ≤ 4611686018427387904) (hk : ∀ e ∈ l, callW pg 22 [e.av, e.av] = M.pure (.bool true)) : callW pg 71 [exps l, exps l] = M.pure (.bool true) := by
  have h := fix_true (FL71_0 (callW pg)) (fun k => [exps l, exps l, .int .i64 (k : Int)]) l.length (by simp [L71_0]) (fun k hk' => by
    have h1 : (k : Int) < (l.length : Int) := by omega
    have hix := IX36 (l := l) (n := (k : Int)) (by omega) h1
    rw [Int.toNat_natCast, getElem!_pos l k hk'] at hix
    have hm := hk _ (List.getElem_mem hk')
    have hw : IntKind.i64.wrap ((k : Int) + 1) = ((k + 1 : Nat) : Int) := wrap_add1 (by omega)
    generalize l[k] = e at hix hm
    simp only [L71_0, nth_zero, nth_succ, LENE36, bnd_some, bin_lss, h1, decide_true, condM_bool, if_true, hix, acells_exp, LD47, List.length_cons, List.length_nil, Nat.zero_add, Nat.reduceAdd, Nat.le_refl, List.take_succ_cons, List.take_zero, fold_exp, hm, noPan_pure, bnd_pure, unA_not, Bool.not_true, Bool.false_eq_true, if_false, bin_add, hw])
  have h' : fixW (L71_0 (callW pg) fixW) [exps l, exps l, .int .i64 0] = M.pure (.bool true) := h
  rw [C71]
  simp [S71, h']
theorem exp_size {e : Exp} {x : Exp} (h : x ∈ e.args) : SizeOf.sizeOf x < SizeOf.sizeOf e := by
  cases e with
  | mk o n s m ns es =>
    have := List.sizeOf_lt_of_mem (show x ∈ es from h)
    simp only [Exp.mk.sizeOf_spec]
    omega
theorem t22 : ∀ (n : Nat) (e : Exp), SizeOf.sizeOf e ≤ n → e.Lim → callW pg 22 [e.av, e.av] = M.pure (.bool true) := by
  intro n
  induction n with
  | zero => intro e h; cases e; simp at h
  | succ n ih =>
    intro e hs he
    have h1 := t72 e.names (by have := he.names; omega)
    have h2 := t71 e.args (by have := he.len; omega) (fun x hx => ih x (by have := exp_size hx; omega) (he.kid hx))
    rw [C22]
    simp [S22, h1, h2]
theorem t70 (l : List Fld) (hb : l.length ≤ 4611686018427387904) (hk : ∀ f ∈ l, callW pg 142 [f.2.av, f.2.av] = M.pure (.bool true)) : callW pg 70 [flds l, flds l] = M.pure (.bool true) := by
  have h := fix_true (FL70_0 (callW pg)) (fun k => [flds l, flds l, .int .i64 (k : Int)]) l.length (by simp [L70_0]) (fun k hk' => by
    have h1 : (k : Int) < (l.length : Int) := by omega
    have hix := IX25 (l := l) (n := (k : Int)) (by omega) h1
    rw [Int.toNat_natCast, getElem!_pos l k hk'] at hix
    have hm := hk _ (List.getElem_mem hk')
    have hw : IntKind.i64.wrap ((k : Int) + 1) = ((k + 1 : Nat) : Int) := wrap_add1 (by omega)
    generalize l[k] = f at hix hm
    simp only [L70_0, nth_zero, nth_succ, LENE25, bnd_some, bin_lss, h1, decide_true, condM_bool, if_true, hix, acells_fld, FA76_0, FA76_1, List.drop_zero, List.drop_succ_cons, LD9, str_neq, beq_self_eq_true, Bool.not_true, guardM_take1, LD27, List.length_cons, List.length_nil, Nat.zero_add, Nat.reduceAdd, Nat.le_refl, List.take_succ_cons, List.take_zero, fold_ty, hm, noPan_pure, bnd_pure, unA_not, pickA_false, Bool.false_eq_true, if_false, bin_add, hw])
  have h' : fixW (L70_0 (callW pg) fixW) [flds l, flds l, .int .i64 0] = M.pure (.bool true) := h
  rw [C70]
  simp [S70, h']
theorem ty_size {t : Ty} {f : Fld} (h : f ∈ t.fields) : SizeOf.sizeOf f.2 < SizeOf.sizeOf t := by
  cases t with
  | mk k fs =>
    have h1 := List.sizeOf_lt_of_mem (show f ∈ fs from h)
    obtain ⟨a, b⟩ := f
    simp only [Prod.mk.sizeOf_spec] at h1
    simp only [Ty.mk.sizeOf_spec]
    omega
theorem t142 : ∀ (n : Nat) (t : Ty), SizeOf.sizeOf t ≤ n → t.Lim → callW pg 142 [t.av, t.av] = M.pure (.bool true) := by
  intro n
  induction n with
  | zero => intro t h; cases t; simp at h
  | succ n ih =>
    intro t hs ht
    have h2 := t70 t.fields (by have := ht.len; omega) (fun f hf => ih f.2 (by have := ty_size hf; omega) (ht.kid hf))
    rw [C142]
    simp [S142, h2]
theorem t69 (f : Fun) (hf : f.Lim) : callW pg 69 [f.av, f.av] = M.pure (.bool true) := by
  have h1 := t70 f.params (by have := hf.params; omega) (fun x hx => t142 _ x.2 (Nat.le_refl _) (hf.pty x hx))
  have h2 := t142 _ f.result (Nat.le_refl _) hf.result
  have h3 := t22 _ f.body (Nat.le_refl _) hf.body
  have hb : binA T .eql 4 (.bool f.pub) (.bool f.pub) = some (.bool (f.pub == f.pub)) := rfl
  rw [C69]
  simp [S69, h1, h2, h3, hb]
theorem t21 (m : Mod) (h : m.Lim) : callW pg 21 [m.av, m.av] = M.pure (.bool true) := by
  have hfl := h.funcs
  have s1 := t72 m.uses (by have := h.uses; omega)
  have s2 := t70 m.vars (by have := h.vars; omega) (fun x hx => t142 _ x.2 (Nat.le_refl _) (h.vty x hx))
  have s3 := t71 m.init (by have := h.init; omega) (fun x hx => t22 _ x (Nat.le_refl _) (h.ies x hx))
  have s4 := t70 m.old (by have := h.old; omega) (fun x hx => t142 _ x.2 (Nat.le_refl _) (h.oty x hx))
  have s5 := t71 m.forward (by have := h.forward; omega) (fun x hx => t22 _ x (Nat.le_refl _) (h.fes x hx))
  have s6 := t71 m.back (by have := h.back; omega) (fun x hx => t22 _ x (Nat.le_refl _) (h.bes x hx))
  have hb : binA T .eql 4 (.bool m.moves) (.bool m.moves) = some (.bool (m.moves == m.moves)) := rfl
  have hl := fix_true (FL21_0 (callW pg)) (fun k => [.ip (acells m.av), .ip (acells m.av), .int .i64 (k : Int)]) m.funcs.length (by simp [L21_0, s1, s2, s3, s4, s5, s6, hb]) (fun k hk' => by
    have h1 : (k : Int) < (m.funcs.length : Int) := by omega
    have hix := IX37 (l := m.funcs) (n := (k : Int)) (by omega) h1
    rw [Int.toNat_natCast, getElem!_pos m.funcs k hk'] at hix
    have hm := t69 m.funcs[k] (h.fns _ (List.getElem_mem hk'))
    have hw : IntKind.i64.wrap ((k : Int) + 1) = ((k + 1 : Nat) : Int) := wrap_add1 (by omega)
    generalize m.funcs[k] = f at hix hm
    simp only [L21_0, nth_zero, nth_succ, acells_mod, FA41_4, bnd_some, List.drop_succ_cons, List.drop_zero, LD37, LENE37, bin_lss, h1, decide_true, condM_bool, if_true, hix, acells_fun, LD73, List.length_cons, List.length_nil, Nat.zero_add, Nat.reduceAdd, Nat.le_refl, List.take_succ_cons, List.take_zero, fold_fun, hm, noPan_pure, bnd_pure, unA_not, Bool.not_true, Bool.false_eq_true, if_false, bin_add, hw])
  have h' : fixW (L21_0 (callW pg) fixW) [.ip (acells m.av), .ip (acells m.av), .int .i64 0] = M.pure (.bool true) := hl
  simp only [acells_mod] at h'
  rw [C21]
  simp [S21, h']
end Go.Proofs.YteemeakjlfnapaaGreatDoor
