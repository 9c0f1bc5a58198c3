/- The reference's comparison of interfaces is the program's. No condition. -/
import Derived.Test.YteemeakjlfnapaaGreatDoorRef17
namespace Go.Proofs.YteemeakjlfnapaaGreatDoor
open Go Go.Av Go.Av.Ap
set_option maxRecDepth 100000
def keptR : Option Sig → AV
  | some s => .tup [s.av, .bool false]
  | none => .tup [sig0.av, .bool true]
theorem loop67 (old now : Face) (ho : old.Lim) (hn : now.Lim) (he : Face.Eff now) (x3 x4 x5 x6 x7 : AV) : ∀ (n i : Nat), old.funcs.length - i = n → i ≤ old.funcs.length →
    fixW (L67_0 (callW pg) fixW) [.ip (acells old.av), .ip (acells now.av), .int .i64 i, x3, x4, x5, x6, x7] = M.pure (keptR ((old.funcs.drop i).find? fun f => !(keepsB now f))) := by
  have hlen := ho.len
  intro n
  induction n with
  | zero =>
    intro i hni hi
    rw [FL67_0]
    have h1 : ¬ ((i : Int) < (old.funcs.length : Int)) := by omega
    have h2 : old.funcs.drop i = [] := List.drop_eq_nil_of_le (by omega)
    have e1 : buildA T false 56 [] = some sig0.av := rfl
    simp only [L67_0, nth_zero, nth_succ, acells_face, FA24_1, bnd_some, List.drop_succ_cons, List.drop_zero, LD22, LENE22, bin_lss, h1, decide_false, condM_bool, Bool.false_eq_true, if_false, e1, cellsNil_sig, bnd_pure, acells_sig, fold_sig, h2, List.find?_nil, keptR]
  | succ n ih =>
    intro i hni hi
    have hlt : i < old.funcs.length := by omega
    have h1 : (i : Int) < (old.funcs.length : Int) := by omega
    have h2 : old.funcs.drop i = old.funcs[i] :: old.funcs.drop (i + 1) := List.drop_eq_getElem_cons hlt
    have ih' := ih (i + 1) (by omega) (by omega)
    simp only [acells_face] at ih'
    have hw : IntKind.i64.wrap ((i : Int) + 1) = ((i + 1 : Nat) : Int) := wrap_add1 (by omega)
    have hix := IX22 (l := old.funcs) (n := (i : Int)) (by omega) h1
    rw [Int.toNat_natCast, getElem!_pos old.funcs i hlt] at hix
    have hfl := ho.sigs _ (List.getElem_mem hlt)
    rw [h2, FL67_0, List.find?_cons]
    generalize old.funcs[i] = f at hix hfl ⊢
    have h3 := t38 now hn f.name
    have hkb : keepsB now f = (match findS now f.name with | some g => subS g f | none => false) := rfl
    cases hfs : findS now f.name with
    | none =>
      rw [hfs] at hkb h3
      have hx0 : extractA (sigR none) 0 = some sig0.av := rfl
      have hx1 : extractA (sigR none) 1 = some (.bool false) := rfl
      rw [hkb]
      simp only [L67_0, nth_zero, nth_succ, acells_face, FA24_1, bnd_some, List.drop_succ_cons, List.drop_zero, LD22, LENE22, bin_lss, h1, decide_true, condM_bool, if_true, LD24, List.length_cons, List.length_nil, Nat.zero_add, Nat.reduceAdd, Nat.le_refl, List.take_succ_cons, List.take_zero, fold_face, hix, acells_sig, FA56_0, LD9, h3, noPan_pure, bnd_pure, hx0, hx1, cellsM_sig, unA_not, Bool.not_false, guardM_take1, guardM_ft, List.replicate, pickA_true, LD56, fold_sig, cellsNil_sig, keptR]
      rfl
    | some g =>
      rw [hfs] at hkb h3
      have hg := findS_name hfs
      have hgl : g.Lim := hn.sigs g hg.2
      have hge := he g hg.2
      have h4 := t45 g f hgl hfl hge.1 hge.2
      have hx0 : extractA (sigR (some g)) 0 = some g.av := rfl
      have hx1 : extractA (sigR (some g)) 1 = some (.bool true) := rfl
      simp only at hkb
      rw [hkb]
      cases hs : subS g f <;> rw [hs] at h4 <;>
      simp only [L67_0, nth_zero, nth_succ, acells_face, FA24_1, bnd_some, List.drop_succ_cons, List.drop_zero, LD22, LENE22, bin_lss, h1, decide_true, condM_bool, if_true, LD24, List.length_cons, List.length_nil, Nat.zero_add, Nat.reduceAdd, Nat.le_refl, List.take_succ_cons, List.take_zero, fold_face, hix, acells_sig, FA56_0, LD9, h3, noPan_pure, bnd_pure, hx0, hx1, cellsM_sig, unA_not, Bool.not_true, Bool.not_false, Bool.false_eq_true, if_false, guardM_take1, guardM_ft, List.replicate, pickA_true, pickA_false, LD56, fold_sig, cellsNil_sig, h4, bin_add, hw, ih', keptR]
theorem t67 (old now : Face) (ho : old.Lim) (hn : now.Lim) (he : Face.Eff now) : callW pg 67 [old.av, now.av] = M.pure (keptR (lostS old now)) := by
  have h := loop67 old now ho hn he (.str []) (.sl []) (.int .i64 0) (.sl []) (.int .i64 0) old.funcs.length 0 rfl (Nat.zero_le _)
  rw [List.drop_zero] at h
  have h' : fixW (L67_0 (callW pg) fixW) [.ip (acells old.av), .ip (acells now.av), .int .i64 0, .str [], .sl [], .int .i64 0, .sl [], .int .i64 0] = M.pure (keptR (lostS old now)) := h
  rw [C67]
  simp only [S67, cl_face, nth_zero, nth_succ, h']
  cases lostS old now with
  | none => exact isoP_pure fun g => by simp [keptR, cl, cls]
  | some s => exact isoP_pure fun g => by simp [keptR, cl, cls]
theorem t66 (a b : Face) (ha : a.Lim) (hb : b.Lim) (hea : Face.Eff a) (heb : Face.Eff b) : callW pg 66 [a.av, b.av] = M.pure (.bool (matchF a b)) := by
  have h1 := t41 a ha hea
  have h2 := t41 b hb heb
  rw [C66]
  unfold matchF
  have hm : binA T .eql 9 (.str a.module) (.str b.module) = some (.bool (a.module == b.module)) := rfl
  generalize (a.module == b.module) = q at hm ⊢
  cases hr : rightFc a <;> rw [hr] at h1 <;> cases hs : rightFc b <;> rw [hs] at h2 <;> cases q <;> simp [S66, h1, h2, hm, -str_eql]
theorem t18 (a b : Face) (ha : a.Lim) (hb : b.Lim) (hea : Face.Eff a) (heb : Face.Eff b) : callW pg 18 [a.av, b.av] = M.pure (.tup [.int .i64 (compareF a b).1, .str (compareF a b).2]) := by
  have h1 := t66 a b ha hb hea heb
  have h2 := t67 a b ha hb heb
  have h3 := t67 b a hb ha hea
  have hc : ∀ (k : Int) (s : Str), isoP (M.pure (.tup [.int .i64 k, .str s])) = M.pure (.tup [.int .i64 k, .str s]) := fun k s => isoP_pure fun g => rfl
  have hx0 : ∀ s, extractA (keptR (some s)) 0 = some s.av := fun s => rfl
  have hx1 : ∀ s, extractA (keptR (some s)) 1 = some (.bool false) := fun s => rfl
  have hy0 : extractA (keptR none) 0 = some sig0.av := rfl
  have hy1 : extractA (keptR none) 1 = some (.bool true) := rfl
  rw [C18]
  unfold compareF
  cases hm : matchF a b with
  | false => rw [hm] at h1; simp [S18, h1, hc]
  | true =>
    rw [hm] at h1
    cases hl : lostS a b with
    | some s => rw [hl] at h2; simp [S18, h1, h2, hx0, hx1, hc]
    | none =>
      rw [hl] at h2
      cases hl2 : lostS b a with
      | some s => rw [hl2] at h3; simp [S18, h1, h2, h3, hx0, hx1, hy0, hy1, hc]
      | none => rw [hl2] at h3; simp [S18, h1, h2, h3, hy0, hy1, hc]
end Go.Proofs.YteemeakjlfnapaaGreatDoor
