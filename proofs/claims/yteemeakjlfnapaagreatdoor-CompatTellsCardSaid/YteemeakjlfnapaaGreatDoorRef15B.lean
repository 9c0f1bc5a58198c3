/- The reference's right types, and its field of a name. No condition. -/
import Derived.Test.YteemeakjlfnapaaGreatDoorRef15
namespace Go.Proofs.YteemeakjlfnapaaGreatDoor
open Go Go.Av Go.Av.Ap
set_option maxRecDepth 100000
def ascN (l : List Str) : Bool := l.all nameP && ascQ (fun a b => strLess a b) l
theorem t196 (l : List Str) (hb : l.length ≤ 8) : callW pg 196 [strs l] = M.pure (.bool (ascN l)) := by
  have hloop := fix_all (F := L196_0 (callW pg) fixW) (FL196_0 (callW pg)) (fun k => [strs l, .int .i64 k]) l.length
    (fun k => nameP l[k]! && (decide (k = 0) || strLess l[k - 1]! l[k]!))
    (by simp [L196_0]) (fun k hk => by
      have h1 : (k : Int) < (l.length : Int) := by omega
      have hix := IX35 (l := l) (n := (k : Int)) (by omega) h1
      rw [Int.toNat_natCast] at hix
      have h2 := t106 l[k]!
      have hw : IntKind.i64.wrap ((k : Int) + 1) = (k : Int) + 1 := by rw [wrap_add1 (by omega)]; simp
      generalize l[k]! = f at hix h2 ⊢
      rcases Nat.eq_zero_or_pos k with hk0 | hk0
      · subst hk0
        have hix0 : indexAddrA T 35 (strs l) (.int .i64 0) = some (.ip (acells (.str f))) := hix
        have hw0 : IntKind.i64.wrap 1 = 1 := rfl
        cases hn : nameP f <;> rw [hn] at h2 <;> simp [L196_0, hix0, h2, hw0, hk]
      · have hp : IntKind.i64.wrap ((k : Int) - 1) = ((k - 1 : Nat) : Int) := by
          rw [wrap_in (by omega) (by omega)]; omega
        have h4 : ((k - 1 : Nat) : Int) < (l.length : Int) := by omega
        have hix2 := IX35 (l := l) (n := ((k - 1 : Nat) : Int)) (by omega) h4
        rw [Int.toNat_natCast] at hix2
        generalize l[k - 1]! = g at hix2 ⊢
        have hk1 : ¬ k = 0 := by omega
        have hk2 : 0 < (k : Int) := by omega
        cases hn : nameP f <;> rw [hn] at h2 <;> cases hs : strLess g f <;> simp [L196_0, h1, hix, h2, hw, hp, hix2, hk0, hk1, hk2, hk, hs]) 0 (Nat.zero_le _)
  rw [Nat.sub_zero, all_asc nameP (fun a b => strLess a b) l] at hloop
  rw [C196]
  have h' : fixW (L196_0 (callW pg) fixW) [strs l, .int .i64 0] = M.pure (.bool (ascN l)) := hloop
  simp [S196, h']
theorem asc_fields (l : List Fld) : ascN (l.map (·.1)) = (l.all (fun f => nameP f.1) && ascQ (fun a b : Fld => aheadB a.1 b.1) l) := by
  unfold ascN
  rw [List.all_map]
  congr 1
  induction l with
  | nil => rfl
  | cons x l ih =>
    cases l with
    | nil => rfl
    | cons y r =>
      simp only [List.map_cons, ascQ] at ih ⊢
      rw [ih]
      congr 1
      rw [Bool.eq_iff_iff]
      exact (aheadB_iff _ _).symm
theorem right_shape (d : Nat) (t : Ty) : rightN (d + 1) t = (decide (0 ≤ t.kind) && decide (t.kind ≤ 2) && !(!(t.kind == 2) && decide (0 < t.fields.length)) && decide (t.fields.length ≤ 8) && ascN (t.fields.map (·.1)) && t.fields.all fun f => rightN d f.2) := by
  rw [rightN_succ, asc_fields]
  have e1 : decide (t.kind < 3) = decide (t.kind ≤ 2) := decide_eq_decide.2 (by omega)
  have e2 : t.fields.all (fun f => nameP f.1 && rightN d f.2) = (t.fields.all (fun f => nameP f.1) && t.fields.all fun f => rightN d f.2) := by
    induction t.fields with
    | nil => rfl
    | cons x l ih =>
      simp only [List.all_cons, ih]
      cases nameP x.1 <;> cases rightN d x.2 <;> cases l.all (fun f => nameP f.1) <;> simp
  have e3 : (t.kind == 2 || t.fields.length == 0) = !(!(t.kind == 2) && decide (0 < t.fields.length)) := by
    rcases Nat.eq_zero_or_pos t.fields.length with h | h
    · simp [h]
    · have h1 : (t.fields.length == 0) = false := beq_eq_false_iff_ne.2 (by omega)
      simp [h, h1]
  rw [e1, e2, e3]
  generalize decide (0 ≤ t.kind) = a1
  generalize decide (t.kind ≤ 2) = a2
  generalize decide (t.fields.length ≤ 8) = a3
  generalize (!(!(t.kind == 2) && decide (0 < t.fields.length))) = a4
  generalize t.fields.all (fun f => nameP f.1) = a5
  generalize (t.fields.all fun f => rightN d f.2) = a6
  generalize ascQ (fun a b : Fld => aheadB a.1 b.1) t.fields = a7
  revert a1 a2 a3 a4 a5 a6 a7
  decide
theorem lim_fld2 {t : Ty} (h : t.Lim) (k : Nat) (hk : k < t.fields.length) : (t.fields[k]!).2.Lim := lim_fld h k hk
theorem t143 : ∀ (d : Nat), d ≤ 4 → ∀ (t : Ty), t.Lim → callW pg 143 [t.av, .int .i64 d] = M.pure (.bool (rightN d t))
  | 0, _, t, _ => by
    rw [C143]
    simp [S143, rightN]
  | d + 1, hd, t, ht => by
    have ih := t143 d (by omega)
    have hlen := ht.len
    have hd1 : IntKind.i64.wrap (((d + 1 : Nat) : Int) - 1) = (d : Int) := wrap_sub1 (by omega)
    have hloop := fix_all (F := L143_0 (callW pg) fixW) (FL143_0 (callW pg)) (fun k => [.int .i64 ((d + 1 : Nat) : Int), .ip (acells t.av), .int .i64 k]) t.fields.length
      (fun k => rightN d (t.fields[k]!).2)
      (by simp [L143_0]) (fun k hk => by
        have h1 : (k : Int) < (t.fields.length : Int) := by omega
        have hix := IX25 (l := t.fields) (n := (k : Int)) (by omega) h1
        rw [Int.toNat_natCast] at hix
        have h3 := ih (t.fields[k]!).2 (lim_fld2 ht k hk)
        have hw : IntKind.i64.wrap ((k : Int) + 1) = ((k + 1 : Nat) : Int) := wrap_add1 (by omega)
        generalize t.fields[k]! = f at hix h3 ⊢
        cases hr : rightN d f.2 <;> rw [hr] at h3 <;> simp only [L143_0, nth_zero, nth_succ, acells_ty, FA27_1, bnd_some, List.drop_succ_cons, List.drop_zero, LD25, LENE25, bin_lss, h1, decide_true, condM_bool, if_true, hix, acells_fld, FA76_1, LD27, List.length_cons, List.length_nil, Nat.zero_add, Nat.reduceAdd, Nat.le_refl, List.take_succ_cons, List.take_zero, fold_ty, bin_sub, hd1, h3, bnd_pure, unA_not, Bool.not_false, Bool.not_true, Bool.false_eq_true, if_false, bin_add, hw]) 0 (Nat.zero_le _)
    rw [Nat.sub_zero] at hloop
    have e : (List.range' 0 t.fields.length).all (fun k => rightN d (t.fields[k]!).2) = t.fields.all fun f => rightN d f.2 := all_range' (fun f : Fld => rightN d f.2) t.fields
    rw [e] at hloop
    have h' : fixW (L143_0 (callW pg) fixW) [.int .i64 ((d + 1 : Nat) : Int), .ip (acells t.av), .int .i64 0] = M.pure (.bool (t.fields.all fun f => rightN d f.2)) := hloop
    rw [right_shape]
    generalize (t.fields.all fun f => rightN d f.2) = q at h' ⊢
    rw [C143]
    have hin := t173 t.kind 0 2
    have hne' : ((d : Int) + 1 == 0) = false := by rw [beq_eq_false_iff_ne]; omega
    have h'' : fixW (L143_0 (callW pg) fixW) [.int .i64 ((d : Int) + 1), .ip [.int .i64 t.kind, flds t.fields], .int .i64 0] = M.pure (.bool q) := by
      simp only [acells_ty] at h'
      exact h'
    by_cases k1 : 0 ≤ t.kind
    · by_cases k2 : t.kind ≤ 2
      · by_cases h2 : t.kind = 2
        · by_cases h8 : t.fields.length ≤ 8
          · have h8' : ¬ (8 < (t.fields.length : Int)) := by omega
            have hlab := t197 t.fields h8
            have hasc := t196 (t.fields.map (·.1)) (by rw [List.length_map]; exact h8)
            rw [h2] at hin
            generalize t.fields.map (·.1) = ls at hlab hasc ⊢
            generalize ascN ls = a at hasc ⊢
            rw [h2] at h''
            cases a <;> simp [S143, hne', hin, h2, h8, h8', hlab, hasc, h'']
          · have h8' : 8 < (t.fields.length : Int) := by omega
            rw [h2] at hin
            simp [S143, hne', hin, h2, h8, h8']
        · have hin' : callW pg 173 [.int .i64 t.kind, .int .i64 0, .int .i64 2] = M.pure (.bool true) := by rw [hin, decide_eq_true k1, decide_eq_true k2]; rfl
          by_cases h0 : 0 < t.fields.length
          · have h0' : 0 < (t.fields.length : Int) := by omega
            have h2b : (t.kind != 2) = true := by simpa using h2
            have h2c : (t.kind == 2) = false := beq_eq_false_iff_ne.2 h2
            simp [S143, hne', hin', h2b, h2c, h0, h0']
          · have h0' : ¬ 0 < (t.fields.length : Int) := by omega
            have h8 : t.fields.length ≤ 8 := by omega
            have h8' : ¬ (8 < (t.fields.length : Int)) := by omega
            have hlab := t197 t.fields h8
            have hasc := t196 (t.fields.map (·.1)) (by rw [List.length_map]; exact h8)
            generalize t.fields.map (·.1) = ls at hlab hasc ⊢
            generalize ascN ls = a at hasc ⊢
            have h2b : (t.kind != 2) = true := by simpa using h2
            cases a <;> simp [S143, hne', hin', h2, h2b, h0, h0', h8, h8', hlab, hasc, h'', k1, k2]
      · have hin' : callW pg 173 [.int .i64 t.kind, .int .i64 0, .int .i64 2] = M.pure (.bool false) := by rw [hin, decide_eq_true k1, decide_eq_false k2]; rfl
        simp [S143, hne', hin', k2]
    · have hin' : callW pg 173 [.int .i64 t.kind, .int .i64 0, .int .i64 2] = M.pure (.bool false) := by rw [hin, decide_eq_false k1]; rfl
      simp [S143, hne', hin', k1]
theorem t74 (t : Ty) (ht : t.Lim) : callW pg 74 [t.av] = M.pure (.bool (rightT t)) := by
  have h := t143 4 (by omega) t ht
  have h' : callW pg 143 [t.av, .int .i64 4] = M.pure (.bool (rightT t)) := h
  rw [C74]
  simp [S74, h']
theorem t175 (t : Ty) (ht : t.Lim) : callW pg 175 [t.av] = M.pure (.bool (rightT t)) := by
  have h := t74 t ht
  rw [C175]
  simp [S175, h]
end Go.Proofs.YteemeakjlfnapaaGreatDoor
