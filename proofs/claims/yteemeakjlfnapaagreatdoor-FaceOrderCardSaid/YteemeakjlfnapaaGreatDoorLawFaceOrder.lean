/- The law FaceOrder answers true. No condition. -/
import Derived.Test.YteemeakjlfnapaaGreatDoorFcT2
import Derived.Test.YteemeakjlfnapaaGreatDoorFew17
import Derived.Test.YteemeakjlfnapaaGreatDoorSmall17
import Derived.Test.YteemeakjlfnapaaGreatDoorLd
namespace Go.Proofs.YteemeakjlfnapaaGreatDoor
open Go Go.Av Go.Av.Ap
set_option maxRecDepth 100000
@[simp] theorem bool_neq (a b : Bool) : binA T .neq 4 (.bool a) (.bool b) = some (.bool (a != b)) := rfl
theorem int_and (a b : Int) : binA T .and 3 (.int .i64 a) (.int .i64 b) = some (.int .i64 (andI a b)) := rfl
theorem appTy (l : List Ty) (t : Ty) (h : (l.length + 1) * 32 ≤ 140737488355328) : appA T 54 (tys l) (tys [t]) = some (tys (l ++ [t])) := appA_map (T := T) (t := 54) (f := Ty.av) rfl rfl rfl (fun x => Ap.okEl_ty x) h (by decide)
theorem appFd (l r : List Fld) (h : (l.length + r.length) * 48 ≤ 140737488355328) : appA T 25 (flds l) (flds r) = some (flds (l ++ r)) := by
  rw [flds_map, flds_map, flds_map]
  exact appA_map (T := T) (t := 25) (f := fldAv) rfl rfl rfl (fun x => okEl_fld x) h (by decide)
@[simp] theorem cell_tys (l : List Ty) : cell1M (tys l) = M.pure (tys l) := rfl
@[simp] theorem cell_flds (l : List Fld) : cell1M (flds l) = M.pure (flds l) := by rw [flds_map]; rfl
theorem build1T (t : Ty) : buildSliceA T 54 1 [(0, t.av)] = some (tys [t]) := buildT1 t
theorem slice1 (l : List Fld) (h : 1 ≤ l.length) : sliceA T 25 (flds l) (some (.int .i64 1)) none none = some (flds (l.drop 1)) := by
  rw [flds_map, flds_map, List.map_drop]
  have hok : okSz 3 (l.map fldAv) = true := okSz_map (fun x => okEl_fld x) l
  have h1 : boundA none (l.map fldAv).length (l.map fldAv).length = some (l.map fldAv).length := by simp [boundA]
  have h2 : boundA (some (.int .i64 1)) 0 (l.map fldAv).length = some 1 := by
    simp only [boundA, List.length_map]
    simp
    omega
  have e : sliceA T 25 (.sl (l.map fldAv)) (some (.int .i64 1)) none none = (match boundA none (l.map fldAv).length (l.map fldAv).length with
      | none => none
      | some h => match boundA (some (.int .i64 1)) 0 h with
        | none => none
        | some k => bif decide (k = 0) || okSz 3 (l.map fldAv) then some (.sl (((l.map fldAv).take h).drop k)) else none) := rfl
  rw [e, h1]
  simp only [h2, hok, Bool.or_true, cond_true, List.take_length]
theorem loopA7 (a b c : Sig) (ha : a.Lim) (less : AV) : ∀ (n i : Nat), a.params.length - i = n → i ≤ a.params.length → ∀ r : Bool,
    fixW (L7_1 (callW pg) fixW) [less, .ip (acells a.av), .ip (acells b.av), .ip (acells c.av), .bool true, .bool r, .int .i64 i] =
    fixW (L7_1 (callW pg) fixW) [less, .ip (acells a.av), .ip (acells b.av), .ip (acells c.av), .bool true, .bool (r && (a.params.drop i).all rightT), .int .i64 a.params.length] := by
  have hlen := ha.plen
  intro n
  induction n with
  | zero =>
    intro i hn hi r
    have h2 : a.params.drop i = [] := List.drop_eq_nil_of_le (by omega)
    obtain rfl : i = a.params.length := by omega
    simp [h2]
  | succ n ih =>
    intro i hn hi r
    have hlt : i < a.params.length := by omega
    have h1 : (i : Int) < (a.params.length : Int) := by omega
    have h2 : a.params.drop i = a.params[i] :: a.params.drop (i + 1) := List.drop_eq_getElem_cons hlt
    have hix := IX54 (l := a.params) (n := (i : Int)) (by omega) h1
    rw [Int.toNat_natCast, getElem!_pos a.params i hlt] at hix
    have hm := List.getElem_mem hlt
    have hr := t47 a.params[i] (ha.ptys _ hm)
    have hw : IntKind.i64.wrap ((i : Int) + 1) = ((i + 1 : Nat) : Int) := wrap_add1 (by omega)
    have ih' := ih (i + 1) (by omega) (by omega) (r && rightT a.params[i])
    rw [h2, List.all_cons, ← Bool.and_assoc, ← ih']
    generalize a.params[i] = t at hix hr
    rw [FL7_1]
    cases r with
    | false => simp [L7_1, h1, hlt, hw]
    | true => simp [L7_1, h1, hlt, hix, hr, hw]
theorem loopB7 (a b : Sig) (ha : a.Lim) (hro : a.Room) (r : Bool) (x0 x1 x2 x3 x4 y0 y2 y3 y4 : AV) : ∀ (n i : Nat), a.params.length - i = n → i ≤ a.params.length → ∀ l : List Ty, l.length = i →
    fixW (L7_0 (callW pg) fixW) [.ip (acells a.av), .ip (acells b.av), .bool true, .bool r, .int .i64 i, x0, x1, x2, x3, x4, y0, tys l, y2, y3, y4] =
    fixW (L7_0 (callW pg) fixW) [.ip (acells a.av), .ip (acells b.av), .bool true, .bool r, .int .i64 a.params.length, x0, x1, x2, x3, x4, y0, tys (l ++ (a.params.drop i).map dropT), y2, y3, y4] := by
  have hlen := ha.plen
  intro n
  induction n with
  | zero =>
    intro i hn hi l hll
    have h2 : a.params.drop i = [] := List.drop_eq_nil_of_le (by omega)
    obtain rfl : i = a.params.length := by omega
    simp [h2]
  | succ n ih =>
    intro i hn hi l hll
    have hlt : i < a.params.length := by omega
    have h1 : (i : Int) < (a.params.length : Int) := by omega
    have h2 : a.params.drop i = a.params[i] :: a.params.drop (i + 1) := List.drop_eq_getElem_cons hlt
    have hix := IX54 (l := a.params) (n := (i : Int)) (by omega) h1
    rw [Int.toNat_natCast, getElem!_pos a.params i hlt] at hix
    have hm := List.getElem_mem hlt
    have hw : IntKind.i64.wrap ((i : Int) + 1) = ((i + 1 : Nat) : Int) := wrap_add1 (by omega)
    have ih' := ih (i + 1) (by omega) (by omega) (l ++ [dropT a.params[i]]) (by simp [hll])
    have hflen := (ha.ptys _ hm).len
    have hfb := hro.fb _ hm
    have hpb := hro.pb
    rw [List.append_assoc, List.singleton_append] at ih'
    rw [h2, List.map_cons, ← ih']
    clear ih ih' h2 hm
    generalize a.params[i] = t at hix hflen hfb ⊢
    rw [FL7_0]
    have hb0 : buildSliceA T 25 0 [] = some (flds []) := rfl
    by_cases hl : 1 < t.fields.length
    · have hl' : 1 < (t.fields.length : Int) := by omega
      have hd : dropT t = .mk t.kind (t.fields.drop 1) := by unfold dropT; rw [if_pos hl]
      have hs := slice1 t.fields (by omega)
      have hap := appFd [] (t.fields.drop 1) (by simp only [List.length_nil, List.length_drop]; omega)
      have hfold : AV.agg [.int .i64 t.kind, flds (t.fields.drop 1)] = (dropT t).av := by rw [hd, ← fold_ty]; rfl
      have hb := build1T (dropT t)
      have hat := appTy l (dropT t) (by omega)
      rw [← hfold] at hb
      rw [List.nil_append] at hap
      rw [List.drop_one] at hs hap hb
      simp [L7_0, K7_0, h1, hlt, hix, hl', hl, hb0, hs, hap, hb, hat, hw]
    · have hl' : ¬ 1 < (t.fields.length : Int) := by omega
      have hd : dropT t = t := by unfold dropT; rw [if_neg hl]
      have hb := build1T t
      have hat := appTy l t (by omega)
      rw [hd]
      simp [L7_0, K7_0, h1, hlt, hix, hl', hl, hb, hat, hw]
theorem lim_eff {a : Sig} (ha : a.Lim) (e : Int) : ({ a with effects := e } : Sig).Lim := ⟨ha.plen, ha.ptys, ha.result⟩
theorem lim_drops {a : Sig} (ha : a.Lim) (n : Str) : ({ a with name := n, params := a.params.map dropT } : Sig).Lim :=
  ⟨by rw [List.length_map]; exact ha.plen, fun t ht => by
    obtain ⟨u, hu, rfl⟩ := List.mem_map.1 ht
    exact lim_drop (ha.ptys u hu), ha.result⟩
theorem endB7 (a b : Sig) (less : Int) (ha : a.Lim) (hb : b.Lim) (hro : a.Room) :
    fixW (L7_0 (callW pg) fixW) [.ip (acells a.av), .ip (acells b.av), .bool true, .bool (rightSg a), .int .i64 a.params.length, .str a.name, tys a.params, .int .i64 a.result.kind, flds a.result.fields, .int .i64 (andI a.effects less), .str b.name, tys (a.params.map dropT), .int .i64 a.result.kind, flds a.result.fields, .int .i64 a.effects] = M.pure (.bool true) := by
  have hlen := ha.plen
  have hblen := hb.plen
  have hx : callW pg 44 [.agg [.str a.name, tys a.params, .int .i64 a.result.kind, flds a.result.fields, .int .i64 (andI a.effects less)], a.av] = M.pure (.bool (subS { a with effects := andI a.effects less } a)) := by
    have := t44 { a with effects := andI a.effects less } a (lim_eff ha _) ha
    rw [← fold_sig] at this
    exact this
  have hy : callW pg 44 [.agg [.str b.name, tys (a.params.map dropT), .int .i64 a.result.kind, flds a.result.fields, .int .i64 a.effects], a.av] = M.pure (.bool (subS { a with name := b.name, params := a.params.map dropT } a)) := by
    have := t44 { a with name := b.name, params := a.params.map dropT } a (lim_drops ha _) ha
    rw [← fold_sig] at this
    exact this
  have hab := t44 a b ha hb
  have hs1 := @subS_less a
  have hs2 := @subS_drop a
  have hs3 := @subS_len a b
  have hs4 := fun h => @subS_eff a b h hro.e1 hro.e2
  rw [FL7_0]
  cases hr : rightSg a with
  | true =>
    rw [hs1 hr] at hx
    rw [hs2 hr] at hy
    cases hs : subS a b with
    | true =>
      have e3 := hs3 hs
      have e4 := hs4 hs
      rw [hs] at hab
      simp [L7_0, hx, hy, hab, e3, int_and, e4]
    | false =>
      rw [hs] at hab
      simp [L7_0, hx, hy, hab]
  | false =>
    cases hs : subS a b with
    | true =>
      have e3 := hs3 hs
      have e4 := hs4 hs
      rw [hs] at hab
      simp [L7_0, hab, e3, int_and, e4]
    | false =>
      rw [hs] at hab
      simp [L7_0, hab]
theorem endA7 (a b c : Sig) (less : Int) (ha : a.Lim) (hb : b.Lim) (hc : c.Lim) (hro : a.Room) :
    fixW (L7_1 (callW pg) fixW) [.int .i64 less, .ip (acells a.av), .ip (acells b.av), .ip (acells c.av), .bool true, .bool (rightSg a), .int .i64 a.params.length] = M.pure (.bool true) := by
  have hlen := ha.plen
  have haa := t44 a a ha ha
  rw [subS_self] at haa
  have hab := t44 a b ha hb
  have hbc := t44 b c hb hc
  have hac := t44 a c ha hc
  have ht := @subS_trans a b c
  have hB := loopB7 a b ha hro (rightSg a) (.str a.name) (tys a.params) (.int .i64 a.result.kind) (flds a.result.fields) (.int .i64 (andI a.effects less)) (.str b.name) (.int .i64 a.result.kind) (flds a.result.fields) (.int .i64 a.effects) a.params.length 0 rfl (Nat.zero_le _) [] rfl
  rw [List.drop_zero, List.nil_append, endB7 a b less ha hb hro] at hB
  have hB' : fixW (L7_0 (callW pg) fixW) [.ip (acells a.av), .ip (acells b.av), .bool true, .bool (rightSg a), .int .i64 0, .str a.name, tys a.params, .int .i64 a.result.kind, flds a.result.fields, .int .i64 (andI a.effects less), .str b.name, .sl [], .int .i64 a.result.kind, flds a.result.fields, .int .i64 a.effects] = M.pure (.bool true) := hB
  have hc1 : ∀ n : Int, cell1M (.int .i64 n) = M.pure (.int .i64 n) := fun n => rfl
  have hc2 : ∀ s : Str, cell1M (.str s) = M.pure (.str s) := fun s => rfl
  simp only [acells_sig] at hB'
  rw [FL7_1]
  cases hs1 : subS a b with
  | false =>
    rw [hs1] at hab
    simp [L7_1, haa, hab, int_and, hB', hc1, hc2]
  | true =>
    rw [hs1] at hab
    cases hs2 : subS b c with
    | false =>
      rw [hs2] at hbc
      simp [L7_1, haa, hab, hbc, int_and, hB', hc1, hc2]
    | true =>
      rw [hs2] at hbc
      rw [ht hs1 hs2] at hac
      simp [L7_1, haa, hab, hbc, hac, int_and, hB', hc1, hc2]
theorem t7 (a b c : Sig) (less : Int) (ha : a.Lim) (hb : b.Lim) (hc : c.Lim) (hro : a.Room) :
    callW pg 7 [a.av, b.av, c.av, .int .i64 less] = M.pure (.bool true) := by
  rw [C7]
  obtain ⟨p, hp⟩ := ex32 a ha
  obtain ⟨q, hq⟩ := ex32 b hb
  obtain ⟨r, hr⟩ := ex32 c hc
  cases p with
  | false => simp [S7, small17_W, hp]
  | true =>
    cases q with
    | false => simp [S7, small17_W, hp, hq]
    | true =>
      cases r with
      | false => simp [S7, small17_W, hp, hq, hr]
      | true =>
        have hres := t47 a.result ha.result
        have hA := loopA7 a b c ha (.int .i64 less) a.params.length 0 rfl (Nat.zero_le _) (rightT a.result)
        rw [List.drop_zero] at hA
        have hA2 := hA.trans (endA7 a b c less ha hb hc hro)
        have hA3 : fixW (L7_1 (callW pg) fixW) [.int .i64 less, .ip (acells a.av), .ip (acells b.av), .ip (acells c.av), .bool true, .bool (rightT a.result), .int .i64 0] = M.pure (.bool true) := hA2
        simp only [acells_sig] at hA3
        simp [S7, small17_W, hp, hq, hr, hres, hA3]
end Go.Proofs.YteemeakjlfnapaaGreatDoor
