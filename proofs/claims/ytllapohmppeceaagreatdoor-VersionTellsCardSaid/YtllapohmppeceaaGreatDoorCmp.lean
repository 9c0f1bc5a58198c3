/- The function that compares two ranges, in a program where nothing is known by other means. No condition. -/
import Derived.Test.YtllapohmppeceaaGreatDoorVer
import Derived.Test.YtllapohmppeceaaGreatDoorGood
import Derived.Test.YtllapohmppeceaaGreatDoorLc
namespace Go.Proofs.YtllapohmppeceaaGreatDoor.C
open Go Go.Av Go.Av.Ap
set_option maxRecDepth 100000
noncomputable def pg : Pg := { T := T, funcs := findF tabF, own := own, other := fun _ => none }
theorem hOther : OtherLim pg := fun f E h => by cases h
theorem E52 (call : FuncId → List AV → M AV) (fx : Fix AV) (a0 : AV) : evBody (pg.cx call Tryz.f52.ntmps ann52) fx Tryz.f52 (own 52) [a0] = S52 call fx a0 := by kernel_rfl
theorem C52 (a0 : AV) : callW pg 52 [a0] = isoP (S52 (callW pg) fixW (cl noHs a0)) := (callW_iso hOther rfl rfl rfl _).trans (congrArg isoP (E52 _ _ (cl noHs a0)))
theorem E32 (call : FuncId → List AV → M AV) (fx : Fix AV) (a0 a1 : AV) : evBody (pg.cx call Tryz.f32.ntmps ann32) fx Tryz.f32 (own 32) [a0, a1] = S32 call fx a0 a1 := by kernel_rfl
theorem C32 (a0 a1 : AV) : callW pg 32 [a0, a1] = isoP (S32 (callW pg) fixW (cl noHs a0) (cl noHs a1)) := (callW_iso hOther rfl rfl rfl _).trans (congrArg isoP (E32 _ _ (cl noHs a0) (cl noHs a1)))
theorem E31 (call : FuncId → List AV → M AV) (fx : Fix AV) (a0 : AV) : evBody (pg.cx call Tryz.f31.ntmps ann31) fx Tryz.f31 (own 31) [a0] = S31 call fx a0 := by kernel_rfl
theorem C31 (a0 : AV) : callW pg 31 [a0] = isoP (S31 (callW pg) fixW (cl noHs a0)) := (callW_iso hOther rfl rfl rfl _).trans (congrArg isoP (E31 _ _ (cl noHs a0)))
theorem E11 (call : FuncId → List AV → M AV) (fx : Fix AV) (a0 a1 : AV) : evBody (pg.cx call Tryz.f11.ntmps ann11) fx Tryz.f11 (own 11) [a0, a1] = S11 call fx a0 a1 := by kernel_rfl
theorem C11 (a0 a1 : AV) : callW pg 11 [a0, a1] = isoP (S11 (callW pg) fixW (cl noHs a0) (cl noHs a1)) := (callW_iso hOther rfl rfl rfl _).trans (congrArg isoP (E11 _ _ (cl noHs a0) (cl noHs a1)))
theorem E42 (call : FuncId → List AV → M AV) (fx : Fix AV) (a0 a1 : AV) : evBody (pg.cx call Tryz.f42.ntmps ann42) fx Tryz.f42 (own 42) [a0, a1] = S42 call fx a0 a1 := by kernel_rfl
theorem C42 (a0 a1 : AV) : callW pg 42 [a0, a1] = isoP (S42 (callW pg) fixW (cl noHs a0) (cl noHs a1)) := (callW_iso hOther rfl rfl rfl _).trans (congrArg isoP (E42 _ _ (cl noHs a0) (cl noHs a1)))
theorem t52 (n : Int) : callW pg 52 [.int .i64 n] = M.pure (.bool false) := by
  rw [C52]
  simp [S52]
theorem t32 (a b : Int) : callW pg 32 [.int .i64 a, .int .i64 b] = M.pure (.int .i64 (ordI a b)) := by
  rw [C32]
  simp [S32, t52, ordI]
theorem loop31 (l : List Int) (hb : l.length ≤ 1099511627776) : ∀ (n : Nat) (i : Int), l.length - i.toNat = n → 0 ≤ i → i ≤ l.length →
    fixW (L31_0 (callW pg) fixW) [.int .i64 0, ints l, .int .i64 l.length, .int .i64 i] = M.pure (.int .i64 (orL (l.drop i.toNat))) := by
  intro n
  induction n with
  | zero =>
    intro i hn hi hl
    rw [FL31_0]
    simp only [L31_0]
    have h1 : ¬ (i < (l.length : Int)) := by omega
    have h2 : l.drop i.toNat = [] := List.drop_eq_nil_of_le (by omega)
    simp [h1, h2, orL]
  | succ n ih =>
    intro i hn hi hl
    have h1 : i < (l.length : Int) := by omega
    have hlt : i.toNat < l.length := by omega
    have h4 := ih (i + 1) (by omega) (by omega) (by omega)
    rw [show (i + 1).toNat = i.toNat + 1 by omega] at h4
    rw [FL31_0, List.drop_eq_getElem_cons hlt]
    simp only [L31_0, orL]
    simp (disch := omega) [h1, wrap_in, IX51, h4]
theorem t31 (l : List Int) (hb : l.length ≤ 1099511627776) : callW pg 31 [ints l] = M.pure (.int .i64 (orL l)) := by
  rw [C31]
  simp [S31, loop31 l hb l.length 0 rfl (by omega) (by omega)]
theorem t11 (v w : Ver) : callW pg 11 [v.av, w.av] = M.pure (.int .i64 (cmpV v w)) := by
  rw [C11]
  have hB : ∀ x y z : Int, buildSliceA T 51 3 [(0, .int .i64 x), (1, .int .i64 y), (2, .int .i64 z)] = some (ints [x, y, z]) := fun x y z => rfl
  simp [S11, t32, hB, t31]
  congr 2
  simp only [orL, cmpV, orI]
  by_cases h1 : ordI v.a w.a = 0 <;> by_cases h2 : ordI v.b w.b = 0 <;> by_cases h3 : ordI v.c w.c = 0 <;> simp [h1, h2, h3]
theorem t42 (x y : Rng) : callW pg 42 [x.av, y.av] = M.pure (.int .i64 (cmpV x.lo y.lo)) := by
  rw [C42]
  simp [S42, t11]
theorem good : @GoodPg ⟨True⟩ Tryz.prog pg := by
  letI : Dr := ⟨True⟩
  exact ⟨tok, funcs_ok, (fun f E h => by cases h), (fun f h => by cases h)⟩
end Go.Proofs.YtllapohmppeceaaGreatDoor.C
