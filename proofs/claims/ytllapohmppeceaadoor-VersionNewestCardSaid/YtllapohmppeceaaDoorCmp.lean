/- The function that compares two ranges, in a program where nothing is known by other means. No condition. -/
import Derived.Test.YtllapohmppeceaaDoorVer
import Derived.Test.YtllapohmppeceaaDoorGood
import Derived.Test.YtllapohmppeceaaDoorLg
namespace Go.Proofs.YtllapohmppeceaaDoor.C
open Go Go.Av Go.Av.Ap
set_option maxRecDepth 100000
noncomputable def pg : Pg := { T := T, funcs := findF tabF, own := own, other := fun _ => none }
theorem hOther : OtherLim pg := fun f E h => by cases h
theorem E44 (call : FuncId → List AV → M AV) (fx : Fix AV) (a0 : AV) : evBody (pg.cx call Tryd.f44.ntmps ann44) fx Tryd.f44 (own 44) [a0] = S44 call fx a0 := by kernel_rfl
theorem C44 (a0 : AV) : callW pg 44 [a0] = isoP (S44 (callW pg) fixW (cl noHs a0)) := (callW_iso hOther rfl rfl rfl _).trans (congrArg isoP (E44 _ _ (cl noHs a0)))
theorem E28 (call : FuncId → List AV → M AV) (fx : Fix AV) (a0 a1 : AV) : evBody (pg.cx call Tryd.f28.ntmps ann28) fx Tryd.f28 (own 28) [a0, a1] = S28 call fx a0 a1 := by kernel_rfl
theorem C28 (a0 a1 : AV) : callW pg 28 [a0, a1] = isoP (S28 (callW pg) fixW (cl noHs a0) (cl noHs a1)) := (callW_iso hOther rfl rfl rfl _).trans (congrArg isoP (E28 _ _ (cl noHs a0) (cl noHs a1)))
theorem E27 (call : FuncId → List AV → M AV) (fx : Fix AV) (a0 : AV) : evBody (pg.cx call Tryd.f27.ntmps ann27) fx Tryd.f27 (own 27) [a0] = S27 call fx a0 := by kernel_rfl
theorem C27 (a0 : AV) : callW pg 27 [a0] = isoP (S27 (callW pg) fixW (cl noHs a0)) := (callW_iso hOther rfl rfl rfl _).trans (congrArg isoP (E27 _ _ (cl noHs a0)))
theorem E12 (call : FuncId → List AV → M AV) (fx : Fix AV) (a0 a1 : AV) : evBody (pg.cx call Tryd.f12.ntmps ann12) fx Tryd.f12 (own 12) [a0, a1] = S12 call fx a0 a1 := by kernel_rfl
theorem C12 (a0 a1 : AV) : callW pg 12 [a0, a1] = isoP (S12 (callW pg) fixW (cl noHs a0) (cl noHs a1)) := (callW_iso hOther rfl rfl rfl _).trans (congrArg isoP (E12 _ _ (cl noHs a0) (cl noHs a1)))
theorem E33 (call : FuncId → List AV → M AV) (fx : Fix AV) (a0 a1 : AV) : evBody (pg.cx call Tryd.f33.ntmps ann33) fx Tryd.f33 (own 33) [a0, a1] = S33 call fx a0 a1 := by kernel_rfl
theorem C33 (a0 a1 : AV) : callW pg 33 [a0, a1] = isoP (S33 (callW pg) fixW (cl noHs a0) (cl noHs a1)) := (callW_iso hOther rfl rfl rfl _).trans (congrArg isoP (E33 _ _ (cl noHs a0) (cl noHs a1)))
theorem t44 (n : Int) : callW pg 44 [.int .i64 n] = M.pure (.bool false) := by
  rw [C44]
  simp [S44]
theorem t28 (a b : Int) : callW pg 28 [.int .i64 a, .int .i64 b] = M.pure (.int .i64 (ordI a b)) := by
  rw [C28]
  simp [S28, t44, ordI]
theorem loop27 (l : List Int) (hb : l.length ≤ 1099511627776) : ∀ (n : Nat) (i : Int), l.length - i.toNat = n → 0 ≤ i → i ≤ l.length →
    fixW (L27_0 (callW pg) fixW) [.int .i64 0, ints l, .int .i64 l.length, .int .i64 i] = M.pure (.int .i64 (orL (l.drop i.toNat))) := by
  intro n
  induction n with
  | zero =>
    intro i hn hi hl
    rw [FL27_0]
    simp only [L27_0]
    have h1 : ¬ (i < (l.length : Int)) := by omega
    have h2 : l.drop i.toNat = [] := List.drop_eq_nil_of_le (by omega)
    simp [h1, h2, orL]
  | succ n ih =>
    intro i hn hi hl
    have h1 : i < (l.length : Int) := by omega
    have hlt : i.toNat < l.length := by omega
    have h4 := ih (i + 1) (by omega) (by omega) (by omega)
    rw [show (i + 1).toNat = i.toNat + 1 by omega] at h4
    rw [FL27_0, List.drop_eq_getElem_cons hlt]
    simp only [L27_0, orL]
    simp (disch := omega) [h1, wrap_in, IX67, h4]
theorem t27 (l : List Int) (hb : l.length ≤ 1099511627776) : callW pg 27 [ints l] = M.pure (.int .i64 (orL l)) := by
  rw [C27]
  simp [S27, loop27 l hb l.length 0 rfl (by omega) (by omega)]
theorem t12 (v w : Ver) : callW pg 12 [v.av, w.av] = M.pure (.int .i64 (cmpV v w)) := by
  rw [C12]
  have hB : ∀ x y z : Int, buildSliceA T 67 3 [(0, .int .i64 x), (1, .int .i64 y), (2, .int .i64 z)] = some (ints [x, y, z]) := fun x y z => rfl
  simp [S12, t28, hB, t27]
  congr 2
  simp only [orL, cmpV, orI]
  by_cases h1 : ordI v.a w.a = 0 <;> by_cases h2 : ordI v.b w.b = 0 <;> by_cases h3 : ordI v.c w.c = 0 <;> simp [h1, h2, h3]
theorem t33 (x y : Rng) : callW pg 33 [x.av, y.av] = M.pure (.int .i64 (cmpV x.lo y.lo)) := by
  rw [C33]
  simp [S33, t12]
theorem good : @GoodPg ⟨True⟩ Tryd.prog pg := by
  letI : Dr := ⟨True⟩
  exact ⟨tok, funcs_ok, (fun f E h => by cases h), (fun f h => by cases h)⟩
end Go.Proofs.YtllapohmppeceaaDoor.C
