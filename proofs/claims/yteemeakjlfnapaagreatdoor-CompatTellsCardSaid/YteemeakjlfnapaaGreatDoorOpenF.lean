/- Types, functions, interfaces and versions among the arguments, read as typed values. No condition. -/
import Derived.Test.YteemeakjlfnapaaGreatDoorProg
import Derived.Test.YteemeakjlfnapaaGreatDoorLd
namespace Go.Proofs.YteemeakjlfnapaaGreatDoor
open Go Go.Av Go.Av.Ap Go.RowKit
set_option maxRecDepth 1000000
section
variable {H : Type} {enc : TypeId × Value → H} {W : World}
theorem reach_eq : reachBytes = 140737488351232 := rfl
theorem Ty.lim_mk {k : Int} {fs : List Fld} (h2 : fs.length ≤ 140737488355328) (h3 : ∀ v ∈ fs, v.2.Lim) : (Ty.mk k fs).Lim := fun j => match j with
  | 0 => trivial
  | j + 1 => ⟨h2, fun x hx => h3 x hx j⟩
theorem rd_flds_of {N : Nat} (h : Rd enc Tryz.prog W N 27 (fun v : Ty => v.cells) Ty.Lim) : Rd enc Tryz.prog W (N + 1) 25 (fun l : List Fld => [flds l]) (fun l => l.length ≤ 140737488355328 ∧ ∀ v ∈ l, v.2.Lim) :=
  (rd_slice ((rd_struct Tryz.underlying76 (by kernel_rfl) (rdFs_cons (rd_str Tryz.underlying9) rfl (by kernel_rfl : _ = 1) (rdFs_cons h rfl (by kernel_rfl : _ = 2) rdFs_nil))).map (fun x => ((x.1, x.2.1) : Fld)) (cells' := fun f => acells (fldAv f)) (Ok' := fun f => f.2.Lim) (fun x => by simp [Ty.cells_eq]) (fun x h => h.2.1))
    Tryz.underlying25 (by kernel_rfl : _ = 3) (by decide) (by kernel_rfl : _ = 48) (ev := fldAv) (elOf_agg' fun v => by rw [fldAv_eq]; rfl)).map id (fun l => by simp [flds, fldsAv_map]) (fun l h => ⟨by have := h.1; rw [reach_eq] at this; simp only [id]; omega, h.2⟩)
theorem rd_ty : ∀ N, Rd enc Tryz.prog W N 27 (fun v : Ty => v.cells) Ty.Lim
  | 0 => .zero
  | N + 1 => (rd_struct Tryz.underlying27 (by kernel_rfl) (rdFs_cons (rd_int Tryz.underlying3) rfl (by kernel_rfl : _ = 1) (rdFs_cons ((rd_flds_of (rd_ty N)).le (Nat.le_succ N)) rfl (by kernel_rfl : _ = 1) rdFs_nil))).map (fun x => Ty.mk x.1 x.2.1)
      (fun x => by simp [Ty.cells_eq, Ty.kind, Ty.fields]) (fun x h => Ty.lim_mk h.2.1.1 h.2.1.2)
theorem rd_tys (N : Nat) : Rd enc Tryz.prog W N 54 (fun l : List Ty => [tys l]) (fun l => l.length ≤ 140737488355328 ∧ ∀ v ∈ l, v.Lim) :=
  (rd_slice (rd_ty N) Tryz.underlying54 (by kernel_rfl : _ = 2) (by decide) (by kernel_rfl : _ = 32) (ev := Ty.av) (elOf_agg' fun v => rfl)).map id (fun l => by simp [tys]) (fun l h => ⟨by have := h.1; rw [reach_eq] at this; simp only [id]; omega, h.2⟩)
theorem rd_vsn (N : Nat) : Rd enc Tryz.prog W (N + 1) 29 (fun f : Vsn => acells f.av) (fun _ => True) :=
  (rd_struct Tryz.underlying29 (by kernel_rfl) (rdFs_cons (rd_int Tryz.underlying3) rfl (by kernel_rfl : _ = 1) (rdFs_cons (rd_int Tryz.underlying3) rfl (by kernel_rfl : _ = 1) (rdFs_cons (rd_int Tryz.underlying3) rfl (by kernel_rfl : _ = 1) rdFs_nil)))).map
    (fun x => (⟨x.1, x.2.1, x.2.2.1⟩ : Vsn)) (fun x => by simp) (fun x h => trivial)
end
end Go.Proofs.YteemeakjlfnapaaGreatDoor
