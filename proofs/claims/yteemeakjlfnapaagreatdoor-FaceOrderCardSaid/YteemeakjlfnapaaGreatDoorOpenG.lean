/- Functions among the arguments, with what their parts weigh. No condition. -/
import Derived.Test.YteemeakjlfnapaaGreatDoorOpenF
import Derived.Test.YteemeakjlfnapaaGreatDoorLd
namespace Go.Proofs.YteemeakjlfnapaaGreatDoor
open Go Go.Av Go.Av.Ap Go.RowKit
set_option maxRecDepth 1000000
section
variable {H : Type} {enc : TypeId × Value → H} {W : World}
theorem rd_fldsR {N : Nat} (h : Rd enc Tryz.prog W N 27 (fun v : Ty => v.cells) Ty.Lim) : Rd enc Tryz.prog W (N + 1) 25 (fun l : List Fld => [flds l]) (fun l => l.length * 48 ≤ 140737488355328 ∧ ∀ v ∈ l, v.2.Lim) :=
  (rd_slice ((rd_struct Tryz.underlying76 (by kernel_rfl) (rdFs_cons (rd_str Tryz.underlying9) rfl (by kernel_rfl : _ = 1) (rdFs_cons h rfl (by kernel_rfl : _ = 2) rdFs_nil))).map (fun x => ((x.1, x.2.1) : Fld)) (cells' := fun f => acells (fldAv f)) (Ok' := fun f => f.2.Lim) (fun x => by simp [Ty.cells_eq]) (fun x h => h.2.1))
    Tryz.underlying25 (by kernel_rfl : _ = 3) (by decide) (by kernel_rfl : _ = 48) (ev := fldAv) (elOf_agg' fun v => by rw [fldAv_eq]; rfl)).map id (fun l => by simp [flds, fldsAv_map]) (fun l h => ⟨by have := h.1; rw [reach_eq] at this; simp only [id]; omega, h.2⟩)
theorem rd_tyR : ∀ N, Rd enc Tryz.prog W N 27 (fun v : Ty => v.cells) (fun v => v.Lim ∧ v.fields.length * 48 ≤ 140737488355328)
  | 0 => .zero
  | N + 1 => (rd_struct Tryz.underlying27 (by kernel_rfl) (rdFs_cons (rd_int Tryz.underlying3) rfl (by kernel_rfl : _ = 1) (rdFs_cons ((rd_fldsR (rd_ty N)).le (Nat.le_succ N)) rfl (by kernel_rfl : _ = 1) rdFs_nil))).map (fun x => Ty.mk x.1 x.2.1)
      (fun x => by simp [Ty.cells_eq, Ty.kind, Ty.fields]) (fun x h => ⟨Ty.lim_mk (by have := h.2.1.1; omega) h.2.1.2, h.2.1.1⟩)
theorem rd_tysR (N : Nat) : Rd enc Tryz.prog W N 54 (fun l : List Ty => [tys l]) (fun l => l.length * 32 ≤ 140737488355328 ∧ ∀ v ∈ l, v.Lim ∧ v.fields.length * 48 ≤ 140737488355328) :=
  (rd_slice (rd_tyR N) Tryz.underlying54 (by kernel_rfl : _ = 2) (by decide) (by kernel_rfl : _ = 32) (ev := Ty.av) (elOf_agg' fun v => rfl)).map id (fun l => by simp [tys]) (fun l h => ⟨by have := h.1; rw [reach_eq] at this; simp only [id]; omega, h.2⟩)
theorem rd_sigR (N : Nat) : Rd enc Tryz.prog W (N + 1) 56 (fun s : Sig => acells s.av) (fun s => s.Lim ∧ s.Room) :=
  (rd_struct Tryz.underlying56 (by kernel_rfl) (rdFs_cons (rd_str Tryz.underlying9) rfl (by kernel_rfl : _ = 1) (rdFs_cons (rd_tysR N) rfl (by kernel_rfl : _ = 1) (rdFs_cons (rd_ty N) rfl (by kernel_rfl : _ = 2) (rdFs_cons (rd_int Tryz.underlying3) rfl (by kernel_rfl : _ = 1) rdFs_nil))))).map
    (fun x => (⟨x.1, x.2.1, x.2.2.1, x.2.2.2.1⟩ : Sig)) (fun x => by simp [Ty.cells_eq]) (fun x h => ⟨⟨by show x.2.1.length ≤ _; have := h.2.1.1; omega, fun t ht => (h.2.1.2 t ht).1, h.2.2.1⟩, ⟨h.2.1.1, fun t ht => (h.2.1.2 t ht).2, (bounds_i64 h.2.2.2.1).1, (bounds_i64 h.2.2.2.1).2⟩⟩)
end
end Go.Proofs.YteemeakjlfnapaaGreatDoor
