/- Interfaces among the arguments, with functions whose effects a word holds. No condition. -/
import Derived.Test.YteemeakjlfnapaaGreatDoorOpenF
import Derived.Test.YteemeakjlfnapaaGreatDoorRef17
namespace Go.Proofs.YteemeakjlfnapaaGreatDoor
open Go Go.Av Go.Av.Ap Go.RowKit
set_option maxRecDepth 1000000
section
variable {H : Type} {enc : TypeId × Value → H} {W : World}
theorem rd_sigE (N : Nat) : Rd enc Tryz.prog W (N + 1) 56 (fun s : Sig => acells s.av) (fun s => s.Lim ∧ -9223372036854775808 ≤ s.effects ∧ s.effects ≤ 9223372036854775807) :=
  (rd_struct Tryz.underlying56 (by kernel_rfl) (rdFs_cons (rd_str Tryz.underlying9) rfl (by kernel_rfl : _ = 1) (rdFs_cons (rd_tys N) rfl (by kernel_rfl : _ = 1) (rdFs_cons (rd_ty N) rfl (by kernel_rfl : _ = 2) (rdFs_cons (rd_int Tryz.underlying3) rfl (by kernel_rfl : _ = 1) rdFs_nil))))).map
    (fun x => (⟨x.1, x.2.1, x.2.2.1, x.2.2.2.1⟩ : Sig)) (fun x => by simp [Ty.cells_eq]) (fun x h => ⟨⟨h.2.1.1, h.2.1.2, h.2.2.1⟩, (bounds_i64 h.2.2.2.1).1, (bounds_i64 h.2.2.2.1).2⟩)
theorem rd_sigsE (N : Nat) : Rd enc Tryz.prog W N 22 (fun l : List Sig => [sigs l]) (fun l => l.length ≤ 140737488355328 ∧ ∀ v ∈ l, v.Lim ∧ -9223372036854775808 ≤ v.effects ∧ v.effects ≤ 9223372036854775807) :=
  ((rd_slice (rd_sigE N) Tryz.underlying22 (by kernel_rfl : _ = 5) (by decide) (by kernel_rfl : _ = 80) (ev := Sig.av) (elOf_agg' fun v => rfl)).map id (fun l => by simp [sigs]) (fun l h => ⟨by have := h.1; rw [reach_eq] at this; simp only [id]; omega, h.2⟩)).le (Nat.le_succ N)
theorem rd_faceE (N : Nat) : Rd enc Tryz.prog W (N + 1) 24 (fun f : Face => acells f.av) (fun f => f.Lim ∧ Face.Eff f) :=
  (rd_struct Tryz.underlying24 (by kernel_rfl) (rdFs_cons (rd_str Tryz.underlying9) rfl (by kernel_rfl : _ = 1) (rdFs_cons (rd_sigsE N) rfl (by kernel_rfl : _ = 1) rdFs_nil))).map
    (fun x => (⟨x.1, x.2.1⟩ : Face)) (fun x => by simp) (fun x h => ⟨⟨h.2.1.1, fun s hs => (h.2.1.2 s hs).1⟩, fun s hs => (h.2.1.2 s hs).2⟩)
end
end Go.Proofs.YteemeakjlfnapaaGreatDoor
