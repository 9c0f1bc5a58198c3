/- What the rows of layer 17 list of the package variables gives, and a world in which it stands. No condition. -/
import Derived.Test.YteemeakjlfnapaaGreatDoorRows
import Derived.Test.YteemeakjlfnapaaGreatDoorOthAll17
import Derived.Test.YteemeakjlfnapaaGreatDoorLd
import Derived.Lib.LaidTab
import Derived.Stop.LaidErr
import Derived.Shelf.Vars
import Derived.WalkKit
import Derived.ProofKit
import Derived.Deep.DeepHandedRow
import Derived.Deep.DeepWitnessRowRef
import Derived.Deep.DeepLaidRun
namespace Go.Proofs.YteemeakjlfnapaaGreatDoor
open Go Go.Av Go.ChangeShapes Go.WideShapes Go.ChangeAt Go.RowKit
set_option maxRecDepth 1000000
theorem own0 : ownKnob Tryz.prog.godebug = none := by kernel_rfl
theorem star : "*" ++ "errors.errorString" = "*errors.errorString" := by decide
theorem row_unique (u : TypeId) (h : Tryz.prog.typeName? 3 u = some "*errors.errorString") : u = 288 :=
  typeName_ptr_named (nm := "errors.errorString") (by rw [star]; kernel_rfl) (by kernel_rfl) (by decide) u (by rw [star]; exact h)
theorem gok_of {W : World} (hL : laidMetH Tryz.prog Rows.faceOrderRow.laid W) (hS : W.ShapedOpen Tryz.prog) : GOKw W := by
  have h0 : laidMet Tryz.prog Rows.faceOrderRow.laid W := hL
  have h1 := h0.tail
  have h2 := h1.tail
  have h3 := h2.tail
  have h4 := h3.tail
  have hp := Lib.tabIs_of_head (k := .u64) (zs := Lib.pow10Tab) (g := 3) (t := 278) (e := 214) (n := 20) (by kernel_rfl) (by kernel_rfl) (by kernel_rfl) (by kernel_rfl) (by kernel_rfl) (by kernel_rfl) h2
  obtain ⟨a0, s0, v0, _⟩ := laid_sentinel (g := 5) (ti := 106) (tp := 288) (te := 290) (ts := 9) h3 (by kernel_rfl) (by kernel_rfl) Tryz.underlying106 row_unique Tryz.underlying288 Tryz.underlying290 rfl rfl Tryz.underlying9 (by kernel_rfl) (by kernel_rfl)
  obtain ⟨a1, s1, v1, _⟩ := laid_sentinel (g := 4) (ti := 106) (tp := 288) (te := 290) (ts := 9) h4 (by kernel_rfl) (by kernel_rfl) Tryz.underlying106 row_unique Tryz.underlying288 Tryz.underlying290 rfl rfl Tryz.underlying9 (by kernel_rfl) (by kernel_rfl)
  have hvar : ∀ {name : String} {g : Nat} {cs : Array Value}, Tryz.prog.globalNamed name = some g → W.var? Tryz.prog name = some cs → ∃ t fr, W.heap[g]? = some (.cells cs t fr) := by
    intro name g cs hn hv
    unfold World.var? at hv
    rw [hn] at hv
    simp only [Option.bind_some] at hv
    split at hv
    · rename_i c t fr hh
      simp only [Option.some.injEq] at hv
      subst hv
      exact ⟨t, fr, hh⟩
    · cases hv
  have hcell : ∀ {g : Nat} {v : Value}, (∃ t fr, W.heap[g]? = some (.cells #[v] t fr)) → W.cell? ⟨g, 0, none⟩ = some v := by
    rintro g v ⟨t, fr, hh⟩
    simp [World.cell?, hh]
  refine ⟨?_, hvar (by kernel_rfl) hp, ⟨_, _, hcell (hvar (by kernel_rfl) v1)⟩, ⟨_, _, hcell (hvar (by kernel_rfl) v0)⟩⟩
  exact cell_of_shapedOpen_int (zero := #[.int .i64 0]) (t := 3) hS (of_decide_eq_true (by kernel_rfl)) (by kernel_rfl) rfl (by kernel_rfl) (by kernel_rfl) Tryz.underlying3
mutual
def datCells : DataW Unit → List Value
  | .lit (.bool b) => [.bool b]
  | .lit (.int k n) => [.int k n]
  | .lit (.string s) => [.string ⟨s.toArray⟩]
  | .agg ps => datAll ps
  | _ => []
def datAll : List (DataW Unit) → List Value
  | [] => []
  | d :: ds => datCells d ++ datAll ds
end
abbrev synS : ByteArray := { data := #[105, 110, 118, 97, 108, 105, 100, 32, 115, 121, 110, 116, 97, 120] }
abbrev rngS : ByteArray := { data := #[118, 97, 108, 117, 101, 32, 111, 117, 116, 32, 111, 102, 32, 114, 97, 110, 103, 101] }
noncomputable def low : Nat := (World.holding Tryz.prog default ⟨#[], #[], []⟩).heap.size
noncomputable def varCells : List (Option (Array Value)) := [none, none, none, some (datCells Rows.laid_internal_strconv_uint64pow10).toArray, some #[.iface 288 (.pointer (some ⟨low, 0, none⟩))], some #[.iface 288 (.pointer (some ⟨low + 1, 0, none⟩))],
  some (datCells Rows.laid_math_bits_deBruijn32tab).toArray, some (datCells Rows.laid_math_bits_deBruijn64tab).toArray]
def putRows : List Obj → List (Option (Array Value)) → List Obj
  | .cells _ t fr :: os, some c :: cs => .cells c t fr :: putRows os cs
  | o :: os, _ :: cs => o :: putRows os cs
  | os, [] => os
  | [], _ => []
noncomputable def laidWorld (os : Os) : World :=
  let w0 := World.holding Tryz.prog os ⟨#[.cells #[.string synS] 290, .cells #[.string rngS] 290], #[], []⟩
  { w0 with heap := (putRows w0.heap.toList varCells).toArray }
theorem laid_met (os : Os) (args : Array Value) : laidMet Tryz.prog Rows.faceOrderRow.laid ((laidWorld os).forCall (fun _ _ => 0) ⟨#[], args, []⟩).memory :=
  laidMet_of_run3 8 (by kernel_rfl) (by kernel_rfl) (by kernel_rfl)
end Go.Proofs.YteemeakjlfnapaaGreatDoor
