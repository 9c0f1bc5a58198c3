/- What the rows of layer 18 list of the package variables gives, and a world in which it stands. No condition. -/
import Derived.Test.YteemeakjlfnapaaGreatDoorRows
import Derived.Test.YteemeakjlfnapaaGreatDoorOthAll
import Derived.Test.YteemeakjlfnapaaGreatDoorLd
import Derived.Lib.LaidTab
import Derived.Stop.LaidErr
import Derived.Shelf.Vars
import Derived.WalkKit
import Derived.ProofKit
import Derived.Deep.DeepHandedRow
import Derived.Deep.DeepWitnessRowRef
import Derived.Deep.DeepLaidRun
namespace Go.Proofs.YteemeakjlfnapaaGreatDoor
open Go Go.Av Go.ChangeShapes Go.WideShapes Go.ChangeAt Go.RowKit
set_option maxRecDepth 1000000
theorem own0 : ownKnob Tryz.prog.godebug = none := by kernel_rfl
theorem gok_of {W : World} (hL : laidMetH Tryz.prog Rows.compatClaimsRow.laid W) (hS : W.ShapedOpen Tryz.prog) : GOKw W := by
  have h0 : laidMet Tryz.prog Rows.compatClaimsRow.laid W := hL
  have h1 := h0.tail
  have h2 := h1.tail
  have h3 := h2.tail
  have h4 := h3.tail
  have hp := Lib.tabIs_of_head (k := .u64) (zs := Lib.pow10Tab) (g := 3) (t := 278) (e := 214) (n := 20) (by kernel_rfl) (by kernel_rfl) (by kernel_rfl) (by kernel_rfl) (by kernel_rfl) (by kernel_rfl) h2
  have ha := Lib.tabIs_of_head (k := .u8) (zs := Lib.asciiSpaceTab) (g := 0) (t := 228) (e := 5) (n := 256) (by kernel_rfl) (by kernel_rfl) (by kernel_rfl) (by kernel_rfl) (by kernel_rfl) (by kernel_rfl) h4
  have hvar : ∀ {name : String} {g : Nat} {cs : Array Value}, Tryz.prog.globalNamed name = some g → W.var? Tryz.prog name = some cs → ∃ t fr, W.heap[g]? = some (.cells cs t fr) := by
    intro name g cs hn hv
    unfold World.var? at hv
    rw [hn] at hv
    simp only [Option.bind_some] at hv
    split at hv
    · rename_i c t fr hh
      simp only [Option.some.injEq] at hv
      subst hv
      exact ⟨t, fr, hh⟩
    · cases hv
  refine ⟨hvar (by kernel_rfl) ha, ?_, hvar (by kernel_rfl) hp⟩
  exact cell_of_shapedOpen_int (zero := #[.int .i64 0]) (t := 3) hS (of_decide_eq_true (by kernel_rfl)) (by kernel_rfl) rfl (by kernel_rfl) (by kernel_rfl) Tryz.underlying3
mutual
def datCells : DataW Unit → List Value
  | .lit (.bool b) => [.bool b]
  | .lit (.int k n) => [.int k n]
  | .lit (.string s) => [.string ⟨s.toArray⟩]
  | .agg ps => datAll ps
  | _ => []
def datAll : List (DataW Unit) → List Value
  | [] => []
  | d :: ds => datCells d ++ datAll ds
end
def rangeCells : List Value := [9, 13, 1, 32, 133, 101, 160, 5760, 5600, 8192, 8202, 1, 8232, 8233, 1, 8239, 8287, 48, 12288, 12288, 1].map (Value.int .u16)
noncomputable def low : Nat := (World.holding Tryz.prog default ⟨#[], #[], []⟩).heap.size
noncomputable def varCells : List (Option (Array Value)) := [some (datCells Rows.laid_strings_asciiSpace).toArray, some #[.pointer (some ⟨low, 0, none⟩)],
  none, some (datCells Rows.laid_internal_strconv_uint64pow10).toArray, none, none, some (datCells Rows.laid_math_bits_deBruijn32tab).toArray, some (datCells Rows.laid_math_bits_deBruijn64tab).toArray]
def putRows : List Obj → List (Option (Array Value)) → List Obj
  | .cells _ t fr :: os, some c :: cs => .cells c t fr :: putRows os cs
  | o :: os, _ :: cs => o :: putRows os cs
  | os, [] => os
  | [], _ => []
noncomputable def laidWorld (os : Os) : World :=
  let w0 := World.holding Tryz.prog os ⟨#[.cells #[.slice (some ⟨low + 1, 0, none⟩) 7 7, .slice none 0 0, .int .i64 2] 267, .cells rangeCells.toArray 270], #[], []⟩
  { w0 with heap := (putRows w0.heap.toList varCells).toArray }
theorem laid_met (os : Os) (args : Array Value) : laidMet Tryz.prog Rows.compatClaimsRow.laid ((laidWorld os).forCall (fun _ _ => 0) ⟨#[], args, []⟩).memory :=
  laidMet_of_run3 8 (by kernel_rfl) (by kernel_rfl) (by kernel_rfl)
end Go.Proofs.YteemeakjlfnapaaGreatDoor
