/-
  DERIVED. GIVEN WITH THE SEED: THE CARDS: each row of YtbndmpiddinalacGreatDoorRows.lean that lists a variable, with what it lists TIED to the program's text (the seventh form; the later family's looks); each row that meets fmt, with fmt's text TOLD by the authors' own Lean function (tested against real Go, not proved from fmt's source: count such statements apart). THE CARD IS WHAT COUNTS. Prove the row's statement (the work); the ties are given (YtbndmpiddinalacGreatDoorTie.lean); close each card by the builder's one call (the guide's Derived/Test/ToyasCard.lean, 'card_holds'). Laid BY PROGRAM, IN A SANDBOX (cutbox-door.mjs). By AI agents, Wed Nov 11 2026. No macro, syntax, notation, axiom, sorry.
-/
import Derived.Test.YtbndmpiddinalacGreatDoorRows
import GoSem.ClaimSeven
namespace Go.Proofs.YtbndmpiddinalacGreatDoor
namespace Rows

/-- THE TIED CARD OF 'ladinglaw22.VmRefuses'. -/
def vmRefusesCard : Claim7 := { stood := { row := vmRefusesRow, standIns := [], harness := (true, "1079fe44b5fabb72e27893f09ce15bb2b92c0c55b31666e05445e20d934bb2df"), looks := true }, kinds := [], alts := [], laidByText := true, laidKinds := [.listed, .data, .data], laidTests := true, laidLooks := .later }
def VmRefusesCardSaid : Prop := Claim7.holds Tryz.pinned (.plain (OpenSpec.ofChange vmRefusesSpec)) vmRefusesCard

/-- THE SECOND FORM's CARD OF 'ladinglaw22.VmRefuses'. -/
def vmRefusesUptoCard : Claim7 := { stood := { row := vmRefusesUptoRow, standIns := [], harness := (true, "1079fe44b5fabb72e27893f09ce15bb2b92c0c55b31666e05445e20d934bb2df"), looks := true }, kinds := [], alts := [], laidByText := true, laidKinds := [.listed, .data, .data], laidTests := true, laidLooks := .later }
def VmRefusesUptoCardSaid : Prop := Claim7.holds Tryz.pinned (.plain (OpenSpec.upto vmRefusesSpec)) vmRefusesUptoCard
end Rows
end Go.Proofs.YtbndmpiddinalacGreatDoor
