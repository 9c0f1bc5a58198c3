/-
  DERIVED. GIVEN WITH THE SEED: THE CARDS: each row of YtbndmpiddinalaaGreatDoorRows.lean that lists a variable, with what it lists TIED to the program's text (the seventh form; the later family's looks); each row that meets fmt, with fmt's text TOLD by the authors' own Lean function (tested against real Go, not proved from fmt's source: count such statements apart). THE CARD IS WHAT COUNTS. Prove the row's statement (the work); the ties are given (YtbndmpiddinalaaGreatDoorTie.lean); close each card by the builder's one call (the guide's Derived/Test/ToyasCard.lean, 'card_holds'). Laid BY PROGRAM, IN A SANDBOX (cutbox-door.mjs). By AI agents, Wed Nov 11 2026. No macro, syntax, notation, axiom, sorry.
-/
import Derived.Test.YtbndmpiddinalaaGreatDoorRows
import GoSem.ClaimSeven
namespace Go.Proofs.YtbndmpiddinalaaGreatDoor
namespace Rows

/-- THE TIED CARD OF 'ladinglaw22.VmSplits'. -/
def vmSplitsCard : Claim7 := { stood := { row := vmSplitsRow, standIns := [], harness := (true, "87363a331adb27833ac1dd8fb7d40419a0180e2523dbb07f526078f3c138e5a5"), looks := true }, kinds := [], alts := [], laidByText := true, laidKinds := [.listed, .data, .data], laidTests := true, laidLooks := .later }
def VmSplitsCardSaid : Prop := Claim7.holds Tryz.pinned (.plain (OpenSpec.ofChange vmSplitsSpec)) vmSplitsCard

/-- THE SECOND FORM's CARD OF 'ladinglaw22.VmSplits'. -/
def vmSplitsUptoCard : Claim7 := { stood := { row := vmSplitsUptoRow, standIns := [], harness := (true, "87363a331adb27833ac1dd8fb7d40419a0180e2523dbb07f526078f3c138e5a5"), looks := true }, kinds := [], alts := [], laidByText := true, laidKinds := [.listed, .data, .data], laidTests := true, laidLooks := .later }
def VmSplitsUptoCardSaid : Prop := Claim7.holds Tryz.pinned (.plain (OpenSpec.upto vmSplitsSpec)) vmSplitsUptoCard
end Rows
end Go.Proofs.YtbndmpiddinalaaGreatDoor
