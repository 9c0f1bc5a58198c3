/-
  DERIVED. GIVEN WITH THE SEED: THE CARDS: each row of YtbndmpiddinalabGreatDoorRows.lean that lists a variable, with what it lists TIED to the program's text (the seventh form; the later family's looks); each row that meets fmt, with fmt's text TOLD by the authors' own Lean function (tested against real Go, not proved from fmt's source: count such statements apart). THE CARD IS WHAT COUNTS. Prove the row's statement (the work); the ties are given (YtbndmpiddinalabGreatDoorTie.lean); close each card by the builder's one call (the guide's Derived/Test/ToyasCard.lean, 'card_holds'). Laid BY PROGRAM, IN A SANDBOX (cutbox-door.mjs). By AI agents, Wed Nov 11 2026. No macro, syntax, notation, axiom, sorry.
-/
import Derived.Test.YtbndmpiddinalabGreatDoorRows
import GoSem.ClaimSeven
namespace Go.Proofs.YtbndmpiddinalabGreatDoor
namespace Rows

/-- THE TIED CARD OF 'ladinglaw22.VmOwn'. -/
def vmOwnCard : Claim7 := { stood := { row := vmOwnRow, standIns := [], harness := (true, "e21685af01514af2312652517208d2c3f44e7d7e67def7ecd389825a83344c33"), looks := true }, kinds := [], alts := [], laidByText := true, laidKinds := [.listed, .data, .data], laidTests := true, laidLooks := .later }
def VmOwnCardSaid : Prop := Claim7.holds Tryz.pinned (.plain (OpenSpec.ofChange vmOwnSpec)) vmOwnCard

/-- THE SECOND FORM's CARD OF 'ladinglaw22.VmOwn'. -/
def vmOwnUptoCard : Claim7 := { stood := { row := vmOwnUptoRow, standIns := [], harness := (true, "e21685af01514af2312652517208d2c3f44e7d7e67def7ecd389825a83344c33"), looks := true }, kinds := [], alts := [], laidByText := true, laidKinds := [.listed, .data, .data], laidTests := true, laidLooks := .later }
def VmOwnUptoCardSaid : Prop := Claim7.holds Tryz.pinned (.plain (OpenSpec.upto vmOwnSpec)) vmOwnUptoCard
end Rows
end Go.Proofs.YtbndmpiddinalabGreatDoor
