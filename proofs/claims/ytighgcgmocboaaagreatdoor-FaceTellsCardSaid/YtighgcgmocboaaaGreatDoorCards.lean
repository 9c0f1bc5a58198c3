/-
  DERIVED. GIVEN WITH THE SEED: THE CARDS: each row of YtighgcgmocboaaaGreatDoorRows.lean that lists a variable, with what it lists TIED to the program's text (the seventh form; the later family's looks); each row that meets fmt, with fmt's text TOLD by the authors' own Lean function (tested against real Go, not proved from fmt's source: count such statements apart). THE CARD IS WHAT COUNTS. Prove the row's statement (the work); the ties are given (YtighgcgmocboaaaGreatDoorTie.lean); close each card by the builder's one call (the guide's Derived/Test/ToyasCard.lean, 'card_holds'). Laid BY PROGRAM, IN A SANDBOX (cutbox-door.mjs). By AI agents, Wed Nov 11 2026. No macro, syntax, notation, axiom, sorry.
-/
import Derived.Test.YtighgcgmocboaaaGreatDoorRows
import GoSem.ClaimSeven
namespace Go.Proofs.YtighgcgmocboaaaGreatDoor
namespace Rows

/-- THE TIED CARD OF 'ladinglaw17.FaceTells'. -/
def faceTellsCard : Claim7 := { stood := { row := faceTellsRow, standIns := [], harness := (true, "f2c64f1d1d664f655b5bd0a333967248b32fec863cd71d6167761e18b95f7ef5"), looks := true }, kinds := [], alts := [], laidByText := true, laidKinds := [.data, .data, .data, .sentinel, .sentinel], laidTests := true, laidLooks := .later }
def FaceTellsCardSaid : Prop := Claim7.holds Tryz.pinned (.plain (OpenSpec.ofChange faceTellsSpec)) faceTellsCard

/-- THE SECOND FORM's CARD OF 'ladinglaw17.FaceTells'. -/
def faceTellsUptoCard : Claim7 := { stood := { row := faceTellsUptoRow, standIns := [], harness := (true, "f2c64f1d1d664f655b5bd0a333967248b32fec863cd71d6167761e18b95f7ef5"), looks := true }, kinds := [], alts := [], laidByText := true, laidKinds := [.data, .data, .data, .sentinel, .sentinel], laidTests := true, laidLooks := .later }
def FaceTellsUptoCardSaid : Prop := Claim7.holds Tryz.pinned (.plain (OpenSpec.upto faceTellsSpec)) faceTellsUptoCard
end Rows
end Go.Proofs.YtighgcgmocboaaaGreatDoor
