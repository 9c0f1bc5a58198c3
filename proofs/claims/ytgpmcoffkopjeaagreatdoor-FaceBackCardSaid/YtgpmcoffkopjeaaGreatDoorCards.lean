/-
  DERIVED. GIVEN WITH THE SEED: THE CARDS: each row of YtgpmcoffkopjeaaGreatDoorRows.lean that lists a variable, with what it lists TIED to the program's text (the seventh form; the later family's looks); each row that meets fmt, with fmt's text TOLD by the authors' own Lean function (tested against real Go, not proved from fmt's source: count such statements apart). THE CARD IS WHAT COUNTS. Prove the row's statement (the work); the ties are given (YtgpmcoffkopjeaaGreatDoorTie.lean); close each card by the builder's one call (the guide's Derived/Test/ToyasCard.lean, 'card_holds'). Laid BY PROGRAM, IN A SANDBOX (cutbox-door.mjs). By AI agents, Wed Nov 11 2026. No macro, syntax, notation, axiom, sorry.
-/
import Derived.Test.YtgpmcoffkopjeaaGreatDoorRows
import GoSem.ClaimSeven
namespace Go.Proofs.YtgpmcoffkopjeaaGreatDoor
namespace Rows

/-- THE TIED CARD OF 'ladinglaw17.FaceTells'. -/
def faceTellsCard : Claim7 := { stood := { row := faceTellsRow, standIns := [], harness := (true, "83b360419938db173501ac29e717eaaf99ebfb20581c0a191f0c877133b22c9d"), looks := true }, kinds := [], alts := [], laidByText := true, laidKinds := [.data, .data, .data, .sentinel, .sentinel], laidTests := true, laidLooks := .later }
def FaceTellsCardSaid : Prop := Claim7.holds Tryz.pinned (.plain (OpenSpec.ofChange faceTellsSpec)) faceTellsCard

/-- THE TIED CARD OF 'ladinglaw17.FaceBack'. -/
def faceBackCard : Claim7 := { stood := { row := faceBackRow, standIns := [], harness := (true, "83b360419938db173501ac29e717eaaf99ebfb20581c0a191f0c877133b22c9d"), looks := true }, kinds := [], alts := [], laidByText := true, laidKinds := [.data, .data, .data, .sentinel, .sentinel], laidTests := true, laidLooks := .later }
def FaceBackCardSaid : Prop := Claim7.holds Tryz.pinned (.plain (OpenSpec.ofChange faceBackSpec)) faceBackCard

/-- THE SECOND FORM's CARD OF 'ladinglaw17.FaceTells'. -/
def faceTellsUptoCard : Claim7 := { stood := { row := faceTellsUptoRow, standIns := [], harness := (true, "83b360419938db173501ac29e717eaaf99ebfb20581c0a191f0c877133b22c9d"), looks := true }, kinds := [], alts := [], laidByText := true, laidKinds := [.data, .data, .data, .sentinel, .sentinel], laidTests := true, laidLooks := .later }
def FaceTellsUptoCardSaid : Prop := Claim7.holds Tryz.pinned (.plain (OpenSpec.upto faceTellsSpec)) faceTellsUptoCard

/-- THE SECOND FORM's CARD OF 'ladinglaw17.FaceBack'. -/
def faceBackUptoCard : Claim7 := { stood := { row := faceBackUptoRow, standIns := [], harness := (true, "83b360419938db173501ac29e717eaaf99ebfb20581c0a191f0c877133b22c9d"), looks := true }, kinds := [], alts := [], laidByText := true, laidKinds := [.data, .data, .data, .sentinel, .sentinel], laidTests := true, laidLooks := .later }
def FaceBackUptoCardSaid : Prop := Claim7.holds Tryz.pinned (.plain (OpenSpec.upto faceBackSpec)) faceBackUptoCard
end Rows
end Go.Proofs.YtgpmcoffkopjeaaGreatDoor
