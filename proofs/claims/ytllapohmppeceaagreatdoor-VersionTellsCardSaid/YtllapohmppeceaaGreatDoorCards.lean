/-
  DERIVED. GIVEN WITH THE SEED: THE CARDS: each row of YtllapohmppeceaaGreatDoorRows.lean that lists a variable, with what it lists TIED to the program's text (the seventh form; the later family's looks); each row that meets fmt, with fmt's text TOLD by the authors' own Lean function (tested against real Go, not proved from fmt's source: count such statements apart). THE CARD IS WHAT COUNTS. Prove the row's statement (the work); the ties are given (YtllapohmppeceaaGreatDoorTie.lean); close each card by the builder's one call (the guide's Derived/Test/ToyasCard.lean, 'card_holds'). Laid BY PROGRAM, IN A SANDBOX (cutbox-door.mjs). By AI agents, Wed Nov 11 2026. No macro, syntax, notation, axiom, sorry.
-/
import Derived.Test.YtllapohmppeceaaGreatDoorRows
import GoSem.ClaimSeven
namespace Go.Proofs.YtllapohmppeceaaGreatDoor
namespace Rows

/-- THE TIED CARD OF 'ladinglaw12.VersionTells'. -/
def versionTellsCard : Claim7 := { stood := { row := versionTellsRow, standIns := [], harness := (true, "21c82d3c1a7ef2022edc9ef190f0b01cd55ed554d5ca2863d58a0c513bb53089"), looks := true }, kinds := [], alts := [], laidByText := true, laidKinds := [.data, .data, .data, .data, .sentinel, .sentinel, .pinned], laidTests := true, laidLooks := .later }
def VersionTellsCardSaid : Prop := Claim7.holds Tryz.pinned (.plain (OpenSpec.ofChange versionTellsSpec)) versionTellsCard

/-- THE SECOND FORM's CARD OF 'ladinglaw12.VersionTells'. -/
def versionTellsUptoCard : Claim7 := { stood := { row := versionTellsUptoRow, standIns := [], harness := (true, "21c82d3c1a7ef2022edc9ef190f0b01cd55ed554d5ca2863d58a0c513bb53089"), looks := true }, kinds := [], alts := [], laidByText := true, laidKinds := [.data, .data, .data, .data, .sentinel, .sentinel, .pinned], laidTests := true, laidLooks := .later }
def VersionTellsUptoCardSaid : Prop := Claim7.holds Tryz.pinned (.plain (OpenSpec.upto versionTellsSpec)) versionTellsUptoCard
end Rows
end Go.Proofs.YtllapohmppeceaaGreatDoor
