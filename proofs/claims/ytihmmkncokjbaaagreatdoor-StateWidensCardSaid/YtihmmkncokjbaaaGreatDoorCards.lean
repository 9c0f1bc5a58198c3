/-
  DERIVED. GIVEN WITH THE SEED: THE CARDS: each row of YtihmmkncokjbaaaGreatDoorRows.lean that lists a variable, with what it lists TIED to the program's text (the seventh form; the later family's looks); each row that meets fmt, with fmt's text TOLD by the authors' own Lean function (tested against real Go, not proved from fmt's source: count such statements apart). THE CARD IS WHAT COUNTS. Prove the row's statement (the work); the ties are given (YtihmmkncokjbaaaGreatDoorTie.lean); close each card by the builder's one call (the guide's Derived/Test/ToyasCard.lean, 'card_holds'). Laid BY PROGRAM, IN A SANDBOX (cutbox-door.mjs). By AI agents, Wed Nov 11 2026. No macro, syntax, notation, axiom, sorry.
-/
import Derived.Test.YtihmmkncokjbaaaGreatDoorRows
import GoSem.ClaimSeven
namespace Go.Proofs.YtihmmkncokjbaaaGreatDoor
namespace Rows

/-- THE TIED CARD OF 'ladinglaw23.StateStays'. -/
def stateStaysCard : Claim7 := { stood := { row := stateStaysRow, standIns := [], harness := (true, "bb6cb9b413939698dae18622a0384d543665be034bd43eb97e15f222b4576e9b"), looks := true }, kinds := [], alts := [], laidByText := true, laidKinds := [.data, .data, .data, .sentinel, .sentinel], laidTests := true, laidLooks := .later }
def StateStaysCardSaid : Prop := Claim7.holds Tryz.pinned (.plain (OpenSpec.ofChange stateStaysSpec)) stateStaysCard

/-- THE TIED CARD OF 'ladinglaw23.StateBack'. -/
def stateBackCard : Claim7 := { stood := { row := stateBackRow, standIns := [], harness := (true, "bb6cb9b413939698dae18622a0384d543665be034bd43eb97e15f222b4576e9b"), looks := true }, kinds := [], alts := [], laidByText := true, laidKinds := [.data, .data, .data, .sentinel, .sentinel], laidTests := true, laidLooks := .later }
def StateBackCardSaid : Prop := Claim7.holds Tryz.pinned (.plain (OpenSpec.ofChange stateBackSpec)) stateBackCard

/-- THE TIED CARD OF 'ladinglaw23.StateTells'. -/
def stateTellsCard : Claim7 := { stood := { row := stateTellsRow, standIns := [], harness := (true, "bb6cb9b413939698dae18622a0384d543665be034bd43eb97e15f222b4576e9b"), looks := true }, kinds := [], alts := [], laidByText := true, laidKinds := [.data, .data, .data, .sentinel, .sentinel], laidTests := true, laidLooks := .later }
def StateTellsCardSaid : Prop := Claim7.holds Tryz.pinned (.plain (OpenSpec.ofChange stateTellsSpec)) stateTellsCard

/-- THE TIED CARD OF 'ladinglaw23.StateWidens'. -/
def stateWidensCard : Claim7 := { stood := { row := stateWidensRow, standIns := [], harness := (true, "bb6cb9b413939698dae18622a0384d543665be034bd43eb97e15f222b4576e9b"), looks := true }, kinds := [], alts := [], laidByText := true, laidKinds := [.data, .data, .data, .sentinel, .sentinel], laidTests := true, laidLooks := .later }
def StateWidensCardSaid : Prop := Claim7.holds Tryz.pinned (.plain (OpenSpec.ofChange stateWidensSpec)) stateWidensCard

/-- THE TIED CARD OF 'ladinglaw23.StateTyped'. -/
def stateTypedCard : Claim7 := { stood := { row := stateTypedRow, standIns := [], harness := (true, "bb6cb9b413939698dae18622a0384d543665be034bd43eb97e15f222b4576e9b"), looks := true }, kinds := [], alts := [], laidByText := true, laidKinds := [.data, .data, .data, .sentinel, .sentinel], laidTests := true, laidLooks := .later }
def StateTypedCardSaid : Prop := Claim7.holds Tryz.pinned (.plain (OpenSpec.ofChange stateTypedSpec)) stateTypedCard

/-- THE SECOND FORM's CARD OF 'ladinglaw23.StateStays'. -/
def stateStaysUptoCard : Claim7 := { stood := { row := stateStaysUptoRow, standIns := [], harness := (true, "bb6cb9b413939698dae18622a0384d543665be034bd43eb97e15f222b4576e9b"), looks := true }, kinds := [], alts := [], laidByText := true, laidKinds := [.data, .data, .data, .sentinel, .sentinel], laidTests := true, laidLooks := .later }
def StateStaysUptoCardSaid : Prop := Claim7.holds Tryz.pinned (.plain (OpenSpec.upto stateStaysSpec)) stateStaysUptoCard

/-- THE SECOND FORM's CARD OF 'ladinglaw23.StateBack'. -/
def stateBackUptoCard : Claim7 := { stood := { row := stateBackUptoRow, standIns := [], harness := (true, "bb6cb9b413939698dae18622a0384d543665be034bd43eb97e15f222b4576e9b"), looks := true }, kinds := [], alts := [], laidByText := true, laidKinds := [.data, .data, .data, .sentinel, .sentinel], laidTests := true, laidLooks := .later }
def StateBackUptoCardSaid : Prop := Claim7.holds Tryz.pinned (.plain (OpenSpec.upto stateBackSpec)) stateBackUptoCard

/-- THE SECOND FORM's CARD OF 'ladinglaw23.StateTells'. -/
def stateTellsUptoCard : Claim7 := { stood := { row := stateTellsUptoRow, standIns := [], harness := (true, "bb6cb9b413939698dae18622a0384d543665be034bd43eb97e15f222b4576e9b"), looks := true }, kinds := [], alts := [], laidByText := true, laidKinds := [.data, .data, .data, .sentinel, .sentinel], laidTests := true, laidLooks := .later }
def StateTellsUptoCardSaid : Prop := Claim7.holds Tryz.pinned (.plain (OpenSpec.upto stateTellsSpec)) stateTellsUptoCard

/-- THE SECOND FORM's CARD OF 'ladinglaw23.StateWidens'. -/
def stateWidensUptoCard : Claim7 := { stood := { row := stateWidensUptoRow, standIns := [], harness := (true, "bb6cb9b413939698dae18622a0384d543665be034bd43eb97e15f222b4576e9b"), looks := true }, kinds := [], alts := [], laidByText := true, laidKinds := [.data, .data, .data, .sentinel, .sentinel], laidTests := true, laidLooks := .later }
def StateWidensUptoCardSaid : Prop := Claim7.holds Tryz.pinned (.plain (OpenSpec.upto stateWidensSpec)) stateWidensUptoCard

/-- THE SECOND FORM's CARD OF 'ladinglaw23.StateTyped'. -/
def stateTypedUptoCard : Claim7 := { stood := { row := stateTypedUptoRow, standIns := [], harness := (true, "bb6cb9b413939698dae18622a0384d543665be034bd43eb97e15f222b4576e9b"), looks := true }, kinds := [], alts := [], laidByText := true, laidKinds := [.data, .data, .data, .sentinel, .sentinel], laidTests := true, laidLooks := .later }
def StateTypedUptoCardSaid : Prop := Claim7.holds Tryz.pinned (.plain (OpenSpec.upto stateTypedSpec)) stateTypedUptoCard
end Rows
end Go.Proofs.YtihmmkncokjbaaaGreatDoor
