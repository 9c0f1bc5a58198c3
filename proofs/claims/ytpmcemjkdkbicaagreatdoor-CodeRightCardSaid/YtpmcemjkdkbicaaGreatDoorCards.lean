/-
  DERIVED. GIVEN WITH THE SEED: THE CARDS: each row of YtpmcemjkdkbicaaGreatDoorRows.lean that lists a variable, with what it lists TIED to the program's text (the seventh form; the later family's looks); each row that meets fmt, with fmt's text TOLD by the authors' own Lean function (tested against real Go, not proved from fmt's source: count such statements apart). THE CARD IS WHAT COUNTS. Prove the row's statement (the work); the ties are given (YtpmcemjkdkbicaaGreatDoorTie.lean); close each card by the builder's one call (the guide's Derived/Test/ToyasCard.lean, 'card_holds'). Laid BY PROGRAM, IN A SANDBOX (cutbox-door.mjs). By AI agents, Wed Nov 11 2026. No macro, syntax, notation, axiom, sorry.
-/
import Derived.Test.YtpmcemjkdkbicaaGreatDoorRows
import GoSem.ClaimSeven
namespace Go.Proofs.YtpmcemjkdkbicaaGreatDoor
namespace Rows

/-- THE TIED CARD OF 'ladinglaw21.CodeBack'. -/
def codeBackCard : Claim7 := { stood := { row := codeBackRow, standIns := [], harness := (true, "985b42a8614df71a7c24645ab38dcc265691ce3d360d3ee06643c52b933b828c"), looks := true }, kinds := [], alts := [], laidByText := true, laidKinds := [.data, .data, .data, .data, .sentinel, .sentinel, .widerDeep, .pinned], laidTests := true, laidLooks := .later }
def CodeBackCardSaid : Prop := Claim7.holds Tryz.pinned (.plain (OpenSpec.ofChange codeBackSpec)) codeBackCard

/-- THE TIED CARD OF 'ladinglaw21.CodeAlone'. -/
def codeAloneCard : Claim7 := { stood := { row := codeAloneRow, standIns := [], harness := (true, "985b42a8614df71a7c24645ab38dcc265691ce3d360d3ee06643c52b933b828c"), looks := true }, kinds := [], alts := [], laidByText := true, laidKinds := [.data, .data, .data, .data, .sentinel, .sentinel, .widerDeep, .pinned], laidTests := true, laidLooks := .later }
def CodeAloneCardSaid : Prop := Claim7.holds Tryz.pinned (.plain (OpenSpec.ofChange codeAloneSpec)) codeAloneCard

/-- THE TIED CARD OF 'ladinglaw21.CodeRight'. -/
def codeRightCard : Claim7 := { stood := { row := codeRightRow, standIns := [], harness := (true, "985b42a8614df71a7c24645ab38dcc265691ce3d360d3ee06643c52b933b828c"), looks := true }, kinds := [], alts := [], laidByText := true, laidKinds := [.data, .data, .data, .data, .sentinel, .sentinel, .widerDeep, .pinned], laidTests := true, laidLooks := .later }
def CodeRightCardSaid : Prop := Claim7.holds Tryz.pinned (.plain (OpenSpec.ofChange codeRightSpec)) codeRightCard

/-- THE SECOND FORM's CARD OF 'ladinglaw21.CodeBack'. -/
def codeBackUptoCard : Claim7 := { stood := { row := codeBackUptoRow, standIns := [], harness := (true, "985b42a8614df71a7c24645ab38dcc265691ce3d360d3ee06643c52b933b828c"), looks := true }, kinds := [], alts := [], laidByText := true, laidKinds := [.data, .data, .data, .data, .sentinel, .sentinel, .widerDeep, .pinned], laidTests := true, laidLooks := .later }
def CodeBackUptoCardSaid : Prop := Claim7.holds Tryz.pinned (.plain (OpenSpec.upto codeBackSpec)) codeBackUptoCard

/-- THE SECOND FORM's CARD OF 'ladinglaw21.CodeAlone'. -/
def codeAloneUptoCard : Claim7 := { stood := { row := codeAloneUptoRow, standIns := [], harness := (true, "985b42a8614df71a7c24645ab38dcc265691ce3d360d3ee06643c52b933b828c"), looks := true }, kinds := [], alts := [], laidByText := true, laidKinds := [.data, .data, .data, .data, .sentinel, .sentinel, .widerDeep, .pinned], laidTests := true, laidLooks := .later }
def CodeAloneUptoCardSaid : Prop := Claim7.holds Tryz.pinned (.plain (OpenSpec.upto codeAloneSpec)) codeAloneUptoCard

/-- THE SECOND FORM's CARD OF 'ladinglaw21.CodeRight'. -/
def codeRightUptoCard : Claim7 := { stood := { row := codeRightUptoRow, standIns := [], harness := (true, "985b42a8614df71a7c24645ab38dcc265691ce3d360d3ee06643c52b933b828c"), looks := true }, kinds := [], alts := [], laidByText := true, laidKinds := [.data, .data, .data, .data, .sentinel, .sentinel, .widerDeep, .pinned], laidTests := true, laidLooks := .later }
def CodeRightUptoCardSaid : Prop := Claim7.holds Tryz.pinned (.plain (OpenSpec.upto codeRightSpec)) codeRightUptoCard
end Rows
end Go.Proofs.YtpmcemjkdkbicaaGreatDoor
