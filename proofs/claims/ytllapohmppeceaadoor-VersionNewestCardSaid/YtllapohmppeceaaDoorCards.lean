/-
  DERIVED. GIVEN WITH THE SEED: THE CARDS: each row of YtllapohmppeceaaDoorRows.lean that lists a variable, with what it lists TIED to the program's text (the seventh form; the later family's looks); each row that meets fmt, with fmt's text TOLD by the authors' own Lean function (tested against real Go, not proved from fmt's source: count such statements apart). THE CARD IS WHAT COUNTS. Prove the row's statement (the work); the ties are given (YtllapohmppeceaaDoorTie.lean); close each card by the builder's one call (the guide's Derived/Test/ToyasCard.lean, 'card_holds'). Laid BY PROGRAM, IN A SANDBOX (cutbox-door.mjs). By AI agents, Wed Nov 11 2026. No macro, syntax, notation, axiom, sorry.
-/
import Derived.Test.YtllapohmppeceaaDoorRows
import GoSem.ClaimSeven
namespace Go.Proofs.YtllapohmppeceaaDoor
namespace Rows

/-- THE TIED CARD OF 'ladinglaw12.VersionBack'. -/
def versionBackCard : Claim7 := { stood := { row := versionBackRow, standIns := [], harness := (true, "8b1b8d6fc7a0a391960f825c0291d329738e8da967cd5ef185d1fd5e11969baa"), looks := true }, kinds := [], alts := [], laidByText := true, laidKinds := [.data, .data, .data, .data, .sentinel, .sentinel, .pinned], laidTests := true, laidLooks := .later }
def VersionBackCardSaid : Prop := Claim7.holds Tryd.pinned (.plain (OpenSpec.ofChange versionBackSpec)) versionBackCard

/-- THE TIED CARD OF 'ladinglaw12.VersionOrder'. -/
def versionOrderCard : Claim7 := { stood := { row := versionOrderRow, standIns := [], harness := (true, "8b1b8d6fc7a0a391960f825c0291d329738e8da967cd5ef185d1fd5e11969baa"), looks := true }, kinds := [], alts := [], laidByText := true, laidKinds := [.data, .data, .data, .data, .sentinel, .sentinel, .pinned], laidTests := true, laidLooks := .later }
def VersionOrderCardSaid : Prop := Claim7.holds Tryd.pinned (.plain (OpenSpec.ofChange versionOrderSpec)) versionOrderCard

/-- THE TIED CARD OF 'ladinglaw12.VersionSets'. -/
def versionSetsCard : Claim7 := { stood := { row := versionSetsRow, standIns := [], harness := (true, "8b1b8d6fc7a0a391960f825c0291d329738e8da967cd5ef185d1fd5e11969baa"), looks := true }, kinds := [], alts := [], laidByText := true, laidKinds := [.data, .data, .data, .data, .sentinel, .sentinel, .pinned], laidTests := true, laidLooks := .later }
def VersionSetsCardSaid : Prop := Claim7.holds Tryd.pinned (.plain (OpenSpec.ofChange versionSetsSpec)) versionSetsCard

/-- THE TIED CARD OF 'ladinglaw12.VersionLaws'. -/
def versionLawsCard : Claim7 := { stood := { row := versionLawsRow, standIns := [], harness := (true, "8b1b8d6fc7a0a391960f825c0291d329738e8da967cd5ef185d1fd5e11969baa"), looks := true }, kinds := [], alts := [], laidByText := true, laidKinds := [.data, .data, .data, .data, .sentinel, .sentinel, .pinned], laidTests := true, laidLooks := .later }
def VersionLawsCardSaid : Prop := Claim7.holds Tryd.pinned (.plain (OpenSpec.ofChange versionLawsSpec)) versionLawsCard

/-- THE TIED CARD OF 'ladinglaw12.VersionNewest'. -/
def versionNewestCard : Claim7 := { stood := { row := versionNewestRow, standIns := [], harness := (true, "8b1b8d6fc7a0a391960f825c0291d329738e8da967cd5ef185d1fd5e11969baa"), looks := true }, kinds := [], alts := [], laidByText := true, laidKinds := [.data, .data, .data, .data, .sentinel, .sentinel, .pinned], laidTests := true, laidLooks := .later }
def VersionNewestCardSaid : Prop := Claim7.holds Tryd.pinned (.plain (OpenSpec.ofChange versionNewestSpec)) versionNewestCard

/-- THE SECOND FORM's CARD OF 'ladinglaw12.VersionBack'. -/
def versionBackUptoCard : Claim7 := { stood := { row := versionBackUptoRow, standIns := [], harness := (true, "8b1b8d6fc7a0a391960f825c0291d329738e8da967cd5ef185d1fd5e11969baa"), looks := true }, kinds := [], alts := [], laidByText := true, laidKinds := [.data, .data, .data, .data, .sentinel, .sentinel, .pinned], laidTests := true, laidLooks := .later }
def VersionBackUptoCardSaid : Prop := Claim7.holds Tryd.pinned (.plain (OpenSpec.upto versionBackSpec)) versionBackUptoCard

/-- THE SECOND FORM's CARD OF 'ladinglaw12.VersionOrder'. -/
def versionOrderUptoCard : Claim7 := { stood := { row := versionOrderUptoRow, standIns := [], harness := (true, "8b1b8d6fc7a0a391960f825c0291d329738e8da967cd5ef185d1fd5e11969baa"), looks := true }, kinds := [], alts := [], laidByText := true, laidKinds := [.data, .data, .data, .data, .sentinel, .sentinel, .pinned], laidTests := true, laidLooks := .later }
def VersionOrderUptoCardSaid : Prop := Claim7.holds Tryd.pinned (.plain (OpenSpec.upto versionOrderSpec)) versionOrderUptoCard

/-- THE SECOND FORM's CARD OF 'ladinglaw12.VersionSets'. -/
def versionSetsUptoCard : Claim7 := { stood := { row := versionSetsUptoRow, standIns := [], harness := (true, "8b1b8d6fc7a0a391960f825c0291d329738e8da967cd5ef185d1fd5e11969baa"), looks := true }, kinds := [], alts := [], laidByText := true, laidKinds := [.data, .data, .data, .data, .sentinel, .sentinel, .pinned], laidTests := true, laidLooks := .later }
def VersionSetsUptoCardSaid : Prop := Claim7.holds Tryd.pinned (.plain (OpenSpec.upto versionSetsSpec)) versionSetsUptoCard

/-- THE SECOND FORM's CARD OF 'ladinglaw12.VersionLaws'. -/
def versionLawsUptoCard : Claim7 := { stood := { row := versionLawsUptoRow, standIns := [], harness := (true, "8b1b8d6fc7a0a391960f825c0291d329738e8da967cd5ef185d1fd5e11969baa"), looks := true }, kinds := [], alts := [], laidByText := true, laidKinds := [.data, .data, .data, .data, .sentinel, .sentinel, .pinned], laidTests := true, laidLooks := .later }
def VersionLawsUptoCardSaid : Prop := Claim7.holds Tryd.pinned (.plain (OpenSpec.upto versionLawsSpec)) versionLawsUptoCard

/-- THE SECOND FORM's CARD OF 'ladinglaw12.VersionNewest'. -/
def versionNewestUptoCard : Claim7 := { stood := { row := versionNewestUptoRow, standIns := [], harness := (true, "8b1b8d6fc7a0a391960f825c0291d329738e8da967cd5ef185d1fd5e11969baa"), looks := true }, kinds := [], alts := [], laidByText := true, laidKinds := [.data, .data, .data, .data, .sentinel, .sentinel, .pinned], laidTests := true, laidLooks := .later }
def VersionNewestUptoCardSaid : Prop := Claim7.holds Tryd.pinned (.plain (OpenSpec.upto versionNewestSpec)) versionNewestUptoCard
end Rows
end Go.Proofs.YtllapohmppeceaaDoor
