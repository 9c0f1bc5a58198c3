/-
  DERIVED. GIVEN WITH THE SEED: THE CARDS: each row of YteemeakjlfnapaaGreatDoorRows.lean that lists a variable, with what it lists TIED to the program's text (the seventh form; the later family's looks); each row that meets fmt, with fmt's text TOLD by the authors' own Lean function (tested against real Go, not proved from fmt's source: count such statements apart). THE CARD IS WHAT COUNTS. Prove the row's statement (the work); the ties are given (YteemeakjlfnapaaGreatDoorTie.lean); close each card by the builder's one call (the guide's Derived/Test/ToyasCard.lean, 'card_holds'). Laid BY PROGRAM, IN A SANDBOX (cutbox-door.mjs). By AI agents, Wed Nov 11 2026. No macro, syntax, notation, axiom, sorry.
-/
import Derived.Test.YteemeakjlfnapaaGreatDoorRows
import GoSem.ClaimSeven
namespace Go.Proofs.YteemeakjlfnapaaGreatDoor
namespace Rows

/-- THE TIED CARD OF 'ladinglaw18.CompatTells'. -/
def compatTellsCard : Claim7 := { stood := { row := compatTellsRow, standIns := [], harness := (true, "37f20d6d355155736abcf33459ae5633b0750f54f46e43f93988ea8ec0392a3c"), looks := true }, kinds := [], alts := [], laidByText := true, laidKinds := [.data, .data, .data, .listed, .data], laidTests := true, laidLooks := .later }
def CompatTellsCardSaid : Prop := Claim7.holds Tryz.pinned (.plain (OpenSpec.ofChange compatTellsSpec)) compatTellsCard

/-- THE TIED CARD OF 'ladinglaw18.CompatOrder'. -/
def compatOrderCard : Claim7 := { stood := { row := compatOrderRow, standIns := [], harness := (true, "37f20d6d355155736abcf33459ae5633b0750f54f46e43f93988ea8ec0392a3c"), looks := true }, kinds := [], alts := [], laidByText := true, laidKinds := [.data, .data, .data, .listed, .data], laidTests := true, laidLooks := .later }
def CompatOrderCardSaid : Prop := Claim7.holds Tryz.pinned (.plain (OpenSpec.ofChange compatOrderSpec)) compatOrderCard

/-- THE TIED CARD OF 'ladinglaw18.CompatClaims'. -/
def compatClaimsCard : Claim7 := { stood := { row := compatClaimsRow, standIns := [], harness := (true, "37f20d6d355155736abcf33459ae5633b0750f54f46e43f93988ea8ec0392a3c"), looks := true }, kinds := [], alts := [], laidByText := true, laidKinds := [.data, .data, .data, .listed, .data], laidTests := true, laidLooks := .later }
def CompatClaimsCardSaid : Prop := Claim7.holds Tryz.pinned (.plain (OpenSpec.ofChange compatClaimsSpec)) compatClaimsCard

/-- THE TIED CARD OF 'ladinglaw17.FaceTells'. -/
def faceTellsCard : Claim7 := { stood := { row := faceTellsRow, standIns := [], harness := (true, "37f20d6d355155736abcf33459ae5633b0750f54f46e43f93988ea8ec0392a3c"), looks := true }, kinds := [], alts := [], laidByText := true, laidKinds := [.data, .data, .data, .sentinel, .sentinel], laidTests := true, laidLooks := .later }
def FaceTellsCardSaid : Prop := Claim7.holds Tryz.pinned (.plain (OpenSpec.ofChange faceTellsSpec)) faceTellsCard

/-- THE TIED CARD OF 'ladinglaw17.FaceOrder'. -/
def faceOrderCard : Claim7 := { stood := { row := faceOrderRow, standIns := [], harness := (true, "37f20d6d355155736abcf33459ae5633b0750f54f46e43f93988ea8ec0392a3c"), looks := true }, kinds := [], alts := [], laidByText := true, laidKinds := [.data, .data, .data, .sentinel, .sentinel], laidTests := true, laidLooks := .later }
def FaceOrderCardSaid : Prop := Claim7.holds Tryz.pinned (.plain (OpenSpec.ofChange faceOrderSpec)) faceOrderCard

/-- THE TIED CARD OF 'ladinglaw17.FaceBack'. -/
def faceBackCard : Claim7 := { stood := { row := faceBackRow, standIns := [], harness := (true, "37f20d6d355155736abcf33459ae5633b0750f54f46e43f93988ea8ec0392a3c"), looks := true }, kinds := [], alts := [], laidByText := true, laidKinds := [.data, .data, .data, .sentinel, .sentinel], laidTests := true, laidLooks := .later }
def FaceBackCardSaid : Prop := Claim7.holds Tryz.pinned (.plain (OpenSpec.ofChange faceBackSpec)) faceBackCard

/-- THE TIED CARD OF 'ladinglaw17.FaceOf'. -/
def faceOfCard : Claim7 := { stood := { row := faceOfRow, standIns := [], harness := (true, "37f20d6d355155736abcf33459ae5633b0750f54f46e43f93988ea8ec0392a3c"), looks := true }, kinds := [], alts := [], laidByText := true, laidKinds := [.data, .data, .data, .sentinel, .sentinel], laidTests := true, laidLooks := .later }
def FaceOfCardSaid : Prop := Claim7.holds Tryz.pinned (.plain (OpenSpec.ofChange faceOfSpec)) faceOfCard

/-- THE TIED CARD OF 'ladinglaw18.CompatClient'. -/
def compatClientCard : Claim7 := { stood := { row := compatClientRow, standIns := [], harness := (true, "37f20d6d355155736abcf33459ae5633b0750f54f46e43f93988ea8ec0392a3c"), looks := true }, kinds := [], alts := [], laidByText := true, laidKinds := [.data, .data, .data, .listed, .data], laidTests := true, laidLooks := .later }
def CompatClientCardSaid : Prop := Claim7.holds Tryz.pinned (.plain (OpenSpec.ofChange compatClientSpec)) compatClientCard

/-- THE TIED CARD OF 'ladinglaw18.CompatSound'. -/
def compatSoundCard : Claim7 := { stood := { row := compatSoundRow, standIns := [], harness := (true, "37f20d6d355155736abcf33459ae5633b0750f54f46e43f93988ea8ec0392a3c"), looks := true }, kinds := [], alts := [], laidByText := true, laidKinds := [.data, .data, .data, .listed, .data], laidTests := true, laidLooks := .later }
def CompatSoundCardSaid : Prop := Claim7.holds Tryz.pinned (.plain (OpenSpec.ofChange compatSoundSpec)) compatSoundCard

/-- THE TIED CARD OF 'ladinglaw18.CompatModules'. -/
def compatModulesCard : Claim7 := { stood := { row := compatModulesRow, standIns := [], harness := (true, "37f20d6d355155736abcf33459ae5633b0750f54f46e43f93988ea8ec0392a3c"), looks := true }, kinds := [], alts := [], laidByText := true, laidKinds := [.data, .data, .data, .listed, .data], laidTests := true, laidLooks := .later }
def CompatModulesCardSaid : Prop := Claim7.holds Tryz.pinned (.plain (OpenSpec.ofChange compatModulesSpec)) compatModulesCard

/-- THE TIED CARD OF 'ladinglaw17.FaceUses'. -/
def faceUsesCard : Claim7 := { stood := { row := faceUsesRow, standIns := [], harness := (true, "37f20d6d355155736abcf33459ae5633b0750f54f46e43f93988ea8ec0392a3c"), looks := true }, kinds := [], alts := [], laidByText := true, laidKinds := [.data, .data, .data, .sentinel, .sentinel], laidTests := true, laidLooks := .later }
def FaceUsesCardSaid : Prop := Claim7.holds Tryz.pinned (.plain (OpenSpec.ofChange faceUsesSpec)) faceUsesCard

/-- THE SECOND FORM's CARD OF 'ladinglaw18.CompatTells'. -/
def compatTellsUptoCard : Claim7 := { stood := { row := compatTellsUptoRow, standIns := [], harness := (true, "37f20d6d355155736abcf33459ae5633b0750f54f46e43f93988ea8ec0392a3c"), looks := true }, kinds := [], alts := [], laidByText := true, laidKinds := [.data, .data, .data, .listed, .data], laidTests := true, laidLooks := .later }
def CompatTellsUptoCardSaid : Prop := Claim7.holds Tryz.pinned (.plain (OpenSpec.upto compatTellsSpec)) compatTellsUptoCard

/-- THE SECOND FORM's CARD OF 'ladinglaw18.CompatOrder'. -/
def compatOrderUptoCard : Claim7 := { stood := { row := compatOrderUptoRow, standIns := [], harness := (true, "37f20d6d355155736abcf33459ae5633b0750f54f46e43f93988ea8ec0392a3c"), looks := true }, kinds := [], alts := [], laidByText := true, laidKinds := [.data, .data, .data, .listed, .data], laidTests := true, laidLooks := .later }
def CompatOrderUptoCardSaid : Prop := Claim7.holds Tryz.pinned (.plain (OpenSpec.upto compatOrderSpec)) compatOrderUptoCard

/-- THE SECOND FORM's CARD OF 'ladinglaw18.CompatClaims'. -/
def compatClaimsUptoCard : Claim7 := { stood := { row := compatClaimsUptoRow, standIns := [], harness := (true, "37f20d6d355155736abcf33459ae5633b0750f54f46e43f93988ea8ec0392a3c"), looks := true }, kinds := [], alts := [], laidByText := true, laidKinds := [.data, .data, .data, .listed, .data], laidTests := true, laidLooks := .later }
def CompatClaimsUptoCardSaid : Prop := Claim7.holds Tryz.pinned (.plain (OpenSpec.upto compatClaimsSpec)) compatClaimsUptoCard

/-- THE SECOND FORM's CARD OF 'ladinglaw17.FaceTells'. -/
def faceTellsUptoCard : Claim7 := { stood := { row := faceTellsUptoRow, standIns := [], harness := (true, "37f20d6d355155736abcf33459ae5633b0750f54f46e43f93988ea8ec0392a3c"), looks := true }, kinds := [], alts := [], laidByText := true, laidKinds := [.data, .data, .data, .sentinel, .sentinel], laidTests := true, laidLooks := .later }
def FaceTellsUptoCardSaid : Prop := Claim7.holds Tryz.pinned (.plain (OpenSpec.upto faceTellsSpec)) faceTellsUptoCard

/-- THE SECOND FORM's CARD OF 'ladinglaw17.FaceOrder'. -/
def faceOrderUptoCard : Claim7 := { stood := { row := faceOrderUptoRow, standIns := [], harness := (true, "37f20d6d355155736abcf33459ae5633b0750f54f46e43f93988ea8ec0392a3c"), looks := true }, kinds := [], alts := [], laidByText := true, laidKinds := [.data, .data, .data, .sentinel, .sentinel], laidTests := true, laidLooks := .later }
def FaceOrderUptoCardSaid : Prop := Claim7.holds Tryz.pinned (.plain (OpenSpec.upto faceOrderSpec)) faceOrderUptoCard

/-- THE SECOND FORM's CARD OF 'ladinglaw17.FaceBack'. -/
def faceBackUptoCard : Claim7 := { stood := { row := faceBackUptoRow, standIns := [], harness := (true, "37f20d6d355155736abcf33459ae5633b0750f54f46e43f93988ea8ec0392a3c"), looks := true }, kinds := [], alts := [], laidByText := true, laidKinds := [.data, .data, .data, .sentinel, .sentinel], laidTests := true, laidLooks := .later }
def FaceBackUptoCardSaid : Prop := Claim7.holds Tryz.pinned (.plain (OpenSpec.upto faceBackSpec)) faceBackUptoCard

/-- THE SECOND FORM's CARD OF 'ladinglaw17.FaceOf'. -/
def faceOfUptoCard : Claim7 := { stood := { row := faceOfUptoRow, standIns := [], harness := (true, "37f20d6d355155736abcf33459ae5633b0750f54f46e43f93988ea8ec0392a3c"), looks := true }, kinds := [], alts := [], laidByText := true, laidKinds := [.data, .data, .data, .sentinel, .sentinel], laidTests := true, laidLooks := .later }
def FaceOfUptoCardSaid : Prop := Claim7.holds Tryz.pinned (.plain (OpenSpec.upto faceOfSpec)) faceOfUptoCard

/-- THE SECOND FORM's CARD OF 'ladinglaw18.CompatClient'. -/
def compatClientUptoCard : Claim7 := { stood := { row := compatClientUptoRow, standIns := [], harness := (true, "37f20d6d355155736abcf33459ae5633b0750f54f46e43f93988ea8ec0392a3c"), looks := true }, kinds := [], alts := [], laidByText := true, laidKinds := [.data, .data, .data, .listed, .data], laidTests := true, laidLooks := .later }
def CompatClientUptoCardSaid : Prop := Claim7.holds Tryz.pinned (.plain (OpenSpec.upto compatClientSpec)) compatClientUptoCard

/-- THE SECOND FORM's CARD OF 'ladinglaw18.CompatSound'. -/
def compatSoundUptoCard : Claim7 := { stood := { row := compatSoundUptoRow, standIns := [], harness := (true, "37f20d6d355155736abcf33459ae5633b0750f54f46e43f93988ea8ec0392a3c"), looks := true }, kinds := [], alts := [], laidByText := true, laidKinds := [.data, .data, .data, .listed, .data], laidTests := true, laidLooks := .later }
def CompatSoundUptoCardSaid : Prop := Claim7.holds Tryz.pinned (.plain (OpenSpec.upto compatSoundSpec)) compatSoundUptoCard

/-- THE SECOND FORM's CARD OF 'ladinglaw18.CompatModules'. -/
def compatModulesUptoCard : Claim7 := { stood := { row := compatModulesUptoRow, standIns := [], harness := (true, "37f20d6d355155736abcf33459ae5633b0750f54f46e43f93988ea8ec0392a3c"), looks := true }, kinds := [], alts := [], laidByText := true, laidKinds := [.data, .data, .data, .listed, .data], laidTests := true, laidLooks := .later }
def CompatModulesUptoCardSaid : Prop := Claim7.holds Tryz.pinned (.plain (OpenSpec.upto compatModulesSpec)) compatModulesUptoCard

/-- THE SECOND FORM's CARD OF 'ladinglaw17.FaceUses'. -/
def faceUsesUptoCard : Claim7 := { stood := { row := faceUsesUptoRow, standIns := [], harness := (true, "37f20d6d355155736abcf33459ae5633b0750f54f46e43f93988ea8ec0392a3c"), looks := true }, kinds := [], alts := [], laidByText := true, laidKinds := [.data, .data, .data, .sentinel, .sentinel], laidTests := true, laidLooks := .later }
def FaceUsesUptoCardSaid : Prop := Claim7.holds Tryz.pinned (.plain (OpenSpec.upto faceUsesSpec)) faceUsesUptoCard
end Rows
end Go.Proofs.YteemeakjlfnapaaGreatDoor
