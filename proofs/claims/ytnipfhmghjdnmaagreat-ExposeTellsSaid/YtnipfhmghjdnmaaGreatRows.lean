/-
  NARROWER THAN 'FOR EVERY INPUT', by the rows' own cells (each row's printed sentence says how): ExposeTells: loops · ExposeConcerns: loops · ExposeAsk: loops · ExposeMore: loops · ReachRuns: loops.
  DERIVED. THE GIVEN ROWS OF THIS SEAT. 5 by the template 'for every input the law returns true; each argument reads behind the call as it read before'; 0 by the template 'total and deterministic' (their statements: YtnipfhmghjdnmaaGreatTotals.lean).
  GIVEN WITH THE SEED: the statements are not yours to turn. If you find one false, say at which input.
  Laid BY PROGRAM, IN A SANDBOX (cutbox-rows.mjs): the forced cells as the released guide's own fill.sh prints them over the translation 4eebfff76b56ae6e… (all of the seat's roots in one cut). By AI agents, Wed Nov 11 2026. No macro, syntax, notation, axiom, sorry.
-/
import Derived.Test.YtnipfhmghjdnmaaGreatChecked
import GoSem.Claim
import GoSem.ClaimJoined
import GoSem.ClaimMapViews
import Derived.JoinedTies
import Derived.KernelRfl
namespace Go.Proofs.YtnipfhmghjdnmaaGreat
/- THE CELL 'sum', in the pinned program and in every row, IS THE sha256 OF THE DUMP (.gsa) THAT YtnipfhmghjdnmaaGreatProg.lean LOADS. Nothing in Lean hashes anything: it is a label: what it is worth is what the hold of that sum in a sandbox is worth. -/
noncomputable def Tryz.pinned : Pinned := { name := "ytnipfhmghjdnmaagreat", sum := "4eebfff76b56ae6e77cf9bc83c319752f03288a3700441dd5939ffccbe9df8fb", checked := Tryz.checked }
namespace Rows
def none {H : Type} : Left H := { results := [], args := [] }

/-- 'ladinglaw45.ExposeTells': WHATEVER THE INPUT: true; the input reads as it did. -/
def exposeTellsSpec : ChangeSpec := { name := "exposeTells", fn := fun _ => fun
  | [d1, d2, d3] => { results := [.lit (.bool true)], args := [d1, d2, d3] }
  | _ => none }
def exposeTellsRow : OpenClaim := { program := "ytnipfhmghjdnmaagreat", sum := "4eebfff76b56ae6e77cf9bc83c319752f03288a3700441dd5939ffccbe9df8fb", func := "lading/ladinglaw45.ExposeTells", spec := "exposeTells", unfollowed := true, recurses := true, loops := true, plainKeys := false, apart := false }
def ExposeTellsSaid : Prop := exposeTellsRow.holds Tryz.pinned (OpenSpec.ofChange exposeTellsSpec)

/-- ITS FALSE NEIGHBOUR: 'it returns false'. Refute it at one input. -/
def exposeTellsWrong : ChangeSpec := { name := "exposeTells", fn := fun _ => fun
  | [d1, d2, d3] => { results := [.lit (.bool false)], args := [d1, d2, d3] }
  | _ => none }
def ExposeTellsWrongFalsely : Prop := exposeTellsRow.holds Tryz.pinned (OpenSpec.ofChange exposeTellsWrong)

/-- 'ladinglaw45.ExposeConcerns': WHATEVER THE INPUT: true; the input reads as it did. -/
def exposeConcernsSpec : ChangeSpec := { name := "exposeConcerns", fn := fun _ => fun
  | [d1, d2] => { results := [.lit (.bool true)], args := [d1, d2] }
  | _ => none }
def exposeConcernsRow : OpenClaim := { program := "ytnipfhmghjdnmaagreat", sum := "4eebfff76b56ae6e77cf9bc83c319752f03288a3700441dd5939ffccbe9df8fb", func := "lading/ladinglaw45.ExposeConcerns", spec := "exposeConcerns", unfollowed := true, recurses := true, loops := true, plainKeys := false, apart := false }
def ExposeConcernsSaid : Prop := exposeConcernsRow.holds Tryz.pinned (OpenSpec.ofChange exposeConcernsSpec)

/-- ITS FALSE NEIGHBOUR: 'it returns false'. Refute it at one input. -/
def exposeConcernsWrong : ChangeSpec := { name := "exposeConcerns", fn := fun _ => fun
  | [d1, d2] => { results := [.lit (.bool false)], args := [d1, d2] }
  | _ => none }
def ExposeConcernsWrongFalsely : Prop := exposeConcernsRow.holds Tryz.pinned (OpenSpec.ofChange exposeConcernsWrong)

/-- 'ladinglaw45.ExposeAsk': WHATEVER THE INPUT: true; the input reads as it did. -/
def exposeAskSpec : ChangeSpec := { name := "exposeAsk", fn := fun _ => fun
  | [d1, d2] => { results := [.lit (.bool true)], args := [d1, d2] }
  | _ => none }
def exposeAskRow : OpenClaim := { program := "ytnipfhmghjdnmaagreat", sum := "4eebfff76b56ae6e77cf9bc83c319752f03288a3700441dd5939ffccbe9df8fb", func := "lading/ladinglaw45.ExposeAsk", spec := "exposeAsk", unfollowed := true, recurses := true, loops := true, plainKeys := false, apart := false }
def ExposeAskSaid : Prop := exposeAskRow.holds Tryz.pinned (OpenSpec.ofChange exposeAskSpec)

/-- ITS FALSE NEIGHBOUR: 'it returns false'. Refute it at one input. -/
def exposeAskWrong : ChangeSpec := { name := "exposeAsk", fn := fun _ => fun
  | [d1, d2] => { results := [.lit (.bool false)], args := [d1, d2] }
  | _ => none }
def ExposeAskWrongFalsely : Prop := exposeAskRow.holds Tryz.pinned (OpenSpec.ofChange exposeAskWrong)

/-- 'ladinglaw45.ExposeMore': WHATEVER THE INPUT: true; the input reads as it did. -/
def exposeMoreSpec : ChangeSpec := { name := "exposeMore", fn := fun _ => fun
  | [d1, d2, d3] => { results := [.lit (.bool true)], args := [d1, d2, d3] }
  | _ => none }
def exposeMoreRow : OpenClaim := { program := "ytnipfhmghjdnmaagreat", sum := "4eebfff76b56ae6e77cf9bc83c319752f03288a3700441dd5939ffccbe9df8fb", func := "lading/ladinglaw45.ExposeMore", spec := "exposeMore", unfollowed := true, recurses := true, loops := true, plainKeys := false, apart := false }
def ExposeMoreSaid : Prop := exposeMoreRow.holds Tryz.pinned (OpenSpec.ofChange exposeMoreSpec)

/-- ITS FALSE NEIGHBOUR: 'it returns false'. Refute it at one input. -/
def exposeMoreWrong : ChangeSpec := { name := "exposeMore", fn := fun _ => fun
  | [d1, d2, d3] => { results := [.lit (.bool false)], args := [d1, d2, d3] }
  | _ => none }
def ExposeMoreWrongFalsely : Prop := exposeMoreRow.holds Tryz.pinned (OpenSpec.ofChange exposeMoreWrong)

/-- 'ladinglaw20.ReachRuns': WHATEVER THE INPUT: true; the input reads as it did. -/
def reachRunsSpec : ChangeSpec := { name := "reachRuns", fn := fun _ => fun
  | [d1, d2, d3, d4, d5] => { results := [.lit (.bool true)], args := [d1, d2, d3, d4, d5] }
  | _ => none }
def reachRunsRow : OpenClaim := { program := "ytnipfhmghjdnmaagreat", sum := "4eebfff76b56ae6e77cf9bc83c319752f03288a3700441dd5939ffccbe9df8fb", func := "lading/ladinglaw20.ReachRuns", spec := "reachRuns", unfollowed := true, recurses := true, loops := true, plainKeys := false, apart := false }
def ReachRunsSaid : Prop := reachRunsRow.holds Tryz.pinned (OpenSpec.ofChange reachRunsSpec)

/-- ITS FALSE NEIGHBOUR: 'it returns false'. Refute it at one input. -/
def reachRunsWrong : ChangeSpec := { name := "reachRuns", fn := fun _ => fun
  | [d1, d2, d3, d4, d5] => { results := [.lit (.bool false)], args := [d1, d2, d3, d4, d5] }
  | _ => none }
def ReachRunsWrongFalsely : Prop := reachRunsRow.holds Tryz.pinned (OpenSpec.ofChange reachRunsWrong)

/- THE SECOND FORM. 'bulk': how many values and letters a reading holds, each counted each time it is reached (what is shared counts as often as it is met; a slice's spare places count too). A statement '..UptoSaid' is the law's where the arguments, and the package variables that the reading takes, are together of bulk at most 1048576: NARROWER than '..Said'. Prove '..Said' where nothing that the law and all that it calls make is longer than what came in: it says more and counts as full. Else prove '..UptoSaid'. A law counts once. -/
mutual
def uptoBulk {H : Type} : DataW H → Nat
  | .lit (.string bytes) => bytes.length + 1
  | .lit _ => 1
  | .nil => 1
  | .ptr d => uptoBulk d + 1
  | .slice elems spare => uptoBulkAll elems + uptoBulkAll spare + 1
  | .agg parts => uptoBulkAll parts + 1
  | .iface _ d => uptoBulk d + 1
  | .map entries => uptoBulkEntries entries + 1
  | .held _ => 1
def uptoBulkAll {H : Type} : List (DataW H) → Nat
  | [] => 0
  | d :: r => uptoBulk d + uptoBulkAll r
def uptoBulkEntries {H : Type} : List (Lit × DataW H) → Nat
  | [] => 0
  | x :: r => uptoBulkEntry x + uptoBulkEntries r
def uptoBulkEntry {H : Type} : Lit × DataW H → Nat
  | (.string bytes, d) => bytes.length + uptoBulk d + 1
  | (_, d) => uptoBulk d + 1
 end
def uptoSmall : (H : Type) → List (DataW H) → Bool := fun _ ds => decide (uptoBulkAll ds ≤ 1048576)
def OpenSpec.upto (s : _root_.Go.ChangeSpec) : _root_.Go.OpenSpec := { _root_.Go.OpenSpec.ofChange s with cond := some uptoSmall }

/-- 'ladinglaw45.ExposeTells', WHERE WHAT IT READS IS OF BULK AT MOST 1048576: true; the input reads as it did. -/
def exposeTellsUptoRow : OpenClaim := { program := "ytnipfhmghjdnmaagreat", sum := "4eebfff76b56ae6e77cf9bc83c319752f03288a3700441dd5939ffccbe9df8fb", func := "lading/ladinglaw45.ExposeTells", spec := "exposeTells", unfollowed := true, recurses := true, loops := true, plainKeys := false, apart := false, narrowed := true }
def ExposeTellsUptoSaid : Prop := exposeTellsUptoRow.holds Tryz.pinned (OpenSpec.upto exposeTellsSpec)

/-- 'ladinglaw45.ExposeConcerns', WHERE WHAT IT READS IS OF BULK AT MOST 1048576: true; the input reads as it did. -/
def exposeConcernsUptoRow : OpenClaim := { program := "ytnipfhmghjdnmaagreat", sum := "4eebfff76b56ae6e77cf9bc83c319752f03288a3700441dd5939ffccbe9df8fb", func := "lading/ladinglaw45.ExposeConcerns", spec := "exposeConcerns", unfollowed := true, recurses := true, loops := true, plainKeys := false, apart := false, narrowed := true }
def ExposeConcernsUptoSaid : Prop := exposeConcernsUptoRow.holds Tryz.pinned (OpenSpec.upto exposeConcernsSpec)

/-- 'ladinglaw45.ExposeAsk', WHERE WHAT IT READS IS OF BULK AT MOST 1048576: true; the input reads as it did. -/
def exposeAskUptoRow : OpenClaim := { program := "ytnipfhmghjdnmaagreat", sum := "4eebfff76b56ae6e77cf9bc83c319752f03288a3700441dd5939ffccbe9df8fb", func := "lading/ladinglaw45.ExposeAsk", spec := "exposeAsk", unfollowed := true, recurses := true, loops := true, plainKeys := false, apart := false, narrowed := true }
def ExposeAskUptoSaid : Prop := exposeAskUptoRow.holds Tryz.pinned (OpenSpec.upto exposeAskSpec)

/-- 'ladinglaw45.ExposeMore', WHERE WHAT IT READS IS OF BULK AT MOST 1048576: true; the input reads as it did. -/
def exposeMoreUptoRow : OpenClaim := { program := "ytnipfhmghjdnmaagreat", sum := "4eebfff76b56ae6e77cf9bc83c319752f03288a3700441dd5939ffccbe9df8fb", func := "lading/ladinglaw45.ExposeMore", spec := "exposeMore", unfollowed := true, recurses := true, loops := true, plainKeys := false, apart := false, narrowed := true }
def ExposeMoreUptoSaid : Prop := exposeMoreUptoRow.holds Tryz.pinned (OpenSpec.upto exposeMoreSpec)

/-- 'ladinglaw20.ReachRuns', WHERE WHAT IT READS IS OF BULK AT MOST 1048576: true; the input reads as it did. -/
def reachRunsUptoRow : OpenClaim := { program := "ytnipfhmghjdnmaagreat", sum := "4eebfff76b56ae6e77cf9bc83c319752f03288a3700441dd5939ffccbe9df8fb", func := "lading/ladinglaw20.ReachRuns", spec := "reachRuns", unfollowed := true, recurses := true, loops := true, plainKeys := false, apart := false, narrowed := true }
def ReachRunsUptoSaid : Prop := reachRunsUptoRow.holds Tryz.pinned (OpenSpec.upto reachRunsSpec)

end Rows
end Go.Proofs.YtnipfhmghjdnmaaGreat
