/-
  NARROWER THAN 'FOR EVERY INPUT', by the rows' own cells (each row's printed sentence says how): PatchTurns: loops · PatchPasses: loops · ReachStated: loops · EvalTyped: loops · ExposeRuns: loops · PatchKeeps: loops.
  DERIVED. THE GIVEN ROWS OF THIS SEAT. 6 by the template 'for every input the law returns true; each argument reads behind the call as it read before'; 0 by the template 'total and deterministic' (their statements: YtkkabinknmldeaaGreatTotals.lean).
  GIVEN WITH THE SEED: the statements are not yours to turn. If you find one false, say at which input.
  Laid BY PROGRAM, IN A SANDBOX (cutbox-rows.mjs): the forced cells as the released guide's own fill.sh prints them over the translation 6f0bae93f045c561… (all of the seat's roots in one cut). By AI agents, Wed Nov 11 2026. No macro, syntax, notation, axiom, sorry.
-/
import Derived.Test.YtkkabinknmldeaaGreatChecked
import GoSem.Claim
import GoSem.ClaimJoined
import GoSem.ClaimMapViews
import Derived.JoinedTies
import Derived.KernelRfl
namespace Go.Proofs.YtkkabinknmldeaaGreat
/- THE CELL 'sum', in the pinned program and in every row, IS THE sha256 OF THE DUMP (.gsa) THAT YtkkabinknmldeaaGreatProg.lean LOADS. Nothing in Lean hashes anything: it is a label: what it is worth is what the hold of that sum in a sandbox is worth. -/
noncomputable def Tryz.pinned : Pinned := { name := "ytkkabinknmldeaagreat", sum := "6f0bae93f045c561171ad17a9d9b3a99edde5e873a1723eb54a4453ee573ecc5", checked := Tryz.checked }
namespace Rows
def none {H : Type} : Left H := { results := [], args := [] }

/-- 'ladinglaw47.PatchTurns': WHATEVER THE INPUT: true; the input reads as it did. -/
def patchTurnsSpec : ChangeSpec := { name := "patchTurns", fn := fun _ => fun
  | [d1, d2, d3, d4] => { results := [.lit (.bool true)], args := [d1, d2, d3, d4] }
  | _ => none }
def patchTurnsRow : OpenClaim := { program := "ytkkabinknmldeaagreat", sum := "6f0bae93f045c561171ad17a9d9b3a99edde5e873a1723eb54a4453ee573ecc5", func := "lading/ladinglaw47.PatchTurns", spec := "patchTurns", inPlace := ["internal/bytealg.IndexByteString", "internal/bytealg.IndexString"], unfollowed := true, recurses := true, named := ["internal/bytealg.MaxLen"], loops := true, plainKeys := false, apart := false }
def PatchTurnsSaid : Prop := patchTurnsRow.holds Tryz.pinned (OpenSpec.ofChange patchTurnsSpec)

/-- ITS FALSE NEIGHBOUR: 'it returns false'. Refute it at one input. -/
def patchTurnsWrong : ChangeSpec := { name := "patchTurns", fn := fun _ => fun
  | [d1, d2, d3, d4] => { results := [.lit (.bool false)], args := [d1, d2, d3, d4] }
  | _ => none }
def PatchTurnsWrongFalsely : Prop := patchTurnsRow.holds Tryz.pinned (OpenSpec.ofChange patchTurnsWrong)

/-- 'ladinglaw47.PatchPasses': WHATEVER THE INPUT: true; the input reads as it did. -/
def patchPassesSpec : ChangeSpec := { name := "patchPasses", fn := fun _ => fun
  | [d1, d2, d3, d4, d5] => { results := [.lit (.bool true)], args := [d1, d2, d3, d4, d5] }
  | _ => none }
def patchPassesRow : OpenClaim := { program := "ytkkabinknmldeaagreat", sum := "6f0bae93f045c561171ad17a9d9b3a99edde5e873a1723eb54a4453ee573ecc5", func := "lading/ladinglaw47.PatchPasses", spec := "patchPasses", inPlace := ["internal/bytealg.IndexByteString", "internal/bytealg.IndexString"], unfollowed := true, recurses := true, named := ["internal/bytealg.MaxLen"], loops := true, plainKeys := false, apart := false }
def PatchPassesSaid : Prop := patchPassesRow.holds Tryz.pinned (OpenSpec.ofChange patchPassesSpec)

/-- ITS FALSE NEIGHBOUR: 'it returns false'. Refute it at one input. -/
def patchPassesWrong : ChangeSpec := { name := "patchPasses", fn := fun _ => fun
  | [d1, d2, d3, d4, d5] => { results := [.lit (.bool false)], args := [d1, d2, d3, d4, d5] }
  | _ => none }
def PatchPassesWrongFalsely : Prop := patchPassesRow.holds Tryz.pinned (OpenSpec.ofChange patchPassesWrong)

/-- 'ladinglaw20.ReachStated': WHATEVER THE INPUT: true; the input reads as it did. -/
def reachStatedSpec : ChangeSpec := { name := "reachStated", fn := fun _ => fun
  | [d1, d2] => { results := [.lit (.bool true)], args := [d1, d2] }
  | _ => none }
def reachStatedRow : OpenClaim := { program := "ytkkabinknmldeaagreat", sum := "6f0bae93f045c561171ad17a9d9b3a99edde5e873a1723eb54a4453ee573ecc5", func := "lading/ladinglaw20.ReachStated", spec := "reachStated", inPlace := ["internal/bytealg.IndexByteString", "internal/bytealg.IndexString"], unfollowed := true, recurses := true, named := ["internal/bytealg.MaxLen"], loops := true, plainKeys := false, apart := false }
def ReachStatedSaid : Prop := reachStatedRow.holds Tryz.pinned (OpenSpec.ofChange reachStatedSpec)

/-- ITS FALSE NEIGHBOUR: 'it returns false'. Refute it at one input. -/
def reachStatedWrong : ChangeSpec := { name := "reachStated", fn := fun _ => fun
  | [d1, d2] => { results := [.lit (.bool false)], args := [d1, d2] }
  | _ => none }
def ReachStatedWrongFalsely : Prop := reachStatedRow.holds Tryz.pinned (OpenSpec.ofChange reachStatedWrong)

/-- 'ladinglaw19.EvalTyped': WHATEVER THE INPUT: true; the input reads as it did. -/
def evalTypedSpec : ChangeSpec := { name := "evalTyped", fn := fun _ => fun
  | [d1, d2, d3, d4, d5, d6] => { results := [.lit (.bool true)], args := [d1, d2, d3, d4, d5, d6] }
  | _ => none }
def evalTypedRow : OpenClaim := { program := "ytkkabinknmldeaagreat", sum := "6f0bae93f045c561171ad17a9d9b3a99edde5e873a1723eb54a4453ee573ecc5", func := "lading/ladinglaw19.EvalTyped", spec := "evalTyped", inPlace := ["internal/bytealg.IndexByteString", "internal/bytealg.IndexString"], unfollowed := true, recurses := true, named := ["internal/bytealg.MaxLen"], loops := true, plainKeys := false, apart := false }
def EvalTypedSaid : Prop := evalTypedRow.holds Tryz.pinned (OpenSpec.ofChange evalTypedSpec)

/-- ITS FALSE NEIGHBOUR: 'it returns false'. Refute it at one input. -/
def evalTypedWrong : ChangeSpec := { name := "evalTyped", fn := fun _ => fun
  | [d1, d2, d3, d4, d5, d6] => { results := [.lit (.bool false)], args := [d1, d2, d3, d4, d5, d6] }
  | _ => none }
def EvalTypedWrongFalsely : Prop := evalTypedRow.holds Tryz.pinned (OpenSpec.ofChange evalTypedWrong)

/-- 'ladinglaw45.ExposeRuns': WHATEVER THE INPUT: true; the input reads as it did. -/
def exposeRunsSpec : ChangeSpec := { name := "exposeRuns", fn := fun _ => fun
  | [d1, d2, d3, d4, d5, d6, d7] => { results := [.lit (.bool true)], args := [d1, d2, d3, d4, d5, d6, d7] }
  | _ => none }
def exposeRunsRow : OpenClaim := { program := "ytkkabinknmldeaagreat", sum := "6f0bae93f045c561171ad17a9d9b3a99edde5e873a1723eb54a4453ee573ecc5", func := "lading/ladinglaw45.ExposeRuns", spec := "exposeRuns", inPlace := ["internal/bytealg.IndexByteString", "internal/bytealg.IndexString"], unfollowed := true, recurses := true, named := ["internal/bytealg.MaxLen"], loops := true, plainKeys := false, apart := false }
def ExposeRunsSaid : Prop := exposeRunsRow.holds Tryz.pinned (OpenSpec.ofChange exposeRunsSpec)

/-- ITS FALSE NEIGHBOUR: 'it returns false'. Refute it at one input. -/
def exposeRunsWrong : ChangeSpec := { name := "exposeRuns", fn := fun _ => fun
  | [d1, d2, d3, d4, d5, d6, d7] => { results := [.lit (.bool false)], args := [d1, d2, d3, d4, d5, d6, d7] }
  | _ => none }
def ExposeRunsWrongFalsely : Prop := exposeRunsRow.holds Tryz.pinned (OpenSpec.ofChange exposeRunsWrong)

/-- 'ladinglaw47.PatchKeeps': WHATEVER THE INPUT: true; the input reads as it did. -/
def patchKeepsSpec : ChangeSpec := { name := "patchKeeps", fn := fun _ => fun
  | [d1, d2, d3, d4, d5, d6, d7] => { results := [.lit (.bool true)], args := [d1, d2, d3, d4, d5, d6, d7] }
  | _ => none }
def patchKeepsRow : OpenClaim := { program := "ytkkabinknmldeaagreat", sum := "6f0bae93f045c561171ad17a9d9b3a99edde5e873a1723eb54a4453ee573ecc5", func := "lading/ladinglaw47.PatchKeeps", spec := "patchKeeps", inPlace := ["internal/bytealg.IndexByteString", "internal/bytealg.IndexString"], unfollowed := true, recurses := true, named := ["internal/bytealg.MaxLen"], loops := true, plainKeys := false, apart := false }
def PatchKeepsSaid : Prop := patchKeepsRow.holds Tryz.pinned (OpenSpec.ofChange patchKeepsSpec)

/-- ITS FALSE NEIGHBOUR: 'it returns false'. Refute it at one input. -/
def patchKeepsWrong : ChangeSpec := { name := "patchKeeps", fn := fun _ => fun
  | [d1, d2, d3, d4, d5, d6, d7] => { results := [.lit (.bool false)], args := [d1, d2, d3, d4, d5, d6, d7] }
  | _ => none }
def PatchKeepsWrongFalsely : Prop := patchKeepsRow.holds Tryz.pinned (OpenSpec.ofChange patchKeepsWrong)

/- THE SECOND FORM. 'bulk': how many values and letters a reading holds, each counted each time it is reached (what is shared counts as often as it is met; a slice's spare places count too). A statement '..UptoSaid' is the law's where the arguments, and the package variables that the reading takes, are together of bulk at most 1048576: NARROWER than '..Said'. Prove '..Said' where nothing that the law and all that it calls make is longer than what came in: it says more and counts as full. Else prove '..UptoSaid'. A law counts once. -/
mutual
def uptoBulk {H : Type} : DataW H → Nat
  | .lit (.string bytes) => bytes.length + 1
  | .lit _ => 1
  | .nil => 1
  | .ptr d => uptoBulk d + 1
  | .slice elems spare => uptoBulkAll elems + uptoBulkAll spare + 1
  | .agg parts => uptoBulkAll parts + 1
  | .iface _ d => uptoBulk d + 1
  | .map entries => uptoBulkEntries entries + 1
  | .held _ => 1
def uptoBulkAll {H : Type} : List (DataW H) → Nat
  | [] => 0
  | d :: r => uptoBulk d + uptoBulkAll r
def uptoBulkEntries {H : Type} : List (Lit × DataW H) → Nat
  | [] => 0
  | x :: r => uptoBulkEntry x + uptoBulkEntries r
def uptoBulkEntry {H : Type} : Lit × DataW H → Nat
  | (.string bytes, d) => bytes.length + uptoBulk d + 1
  | (_, d) => uptoBulk d + 1
 end
def uptoSmall : (H : Type) → List (DataW H) → Bool := fun _ ds => decide (uptoBulkAll ds ≤ 1048576)
def OpenSpec.upto (s : _root_.Go.ChangeSpec) : _root_.Go.OpenSpec := { _root_.Go.OpenSpec.ofChange s with cond := some uptoSmall }

/-- 'ladinglaw47.PatchTurns', WHERE WHAT IT READS IS OF BULK AT MOST 1048576: true; the input reads as it did. -/
def patchTurnsUptoRow : OpenClaim := { program := "ytkkabinknmldeaagreat", sum := "6f0bae93f045c561171ad17a9d9b3a99edde5e873a1723eb54a4453ee573ecc5", func := "lading/ladinglaw47.PatchTurns", spec := "patchTurns", inPlace := ["internal/bytealg.IndexByteString", "internal/bytealg.IndexString"], unfollowed := true, recurses := true, named := ["internal/bytealg.MaxLen"], loops := true, plainKeys := false, apart := false, narrowed := true }
def PatchTurnsUptoSaid : Prop := patchTurnsUptoRow.holds Tryz.pinned (OpenSpec.upto patchTurnsSpec)

/-- 'ladinglaw47.PatchPasses', WHERE WHAT IT READS IS OF BULK AT MOST 1048576: true; the input reads as it did. -/
def patchPassesUptoRow : OpenClaim := { program := "ytkkabinknmldeaagreat", sum := "6f0bae93f045c561171ad17a9d9b3a99edde5e873a1723eb54a4453ee573ecc5", func := "lading/ladinglaw47.PatchPasses", spec := "patchPasses", inPlace := ["internal/bytealg.IndexByteString", "internal/bytealg.IndexString"], unfollowed := true, recurses := true, named := ["internal/bytealg.MaxLen"], loops := true, plainKeys := false, apart := false, narrowed := true }
def PatchPassesUptoSaid : Prop := patchPassesUptoRow.holds Tryz.pinned (OpenSpec.upto patchPassesSpec)

/-- 'ladinglaw20.ReachStated', WHERE WHAT IT READS IS OF BULK AT MOST 1048576: true; the input reads as it did. -/
def reachStatedUptoRow : OpenClaim := { program := "ytkkabinknmldeaagreat", sum := "6f0bae93f045c561171ad17a9d9b3a99edde5e873a1723eb54a4453ee573ecc5", func := "lading/ladinglaw20.ReachStated", spec := "reachStated", inPlace := ["internal/bytealg.IndexByteString", "internal/bytealg.IndexString"], unfollowed := true, recurses := true, named := ["internal/bytealg.MaxLen"], loops := true, plainKeys := false, apart := false, narrowed := true }
def ReachStatedUptoSaid : Prop := reachStatedUptoRow.holds Tryz.pinned (OpenSpec.upto reachStatedSpec)

/-- 'ladinglaw19.EvalTyped', WHERE WHAT IT READS IS OF BULK AT MOST 1048576: true; the input reads as it did. -/
def evalTypedUptoRow : OpenClaim := { program := "ytkkabinknmldeaagreat", sum := "6f0bae93f045c561171ad17a9d9b3a99edde5e873a1723eb54a4453ee573ecc5", func := "lading/ladinglaw19.EvalTyped", spec := "evalTyped", inPlace := ["internal/bytealg.IndexByteString", "internal/bytealg.IndexString"], unfollowed := true, recurses := true, named := ["internal/bytealg.MaxLen"], loops := true, plainKeys := false, apart := false, narrowed := true }
def EvalTypedUptoSaid : Prop := evalTypedUptoRow.holds Tryz.pinned (OpenSpec.upto evalTypedSpec)

/-- 'ladinglaw45.ExposeRuns', WHERE WHAT IT READS IS OF BULK AT MOST 1048576: true; the input reads as it did. -/
def exposeRunsUptoRow : OpenClaim := { program := "ytkkabinknmldeaagreat", sum := "6f0bae93f045c561171ad17a9d9b3a99edde5e873a1723eb54a4453ee573ecc5", func := "lading/ladinglaw45.ExposeRuns", spec := "exposeRuns", inPlace := ["internal/bytealg.IndexByteString", "internal/bytealg.IndexString"], unfollowed := true, recurses := true, named := ["internal/bytealg.MaxLen"], loops := true, plainKeys := false, apart := false, narrowed := true }
def ExposeRunsUptoSaid : Prop := exposeRunsUptoRow.holds Tryz.pinned (OpenSpec.upto exposeRunsSpec)

/-- 'ladinglaw47.PatchKeeps', WHERE WHAT IT READS IS OF BULK AT MOST 1048576: true; the input reads as it did. -/
def patchKeepsUptoRow : OpenClaim := { program := "ytkkabinknmldeaagreat", sum := "6f0bae93f045c561171ad17a9d9b3a99edde5e873a1723eb54a4453ee573ecc5", func := "lading/ladinglaw47.PatchKeeps", spec := "patchKeeps", inPlace := ["internal/bytealg.IndexByteString", "internal/bytealg.IndexString"], unfollowed := true, recurses := true, named := ["internal/bytealg.MaxLen"], loops := true, plainKeys := false, apart := false, narrowed := true }
def PatchKeepsUptoSaid : Prop := patchKeepsUptoRow.holds Tryz.pinned (OpenSpec.upto patchKeepsSpec)

end Rows
end Go.Proofs.YtkkabinknmldeaaGreat
