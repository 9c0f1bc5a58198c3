/-
  NARROWER THAN 'FOR EVERY INPUT', by the rows' own cells (each row's printed sentence says how): EvalTells: loops · EvalWorlds: loops · EvalFuel: loops · EvalOwn: loops.
  DERIVED. THE GIVEN ROWS OF THIS SEAT. 4 by the template 'for every input the law returns true; each argument reads behind the call as it read before'; 0 by the template 'total and deterministic' (their statements: YtgbopmciiadmlaaTotals.lean).
  GIVEN WITH THE SEED: the statements are not yours to turn. If you find one false, say at which input.
  Laid BY PROGRAM, IN A SANDBOX (cutbox-rows.mjs): the forced cells as the released guide's own fill.sh prints them over the translation 3cd64fdcd8f2318b… (all of the seat's roots in one cut). By AI agents, Wed Nov 11 2026. No macro, syntax, notation, axiom, sorry.
-/
import Derived.Test.YtgbopmciiadmlaaChecked
import GoSem.Claim
import GoSem.ClaimJoined
import GoSem.ClaimMapViews
import Derived.JoinedTies
import Derived.KernelRfl
namespace Go.Proofs.Ytgbopmciiadmlaa
/- THE CELL 'sum', in the pinned program and in every row, IS THE sha256 OF THE DUMP (.gsa) THAT YtgbopmciiadmlaaProg.lean LOADS. Nothing in Lean hashes anything: it is a label: what it is worth is what the hold of that sum in a sandbox is worth. -/
noncomputable def Try.pinned : Pinned := { name := "ytgbopmciiadmlaa", sum := "3cd64fdcd8f2318bf7b40eff9f69a2a7685cdcea5781f4b7987522fd73c5308b", checked := Try.checked }
namespace Rows
def none {H : Type} : Left H := { results := [], args := [] }

/-- 'ladinglaw19.EvalTells': WHATEVER THE INPUT: true; the input reads as it did. -/
def evalTellsSpec : ChangeSpec := { name := "evalTells", fn := fun _ => fun
  | [d1, d2, d3, d4, d5, d6, d7] => { results := [.lit (.bool true)], args := [d1, d2, d3, d4, d5, d6, d7] }
  | _ => none }
def evalTellsRow : OpenClaim := { program := "ytgbopmciiadmlaa", sum := "3cd64fdcd8f2318bf7b40eff9f69a2a7685cdcea5781f4b7987522fd73c5308b", func := "lading/ladinglaw19.EvalTells", spec := "evalTells", unfollowed := true, recurses := true, loops := true, apart := false }
def EvalTellsSaid : Prop := evalTellsRow.holds Try.pinned (OpenSpec.ofChange evalTellsSpec)

/-- ITS FALSE NEIGHBOUR: 'it returns false'. Refute it at one input. -/
def evalTellsWrong : ChangeSpec := { name := "evalTells", fn := fun _ => fun
  | [d1, d2, d3, d4, d5, d6, d7] => { results := [.lit (.bool false)], args := [d1, d2, d3, d4, d5, d6, d7] }
  | _ => none }
def EvalTellsWrongFalsely : Prop := evalTellsRow.holds Try.pinned (OpenSpec.ofChange evalTellsWrong)

/-- 'ladinglaw19.EvalWorlds': WHATEVER THE INPUT: true; the input reads as it did. -/
def evalWorldsSpec : ChangeSpec := { name := "evalWorlds", fn := fun _ => fun
  | [d1, d2, d3, d4, d5, d6, d7] => { results := [.lit (.bool true)], args := [d1, d2, d3, d4, d5, d6, d7] }
  | _ => none }
def evalWorldsRow : OpenClaim := { program := "ytgbopmciiadmlaa", sum := "3cd64fdcd8f2318bf7b40eff9f69a2a7685cdcea5781f4b7987522fd73c5308b", func := "lading/ladinglaw19.EvalWorlds", spec := "evalWorlds", unfollowed := true, recurses := true, loops := true, apart := false }
def EvalWorldsSaid : Prop := evalWorldsRow.holds Try.pinned (OpenSpec.ofChange evalWorldsSpec)

/-- ITS FALSE NEIGHBOUR: 'it returns false'. Refute it at one input. -/
def evalWorldsWrong : ChangeSpec := { name := "evalWorlds", fn := fun _ => fun
  | [d1, d2, d3, d4, d5, d6, d7] => { results := [.lit (.bool false)], args := [d1, d2, d3, d4, d5, d6, d7] }
  | _ => none }
def EvalWorldsWrongFalsely : Prop := evalWorldsRow.holds Try.pinned (OpenSpec.ofChange evalWorldsWrong)

/-- 'ladinglaw19.EvalFuel': WHATEVER THE INPUT: true; the input reads as it did. -/
def evalFuelSpec : ChangeSpec := { name := "evalFuel", fn := fun _ => fun
  | [d1, d2, d3, d4, d5, d6, d7] => { results := [.lit (.bool true)], args := [d1, d2, d3, d4, d5, d6, d7] }
  | _ => none }
def evalFuelRow : OpenClaim := { program := "ytgbopmciiadmlaa", sum := "3cd64fdcd8f2318bf7b40eff9f69a2a7685cdcea5781f4b7987522fd73c5308b", func := "lading/ladinglaw19.EvalFuel", spec := "evalFuel", unfollowed := true, recurses := true, loops := true, apart := false }
def EvalFuelSaid : Prop := evalFuelRow.holds Try.pinned (OpenSpec.ofChange evalFuelSpec)

/-- ITS FALSE NEIGHBOUR: 'it returns false'. Refute it at one input. -/
def evalFuelWrong : ChangeSpec := { name := "evalFuel", fn := fun _ => fun
  | [d1, d2, d3, d4, d5, d6, d7] => { results := [.lit (.bool false)], args := [d1, d2, d3, d4, d5, d6, d7] }
  | _ => none }
def EvalFuelWrongFalsely : Prop := evalFuelRow.holds Try.pinned (OpenSpec.ofChange evalFuelWrong)

/-- 'ladinglaw19.EvalOwn': WHATEVER THE INPUT: true; the input reads as it did. -/
def evalOwnSpec : ChangeSpec := { name := "evalOwn", fn := fun _ => fun
  | [d1, d2, d3, d4, d5, d6] => { results := [.lit (.bool true)], args := [d1, d2, d3, d4, d5, d6] }
  | _ => none }
def evalOwnRow : OpenClaim := { program := "ytgbopmciiadmlaa", sum := "3cd64fdcd8f2318bf7b40eff9f69a2a7685cdcea5781f4b7987522fd73c5308b", func := "lading/ladinglaw19.EvalOwn", spec := "evalOwn", unfollowed := true, recurses := true, loops := true, apart := false }
def EvalOwnSaid : Prop := evalOwnRow.holds Try.pinned (OpenSpec.ofChange evalOwnSpec)

/-- ITS FALSE NEIGHBOUR: 'it returns false'. Refute it at one input. -/
def evalOwnWrong : ChangeSpec := { name := "evalOwn", fn := fun _ => fun
  | [d1, d2, d3, d4, d5, d6] => { results := [.lit (.bool false)], args := [d1, d2, d3, d4, d5, d6] }
  | _ => none }
def EvalOwnWrongFalsely : Prop := evalOwnRow.holds Try.pinned (OpenSpec.ofChange evalOwnWrong)

/- THE SECOND FORM. 'bulk': how many values and letters a reading holds, each counted each time it is reached (what is shared counts as often as it is met; a slice's spare places count too). A statement '..UptoSaid' is the law's where the arguments, and the package variables that the reading takes, are together of bulk at most 1048576: NARROWER than '..Said'. Prove '..Said' where nothing that the law and all that it calls make is longer than what came in: it says more and counts as full. Else prove '..UptoSaid'. A law counts once. -/
mutual
def uptoBulk {H : Type} : DataW H → Nat
  | .lit (.string bytes) => bytes.length + 1
  | .lit _ => 1
  | .nil => 1
  | .ptr d => uptoBulk d + 1
  | .slice elems spare => uptoBulkAll elems + uptoBulkAll spare + 1
  | .agg parts => uptoBulkAll parts + 1
  | .iface _ d => uptoBulk d + 1
  | .map entries => uptoBulkEntries entries + 1
  | .held _ => 1
def uptoBulkAll {H : Type} : List (DataW H) → Nat
  | [] => 0
  | d :: r => uptoBulk d + uptoBulkAll r
def uptoBulkEntries {H : Type} : List (Lit × DataW H) → Nat
  | [] => 0
  | x :: r => uptoBulkEntry x + uptoBulkEntries r
def uptoBulkEntry {H : Type} : Lit × DataW H → Nat
  | (.string bytes, d) => bytes.length + uptoBulk d + 1
  | (_, d) => uptoBulk d + 1
 end
def uptoSmall : (H : Type) → List (DataW H) → Bool := fun _ ds => decide (uptoBulkAll ds ≤ 1048576)
def OpenSpec.upto (s : _root_.Go.ChangeSpec) : _root_.Go.OpenSpec := { _root_.Go.OpenSpec.ofChange s with cond := some uptoSmall }

/-- 'ladinglaw19.EvalTells', WHERE WHAT IT READS IS OF BULK AT MOST 1048576: true; the input reads as it did. -/
def evalTellsUptoRow : OpenClaim := { program := "ytgbopmciiadmlaa", sum := "3cd64fdcd8f2318bf7b40eff9f69a2a7685cdcea5781f4b7987522fd73c5308b", func := "lading/ladinglaw19.EvalTells", spec := "evalTells", unfollowed := true, recurses := true, loops := true, apart := false, narrowed := true }
def EvalTellsUptoSaid : Prop := evalTellsUptoRow.holds Try.pinned (OpenSpec.upto evalTellsSpec)

/-- 'ladinglaw19.EvalWorlds', WHERE WHAT IT READS IS OF BULK AT MOST 1048576: true; the input reads as it did. -/
def evalWorldsUptoRow : OpenClaim := { program := "ytgbopmciiadmlaa", sum := "3cd64fdcd8f2318bf7b40eff9f69a2a7685cdcea5781f4b7987522fd73c5308b", func := "lading/ladinglaw19.EvalWorlds", spec := "evalWorlds", unfollowed := true, recurses := true, loops := true, apart := false, narrowed := true }
def EvalWorldsUptoSaid : Prop := evalWorldsUptoRow.holds Try.pinned (OpenSpec.upto evalWorldsSpec)

/-- 'ladinglaw19.EvalFuel', WHERE WHAT IT READS IS OF BULK AT MOST 1048576: true; the input reads as it did. -/
def evalFuelUptoRow : OpenClaim := { program := "ytgbopmciiadmlaa", sum := "3cd64fdcd8f2318bf7b40eff9f69a2a7685cdcea5781f4b7987522fd73c5308b", func := "lading/ladinglaw19.EvalFuel", spec := "evalFuel", unfollowed := true, recurses := true, loops := true, apart := false, narrowed := true }
def EvalFuelUptoSaid : Prop := evalFuelUptoRow.holds Try.pinned (OpenSpec.upto evalFuelSpec)

/-- 'ladinglaw19.EvalOwn', WHERE WHAT IT READS IS OF BULK AT MOST 1048576: true; the input reads as it did. -/
def evalOwnUptoRow : OpenClaim := { program := "ytgbopmciiadmlaa", sum := "3cd64fdcd8f2318bf7b40eff9f69a2a7685cdcea5781f4b7987522fd73c5308b", func := "lading/ladinglaw19.EvalOwn", spec := "evalOwn", unfollowed := true, recurses := true, loops := true, apart := false, narrowed := true }
def EvalOwnUptoSaid : Prop := evalOwnUptoRow.holds Try.pinned (OpenSpec.upto evalOwnSpec)

end Rows
end Go.Proofs.Ytgbopmciiadmlaa
