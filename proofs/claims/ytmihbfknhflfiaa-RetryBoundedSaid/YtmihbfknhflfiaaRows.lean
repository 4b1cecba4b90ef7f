/-
  No cell of these rows narrows 'for every input' (looked for: loops, veiled, ifaces, maps, wideKeys, modest, calm, conditions, laid).
  DERIVED. THE GIVEN ROWS OF THIS SEAT. 7 by the template 'for every input the law returns true; each argument reads behind the call as it read before'; 0 by the template 'total and deterministic' (their statements: YtmihbfknhflfiaaTotals.lean).
  GIVEN WITH THE SEED: the statements are not yours to turn. If you find one false, say at which input.
  Laid BY PROGRAM, IN A SANDBOX (cutbox-rows.mjs): the forced cells as the released guide's own fill.sh prints them over the translation 34dd6a97680cb5fd… (all of the seat's roots in one cut). By AI agents, Wed Nov 11 2026. No macro, syntax, notation, axiom, sorry.
-/
import Derived.Test.YtmihbfknhflfiaaChecked
import GoSem.Claim
import GoSem.ClaimJoined
import GoSem.ClaimMapViews
import Derived.JoinedTies
import Derived.KernelRfl
namespace Go.Proofs.Ytmihbfknhflfiaa
/- THE CELL 'sum', in the pinned program and in every row, IS THE sha256 OF THE DUMP (.gsa) THAT YtmihbfknhflfiaaProg.lean LOADS. Nothing in Lean hashes anything: it is a label: what it is worth is what the hold of that sum in a sandbox is worth. -/
noncomputable def Try.pinned : Pinned := { name := "ytmihbfknhflfiaa", sum := "34dd6a97680cb5fd044afa2cb5ae1c1002c31ac3cf70c6d051f6a62f71464a4e", checked := Try.checked }
namespace Rows
def none {H : Type} : Left H := { results := [], args := [] }

/-- 'wireschemalaw49.RetryChecks': WHATEVER THE INPUT: true; the input reads as it did. -/
def retryChecksSpec : ChangeSpec := { name := "retryChecks", fn := fun _ => fun
  | [d1, d2] => { results := [.lit (.bool true)], args := [d1, d2] }
  | _ => none }
def retryChecksRow : OpenClaim := { program := "ytmihbfknhflfiaa", sum := "34dd6a97680cb5fd044afa2cb5ae1c1002c31ac3cf70c6d051f6a62f71464a4e", func := "wireschema/wireschemalaw49.RetryChecks", spec := "retryChecks", apart := false }
def RetryChecksSaid : Prop := retryChecksRow.holds Try.pinned (OpenSpec.ofChange retryChecksSpec)

/-- ITS FALSE NEIGHBOUR: 'it returns false'. Refute it at one input. -/
def retryChecksWrong : ChangeSpec := { name := "retryChecks", fn := fun _ => fun
  | [d1, d2] => { results := [.lit (.bool false)], args := [d1, d2] }
  | _ => none }
def RetryChecksWrongFalsely : Prop := retryChecksRow.holds Try.pinned (OpenSpec.ofChange retryChecksWrong)

/-- 'wireschemalaw49.RetryPauses': WHATEVER THE INPUT: true; the input reads as it did. -/
def retryPausesSpec : ChangeSpec := { name := "retryPauses", fn := fun _ => fun
  | [d1, d2] => { results := [.lit (.bool true)], args := [d1, d2] }
  | _ => none }
def retryPausesRow : OpenClaim := { program := "ytmihbfknhflfiaa", sum := "34dd6a97680cb5fd044afa2cb5ae1c1002c31ac3cf70c6d051f6a62f71464a4e", func := "wireschema/wireschemalaw49.RetryPauses", spec := "retryPauses", apart := false }
def RetryPausesSaid : Prop := retryPausesRow.holds Try.pinned (OpenSpec.ofChange retryPausesSpec)

/-- ITS FALSE NEIGHBOUR: 'it returns false'. Refute it at one input. -/
def retryPausesWrong : ChangeSpec := { name := "retryPauses", fn := fun _ => fun
  | [d1, d2] => { results := [.lit (.bool false)], args := [d1, d2] }
  | _ => none }
def RetryPausesWrongFalsely : Prop := retryPausesRow.holds Try.pinned (OpenSpec.ofChange retryPausesWrong)

/-- 'wireschemalaw49.RetryBudgets': WHATEVER THE INPUT: true; the input reads as it did. -/
def retryBudgetsSpec : ChangeSpec := { name := "retryBudgets", fn := fun _ => fun
  | [d] => { results := [.lit (.bool true)], args := [d] }
  | _ => none }
def retryBudgetsRow : OpenClaim := { program := "ytmihbfknhflfiaa", sum := "34dd6a97680cb5fd044afa2cb5ae1c1002c31ac3cf70c6d051f6a62f71464a4e", func := "wireschema/wireschemalaw49.RetryBudgets", spec := "retryBudgets", apart := false }
def RetryBudgetsSaid : Prop := retryBudgetsRow.holds Try.pinned (OpenSpec.ofChange retryBudgetsSpec)

/-- ITS FALSE NEIGHBOUR: 'it returns false'. Refute it at one input. -/
def retryBudgetsWrong : ChangeSpec := { name := "retryBudgets", fn := fun _ => fun
  | [d] => { results := [.lit (.bool false)], args := [d] }
  | _ => none }
def RetryBudgetsWrongFalsely : Prop := retryBudgetsRow.holds Try.pinned (OpenSpec.ofChange retryBudgetsWrong)

/-- 'wireschemalaw49.RetryMays': WHATEVER THE INPUT: true; the input reads as it did. -/
def retryMaysSpec : ChangeSpec := { name := "retryMays", fn := fun _ => fun
  | [d1, d2, d3, d4] => { results := [.lit (.bool true)], args := [d1, d2, d3, d4] }
  | _ => none }
def retryMaysRow : OpenClaim := { program := "ytmihbfknhflfiaa", sum := "34dd6a97680cb5fd044afa2cb5ae1c1002c31ac3cf70c6d051f6a62f71464a4e", func := "wireschema/wireschemalaw49.RetryMays", spec := "retryMays", apart := false }
def RetryMaysSaid : Prop := retryMaysRow.holds Try.pinned (OpenSpec.ofChange retryMaysSpec)

/-- ITS FALSE NEIGHBOUR: 'it returns false'. Refute it at one input. -/
def retryMaysWrong : ChangeSpec := { name := "retryMays", fn := fun _ => fun
  | [d1, d2, d3, d4] => { results := [.lit (.bool false)], args := [d1, d2, d3, d4] }
  | _ => none }
def RetryMaysWrongFalsely : Prop := retryMaysRow.holds Try.pinned (OpenSpec.ofChange retryMaysWrong)

/-- 'wireschemalaw49.RetryPlans': WHATEVER THE INPUT: true; the input reads as it did. -/
def retryPlansSpec : ChangeSpec := { name := "retryPlans", fn := fun _ => fun
  | [d1, d2, d3, d4] => { results := [.lit (.bool true)], args := [d1, d2, d3, d4] }
  | _ => none }
def retryPlansRow : OpenClaim := { program := "ytmihbfknhflfiaa", sum := "34dd6a97680cb5fd044afa2cb5ae1c1002c31ac3cf70c6d051f6a62f71464a4e", func := "wireschema/wireschemalaw49.RetryPlans", spec := "retryPlans", apart := false }
def RetryPlansSaid : Prop := retryPlansRow.holds Try.pinned (OpenSpec.ofChange retryPlansSpec)

/-- ITS FALSE NEIGHBOUR: 'it returns false'. Refute it at one input. -/
def retryPlansWrong : ChangeSpec := { name := "retryPlans", fn := fun _ => fun
  | [d1, d2, d3, d4] => { results := [.lit (.bool false)], args := [d1, d2, d3, d4] }
  | _ => none }
def RetryPlansWrongFalsely : Prop := retryPlansRow.holds Try.pinned (OpenSpec.ofChange retryPlansWrong)

/-- 'wireschemalaw49.RetryBounded': WHATEVER THE INPUT: true; the input reads as it did. -/
def retryBoundedSpec : ChangeSpec := { name := "retryBounded", fn := fun _ => fun
  | [d1, d2, d3, d4] => { results := [.lit (.bool true)], args := [d1, d2, d3, d4] }
  | _ => none }
def retryBoundedRow : OpenClaim := { program := "ytmihbfknhflfiaa", sum := "34dd6a97680cb5fd044afa2cb5ae1c1002c31ac3cf70c6d051f6a62f71464a4e", func := "wireschema/wireschemalaw49.RetryBounded", spec := "retryBounded", apart := false }
def RetryBoundedSaid : Prop := retryBoundedRow.holds Try.pinned (OpenSpec.ofChange retryBoundedSpec)

/-- ITS FALSE NEIGHBOUR: 'it returns false'. Refute it at one input. -/
def retryBoundedWrong : ChangeSpec := { name := "retryBounded", fn := fun _ => fun
  | [d1, d2, d3, d4] => { results := [.lit (.bool false)], args := [d1, d2, d3, d4] }
  | _ => none }
def RetryBoundedWrongFalsely : Prop := retryBoundedRow.holds Try.pinned (OpenSpec.ofChange retryBoundedWrong)

/-- 'wireschemalaw49.RetryDeadlines': WHATEVER THE INPUT: true; the input reads as it did. -/
def retryDeadlinesSpec : ChangeSpec := { name := "retryDeadlines", fn := fun _ => fun
  | [d1, d2, d3, d4] => { results := [.lit (.bool true)], args := [d1, d2, d3, d4] }
  | _ => none }
def retryDeadlinesRow : OpenClaim := { program := "ytmihbfknhflfiaa", sum := "34dd6a97680cb5fd044afa2cb5ae1c1002c31ac3cf70c6d051f6a62f71464a4e", func := "wireschema/wireschemalaw49.RetryDeadlines", spec := "retryDeadlines", apart := false }
def RetryDeadlinesSaid : Prop := retryDeadlinesRow.holds Try.pinned (OpenSpec.ofChange retryDeadlinesSpec)

/-- ITS FALSE NEIGHBOUR: 'it returns false'. Refute it at one input. -/
def retryDeadlinesWrong : ChangeSpec := { name := "retryDeadlines", fn := fun _ => fun
  | [d1, d2, d3, d4] => { results := [.lit (.bool false)], args := [d1, d2, d3, d4] }
  | _ => none }
def RetryDeadlinesWrongFalsely : Prop := retryDeadlinesRow.holds Try.pinned (OpenSpec.ofChange retryDeadlinesWrong)

/- THE SECOND FORM. 'bulk': how many values and letters a reading holds, each counted each time it is reached (what is shared counts as often as it is met; a slice's spare places count too). A statement '..UptoSaid' is the law's where the arguments, and the package variables that the reading takes, are together of bulk at most 1048576: NARROWER than '..Said'. Prove '..Said' where nothing that the law and all that it calls make is longer than what came in: it says more and counts as full. Else prove '..UptoSaid'. A law counts once. -/
mutual
def uptoBulk {H : Type} : DataW H → Nat
  | .lit (.string bytes) => bytes.length + 1
  | .lit _ => 1
  | .nil => 1
  | .ptr d => uptoBulk d + 1
  | .slice elems spare => uptoBulkAll elems + uptoBulkAll spare + 1
  | .agg parts => uptoBulkAll parts + 1
  | .iface _ d => uptoBulk d + 1
  | .map entries => uptoBulkEntries entries + 1
  | .held _ => 1
def uptoBulkAll {H : Type} : List (DataW H) → Nat
  | [] => 0
  | d :: r => uptoBulk d + uptoBulkAll r
def uptoBulkEntries {H : Type} : List (Lit × DataW H) → Nat
  | [] => 0
  | x :: r => uptoBulkEntry x + uptoBulkEntries r
def uptoBulkEntry {H : Type} : Lit × DataW H → Nat
  | (.string bytes, d) => bytes.length + uptoBulk d + 1
  | (_, d) => uptoBulk d + 1
 end
def uptoSmall : (H : Type) → List (DataW H) → Bool := fun _ ds => decide (uptoBulkAll ds ≤ 1048576)
def OpenSpec.upto (s : _root_.Go.ChangeSpec) : _root_.Go.OpenSpec := { _root_.Go.OpenSpec.ofChange s with cond := some uptoSmall }

/-- 'wireschemalaw49.RetryChecks', WHERE WHAT IT READS IS OF BULK AT MOST 1048576: true; the input reads as it did. -/
def retryChecksUptoRow : OpenClaim := { program := "ytmihbfknhflfiaa", sum := "34dd6a97680cb5fd044afa2cb5ae1c1002c31ac3cf70c6d051f6a62f71464a4e", func := "wireschema/wireschemalaw49.RetryChecks", spec := "retryChecks", apart := false, narrowed := true }
def RetryChecksUptoSaid : Prop := retryChecksUptoRow.holds Try.pinned (OpenSpec.upto retryChecksSpec)

/-- 'wireschemalaw49.RetryPauses', WHERE WHAT IT READS IS OF BULK AT MOST 1048576: true; the input reads as it did. -/
def retryPausesUptoRow : OpenClaim := { program := "ytmihbfknhflfiaa", sum := "34dd6a97680cb5fd044afa2cb5ae1c1002c31ac3cf70c6d051f6a62f71464a4e", func := "wireschema/wireschemalaw49.RetryPauses", spec := "retryPauses", apart := false, narrowed := true }
def RetryPausesUptoSaid : Prop := retryPausesUptoRow.holds Try.pinned (OpenSpec.upto retryPausesSpec)

/-- 'wireschemalaw49.RetryBudgets', WHERE WHAT IT READS IS OF BULK AT MOST 1048576: true; the input reads as it did. -/
def retryBudgetsUptoRow : OpenClaim := { program := "ytmihbfknhflfiaa", sum := "34dd6a97680cb5fd044afa2cb5ae1c1002c31ac3cf70c6d051f6a62f71464a4e", func := "wireschema/wireschemalaw49.RetryBudgets", spec := "retryBudgets", apart := false, narrowed := true }
def RetryBudgetsUptoSaid : Prop := retryBudgetsUptoRow.holds Try.pinned (OpenSpec.upto retryBudgetsSpec)

/-- 'wireschemalaw49.RetryMays', WHERE WHAT IT READS IS OF BULK AT MOST 1048576: true; the input reads as it did. -/
def retryMaysUptoRow : OpenClaim := { program := "ytmihbfknhflfiaa", sum := "34dd6a97680cb5fd044afa2cb5ae1c1002c31ac3cf70c6d051f6a62f71464a4e", func := "wireschema/wireschemalaw49.RetryMays", spec := "retryMays", apart := false, narrowed := true }
def RetryMaysUptoSaid : Prop := retryMaysUptoRow.holds Try.pinned (OpenSpec.upto retryMaysSpec)

/-- 'wireschemalaw49.RetryPlans', WHERE WHAT IT READS IS OF BULK AT MOST 1048576: true; the input reads as it did. -/
def retryPlansUptoRow : OpenClaim := { program := "ytmihbfknhflfiaa", sum := "34dd6a97680cb5fd044afa2cb5ae1c1002c31ac3cf70c6d051f6a62f71464a4e", func := "wireschema/wireschemalaw49.RetryPlans", spec := "retryPlans", apart := false, narrowed := true }
def RetryPlansUptoSaid : Prop := retryPlansUptoRow.holds Try.pinned (OpenSpec.upto retryPlansSpec)

/-- 'wireschemalaw49.RetryBounded', WHERE WHAT IT READS IS OF BULK AT MOST 1048576: true; the input reads as it did. -/
def retryBoundedUptoRow : OpenClaim := { program := "ytmihbfknhflfiaa", sum := "34dd6a97680cb5fd044afa2cb5ae1c1002c31ac3cf70c6d051f6a62f71464a4e", func := "wireschema/wireschemalaw49.RetryBounded", spec := "retryBounded", apart := false, narrowed := true }
def RetryBoundedUptoSaid : Prop := retryBoundedUptoRow.holds Try.pinned (OpenSpec.upto retryBoundedSpec)

/-- 'wireschemalaw49.RetryDeadlines', WHERE WHAT IT READS IS OF BULK AT MOST 1048576: true; the input reads as it did. -/
def retryDeadlinesUptoRow : OpenClaim := { program := "ytmihbfknhflfiaa", sum := "34dd6a97680cb5fd044afa2cb5ae1c1002c31ac3cf70c6d051f6a62f71464a4e", func := "wireschema/wireschemalaw49.RetryDeadlines", spec := "retryDeadlines", apart := false, narrowed := true }
def RetryDeadlinesUptoSaid : Prop := retryDeadlinesUptoRow.holds Try.pinned (OpenSpec.upto retryDeadlinesSpec)

end Rows
end Go.Proofs.Ytmihbfknhflfiaa
