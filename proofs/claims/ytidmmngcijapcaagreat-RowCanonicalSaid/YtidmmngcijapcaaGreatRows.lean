/-
  NARROWER THAN 'FOR EVERY INPUT', by the rows' own cells (each row's printed sentence says how): RowScalars: loops · RowInverts: loops · RowCanonical: loops · RowLimits: loops · RowCuts: loops · RowEncodes: loops.
  DERIVED. THE GIVEN ROWS OF THIS SEAT. 6 by the template 'for every input the law returns true; each argument reads behind the call as it read before'; 0 by the template 'total and deterministic' (their statements: YtidmmngcijapcaaGreatTotals.lean).
  GIVEN WITH THE SEED: the statements are not yours to turn. If you find one false, say at which input.
  Laid BY PROGRAM, IN A SANDBOX (cutbox-rows.mjs): the forced cells as the released guide's own fill.sh prints them over the translation 5bd67dbd0becfe13… (all of the seat's roots in one cut). By AI agents, Wed Nov 11 2026. No macro, syntax, notation, axiom, sorry.
-/
import Derived.Test.YtidmmngcijapcaaGreatChecked
import GoSem.Claim
import GoSem.ClaimJoined
import GoSem.ClaimMapViews
import Derived.JoinedTies
import Derived.KernelRfl
namespace Go.Proofs.YtidmmngcijapcaaGreat
/- THE CELL 'sum', in the pinned program and in every row, IS THE sha256 OF THE DUMP (.gsa) THAT YtidmmngcijapcaaGreatProg.lean LOADS. Nothing in Lean hashes anything: it is a label: what it is worth is what the hold of that sum in a sandbox is worth. -/
noncomputable def Tryz.pinned : Pinned := { name := "ytidmmngcijapcaagreat", sum := "5bd67dbd0becfe13342ce1785cb700aee70402ad7b878b7fcb6aa819c8f6f676", checked := Tryz.checked }
namespace Rows
def none {H : Type} : Left H := { results := [], args := [] }

/-- 'wireschemalaw28.RowScalars': WHATEVER THE INPUT: true; the input reads as it did. -/
def rowScalarsSpec : ChangeSpec := { name := "rowScalars", fn := fun _ => fun
  | [d1, d2, d3, d4] => { results := [.lit (.bool true)], args := [d1, d2, d3, d4] }
  | _ => none }
def rowScalarsRow : OpenClaim := { program := "ytidmmngcijapcaagreat", sum := "5bd67dbd0becfe13342ce1785cb700aee70402ad7b878b7fcb6aa819c8f6f676", func := "wireschema/wireschemalaw28.RowScalars", spec := "rowScalars", unfollowed := true, recurses := true, loops := true, apart := false }
def RowScalarsSaid : Prop := rowScalarsRow.holds Tryz.pinned (OpenSpec.ofChange rowScalarsSpec)

/-- ITS FALSE NEIGHBOUR: 'it returns false'. Refute it at one input. -/
def rowScalarsWrong : ChangeSpec := { name := "rowScalars", fn := fun _ => fun
  | [d1, d2, d3, d4] => { results := [.lit (.bool false)], args := [d1, d2, d3, d4] }
  | _ => none }
def RowScalarsWrongFalsely : Prop := rowScalarsRow.holds Tryz.pinned (OpenSpec.ofChange rowScalarsWrong)

/-- 'wireschemalaw28.RowInverts': WHATEVER THE INPUT: true; the input reads as it did. -/
def rowInvertsSpec : ChangeSpec := { name := "rowInverts", fn := fun _ => fun
  | [d1, d2, d3] => { results := [.lit (.bool true)], args := [d1, d2, d3] }
  | _ => none }
def rowInvertsRow : OpenClaim := { program := "ytidmmngcijapcaagreat", sum := "5bd67dbd0becfe13342ce1785cb700aee70402ad7b878b7fcb6aa819c8f6f676", func := "wireschema/wireschemalaw28.RowInverts", spec := "rowInverts", unfollowed := true, recurses := true, loops := true, apart := false }
def RowInvertsSaid : Prop := rowInvertsRow.holds Tryz.pinned (OpenSpec.ofChange rowInvertsSpec)

/-- ITS FALSE NEIGHBOUR: 'it returns false'. Refute it at one input. -/
def rowInvertsWrong : ChangeSpec := { name := "rowInverts", fn := fun _ => fun
  | [d1, d2, d3] => { results := [.lit (.bool false)], args := [d1, d2, d3] }
  | _ => none }
def RowInvertsWrongFalsely : Prop := rowInvertsRow.holds Tryz.pinned (OpenSpec.ofChange rowInvertsWrong)

/-- 'wireschemalaw28.RowCanonical': WHATEVER THE INPUT: true; the input reads as it did. -/
def rowCanonicalSpec : ChangeSpec := { name := "rowCanonical", fn := fun _ => fun
  | [d1, d2, d3] => { results := [.lit (.bool true)], args := [d1, d2, d3] }
  | _ => none }
def rowCanonicalRow : OpenClaim := { program := "ytidmmngcijapcaagreat", sum := "5bd67dbd0becfe13342ce1785cb700aee70402ad7b878b7fcb6aa819c8f6f676", func := "wireschema/wireschemalaw28.RowCanonical", spec := "rowCanonical", unfollowed := true, recurses := true, loops := true, apart := false }
def RowCanonicalSaid : Prop := rowCanonicalRow.holds Tryz.pinned (OpenSpec.ofChange rowCanonicalSpec)

/-- ITS FALSE NEIGHBOUR: 'it returns false'. Refute it at one input. -/
def rowCanonicalWrong : ChangeSpec := { name := "rowCanonical", fn := fun _ => fun
  | [d1, d2, d3] => { results := [.lit (.bool false)], args := [d1, d2, d3] }
  | _ => none }
def RowCanonicalWrongFalsely : Prop := rowCanonicalRow.holds Tryz.pinned (OpenSpec.ofChange rowCanonicalWrong)

/-- 'wireschemalaw28.RowLimits': WHATEVER THE INPUT: true; the input reads as it did. -/
def rowLimitsSpec : ChangeSpec := { name := "rowLimits", fn := fun _ => fun
  | [d1, d2, d3] => { results := [.lit (.bool true)], args := [d1, d2, d3] }
  | _ => none }
def rowLimitsRow : OpenClaim := { program := "ytidmmngcijapcaagreat", sum := "5bd67dbd0becfe13342ce1785cb700aee70402ad7b878b7fcb6aa819c8f6f676", func := "wireschema/wireschemalaw28.RowLimits", spec := "rowLimits", unfollowed := true, recurses := true, loops := true, apart := false }
def RowLimitsSaid : Prop := rowLimitsRow.holds Tryz.pinned (OpenSpec.ofChange rowLimitsSpec)

/-- ITS FALSE NEIGHBOUR: 'it returns false'. Refute it at one input. -/
def rowLimitsWrong : ChangeSpec := { name := "rowLimits", fn := fun _ => fun
  | [d1, d2, d3] => { results := [.lit (.bool false)], args := [d1, d2, d3] }
  | _ => none }
def RowLimitsWrongFalsely : Prop := rowLimitsRow.holds Tryz.pinned (OpenSpec.ofChange rowLimitsWrong)

/-- 'wireschemalaw28.RowCuts': WHATEVER THE INPUT: true; the input reads as it did. -/
def rowCutsSpec : ChangeSpec := { name := "rowCuts", fn := fun _ => fun
  | [d1, d2, d3, d4] => { results := [.lit (.bool true)], args := [d1, d2, d3, d4] }
  | _ => none }
def rowCutsRow : OpenClaim := { program := "ytidmmngcijapcaagreat", sum := "5bd67dbd0becfe13342ce1785cb700aee70402ad7b878b7fcb6aa819c8f6f676", func := "wireschema/wireschemalaw28.RowCuts", spec := "rowCuts", unfollowed := true, recurses := true, loops := true, apart := false }
def RowCutsSaid : Prop := rowCutsRow.holds Tryz.pinned (OpenSpec.ofChange rowCutsSpec)

/-- ITS FALSE NEIGHBOUR: 'it returns false'. Refute it at one input. -/
def rowCutsWrong : ChangeSpec := { name := "rowCuts", fn := fun _ => fun
  | [d1, d2, d3, d4] => { results := [.lit (.bool false)], args := [d1, d2, d3, d4] }
  | _ => none }
def RowCutsWrongFalsely : Prop := rowCutsRow.holds Tryz.pinned (OpenSpec.ofChange rowCutsWrong)

/-- 'wireschemalaw28.RowEncodes': WHATEVER THE INPUT: true; the input reads as it did. -/
def rowEncodesSpec : ChangeSpec := { name := "rowEncodes", fn := fun _ => fun
  | [d1, d2, d3] => { results := [.lit (.bool true)], args := [d1, d2, d3] }
  | _ => none }
def rowEncodesRow : OpenClaim := { program := "ytidmmngcijapcaagreat", sum := "5bd67dbd0becfe13342ce1785cb700aee70402ad7b878b7fcb6aa819c8f6f676", func := "wireschema/wireschemalaw28.RowEncodes", spec := "rowEncodes", unfollowed := true, recurses := true, loops := true, apart := false }
def RowEncodesSaid : Prop := rowEncodesRow.holds Tryz.pinned (OpenSpec.ofChange rowEncodesSpec)

/-- ITS FALSE NEIGHBOUR: 'it returns false'. Refute it at one input. -/
def rowEncodesWrong : ChangeSpec := { name := "rowEncodes", fn := fun _ => fun
  | [d1, d2, d3] => { results := [.lit (.bool false)], args := [d1, d2, d3] }
  | _ => none }
def RowEncodesWrongFalsely : Prop := rowEncodesRow.holds Tryz.pinned (OpenSpec.ofChange rowEncodesWrong)

/- THE SECOND FORM. 'bulk': how many values and letters a reading holds, each counted each time it is reached (what is shared counts as often as it is met; a slice's spare places count too). A statement '..UptoSaid' is the law's where the arguments, and the package variables that the reading takes, are together of bulk at most 1048576: NARROWER than '..Said'. Prove '..Said' where nothing that the law and all that it calls make is longer than what came in: it says more and counts as full. Else prove '..UptoSaid'. A law counts once. -/
mutual
def uptoBulk {H : Type} : DataW H → Nat
  | .lit (.string bytes) => bytes.length + 1
  | .lit _ => 1
  | .nil => 1
  | .ptr d => uptoBulk d + 1
  | .slice elems spare => uptoBulkAll elems + uptoBulkAll spare + 1
  | .agg parts => uptoBulkAll parts + 1
  | .iface _ d => uptoBulk d + 1
  | .map entries => uptoBulkEntries entries + 1
  | .held _ => 1
def uptoBulkAll {H : Type} : List (DataW H) → Nat
  | [] => 0
  | d :: r => uptoBulk d + uptoBulkAll r
def uptoBulkEntries {H : Type} : List (Lit × DataW H) → Nat
  | [] => 0
  | x :: r => uptoBulkEntry x + uptoBulkEntries r
def uptoBulkEntry {H : Type} : Lit × DataW H → Nat
  | (.string bytes, d) => bytes.length + uptoBulk d + 1
  | (_, d) => uptoBulk d + 1
 end
def uptoSmall : (H : Type) → List (DataW H) → Bool := fun _ ds => decide (uptoBulkAll ds ≤ 1048576)
def OpenSpec.upto (s : _root_.Go.ChangeSpec) : _root_.Go.OpenSpec := { _root_.Go.OpenSpec.ofChange s with cond := some uptoSmall }

/-- 'wireschemalaw28.RowScalars', WHERE WHAT IT READS IS OF BULK AT MOST 1048576: true; the input reads as it did. -/
def rowScalarsUptoRow : OpenClaim := { program := "ytidmmngcijapcaagreat", sum := "5bd67dbd0becfe13342ce1785cb700aee70402ad7b878b7fcb6aa819c8f6f676", func := "wireschema/wireschemalaw28.RowScalars", spec := "rowScalars", unfollowed := true, recurses := true, loops := true, apart := false, narrowed := true }
def RowScalarsUptoSaid : Prop := rowScalarsUptoRow.holds Tryz.pinned (OpenSpec.upto rowScalarsSpec)

/-- 'wireschemalaw28.RowInverts', WHERE WHAT IT READS IS OF BULK AT MOST 1048576: true; the input reads as it did. -/
def rowInvertsUptoRow : OpenClaim := { program := "ytidmmngcijapcaagreat", sum := "5bd67dbd0becfe13342ce1785cb700aee70402ad7b878b7fcb6aa819c8f6f676", func := "wireschema/wireschemalaw28.RowInverts", spec := "rowInverts", unfollowed := true, recurses := true, loops := true, apart := false, narrowed := true }
def RowInvertsUptoSaid : Prop := rowInvertsUptoRow.holds Tryz.pinned (OpenSpec.upto rowInvertsSpec)

/-- 'wireschemalaw28.RowCanonical', WHERE WHAT IT READS IS OF BULK AT MOST 1048576: true; the input reads as it did. -/
def rowCanonicalUptoRow : OpenClaim := { program := "ytidmmngcijapcaagreat", sum := "5bd67dbd0becfe13342ce1785cb700aee70402ad7b878b7fcb6aa819c8f6f676", func := "wireschema/wireschemalaw28.RowCanonical", spec := "rowCanonical", unfollowed := true, recurses := true, loops := true, apart := false, narrowed := true }
def RowCanonicalUptoSaid : Prop := rowCanonicalUptoRow.holds Tryz.pinned (OpenSpec.upto rowCanonicalSpec)

/-- 'wireschemalaw28.RowLimits', WHERE WHAT IT READS IS OF BULK AT MOST 1048576: true; the input reads as it did. -/
def rowLimitsUptoRow : OpenClaim := { program := "ytidmmngcijapcaagreat", sum := "5bd67dbd0becfe13342ce1785cb700aee70402ad7b878b7fcb6aa819c8f6f676", func := "wireschema/wireschemalaw28.RowLimits", spec := "rowLimits", unfollowed := true, recurses := true, loops := true, apart := false, narrowed := true }
def RowLimitsUptoSaid : Prop := rowLimitsUptoRow.holds Tryz.pinned (OpenSpec.upto rowLimitsSpec)

/-- 'wireschemalaw28.RowCuts', WHERE WHAT IT READS IS OF BULK AT MOST 1048576: true; the input reads as it did. -/
def rowCutsUptoRow : OpenClaim := { program := "ytidmmngcijapcaagreat", sum := "5bd67dbd0becfe13342ce1785cb700aee70402ad7b878b7fcb6aa819c8f6f676", func := "wireschema/wireschemalaw28.RowCuts", spec := "rowCuts", unfollowed := true, recurses := true, loops := true, apart := false, narrowed := true }
def RowCutsUptoSaid : Prop := rowCutsUptoRow.holds Tryz.pinned (OpenSpec.upto rowCutsSpec)

/-- 'wireschemalaw28.RowEncodes', WHERE WHAT IT READS IS OF BULK AT MOST 1048576: true; the input reads as it did. -/
def rowEncodesUptoRow : OpenClaim := { program := "ytidmmngcijapcaagreat", sum := "5bd67dbd0becfe13342ce1785cb700aee70402ad7b878b7fcb6aa819c8f6f676", func := "wireschema/wireschemalaw28.RowEncodes", spec := "rowEncodes", unfollowed := true, recurses := true, loops := true, apart := false, narrowed := true }
def RowEncodesUptoSaid : Prop := rowEncodesUptoRow.holds Tryz.pinned (OpenSpec.upto rowEncodesSpec)

end Rows
end Go.Proofs.YtidmmngcijapcaaGreat
