/- Part 7 of the texts that prove TextformScalarsEnd. -/
import Derived.Test.YtdpomombdeccpaaGreatDoorTextformScalarsEndP3
namespace Go.Proofs.YtdpomombdeccpaaGreatDoor.Lift
open Go.RowKit
set_option linter.unusedVariables false
set_option linter.unusedSimpArgs false
set_option linter.unnecessarySimpa false
set_option linter.unusedSectionVars false
set_option maxRecDepth 100000
def tl1 : List Nat := [6, 7, 9, 11, 12, 15, 24, 25, 26, 27, 28, 29, 30, 31, 33, 35, 36, 37, 39, 40, 55, 56, 57, 58, 59]
theorem tl1_ok : tl1.all (fun g => (getFn Tryz.prog g).isSome && !isCC (cdC Tryz.prog g) && (isKn (cdC Tryz.prog g)).isNone) = true := by kernel_rfl
end Go.Proofs.YtdpomombdeccpaaGreatDoor.Lift
