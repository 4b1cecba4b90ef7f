/- Part 8 of the texts that prove TextformScalarsEnd. -/
import Derived.Test.YtdpomombdeccpaaGreatDoorTextformScalarsEndP3
namespace Go.Proofs.YtdpomombdeccpaaGreatDoor.Lift
open Go.RowKit
set_option linter.unusedVariables false
set_option linter.unusedSimpArgs false
set_option linter.unnecessarySimpa false
set_option linter.unusedSectionVars false
set_option maxRecDepth 100000
def tl2 : List Nat := [60, 61, 65, 72, 73, 74, 78, 82, 83, 84, 85, 110, 111, 112, 113, 114, 115, 116, 117, 118, 119, 120, 121, 122, 123]
theorem tl2_ok : tl2.all (fun g => (getFn Tryz.prog g).isSome && !isCC (cdC Tryz.prog g) && (isKn (cdC Tryz.prog g)).isNone) = true := by kernel_rfl
end Go.Proofs.YtdpomombdeccpaaGreatDoor.Lift
