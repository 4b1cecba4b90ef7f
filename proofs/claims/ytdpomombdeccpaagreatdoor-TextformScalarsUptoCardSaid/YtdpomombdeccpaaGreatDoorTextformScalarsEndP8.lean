/- Part 9 of the texts that prove TextformScalarsEnd. -/
import Derived.Test.YtdpomombdeccpaaGreatDoorTextformScalarsEndP3
namespace Go.Proofs.YtdpomombdeccpaaGreatDoor.Lift
open Go.RowKit
set_option linter.unusedVariables false
set_option linter.unusedSimpArgs false
set_option linter.unnecessarySimpa false
set_option linter.unusedSectionVars false
set_option maxRecDepth 100000
def tl3 : List Nat := [124, 126, 130, 131, 139, 143, 146, 147, 149, 150, 159, 161, 162, 163, 164, 165, 168, 169, 170, 171, 172, 173, 174, 176, 177]
theorem tl3_ok : tl3.all (fun g => (getFn Tryz.prog g).isSome && !isCC (cdC Tryz.prog g) && (isKn (cdC Tryz.prog g)).isNone) = true := by kernel_rfl
end Go.Proofs.YtdpomombdeccpaaGreatDoor.Lift
