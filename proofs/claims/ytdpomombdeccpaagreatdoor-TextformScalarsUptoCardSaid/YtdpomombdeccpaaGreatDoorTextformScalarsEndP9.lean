/- Part 10 of the texts that prove TextformScalarsEnd. -/
import Derived.Test.YtdpomombdeccpaaGreatDoorTextformScalarsEndP3
namespace Go.Proofs.YtdpomombdeccpaaGreatDoor.Lift
open Go.RowKit
set_option linter.unusedVariables false
set_option linter.unusedSimpArgs false
set_option linter.unnecessarySimpa false
set_option linter.unusedSectionVars false
set_option maxRecDepth 100000
def tl4 : List Nat := [178, 179, 190, 197, 199, 200, 202, 207, 208, 209, 210, 211, 212, 213, 214, 215, 216, 222, 240, 244, 245, 247, 249, 278, 280]
theorem tl4_ok : tl4.all (fun g => (getFn Tryz.prog g).isSome && !isCC (cdC Tryz.prog g) && (isKn (cdC Tryz.prog g)).isNone) = true := by kernel_rfl
end Go.Proofs.YtdpomombdeccpaaGreatDoor.Lift
