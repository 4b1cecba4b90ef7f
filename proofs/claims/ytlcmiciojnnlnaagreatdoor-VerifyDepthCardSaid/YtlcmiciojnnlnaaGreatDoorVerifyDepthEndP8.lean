/- Part 9 of the texts that prove VerifyDepthEnd. -/
import Derived.Test.YtlcmiciojnnlnaaGreatDoorVerifyDepthEndP7
import Derived.Test.YtlcmiciojnnlnaaGreatDoorVerifyDepthEndP4
namespace Go.Proofs.YtlcmiciojnnlnaaGreatDoor.Lift
open Go.RowKit
set_option linter.unusedVariables false
set_option linter.unusedSimpArgs false
set_option linter.unnecessarySimpa false
set_option linter.unusedSectionVars false
set_option maxRecDepth 100000
def tl1:b5l Nat:=[6,7,9,11,13,14,15,23,24,25,26,30,31,32,33,40,41,42,43,45,46,47,53,54,55,56,57,58,59,60,70,71,72,73,74,75,76,77,88,89,92,93,94,95,96,97,104,106,108,109,110,111,112]
theorem wh:tl1.all (λg=>(P0 Tryz.prog g).isSome&& !Mu (BB Tryz.prog g)&&(Gs (BB Tryz.prog g)).isNone):=by kernel_rfl
end Go.Proofs.YtlcmiciojnnlnaaGreatDoor.Lift
