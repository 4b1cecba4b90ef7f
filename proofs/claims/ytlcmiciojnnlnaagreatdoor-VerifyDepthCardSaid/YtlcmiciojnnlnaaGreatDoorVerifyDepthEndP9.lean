/- Part 10 of the texts that prove VerifyDepthEnd. -/
import Derived.Test.YtlcmiciojnnlnaaGreatDoorVerifyDepthEndP7
import Derived.Test.YtlcmiciojnnlnaaGreatDoorVerifyDepthEndP4
namespace Go.Proofs.YtlcmiciojnnlnaaGreatDoor.Lift
open Go.RowKit
set_option linter.unusedVariables false
set_option linter.unusedSimpArgs false
set_option linter.unnecessarySimpa false
set_option linter.unusedSectionVars false
set_option maxRecDepth 100000
def qa:b5l Nat:=[113,114,115,116,117,118,119,120,121,124,125,126,127,129,130,131,149,152,153,154,156,157,159,160,161,163,164,165,171,173,175,178,179,180,181,183,184,185,186,187,191,193,195,196,197,201,203,204,208,209,211,212,213]
theorem wC:qa.all (λg=>(P0 Tryz.prog g).isSome&& !Mu (BB Tryz.prog g)&&(Gs (BB Tryz.prog g)).isNone):=by kernel_rfl
end Go.Proofs.YtlcmiciojnnlnaaGreatDoor.Lift
