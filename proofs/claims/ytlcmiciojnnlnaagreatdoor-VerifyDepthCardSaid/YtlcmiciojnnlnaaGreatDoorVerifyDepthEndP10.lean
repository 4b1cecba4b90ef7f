/- Part 11 of the texts that prove VerifyDepthEnd. -/
import Derived.Test.YtlcmiciojnnlnaaGreatDoorVerifyDepthEndP7
import Derived.Test.YtlcmiciojnnlnaaGreatDoorVerifyDepthEndP4
namespace Go.Proofs.YtlcmiciojnnlnaaGreatDoor.Lift
open Go.RowKit
set_option linter.unusedVariables false
set_option linter.unusedSimpArgs false
set_option linter.unnecessarySimpa false
set_option linter.unusedSectionVars false
set_option maxRecDepth 100000
def qb:b5l Nat:=[214,215,216,220,221,223,224,229,251,252,253,254,258,259,261,262,265,266,273,274,275,281,285,286,287,288,289,290,291,292,293,294,296,300,302,303,306,307,308,333,346,349,351,352,353,354,361,385,387,403,409]
theorem a51:qb.all (λg=>(P0 Tryz.prog g).isSome&& !Mu (BB Tryz.prog g)&&(Gs (BB Tryz.prog g)).isNone):=by kernel_rfl
end Go.Proofs.YtlcmiciojnnlnaaGreatDoor.Lift
