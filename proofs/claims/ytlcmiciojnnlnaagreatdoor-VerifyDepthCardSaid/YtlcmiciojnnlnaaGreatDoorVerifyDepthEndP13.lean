/- Part 14 of the texts that prove VerifyDepthEnd. -/
import Derived.Test.YtlcmiciojnnlnaaGreatDoorVerifyDepthEndP11
namespace Go.Proofs.YtlcmiciojnnlnaaGreatDoor.Lift
open Go.RowKit
set_option linter.unusedVariables false
set_option linter.unusedSimpArgs false
set_option linter.unnecessarySimpa false
set_option linter.unusedSectionVars false
set_option maxRecDepth 100000
theorem a4i:(X6 ZC V2 false (AL ZC V2 100000) 13 Cm.tail ⟨[],[],[]⟩).map (λr=>W2 r.2 r.1)=some (Cm.headD .nil):=by kernel_rfl
theorem sh:(X6 ZV V2 false (AL ZV V2 100000) 7 GI.tail ⟨[],[],[]⟩).map (λr=>W2 r.2 r.1)=some (GI.headD .nil):=by kernel_rfl
theorem rh:(X6 dO V2 false (AL dO V2 100000) 23 Qx.tail ⟨[],[],[]⟩).map (λr=>W2 r.2 r.1)=some (Qx.headD .nil):=by kernel_rfl
end Go.Proofs.YtlcmiciojnnlnaaGreatDoor.Lift
