/- Part 13 of the texts that prove VerifyDepthEnd. -/
import Derived.Test.YtlcmiciojnnlnaaGreatDoorVerifyDepthEndP11
namespace Go.Proofs.YtlcmiciojnnlnaaGreatDoor.Lift
open Go.RowKit
set_option linter.unusedVariables false
set_option linter.unusedSimpArgs false
set_option linter.unnecessarySimpa false
set_option linter.unusedSectionVars false
set_option maxRecDepth 100000
theorem i5:(X6 ZB V2 false (AL ZB V2 100000) 23 CH.tail ⟨[],[],[]⟩).map (λr=>W2 r.2 r.1)=some (CH.headD .nil):=by kernel_rfl
theorem a75:(X6 Xv V2 false (AL Xv V2 100000) 13 Es.tail ⟨[],[],[]⟩).map (λr=>W2 r.2 r.1)=some (Es.headD .nil):=by kernel_rfl
theorem xz:(X6 bu V2 false (AL bu V2 100000) 11 kn8.tail ⟨[],[],[]⟩).map (λr=>W2 r.2 r.1)=some (kn8.headD .nil):=by kernel_rfl
end Go.Proofs.YtlcmiciojnnlnaaGreatDoor.Lift
