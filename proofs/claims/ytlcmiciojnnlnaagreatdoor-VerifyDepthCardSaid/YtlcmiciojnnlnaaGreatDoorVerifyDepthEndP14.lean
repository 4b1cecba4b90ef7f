/- Part 15 of the texts that prove VerifyDepthEnd. -/
import Derived.Test.YtlcmiciojnnlnaaGreatDoorVerifyDepthEndP11
namespace Go.Proofs.YtlcmiciojnnlnaaGreatDoor.Lift
open Go.RowKit
set_option linter.unusedVariables false
set_option linter.unusedSimpArgs false
set_option linter.unnecessarySimpa false
set_option linter.unusedSectionVars false
set_option maxRecDepth 100000
theorem a6e:(X6 Xp V2 false (AL Xp V2 100000) 26 DR.tail ⟨[],[],[]⟩).map (λr=>W2 r.2 r.1)=some (DR.headD .nil):=by kernel_rfl
theorem a7u:(X6 Zu V2 false (AL Zu V2 100000) 9 HT.tail ⟨[],[],[]⟩).map (λr=>W2 r.2 r.1)=some (HT.headD .nil):=by kernel_rfl
theorem b2c:(X6 ZP V2 false (AL ZP V2 100000) 25 Sh.tail ⟨[],[],[]⟩).map (λr=>W2 r.2 r.1)=some (Sh.headD .nil):=by kernel_rfl
end Go.Proofs.YtlcmiciojnnlnaaGreatDoor.Lift
