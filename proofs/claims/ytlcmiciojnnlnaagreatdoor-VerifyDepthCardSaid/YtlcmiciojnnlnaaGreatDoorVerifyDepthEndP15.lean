/- Part 16 of the texts that prove VerifyDepthEnd. -/
import Derived.Test.YtlcmiciojnnlnaaGreatDoorVerifyDepthEndP11
namespace Go.Proofs.YtlcmiciojnnlnaaGreatDoor.Lift
open Go.RowKit
set_option linter.unusedVariables false
set_option linter.unusedSimpArgs false
set_option linter.unnecessarySimpa false
set_option linter.unusedSectionVars false
set_option maxRecDepth 100000
theorem uM:(X6 Yq V2 false (AL Yq V2 100000) 7 EG.tail ⟨[],[],[]⟩).map (λr=>W2 r.2 r.1)=some (EG.headD .nil):=by kernel_rfl
theorem ua:(X6 bg V2 false (AL bg V2 100000) 13 Kj.tail ⟨[],[],[]⟩).map (λr=>W2 r.2 r.1)=some (Kj.headD .nil):=by kernel_rfl
end Go.Proofs.YtlcmiciojnnlnaaGreatDoor.Lift
