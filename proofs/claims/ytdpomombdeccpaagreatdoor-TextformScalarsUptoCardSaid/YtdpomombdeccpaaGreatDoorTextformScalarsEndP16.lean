/- Part 17 of the texts that prove TextformScalarsEnd. -/
import Derived.Test.YtdpomombdeccpaaGreatDoorTextformScalarsEndP10
namespace Go.Proofs.YtdpomombdeccpaaGreatDoor.Lift
open Go.RowKit
set_option linter.unusedVariables false
set_option linter.unusedSimpArgs false
set_option linter.unnecessarySimpa false
set_option linter.unusedSectionVars false
set_option maxRecDepth 100000
theorem kn4_run : (fnAt tbk4 mode0 false (evC tbk4 mode0 100000) 24 kn4 ⟨[], [], glP⟩).map (fun r => outV r.2 r.1) = some kr4 := by kernel_rfl
end Go.Proofs.YtdpomombdeccpaaGreatDoor.Lift
