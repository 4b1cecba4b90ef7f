/- Part 16 of the texts that prove TextformScalarsEnd. -/
import Derived.Test.YtdpomombdeccpaaGreatDoorTextformScalarsEndP10
namespace Go.Proofs.YtdpomombdeccpaaGreatDoor.Lift
open Go.RowKit
set_option linter.unusedVariables false
set_option linter.unusedSimpArgs false
set_option linter.unnecessarySimpa false
set_option linter.unusedSectionVars false
set_option maxRecDepth 100000
theorem kn3_run : (fnAt tbk3 mode0 false (evC tbk3 mode0 100000) 24 kn3 ⟨[], [], glP⟩).map (fun r => outV r.2 r.1) = some kr3 := by kernel_rfl
end Go.Proofs.YtdpomombdeccpaaGreatDoor.Lift
