/- Part 15 of the texts that prove TextformScalarsEnd. -/
import Derived.Test.YtdpomombdeccpaaGreatDoorTextformScalarsEndP10
namespace Go.Proofs.YtdpomombdeccpaaGreatDoor.Lift
open Go.RowKit
set_option linter.unusedVariables false
set_option linter.unusedSimpArgs false
set_option linter.unnecessarySimpa false
set_option linter.unusedSectionVars false
set_option maxRecDepth 100000
theorem kn2_run : (fnAt tbk2 mode0 false (evC tbk2 mode0 100000) 9 kn2 ⟨[], [], glP⟩).map (fun r => outV r.2 r.1) = some kr2 := by kernel_rfl
end Go.Proofs.YtdpomombdeccpaaGreatDoor.Lift
