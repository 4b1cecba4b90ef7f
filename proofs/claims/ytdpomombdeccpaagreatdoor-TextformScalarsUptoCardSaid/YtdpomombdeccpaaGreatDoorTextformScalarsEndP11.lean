/- Part 12 of the texts that prove TextformScalarsEnd. -/
import Derived.Test.YtdpomombdeccpaaGreatDoorTextformScalarsEndP10
namespace Go.Proofs.YtdpomombdeccpaaGreatDoor.Lift
open Go.RowKit
set_option linter.unusedVariables false
set_option linter.unusedSimpArgs false
set_option linter.unnecessarySimpa false
set_option linter.unusedSectionVars false
set_option maxRecDepth 100000
theorem awake_run : (fnAt tbk5 mode0 false (evC tbk5 mode0 100000) 6 [] ⟨[], [], glP⟩).map (fun r => outV r.2 r.1) = some (.v (.bool true)) := by kernel_rfl
end Go.Proofs.YtdpomombdeccpaaGreatDoor.Lift
