/- Part 7 of the texts that prove TranscodeLosesEnd. -/
import Derived.Test.YtgedjdefcmdinaaGreatTranscodeLosesEndP5
import Derived.Test.YtgedjdefcmdinaaGreatTranscodeLosesEndP4
import Derived.Test.YtgedjdefcmdinaaGreatTranscodeLosesEndP3
namespace Go.Proofs.YtgedjdefcmdinaaGreat.Lift
open Go.RowKit
set_option linter.unusedVariables false
set_option linter.unusedSimpArgs false
set_option linter.unnecessarySimpa false
set_option linter.unusedSectionVars false
set_option maxRecDepth 100000
theorem awake_run : (fnAt tbl mode0 false (evC tbl mode0 100000) 5 [] ⟨[], [], []⟩).map (fun r => outV r.2 r.1) = some (.v (.bool true)) := by kernel_rfl
theorem awake_is : law34_awake true := by
 have h := run_closed (P := Tryz.prog) tbl_ok 100000 awake_run rfl
 exact ⟨h.1, fun w outer cargs ho hg hr => (h.2 w outer cargs ho hg hr).mono fun e w' ⟨av, x, a, b, c, d⟩ => ⟨av, x, a, b, c, by rw [d]; rfl⟩⟩
end Go.Proofs.YtgedjdefcmdinaaGreat.Lift
