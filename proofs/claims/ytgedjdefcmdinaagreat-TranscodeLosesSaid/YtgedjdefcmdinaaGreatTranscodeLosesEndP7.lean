/- Part 8 of the texts that prove TranscodeLosesEnd. -/
import Derived.Test.YtgedjdefcmdinaaGreatTranscodeLosesEndP5
import Derived.Test.YtgedjdefcmdinaaGreatTranscodeLosesEndP4
import Derived.Test.YtgedjdefcmdinaaGreatTranscodeLosesEndP3
import Derived.Test.YtgedjdefcmdinaaGreatTranscodeLosesEndP6
namespace Go.Proofs.YtgedjdefcmdinaaGreat.Lift
open Go.RowKit
set_option linter.unusedVariables false
set_option linter.unusedSimpArgs false
set_option linter.unnecessarySimpa false
set_option linter.unusedSectionVars false
set_option maxRecDepth 100000
theorem tok_kn {P : Program} {T : Tbl} {g : Nat} {l : List AV} (h : KnOK P g l) (t : TblOK P T) : TblOK P ((g, 0, knC l, []) :: T) := by
  intro f y hf
  rcases List.mem_cons.1 hf with e | hf
  · cases e; exact h
  · exact t f y hf
theorem tok0 : TblOK Tryz.prog tbk0 := tbl_ok
theorem kn0_ok : KnOK Tryz.prog 10 kn0 := ⟨by kernel_rfl, run_closed tok0 100000 kn0_run (by kernel_rfl)⟩
theorem tok1 : TblOK Tryz.prog tbk1 := tok_kn kn0_ok <| tbl_ok
theorem kn1_ok : KnOK Tryz.prog 11 kn1 := ⟨by kernel_rfl, run_closed tok1 100000 kn1_run (by kernel_rfl)⟩
theorem tok2 : TblOK Tryz.prog tbk2 := tok_kn kn0_ok <| tok_kn kn1_ok <| tbl_ok
theorem kn2_ok : KnOK Tryz.prog 11 kn2 := ⟨by kernel_rfl, run_closed tok2 100000 kn2_run (by kernel_rfl)⟩
theorem tok3 : TblOK Tryz.prog tbk3 := tok_kn kn0_ok <| tok_kn kn1_ok <| tok_kn kn2_ok <| tbl_ok
theorem kn3_ok : KnOK Tryz.prog 12 kn3 := ⟨by kernel_rfl, run_closed tok3 100000 kn3_run (by kernel_rfl)⟩
theorem tok4 : TblOK Tryz.prog tbk4 := tok_kn kn0_ok <| tok_kn kn1_ok <| tok_kn kn2_ok <| tok_kn kn3_ok <| tbl_ok
theorem kn4_ok : KnOK Tryz.prog 10 kn4 := ⟨by kernel_rfl, run_closed tok4 100000 kn4_run (by kernel_rfl)⟩
theorem tok5 : TblOK Tryz.prog tbk5 := tok_kn kn0_ok <| tok_kn kn1_ok <| tok_kn kn2_ok <| tok_kn kn3_ok <| tok_kn kn4_ok <| tbl_ok
theorem kn5_ok : KnOK Tryz.prog 10 kn5 := ⟨by kernel_rfl, run_closed tok5 100000 kn5_run (by kernel_rfl)⟩
theorem tok6 : TblOK Tryz.prog tbk6 := tok_kn kn0_ok <| tok_kn kn1_ok <| tok_kn kn2_ok <| tok_kn kn3_ok <| tok_kn kn4_ok <| tok_kn kn5_ok <| tbl_ok
theorem kn6_ok : KnOK Tryz.prog 13 kn6 := ⟨by kernel_rfl, run_closed tok6 100000 kn6_run (by kernel_rfl)⟩
theorem tok7 : TblOK Tryz.prog tbk7 := tok_kn kn0_ok <| tok_kn kn1_ok <| tok_kn kn2_ok <| tok_kn kn3_ok <| tok_kn kn4_ok <| tok_kn kn5_ok <| tok_kn kn6_ok <| tbl_ok
theorem kn7_ok : KnOK Tryz.prog 12 kn7 := ⟨by kernel_rfl, run_closed tok7 100000 kn7_run (by kernel_rfl)⟩
theorem tok8 : TblOK Tryz.prog tbk8 := tok_kn kn0_ok <| tok_kn kn1_ok <| tok_kn kn2_ok <| tok_kn kn3_ok <| tok_kn kn4_ok <| tok_kn kn5_ok <| tok_kn kn6_ok <| tok_kn kn7_ok <| tbl_ok
theorem kn8_ok : KnOK Tryz.prog 12 kn8 := ⟨by kernel_rfl, run_closed tok8 100000 kn8_run (by kernel_rfl)⟩
theorem tok9 : TblOK Tryz.prog tbk9 := tok_kn kn0_ok <| tok_kn kn1_ok <| tok_kn kn2_ok <| tok_kn kn3_ok <| tok_kn kn4_ok <| tok_kn kn5_ok <| tok_kn kn6_ok <| tok_kn kn7_ok <| tok_kn kn8_ok <| tbl_ok
theorem kn9_ok : KnOK Tryz.prog 14 kn9 := ⟨by kernel_rfl, run_closed tok9 100000 kn9_run (by kernel_rfl)⟩
theorem tok10 : TblOK Tryz.prog tbk10 := tok_kn kn0_ok <| tok_kn kn1_ok <| tok_kn kn2_ok <| tok_kn kn3_ok <| tok_kn kn4_ok <| tok_kn kn5_ok <| tok_kn kn6_ok <| tok_kn kn7_ok <| tok_kn kn8_ok <| tok_kn kn9_ok <| tbl_ok
def tblK : Tbl := tbk10
theorem tblK_ok : TblOK Tryz.prog tblK := tok10
theorem awake_run : (fnAt tblK mode0 false (evC tblK mode0 100000) 5 [] ⟨[], [], []⟩).map (fun r => outV r.2 r.1) = some (.v (.bool true)) := by kernel_rfl
theorem awake_pure : PureC Tryz.prog [] 5 [] fun b => b = .v (.bool true) := run_closed tblK_ok 100000 awake_run rfl
theorem awake_is : law34_awake true := by
 have h := awake_pure
 exact ⟨h.1, fun w outer cargs ho hg hr => (h.2 w outer cargs ho hg hr).mono fun e w' ⟨av, x, a, b, c, d⟩ => ⟨av, x, a, b, c, by rw [d]; rfl⟩⟩
end Go.Proofs.YtgedjdefcmdinaaGreat.Lift
