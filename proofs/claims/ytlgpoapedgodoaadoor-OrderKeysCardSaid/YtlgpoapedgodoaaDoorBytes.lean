/- varint.Fixed; slices.Reverse of eight bytes. -/
import Derived.Test.YtlgpoapedgodoaaDoorNorm
import Derived.Laws.BytesArg
import Derived.RegionTactic
import Derived.BigRegion
namespace Go.Proofs.YtlgpoapedgodoaaDoor
open Go.RowKit
set_option linter.unusedVariables false

@[go_sem] theorem mk8 (w : World) : (Instr.makeSlice 51 (.int .i64 8) (.int .i64 8)).run Tryd.prog w = .ok (.slice (some ⟨w.heap.size, 0, none⟩) 8 8) (w.alloc (.cells #[.int .u8 0, .int .u8 0, .int .u8 0, .int .u8 0, .int .u8 0, .int .u8 0, .int .u8 0, .int .u8 0] 5)) := by kernel_rfl

@[go_sem] theorem conv8 (x0 x1 x2 x3 x4 x5 x6 x7 : Int) (w : World) :
    (convert 51 9 (.slice (some ⟨w.heap.size, 0, none⟩) 8 8)).run Tryd.prog (w.alloc (.cells #[.int .u8 x0, .int .u8 x1, .int .u8 x2, .int .u8 x3, .int .u8 x4, .int .u8 x5, .int .u8 x6, .int .u8 x7] 5)) =
      .ok (.string (strOfNums [x0, x1, x2, x3, x4, x5, x6, x7])) (w.alloc (.cells #[.int .u8 x0, .int .u8 x1, .int .u8 x2, .int .u8 x3, .int .u8 x4, .int .u8 x5, .int .u8 x6, .int .u8 x7] 5)) := by
  have h := (box1_facts w #[.int .u8 x0, .int .u8 x1, .int .u8 x2, .int .u8 x3, .int .u8 x4, .int .u8 x5, .int .u8 x6, .int .u8 x7] 5).1
  refine run_convert_bytes_arg _ _ _ Tryd.underlying51 Tryd.underlying5 w.heap.size 0 8 8 [x0, x1, x2, x3, x4, x5, x6, x7] rfl (fun i hi => ?_) _ Tryd.underlying9
  rw [Nat.zero_add]
  match i, hi with
  | 0, _ => exact blk_cell h 0 rfl
  | 1, _ => exact blk_cell h 1 rfl
  | 2, _ => exact blk_cell h 2 rfl
  | 3, _ => exact blk_cell h 3 rfl
  | 4, _ => exact blk_cell h 4 rfl
  | 5, _ => exact blk_cell h 5 rfl
  | 6, _ => exact blk_cell h 6 rfl
  | 7, _ => exact blk_cell h 7 rfl

/-- The eight bytes of a number, the least one first. -/
def leZ (u : Int) : List Int := [u % 256, u / 256 % 256, u / 65536 % 256, u / 16777216 % 256, u / 4294967296 % 256, u / 1099511627776 % 256, u / 281474976710656 % 256, u / 72057594037927936 % 256]

set_option maxRecDepth 8000 in
set_option maxHeartbeats 2000000 in
theorem fixed_ok (u : Int) (hu : word u) (w : World) :
    Calls Tryd.prog 28 #[.int .u64 u] w fun e w' => e = .returned (.string (strOfNums (leZ u))) ∧ Below w.heap.size w w' := by
  obtain ⟨hu0, hu1⟩ := hu
  have HL : Hid (leZ u = [u % 256, u / 256 % 256, u / 65536 % 256, u / 16777216 % 256, u / 4294967296 % 256, u / 1099511627776 % 256, u / 281474976710656 % 256, u / 72057594037927936]) := Lib.hid (by
    unfold leZ; rw [show u / 72057594037927936 % 256 = u / 72057594037927936 by omega])
  rw [HL.out]
  go_enter Tryd.func28, Tryd.ntmps28
  go_wp2_with fail
  refine wp_loop_rounds 9 ?_
  rw [rounds_succ]
  go_wp2_with fail
  rw [rounds_succ]
  go_wp2_with fail
  rw [rounds_succ]
  go_wp2_with fail
  rw [rounds_succ]
  go_wp2_with fail
  rw [rounds_succ]
  go_wp2_with fail
  rw [rounds_succ]
  go_wp2_with fail
  rw [rounds_succ]
  go_wp2_with fail
  rw [rounds_succ]
  go_wp2_with fail
  rw [rounds_succ]
  go_wp2_with fail
  go_ret
  exact ⟨rfl, by go_grown⟩

set_option maxRecDepth 8000 in
set_option maxHeartbeats 2000000 in
theorem rev8_ok (x0 x1 x2 x3 x4 x5 x6 x7 : Int) (B cap : Nat) (w : World) (hcap : 8 ≤ cap)
    (c0 : w.cell? ⟨B, 0, none⟩ = some (.int .u8 x0)) (c1 : w.cell? ⟨B, 1, none⟩ = some (.int .u8 x1)) (c2 : w.cell? ⟨B, 2, none⟩ = some (.int .u8 x2)) (c3 : w.cell? ⟨B, 3, none⟩ = some (.int .u8 x3))
    (c4 : w.cell? ⟨B, 4, none⟩ = some (.int .u8 x4)) (c5 : w.cell? ⟨B, 5, none⟩ = some (.int .u8 x5)) (c6 : w.cell? ⟨B, 6, none⟩ = some (.int .u8 x6)) (c7 : w.cell? ⟨B, 7, none⟩ = some (.int .u8 x7))
    (f0 : w.frozen? ⟨B, 0, none⟩ = false) (f1 : w.frozen? ⟨B, 1, none⟩ = false) (f2 : w.frozen? ⟨B, 2, none⟩ = false) (f3 : w.frozen? ⟨B, 3, none⟩ = false) (f4 : w.frozen? ⟨B, 4, none⟩ = false) (f5 : w.frozen? ⟨B, 5, none⟩ = false) (f6 : w.frozen? ⟨B, 6, none⟩ = false) (f7 : w.frozen? ⟨B, 7, none⟩ = false) :
    Calls Tryd.prog 30 #[.slice (some ⟨B, 0, none⟩) 8 cap] w fun e w' => e = .returned (.tuple #[]) ∧ (∀ i, i < 8 → w'.cell? ⟨B, 0 + i, none⟩ = some (.int .u8 ([x7, x6, x5, x4, x3, x2, x1, x0].getD i 0))) ∧ Below B w w' := by
  go_enter Tryd.func30, Tryd.ntmps30
  go_wp2_with fail
  refine wp_loop_rounds 5 ?_
  rw [rounds_succ]
  go_wp2_with fail
  go_region
  go_wp2_with fail
  rw [rounds_succ]
  go_wp2_with fail
  go_region
  go_wp2_with fail
  rw [rounds_succ]
  go_wp2_with fail
  go_region
  go_wp2_with fail
  rw [rounds_succ]
  go_wp2_with fail
  go_region
  go_wp2_with fail
  rw [rounds_succ]
  go_wp2_with fail
  refine bodyPost_end (results_none rfl _ _ _) rfl ⟨rfl, fun i hi => ?_, by go_grown⟩
  match i, hi with
  | 0, _ => simp [go_sem, *]
  | 1, _ => simp [go_sem, *]
  | 2, _ => simp [go_sem, *]
  | 3, _ => simp [go_sem, *]
  | 4, _ => simp [go_sem, *]
  | 5, _ => simp [go_sem, *]
  | 6, _ => simp [go_sem, *]
  | 7, _ => simp [go_sem, *]
end Go.Proofs.YtlgpoapedgodoaaDoor
