/- The reference's eight bytes of a number. -/
import Derived.Test.YtlgpoapedgodoaaDoorKeyB
namespace Go.Proofs.YtlgpoapedgodoaaDoor
open Go.RowKit
set_option linter.unusedVariables false

@[go_sem] theorem conv1 (x0 : Int) (w : World) :
    (convert 51 9 (.slice (some ⟨w.heap.size, 0, none⟩) 1 1)).run Tryd.prog (w.alloc (.cells #[.int .u8 x0] 5)) = .ok (.string (strOfNums [x0])) (w.alloc (.cells #[.int .u8 x0] 5)) := by
  have h := (box1_facts w #[.int .u8 x0] 5).1
  refine run_convert_bytes_arg _ _ _ Tryd.underlying51 Tryd.underlying5 w.heap.size 0 1 1 [x0] rfl (fun i hi => ?_) _ Tryd.underlying9
  rw [Nat.zero_add]
  match i, hi with
  | 0, _ => exact blk_cell h 0 rfl

@[go_sem] theorem conv1' (x0 : Int) (w : World) (n : Nat) (h : n = w.heap.size) :
    (convert 51 9 (.slice (some ⟨n, 0, none⟩) 1 1)).run Tryd.prog (w.alloc (.cells #[.int .u8 x0] 5)) = .ok (.string (strOfNums [x0])) (w.alloc (.cells #[.int .u8 x0] 5)) := by
  subst h; exact conv1 x0 w

/-- The eight bytes of a number, the most significant one first, one behind the other. -/
def eightB (u : Int) : ByteArray := revB (strOfNums (leZ u))

theorem eight_eq (u : Int) : eightB u = (strOfNums [u / 256 / 256 / 256 / 256 / 256 / 256 / 256 % 256] ++ (strOfNums [u / 256 / 256 / 256 / 256 / 256 / 256 % 256] ++ (strOfNums [u / 256 / 256 / 256 / 256 / 256 % 256] ++ (strOfNums [u / 256 / 256 / 256 / 256 % 256] ++ (strOfNums [u / 256 / 256 / 256 % 256] ++ (strOfNums [u / 256 / 256 % 256] ++ (strOfNums [u / 256 % 256] ++ (strOfNums [u % 256] ++ ⟨#[]⟩)))))))) := by
  have d : leZ u = [u % 256, u / 256 % 256, u / 256 / 256 % 256, u / 256 / 256 / 256 % 256, u / 256 / 256 / 256 / 256 % 256, u / 256 / 256 / 256 / 256 / 256 % 256, u / 256 / 256 / 256 / 256 / 256 / 256 % 256, u / 256 / 256 / 256 / 256 / 256 / 256 / 256 % 256] := by
    unfold leZ
    rw [show u / 65536 = u / 256 / 256 by omega, show u / 16777216 = u / 256 / 256 / 256 by omega, show u / 4294967296 = u / 256 / 256 / 256 / 256 by omega, show u / 1099511627776 = u / 256 / 256 / 256 / 256 / 256 by omega,
      show u / 281474976710656 = u / 256 / 256 / 256 / 256 / 256 / 256 by omega, show u / 72057594037927936 = u / 256 / 256 / 256 / 256 / 256 / 256 / 256 by omega]
  unfold eightB
  rw [d]
  apply ByteArray.ext
  simp [strOfNums, revB, ByteArray.data_append]

set_option maxRecDepth 8000 in
set_option maxHeartbeats 4000000 in
theorem eight_ok (u : Int) (hu : word u) (w : World) :
    Calls Tryd.prog 32 #[.int .u64 u] w fun e w' => e = .returned (.string (eightB u)) ∧ Below w.heap.size w w' := by
  obtain ⟨hu0, hu1⟩ := hu
  obtain ⟨R, HR⟩ : ∃ R, Hid (R = eightB u) := ⟨_, Lib.hid rfl⟩
  rw [← HR.out]
  have hz : ∀ xs, (strOfNums xs).size = xs.length := strOfNums_size
  go_enter Tryd.func32, Tryd.ntmps32
  go_wp2_with fail
  refine wp_loop_rounds 9 ?_
  rw [rounds_succ]
  go_wp2_with fail
  rw [rounds_succ]
  go_wp2_with fail
  rw [rounds_succ]
  go_wp2_with fail
  rw [rounds_succ]
  go_wp2_with fail
  rw [rounds_succ]
  go_wp2_with fail
  rw [rounds_succ]
  go_wp2_with fail
  rw [rounds_succ]
  go_wp2_with fail
  rw [rounds_succ]
  go_wp2_with fail
  rw [rounds_succ]
  go_wp2_with fail
  go_ret
  refine ⟨?_, by go_grown⟩
  rw [HR.out, eight_eq]
  rfl
end Go.Proofs.YtlgpoapedgodoaaDoor
