/- Cmp of doubles. -/
import Derived.Test.YtlgpoapedgodoaaDoorCmpC
namespace Go.Proofs.YtlgpoapedgodoaaDoor
open Go.RowKit

theorem below_drewN {B : Nat} {a w : World} (h : Below B a w) (n : Nat) : Below B a (w.drewN n) := ⟨h.os, h.tape, h.output, h.size, h.block⟩

set_option maxRecDepth 4000 in
set_option maxHeartbeats 1000000 in
theorem scal_d (z z' : Int) (t t' : ByteArray) (l p s r l' p' s' r' : Value) (HZ : Hid (word z ∧ word z')) (w : World) :
    Calls Tryd.prog 36 #[.agg #[.int .i64 6, .int .u64 z, .string t, l, p, s, r], .agg #[.int .i64 6, .int .u64 z', .string t', l', p', s', r']] w
      fun e w' => e = .returned (.int .i64 (cmpI (placeZ z) (placeZ z'))) ∧ Below w.heap.size w w' := by
  obtain ⟨R, HR⟩ : ∃ R : Int, Hid (R = cmpI (placeZ z) (placeZ z')) := ⟨_, Lib.hid rfl⟩
  rw [← HR.out]
  go_enter Tryd.func36, Tryd.ntmps36
  go_wp2_with fail
  refine (is_ok _ _).mono ?_
  rintro e w1 ⟨rfl, rfl⟩
  rw [show decide ((1:Int) ≤ 6 ∧ (6:Int) ≤ 9) = true by decide]
  go_wp2_with fail
  refine (texty_ok _ _).mono ?_
  rintro e w1 ⟨rfl, rfl⟩
  rw [show decide ((6:Int) = 7 ∨ (6:Int) = 8) = false by decide]
  go_wp2_with fail
  go_big_quiet (first | (go_at_call 76; with_reducible exact Calls.quiet_of_same (place_ok z HZ.out.1 _)) | (go_at_call 76; with_reducible exact Calls.quiet_of_same (place_ok z' HZ.out.2 _)) | (go_at_call 75; with_reducible exact Calls.quiet_of_same (cmpU_ok (placeZ z) (placeZ z') _)))
  go_wp2_with fail
  go_ret
  refine ⟨?_, below_drewN (by go_grown) _⟩
  try rw [HR.out]
  try rfl

end Go.Proofs.YtlgpoapedgodoaaDoor
