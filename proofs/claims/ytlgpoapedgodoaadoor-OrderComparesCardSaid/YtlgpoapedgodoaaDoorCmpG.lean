/- The reference's Cmp of scalars. -/
import Derived.Test.YtlgpoapedgodoaaDoorCmpF
namespace Go.Proofs.YtlgpoapedgodoaaDoor
open Go.RowKit

set_option maxRecDepth 4000 in
set_option maxHeartbeats 1000000 in
theorem rscal_lt (k z k' z' : Int) (t t' : ByteArray) (l p s r l' p' s' r' : Value) (h : decide (k < k') = true) (w : World) :
    Calls Tryd.prog 54 #[.agg #[.int .i64 k, .int .u64 z, .string t, l, p, s, r], .agg #[.int .i64 k', .int .u64 z', .string t', l', p', s', r']] w
      fun e w' => e = .returned (.int .i64 (-1)) ∧ Below w.heap.size w w' := by
  go_enter Tryd.func54, Tryd.ntmps54
  go_wp2_with fail
  all_goals first | (exfalso; simp_all; omega) | skip
  go_ret
  exact ⟨rfl, by go_grown⟩

set_option maxRecDepth 4000 in
set_option maxHeartbeats 1000000 in
theorem rscal_gt (k z k' z' : Int) (t t' : ByteArray) (l p s r l' p' s' r' : Value) (h : decide (k < k') = false) (h2 : decide (k' < k) = true) (w : World) :
    Calls Tryd.prog 54 #[.agg #[.int .i64 k, .int .u64 z, .string t, l, p, s, r], .agg #[.int .i64 k', .int .u64 z', .string t', l', p', s', r']] w
      fun e w' => e = .returned (.int .i64 1) ∧ Below w.heap.size w w' := by
  go_enter Tryd.func54, Tryd.ntmps54
  go_wp2_with fail
  all_goals first | (exfalso; simp_all; omega) | skip
  go_ret
  exact ⟨rfl, by go_grown⟩

set_option maxRecDepth 4000 in
set_option maxHeartbeats 1000000 in
theorem rscal_not (k z z' : Int) (t t' : ByteArray) (l p s r l' p' s' r' : Value) (h : decide (1 ≤ k ∧ k ≤ 9) = false) (w : World) :
    Calls Tryd.prog 54 #[.agg #[.int .i64 k, .int .u64 z, .string t, l, p, s, r], .agg #[.int .i64 k, .int .u64 z', .string t', l', p', s', r']] w
      fun e w' => e = .returned (.int .i64 0) ∧ Below w.heap.size w w' := by
  have hk : decide (k < k) = false := by simp
  go_enter Tryd.func54, Tryd.ntmps54
  go_wp2_with fail
  refine (ris_ok _ _).mono ?_
  rintro e w1 ⟨rfl, rfl⟩
  rw [h]
  go_wp2_with fail
  go_ret
  exact ⟨rfl, by go_grown⟩

set_option maxRecDepth 4000 in
set_option maxHeartbeats 1000000 in
theorem rscal_tlt (k z z' : Int) (t t' : ByteArray) (l p s r l' p' s' r' : Value) (h : decide (1 ≤ k ∧ k ≤ 9) = true) (h2 : decide (k = 7 ∨ k = 8) = true) (h3 : Op.bytesLess t.toList t'.toList = true) (w : World) :
    Calls Tryd.prog 54 #[.agg #[.int .i64 k, .int .u64 z, .string t, l, p, s, r], .agg #[.int .i64 k, .int .u64 z', .string t', l', p', s', r']] w
      fun e w' => e = .returned (.int .i64 (-1)) ∧ Below w.heap.size w w' := by
  have hk : decide (k < k) = false := by simp
  go_enter Tryd.func54, Tryd.ntmps54
  go_wp2_with fail
  refine (ris_ok _ _).mono ?_
  rintro e w1 ⟨rfl, rfl⟩
  rw [h]
  go_wp2_with fail
  refine (rtexts_ok _ _).mono ?_
  rintro e w1 ⟨rfl, rfl⟩
  rw [h2]
  go_wp2_with fail
  go_ret
  exact ⟨rfl, by go_grown⟩

set_option maxRecDepth 4000 in
set_option maxHeartbeats 1000000 in
theorem rscal_tgt (k z z' : Int) (t t' : ByteArray) (l p s r l' p' s' r' : Value) (h : decide (1 ≤ k ∧ k ≤ 9) = true) (h2 : decide (k = 7 ∨ k = 8) = true) (h3 : Op.bytesLess t.toList t'.toList = false) (h4 : (!(t.toList == t'.toList)) = true) (w : World) :
    Calls Tryd.prog 54 #[.agg #[.int .i64 k, .int .u64 z, .string t, l, p, s, r], .agg #[.int .i64 k, .int .u64 z', .string t', l', p', s', r']] w
      fun e w' => e = .returned (.int .i64 (1)) ∧ Below w.heap.size w w' := by
  have hk : decide (k < k) = false := by simp
  go_enter Tryd.func54, Tryd.ntmps54
  go_wp2_with fail
  refine (ris_ok _ _).mono ?_
  rintro e w1 ⟨rfl, rfl⟩
  rw [h]
  go_wp2_with fail
  refine (rtexts_ok _ _).mono ?_
  rintro e w1 ⟨rfl, rfl⟩
  rw [h2]
  go_wp2_with fail
  refine (rtexts_ok _ _).mono ?_
  rintro e w1 ⟨rfl, rfl⟩
  rw [h2]
  go_wp2_with fail
  go_ret
  exact ⟨rfl, by go_grown⟩

set_option maxRecDepth 4000 in
set_option maxHeartbeats 1000000 in
theorem rscal_teq (k z z' : Int) (t t' : ByteArray) (l p s r l' p' s' r' : Value) (h : decide (1 ≤ k ∧ k ≤ 9) = true) (h2 : decide (k = 7 ∨ k = 8) = true) (h3 : Op.bytesLess t.toList t'.toList = false) (h4 : (!(t.toList == t'.toList)) = false) (w : World) :
    Calls Tryd.prog 54 #[.agg #[.int .i64 k, .int .u64 z, .string t, l, p, s, r], .agg #[.int .i64 k, .int .u64 z', .string t', l', p', s', r']] w
      fun e w' => e = .returned (.int .i64 (0)) ∧ Below w.heap.size w w' := by
  have hk : decide (k < k) = false := by simp
  go_enter Tryd.func54, Tryd.ntmps54
  go_wp2_with fail
  refine (ris_ok _ _).mono ?_
  rintro e w1 ⟨rfl, rfl⟩
  rw [h]
  go_wp2_with fail
  refine (rtexts_ok _ _).mono ?_
  rintro e w1 ⟨rfl, rfl⟩
  rw [h2]
  go_wp2_with fail
  refine (rtexts_ok _ _).mono ?_
  rintro e w1 ⟨rfl, rfl⟩
  rw [h2]
  go_wp2_with fail
  refine (rtexts_ok _ _).mono ?_
  rintro e w1 ⟨rfl, rfl⟩
  rw [h2]
  go_wp2_with fail
  go_ret
  exact ⟨rfl, by go_grown⟩
end Go.Proofs.YtlgpoapedgodoaaDoor
