/- The reference's rank of a scalar. -/
import Derived.Test.YtlgpoapedgodoaaDoorCmpE
namespace Go.Proofs.YtlgpoapedgodoaaDoor
open Go.RowKit

/-- The rank of a scalar that is no text. -/
def rankZ (k z : Int) : Int := if k = 2 ∨ k = 3 then (if z < 9223372036854775808 then z + 9223372036854775808 else z - 9223372036854775808) else if k = 6 then placeZ z else z

set_option maxRecDepth 4000 in
set_option maxHeartbeats 1000000 in
theorem rrank_s (k z : Int) (t : ByteArray) (l p s r : Value) (hz : word z) (h : decide (k = 2 ∨ k = 3) = true) (w : World) :
    Calls Tryd.prog 79 #[.agg #[.int .i64 k, .int .u64 z, .string t, l, p, s, r]] w
      fun e w' => e = .returned (.int .u64 (rankZ k z)) ∧ Below w.heap.size w w' := by
  have HK : Hid (k = 2 ∨ k = 3) := Lib.hid (of_decide_eq_true h)
  obtain ⟨R, HR⟩ : ∃ R : Int, Hid (R = rankZ k z) := ⟨_, Lib.hid rfl⟩
  rw [← HR.out]
  obtain ⟨h0, h1⟩ := hz
  go_enter Tryd.func79, Tryd.ntmps79
  go_wp2_with fail
  refine (signed_ok _ _).mono ?_
  rintro e w1 ⟨rfl, rfl⟩
  rw [h]
  go_wp2_with fail
  go_ret
  refine ⟨?_, by go_grown⟩
  rw [HR.out]
  unfold rankZ
  rw [if_pos HK.out]
  have e : IntKind.u64.wrap (z + 9223372036854775808) = (if z < 9223372036854775808 then z + 9223372036854775808 else z - 9223372036854775808) := by
    have e1 : IntKind.u64.wrap (z + 9223372036854775808) = (z + 9223372036854775808) % 18446744073709551616 := by simp [IntKind.wrap, IntKind.signed, IntKind.bits]
    rw [e1]
    split <;> omega
  rw [← e]
  rfl

set_option maxRecDepth 4000 in
set_option maxHeartbeats 1000000 in
theorem rrank_o (k z : Int) (t : ByteArray) (l p s r : Value) (h : decide (k = 2 ∨ k = 3) = false) (h6 : (k != 6) = true) (w : World) :
    Calls Tryd.prog 79 #[.agg #[.int .i64 k, .int .u64 z, .string t, l, p, s, r]] w
      fun e w' => e = .returned (.int .u64 (rankZ k z)) ∧ Below w.heap.size w w' := by
  rw [show rankZ k z = z by simp_all [rankZ]]
  go_enter Tryd.func79, Tryd.ntmps79
  go_wp2_with fail
  refine (signed_ok _ _).mono ?_
  rintro e w1 ⟨rfl, rfl⟩
  rw [h]
  go_wp2_with fail
  go_ret
  exact ⟨rfl, by go_grown⟩

set_option maxRecDepth 4000 in
set_option maxHeartbeats 1000000 in
theorem rrank_d (z : Int) (t : ByteArray) (l p s r : Value) (hz : word z) (w : World) :
    Calls Tryd.prog 79 #[.agg #[.int .i64 6, .int .u64 z, .string t, l, p, s, r]] w
      fun e w' => e = .returned (.int .u64 (rankZ 6 z)) ∧ Below w.heap.size w w' := by
  rw [show rankZ 6 z = placeZ z by simp [rankZ]]
  have HZ : Hid (word z) := Lib.hid hz
  obtain ⟨h0, h1⟩ := hz
  obtain ⟨C, HC⟩ : ∃ C, Hid (C = classZ z) := ⟨_, Lib.hid rfl⟩
  obtain ⟨R, HR⟩ : ∃ R : Int, Hid (R = placeZ z) := ⟨_, Lib.hid rfl⟩
  rw [← HR.out]
  go_enter Tryd.func79, Tryd.ntmps79
  go_wp2_with fail
  refine (signed_ok _ _).mono ?_
  rintro e w1 ⟨rfl, rfl⟩
  rw [show decide ((6:Int) = 2 ∨ (6:Int) = 3) = false by decide]
  go_wp2_with fail
  refine (rclass_ok _ HZ.out _).mono ?_
  rintro e w1 ⟨rfl, rfl⟩
  rw [← HC.out]
  go_wp2_with fail
  all_goals first | (exfalso; omega) | skip
  all_goals
    go_ret
    refine ⟨?_, by go_grown⟩
    have hc := HC.out
    rw [HR.out]
    clear HC HR HZ
    unfold classZ at hc
    unfold placeZ
    have hn : (C == 0) = decide (9218868437227405312 < z % 9223372036854775808) := by
      rw [hc]
      repeat' split
      all_goals simp_all
    have e1 : ∀ x : Int, IntKind.u64.wrap x = x % 18446744073709551616 := by intro x; simp [IntKind.wrap, IntKind.signed, IntKind.bits]
    simp [hn, e1] at *
    simp_all
    try omega
end Go.Proofs.YtlgpoapedgodoaaDoor
