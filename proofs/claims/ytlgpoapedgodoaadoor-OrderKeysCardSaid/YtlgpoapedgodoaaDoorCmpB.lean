/- Contracts of the scalar package's small functions and of the reference's. -/
import Derived.Test.YtlgpoapedgodoaaDoorCmpA
import Derived.Test.YtlgpoapedgodoaaDoorBitsLaw
namespace Go.Proofs.YtlgpoapedgodoaaDoor
open Go.RowKit

/-- The class of a double, by its bits. -/
def classZ (z : Int) : Int :=
  if 9218868437227405312 < z % 9223372036854775808 then 0 else if z % 9223372036854775808 = 9218868437227405312 then 1
  else if z % 9223372036854775808 = 0 then 2 else if z % 9223372036854775808 < 4503599627370496 then 3 else 4

/-- Where a double stands. -/
def placeZ (z : Int) : Int :=
  if 9218868437227405312 < z % 9223372036854775808 then 18446744073709551615 else if z < 9223372036854775808 then z + 9223372036854775808 else 18446744073709551615 - z

/-- A word of 64 bits. -/
def word (z : Int) : Prop := 0 ≤ z ∧ z < 18446744073709551616

set_option maxHeartbeats 800000 in
theorem class_ok (z : Int) (hz : word z) (w : World) :
    Calls Tryd.prog 82 #[.int .u64 z] w fun e w' => e = .returned (.int .i64 (classZ z)) ∧ w' = w := by
  obtain ⟨h0, h1⟩ := hz
  have e1 := u_exp z h0 h1
  have e2 := u_mant z h0 h1
  obtain ⟨R, HR⟩ : ∃ R, Hid (R = classZ z) := ⟨_, Lib.hid rfl⟩
  rw [← HR.out]
  obtain ⟨x, hx⟩ : ∃ x, x = z % 9223372036854775808 / 4503599627370496 * 4503599627370496 := ⟨_, rfl⟩
  obtain ⟨y, hy⟩ : ∃ y, y = z % 4503599627370496 := ⟨_, rfl⟩
  rw [← hx] at e1
  rw [← hy] at e2
  have HX : Hid (x = z % 9223372036854775808 / 4503599627370496 * 4503599627370496 ∧ y = z % 4503599627370496) := ⟨hx, hy⟩
  clear hx hy
  go_enter Tryd.func82, Tryd.ntmps82
  go_wp2
  all_goals first | (exfalso; omega) | skip
  all_goals
    go_ret
    refine ⟨?_, rfl⟩
    rw [HR.out]
    have hx := HX.out.1
    have hy := HX.out.2
    clear e1 e2 HX
    simp_all [classZ]
    try omega

set_option maxHeartbeats 800000 in
theorem rclass_ok (z : Int) (hz : word z) (w : World) :
    Calls Tryd.prog 64 #[.int .u64 z] w fun e w' => e = .returned (.int .i64 (classZ z)) ∧ w' = w := by
  obtain ⟨h0, h1⟩ := hz
  obtain ⟨R, HR⟩ : ∃ R, Hid (R = classZ z) := ⟨_, Lib.hid rfl⟩
  rw [← HR.out]
  have e1 : Int.tmod z 9223372036854775808 = z % 9223372036854775808 := Int.tmod_eq_emod_of_nonneg h0
  go_enter Tryd.func64, Tryd.ntmps64
  go_wp2
  all_goals first | (exfalso; omega) | skip
  all_goals
    go_ret
    refine ⟨?_, rfl⟩
    rw [HR.out]
    simp_all [classZ]
    try omega

set_option maxHeartbeats 800000 in
theorem place_ok (z : Int) (hz : word z) (w : World) :
    Calls Tryd.prog 76 #[.int .u64 z] w fun e w' => e = .returned (.int .u64 (placeZ z)) ∧ w' = w := by
  have HZ : Hid (word z) := Lib.hid hz
  obtain ⟨h0, h1⟩ := hz
  have e1 := u_top z h0 h1
  have e2 := fun h => u_or z h0 h
  obtain ⟨C, hC⟩ : ∃ C, C = classZ z := ⟨_, rfl⟩
  have HC := Lib.hid hC
  obtain ⟨R, HR⟩ : ∃ R, Hid (R = placeZ z) := ⟨_, Lib.hid rfl⟩
  rw [← HR.out]
  clear hC
  go_enter Tryd.func76, Tryd.ntmps76
  go_wp2_with fail
  refine (class_ok _ HZ.out _).mono ?_
  rintro e w1 ⟨rfl, rfl⟩
  rw [← HC.out]
  go_wp2_with fail
  all_goals first | (exfalso; omega) | skip
  all_goals
    go_ret
    refine ⟨?_, rfl⟩
    rw [HR.out]
    have hc := HC.out
    clear HC HR HZ
    unfold classZ at hc
    unfold placeZ
    have e3 := u_not z h0 h1
    have hn : (C == 0) = decide (9218868437227405312 < z % 9223372036854775808) := by
      rw [hc]
      repeat' split
      all_goals simp_all
    simp [hn] at *
    try rw [e3]
    try (rw [e2 (by omega)])
    simp_all
    try omega

set_option maxHeartbeats 800000 in
theorem texty_ok (k : Int) (w : World) :
    Calls Tryd.prog 73 #[.int .i64 k] w fun e w' => e = .returned (.bool (decide (k = 7 ∨ k = 8))) ∧ w' = w := by
  go_enter Tryd.func73, Tryd.ntmps73
  go_wp2
  all_goals first | (exfalso; omega) | skip
  all_goals
    go_ret
    refine ⟨?_, rfl⟩
    simp_all
    try omega
    try (rw [Bool.eq_iff_iff]; simp)

set_option maxHeartbeats 800000 in
theorem rtexts_ok (k : Int) (w : World) :
    Calls Tryd.prog 62 #[.int .i64 k] w fun e w' => e = .returned (.bool (decide (k = 7 ∨ k = 8))) ∧ w' = w := by
  go_enter Tryd.func62, Tryd.ntmps62
  go_wp2
  all_goals first | (exfalso; omega) | skip
  all_goals
    go_ret
    refine ⟨?_, rfl⟩
    simp_all
    try omega
    try (rw [Bool.eq_iff_iff]; simp)

set_option maxHeartbeats 800000 in
theorem signed_ok (k : Int) (w : World) :
    Calls Tryd.prog 95 #[.int .i64 k] w fun e w' => e = .returned (.bool (decide (k = 2 ∨ k = 3))) ∧ w' = w := by
  go_enter Tryd.func95, Tryd.ntmps95
  go_wp2
  all_goals first | (exfalso; omega) | skip
  all_goals
    go_ret
    refine ⟨?_, rfl⟩
    simp_all
    try omega
    try (rw [Bool.eq_iff_iff]; simp)

set_option maxHeartbeats 800000 in
theorem is_ok (k : Int) (w : World) :
    Calls Tryd.prog 45 #[.int .i64 k] w fun e w' => e = .returned (.bool (decide (1 ≤ k ∧ k ≤ 9))) ∧ w' = w := by
  go_enter Tryd.func45, Tryd.ntmps45
  go_wp2
  all_goals first | (exfalso; omega) | skip
  all_goals
    go_ret
    refine ⟨?_, rfl⟩
    simp_all
    try omega
    try (rw [Bool.eq_iff_iff]; simp)

set_option maxHeartbeats 800000 in
theorem ris_ok (k : Int) (w : World) :
    Calls Tryd.prog 58 #[.int .i64 k] w fun e w' => e = .returned (.bool (decide (1 ≤ k ∧ k ≤ 9))) ∧ w' = w := by
  go_enter Tryd.func58, Tryd.ntmps58
  go_wp2
  all_goals first | (exfalso; omega) | skip
  all_goals
    go_ret
    refine ⟨?_, rfl⟩
    simp_all
    try omega
    try (rw [Bool.eq_iff_iff]; simp)
end Go.Proofs.YtlgpoapedgodoaaDoor
