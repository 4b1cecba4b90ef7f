/- Contracts of Cmp of scalars, the program's and the reference's. -/
import Derived.Test.YtlgpoapedgodoaaDoorCmpB
import Derived.BigQuiet
namespace Go.Proofs.YtlgpoapedgodoaaDoor
open Go.RowKit

/-- How two scalars of one kind stand. -/
def scalC (k z : Int) (t : ByteArray) (z' : Int) (t' : ByteArray) : Int :=
  if ¬ (1 ≤ k ∧ k ≤ 9) then 0 else if k = 7 ∨ k = 8 then cmpT t t'
  else if k = 2 ∨ k = 3 then cmpI (wrap64 z) (wrap64 z')
  else if k = 6 then cmpI (placeZ z) (placeZ z') else cmpI z z'

/-- How two scalars stand. -/
def scalF (k z : Int) (t : ByteArray) (k' z' : Int) (t' : ByteArray) : Int := if k = k' then scalC k z t z' t' else cmpI k k'

set_option maxRecDepth 4000 in
set_option maxHeartbeats 1000000 in
theorem scal_ne (k z k' z' : Int) (t t' : ByteArray) (l p s r l' p' s' r' : Value) (h : (k != k') = true) (w : World) :
    Calls Tryd.prog 36 #[.agg #[.int .i64 k, .int .u64 z, .string t, l, p, s, r], .agg #[.int .i64 k', .int .u64 z', .string t', l', p', s', r']] w
      fun e w' => e = .returned (.int .i64 (cmpI k k')) ∧ Below w.heap.size w w' := by
  obtain ⟨R, HR⟩ : ∃ R : Int, Hid (R = cmpI k k') := ⟨_, Lib.hid rfl⟩
  rw [← HR.out]
  go_enter Tryd.func36, Tryd.ntmps36
  go_wp2_with fail
  refine (cmpI_ok _ _ _).mono ?_
  rintro e w1 ⟨rfl, rfl⟩
  go_wp2_with fail
  go_ret
  refine ⟨?_, by go_grown⟩
  try rw [HR.out]
  try rfl

set_option maxRecDepth 4000 in
set_option maxHeartbeats 1000000 in
theorem scal_not (k z z' : Int) (t t' : ByteArray) (l p s r l' p' s' r' : Value) (h : decide (1 ≤ k ∧ k ≤ 9) = false) (w : World) :
    Calls Tryd.prog 36 #[.agg #[.int .i64 k, .int .u64 z, .string t, l, p, s, r], .agg #[.int .i64 k, .int .u64 z', .string t', l', p', s', r']] w
      fun e w' => e = .returned (.int .i64 (0)) ∧ Below w.heap.size w w' := by
  obtain ⟨R, HR⟩ : ∃ R : Int, Hid (R = 0) := ⟨_, Lib.hid rfl⟩
  rw [← HR.out]
  go_enter Tryd.func36, Tryd.ntmps36
  go_wp2_with fail
  refine (is_ok _ _).mono ?_
  rintro e w1 ⟨rfl, rfl⟩
  rw [h]
  go_wp2_with fail
  go_ret
  refine ⟨?_, by go_grown⟩
  try rw [HR.out]
  try rfl

set_option maxRecDepth 4000 in
set_option maxHeartbeats 1000000 in
theorem scal_text (k z z' : Int) (t t' : ByteArray) (l p s r l' p' s' r' : Value) (h : decide (1 ≤ k ∧ k ≤ 9) = true) (h2 : decide (k = 7 ∨ k = 8) = true) (w : World) :
    Calls Tryd.prog 36 #[.agg #[.int .i64 k, .int .u64 z, .string t, l, p, s, r], .agg #[.int .i64 k, .int .u64 z', .string t', l', p', s', r']] w
      fun e w' => e = .returned (.int .i64 (cmpT t t')) ∧ Below w.heap.size w w' := by
  obtain ⟨R, HR⟩ : ∃ R : Int, Hid (R = cmpT t t') := ⟨_, Lib.hid rfl⟩
  rw [← HR.out]
  go_enter Tryd.func36, Tryd.ntmps36
  go_wp2_with fail
  refine (is_ok _ _).mono ?_
  rintro e w1 ⟨rfl, rfl⟩
  rw [h]
  go_wp2_with fail
  refine (texty_ok _ _).mono ?_
  rintro e w1 ⟨rfl, rfl⟩
  rw [h2]
  go_wp2_with fail
  refine (cmpT_ok _ _ _).mono ?_
  rintro e w1 ⟨rfl, rfl⟩
  go_wp2_with fail
  go_ret
  refine ⟨?_, by go_grown⟩
  try rw [HR.out]
  try rfl

set_option maxRecDepth 4000 in
set_option maxHeartbeats 1000000 in
theorem scal_s2 (z z' : Int) (t t' : ByteArray) (l p s r l' p' s' r' : Value)  (w : World) :
    Calls Tryd.prog 36 #[.agg #[.int .i64 2, .int .u64 z, .string t, l, p, s, r], .agg #[.int .i64 2, .int .u64 z', .string t', l', p', s', r']] w
      fun e w' => e = .returned (.int .i64 (cmpI (wrap64 z) (wrap64 z'))) ∧ Below w.heap.size w w' := by
  obtain ⟨R, HR⟩ : ∃ R : Int, Hid (R = cmpI (wrap64 z) (wrap64 z')) := ⟨_, Lib.hid rfl⟩
  rw [← HR.out]
  go_enter Tryd.func36, Tryd.ntmps36
  go_wp2_with fail
  refine (is_ok _ _).mono ?_
  rintro e w1 ⟨rfl, rfl⟩
  rw [show decide ((1:Int) ≤ 2 ∧ (2:Int) ≤ 9) = true by decide]
  go_wp2_with fail
  refine (texty_ok _ _).mono ?_
  rintro e w1 ⟨rfl, rfl⟩
  rw [show decide ((2:Int) = 7 ∨ (2:Int) = 8) = false by decide]
  go_wp2_with fail
  refine (cmpI_ok _ _ _).mono ?_
  rintro e w1 ⟨rfl, rfl⟩
  go_wp2_with fail
  go_ret
  refine ⟨?_, by go_grown⟩
  try rw [HR.out]
  try rfl

set_option maxRecDepth 4000 in
set_option maxHeartbeats 1000000 in
theorem scal_s3 (z z' : Int) (t t' : ByteArray) (l p s r l' p' s' r' : Value)  (w : World) :
    Calls Tryd.prog 36 #[.agg #[.int .i64 3, .int .u64 z, .string t, l, p, s, r], .agg #[.int .i64 3, .int .u64 z', .string t', l', p', s', r']] w
      fun e w' => e = .returned (.int .i64 (cmpI (wrap64 z) (wrap64 z'))) ∧ Below w.heap.size w w' := by
  obtain ⟨R, HR⟩ : ∃ R : Int, Hid (R = cmpI (wrap64 z) (wrap64 z')) := ⟨_, Lib.hid rfl⟩
  rw [← HR.out]
  go_enter Tryd.func36, Tryd.ntmps36
  go_wp2_with fail
  refine (is_ok _ _).mono ?_
  rintro e w1 ⟨rfl, rfl⟩
  rw [show decide ((1:Int) ≤ 3 ∧ (3:Int) ≤ 9) = true by decide]
  go_wp2_with fail
  refine (texty_ok _ _).mono ?_
  rintro e w1 ⟨rfl, rfl⟩
  rw [show decide ((3:Int) = 7 ∨ (3:Int) = 8) = false by decide]
  go_wp2_with fail
  refine (cmpI_ok _ _ _).mono ?_
  rintro e w1 ⟨rfl, rfl⟩
  go_wp2_with fail
  go_ret
  refine ⟨?_, by go_grown⟩
  try rw [HR.out]
  try rfl

set_option maxRecDepth 4000 in
set_option maxHeartbeats 1000000 in
theorem scal_bits (k z z' : Int) (t t' : ByteArray) (l p s r l' p' s' r' : Value) (h : decide (1 ≤ k ∧ k ≤ 9) = true) (h2 : decide (k = 7 ∨ k = 8) = false) (h3 : (k == 2) = false) (h4 : (k == 3) = false) (h6 : (k == 6) = false) (w : World) :
    Calls Tryd.prog 36 #[.agg #[.int .i64 k, .int .u64 z, .string t, l, p, s, r], .agg #[.int .i64 k, .int .u64 z', .string t', l', p', s', r']] w
      fun e w' => e = .returned (.int .i64 (cmpI z z')) ∧ Below w.heap.size w w' := by
  obtain ⟨R, HR⟩ : ∃ R : Int, Hid (R = cmpI z z') := ⟨_, Lib.hid rfl⟩
  rw [← HR.out]
  go_enter Tryd.func36, Tryd.ntmps36
  go_wp2_with fail
  refine (is_ok _ _).mono ?_
  rintro e w1 ⟨rfl, rfl⟩
  rw [h]
  go_wp2_with fail
  refine (texty_ok _ _).mono ?_
  rintro e w1 ⟨rfl, rfl⟩
  rw [h2]
  go_wp2_with fail
  refine (cmpU_ok _ _ _).mono ?_
  rintro e w1 ⟨rfl, rfl⟩
  go_wp2_with fail
  go_ret
  refine ⟨?_, by go_grown⟩
  try rw [HR.out]
  try rfl

end Go.Proofs.YtlgpoapedgodoaaDoor
