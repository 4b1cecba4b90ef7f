/- Norm, the program's and the reference's; what orders a number's key. -/
import Derived.Test.YtlgpoapedgodoaaDoorFitsC
namespace Go.Proofs.YtlgpoapedgodoaaDoor
open Go.RowKit
set_option linter.unusedVariables false

theorem n_xor (a : Nat) (h : a < 18446744073709551616) : a ^^^ 9223372036854775808 = if a < 9223372036854775808 then a + 9223372036854775808 else a - 9223372036854775808 := by
  by_cases h1 : a < 9223372036854775808
  · rw [if_pos h1, ← n_or a h1]
    apply Nat.eq_of_testBit_eq
    intro i
    rw [show (9223372036854775808 : Nat) = 2 ^ 63 by decide, Nat.testBit_xor, Nat.testBit_or, Nat.testBit_two_pow]
    by_cases hi : 63 = i
    · subst hi
      have : a.testBit 63 = false := Nat.testBit_lt_two_pow h1
      simp [this]
    · simp [hi]
  · rw [if_neg h1]
    have e : a = (a - 9223372036854775808) ||| 9223372036854775808 := by
      rw [n_or _ (by omega)]; omega
    apply Nat.eq_of_testBit_eq
    intro i
    generalize hb : a - 9223372036854775808 = b at *
    have hbl : b < 9223372036854775808 := by omega
    rw [e, show (9223372036854775808 : Nat) = 2 ^ 63 by decide, Nat.testBit_xor, Nat.testBit_or, Nat.testBit_two_pow]
    by_cases hi : 63 = i
    · subst hi
      have : b.testBit 63 = false := Nat.testBit_lt_two_pow hbl
      simp [this]
    · simp [hi]

/-- The highest bit turned. -/
def flipZ (z : Int) : Int := if z < 9223372036854775808 then z + 9223372036854775808 else z - 9223372036854775808

theorem u_xor (a : Int) (h : word a) : bits .xor .u64 a 9223372036854775808 = flipZ a := by
  obtain ⟨h0, h1⟩ := h
  obtain ⟨n, rfl⟩ : ∃ n : Nat, a = n := ⟨a.toNat, by omega⟩
  have h := bits_xor_u64_nat n 9223372036854775808 (by omega) (by decide)
  rw [n_xor _ (by omega)] at h
  have e : (9223372036854775808 : Int) = ((9223372036854775808 : Nat) : Int) := rfl
  unfold flipZ
  rw [e, h]
  split <;> split <;> omega

/-- The bits of the normal form. -/
def normZ (k z : Int) : Int := if k = 6 ∧ classZ z = 0 then 9221120237041090560 else z
theorem normZ_word (k z : Int) (h : word z) : word (normZ k z) := by
  unfold normZ
  split
  · exact ⟨by decide, by decide⟩
  · exact h


set_option maxRecDepth 4000 in
set_option maxHeartbeats 1000000 in
theorem norm_o (k z : Int) (t : ByteArray) (l1 l2 l3 l4 c1 c2 c3 c4 : Nat) (d1 d2 d3 d4 : Option Addr) (h6 : (k == 6) = false) (w : World) :
    Calls Tryd.prog 57 #[.agg #[.int .i64 k, .int .u64 z, .string t, .slice d1 l1 c1, .slice d2 l2 c2, .slice d3 l3 c3, .slice d4 l4 c4]] w fun e w' => e = .returned (.agg #[.int .i64 k, .int .u64 z, .string t, .slice d1 l1 c1, .slice d2 l2 c2, .slice d3 l3 c3, .slice d4 l4 c4]) ∧ Below w.heap.size w w' := by
  go_enter Tryd.func57, Tryd.ntmps57
  go_wp2_with fail
  exact bodyPost_ret (v := .agg #[.int .i64 k, .int .u64 z, .string t, .slice d1 l1 c1, .slice d2 l2 c2, .slice d3 l3 c3, .slice d4 l4 c4]) (by simp [results, Tryd.results57, go_sem]) rfl ⟨rfl, by go_grown⟩

set_option maxRecDepth 4000 in
set_option maxHeartbeats 1000000 in
theorem norm_n (z : Int) (t : ByteArray) (l1 l2 l3 l4 c1 c2 c3 c4 : Nat) (d1 d2 d3 d4 : Option Addr) (w : World) (C : Int) (hC : (C == 0) = true) (KC : Hid (∀ w : World, Calls Tryd.prog 82 #[.int .u64 z] w fun e w' => e = .returned (.int .i64 C) ∧ w' = w)) :
    Calls Tryd.prog 57 #[.agg #[.int .i64 6, .int .u64 z, .string t, .slice d1 l1 c1, .slice d2 l2 c2, .slice d3 l3 c3, .slice d4 l4 c4]] w fun e w' => e = .returned (.agg #[.int .i64 6, .int .u64 9221120237041090560, .string t, .slice d1 l1 c1, .slice d2 l2 c2, .slice d3 l3 c3, .slice d4 l4 c4]) ∧ Below w.heap.size w w' := by
  go_enter Tryd.func57, Tryd.ntmps57
  go_wp2_with fail
  refine calls_same (KC.out _) ?_
  go_wp2_with fail
  exact bodyPost_ret (v := .agg #[.int .i64 6, .int .u64 9221120237041090560, .string t, .slice d1 l1 c1, .slice d2 l2 c2, .slice d3 l3 c3, .slice d4 l4 c4]) (by simp [results, Tryd.results57, go_sem]) rfl ⟨rfl, by go_grown⟩

set_option maxRecDepth 4000 in
set_option maxHeartbeats 1000000 in
theorem norm_d (z : Int) (t : ByteArray) (l1 l2 l3 l4 c1 c2 c3 c4 : Nat) (d1 d2 d3 d4 : Option Addr) (w : World) (C : Int) (hC : (C == 0) = false) (KC : Hid (∀ w : World, Calls Tryd.prog 82 #[.int .u64 z] w fun e w' => e = .returned (.int .i64 C) ∧ w' = w)) :
    Calls Tryd.prog 57 #[.agg #[.int .i64 6, .int .u64 z, .string t, .slice d1 l1 c1, .slice d2 l2 c2, .slice d3 l3 c3, .slice d4 l4 c4]] w fun e w' => e = .returned (.agg #[.int .i64 6, .int .u64 z, .string t, .slice d1 l1 c1, .slice d2 l2 c2, .slice d3 l3 c3, .slice d4 l4 c4]) ∧ Below w.heap.size w w' := by
  go_enter Tryd.func57, Tryd.ntmps57
  go_wp2_with fail
  refine calls_same (KC.out _) ?_
  go_wp2_with fail
  exact bodyPost_ret (v := .agg #[.int .i64 6, .int .u64 z, .string t, .slice d1 l1 c1, .slice d2 l2 c2, .slice d3 l3 c3, .slice d4 l4 c4]) (by simp [results, Tryd.results57, go_sem]) rfl ⟨rfl, by go_grown⟩

theorem norm_ok (k z : Int) (t : ByteArray) (l1 l2 l3 l4 c1 c2 c3 c4 : Nat) (d1 d2 d3 d4 : Option Addr) (hz : word z) (w : World) :
    Calls Tryd.prog 57 #[.agg #[.int .i64 k, .int .u64 z, .string t, .slice d1 l1 c1, .slice d2 l2 c2, .slice d3 l3 c3, .slice d4 l4 c4]] w fun e w' => e = .returned (.agg #[.int .i64 k, .int .u64 (normZ k z), .string t, .slice d1 l1 c1, .slice d2 l2 c2, .slice d3 l3 c3, .slice d4 l4 c4]) ∧ Below w.heap.size w w' := by
  by_cases h6 : k = 6
  · subst h6
    have KC := Lib.hid (fun w : World => class_ok z hz w)
    by_cases hc : classZ z = 0
    · rw [show normZ 6 z = 9221120237041090560 by unfold normZ; rw [if_pos ⟨rfl, hc⟩]]
      exact norm_n z t l1 l2 l3 l4 c1 c2 c3 c4 d1 d2 d3 d4 w (classZ z) (by simp [hc]) KC
    · rw [show normZ 6 z = z by unfold normZ; rw [if_neg (fun x => hc x.2)]]
      exact norm_d z t l1 l2 l3 l4 c1 c2 c3 c4 d1 d2 d3 d4 w (classZ z) (by simp [hc]) KC
  · rw [show normZ k z = z by unfold normZ; rw [if_neg (fun x => h6 x.1)]]
    exact norm_o k z t l1 l2 l3 l4 c1 c2 c3 c4 d1 d2 d3 d4 (by simp [h6]) w

set_option maxRecDepth 4000 in
set_option maxHeartbeats 1000000 in
theorem rnorm_o (k z : Int) (t : ByteArray) (l1 l2 l3 l4 c1 c2 c3 c4 : Nat) (d1 d2 d3 d4 : Option Addr) (h6 : (k == 6) = false) (w : World) :
    Calls Tryd.prog 22 #[.agg #[.int .i64 k, .int .u64 z, .string t, .slice d1 l1 c1, .slice d2 l2 c2, .slice d3 l3 c3, .slice d4 l4 c4]] w fun e w' => e = .returned (.agg #[.int .i64 k, .int .u64 z, .string t, .slice d1 l1 c1, .slice d2 l2 c2, .slice d3 l3 c3, .slice d4 l4 c4]) ∧ Below w.heap.size w w' := by
  go_enter Tryd.func22, Tryd.ntmps22
  go_wp2_with fail
  exact bodyPost_ret (v := .agg #[.int .i64 k, .int .u64 z, .string t, .slice d1 l1 c1, .slice d2 l2 c2, .slice d3 l3 c3, .slice d4 l4 c4]) (by simp [results, Tryd.results22, go_sem]) rfl ⟨rfl, by go_grown⟩

set_option maxRecDepth 4000 in
set_option maxHeartbeats 1000000 in
theorem rnorm_n (z : Int) (t : ByteArray) (l1 l2 l3 l4 c1 c2 c3 c4 : Nat) (d1 d2 d3 d4 : Option Addr) (w : World) (C : Int) (hC : (C == 0) = true) (KC : Hid (∀ w : World, Calls Tryd.prog 64 #[.int .u64 z] w fun e w' => e = .returned (.int .i64 C) ∧ w' = w)) :
    Calls Tryd.prog 22 #[.agg #[.int .i64 6, .int .u64 z, .string t, .slice d1 l1 c1, .slice d2 l2 c2, .slice d3 l3 c3, .slice d4 l4 c4]] w fun e w' => e = .returned (.agg #[.int .i64 6, .int .u64 9221120237041090560, .string t, .slice d1 l1 c1, .slice d2 l2 c2, .slice d3 l3 c3, .slice d4 l4 c4]) ∧ Below w.heap.size w w' := by
  go_enter Tryd.func22, Tryd.ntmps22
  go_wp2_with fail
  refine calls_same (KC.out _) ?_
  go_wp2_with fail
  exact bodyPost_ret (v := .agg #[.int .i64 6, .int .u64 9221120237041090560, .string t, .slice d1 l1 c1, .slice d2 l2 c2, .slice d3 l3 c3, .slice d4 l4 c4]) (by simp [results, Tryd.results22, go_sem]) rfl ⟨rfl, by go_grown⟩

set_option maxRecDepth 4000 in
set_option maxHeartbeats 1000000 in
theorem rnorm_d (z : Int) (t : ByteArray) (l1 l2 l3 l4 c1 c2 c3 c4 : Nat) (d1 d2 d3 d4 : Option Addr) (w : World) (C : Int) (hC : (C == 0) = false) (KC : Hid (∀ w : World, Calls Tryd.prog 64 #[.int .u64 z] w fun e w' => e = .returned (.int .i64 C) ∧ w' = w)) :
    Calls Tryd.prog 22 #[.agg #[.int .i64 6, .int .u64 z, .string t, .slice d1 l1 c1, .slice d2 l2 c2, .slice d3 l3 c3, .slice d4 l4 c4]] w fun e w' => e = .returned (.agg #[.int .i64 6, .int .u64 z, .string t, .slice d1 l1 c1, .slice d2 l2 c2, .slice d3 l3 c3, .slice d4 l4 c4]) ∧ Below w.heap.size w w' := by
  go_enter Tryd.func22, Tryd.ntmps22
  go_wp2_with fail
  refine calls_same (KC.out _) ?_
  go_wp2_with fail
  exact bodyPost_ret (v := .agg #[.int .i64 6, .int .u64 z, .string t, .slice d1 l1 c1, .slice d2 l2 c2, .slice d3 l3 c3, .slice d4 l4 c4]) (by simp [results, Tryd.results22, go_sem]) rfl ⟨rfl, by go_grown⟩

theorem rnorm_ok (k z : Int) (t : ByteArray) (l1 l2 l3 l4 c1 c2 c3 c4 : Nat) (d1 d2 d3 d4 : Option Addr) (hz : word z) (w : World) :
    Calls Tryd.prog 22 #[.agg #[.int .i64 k, .int .u64 z, .string t, .slice d1 l1 c1, .slice d2 l2 c2, .slice d3 l3 c3, .slice d4 l4 c4]] w fun e w' => e = .returned (.agg #[.int .i64 k, .int .u64 (normZ k z), .string t, .slice d1 l1 c1, .slice d2 l2 c2, .slice d3 l3 c3, .slice d4 l4 c4]) ∧ Below w.heap.size w w' := by
  by_cases h6 : k = 6
  · subst h6
    have KC := Lib.hid (fun w : World => rclass_ok z hz w)
    by_cases hc : classZ z = 0
    · rw [show normZ 6 z = 9221120237041090560 by unfold normZ; rw [if_pos ⟨rfl, hc⟩]]
      exact rnorm_n z t l1 l2 l3 l4 c1 c2 c3 c4 d1 d2 d3 d4 w (classZ z) (by simp [hc]) KC
    · rw [show normZ 6 z = z by unfold normZ; rw [if_neg (fun x => hc x.2)]]
      exact rnorm_d z t l1 l2 l3 l4 c1 c2 c3 c4 d1 d2 d3 d4 w (classZ z) (by simp [hc]) KC
  · rw [show normZ k z = z by unfold normZ; rw [if_neg (fun x => h6 x.1)]]
    exact rnorm_o k z t l1 l2 l3 l4 c1 c2 c3 c4 d1 d2 d3 d4 (by simp [h6]) w

@[go_sem] theorem fieldV_0 (a0 a1 a2 a3 a4 a5 a6 : Value) (w : World) : (Instr.field 28 (.agg #[a0, a1, a2, a3, a4, a5, a6]) 0).run Tryd.prog w = .ok a0 w := by kernel_rfl
@[go_sem] theorem fieldV_1 (a0 a1 a2 a3 a4 a5 a6 : Value) (w : World) : (Instr.field 28 (.agg #[a0, a1, a2, a3, a4, a5, a6]) 1).run Tryd.prog w = .ok a1 w := by kernel_rfl
@[go_sem] theorem fieldV_2 (a0 a1 a2 a3 a4 a5 a6 : Value) (w : World) : (Instr.field 28 (.agg #[a0, a1, a2, a3, a4, a5, a6]) 2).run Tryd.prog w = .ok a2 w := by kernel_rfl
@[go_sem] theorem fieldV_3 (a0 a1 a2 a3 a4 a5 a6 : Value) (w : World) : (Instr.field 28 (.agg #[a0, a1, a2, a3, a4, a5, a6]) 3).run Tryd.prog w = .ok a3 w := by kernel_rfl
@[go_sem] theorem fieldV_4 (a0 a1 a2 a3 a4 a5 a6 : Value) (w : World) : (Instr.field 28 (.agg #[a0, a1, a2, a3, a4, a5, a6]) 4).run Tryd.prog w = .ok a4 w := by kernel_rfl
@[go_sem] theorem fieldV_5 (a0 a1 a2 a3 a4 a5 a6 : Value) (w : World) : (Instr.field 28 (.agg #[a0, a1, a2, a3, a4, a5, a6]) 5).run Tryd.prog w = .ok a5 w := by kernel_rfl
@[go_sem] theorem fieldV_6 (a0 a1 a2 a3 a4 a5 a6 : Value) (w : World) : (Instr.field 28 (.agg #[a0, a1, a2, a3, a4, a5, a6]) 6).run Tryd.prog w = .ok a6 w := by kernel_rfl

/-- The number whose bytes a key has. -/
def rankK (k z : Int) : Int := if k = 2 ∨ k = 3 then flipZ z else if k = 6 then (if z < 9223372036854775808 then z + 9223372036854775808 else 18446744073709551615 - z) else z
theorem rankK_word (k z : Int) (h : word z) : word (rankK k z) := by
  obtain ⟨h0, h1⟩ := h
  unfold rankK flipZ word
  split
  · split <;> omega
  · split
    · split <;> omega
    · omega

set_option maxRecDepth 4000 in
set_option maxHeartbeats 1000000 in
theorem turned_s (k z : Int) (t : ByteArray) (l1 l2 l3 l4 c1 c2 c3 c4 : Nat) (d1 d2 d3 d4 : Option Addr) (h : decide (k = 2 ∨ k = 3) = true) (hz : word z) (w : World) :
    Calls Tryd.prog 29 #[.agg #[.int .i64 k, .int .u64 z, .string t, .slice d1 l1 c1, .slice d2 l2 c2, .slice d3 l3 c3, .slice d4 l4 c4]] w fun e w' => e = .returned (.int .u64 (flipZ z)) ∧ Below w.heap.size w w' := by
  have hx := u_xor z hz
  obtain ⟨F, HF⟩ : ∃ F, Hid (F = flipZ z) := ⟨_, Lib.hid rfl⟩
  rw [← HF.out] at hx ⊢
  clear hz
  rcases of_decide_eq_true h with rfl | rfl
  all_goals
    clear h
    go_enter Tryd.func29, Tryd.ntmps29
    go_wp2_with fail
    go_ret
    exact ⟨rfl, by go_grown⟩

set_option maxRecDepth 4000 in
set_option maxHeartbeats 1000000 in
theorem turned_o (k z : Int) (t : ByteArray) (l1 l2 l3 l4 c1 c2 c3 c4 : Nat) (d1 d2 d3 d4 : Option Addr) (h2 : (k == 2) = false) (h3 : (k == 3) = false) (h6 : (k == 6) = false) (w : World) :
    Calls Tryd.prog 29 #[.agg #[.int .i64 k, .int .u64 z, .string t, .slice d1 l1 c1, .slice d2 l2 c2, .slice d3 l3 c3, .slice d4 l4 c4]] w fun e w' => e = .returned (.int .u64 z) ∧ Below w.heap.size w w' := by
  go_enter Tryd.func29, Tryd.ntmps29
  go_wp2_with fail
  go_ret
  exact ⟨rfl, by go_grown⟩

set_option maxRecDepth 4000 in
set_option maxHeartbeats 1000000 in
theorem turned_d (z u : Int) (t : ByteArray) (l1 l2 l3 l4 c1 c2 c3 c4 : Nat) (d1 d2 d3 d4 : Option Addr) (hu : word u) (w : World)
    (KN : Hid (∀ w : World, Calls Tryd.prog 57 #[.agg #[.int .i64 6, .int .u64 z, .string t, .slice d1 l1 c1, .slice d2 l2 c2, .slice d3 l3 c3, .slice d4 l4 c4]] w fun e w' => e = .returned (.agg #[.int .i64 6, .int .u64 u, .string t, .slice d1 l1 c1, .slice d2 l2 c2, .slice d3 l3 c3, .slice d4 l4 c4]) ∧ Below w.heap.size w w')) :
    Calls Tryd.prog 29 #[.agg #[.int .i64 6, .int .u64 z, .string t, .slice d1 l1 c1, .slice d2 l2 c2, .slice d3 l3 c3, .slice d4 l4 c4]] w fun e w' => e = .returned (.int .u64 (rankK 6 u)) ∧ Below w.heap.size w w' := by
  obtain ⟨R, HR⟩ : ∃ R, Hid (R = rankK 6 u) := ⟨_, Lib.hid rfl⟩
  rw [← HR.out]
  have ht := u_top u hu.1 hu.2
  have hx := u_xor u hu
  have hn := u_not u hu.1 hu.2
  obtain ⟨F, HF⟩ : ∃ F, Hid (F = flipZ u) := ⟨_, Lib.hid rfl⟩
  rw [← HF.out] at hx
  have HN := Lib.hid hn
  clear hn
  have HU := Lib.hid hu
  clear hu
  by_cases hlt : u < 9223372036854775808
  · have e0 : u / 9223372036854775808 * 9223372036854775808 = 0 := by have := HU.out.1; omega
    rw [e0] at ht
    have HR2 : Hid (R = F) := Lib.hid (by rw [HR.out, HF.out]; unfold rankK flipZ; simp [hlt])
    clear e0 hlt
    go_enter Tryd.func29, Tryd.ntmps29
    go_wp2_with fail
    refine calls_box1 ?_
    intro W _ hb
    refine calls_on (KN.out _) ?_
    intro w2 hb2
    have HB2 := Lib.hid (above hb hb2)
    clear hb hb2
    go_wp2_with fail
    go_ret
    exact ⟨by rw [HR2.out]; rfl, HB2.out⟩
  · have e0 : u / 9223372036854775808 * 9223372036854775808 = 9223372036854775808 := by have := HU.out.1; have := HU.out.2; omega
    rw [e0] at ht
    have HR2 : Hid (R = 18446744073709551615 - u) := Lib.hid (by rw [HR.out]; unfold rankK; simp [hlt])
    clear e0 hlt
    go_enter Tryd.func29, Tryd.ntmps29
    go_wp2_with fail
    refine calls_box1 ?_
    intro W _ hb
    refine calls_on (KN.out _) ?_
    intro w2 hb2
    have HB2 := Lib.hid (above hb hb2)
    clear hb hb2
    go_wp2_with fail
    go_ret
    refine ⟨?_, HB2.out⟩
    rw [HR2.out, ← HN.out]
    rfl

theorem turned_ok (k z : Int) (t : ByteArray) (l1 l2 l3 l4 c1 c2 c3 c4 : Nat) (d1 d2 d3 d4 : Option Addr) (hz : word z) (w : World) :
    Calls Tryd.prog 29 #[.agg #[.int .i64 k, .int .u64 z, .string t, .slice d1 l1 c1, .slice d2 l2 c2, .slice d3 l3 c3, .slice d4 l4 c4]] w fun e w' => e = .returned (.int .u64 (rankK k (normZ k z))) ∧ Below w.heap.size w w' := by
  by_cases h : k = 2 ∨ k = 3
  · rw [show rankK k (normZ k z) = flipZ z by unfold rankK normZ; rw [if_pos h, if_neg (by omega)]]
    exact turned_s k z t l1 l2 l3 l4 c1 c2 c3 c4 d1 d2 d3 d4 (decide_eq_true h) hz w
  · by_cases h6 : k = 6
    · subst h6
      exact turned_d z (normZ 6 z) t l1 l2 l3 l4 c1 c2 c3 c4 d1 d2 d3 d4 (normZ_word 6 z hz) w (Lib.hid fun w => norm_ok 6 z t l1 l2 l3 l4 c1 c2 c3 c4 d1 d2 d3 d4 hz w)
    · rw [show rankK k (normZ k z) = z by unfold rankK normZ; rw [if_neg h, if_neg h6, if_neg (by omega)]]
      exact turned_o k z t l1 l2 l3 l4 c1 c2 c3 c4 d1 d2 d3 d4 (by simp; omega) (by simp; omega) (by simp; omega) w

theorem wrap_u (x : Int) : IntKind.u64.wrap x = x % 18446744073709551616 := by simp [IntKind.wrap, IntKind.signed, IntKind.bits]

set_option maxRecDepth 4000 in
set_option maxHeartbeats 1000000 in
theorem rank16_s (k z : Int) (t : ByteArray) (l p s r : Value) (h : k = 2 ∨ k = 3) (hz : word z) (w : World) :
    Calls Tryd.prog 33 #[.agg #[.int .i64 k, .int .u64 z, .string t, l, p, s, r]] w fun e w' => e = .returned (.int .u64 (rankK k z)) ∧ Below w.heap.size w w' := by
  obtain ⟨R, HR⟩ : ∃ R, Hid (R = rankK k z) := ⟨_, Lib.hid rfl⟩
  rw [← HR.out]
  have HZ := Lib.hid hz
  have HR2 : Hid (R = IntKind.u64.wrap (z + 9223372036854775808)) := Lib.hid (by
    rw [HR.out, wrap_u]; unfold rankK flipZ; rw [if_pos h]; have := hz.1; have := hz.2; split <;> omega)
  obtain ⟨h0, h1⟩ := hz
  clear HR
  rcases h with rfl | rfl
  all_goals
    go_enter Tryd.func33, Tryd.ntmps33
    go_wp2_with fail
    go_ret
    refine ⟨?_, by go_grown⟩
    rw [HR2.out]
    rfl

set_option maxRecDepth 4000 in
set_option maxHeartbeats 1000000 in
theorem rank16_o (k z : Int) (t : ByteArray) (l p s r : Value) (h2 : (k == 2) = false) (h3 : (k == 3) = false) (h6 : (k == 6) = false) (w : World) :
    Calls Tryd.prog 33 #[.agg #[.int .i64 k, .int .u64 z, .string t, l, p, s, r]] w fun e w' => e = .returned (.int .u64 z) ∧ Below w.heap.size w w' := by
  go_enter Tryd.func33, Tryd.ntmps33
  go_wp2_with fail
  go_ret
  exact ⟨rfl, by go_grown⟩

set_option maxRecDepth 4000 in
set_option maxHeartbeats 1000000 in
theorem rank16_d (z : Int) (t : ByteArray) (l p s r : Value) (hz : word z) (w : World) :
    Calls Tryd.prog 33 #[.agg #[.int .i64 6, .int .u64 z, .string t, l, p, s, r]] w fun e w' => e = .returned (.int .u64 (rankK 6 z)) ∧ Below w.heap.size w w' := by
  obtain ⟨R, HR⟩ : ∃ R, Hid (R = rankK 6 z) := ⟨_, Lib.hid rfl⟩
  rw [← HR.out]
  obtain ⟨h0, h1⟩ := hz
  by_cases hlt : z < 9223372036854775808
  · have HR2 : Hid (R = IntKind.u64.wrap (z + 9223372036854775808)) := Lib.hid (by
      rw [HR.out, wrap_u]; unfold rankK; rw [if_neg (by omega), if_pos rfl, if_pos hlt]; omega)
    clear HR
    go_enter Tryd.func33, Tryd.ntmps33
    go_wp2_with fail
    go_ret
    refine ⟨?_, by go_grown⟩
    rw [HR2.out, wrap_u, Int.emod_eq_of_lt (by omega) (by omega)]
    rfl
  · have HR2 : Hid (R = 18446744073709551615 - z) := Lib.hid (by
      rw [HR.out]; unfold rankK; rw [if_neg (by omega), if_pos rfl, if_neg hlt])
    clear HR
    go_enter Tryd.func33, Tryd.ntmps33
    go_wp2_with fail
    go_ret
    refine ⟨?_, by go_grown⟩
    rw [HR2.out]
    rfl

theorem rank16_ok (k z : Int) (t : ByteArray) (l p s r : Value) (hz : word z) (w : World) :
    Calls Tryd.prog 33 #[.agg #[.int .i64 k, .int .u64 z, .string t, l, p, s, r]] w fun e w' => e = .returned (.int .u64 (rankK k z)) ∧ Below w.heap.size w w' := by
  by_cases h : k = 2 ∨ k = 3
  · exact rank16_s k z t l p s r h hz w
  · by_cases h6 : k = 6
    · subst h6; exact rank16_d z t l p s r hz w
    · rw [show rankK k z = z by unfold rankK; rw [if_neg h, if_neg h6]]
      exact rank16_o k z t l p s r (by simp; omega) (by simp; omega) (by simp; omega) w
end Go.Proofs.YtlgpoapedgodoaaDoor
