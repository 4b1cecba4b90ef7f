/- The reference's Size: the length of the well-formed sequence at a place. -/
import Derived.Test.YtlgpoapedgodoaaDoorUtfB
namespace Go.Proofs.YtlgpoapedgodoaaDoor
open Go.RowKit
set_option linter.unusedSimpArgs false

theorem size_a (s : ByteArray) (i : Nat) (h0 : 0 ≤ (s.get! i).toNat) (h1 : (s.get! i).toNat ≤ 127) : sizeAt s i = 1 := by
  unfold sizeAt sizeN
  rw [if_pos (by omega)]

set_option maxRecDepth 8000 in
set_option maxHeartbeats 2000000 in
theorem sizew_a (s : ByteArray) (i : Nat) (h : i < s.size) (hi : i ≤ 9223372036854770000) (g0 : 0 ≤ (s[i]'h).toNat) (g1 : (s[i]'h).toNat ≤ 127) (w : World) :
    Calls Tryd.prog 96 #[.string s, .int .i64 i] w fun e w' => e = .returned (.int .i64 (sizeAt s i)) ∧ w' = w := by
  have G := get_fin s i h
  rw [size_a s i (by omega) (by omega)]
  clear G
  have i0 : (0 : Int) ≤ (i : Int) := by omega
  have i1 : (i : Int) < (s.size : Int) := by omega
  have t0 : decide ((s[i].toNat : Int) < 128) = true := decide_eq_true (by omega)
  have t1 : decide (194 ≤ (s[i].toNat : Int)) = false := decide_eq_false (by omega)
  have t2 : decide ((s[i].toNat : Int) ≤ 223) = true := decide_eq_true (by omega)
  have t3 : ((s[i].toNat : Int) == 224) = false := by rw [beq_eq_false_iff_ne]; omega
  have t4 : ((s[i].toNat : Int) == 237) = false := by rw [beq_eq_false_iff_ne]; omega
  have t5 : decide (225 ≤ (s[i].toNat : Int)) = false := decide_eq_false (by omega)
  have t6 : decide ((s[i].toNat : Int) ≤ 239) = true := decide_eq_true (by omega)
  have t7 : ((s[i].toNat : Int) != 237) = true := by rw [bne_iff_ne]; omega
  have t8 : ((s[i].toNat : Int) == 240) = false := by rw [beq_eq_false_iff_ne]; omega
  have t9 : decide (241 ≤ (s[i].toNat : Int)) = false := decide_eq_false (by omega)
  have t10 : decide ((s[i].toNat : Int) ≤ 243) = true := decide_eq_true (by omega)
  have t11 : ((s[i].toNat : Int) == 244) = false := by rw [beq_eq_false_iff_ne]; omega
  go_enter Tryd.func96, Tryd.ntmps96
  go_wp2_with fail
  go_ret
  exact ⟨rfl, rfl⟩

theorem size_z1 (s : ByteArray) (i : Nat) (h0 : 128 ≤ (s.get! i).toNat) (h1 : (s.get! i).toNat ≤ 193) : sizeAt s i = 0 := by
  unfold sizeAt sizeN
  rw [if_neg (by omega), if_neg (by omega), if_neg (by omega), if_neg (by omega), if_neg (by omega), if_neg (by omega), if_neg (by omega), if_neg (by omega)]

set_option maxRecDepth 8000 in
set_option maxHeartbeats 2000000 in
theorem sizew_z1 (s : ByteArray) (i : Nat) (h : i < s.size) (hi : i ≤ 9223372036854770000) (g0 : 128 ≤ (s[i]'h).toNat) (g1 : (s[i]'h).toNat ≤ 193) (w : World) :
    Calls Tryd.prog 96 #[.string s, .int .i64 i] w fun e w' => e = .returned (.int .i64 (sizeAt s i)) ∧ w' = w := by
  have G := get_fin s i h
  rw [size_z1 s i (by omega) (by omega)]
  clear G
  have i0 : (0 : Int) ≤ (i : Int) := by omega
  have i1 : (i : Int) < (s.size : Int) := by omega
  have t0 : decide ((s[i].toNat : Int) < 128) = false := decide_eq_false (by omega)
  have t1 : decide (194 ≤ (s[i].toNat : Int)) = false := decide_eq_false (by omega)
  have t2 : decide ((s[i].toNat : Int) ≤ 223) = true := decide_eq_true (by omega)
  have t3 : ((s[i].toNat : Int) == 224) = false := by rw [beq_eq_false_iff_ne]; omega
  have t4 : ((s[i].toNat : Int) == 237) = false := by rw [beq_eq_false_iff_ne]; omega
  have t5 : decide (225 ≤ (s[i].toNat : Int)) = false := decide_eq_false (by omega)
  have t6 : decide ((s[i].toNat : Int) ≤ 239) = true := decide_eq_true (by omega)
  have t7 : ((s[i].toNat : Int) != 237) = true := by rw [bne_iff_ne]; omega
  have t8 : ((s[i].toNat : Int) == 240) = false := by rw [beq_eq_false_iff_ne]; omega
  have t9 : decide (241 ≤ (s[i].toNat : Int)) = false := decide_eq_false (by omega)
  have t10 : decide ((s[i].toNat : Int) ≤ 243) = true := decide_eq_true (by omega)
  have t11 : ((s[i].toNat : Int) == 244) = false := by rw [beq_eq_false_iff_ne]; omega
  go_enter Tryd.func96, Tryd.ntmps96
  go_wp2_with fail
  go_ret
  exact ⟨rfl, rfl⟩

theorem size_b (s : ByteArray) (i : Nat) (h0 : 194 ≤ (s.get! i).toNat) (h1 : (s.get! i).toNat ≤ 223) : sizeAt s i = if (tailB s (i + 1) 1) = true then 2 else 0 := by
  have e : ((tailB s (i + 1) 1) = true) = ((i + 1 < s.size ∧ 128 ≤ (s.get! (i + 1)).toNat ∧ (s.get! (i + 1)).toNat ≤ 191)) := by
    simp only [btwB, tailB, Bool.and_true, Bool.and_eq_true, decide_eq_true_eq, Nat.add_assoc, Nat.reduceAdd]
  unfold sizeAt sizeN
  simp only [e]
  by_cases h : (i + 1 < s.size ∧ 128 ≤ (s.get! (i + 1)).toNat ∧ (s.get! (i + 1)).toNat ≤ 191)
  · conv => rhs; rw [if_pos h]
    rw [if_neg (by omega), if_pos (by omega)]
  · conv => rhs; rw [if_neg h]
    rw [if_neg (by omega), if_neg (by omega), if_neg (by omega), if_neg (by omega), if_neg (by omega), if_neg (by omega), if_neg (by omega), if_neg (by omega)]

set_option maxRecDepth 8000 in
set_option maxHeartbeats 2000000 in
theorem sizew_b (s : ByteArray) (i : Nat) (h : i < s.size) (hi : i ≤ 9223372036854770000) (g0 : 194 ≤ (s[i]'h).toNat) (g1 : (s[i]'h).toNat ≤ 223) (w : World) :
    Calls Tryd.prog 96 #[.string s, .int .i64 i] w fun e w' => e = .returned (.int .i64 (sizeAt s i)) ∧ w' = w := by
  have G := get_fin s i h
  rw [size_b s i (by omega) (by omega)]
  clear G
  have i0 : (0 : Int) ≤ (i : Int) := by omega
  have i1 : (i : Int) < (s.size : Int) := by omega
  obtain ⟨T, HT⟩ : ∃ T, Hid (T = tailB s (i + 1) 1) := ⟨_, Lib.hid rfl⟩
  rw [← HT.out]
  have KT : Hid (∀ w : World, Calls Tryd.prog 108 #[.string s, .int .i64 (i + 1), .int .i64 1] w fun e w' => e = .returned (.bool T) ∧ w' = w) := by
    intro w; rw [HT.out]; exact tail_ok s (i + 1) 1 (by omega) (by omega) w
  have t0 : decide ((s[i].toNat : Int) < 128) = false := decide_eq_false (by omega)
  have t1 : decide (194 ≤ (s[i].toNat : Int)) = true := decide_eq_true (by omega)
  have t2 : decide ((s[i].toNat : Int) ≤ 223) = true := decide_eq_true (by omega)
  have t3 : ((s[i].toNat : Int) == 224) = false := by rw [beq_eq_false_iff_ne]; omega
  have t4 : ((s[i].toNat : Int) == 237) = false := by rw [beq_eq_false_iff_ne]; omega
  have t5 : decide (225 ≤ (s[i].toNat : Int)) = false := decide_eq_false (by omega)
  have t6 : decide ((s[i].toNat : Int) ≤ 239) = true := decide_eq_true (by omega)
  have t7 : ((s[i].toNat : Int) != 237) = true := by rw [bne_iff_ne]; omega
  have t8 : ((s[i].toNat : Int) == 240) = false := by rw [beq_eq_false_iff_ne]; omega
  have t9 : decide (241 ≤ (s[i].toNat : Int)) = false := decide_eq_false (by omega)
  have t10 : decide ((s[i].toNat : Int) ≤ 243) = true := decide_eq_true (by omega)
  have t11 : ((s[i].toNat : Int) == 244) = false := by rw [beq_eq_false_iff_ne]; omega
  cases T
  all_goals
    go_enter Tryd.func96, Tryd.ntmps96
    go_wp2_with fail
    refine calls_same (KT.out _) ?_
    go_wp2_with fail
    go_ret
    exact ⟨rfl, rfl⟩

theorem size_c (s : ByteArray) (i : Nat) (h0 : 224 ≤ (s.get! i).toNat) (h1 : (s.get! i).toNat ≤ 224) : sizeAt s i = if (btwB s (i + 1) 160 191 && tailB s (i + 2) 1) = true then 3 else 0 := by
  have e : ((btwB s (i + 1) 160 191 && tailB s (i + 2) 1) = true) = ((i + 1 < s.size ∧ 160 ≤ (s.get! (i + 1)).toNat ∧ (s.get! (i + 1)).toNat ≤ 191) ∧ (i + 2 < s.size ∧ 128 ≤ (s.get! (i + 2)).toNat ∧ (s.get! (i + 2)).toNat ≤ 191)) := by
    simp only [btwB, tailB, Bool.and_true, Bool.and_eq_true, decide_eq_true_eq, Nat.add_assoc, Nat.reduceAdd]
  unfold sizeAt sizeN
  simp only [e]
  by_cases h : (i + 1 < s.size ∧ 160 ≤ (s.get! (i + 1)).toNat ∧ (s.get! (i + 1)).toNat ≤ 191) ∧ (i + 2 < s.size ∧ 128 ≤ (s.get! (i + 2)).toNat ∧ (s.get! (i + 2)).toNat ≤ 191)
  · conv => rhs; rw [if_pos h]
    rw [if_neg (by omega), if_neg (by omega), if_pos (by omega)]
  · conv => rhs; rw [if_neg h]
    rw [if_neg (by omega), if_neg (by omega), if_neg (by omega), if_neg (by omega), if_neg (by omega), if_neg (by omega), if_neg (by omega), if_neg (by omega)]

set_option maxRecDepth 8000 in
set_option maxHeartbeats 2000000 in
theorem sizew_c (s : ByteArray) (i : Nat) (h : i < s.size) (hi : i ≤ 9223372036854770000) (g0 : 224 ≤ (s[i]'h).toNat) (g1 : (s[i]'h).toNat ≤ 224) (w : World) :
    Calls Tryd.prog 96 #[.string s, .int .i64 i] w fun e w' => e = .returned (.int .i64 (sizeAt s i)) ∧ w' = w := by
  have G := get_fin s i h
  rw [size_c s i (by omega) (by omega)]
  clear G
  have i0 : (0 : Int) ≤ (i : Int) := by omega
  have i1 : (i : Int) < (s.size : Int) := by omega
  obtain ⟨B, HB⟩ : ∃ B, Hid (B = btwB s (i + 1) 160 191) := ⟨_, Lib.hid rfl⟩
  rw [← HB.out]
  have KB : Hid (∀ w : World, Calls Tryd.prog 109 #[.string s, .int .i64 (i + 1), .int .u8 160, .int .u8 191] w fun e w' => e = .returned (.bool B) ∧ w' = w) := by
    intro w; rw [HB.out]; exact between_ok s (i + 1) 160 191 w
  obtain ⟨T, HT⟩ : ∃ T, Hid (T = tailB s (i + 2) 1) := ⟨_, Lib.hid rfl⟩
  rw [← HT.out]
  have KT : Hid (∀ w : World, Calls Tryd.prog 108 #[.string s, .int .i64 (i + 2), .int .i64 1] w fun e w' => e = .returned (.bool T) ∧ w' = w) := by
    intro w; rw [HT.out]; exact tail_ok s (i + 2) 1 (by omega) (by omega) w
  have t0 : decide ((s[i].toNat : Int) < 128) = false := decide_eq_false (by omega)
  have t1 : decide (194 ≤ (s[i].toNat : Int)) = true := decide_eq_true (by omega)
  have t2 : decide ((s[i].toNat : Int) ≤ 223) = false := decide_eq_false (by omega)
  have t3 : ((s[i].toNat : Int) == 224) = true := by rw [beq_iff_eq]; omega
  have t4 : ((s[i].toNat : Int) == 237) = false := by rw [beq_eq_false_iff_ne]; omega
  have t5 : decide (225 ≤ (s[i].toNat : Int)) = false := decide_eq_false (by omega)
  have t6 : decide ((s[i].toNat : Int) ≤ 239) = true := decide_eq_true (by omega)
  have t7 : ((s[i].toNat : Int) != 237) = true := by rw [bne_iff_ne]; omega
  have t8 : ((s[i].toNat : Int) == 240) = false := by rw [beq_eq_false_iff_ne]; omega
  have t9 : decide (241 ≤ (s[i].toNat : Int)) = false := decide_eq_false (by omega)
  have t10 : decide ((s[i].toNat : Int) ≤ 243) = true := decide_eq_true (by omega)
  have t11 : ((s[i].toNat : Int) == 244) = false := by rw [beq_eq_false_iff_ne]; omega
  cases B
  · go_enter Tryd.func96, Tryd.ntmps96
    go_wp2_with fail
    refine calls_same (KB.out _) ?_
    go_wp2_with fail
    go_ret
    exact ⟨rfl, rfl⟩
  cases T
  all_goals
    go_enter Tryd.func96, Tryd.ntmps96
    go_wp2_with fail
    refine calls_same (KB.out _) ?_
    go_wp2_with fail
    refine calls_same (KT.out _) ?_
    go_wp2_with fail
    go_ret
    exact ⟨rfl, rfl⟩

theorem size_e (s : ByteArray) (i : Nat) (h0 : 225 ≤ (s.get! i).toNat) (h1 : (s.get! i).toNat ≤ 236) : sizeAt s i = if (tailB s (i + 1) 2) = true then 3 else 0 := by
  have e : ((tailB s (i + 1) 2) = true) = ((i + 1 < s.size ∧ 128 ≤ (s.get! (i + 1)).toNat ∧ (s.get! (i + 1)).toNat ≤ 191) ∧ (i + 2 < s.size ∧ 128 ≤ (s.get! (i + 2)).toNat ∧ (s.get! (i + 2)).toNat ≤ 191)) := by
    simp only [btwB, tailB, Bool.and_true, Bool.and_eq_true, decide_eq_true_eq, Nat.add_assoc, Nat.reduceAdd]
  unfold sizeAt sizeN
  simp only [e]
  by_cases h : (i + 1 < s.size ∧ 128 ≤ (s.get! (i + 1)).toNat ∧ (s.get! (i + 1)).toNat ≤ 191) ∧ (i + 2 < s.size ∧ 128 ≤ (s.get! (i + 2)).toNat ∧ (s.get! (i + 2)).toNat ≤ 191)
  · conv => rhs; rw [if_pos h]
    rw [if_neg (by omega), if_neg (by omega), if_neg (by omega), if_neg (by omega), if_pos (by omega)]
  · conv => rhs; rw [if_neg h]
    rw [if_neg (by omega), if_neg (by omega), if_neg (by omega), if_neg (by omega), if_neg (by omega), if_neg (by omega), if_neg (by omega), if_neg (by omega)]

set_option maxRecDepth 8000 in
set_option maxHeartbeats 2000000 in
theorem sizew_e (s : ByteArray) (i : Nat) (h : i < s.size) (hi : i ≤ 9223372036854770000) (g0 : 225 ≤ (s[i]'h).toNat) (g1 : (s[i]'h).toNat ≤ 236) (w : World) :
    Calls Tryd.prog 96 #[.string s, .int .i64 i] w fun e w' => e = .returned (.int .i64 (sizeAt s i)) ∧ w' = w := by
  have G := get_fin s i h
  rw [size_e s i (by omega) (by omega)]
  clear G
  have i0 : (0 : Int) ≤ (i : Int) := by omega
  have i1 : (i : Int) < (s.size : Int) := by omega
  obtain ⟨T, HT⟩ : ∃ T, Hid (T = tailB s (i + 1) 2) := ⟨_, Lib.hid rfl⟩
  rw [← HT.out]
  have KT : Hid (∀ w : World, Calls Tryd.prog 108 #[.string s, .int .i64 (i + 1), .int .i64 2] w fun e w' => e = .returned (.bool T) ∧ w' = w) := by
    intro w; rw [HT.out]; exact tail_ok s (i + 1) 2 (by omega) (by omega) w
  have t0 : decide ((s[i].toNat : Int) < 128) = false := decide_eq_false (by omega)
  have t1 : decide (194 ≤ (s[i].toNat : Int)) = true := decide_eq_true (by omega)
  have t2 : decide ((s[i].toNat : Int) ≤ 223) = false := decide_eq_false (by omega)
  have t3 : ((s[i].toNat : Int) == 224) = false := by rw [beq_eq_false_iff_ne]; omega
  have t4 : ((s[i].toNat : Int) == 237) = false := by rw [beq_eq_false_iff_ne]; omega
  have t5 : decide (225 ≤ (s[i].toNat : Int)) = true := decide_eq_true (by omega)
  have t6 : decide ((s[i].toNat : Int) ≤ 239) = true := decide_eq_true (by omega)
  have t7 : ((s[i].toNat : Int) != 237) = true := by rw [bne_iff_ne]; omega
  have t8 : ((s[i].toNat : Int) == 240) = false := by rw [beq_eq_false_iff_ne]; omega
  have t9 : decide (241 ≤ (s[i].toNat : Int)) = false := decide_eq_false (by omega)
  have t10 : decide ((s[i].toNat : Int) ≤ 243) = true := decide_eq_true (by omega)
  have t11 : ((s[i].toNat : Int) == 244) = false := by rw [beq_eq_false_iff_ne]; omega
  cases T
  all_goals
    go_enter Tryd.func96, Tryd.ntmps96
    go_wp2_with fail
    refine calls_same (KT.out _) ?_
    go_wp2_with fail
    go_ret
    exact ⟨rfl, rfl⟩

theorem size_d (s : ByteArray) (i : Nat) (h0 : 237 ≤ (s.get! i).toNat) (h1 : (s.get! i).toNat ≤ 237) : sizeAt s i = if (btwB s (i + 1) 128 159 && tailB s (i + 2) 1) = true then 3 else 0 := by
  have e : ((btwB s (i + 1) 128 159 && tailB s (i + 2) 1) = true) = ((i + 1 < s.size ∧ 128 ≤ (s.get! (i + 1)).toNat ∧ (s.get! (i + 1)).toNat ≤ 159) ∧ (i + 2 < s.size ∧ 128 ≤ (s.get! (i + 2)).toNat ∧ (s.get! (i + 2)).toNat ≤ 191)) := by
    simp only [btwB, tailB, Bool.and_true, Bool.and_eq_true, decide_eq_true_eq, Nat.add_assoc, Nat.reduceAdd]
  unfold sizeAt sizeN
  simp only [e]
  by_cases h : (i + 1 < s.size ∧ 128 ≤ (s.get! (i + 1)).toNat ∧ (s.get! (i + 1)).toNat ≤ 159) ∧ (i + 2 < s.size ∧ 128 ≤ (s.get! (i + 2)).toNat ∧ (s.get! (i + 2)).toNat ≤ 191)
  · conv => rhs; rw [if_pos h]
    rw [if_neg (by omega), if_neg (by omega), if_neg (by omega), if_pos (by omega)]
  · conv => rhs; rw [if_neg h]
    rw [if_neg (by omega), if_neg (by omega), if_neg (by omega), if_neg (by omega), if_neg (by omega), if_neg (by omega), if_neg (by omega), if_neg (by omega)]

set_option maxRecDepth 8000 in
set_option maxHeartbeats 2000000 in
theorem sizew_d (s : ByteArray) (i : Nat) (h : i < s.size) (hi : i ≤ 9223372036854770000) (g0 : 237 ≤ (s[i]'h).toNat) (g1 : (s[i]'h).toNat ≤ 237) (w : World) :
    Calls Tryd.prog 96 #[.string s, .int .i64 i] w fun e w' => e = .returned (.int .i64 (sizeAt s i)) ∧ w' = w := by
  have G := get_fin s i h
  rw [size_d s i (by omega) (by omega)]
  clear G
  have i0 : (0 : Int) ≤ (i : Int) := by omega
  have i1 : (i : Int) < (s.size : Int) := by omega
  obtain ⟨B, HB⟩ : ∃ B, Hid (B = btwB s (i + 1) 128 159) := ⟨_, Lib.hid rfl⟩
  rw [← HB.out]
  have KB : Hid (∀ w : World, Calls Tryd.prog 109 #[.string s, .int .i64 (i + 1), .int .u8 128, .int .u8 159] w fun e w' => e = .returned (.bool B) ∧ w' = w) := by
    intro w; rw [HB.out]; exact between_ok s (i + 1) 128 159 w
  obtain ⟨T, HT⟩ : ∃ T, Hid (T = tailB s (i + 2) 1) := ⟨_, Lib.hid rfl⟩
  rw [← HT.out]
  have KT : Hid (∀ w : World, Calls Tryd.prog 108 #[.string s, .int .i64 (i + 2), .int .i64 1] w fun e w' => e = .returned (.bool T) ∧ w' = w) := by
    intro w; rw [HT.out]; exact tail_ok s (i + 2) 1 (by omega) (by omega) w
  have t0 : decide ((s[i].toNat : Int) < 128) = false := decide_eq_false (by omega)
  have t1 : decide (194 ≤ (s[i].toNat : Int)) = true := decide_eq_true (by omega)
  have t2 : decide ((s[i].toNat : Int) ≤ 223) = false := decide_eq_false (by omega)
  have t3 : ((s[i].toNat : Int) == 224) = false := by rw [beq_eq_false_iff_ne]; omega
  have t4 : ((s[i].toNat : Int) == 237) = true := by rw [beq_iff_eq]; omega
  have t5 : decide (225 ≤ (s[i].toNat : Int)) = true := decide_eq_true (by omega)
  have t6 : decide ((s[i].toNat : Int) ≤ 239) = true := decide_eq_true (by omega)
  have t7 : ((s[i].toNat : Int) != 237) = false := by rw [bne_eq_false_iff_eq]; omega
  have t8 : ((s[i].toNat : Int) == 240) = false := by rw [beq_eq_false_iff_ne]; omega
  have t9 : decide (241 ≤ (s[i].toNat : Int)) = false := decide_eq_false (by omega)
  have t10 : decide ((s[i].toNat : Int) ≤ 243) = true := decide_eq_true (by omega)
  have t11 : ((s[i].toNat : Int) == 244) = false := by rw [beq_eq_false_iff_ne]; omega
  cases B
  · go_enter Tryd.func96, Tryd.ntmps96
    go_wp2_with fail
    refine calls_same (KB.out _) ?_
    go_wp2_with fail
    go_ret
    exact ⟨rfl, rfl⟩
  cases T
  all_goals
    go_enter Tryd.func96, Tryd.ntmps96
    go_wp2_with fail
    refine calls_same (KB.out _) ?_
    go_wp2_with fail
    refine calls_same (KT.out _) ?_
    go_wp2_with fail
    go_ret
    exact ⟨rfl, rfl⟩

theorem size_e2 (s : ByteArray) (i : Nat) (h0 : 238 ≤ (s.get! i).toNat) (h1 : (s.get! i).toNat ≤ 239) : sizeAt s i = if (tailB s (i + 1) 2) = true then 3 else 0 := by
  have e : ((tailB s (i + 1) 2) = true) = ((i + 1 < s.size ∧ 128 ≤ (s.get! (i + 1)).toNat ∧ (s.get! (i + 1)).toNat ≤ 191) ∧ (i + 2 < s.size ∧ 128 ≤ (s.get! (i + 2)).toNat ∧ (s.get! (i + 2)).toNat ≤ 191)) := by
    simp only [btwB, tailB, Bool.and_true, Bool.and_eq_true, decide_eq_true_eq, Nat.add_assoc, Nat.reduceAdd]
  unfold sizeAt sizeN
  simp only [e]
  by_cases h : (i + 1 < s.size ∧ 128 ≤ (s.get! (i + 1)).toNat ∧ (s.get! (i + 1)).toNat ≤ 191) ∧ (i + 2 < s.size ∧ 128 ≤ (s.get! (i + 2)).toNat ∧ (s.get! (i + 2)).toNat ≤ 191)
  · conv => rhs; rw [if_pos h]
    rw [if_neg (by omega), if_neg (by omega), if_neg (by omega), if_neg (by omega), if_pos (by omega)]
  · conv => rhs; rw [if_neg h]
    rw [if_neg (by omega), if_neg (by omega), if_neg (by omega), if_neg (by omega), if_neg (by omega), if_neg (by omega), if_neg (by omega), if_neg (by omega)]

set_option maxRecDepth 8000 in
set_option maxHeartbeats 2000000 in
theorem sizew_e2 (s : ByteArray) (i : Nat) (h : i < s.size) (hi : i ≤ 9223372036854770000) (g0 : 238 ≤ (s[i]'h).toNat) (g1 : (s[i]'h).toNat ≤ 239) (w : World) :
    Calls Tryd.prog 96 #[.string s, .int .i64 i] w fun e w' => e = .returned (.int .i64 (sizeAt s i)) ∧ w' = w := by
  have G := get_fin s i h
  rw [size_e2 s i (by omega) (by omega)]
  clear G
  have i0 : (0 : Int) ≤ (i : Int) := by omega
  have i1 : (i : Int) < (s.size : Int) := by omega
  obtain ⟨T, HT⟩ : ∃ T, Hid (T = tailB s (i + 1) 2) := ⟨_, Lib.hid rfl⟩
  rw [← HT.out]
  have KT : Hid (∀ w : World, Calls Tryd.prog 108 #[.string s, .int .i64 (i + 1), .int .i64 2] w fun e w' => e = .returned (.bool T) ∧ w' = w) := by
    intro w; rw [HT.out]; exact tail_ok s (i + 1) 2 (by omega) (by omega) w
  have t0 : decide ((s[i].toNat : Int) < 128) = false := decide_eq_false (by omega)
  have t1 : decide (194 ≤ (s[i].toNat : Int)) = true := decide_eq_true (by omega)
  have t2 : decide ((s[i].toNat : Int) ≤ 223) = false := decide_eq_false (by omega)
  have t3 : ((s[i].toNat : Int) == 224) = false := by rw [beq_eq_false_iff_ne]; omega
  have t4 : ((s[i].toNat : Int) == 237) = false := by rw [beq_eq_false_iff_ne]; omega
  have t5 : decide (225 ≤ (s[i].toNat : Int)) = true := decide_eq_true (by omega)
  have t6 : decide ((s[i].toNat : Int) ≤ 239) = true := decide_eq_true (by omega)
  have t7 : ((s[i].toNat : Int) != 237) = true := by rw [bne_iff_ne]; omega
  have t8 : ((s[i].toNat : Int) == 240) = false := by rw [beq_eq_false_iff_ne]; omega
  have t9 : decide (241 ≤ (s[i].toNat : Int)) = false := decide_eq_false (by omega)
  have t10 : decide ((s[i].toNat : Int) ≤ 243) = true := decide_eq_true (by omega)
  have t11 : ((s[i].toNat : Int) == 244) = false := by rw [beq_eq_false_iff_ne]; omega
  cases T
  all_goals
    go_enter Tryd.func96, Tryd.ntmps96
    go_wp2_with fail
    refine calls_same (KT.out _) ?_
    go_wp2_with fail
    go_ret
    exact ⟨rfl, rfl⟩

theorem size_f (s : ByteArray) (i : Nat) (h0 : 240 ≤ (s.get! i).toNat) (h1 : (s.get! i).toNat ≤ 240) : sizeAt s i = if (btwB s (i + 1) 144 191 && tailB s (i + 2) 2) = true then 4 else 0 := by
  have e : ((btwB s (i + 1) 144 191 && tailB s (i + 2) 2) = true) = ((i + 1 < s.size ∧ 144 ≤ (s.get! (i + 1)).toNat ∧ (s.get! (i + 1)).toNat ≤ 191) ∧ (i + 2 < s.size ∧ 128 ≤ (s.get! (i + 2)).toNat ∧ (s.get! (i + 2)).toNat ≤ 191) ∧ (i + 3 < s.size ∧ 128 ≤ (s.get! (i + 3)).toNat ∧ (s.get! (i + 3)).toNat ≤ 191)) := by
    simp only [btwB, tailB, Bool.and_true, Bool.and_eq_true, decide_eq_true_eq, Nat.add_assoc, Nat.reduceAdd]
  unfold sizeAt sizeN
  simp only [e]
  by_cases h : (i + 1 < s.size ∧ 144 ≤ (s.get! (i + 1)).toNat ∧ (s.get! (i + 1)).toNat ≤ 191) ∧ (i + 2 < s.size ∧ 128 ≤ (s.get! (i + 2)).toNat ∧ (s.get! (i + 2)).toNat ≤ 191) ∧ (i + 3 < s.size ∧ 128 ≤ (s.get! (i + 3)).toNat ∧ (s.get! (i + 3)).toNat ≤ 191)
  · conv => rhs; rw [if_pos h]
    rw [if_neg (by omega), if_neg (by omega), if_neg (by omega), if_neg (by omega), if_neg (by omega), if_pos (by omega)]
  · conv => rhs; rw [if_neg h]
    rw [if_neg (by omega), if_neg (by omega), if_neg (by omega), if_neg (by omega), if_neg (by omega), if_neg (by omega), if_neg (by omega), if_neg (by omega)]

set_option maxRecDepth 8000 in
set_option maxHeartbeats 2000000 in
theorem sizew_f (s : ByteArray) (i : Nat) (h : i < s.size) (hi : i ≤ 9223372036854770000) (g0 : 240 ≤ (s[i]'h).toNat) (g1 : (s[i]'h).toNat ≤ 240) (w : World) :
    Calls Tryd.prog 96 #[.string s, .int .i64 i] w fun e w' => e = .returned (.int .i64 (sizeAt s i)) ∧ w' = w := by
  have G := get_fin s i h
  rw [size_f s i (by omega) (by omega)]
  clear G
  have i0 : (0 : Int) ≤ (i : Int) := by omega
  have i1 : (i : Int) < (s.size : Int) := by omega
  obtain ⟨B, HB⟩ : ∃ B, Hid (B = btwB s (i + 1) 144 191) := ⟨_, Lib.hid rfl⟩
  rw [← HB.out]
  have KB : Hid (∀ w : World, Calls Tryd.prog 109 #[.string s, .int .i64 (i + 1), .int .u8 144, .int .u8 191] w fun e w' => e = .returned (.bool B) ∧ w' = w) := by
    intro w; rw [HB.out]; exact between_ok s (i + 1) 144 191 w
  obtain ⟨T, HT⟩ : ∃ T, Hid (T = tailB s (i + 2) 2) := ⟨_, Lib.hid rfl⟩
  rw [← HT.out]
  have KT : Hid (∀ w : World, Calls Tryd.prog 108 #[.string s, .int .i64 (i + 2), .int .i64 2] w fun e w' => e = .returned (.bool T) ∧ w' = w) := by
    intro w; rw [HT.out]; exact tail_ok s (i + 2) 2 (by omega) (by omega) w
  have t0 : decide ((s[i].toNat : Int) < 128) = false := decide_eq_false (by omega)
  have t1 : decide (194 ≤ (s[i].toNat : Int)) = true := decide_eq_true (by omega)
  have t2 : decide ((s[i].toNat : Int) ≤ 223) = false := decide_eq_false (by omega)
  have t3 : ((s[i].toNat : Int) == 224) = false := by rw [beq_eq_false_iff_ne]; omega
  have t4 : ((s[i].toNat : Int) == 237) = false := by rw [beq_eq_false_iff_ne]; omega
  have t5 : decide (225 ≤ (s[i].toNat : Int)) = true := decide_eq_true (by omega)
  have t6 : decide ((s[i].toNat : Int) ≤ 239) = false := decide_eq_false (by omega)
  have t7 : ((s[i].toNat : Int) != 237) = true := by rw [bne_iff_ne]; omega
  have t8 : ((s[i].toNat : Int) == 240) = true := by rw [beq_iff_eq]; omega
  have t9 : decide (241 ≤ (s[i].toNat : Int)) = false := decide_eq_false (by omega)
  have t10 : decide ((s[i].toNat : Int) ≤ 243) = true := decide_eq_true (by omega)
  have t11 : ((s[i].toNat : Int) == 244) = false := by rw [beq_eq_false_iff_ne]; omega
  cases B
  · go_enter Tryd.func96, Tryd.ntmps96
    go_wp2_with fail
    refine calls_same (KB.out _) ?_
    go_wp2_with fail
    go_ret
    exact ⟨rfl, rfl⟩
  cases T
  all_goals
    go_enter Tryd.func96, Tryd.ntmps96
    go_wp2_with fail
    refine calls_same (KB.out _) ?_
    go_wp2_with fail
    refine calls_same (KT.out _) ?_
    go_wp2_with fail
    go_ret
    exact ⟨rfl, rfl⟩

theorem size_g (s : ByteArray) (i : Nat) (h0 : 241 ≤ (s.get! i).toNat) (h1 : (s.get! i).toNat ≤ 243) : sizeAt s i = if (tailB s (i + 1) 3) = true then 4 else 0 := by
  have e : ((tailB s (i + 1) 3) = true) = ((i + 1 < s.size ∧ 128 ≤ (s.get! (i + 1)).toNat ∧ (s.get! (i + 1)).toNat ≤ 191) ∧ (i + 2 < s.size ∧ 128 ≤ (s.get! (i + 2)).toNat ∧ (s.get! (i + 2)).toNat ≤ 191) ∧ (i + 3 < s.size ∧ 128 ≤ (s.get! (i + 3)).toNat ∧ (s.get! (i + 3)).toNat ≤ 191)) := by
    simp only [btwB, tailB, Bool.and_true, Bool.and_eq_true, decide_eq_true_eq, Nat.add_assoc, Nat.reduceAdd]
  unfold sizeAt sizeN
  simp only [e]
  by_cases h : (i + 1 < s.size ∧ 128 ≤ (s.get! (i + 1)).toNat ∧ (s.get! (i + 1)).toNat ≤ 191) ∧ (i + 2 < s.size ∧ 128 ≤ (s.get! (i + 2)).toNat ∧ (s.get! (i + 2)).toNat ≤ 191) ∧ (i + 3 < s.size ∧ 128 ≤ (s.get! (i + 3)).toNat ∧ (s.get! (i + 3)).toNat ≤ 191)
  · conv => rhs; rw [if_pos h]
    rw [if_neg (by omega), if_neg (by omega), if_neg (by omega), if_neg (by omega), if_neg (by omega), if_neg (by omega), if_pos (by omega)]
  · conv => rhs; rw [if_neg h]
    rw [if_neg (by omega), if_neg (by omega), if_neg (by omega), if_neg (by omega), if_neg (by omega), if_neg (by omega), if_neg (by omega), if_neg (by omega)]

set_option maxRecDepth 8000 in
set_option maxHeartbeats 2000000 in
theorem sizew_g (s : ByteArray) (i : Nat) (h : i < s.size) (hi : i ≤ 9223372036854770000) (g0 : 241 ≤ (s[i]'h).toNat) (g1 : (s[i]'h).toNat ≤ 243) (w : World) :
    Calls Tryd.prog 96 #[.string s, .int .i64 i] w fun e w' => e = .returned (.int .i64 (sizeAt s i)) ∧ w' = w := by
  have G := get_fin s i h
  rw [size_g s i (by omega) (by omega)]
  clear G
  have i0 : (0 : Int) ≤ (i : Int) := by omega
  have i1 : (i : Int) < (s.size : Int) := by omega
  obtain ⟨T, HT⟩ : ∃ T, Hid (T = tailB s (i + 1) 3) := ⟨_, Lib.hid rfl⟩
  rw [← HT.out]
  have KT : Hid (∀ w : World, Calls Tryd.prog 108 #[.string s, .int .i64 (i + 1), .int .i64 3] w fun e w' => e = .returned (.bool T) ∧ w' = w) := by
    intro w; rw [HT.out]; exact tail_ok s (i + 1) 3 (by omega) (by omega) w
  have t0 : decide ((s[i].toNat : Int) < 128) = false := decide_eq_false (by omega)
  have t1 : decide (194 ≤ (s[i].toNat : Int)) = true := decide_eq_true (by omega)
  have t2 : decide ((s[i].toNat : Int) ≤ 223) = false := decide_eq_false (by omega)
  have t3 : ((s[i].toNat : Int) == 224) = false := by rw [beq_eq_false_iff_ne]; omega
  have t4 : ((s[i].toNat : Int) == 237) = false := by rw [beq_eq_false_iff_ne]; omega
  have t5 : decide (225 ≤ (s[i].toNat : Int)) = true := decide_eq_true (by omega)
  have t6 : decide ((s[i].toNat : Int) ≤ 239) = false := decide_eq_false (by omega)
  have t7 : ((s[i].toNat : Int) != 237) = true := by rw [bne_iff_ne]; omega
  have t8 : ((s[i].toNat : Int) == 240) = false := by rw [beq_eq_false_iff_ne]; omega
  have t9 : decide (241 ≤ (s[i].toNat : Int)) = true := decide_eq_true (by omega)
  have t10 : decide ((s[i].toNat : Int) ≤ 243) = true := decide_eq_true (by omega)
  have t11 : ((s[i].toNat : Int) == 244) = false := by rw [beq_eq_false_iff_ne]; omega
  cases T
  all_goals
    go_enter Tryd.func96, Tryd.ntmps96
    go_wp2_with fail
    refine calls_same (KT.out _) ?_
    go_wp2_with fail
    go_ret
    exact ⟨rfl, rfl⟩

theorem size_h (s : ByteArray) (i : Nat) (h0 : 244 ≤ (s.get! i).toNat) (h1 : (s.get! i).toNat ≤ 244) : sizeAt s i = if (btwB s (i + 1) 128 143 && tailB s (i + 2) 2) = true then 4 else 0 := by
  have e : ((btwB s (i + 1) 128 143 && tailB s (i + 2) 2) = true) = ((i + 1 < s.size ∧ 128 ≤ (s.get! (i + 1)).toNat ∧ (s.get! (i + 1)).toNat ≤ 143) ∧ (i + 2 < s.size ∧ 128 ≤ (s.get! (i + 2)).toNat ∧ (s.get! (i + 2)).toNat ≤ 191) ∧ (i + 3 < s.size ∧ 128 ≤ (s.get! (i + 3)).toNat ∧ (s.get! (i + 3)).toNat ≤ 191)) := by
    simp only [btwB, tailB, Bool.and_true, Bool.and_eq_true, decide_eq_true_eq, Nat.add_assoc, Nat.reduceAdd]
  unfold sizeAt sizeN
  simp only [e]
  by_cases h : (i + 1 < s.size ∧ 128 ≤ (s.get! (i + 1)).toNat ∧ (s.get! (i + 1)).toNat ≤ 143) ∧ (i + 2 < s.size ∧ 128 ≤ (s.get! (i + 2)).toNat ∧ (s.get! (i + 2)).toNat ≤ 191) ∧ (i + 3 < s.size ∧ 128 ≤ (s.get! (i + 3)).toNat ∧ (s.get! (i + 3)).toNat ≤ 191)
  · conv => rhs; rw [if_pos h]
    rw [if_neg (by omega), if_neg (by omega), if_neg (by omega), if_neg (by omega), if_neg (by omega), if_neg (by omega), if_neg (by omega), if_pos (by omega)]
  · conv => rhs; rw [if_neg h]
    rw [if_neg (by omega), if_neg (by omega), if_neg (by omega), if_neg (by omega), if_neg (by omega), if_neg (by omega), if_neg (by omega), if_neg (by omega)]

set_option maxRecDepth 8000 in
set_option maxHeartbeats 2000000 in
theorem sizew_h (s : ByteArray) (i : Nat) (h : i < s.size) (hi : i ≤ 9223372036854770000) (g0 : 244 ≤ (s[i]'h).toNat) (g1 : (s[i]'h).toNat ≤ 244) (w : World) :
    Calls Tryd.prog 96 #[.string s, .int .i64 i] w fun e w' => e = .returned (.int .i64 (sizeAt s i)) ∧ w' = w := by
  have G := get_fin s i h
  rw [size_h s i (by omega) (by omega)]
  clear G
  have i0 : (0 : Int) ≤ (i : Int) := by omega
  have i1 : (i : Int) < (s.size : Int) := by omega
  obtain ⟨B, HB⟩ : ∃ B, Hid (B = btwB s (i + 1) 128 143) := ⟨_, Lib.hid rfl⟩
  rw [← HB.out]
  have KB : Hid (∀ w : World, Calls Tryd.prog 109 #[.string s, .int .i64 (i + 1), .int .u8 128, .int .u8 143] w fun e w' => e = .returned (.bool B) ∧ w' = w) := by
    intro w; rw [HB.out]; exact between_ok s (i + 1) 128 143 w
  obtain ⟨T, HT⟩ : ∃ T, Hid (T = tailB s (i + 2) 2) := ⟨_, Lib.hid rfl⟩
  rw [← HT.out]
  have KT : Hid (∀ w : World, Calls Tryd.prog 108 #[.string s, .int .i64 (i + 2), .int .i64 2] w fun e w' => e = .returned (.bool T) ∧ w' = w) := by
    intro w; rw [HT.out]; exact tail_ok s (i + 2) 2 (by omega) (by omega) w
  have t0 : decide ((s[i].toNat : Int) < 128) = false := decide_eq_false (by omega)
  have t1 : decide (194 ≤ (s[i].toNat : Int)) = true := decide_eq_true (by omega)
  have t2 : decide ((s[i].toNat : Int) ≤ 223) = false := decide_eq_false (by omega)
  have t3 : ((s[i].toNat : Int) == 224) = false := by rw [beq_eq_false_iff_ne]; omega
  have t4 : ((s[i].toNat : Int) == 237) = false := by rw [beq_eq_false_iff_ne]; omega
  have t5 : decide (225 ≤ (s[i].toNat : Int)) = true := decide_eq_true (by omega)
  have t6 : decide ((s[i].toNat : Int) ≤ 239) = false := decide_eq_false (by omega)
  have t7 : ((s[i].toNat : Int) != 237) = true := by rw [bne_iff_ne]; omega
  have t8 : ((s[i].toNat : Int) == 240) = false := by rw [beq_eq_false_iff_ne]; omega
  have t9 : decide (241 ≤ (s[i].toNat : Int)) = true := decide_eq_true (by omega)
  have t10 : decide ((s[i].toNat : Int) ≤ 243) = false := decide_eq_false (by omega)
  have t11 : ((s[i].toNat : Int) == 244) = true := by rw [beq_iff_eq]; omega
  cases B
  · go_enter Tryd.func96, Tryd.ntmps96
    go_wp2_with fail
    refine calls_same (KB.out _) ?_
    go_wp2_with fail
    go_ret
    exact ⟨rfl, rfl⟩
  cases T
  all_goals
    go_enter Tryd.func96, Tryd.ntmps96
    go_wp2_with fail
    refine calls_same (KB.out _) ?_
    go_wp2_with fail
    refine calls_same (KT.out _) ?_
    go_wp2_with fail
    go_ret
    exact ⟨rfl, rfl⟩

theorem size_z2 (s : ByteArray) (i : Nat) (h0 : 245 ≤ (s.get! i).toNat) (h1 : (s.get! i).toNat ≤ 255) : sizeAt s i = 0 := by
  unfold sizeAt sizeN
  rw [if_neg (by omega), if_neg (by omega), if_neg (by omega), if_neg (by omega), if_neg (by omega), if_neg (by omega), if_neg (by omega), if_neg (by omega)]

set_option maxRecDepth 8000 in
set_option maxHeartbeats 2000000 in
theorem sizew_z2 (s : ByteArray) (i : Nat) (h : i < s.size) (hi : i ≤ 9223372036854770000) (g0 : 245 ≤ (s[i]'h).toNat) (g1 : (s[i]'h).toNat ≤ 255) (w : World) :
    Calls Tryd.prog 96 #[.string s, .int .i64 i] w fun e w' => e = .returned (.int .i64 (sizeAt s i)) ∧ w' = w := by
  have G := get_fin s i h
  rw [size_z2 s i (by omega) (by omega)]
  clear G
  have i0 : (0 : Int) ≤ (i : Int) := by omega
  have i1 : (i : Int) < (s.size : Int) := by omega
  have t0 : decide ((s[i].toNat : Int) < 128) = false := decide_eq_false (by omega)
  have t1 : decide (194 ≤ (s[i].toNat : Int)) = true := decide_eq_true (by omega)
  have t2 : decide ((s[i].toNat : Int) ≤ 223) = false := decide_eq_false (by omega)
  have t3 : ((s[i].toNat : Int) == 224) = false := by rw [beq_eq_false_iff_ne]; omega
  have t4 : ((s[i].toNat : Int) == 237) = false := by rw [beq_eq_false_iff_ne]; omega
  have t5 : decide (225 ≤ (s[i].toNat : Int)) = true := decide_eq_true (by omega)
  have t6 : decide ((s[i].toNat : Int) ≤ 239) = false := decide_eq_false (by omega)
  have t7 : ((s[i].toNat : Int) != 237) = true := by rw [bne_iff_ne]; omega
  have t8 : ((s[i].toNat : Int) == 240) = false := by rw [beq_eq_false_iff_ne]; omega
  have t9 : decide (241 ≤ (s[i].toNat : Int)) = true := decide_eq_true (by omega)
  have t10 : decide ((s[i].toNat : Int) ≤ 243) = false := decide_eq_false (by omega)
  have t11 : ((s[i].toNat : Int) == 244) = false := by rw [beq_eq_false_iff_ne]; omega
  go_enter Tryd.func96, Tryd.ntmps96
  go_wp2_with fail
  go_ret
  exact ⟨rfl, rfl⟩

theorem size_ok (s : ByteArray) (i : Nat) (h : i < s.size) (hi : i ≤ 9223372036854770000) (w : World) :
    Calls Tryd.prog 96 #[.string s, .int .i64 i] w fun e w' => e = .returned (.int .i64 (sizeAt s i)) ∧ w' = w := by
  have hb : (s[i]'h).toNat < 256 := UInt8.toNat_lt _
  by_cases ca : (s[i]'h).toNat ≤ 127
  · exact sizew_a s i h hi (by omega) ca w
  by_cases cz1 : (s[i]'h).toNat ≤ 193
  · exact sizew_z1 s i h hi (by omega) cz1 w
  by_cases cb : (s[i]'h).toNat ≤ 223
  · exact sizew_b s i h hi (by omega) cb w
  by_cases cc : (s[i]'h).toNat ≤ 224
  · exact sizew_c s i h hi (by omega) cc w
  by_cases ce : (s[i]'h).toNat ≤ 236
  · exact sizew_e s i h hi (by omega) ce w
  by_cases cd : (s[i]'h).toNat ≤ 237
  · exact sizew_d s i h hi (by omega) cd w
  by_cases ce2 : (s[i]'h).toNat ≤ 239
  · exact sizew_e2 s i h hi (by omega) ce2 w
  by_cases cf : (s[i]'h).toNat ≤ 240
  · exact sizew_f s i h hi (by omega) cf w
  by_cases cg : (s[i]'h).toNat ≤ 243
  · exact sizew_g s i h hi (by omega) cg w
  by_cases ch : (s[i]'h).toNat ≤ 244
  · exact sizew_h s i h hi (by omega) ch w
  · exact sizew_z2 s i h hi (by omega) (by omega) w
end Go.Proofs.YtlgpoapedgodoaaDoor
