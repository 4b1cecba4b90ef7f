/- The reference's lone and Fits. -/
import Derived.Test.YtlgpoapedgodoaaDoorFitsB
namespace Go.Proofs.YtlgpoapedgodoaaDoor
open Go.RowKit
set_option linter.unusedVariables false
set_option linter.unusedSimpArgs false

set_option maxRecDepth 4000 in
set_option maxHeartbeats 2000000 in
theorem lone_ok (k z : Int) (t : ByteArray) (l1 l2 l3 l4 c1 c2 c3 c4 : Nat) (d1 d2 d3 d4 : Option Addr) (w : World) :
    Calls Tryd.prog 61 #[.agg #[.int .i64 k, .int .u64 z, .string t, .slice d1 l1 c1, .slice d2 l2 c2, .slice d3 l3 c3, .slice d4 l4 c4]] w fun e w' => e = .returned (.bool (noneB l1 l2 l3 l4)) ∧ Below w.heap.size w w' := by
  obtain ⟨R, HR⟩ : ∃ R, Hid (R = noneB l1 l2 l3 l4) := ⟨_, Lib.hid rfl⟩
  rw [← HR.out]

  by_cases z1 : l1 = 0
  case neg =>
    have b : ((l1 : Int) == 0) = false := by rw [beq_eq_false_iff_ne]; omega
    have HN : Hid (R = false) := Lib.hid (by rw [HR.out]; exact decide_eq_false (fun x => z1 (by omega)))
    clear z1
    go_enter Tryd.func61, Tryd.ntmps61
    go_wp2_with fail
    go_ret
    exact ⟨ret_bool HN.out.symm, by go_grown⟩
  have b1 : ((l1 : Int) == 0) = true := by rw [beq_iff_eq]; omega
  by_cases z2 : l2 = 0
  case neg =>
    have b : ((l2 : Int) == 0) = false := by rw [beq_eq_false_iff_ne]; omega
    have HN : Hid (R = false) := Lib.hid (by rw [HR.out]; exact decide_eq_false (fun x => z2 (by omega)))
    clear z2
    go_enter Tryd.func61, Tryd.ntmps61
    go_wp2_with fail
    go_ret
    exact ⟨ret_bool HN.out.symm, by go_grown⟩
  have b2 : ((l2 : Int) == 0) = true := by rw [beq_iff_eq]; omega
  by_cases z3 : l3 = 0
  case neg =>
    have b : ((l3 : Int) == 0) = false := by rw [beq_eq_false_iff_ne]; omega
    have HN : Hid (R = false) := Lib.hid (by rw [HR.out]; exact decide_eq_false (fun x => z3 (by omega)))
    clear z3
    go_enter Tryd.func61, Tryd.ntmps61
    go_wp2_with fail
    go_ret
    exact ⟨ret_bool HN.out.symm, by go_grown⟩
  have b3 : ((l3 : Int) == 0) = true := by rw [beq_iff_eq]; omega
  by_cases z4 : l4 = 0
  case neg =>
    have b : ((l4 : Int) == 0) = false := by rw [beq_eq_false_iff_ne]; omega
    have HN : Hid (R = false) := Lib.hid (by rw [HR.out]; exact decide_eq_false (fun x => z4 (by omega)))
    clear z4
    go_enter Tryd.func61, Tryd.ntmps61
    go_wp2_with fail
    go_ret
    exact ⟨ret_bool HN.out.symm, by go_grown⟩
  have b4 : ((l4 : Int) == 0) = true := by rw [beq_iff_eq]; omega
  have HN : Hid (R = true) := Lib.hid (by rw [HR.out]; exact decide_eq_true ⟨z1, z2, z3, z4⟩)
  clear z1 z2 z3 z4
  go_enter Tryd.func61, Tryd.ntmps61
  go_wp2_with fail
  go_ret
  exact ⟨ret_bool HN.out.symm, by go_grown⟩

def RFitsAt (kind k z : Int) (t : ByteArray) (l1 l2 l3 l4 c1 c2 c3 c4 : Nat) (d1 d2 d3 d4 : Option Addr) (R : Bool) (w : World) : Prop :=
  Calls Tryd.prog 21 #[.int .i64 kind, .agg #[.int .i64 k, .int .u64 z, .string t, .slice d1 l1 c1, .slice d2 l2 c2, .slice d3 l3 c3, .slice d4 l4 c4]] w fun e w' => e = .returned (.bool R) ∧ Below w.heap.size w w'


set_option maxRecDepth 8000 in
set_option maxHeartbeats 2000000 in
theorem rfits_not (kind k z : Int) (t : ByteArray) (l1 l2 l3 l4 c1 c2 c3 c4 : Nat) (d1 d2 d3 d4 : Option Addr) (w : World) (KI : Hid (∀ w : World, Calls Tryd.prog 58 #[.int .i64 kind] w fun e w' => e = .returned (.bool false) ∧ w' = w)) : RFitsAt kind k z t l1 l2 l3 l4 c1 c2 c3 c4 d1 d2 d3 d4 false w := by
  unfold RFitsAt
  go_enter Tryd.func21, Tryd.ntmps21
  go_wp2_with fail
  refine calls_box1 ?_
  intro W hA hb
  have HB := Lib.hid hb
  have HA := Lib.hid hA
  clear hA hb
  refine calls_same (KI.out _) ?_
  go_wp2_with fail
  go_ret
  exact ⟨rfl, HB.out⟩


set_option maxRecDepth 8000 in
set_option maxHeartbeats 2000000 in
theorem rfits_ne (kind k z : Int) (t : ByteArray) (l1 l2 l3 l4 c1 c2 c3 c4 : Nat) (d1 d2 d3 d4 : Option Addr) (w : World) (KI : Hid (∀ w : World, Calls Tryd.prog 58 #[.int .i64 kind] w fun e w' => e = .returned (.bool true) ∧ w' = w)) (hk : (k != kind) = true) : RFitsAt kind k z t l1 l2 l3 l4 c1 c2 c3 c4 d1 d2 d3 d4 false w := by
  unfold RFitsAt
  go_enter Tryd.func21, Tryd.ntmps21
  go_wp2_with fail
  refine calls_box1 ?_
  intro W hA hb
  have HB := Lib.hid hb
  have HA := Lib.hid hA
  clear hA hb
  refine calls_same (KI.out _) ?_
  obtain ⟨a0, a1, a2, a3, a4, a5, a6⟩ := cells7 HA.out
  go_wp2_with fail
  clear a0 a1 a2 a3 a4 a5 a6
  go_ret
  exact ⟨rfl, HB.out⟩


set_option maxRecDepth 8000 in
set_option maxHeartbeats 2000000 in
theorem rfits_lone (kind k z : Int) (t : ByteArray) (l1 l2 l3 l4 c1 c2 c3 c4 : Nat) (d1 d2 d3 d4 : Option Addr) (w : World) (KI : Hid (∀ w : World, Calls Tryd.prog 58 #[.int .i64 kind] w fun e w' => e = .returned (.bool true) ∧ w' = w)) (hk : (k != kind) = false) (KL : Hid (∀ w : World, Calls Tryd.prog 61 #[.agg #[.int .i64 k, .int .u64 z, .string t, .slice d1 l1 c1, .slice d2 l2 c2, .slice d3 l3 c3, .slice d4 l4 c4]] w fun e w' => e = .returned (.bool false) ∧ Below w.heap.size w w')) : RFitsAt kind k z t l1 l2 l3 l4 c1 c2 c3 c4 d1 d2 d3 d4 false w := by
  unfold RFitsAt
  go_enter Tryd.func21, Tryd.ntmps21
  go_wp2_with fail
  refine calls_box1 ?_
  intro W hA hb
  have HB := Lib.hid hb
  have HA := Lib.hid hA
  clear hA hb
  refine calls_same (KI.out _) ?_
  obtain ⟨a0, a1, a2, a3, a4, a5, a6⟩ := cells7 HA.out
  go_wp2_with fail
  clear a0 a1 a2 a3 a4 a5 a6
  refine calls_on (KL.out _) ?_
  intro w2 hb2
  have HB2 := Lib.hid (above HB.out hb2)
  have hA2 := blk_keep hb2 HA.out
  obtain ⟨a0, a1, a2, a3, a4, a5, a6⟩ := cells7 hA2
  clear hA2 hb2
  go_wp2_with fail
  clear a0 a1 a2 a3 a4 a5 a6
  go_ret
  exact ⟨rfl, HB2.out⟩


set_option maxRecDepth 8000 in
set_option maxHeartbeats 2000000 in
theorem rfits_tz (kind k z : Int) (t : ByteArray) (l1 l2 l3 l4 c1 c2 c3 c4 : Nat) (d1 d2 d3 d4 : Option Addr) (w : World) (KI : Hid (∀ w : World, Calls Tryd.prog 58 #[.int .i64 kind] w fun e w' => e = .returned (.bool true) ∧ w' = w)) (hk : (k != kind) = false) (KL : Hid (∀ w : World, Calls Tryd.prog 61 #[.agg #[.int .i64 k, .int .u64 z, .string t, .slice d1 l1 c1, .slice d2 l2 c2, .slice d3 l3 c3, .slice d4 l4 c4]] w fun e w' => e = .returned (.bool true) ∧ Below w.heap.size w w')) (KT : Hid (∀ w : World, Calls Tryd.prog 62 #[.int .i64 kind] w fun e w' => e = .returned (.bool true) ∧ w' = w)) (hz : (z == 0) = false) : RFitsAt kind k z t l1 l2 l3 l4 c1 c2 c3 c4 d1 d2 d3 d4 false w := by
  unfold RFitsAt
  go_enter Tryd.func21, Tryd.ntmps21
  go_wp2_with fail
  refine calls_box1 ?_
  intro W hA hb
  have HB := Lib.hid hb
  have HA := Lib.hid hA
  clear hA hb
  refine calls_same (KI.out _) ?_
  obtain ⟨a0, a1, a2, a3, a4, a5, a6⟩ := cells7 HA.out
  go_wp2_with fail
  clear a0 a1 a2 a3 a4 a5 a6
  refine calls_on (KL.out _) ?_
  intro w2 hb2
  have HB2 := Lib.hid (above HB.out hb2)
  have hA2 := blk_keep hb2 HA.out
  obtain ⟨a0, a1, a2, a3, a4, a5, a6⟩ := cells7 hA2
  clear hA2 hb2
  go_wp2_with fail
  refine calls_same (KT.out _) ?_
  go_wp2_with fail
  clear a0 a1 a2 a3 a4 a5 a6
  go_ret
  exact ⟨rfl, HB2.out⟩


set_option maxRecDepth 8000 in
set_option maxHeartbeats 2000000 in
theorem rfits_tl (kind k z : Int) (t : ByteArray) (l1 l2 l3 l4 c1 c2 c3 c4 : Nat) (d1 d2 d3 d4 : Option Addr) (w : World) (KI : Hid (∀ w : World, Calls Tryd.prog 58 #[.int .i64 kind] w fun e w' => e = .returned (.bool true) ∧ w' = w)) (hk : (k != kind) = false) (KL : Hid (∀ w : World, Calls Tryd.prog 61 #[.agg #[.int .i64 k, .int .u64 z, .string t, .slice d1 l1 c1, .slice d2 l2 c2, .slice d3 l3 c3, .slice d4 l4 c4]] w fun e w' => e = .returned (.bool true) ∧ Below w.heap.size w w')) (KT : Hid (∀ w : World, Calls Tryd.prog 62 #[.int .i64 kind] w fun e w' => e = .returned (.bool true) ∧ w' = w)) (hz : (z == 0) = true) (hs : decide ((t.size : Int) ≤ 4096) = false) : RFitsAt kind k z t l1 l2 l3 l4 c1 c2 c3 c4 d1 d2 d3 d4 false w := by
  unfold RFitsAt
  go_enter Tryd.func21, Tryd.ntmps21
  go_wp2_with fail
  refine calls_box1 ?_
  intro W hA hb
  have HB := Lib.hid hb
  have HA := Lib.hid hA
  clear hA hb
  refine calls_same (KI.out _) ?_
  obtain ⟨a0, a1, a2, a3, a4, a5, a6⟩ := cells7 HA.out
  go_wp2_with fail
  clear a0 a1 a2 a3 a4 a5 a6
  refine calls_on (KL.out _) ?_
  intro w2 hb2
  have HB2 := Lib.hid (above HB.out hb2)
  have hA2 := blk_keep hb2 HA.out
  obtain ⟨a0, a1, a2, a3, a4, a5, a6⟩ := cells7 hA2
  clear hA2 hb2
  go_wp2_with fail
  refine calls_same (KT.out _) ?_
  go_wp2_with fail
  clear a0 a1 a2 a3 a4 a5 a6
  go_ret
  exact ⟨rfl, HB2.out⟩


set_option maxRecDepth 8000 in
set_option maxHeartbeats 2000000 in
theorem rfits_t8 (kind k z : Int) (t : ByteArray) (l1 l2 l3 l4 c1 c2 c3 c4 : Nat) (d1 d2 d3 d4 : Option Addr) (w : World) (KI : Hid (∀ w : World, Calls Tryd.prog 58 #[.int .i64 kind] w fun e w' => e = .returned (.bool true) ∧ w' = w)) (hk : (k != kind) = false) (KL : Hid (∀ w : World, Calls Tryd.prog 61 #[.agg #[.int .i64 k, .int .u64 z, .string t, .slice d1 l1 c1, .slice d2 l2 c2, .slice d3 l3 c3, .slice d4 l4 c4]] w fun e w' => e = .returned (.bool true) ∧ Below w.heap.size w w')) (KT : Hid (∀ w : World, Calls Tryd.prog 62 #[.int .i64 kind] w fun e w' => e = .returned (.bool true) ∧ w' = w)) (hz : (z == 0) = true) (hs : decide ((t.size : Int) ≤ 4096) = true) (h8 : (kind == 8) = true) : RFitsAt kind k z t l1 l2 l3 l4 c1 c2 c3 c4 d1 d2 d3 d4 true w := by
  unfold RFitsAt
  go_enter Tryd.func21, Tryd.ntmps21
  go_wp2_with fail
  refine calls_box1 ?_
  intro W hA hb
  have HB := Lib.hid hb
  have HA := Lib.hid hA
  clear hA hb
  refine calls_same (KI.out _) ?_
  obtain ⟨a0, a1, a2, a3, a4, a5, a6⟩ := cells7 HA.out
  go_wp2_with fail
  clear a0 a1 a2 a3 a4 a5 a6
  refine calls_on (KL.out _) ?_
  intro w2 hb2
  have HB2 := Lib.hid (above HB.out hb2)
  have hA2 := blk_keep hb2 HA.out
  obtain ⟨a0, a1, a2, a3, a4, a5, a6⟩ := cells7 hA2
  clear hA2 hb2
  go_wp2_with fail
  refine calls_same (KT.out _) ?_
  go_wp2_with fail
  clear a0 a1 a2 a3 a4 a5 a6
  go_ret
  exact ⟨rfl, HB2.out⟩


set_option maxRecDepth 8000 in
set_option maxHeartbeats 2000000 in
theorem rfits_t7 (kind k z : Int) (t : ByteArray) (l1 l2 l3 l4 c1 c2 c3 c4 : Nat) (d1 d2 d3 d4 : Option Addr) (w : World) (KI : Hid (∀ w : World, Calls Tryd.prog 58 #[.int .i64 kind] w fun e w' => e = .returned (.bool true) ∧ w' = w)) (hk : (k != kind) = false) (KL : Hid (∀ w : World, Calls Tryd.prog 61 #[.agg #[.int .i64 k, .int .u64 z, .string t, .slice d1 l1 c1, .slice d2 l2 c2, .slice d3 l3 c3, .slice d4 l4 c4]] w fun e w' => e = .returned (.bool true) ∧ Below w.heap.size w w')) (KT : Hid (∀ w : World, Calls Tryd.prog 62 #[.int .i64 kind] w fun e w' => e = .returned (.bool true) ∧ w' = w)) (hz : (z == 0) = true) (hs : decide ((t.size : Int) ≤ 4096) = true) (h8 : (kind == 8) = false) (R : Bool) (KV : Hid (∀ w : World, Calls Tryd.prog 63 #[.string t] w fun e w' => e = .returned (.bool R) ∧ w' = w)) : RFitsAt kind k z t l1 l2 l3 l4 c1 c2 c3 c4 d1 d2 d3 d4 R w := by
  unfold RFitsAt
  go_enter Tryd.func21, Tryd.ntmps21
  go_wp2_with fail
  refine calls_box1 ?_
  intro W hA hb
  have HB := Lib.hid hb
  have HA := Lib.hid hA
  clear hA hb
  refine calls_same (KI.out _) ?_
  obtain ⟨a0, a1, a2, a3, a4, a5, a6⟩ := cells7 HA.out
  go_wp2_with fail
  clear a0 a1 a2 a3 a4 a5 a6
  refine calls_on (KL.out _) ?_
  intro w2 hb2
  have HB2 := Lib.hid (above HB.out hb2)
  have hA2 := blk_keep hb2 HA.out
  obtain ⟨a0, a1, a2, a3, a4, a5, a6⟩ := cells7 hA2
  clear hA2 hb2
  go_wp2_with fail
  refine calls_same (KT.out _) ?_
  go_wp2_with fail
  clear a0 a1 a2 a3 a4 a5 a6
  refine calls_same (KV.out _) ?_
  go_wp2_with fail
  go_ret
  exact ⟨rfl, HB2.out⟩


set_option maxRecDepth 8000 in
set_option maxHeartbeats 2000000 in
theorem rfits_nt (kind k z : Int) (t : ByteArray) (l1 l2 l3 l4 c1 c2 c3 c4 : Nat) (d1 d2 d3 d4 : Option Addr) (w : World) (KI : Hid (∀ w : World, Calls Tryd.prog 58 #[.int .i64 kind] w fun e w' => e = .returned (.bool true) ∧ w' = w)) (hk : (k != kind) = false) (KL : Hid (∀ w : World, Calls Tryd.prog 61 #[.agg #[.int .i64 k, .int .u64 z, .string t, .slice d1 l1 c1, .slice d2 l2 c2, .slice d3 l3 c3, .slice d4 l4 c4]] w fun e w' => e = .returned (.bool true) ∧ Below w.heap.size w w')) (KT : Hid (∀ w : World, Calls Tryd.prog 62 #[.int .i64 kind] w fun e w' => e = .returned (.bool false) ∧ w' = w)) (ht : t.toList.isEmpty = false) (ht2 : (!t.toList.isEmpty) = true) : RFitsAt kind k z t l1 l2 l3 l4 c1 c2 c3 c4 d1 d2 d3 d4 false w := by
  unfold RFitsAt
  go_enter Tryd.func21, Tryd.ntmps21
  go_wp2_with fail
  refine calls_box1 ?_
  intro W hA hb
  have HB := Lib.hid hb
  have HA := Lib.hid hA
  clear hA hb
  refine calls_same (KI.out _) ?_
  obtain ⟨a0, a1, a2, a3, a4, a5, a6⟩ := cells7 HA.out
  go_wp2_with fail
  clear a0 a1 a2 a3 a4 a5 a6
  refine calls_on (KL.out _) ?_
  intro w2 hb2
  have HB2 := Lib.hid (above HB.out hb2)
  have hA2 := blk_keep hb2 HA.out
  obtain ⟨a0, a1, a2, a3, a4, a5, a6⟩ := cells7 hA2
  clear hA2 hb2
  go_wp2_with fail
  refine calls_same (KT.out _) ?_
  go_wp2_with fail
  clear a0 a1 a2 a3 a4 a5 a6
  go_ret
  exact ⟨rfl, HB2.out⟩


set_option maxRecDepth 8000 in
set_option maxHeartbeats 2000000 in
theorem rfits_1 (z : Int) (t : ByteArray) (l1 l2 l3 l4 c1 c2 c3 c4 : Nat) (d1 d2 d3 d4 : Option Addr) (w : World) (KI : Hid (∀ w : World, Calls Tryd.prog 58 #[.int .i64 1] w fun e w' => e = .returned (.bool true) ∧ w' = w)) (KL : Hid (∀ w : World, Calls Tryd.prog 61 #[.agg #[.int .i64 1, .int .u64 z, .string t, .slice d1 l1 c1, .slice d2 l2 c2, .slice d3 l3 c3, .slice d4 l4 c4]] w fun e w' => e = .returned (.bool true) ∧ Below w.heap.size w w')) (KT : Hid (∀ w : World, Calls Tryd.prog 62 #[.int .i64 1] w fun e w' => e = .returned (.bool false) ∧ w' = w)) (ht : t.toList.isEmpty = true) (ht2 : (!t.toList.isEmpty) = false) : RFitsAt 1 1 z t l1 l2 l3 l4 c1 c2 c3 c4 d1 d2 d3 d4 (decide (z ≤ 1)) w := by
  unfold RFitsAt
  have hk : ((1 : Int) != 1) = false := by decide
  go_enter Tryd.func21, Tryd.ntmps21
  go_wp2_with fail
  refine calls_box1 ?_
  intro W hA hb
  have HB := Lib.hid hb
  have HA := Lib.hid hA
  clear hA hb
  refine calls_same (KI.out _) ?_
  obtain ⟨a0, a1, a2, a3, a4, a5, a6⟩ := cells7 HA.out
  go_wp2_with fail
  clear a0 a1 a2 a3 a4 a5 a6
  refine calls_on (KL.out _) ?_
  intro w2 hb2
  have HB2 := Lib.hid (above HB.out hb2)
  have hA2 := blk_keep hb2 HA.out
  obtain ⟨a0, a1, a2, a3, a4, a5, a6⟩ := cells7 hA2
  clear hA2 hb2
  go_wp2_with fail
  refine calls_same (KT.out _) ?_
  go_wp2_with fail
  clear a0 a1 a2 a3 a4 a5 a6
  go_ret
  exact ⟨rfl, HB2.out⟩


set_option maxRecDepth 8000 in
set_option maxHeartbeats 2000000 in
theorem rfits_4 (z : Int) (t : ByteArray) (l1 l2 l3 l4 c1 c2 c3 c4 : Nat) (d1 d2 d3 d4 : Option Addr) (w : World) (KI : Hid (∀ w : World, Calls Tryd.prog 58 #[.int .i64 4] w fun e w' => e = .returned (.bool true) ∧ w' = w)) (KL : Hid (∀ w : World, Calls Tryd.prog 61 #[.agg #[.int .i64 4, .int .u64 z, .string t, .slice d1 l1 c1, .slice d2 l2 c2, .slice d3 l3 c3, .slice d4 l4 c4]] w fun e w' => e = .returned (.bool true) ∧ Below w.heap.size w w')) (KT : Hid (∀ w : World, Calls Tryd.prog 62 #[.int .i64 4] w fun e w' => e = .returned (.bool false) ∧ w' = w)) (ht : t.toList.isEmpty = true) (ht2 : (!t.toList.isEmpty) = false) : RFitsAt 4 4 z t l1 l2 l3 l4 c1 c2 c3 c4 d1 d2 d3 d4 (decide (z < 4294967296)) w := by
  unfold RFitsAt
  have hk : ((4 : Int) != 4) = false := by decide
  go_enter Tryd.func21, Tryd.ntmps21
  go_wp2_with fail
  refine calls_box1 ?_
  intro W hA hb
  have HB := Lib.hid hb
  have HA := Lib.hid hA
  clear hA hb
  refine calls_same (KI.out _) ?_
  obtain ⟨a0, a1, a2, a3, a4, a5, a6⟩ := cells7 HA.out
  go_wp2_with fail
  clear a0 a1 a2 a3 a4 a5 a6
  refine calls_on (KL.out _) ?_
  intro w2 hb2
  have HB2 := Lib.hid (above HB.out hb2)
  have hA2 := blk_keep hb2 HA.out
  obtain ⟨a0, a1, a2, a3, a4, a5, a6⟩ := cells7 hA2
  clear hA2 hb2
  go_wp2_with fail
  refine calls_same (KT.out _) ?_
  go_wp2_with fail
  clear a0 a1 a2 a3 a4 a5 a6
  go_ret
  exact ⟨rfl, HB2.out⟩


set_option maxRecDepth 8000 in
set_option maxHeartbeats 2000000 in
theorem rfits_9 (z : Int) (t : ByteArray) (l1 l2 l3 l4 c1 c2 c3 c4 : Nat) (d1 d2 d3 d4 : Option Addr) (w : World) (KI : Hid (∀ w : World, Calls Tryd.prog 58 #[.int .i64 9] w fun e w' => e = .returned (.bool true) ∧ w' = w)) (KL : Hid (∀ w : World, Calls Tryd.prog 61 #[.agg #[.int .i64 9, .int .u64 z, .string t, .slice d1 l1 c1, .slice d2 l2 c2, .slice d3 l3 c3, .slice d4 l4 c4]] w fun e w' => e = .returned (.bool true) ∧ Below w.heap.size w w')) (KT : Hid (∀ w : World, Calls Tryd.prog 62 #[.int .i64 9] w fun e w' => e = .returned (.bool false) ∧ w' = w)) (ht : t.toList.isEmpty = true) (ht2 : (!t.toList.isEmpty) = false) : RFitsAt 9 9 z t l1 l2 l3 l4 c1 c2 c3 c4 d1 d2 d3 d4 (decide (z < 2147483648)) w := by
  unfold RFitsAt
  have hk : ((9 : Int) != 9) = false := by decide
  go_enter Tryd.func21, Tryd.ntmps21
  go_wp2_with fail
  refine calls_box1 ?_
  intro W hA hb
  have HB := Lib.hid hb
  have HA := Lib.hid hA
  clear hA hb
  refine calls_same (KI.out _) ?_
  obtain ⟨a0, a1, a2, a3, a4, a5, a6⟩ := cells7 HA.out
  go_wp2_with fail
  clear a0 a1 a2 a3 a4 a5 a6
  refine calls_on (KL.out _) ?_
  intro w2 hb2
  have HB2 := Lib.hid (above HB.out hb2)
  have hA2 := blk_keep hb2 HA.out
  obtain ⟨a0, a1, a2, a3, a4, a5, a6⟩ := cells7 hA2
  clear hA2 hb2
  go_wp2_with fail
  refine calls_same (KT.out _) ?_
  go_wp2_with fail
  clear a0 a1 a2 a3 a4 a5 a6
  go_ret
  exact ⟨rfl, HB2.out⟩


set_option maxRecDepth 8000 in
set_option maxHeartbeats 2000000 in
theorem rfits_2n (z : Int) (t : ByteArray) (l1 l2 l3 l4 c1 c2 c3 c4 : Nat) (d1 d2 d3 d4 : Option Addr) (w : World) (KI : Hid (∀ w : World, Calls Tryd.prog 58 #[.int .i64 2] w fun e w' => e = .returned (.bool true) ∧ w' = w)) (KL : Hid (∀ w : World, Calls Tryd.prog 61 #[.agg #[.int .i64 2, .int .u64 z, .string t, .slice d1 l1 c1, .slice d2 l2 c2, .slice d3 l3 c3, .slice d4 l4 c4]] w fun e w' => e = .returned (.bool true) ∧ Below w.heap.size w w')) (KT : Hid (∀ w : World, Calls Tryd.prog 62 #[.int .i64 2] w fun e w' => e = .returned (.bool false) ∧ w' = w)) (ht : t.toList.isEmpty = true) (ht2 : (!t.toList.isEmpty) = false) (g : decide (-2147483648 ≤ wrap64 z) = false) : RFitsAt 2 2 z t l1 l2 l3 l4 c1 c2 c3 c4 d1 d2 d3 d4 false w := by
  unfold RFitsAt
  have hk : ((2 : Int) != 2) = false := by decide
  go_enter Tryd.func21, Tryd.ntmps21
  go_wp2_with fail
  refine calls_box1 ?_
  intro W hA hb
  have HB := Lib.hid hb
  have HA := Lib.hid hA
  clear hA hb
  refine calls_same (KI.out _) ?_
  obtain ⟨a0, a1, a2, a3, a4, a5, a6⟩ := cells7 HA.out
  go_wp2_with fail
  clear a0 a1 a2 a3 a4 a5 a6
  refine calls_on (KL.out _) ?_
  intro w2 hb2
  have HB2 := Lib.hid (above HB.out hb2)
  have hA2 := blk_keep hb2 HA.out
  obtain ⟨a0, a1, a2, a3, a4, a5, a6⟩ := cells7 hA2
  clear hA2 hb2
  go_wp2_with fail
  refine calls_same (KT.out _) ?_
  go_wp2_with fail
  clear a0 a1 a2 a3 a4 a5 a6
  go_ret
  exact ⟨rfl, HB2.out⟩


set_option maxRecDepth 8000 in
set_option maxHeartbeats 2000000 in
theorem rfits_2y (z : Int) (t : ByteArray) (l1 l2 l3 l4 c1 c2 c3 c4 : Nat) (d1 d2 d3 d4 : Option Addr) (w : World) (KI : Hid (∀ w : World, Calls Tryd.prog 58 #[.int .i64 2] w fun e w' => e = .returned (.bool true) ∧ w' = w)) (KL : Hid (∀ w : World, Calls Tryd.prog 61 #[.agg #[.int .i64 2, .int .u64 z, .string t, .slice d1 l1 c1, .slice d2 l2 c2, .slice d3 l3 c3, .slice d4 l4 c4]] w fun e w' => e = .returned (.bool true) ∧ Below w.heap.size w w')) (KT : Hid (∀ w : World, Calls Tryd.prog 62 #[.int .i64 2] w fun e w' => e = .returned (.bool false) ∧ w' = w)) (ht : t.toList.isEmpty = true) (ht2 : (!t.toList.isEmpty) = false) (g : decide (-2147483648 ≤ wrap64 z) = true) : RFitsAt 2 2 z t l1 l2 l3 l4 c1 c2 c3 c4 d1 d2 d3 d4 (decide (wrap64 z ≤ 2147483647)) w := by
  unfold RFitsAt
  have hk : ((2 : Int) != 2) = false := by decide
  go_enter Tryd.func21, Tryd.ntmps21
  go_wp2_with fail
  refine calls_box1 ?_
  intro W hA hb
  have HB := Lib.hid hb
  have HA := Lib.hid hA
  clear hA hb
  refine calls_same (KI.out _) ?_
  obtain ⟨a0, a1, a2, a3, a4, a5, a6⟩ := cells7 HA.out
  go_wp2_with fail
  clear a0 a1 a2 a3 a4 a5 a6
  refine calls_on (KL.out _) ?_
  intro w2 hb2
  have HB2 := Lib.hid (above HB.out hb2)
  have hA2 := blk_keep hb2 HA.out
  obtain ⟨a0, a1, a2, a3, a4, a5, a6⟩ := cells7 hA2
  clear hA2 hb2
  go_wp2_with fail
  refine calls_same (KT.out _) ?_
  go_wp2_with fail
  clear a0 a1 a2 a3 a4 a5 a6
  go_ret
  exact ⟨rfl, HB2.out⟩


set_option maxRecDepth 8000 in
set_option maxHeartbeats 2000000 in
theorem rfits_o (kind k z : Int) (t : ByteArray) (l1 l2 l3 l4 c1 c2 c3 c4 : Nat) (d1 d2 d3 d4 : Option Addr) (w : World) (KI : Hid (∀ w : World, Calls Tryd.prog 58 #[.int .i64 kind] w fun e w' => e = .returned (.bool true) ∧ w' = w)) (hk : (k != kind) = false) (KL : Hid (∀ w : World, Calls Tryd.prog 61 #[.agg #[.int .i64 k, .int .u64 z, .string t, .slice d1 l1 c1, .slice d2 l2 c2, .slice d3 l3 c3, .slice d4 l4 c4]] w fun e w' => e = .returned (.bool true) ∧ Below w.heap.size w w')) (KT : Hid (∀ w : World, Calls Tryd.prog 62 #[.int .i64 kind] w fun e w' => e = .returned (.bool false) ∧ w' = w)) (ht : t.toList.isEmpty = true) (ht2 : (!t.toList.isEmpty) = false) (h1 : (kind == 1) = false) (h2 : (kind == 2) = false) (h4 : (kind == 4) = false) (h9 : (kind == 9) = false) : RFitsAt kind k z t l1 l2 l3 l4 c1 c2 c3 c4 d1 d2 d3 d4 true w := by
  unfold RFitsAt
  go_enter Tryd.func21, Tryd.ntmps21
  go_wp2_with fail
  refine calls_box1 ?_
  intro W hA hb
  have HB := Lib.hid hb
  have HA := Lib.hid hA
  clear hA hb
  refine calls_same (KI.out _) ?_
  obtain ⟨a0, a1, a2, a3, a4, a5, a6⟩ := cells7 HA.out
  go_wp2_with fail
  clear a0 a1 a2 a3 a4 a5 a6
  refine calls_on (KL.out _) ?_
  intro w2 hb2
  have HB2 := Lib.hid (above HB.out hb2)
  have hA2 := blk_keep hb2 HA.out
  obtain ⟨a0, a1, a2, a3, a4, a5, a6⟩ := cells7 hA2
  clear hA2 hb2
  go_wp2_with fail
  refine calls_same (KT.out _) ?_
  go_wp2_with fail
  clear a0 a1 a2 a3 a4 a5 a6
  go_ret
  exact ⟨rfl, HB2.out⟩


theorem rfits_ok (kind k z : Int) (t : ByteArray) (l1 l2 l3 l4 c1 c2 c3 c4 : Nat) (d1 d2 d3 d4 : Option Addr) (w : World) (hs : t.size ≤ 140737488351232) : RFitsAt kind k z t l1 l2 l3 l4 c1 c2 c3 c4 d1 d2 d3 d4 (fitsB kind k z t (noneB l1 l2 l3 l4)) w := by
  have KI := fun w : World => ris_ok kind w
  have KL := fun w : World => lone_ok k z t l1 l2 l3 l4 c1 c2 c3 c4 d1 d2 d3 d4 w
  have KT := fun w : World => rtexts_ok kind w
  have KV := fun w : World => rvalid_ok t (by omega) w
  unfold fitsB
  cases eI : decide (1 ≤ kind ∧ kind ≤ 9)
  · rw [eI] at KI; simp only [Bool.false_and]
    exact rfits_not kind k z t l1 l2 l3 l4 c1 c2 c3 c4 d1 d2 d3 d4 w (Lib.hid KI)
  rw [eI] at KI
  by_cases ek : k = kind
  case neg =>
    have := rfits_ne kind k z t l1 l2 l3 l4 c1 c2 c3 c4 d1 d2 d3 d4 w (Lib.hid KI) (by simp [ek])
    simpa [ek] using this
  subst ek
  cases eL : noneB l1 l2 l3 l4
  · rw [eL] at KL
    have := rfits_lone k k z t l1 l2 l3 l4 c1 c2 c3 c4 d1 d2 d3 d4 w (Lib.hid KI) (by simp) (Lib.hid KL)
    simpa [leanB] using this
  rw [eL] at KL
  by_cases eT : k = 7 ∨ k = 8
  · rw [show decide (k = 7 ∨ k = 8) = true from decide_eq_true eT] at KT
    have ew : withinB k z = true := by rcases eT with h | h <;> subst h <;> rfl
    rw [ew]
    by_cases ez : z = 0
    · by_cases es : t.size ≤ 4096
      · by_cases e8 : k = 8
        · have := rfits_t8 k k z t l1 l2 l3 l4 c1 c2 c3 c4 d1 d2 d3 d4 w (Lib.hid KI) (by simp) (Lib.hid KL) (Lib.hid KT) (by simp [ez]) (decide_eq_true (by omega)) (by simp [e8])
          simpa [leanB, eT, ez, es, e8] using this
        · have e7 : k = 7 := by omega
          have := rfits_t7 k k z t l1 l2 l3 l4 c1 c2 c3 c4 d1 d2 d3 d4 w (Lib.hid KI) (by simp) (Lib.hid KL) (Lib.hid KT) (by simp [ez]) (decide_eq_true (by omega)) (by simp [e8]) (validB t) (Lib.hid KV)
          simpa [leanB, eT, ez, es, e7] using this
      · have := rfits_tl k k z t l1 l2 l3 l4 c1 c2 c3 c4 d1 d2 d3 d4 w (Lib.hid KI) (by simp) (Lib.hid KL) (Lib.hid KT) (by simp [ez]) (decide_eq_false (by omega))
        simpa [leanB, eT, ez, es] using this
    · have := rfits_tz k k z t l1 l2 l3 l4 c1 c2 c3 c4 d1 d2 d3 d4 w (Lib.hid KI) (by simp) (Lib.hid KL) (Lib.hid KT) (by simp [ez])
      simpa [leanB, eT, ez] using this
  · rw [show decide (k = 7 ∨ k = 8) = false from decide_eq_false eT] at KT
    have e7 : k ≠ 7 := fun h => eT (.inl h)
    by_cases et : t.size = 0
    case neg =>
      have := rfits_nt k k z t l1 l2 l3 l4 c1 c2 c3 c4 d1 d2 d3 d4 w (Lib.hid KI) (by simp) (Lib.hid KL) (Lib.hid KT) (by rw [empty_toList]; simp [et]) (by rw [empty_toList]; simp [et])
      simpa [leanB, eT, et] using this
    have t1 : t.toList.isEmpty = true := by rw [empty_toList]; simp [et]
    have t2 : (!t.toList.isEmpty) = false := by rw [t1]; rfl
    have key : (true && decide (k = k) && leanB k z t true && withinB k z && decide (t.size ≤ 4096) && (decide (k ≠ 7) || validB t)) = withinB k z := by
      unfold leanB; rw [if_neg eT]; simp [et, e7]
    rw [key]
    by_cases h1 : k = 1
    · subst h1; exact rfits_1 z t l1 l2 l3 l4 c1 c2 c3 c4 d1 d2 d3 d4 w (Lib.hid KI) (Lib.hid KL) (Lib.hid KT) t1 t2
    by_cases h2 : k = 2
    · subst h2
      cases g : decide (-2147483648 ≤ wrap64 z)
      · have := rfits_2n z t l1 l2 l3 l4 c1 c2 c3 c4 d1 d2 d3 d4 w (Lib.hid KI) (Lib.hid KL) (Lib.hid KT) t1 t2 g
        have e : withinB 2 z = false := by
          have g' := of_decide_eq_false g
          show decide (_ ∧ _) = false
          exact decide_eq_false (fun x => g' x.1)
        rw [e]; exact this
      · have := rfits_2y z t l1 l2 l3 l4 c1 c2 c3 c4 d1 d2 d3 d4 w (Lib.hid KI) (Lib.hid KL) (Lib.hid KT) t1 t2 g
        have e : withinB 2 z = decide (wrap64 z ≤ 2147483647) := by
          have g' := of_decide_eq_true g
          show decide (_ ∧ _) = _
          rw [Bool.eq_iff_iff, decide_eq_true_iff, decide_eq_true_iff]
          exact ⟨fun x => x.2, fun x => ⟨g', x⟩⟩
        rw [e]; exact this
    by_cases h4 : k = 4
    · subst h4
      have := rfits_4 z t l1 l2 l3 l4 c1 c2 c3 c4 d1 d2 d3 d4 w (Lib.hid KI) (Lib.hid KL) (Lib.hid KT) t1 t2
      have e : withinB 4 z = decide (z < 4294967296) := by
        show decide (z ≤ 4294967295) = _
        rw [Bool.eq_iff_iff, decide_eq_true_iff, decide_eq_true_iff]
        constructor <;> intro h <;> omega
      rw [e]; exact this
    by_cases h9 : k = 9
    · subst h9
      have := rfits_9 z t l1 l2 l3 l4 c1 c2 c3 c4 d1 d2 d3 d4 w (Lib.hid KI) (Lib.hid KL) (Lib.hid KT) t1 t2
      have e : withinB 9 z = decide (z < 2147483648) := by
        show decide (z ≤ 2147483647) = _
        rw [Bool.eq_iff_iff, decide_eq_true_iff, decide_eq_true_iff]
        constructor <;> intro h <;> omega
      rw [e]; exact this
    · have := rfits_o k k z t l1 l2 l3 l4 c1 c2 c3 c4 d1 d2 d3 d4 w (Lib.hid KI) (by simp) (Lib.hid KL) (Lib.hid KT) t1 t2 (by simp [h1]) (by simp [h2]) (by simp [h4]) (by simp [h9])
      have e : withinB k z = true := by simp [withinB, h1, h2, h4, h9]
      rw [e]; exact this
end Go.Proofs.YtlgpoapedgodoaaDoor
