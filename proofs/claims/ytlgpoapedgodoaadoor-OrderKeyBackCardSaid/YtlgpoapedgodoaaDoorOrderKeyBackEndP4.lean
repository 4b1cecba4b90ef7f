/- Part 5 of the texts that prove OrderKeyBackEnd. -/
import Derived.Test.YtlgpoapedgodoaaDoorOrderKeyBackEndP3
import Derived.Test.YtlgpoapedgodoaaDoorOrderKeyBackEndP2
import Derived.Test.YtlgpoapedgodoaaDoorOrderKeyBackEndP0

/- order.Unkey at numbers. -/
namespace Go.Proofs.YtlgpoapedgodoaaDoor
open Go.RowKit
set_option linter.unusedVariables false

set_option maxRecDepth 8000 in
set_option maxHeartbeats 4000000 in
theorem unk_nerr (s : ByteArray) (h : 0 < s.size) (w : World) (k : Int) (hk : ((s[0]'h).toNat : Int) = k) (hwb : wrap64 k = k) (ht : s.toList.isEmpty = false) (k7 : (k == 7) = false) (k8 : (k == 8) = false) (KI : Hid (∀ w : World, Calls Tryd.prog 45 #[.int .i64 k] w fun e w' => e = .returned (.bool true) ∧ w' = w)) (Zn : Int) (N E : Int) (KU : Hid (∀ w : World, Calls Tryd.prog 56 #[.string s] w fun e w' => e = .returned (.tuple #[.int .u64 Zn, .int .i64 N, .int .i64 E]) ∧ Below w.heap.size w w')) (hE : (E != 0) = true) :
    Calls Tryd.prog 18 #[.string s] w fun e w' => e = .returned (unkV 0 0 ⟨#[]⟩ 0 E) ∧ Below w.heap.size w w' := by
  have i0 : (0 : Int) < (s.size : Int) := by omega
  go_enter Tryd.func18, Tryd.ntmps18
  go_wp2_with fail
  refine calls_box2 ?_
  intro W hA hB hb
  have HB := Lib.hid hb
  have HA := Lib.hid hA
  have HV := Lib.hid hB
  clear hA hB hb
  refine calls_same (KI.out _) ?_
  obtain ⟨v0, v1, v2, v3, v4, v5, v6⟩ := cells7 HV.out
  obtain ⟨r0, r1, r2, r3, r4, r5, r6⟩ := cells7 HA.out
  go_wp2_with fail
  clear v0 v1 v2 v3 v4 v5 v6 r0 r1 r2 r3 r4 r5 r6
  refine calls_on (KU.out _) ?_
  intro w2 hb2
  have HB2 := Lib.hid (above HB.out hb2)
  have HA2 := Lib.hid (blk_keep hb2 HA.out)
  have HV2 := Lib.hid (blk_keep hb2 HV.out)
  have hs2 := blk_lt HV2.out
  clear hb2
  obtain ⟨v0, v1, v2, v3, v4, v5, v6⟩ := cells7 HV2.out
  obtain ⟨r0, r1, r2, r3, r4, r5, r6⟩ := cells7 HA2.out
  have vf0 := blk_free HV2.out 0
  have rf0 := blk_free HA2.out 0
  have vf1 := blk_free HV2.out 1
  have rf1 := blk_free HA2.out 1
  have vf2 := blk_free HV2.out 2
  have rf2 := blk_free HA2.out 2
  have vf3 := blk_free HV2.out 3
  have rf3 := blk_free HA2.out 3
  have vf4 := blk_free HV2.out 4
  have rf4 := blk_free HA2.out 4
  have vf5 := blk_free HV2.out 5
  have rf5 := blk_free HA2.out 5
  have vf6 := blk_free HV2.out 6
  have rf6 := blk_free HA2.out 6
  go_wp2_with fail
  have hb2 := HB2.out
  exact bodyPost_ret (v := unkV 0 0 ⟨#[]⟩ 0 E) (by simp [results, Tryd.results18, go_sem, unkV, *]) rfl ⟨rfl, by go_grown⟩

set_option maxRecDepth 8000 in
set_option maxHeartbeats 4000000 in
theorem unk_nbad (s : ByteArray) (h : 0 < s.size) (w : World) (k : Int) (hk : ((s[0]'h).toNat : Int) = k) (hwb : wrap64 k = k) (ht : s.toList.isEmpty = false) (k7 : (k == 7) = false) (k8 : (k == 8) = false) (KI : Hid (∀ w : World, Calls Tryd.prog 45 #[.int .i64 k] w fun e w' => e = .returned (.bool true) ∧ w' = w)) (Zn : Int) (N E : Int) (KU : Hid (∀ w : World, Calls Tryd.prog 56 #[.string s] w fun e w' => e = .returned (.tuple #[.int .u64 Zn, .int .i64 N, .int .i64 E]) ∧ Below w.heap.size w w')) (hE : E = 0) (KF : Hid (∀ w : World, Calls Tryd.prog 14 #[.int .i64 k, .agg #[.int .i64 k, .int .u64 Zn, .string ⟨#[]⟩, .slice none 0 0, .slice none 0 0, .slice none 0 0, .slice none 0 0]] w fun e w' => e = .returned (.bool false) ∧ Below w.heap.size w w')) (Y : Int) (KN : Hid (∀ w : World, Calls Tryd.prog 57 #[.agg #[.int .i64 k, .int .u64 Zn, .string ⟨#[]⟩, .slice none 0 0, .slice none 0 0, .slice none 0 0, .slice none 0 0]] w fun e w' => e = .returned (.agg #[.int .i64 k, .int .u64 Y, .string ⟨#[]⟩, .slice none 0 0, .slice none 0 0, .slice none 0 0, .slice none 0 0]) ∧ Below w.heap.size w w')) :
    Calls Tryd.prog 18 #[.string s] w fun e w' => e = .returned (unkV 0 0 ⟨#[]⟩ 0 5) ∧ Below w.heap.size w w' := by
  have i0 : (0 : Int) < (s.size : Int) := by omega
  go_enter Tryd.func18, Tryd.ntmps18
  go_wp2_with fail
  refine calls_box2 ?_
  intro W hA hB hb
  have HB := Lib.hid hb
  have HA := Lib.hid hA
  have HV := Lib.hid hB
  clear hA hB hb
  refine calls_same (KI.out _) ?_
  obtain ⟨v0, v1, v2, v3, v4, v5, v6⟩ := cells7 HV.out
  obtain ⟨r0, r1, r2, r3, r4, r5, r6⟩ := cells7 HA.out
  go_wp2_with fail
  clear v0 v1 v2 v3 v4 v5 v6 r0 r1 r2 r3 r4 r5 r6
  subst hE
  refine calls_on (KU.out _) ?_
  intro w2 hb2
  have HB2 := Lib.hid (above HB.out hb2)
  have HA2 := Lib.hid (blk_keep hb2 HA.out)
  have HV2 := Lib.hid (blk_keep hb2 HV.out)
  have hs2 := blk_lt HV2.out
  clear hb2
  obtain ⟨v0, v1, v2, v3, v4, v5, v6⟩ := cells7 HV2.out
  obtain ⟨r0, r1, r2, r3, r4, r5, r6⟩ := cells7 HA2.out
  have vf0 := blk_free HV2.out 0
  have rf0 := blk_free HA2.out 0
  have vf1 := blk_free HV2.out 1
  have rf1 := blk_free HA2.out 1
  have vf2 := blk_free HV2.out 2
  have rf2 := blk_free HA2.out 2
  have vf3 := blk_free HV2.out 3
  have rf3 := blk_free HA2.out 3
  have vf4 := blk_free HV2.out 4
  have rf4 := blk_free HA2.out 4
  have vf5 := blk_free HV2.out 5
  have rf5 := blk_free HA2.out 5
  have vf6 := blk_free HV2.out 6
  have rf6 := blk_free HA2.out 6
  go_wp2_with fail
  have HS2 : Hid (Below w.heap.size w (w2.setCell ⟨w.heap.size + 1, 1, none⟩ (.int .u64 Zn))) := Lib.hid (HB2.out.setCell (by simp) _)
  have HV3 : Hid ((w2.setCell ⟨w.heap.size + 1, 1, none⟩ (.int .u64 Zn)).heap[w.heap.size + 1]? = some (.cells #[.int .i64 k, .int .u64 Zn, .string ⟨#[]⟩, .slice none 0 0, .slice none 0 0, .slice none 0 0, .slice none 0 0] 28 (0, 0))) := Lib.hid (blk_set HV2.out (.int .u64 Zn))
  have HA3 : Hid ((w2.setCell ⟨w.heap.size + 1, 1, none⟩ (.int .u64 Zn)).heap[w.heap.size]? = some (.cells #[.int .i64 0, .int .u64 0, .string ⟨#[]⟩, .slice none 0 0, .slice none 0 0, .slice none 0 0, .slice none 0 0] 28 (0, 0))) := Lib.hid (blk_set_ne HA2.out (by simp) _)
  clear v0 r0 vf0 rf0 v1 r1 vf1 rf1 v2 r2 vf2 rf2 v3 r3 vf3 rf3 v4 r4 vf4 rf4 v5 r5 vf5 rf5 v6 r6 vf6 rf6
  generalize w2.setCell ⟨w.heap.size + 1, 1, none⟩ (.int .u64 Zn) = W3 at *
  obtain ⟨a0, a1, a2, a3, a4, a5, a6⟩ := up7 HV3.out
  refine wp_region_up (by kernel_rfl) (by kernel_rfl) ?_
  repeat (go_big_quiet_step (first | (go_at_call 14; with_reducible exact calls_up (KF.out _)) | (go_at_call 57; with_reducible exact calls_up (KN.out _))))
  refine wpQuiet_nil ?_
  rintro _ ⟨s1, rfl⟩
  clear a0 a1 a2 a3 a4 a5 a6
  have HB4 := Lib.hid (above HS2.out s1.h)
  have HV4 := Lib.hid (blk_keep s1.h HV3.out)
  have HA4 := Lib.hid (blk_keep s1.h HA3.out)
  generalize s1.w = w4 at *
  obtain ⟨v0, v1, v2, v3, v4, v5, v6⟩ := cells7 HV4.out
  obtain ⟨r0, r1, r2, r3, r4, r5, r6⟩ := cells7 HA4.out
  have vf0 := blk_free HV4.out 0
  have rf0 := blk_free HA4.out 0
  have vf1 := blk_free HV4.out 1
  have rf1 := blk_free HA4.out 1
  have vf2 := blk_free HV4.out 2
  have rf2 := blk_free HA4.out 2
  have vf3 := blk_free HV4.out 3
  have rf3 := blk_free HA4.out 3
  have vf4 := blk_free HV4.out 4
  have rf4 := blk_free HA4.out 4
  have vf5 := blk_free HV4.out 5
  have rf5 := blk_free HA4.out 5
  have vf6 := blk_free HV4.out 6
  have rf6 := blk_free HA4.out 6
  go_wp2_with fail
  have hb4 := HB4.out
  exact bodyPost_ret (v := unkV 0 0 ⟨#[]⟩ 0 5) (by simp [results, Tryd.results18, go_sem, unkV, *]) rfl ⟨rfl, by go_grown⟩

set_option maxRecDepth 8000 in
set_option maxHeartbeats 4000000 in
theorem unk_nnan (s : ByteArray) (h : 0 < s.size) (w : World) (k : Int) (hk : ((s[0]'h).toNat : Int) = k) (hwb : wrap64 k = k) (ht : s.toList.isEmpty = false) (k7 : (k == 7) = false) (k8 : (k == 8) = false) (KI : Hid (∀ w : World, Calls Tryd.prog 45 #[.int .i64 k] w fun e w' => e = .returned (.bool true) ∧ w' = w)) (Zn : Int) (N E : Int) (KU : Hid (∀ w : World, Calls Tryd.prog 56 #[.string s] w fun e w' => e = .returned (.tuple #[.int .u64 Zn, .int .i64 N, .int .i64 E]) ∧ Below w.heap.size w w')) (hE : E = 0) (KF : Hid (∀ w : World, Calls Tryd.prog 14 #[.int .i64 k, .agg #[.int .i64 k, .int .u64 Zn, .string ⟨#[]⟩, .slice none 0 0, .slice none 0 0, .slice none 0 0, .slice none 0 0]] w fun e w' => e = .returned (.bool true) ∧ Below w.heap.size w w')) (Y : Int) (KN : Hid (∀ w : World, Calls Tryd.prog 57 #[.agg #[.int .i64 k, .int .u64 Zn, .string ⟨#[]⟩, .slice none 0 0, .slice none 0 0, .slice none 0 0, .slice none 0 0]] w fun e w' => e = .returned (.agg #[.int .i64 k, .int .u64 Y, .string ⟨#[]⟩, .slice none 0 0, .slice none 0 0, .slice none 0 0, .slice none 0 0]) ∧ Below w.heap.size w w')) (hy : (Y != Zn) = true) :
    Calls Tryd.prog 18 #[.string s] w fun e w' => e = .returned (unkV 0 0 ⟨#[]⟩ 0 5) ∧ Below w.heap.size w w' := by
  have i0 : (0 : Int) < (s.size : Int) := by omega
  go_enter Tryd.func18, Tryd.ntmps18
  go_wp2_with fail
  refine calls_box2 ?_
  intro W hA hB hb
  have HB := Lib.hid hb
  have HA := Lib.hid hA
  have HV := Lib.hid hB
  clear hA hB hb
  refine calls_same (KI.out _) ?_
  obtain ⟨v0, v1, v2, v3, v4, v5, v6⟩ := cells7 HV.out
  obtain ⟨r0, r1, r2, r3, r4, r5, r6⟩ := cells7 HA.out
  go_wp2_with fail
  clear v0 v1 v2 v3 v4 v5 v6 r0 r1 r2 r3 r4 r5 r6
  subst hE
  refine calls_on (KU.out _) ?_
  intro w2 hb2
  have HB2 := Lib.hid (above HB.out hb2)
  have HA2 := Lib.hid (blk_keep hb2 HA.out)
  have HV2 := Lib.hid (blk_keep hb2 HV.out)
  have hs2 := blk_lt HV2.out
  clear hb2
  obtain ⟨v0, v1, v2, v3, v4, v5, v6⟩ := cells7 HV2.out
  obtain ⟨r0, r1, r2, r3, r4, r5, r6⟩ := cells7 HA2.out
  have vf0 := blk_free HV2.out 0
  have rf0 := blk_free HA2.out 0
  have vf1 := blk_free HV2.out 1
  have rf1 := blk_free HA2.out 1
  have vf2 := blk_free HV2.out 2
  have rf2 := blk_free HA2.out 2
  have vf3 := blk_free HV2.out 3
  have rf3 := blk_free HA2.out 3
  have vf4 := blk_free HV2.out 4
  have rf4 := blk_free HA2.out 4
  have vf5 := blk_free HV2.out 5
  have rf5 := blk_free HA2.out 5
  have vf6 := blk_free HV2.out 6
  have rf6 := blk_free HA2.out 6
  go_wp2_with fail
  have HS2 : Hid (Below w.heap.size w (w2.setCell ⟨w.heap.size + 1, 1, none⟩ (.int .u64 Zn))) := Lib.hid (HB2.out.setCell (by simp) _)
  have HV3 : Hid ((w2.setCell ⟨w.heap.size + 1, 1, none⟩ (.int .u64 Zn)).heap[w.heap.size + 1]? = some (.cells #[.int .i64 k, .int .u64 Zn, .string ⟨#[]⟩, .slice none 0 0, .slice none 0 0, .slice none 0 0, .slice none 0 0] 28 (0, 0))) := Lib.hid (blk_set HV2.out (.int .u64 Zn))
  have HA3 : Hid ((w2.setCell ⟨w.heap.size + 1, 1, none⟩ (.int .u64 Zn)).heap[w.heap.size]? = some (.cells #[.int .i64 0, .int .u64 0, .string ⟨#[]⟩, .slice none 0 0, .slice none 0 0, .slice none 0 0, .slice none 0 0] 28 (0, 0))) := Lib.hid (blk_set_ne HA2.out (by simp) _)
  clear v0 r0 vf0 rf0 v1 r1 vf1 rf1 v2 r2 vf2 rf2 v3 r3 vf3 rf3 v4 r4 vf4 rf4 v5 r5 vf5 rf5 v6 r6 vf6 rf6
  generalize w2.setCell ⟨w.heap.size + 1, 1, none⟩ (.int .u64 Zn) = W3 at *
  obtain ⟨a0, a1, a2, a3, a4, a5, a6⟩ := up7 HV3.out
  refine wp_region_up (by kernel_rfl) (by kernel_rfl) ?_
  repeat (go_big_quiet_step (first | (go_at_call 14; with_reducible exact calls_up (KF.out _)) | (go_at_call 57; with_reducible exact calls_up (KN.out _))))
  refine wpQuiet_nil ?_
  rintro _ ⟨s1, rfl⟩
  clear a0 a1 a2 a3 a4 a5 a6
  have HB4 := Lib.hid (above HS2.out s1.h)
  have HV4 := Lib.hid (blk_keep s1.h HV3.out)
  have HA4 := Lib.hid (blk_keep s1.h HA3.out)
  generalize s1.w = w4 at *
  obtain ⟨v0, v1, v2, v3, v4, v5, v6⟩ := cells7 HV4.out
  obtain ⟨r0, r1, r2, r3, r4, r5, r6⟩ := cells7 HA4.out
  have vf0 := blk_free HV4.out 0
  have rf0 := blk_free HA4.out 0
  have vf1 := blk_free HV4.out 1
  have rf1 := blk_free HA4.out 1
  have vf2 := blk_free HV4.out 2
  have rf2 := blk_free HA4.out 2
  have vf3 := blk_free HV4.out 3
  have rf3 := blk_free HA4.out 3
  have vf4 := blk_free HV4.out 4
  have rf4 := blk_free HA4.out 4
  have vf5 := blk_free HV4.out 5
  have rf5 := blk_free HA4.out 5
  have vf6 := blk_free HV4.out 6
  have rf6 := blk_free HA4.out 6
  go_wp2_with fail
  have hb4 := HB4.out
  exact bodyPost_ret (v := unkV 0 0 ⟨#[]⟩ 0 5) (by simp [results, Tryd.results18, go_sem, unkV, *]) rfl ⟨rfl, by go_grown⟩

set_option maxRecDepth 8000 in
set_option maxHeartbeats 4000000 in
theorem unk_num (s : ByteArray) (h : 0 < s.size) (w : World) (k : Int) (hk : ((s[0]'h).toNat : Int) = k) (hwb : wrap64 k = k) (ht : s.toList.isEmpty = false) (k7 : (k == 7) = false) (k8 : (k == 8) = false) (KI : Hid (∀ w : World, Calls Tryd.prog 45 #[.int .i64 k] w fun e w' => e = .returned (.bool true) ∧ w' = w)) (Zn : Int) (N E : Int) (KU : Hid (∀ w : World, Calls Tryd.prog 56 #[.string s] w fun e w' => e = .returned (.tuple #[.int .u64 Zn, .int .i64 N, .int .i64 E]) ∧ Below w.heap.size w w')) (hE : E = 0) (KF : Hid (∀ w : World, Calls Tryd.prog 14 #[.int .i64 k, .agg #[.int .i64 k, .int .u64 Zn, .string ⟨#[]⟩, .slice none 0 0, .slice none 0 0, .slice none 0 0, .slice none 0 0]] w fun e w' => e = .returned (.bool true) ∧ Below w.heap.size w w')) (Y : Int) (KN : Hid (∀ w : World, Calls Tryd.prog 57 #[.agg #[.int .i64 k, .int .u64 Zn, .string ⟨#[]⟩, .slice none 0 0, .slice none 0 0, .slice none 0 0, .slice none 0 0]] w fun e w' => e = .returned (.agg #[.int .i64 k, .int .u64 Y, .string ⟨#[]⟩, .slice none 0 0, .slice none 0 0, .slice none 0 0, .slice none 0 0]) ∧ Below w.heap.size w w')) (hy : (Y != Zn) = false) :
    Calls Tryd.prog 18 #[.string s] w fun e w' => e = .returned (unkV k Zn ⟨#[]⟩ N 0) ∧ Below w.heap.size w w' := by
  have i0 : (0 : Int) < (s.size : Int) := by omega
  go_enter Tryd.func18, Tryd.ntmps18
  go_wp2_with fail
  refine calls_box2 ?_
  intro W hA hB hb
  have HB := Lib.hid hb
  have HA := Lib.hid hA
  have HV := Lib.hid hB
  clear hA hB hb
  refine calls_same (KI.out _) ?_
  obtain ⟨v0, v1, v2, v3, v4, v5, v6⟩ := cells7 HV.out
  obtain ⟨r0, r1, r2, r3, r4, r5, r6⟩ := cells7 HA.out
  go_wp2_with fail
  clear v0 v1 v2 v3 v4 v5 v6 r0 r1 r2 r3 r4 r5 r6
  subst hE
  refine calls_on (KU.out _) ?_
  intro w2 hb2
  have HB2 := Lib.hid (above HB.out hb2)
  have HA2 := Lib.hid (blk_keep hb2 HA.out)
  have HV2 := Lib.hid (blk_keep hb2 HV.out)
  have hs2 := blk_lt HV2.out
  clear hb2
  obtain ⟨v0, v1, v2, v3, v4, v5, v6⟩ := cells7 HV2.out
  obtain ⟨r0, r1, r2, r3, r4, r5, r6⟩ := cells7 HA2.out
  have vf0 := blk_free HV2.out 0
  have rf0 := blk_free HA2.out 0
  have vf1 := blk_free HV2.out 1
  have rf1 := blk_free HA2.out 1
  have vf2 := blk_free HV2.out 2
  have rf2 := blk_free HA2.out 2
  have vf3 := blk_free HV2.out 3
  have rf3 := blk_free HA2.out 3
  have vf4 := blk_free HV2.out 4
  have rf4 := blk_free HA2.out 4
  have vf5 := blk_free HV2.out 5
  have rf5 := blk_free HA2.out 5
  have vf6 := blk_free HV2.out 6
  have rf6 := blk_free HA2.out 6
  go_wp2_with fail
  have HS2 : Hid (Below w.heap.size w (w2.setCell ⟨w.heap.size + 1, 1, none⟩ (.int .u64 Zn))) := Lib.hid (HB2.out.setCell (by simp) _)
  have HV3 : Hid ((w2.setCell ⟨w.heap.size + 1, 1, none⟩ (.int .u64 Zn)).heap[w.heap.size + 1]? = some (.cells #[.int .i64 k, .int .u64 Zn, .string ⟨#[]⟩, .slice none 0 0, .slice none 0 0, .slice none 0 0, .slice none 0 0] 28 (0, 0))) := Lib.hid (blk_set HV2.out (.int .u64 Zn))
  have HA3 : Hid ((w2.setCell ⟨w.heap.size + 1, 1, none⟩ (.int .u64 Zn)).heap[w.heap.size]? = some (.cells #[.int .i64 0, .int .u64 0, .string ⟨#[]⟩, .slice none 0 0, .slice none 0 0, .slice none 0 0, .slice none 0 0] 28 (0, 0))) := Lib.hid (blk_set_ne HA2.out (by simp) _)
  clear v0 r0 vf0 rf0 v1 r1 vf1 rf1 v2 r2 vf2 rf2 v3 r3 vf3 rf3 v4 r4 vf4 rf4 v5 r5 vf5 rf5 v6 r6 vf6 rf6
  generalize w2.setCell ⟨w.heap.size + 1, 1, none⟩ (.int .u64 Zn) = W3 at *
  obtain ⟨a0, a1, a2, a3, a4, a5, a6⟩ := up7 HV3.out
  refine wp_region_up (by kernel_rfl) (by kernel_rfl) ?_
  repeat (go_big_quiet_step (first | (go_at_call 14; with_reducible exact calls_up (KF.out _)) | (go_at_call 57; with_reducible exact calls_up (KN.out _))))
  refine wpQuiet_nil ?_
  rintro _ ⟨s1, rfl⟩
  clear a0 a1 a2 a3 a4 a5 a6
  have HB4 := Lib.hid (above HS2.out s1.h)
  have HV4 := Lib.hid (blk_keep s1.h HV3.out)
  have HA4 := Lib.hid (blk_keep s1.h HA3.out)
  generalize s1.w = w4 at *
  obtain ⟨v0, v1, v2, v3, v4, v5, v6⟩ := cells7 HV4.out
  obtain ⟨r0, r1, r2, r3, r4, r5, r6⟩ := cells7 HA4.out
  have vf0 := blk_free HV4.out 0
  have rf0 := blk_free HA4.out 0
  have vf1 := blk_free HV4.out 1
  have rf1 := blk_free HA4.out 1
  have vf2 := blk_free HV4.out 2
  have rf2 := blk_free HA4.out 2
  have vf3 := blk_free HV4.out 3
  have rf3 := blk_free HA4.out 3
  have vf4 := blk_free HV4.out 4
  have rf4 := blk_free HA4.out 4
  have vf5 := blk_free HV4.out 5
  have rf5 := blk_free HA4.out 5
  have vf6 := blk_free HV4.out 6
  have rf6 := blk_free HA4.out 6
  go_wp2_with fail
  have hb4 := HB4.out
  exact bodyPost_ret (v := unkV k Zn ⟨#[]⟩ N 0) (by simp [results, Tryd.results18, go_sem, unkV, *]) rfl ⟨rfl, by go_grown⟩
end Go.Proofs.YtlgpoapedgodoaaDoor

/- order.Unkey whole: one contract. -/
namespace Go.Proofs.YtlgpoapedgodoaaDoor
open Go.RowKit
set_option linter.unusedVariables false

structure Unk where
  k : Int
  z : Int
  t : ByteArray
  n : Int
  e : Int

def Unk.no (e : Int) : Unk := ⟨0, 0, ⟨#[]⟩, 0, e⟩

/-- The text read behind a key's first byte. -/
def untF (k : Int) (R : List UInt8 × Nat × Int) : Unk :=
  if R.2.2 ≠ 0 then .no R.2.2 else
  if fitsB k k 0 ⟨R.1.toArray⟩ true = true then ⟨k, 0, ⟨R.1.toArray⟩, (R.2.1 : Int), 0⟩ else .no 5

/-- The number read. -/
def unnF (k z : Int) : Unk :=
  if fitsB k k z ⟨#[]⟩ true = true ∧ normZ k z = z then ⟨k, z, ⟨#[]⟩, 9, 0⟩ else .no 5

/-- What a key is read as. -/
def unkeyF (s : ByteArray) : Unk :=
  if s.size = 0 then .no 4 else
  let k : Int := ((s.get! 0).toNat : Int)
  if 1 ≤ k ∧ k ≤ 9 then
    if k = 7 ∨ k = 8 then untF k (unT (s.data.toList.drop 1) [] 1) else
    if s.size < 9 then .no 4 else unnF k (unrankK k (beZ s))
  else .no 5

def Unk.v (r : Unk) : Value := unkV r.k r.z r.t r.n r.e

theorem noneB0 : noneB 0 0 0 0 = true := by decide

theorem normZ_no (k z : Int) (h : k ≠ 6) : normZ k z = z := by unfold normZ; rw [if_neg (fun x => h x.1)]

theorem flipZ_word (u : Int) (h : word u) : word (flipZ u) := by
  obtain ⟨a, b⟩ := h
  unfold flipZ
  constructor <;> split <;> omega

theorem unrankK_word (k u : Int) (h : word u) : word (unrankK k u) := by
  unfold unrankK
  split
  · exact flipZ_word u h
  · obtain ⟨a, b⟩ := h
    split
    · constructor <;> split <;> omega
    · exact ⟨a, b⟩

theorem unkey_ok (s : ByteArray) (hs : s.size ≤ 140737488351232) (w : World) :
    Calls Tryd.prog 18 #[.string s] w fun e w' => e = .returned (unkeyF s).v ∧ Below w.heap.size w w' := by
  unfold unkeyF
  by_cases h0 : s.size = 0
  · rw [if_pos h0]
    have : s = ⟨#[]⟩ := by
      cases s with
      | mk d => cases d with
        | mk l => cases l with
          | nil => rfl
          | cons a b => simp [ByteArray.size] at h0
    subst this
    exact unk_empty w
  rw [if_neg h0]
  have h : 0 < s.size := by omega
  have ht : s.toList.isEmpty = false := by rw [empty_toList]; simp [h0]
  have hg : (s.get! 0).toNat = (s[0]'h).toNat := get_fin s 0 h
  rw [hg]
  obtain ⟨k, hk⟩ : ∃ k : Int, ((s[0]'h).toNat : Int) = k := ⟨_, rfl⟩
  have hlt := UInt8.toNat_lt (s[0]'h)
  have hwb : wrap64 k = k := by
    subst hk
    simp only [wrap64]; omega
  rw [hk]
  by_cases hr : 1 ≤ k ∧ k ≤ 9
  case neg =>
    rw [if_neg hr]
    exact unk_kind s h w (by rw [hk]; exact decide_eq_false hr) ht
  rw [if_pos hr]
  have KI : Hid (∀ w : World, Calls Tryd.prog 45 #[.int .i64 k] w fun e w' => e = .returned (.bool true) ∧ w' = w) := Lib.hid (by
    intro w
    have := is_ok k w
    rw [decide_eq_true hr] at this
    exact this)
  have KF : ∀ (z : Int) (T : ByteArray) (b : Bool), fitsB k k z T true = b → Hid (∀ w : World, Calls Tryd.prog 14 #[.int .i64 k, .agg #[.int .i64 k, .int .u64 z, .string T, .slice none 0 0, .slice none 0 0, .slice none 0 0, .slice none 0 0]] w fun e w' => e = .returned (.bool b) ∧ Below w.heap.size w w') := by
    intro z T b hb
    refine Lib.hid fun w => ?_
    have := fits_ok k k z T 0 0 0 0 0 0 0 0 none none none none w (by decide) (by decide) (by decide) (by decide)
    rw [noneB0, hb] at this
    exact this
  by_cases h78 : k = 7 ∨ k = 8
  · rw [if_pos h78]
    obtain ⟨R, HR⟩ : ∃ R, R = unT (s.data.toList.drop 1) [] 1 := ⟨_, rfl⟩
    have KU : Hid (∀ w : World, Calls Tryd.prog 55 #[.string s] w fun e w' => e = .returned (.tuple #[.string ⟨R.1.toArray⟩, .int .i64 (R.2.1 : Nat), .int .i64 R.2.2]) ∧ Below w.heap.size w w') := Lib.hid (by
      intro w
      rw [HR]
      exact untext_ok s (by omega) hs w)
    rw [← HR]
    clear HR
    have KN : k ≠ 6 → Hid (∀ w : World, Calls Tryd.prog 57 #[.agg #[.int .i64 k, .int .u64 0, .string ⟨R.1.toArray⟩, .slice none 0 0, .slice none 0 0, .slice none 0 0, .slice none 0 0]] w fun e w' => e = .returned (.agg #[.int .i64 k, .int .u64 0, .string ⟨R.1.toArray⟩, .slice none 0 0, .slice none 0 0, .slice none 0 0, .slice none 0 0]) ∧ Below w.heap.size w w') := by
      intro h6
      refine Lib.hid fun w => ?_
      have := norm_ok k 0 ⟨R.1.toArray⟩ 0 0 0 0 0 0 0 0 none none none none ⟨by decide, by decide⟩ w
      rw [normZ_no k 0 h6] at this
      exact this
    unfold untF
    by_cases hE : R.2.2 = 0
    · rw [if_neg (by simpa using hE)]
      cases hf : fitsB k k 0 ⟨R.1.toArray⟩ true
      · rw [if_neg (by simp)]
        rcases h78 with rfl | rfl
        · exact unk_bad7 s h w hk ht KI _ _ _ KU hE (KF _ _ _ hf) (KN (by decide))
        · exact unk_bad8 s h w hk ht KI _ _ _ KU hE (KF _ _ _ hf) (KN (by decide))
      · rw [if_pos rfl]
        rcases h78 with rfl | rfl
        · exact unk_txt7 s h w hk ht KI _ _ _ KU hE (KF _ _ _ hf) (KN (by decide))
        · exact unk_txt8 s h w hk ht KI _ _ _ KU hE (KF _ _ _ hf) (KN (by decide))
    · rw [if_pos hE]
      rcases h78 with rfl | rfl
      · exact unk_err7 s h w hk ht KI _ _ R.2.2 KU (by simpa using hE)
      · exact unk_err8 s h w hk ht KI _ _ R.2.2 KU (by simpa using hE)
  · rw [if_neg h78]
    have k7 : (k == 7) = false := by simp; omega
    have k8 : (k == 8) = false := by simp; omega
    by_cases h9 : s.size < 9
    · rw [if_pos h9]
      exact unk_nerr s h w k hk hwb ht k7 k8 KI 0 0 4 (Lib.hid fun w => unnum_short s (decide_eq_true (by omega)) w) (by decide)
    · rw [if_neg h9]
      obtain ⟨z, hz⟩ : ∃ z, z = unrankK k (beZ s) := ⟨_, rfl⟩
      have hw : word z := by rw [hz]; exact unrankK_word k _ (takeZ_word _)
      have KU : Hid (∀ w : World, Calls Tryd.prog 56 #[.string s] w fun e w' => e = .returned (.tuple #[.int .u64 z, .int .i64 9, .int .i64 0]) ∧ Below w.heap.size w w') := Lib.hid (by
        intro w
        have := unnum_ok s (by omega) w
        rw [hg, hk, ← hz] at this
        exact this)
      rw [← hz]
      clear hz
      have KN : Hid (∀ w : World, Calls Tryd.prog 57 #[.agg #[.int .i64 k, .int .u64 z, .string ⟨#[]⟩, .slice none 0 0, .slice none 0 0, .slice none 0 0, .slice none 0 0]] w fun e w' => e = .returned (.agg #[.int .i64 k, .int .u64 (normZ k z), .string ⟨#[]⟩, .slice none 0 0, .slice none 0 0, .slice none 0 0, .slice none 0 0]) ∧ Below w.heap.size w w') :=
        Lib.hid fun w => norm_ok k z ⟨#[]⟩ 0 0 0 0 0 0 0 0 none none none none hw w
      unfold unnF
      cases hf : fitsB k k z ⟨#[]⟩ true
      · rw [if_neg (by simp)]
        exact unk_nbad s h w k hk hwb ht k7 k8 KI _ _ _ KU rfl (KF _ _ _ hf) _ KN
      · by_cases hy : normZ k z = z
        · rw [if_pos ⟨rfl, hy⟩]
          exact unk_num s h w k hk hwb ht k7 k8 KI _ _ _ KU rfl (KF _ _ _ hf) _ KN (by simpa using hy)
        · rw [if_neg (fun x => hy x.2)]
          exact unk_nnan s h w k hk hwb ht k7 k8 KI _ _ _ KU rfl (KF _ _ _ hf) _ KN (by simpa using hy)
end Go.Proofs.YtlgpoapedgodoaaDoor

/- The reference's Same. -/
namespace Go.Proofs.YtlgpoapedgodoaaDoor
open Go.RowKit
set_option linter.unusedVariables false

set_option maxRecDepth 8000 in
set_option maxHeartbeats 4000000 in
theorem same_yes (k z : Int) (t : ByteArray) (l1 l2 l3 l4 c1 c2 c3 c4 : Nat) (d1 d2 d3 d4 : Option Addr) (c1' c2' c3' c4' : Nat) (d1' d2' d3' d4' : Option Addr) (w : World) :
    Calls Tryd.prog 20 #[.agg #[.int .i64 k, .int .u64 z, .string t, .slice d1 l1 c1, .slice d2 l2 c2, .slice d3 l3 c3, .slice d4 l4 c4], .agg #[.int .i64 k, .int .u64 z, .string t, .slice d1' l1 c1', .slice d2' l2 c2', .slice d3' l3 c3', .slice d4' l4 c4']] w fun e w' => e = .returned (.bool true) ∧ Below w.heap.size w w' := by
  have hk : (k == k) = true := beq_self_eq_true k
  have hz : (z == z) = true := beq_self_eq_true z
  have ht : (t.toList == t.toList) = true := beq_self_eq_true _
  have h1 : ((l1 : Int) == (l1 : Int)) = true := beq_self_eq_true _
  have h2 : ((l2 : Int) == (l2 : Int)) = true := beq_self_eq_true _
  have h3 : ((l3 : Int) == (l3 : Int)) = true := beq_self_eq_true _
  have h4 : ((l4 : Int) == (l4 : Int)) = true := beq_self_eq_true _
  go_enter Tryd.func20, Tryd.ntmps20
  go_wp2_with fail
  go_ret
  exact ⟨rfl, (box2_facts _ _ _ _ _).2.2⟩

set_option maxRecDepth 8000 in
set_option maxHeartbeats 4000000 in
theorem same_bits (k z y : Int) (hz : (z == y) = false) (t : ByteArray) (l1 l2 l3 l4 c1 c2 c3 c4 : Nat) (d1 d2 d3 d4 : Option Addr) (c1' c2' c3' c4' : Nat) (d1' d2' d3' d4' : Option Addr) (w : World) :
    Calls Tryd.prog 20 #[.agg #[.int .i64 k, .int .u64 z, .string t, .slice d1 l1 c1, .slice d2 l2 c2, .slice d3 l3 c3, .slice d4 l4 c4], .agg #[.int .i64 k, .int .u64 y, .string t, .slice d1' l1 c1', .slice d2' l2 c2', .slice d3' l3 c3', .slice d4' l4 c4']] w fun e w' => e = .returned (.bool false) ∧ Below w.heap.size w w' := by
  have hk : (k == k) = true := beq_self_eq_true k
  go_enter Tryd.func20, Tryd.ntmps20
  go_wp2_with fail
  go_ret
  exact ⟨rfl, (box2_facts _ _ _ _ _).2.2⟩
end Go.Proofs.YtlgpoapedgodoaaDoor

/- The reference's Unkey, way by way. -/
namespace Go.Proofs.YtlgpoapedgodoaaDoor
open Go.RowKit
set_option linter.unusedVariables false

set_option maxRecDepth 8000 in
set_option maxHeartbeats 4000000 in
theorem runk_empty (w : World) :
    Calls Tryd.prog 19 #[.string ⟨#[]⟩] w fun e w' => e = .returned (unkV 0 0 ⟨#[]⟩ 0 4) ∧ Below w.heap.size w w' := by
  go_enter Tryd.func19, Tryd.ntmps19
  go_wp2_with fail
  exact bodyPost_ret (v := unkV 0 0 ⟨#[]⟩ 0 4) (by simp [results, Tryd.results19, go_sem, unkV]) rfl ⟨rfl, by go_grown⟩

set_option maxRecDepth 8000 in
set_option maxHeartbeats 4000000 in
theorem runk_kind (s : ByteArray) (h : 0 < s.size) (w : World) (hk : decide (1 ≤ ((s[0]'h).toNat : Int) ∧ ((s[0]'h).toNat : Int) ≤ 9) = false) (ht : s.toList.isEmpty = false) :
    Calls Tryd.prog 19 #[.string s] w fun e w' => e = .returned (unkV 0 0 ⟨#[]⟩ 0 5) ∧ Below w.heap.size w w' := by
  have i0 : (0 : Int) < (s.size : Int) := by omega
  have hwb : wrap64 ((s[0]'h).toNat : Int) = ((s[0]'h).toNat : Int) := by
    have := UInt8.toNat_lt (s[0]'h)
    simp only [wrap64]; omega
  have KI : Hid (∀ w : World, Calls Tryd.prog 58 #[.int .i64 ((s[0]'h).toNat : Int)] w fun e w' => e = .returned (.bool false) ∧ w' = w) := by
    intro w; rw [← hk]; exact ris_ok _ w
  clear hk
  go_enter Tryd.func19, Tryd.ntmps19
  go_wp2_with fail
  refine calls_same (KI.out _) ?_
  go_wp2_with fail
  exact bodyPost_ret (v := unkV 0 0 ⟨#[]⟩ 0 5) (by simp [results, Tryd.results19, go_sem, unkV]) rfl ⟨rfl, by go_grown⟩

set_option maxRecDepth 8000 in
set_option maxHeartbeats 4000000 in
theorem runk_err (s : ByteArray) (h : 0 < s.size) (w : World) (k : Int) (hk : ((s[0]'h).toNat : Int) = k) (hwb : wrap64 k = k) (ht : s.toList.isEmpty = false) (KI : Hid (∀ w : World, Calls Tryd.prog 58 #[.int .i64 k] w fun e w' => e = .returned (.bool true) ∧ w' = w)) (KX : Hid (∀ w : World, Calls Tryd.prog 31 #[.int .i64 k] w fun e w' => e = .returned (.bool true) ∧ w' = w)) (T : ByteArray) (N E : Int) (KU : Hid (∀ w : World, Calls Tryd.prog 59 #[.string s] w fun e w' => e = .returned (.tuple #[.string T, .int .i64 N, .int .i64 E]) ∧ Below w.heap.size w w')) (hE : (E != 0) = true) :
    Calls Tryd.prog 19 #[.string s] w fun e w' => e = .returned (unkV 0 0 ⟨#[]⟩ 0 E) ∧ Below w.heap.size w w' := by
  have i0 : (0 : Int) < (s.size : Int) := by omega
  go_enter Tryd.func19, Tryd.ntmps19
  go_wp2_with fail
  refine calls_box2 ?_
  intro W hA hB hb
  have HB := Lib.hid hb
  have HA := Lib.hid hA
  have HV := Lib.hid hB
  clear hA hB hb
  refine calls_same (KI.out _) ?_
  obtain ⟨v0, v1, v2, v3, v4, v5, v6⟩ := cells7 HV.out
  obtain ⟨r0, r1, r2, r3, r4, r5, r6⟩ := cells7 HA.out
  go_wp2_with fail
  refine calls_same (KX.out _) ?_
  go_wp2_with fail
  clear v0 v1 v2 v3 v4 v5 v6 r0 r1 r2 r3 r4 r5 r6
  refine calls_on (KU.out _) ?_
  intro w2 hb2
  have HB2 := Lib.hid (above HB.out hb2)
  have HA2 := Lib.hid (blk_keep hb2 HA.out)
  have HV2 := Lib.hid (blk_keep hb2 HV.out)
  have hs2 := blk_lt HV2.out
  clear hb2
  obtain ⟨v0, v1, v2, v3, v4, v5, v6⟩ := cells7 HV2.out
  obtain ⟨r0, r1, r2, r3, r4, r5, r6⟩ := cells7 HA2.out
  have vf0 := blk_free HV2.out 0
  have rf0 := blk_free HA2.out 0
  have vf1 := blk_free HV2.out 1
  have rf1 := blk_free HA2.out 1
  have vf2 := blk_free HV2.out 2
  have rf2 := blk_free HA2.out 2
  have vf3 := blk_free HV2.out 3
  have rf3 := blk_free HA2.out 3
  have vf4 := blk_free HV2.out 4
  have rf4 := blk_free HA2.out 4
  have vf5 := blk_free HV2.out 5
  have rf5 := blk_free HA2.out 5
  have vf6 := blk_free HV2.out 6
  have rf6 := blk_free HA2.out 6
  go_wp2_with fail
  have hb2 := HB2.out
  exact bodyPost_ret (v := unkV 0 0 ⟨#[]⟩ 0 E) (by simp [results, Tryd.results19, go_sem, unkV, *]) rfl ⟨rfl, by go_grown⟩

set_option maxRecDepth 8000 in
set_option maxHeartbeats 4000000 in
theorem runk_bad (s : ByteArray) (h : 0 < s.size) (w : World) (k : Int) (hk : ((s[0]'h).toNat : Int) = k) (hwb : wrap64 k = k) (ht : s.toList.isEmpty = false) (KI : Hid (∀ w : World, Calls Tryd.prog 58 #[.int .i64 k] w fun e w' => e = .returned (.bool true) ∧ w' = w)) (KX : Hid (∀ w : World, Calls Tryd.prog 31 #[.int .i64 k] w fun e w' => e = .returned (.bool true) ∧ w' = w)) (T : ByteArray) (N E : Int) (KU : Hid (∀ w : World, Calls Tryd.prog 59 #[.string s] w fun e w' => e = .returned (.tuple #[.string T, .int .i64 N, .int .i64 E]) ∧ Below w.heap.size w w')) (hE : E = 0) (KF : Hid (∀ w : World, Calls Tryd.prog 21 #[.int .i64 k, .agg #[.int .i64 k, .int .u64 0, .string T, .slice none 0 0, .slice none 0 0, .slice none 0 0, .slice none 0 0]] w fun e w' => e = .returned (.bool false) ∧ Below w.heap.size w w')) :
    Calls Tryd.prog 19 #[.string s] w fun e w' => e = .returned (unkV 0 0 ⟨#[]⟩ 0 5) ∧ Below w.heap.size w w' := by
  have i0 : (0 : Int) < (s.size : Int) := by omega
  go_enter Tryd.func19, Tryd.ntmps19
  go_wp2_with fail
  refine calls_box2 ?_
  intro W hA hB hb
  have HB := Lib.hid hb
  have HA := Lib.hid hA
  have HV := Lib.hid hB
  clear hA hB hb
  refine calls_same (KI.out _) ?_
  obtain ⟨v0, v1, v2, v3, v4, v5, v6⟩ := cells7 HV.out
  obtain ⟨r0, r1, r2, r3, r4, r5, r6⟩ := cells7 HA.out
  go_wp2_with fail
  refine calls_same (KX.out _) ?_
  go_wp2_with fail
  clear v0 v1 v2 v3 v4 v5 v6 r0 r1 r2 r3 r4 r5 r6
  subst hE
  refine calls_on (KU.out _) ?_
  intro w2 hb2
  have HB2 := Lib.hid (above HB.out hb2)
  have HA2 := Lib.hid (blk_keep hb2 HA.out)
  have HV2 := Lib.hid (blk_keep hb2 HV.out)
  have hs2 := blk_lt HV2.out
  clear hb2
  obtain ⟨v0, v1, v2, v3, v4, v5, v6⟩ := cells7 HV2.out
  obtain ⟨r0, r1, r2, r3, r4, r5, r6⟩ := cells7 HA2.out
  have vf0 := blk_free HV2.out 0
  have rf0 := blk_free HA2.out 0
  have vf1 := blk_free HV2.out 1
  have rf1 := blk_free HA2.out 1
  have vf2 := blk_free HV2.out 2
  have rf2 := blk_free HA2.out 2
  have vf3 := blk_free HV2.out 3
  have rf3 := blk_free HA2.out 3
  have vf4 := blk_free HV2.out 4
  have rf4 := blk_free HA2.out 4
  have vf5 := blk_free HV2.out 5
  have rf5 := blk_free HA2.out 5
  have vf6 := blk_free HV2.out 6
  have rf6 := blk_free HA2.out 6
  go_wp2_with fail
  have HS2 : Hid (Below w.heap.size w (w2.setCell ⟨w.heap.size + 1, 2, none⟩ (.string T))) := Lib.hid (HB2.out.setCell (by simp) _)
  have HV3 : Hid ((w2.setCell ⟨w.heap.size + 1, 2, none⟩ (.string T)).heap[w.heap.size + 1]? = some (.cells #[.int .i64 k, .int .u64 0, .string T, .slice none 0 0, .slice none 0 0, .slice none 0 0, .slice none 0 0] 28 (0, 0))) := Lib.hid (blk_set HV2.out (.string T))
  have HA3 : Hid ((w2.setCell ⟨w.heap.size + 1, 2, none⟩ (.string T)).heap[w.heap.size]? = some (.cells #[.int .i64 0, .int .u64 0, .string ⟨#[]⟩, .slice none 0 0, .slice none 0 0, .slice none 0 0, .slice none 0 0] 28 (0, 0))) := Lib.hid (blk_set_ne HA2.out (by simp) _)
  clear v0 r0 vf0 rf0 v1 r1 vf1 rf1 v2 r2 vf2 rf2 v3 r3 vf3 rf3 v4 r4 vf4 rf4 v5 r5 vf5 rf5 v6 r6 vf6 rf6
  generalize w2.setCell ⟨w.heap.size + 1, 2, none⟩ (.string T) = W3 at *
  obtain ⟨a0, a1, a2, a3, a4, a5, a6⟩ := up7 HV3.out
  refine wp_region_up (by kernel_rfl) (by kernel_rfl) ?_
  repeat (go_big_quiet_step (first | (go_at_call 21; with_reducible exact calls_up (KF.out _))))
  refine wpQuiet_nil ?_
  rintro _ ⟨s1, rfl⟩
  clear a0 a1 a2 a3 a4 a5 a6
  have HB4 := Lib.hid (above HS2.out s1.h)
  have HV4 := Lib.hid (blk_keep s1.h HV3.out)
  have HA4 := Lib.hid (blk_keep s1.h HA3.out)
  generalize s1.w = w4 at *
  obtain ⟨v0, v1, v2, v3, v4, v5, v6⟩ := cells7 HV4.out
  obtain ⟨r0, r1, r2, r3, r4, r5, r6⟩ := cells7 HA4.out
  have vf0 := blk_free HV4.out 0
  have rf0 := blk_free HA4.out 0
  have vf1 := blk_free HV4.out 1
  have rf1 := blk_free HA4.out 1
  have vf2 := blk_free HV4.out 2
  have rf2 := blk_free HA4.out 2
  have vf3 := blk_free HV4.out 3
  have rf3 := blk_free HA4.out 3
  have vf4 := blk_free HV4.out 4
  have rf4 := blk_free HA4.out 4
  have vf5 := blk_free HV4.out 5
  have rf5 := blk_free HA4.out 5
  have vf6 := blk_free HV4.out 6
  have rf6 := blk_free HA4.out 6
  go_wp2_with fail
  have hb4 := HB4.out
  exact bodyPost_ret (v := unkV 0 0 ⟨#[]⟩ 0 5) (by simp [results, Tryd.results19, go_sem, unkV, *]) rfl ⟨rfl, by go_grown⟩

set_option maxRecDepth 8000 in
set_option maxHeartbeats 4000000 in
theorem runk_txt (s : ByteArray) (h : 0 < s.size) (w : World) (k : Int) (hk : ((s[0]'h).toNat : Int) = k) (hwb : wrap64 k = k) (ht : s.toList.isEmpty = false) (KI : Hid (∀ w : World, Calls Tryd.prog 58 #[.int .i64 k] w fun e w' => e = .returned (.bool true) ∧ w' = w)) (KX : Hid (∀ w : World, Calls Tryd.prog 31 #[.int .i64 k] w fun e w' => e = .returned (.bool true) ∧ w' = w)) (T : ByteArray) (N E : Int) (KU : Hid (∀ w : World, Calls Tryd.prog 59 #[.string s] w fun e w' => e = .returned (.tuple #[.string T, .int .i64 N, .int .i64 E]) ∧ Below w.heap.size w w')) (hE : E = 0) (KF : Hid (∀ w : World, Calls Tryd.prog 21 #[.int .i64 k, .agg #[.int .i64 k, .int .u64 0, .string T, .slice none 0 0, .slice none 0 0, .slice none 0 0, .slice none 0 0]] w fun e w' => e = .returned (.bool true) ∧ Below w.heap.size w w')) (KN : Hid (∀ w : World, Calls Tryd.prog 22 #[.agg #[.int .i64 k, .int .u64 0, .string T, .slice none 0 0, .slice none 0 0, .slice none 0 0, .slice none 0 0]] w fun e w' => e = .returned (.agg #[.int .i64 k, .int .u64 0, .string T, .slice none 0 0, .slice none 0 0, .slice none 0 0, .slice none 0 0]) ∧ Below w.heap.size w w')) (KS : Hid (∀ w : World, Calls Tryd.prog 20 #[.agg #[.int .i64 k, .int .u64 0, .string T, .slice none 0 0, .slice none 0 0, .slice none 0 0, .slice none 0 0], .agg #[.int .i64 k, .int .u64 0, .string T, .slice none 0 0, .slice none 0 0, .slice none 0 0, .slice none 0 0]] w fun e w' => e = .returned (.bool true) ∧ Below w.heap.size w w')) :
    Calls Tryd.prog 19 #[.string s] w fun e w' => e = .returned (unkV k 0 T N 0) ∧ Below w.heap.size w w' := by
  have i0 : (0 : Int) < (s.size : Int) := by omega
  go_enter Tryd.func19, Tryd.ntmps19
  go_wp2_with fail
  refine calls_box2 ?_
  intro W hA hB hb
  have HB := Lib.hid hb
  have HA := Lib.hid hA
  have HV := Lib.hid hB
  clear hA hB hb
  refine calls_same (KI.out _) ?_
  obtain ⟨v0, v1, v2, v3, v4, v5, v6⟩ := cells7 HV.out
  obtain ⟨r0, r1, r2, r3, r4, r5, r6⟩ := cells7 HA.out
  go_wp2_with fail
  refine calls_same (KX.out _) ?_
  go_wp2_with fail
  clear v0 v1 v2 v3 v4 v5 v6 r0 r1 r2 r3 r4 r5 r6
  subst hE
  refine calls_on (KU.out _) ?_
  intro w2 hb2
  have HB2 := Lib.hid (above HB.out hb2)
  have HA2 := Lib.hid (blk_keep hb2 HA.out)
  have HV2 := Lib.hid (blk_keep hb2 HV.out)
  have hs2 := blk_lt HV2.out
  clear hb2
  obtain ⟨v0, v1, v2, v3, v4, v5, v6⟩ := cells7 HV2.out
  obtain ⟨r0, r1, r2, r3, r4, r5, r6⟩ := cells7 HA2.out
  have vf0 := blk_free HV2.out 0
  have rf0 := blk_free HA2.out 0
  have vf1 := blk_free HV2.out 1
  have rf1 := blk_free HA2.out 1
  have vf2 := blk_free HV2.out 2
  have rf2 := blk_free HA2.out 2
  have vf3 := blk_free HV2.out 3
  have rf3 := blk_free HA2.out 3
  have vf4 := blk_free HV2.out 4
  have rf4 := blk_free HA2.out 4
  have vf5 := blk_free HV2.out 5
  have rf5 := blk_free HA2.out 5
  have vf6 := blk_free HV2.out 6
  have rf6 := blk_free HA2.out 6
  go_wp2_with fail
  have HS2 : Hid (Below w.heap.size w (w2.setCell ⟨w.heap.size + 1, 2, none⟩ (.string T))) := Lib.hid (HB2.out.setCell (by simp) _)
  have HV3 : Hid ((w2.setCell ⟨w.heap.size + 1, 2, none⟩ (.string T)).heap[w.heap.size + 1]? = some (.cells #[.int .i64 k, .int .u64 0, .string T, .slice none 0 0, .slice none 0 0, .slice none 0 0, .slice none 0 0] 28 (0, 0))) := Lib.hid (blk_set HV2.out (.string T))
  have HA3 : Hid ((w2.setCell ⟨w.heap.size + 1, 2, none⟩ (.string T)).heap[w.heap.size]? = some (.cells #[.int .i64 0, .int .u64 0, .string ⟨#[]⟩, .slice none 0 0, .slice none 0 0, .slice none 0 0, .slice none 0 0] 28 (0, 0))) := Lib.hid (blk_set_ne HA2.out (by simp) _)
  clear v0 r0 vf0 rf0 v1 r1 vf1 rf1 v2 r2 vf2 rf2 v3 r3 vf3 rf3 v4 r4 vf4 rf4 v5 r5 vf5 rf5 v6 r6 vf6 rf6
  generalize w2.setCell ⟨w.heap.size + 1, 2, none⟩ (.string T) = W3 at *
  obtain ⟨a0, a1, a2, a3, a4, a5, a6⟩ := up7 HV3.out
  refine wp_region_up (by kernel_rfl) (by kernel_rfl) ?_
  repeat (go_big_quiet_step (first | (go_at_call 21; with_reducible exact calls_up (KF.out _)) | (go_at_call 22; with_reducible exact calls_up (KN.out _)) | (go_at_call 20; with_reducible exact calls_up (KS.out _))))
  refine wpQuiet_nil ?_
  rintro _ ⟨s1, rfl⟩
  clear a0 a1 a2 a3 a4 a5 a6
  have HB4 := Lib.hid (above HS2.out s1.h)
  have HV4 := Lib.hid (blk_keep s1.h HV3.out)
  have HA4 := Lib.hid (blk_keep s1.h HA3.out)
  generalize s1.w = w4 at *
  obtain ⟨v0, v1, v2, v3, v4, v5, v6⟩ := cells7 HV4.out
  obtain ⟨r0, r1, r2, r3, r4, r5, r6⟩ := cells7 HA4.out
  have vf0 := blk_free HV4.out 0
  have rf0 := blk_free HA4.out 0
  have vf1 := blk_free HV4.out 1
  have rf1 := blk_free HA4.out 1
  have vf2 := blk_free HV4.out 2
  have rf2 := blk_free HA4.out 2
  have vf3 := blk_free HV4.out 3
  have rf3 := blk_free HA4.out 3
  have vf4 := blk_free HV4.out 4
  have rf4 := blk_free HA4.out 4
  have vf5 := blk_free HV4.out 5
  have rf5 := blk_free HA4.out 5
  have vf6 := blk_free HV4.out 6
  have rf6 := blk_free HA4.out 6
  go_wp2_with fail
  have hb4 := HB4.out
  exact bodyPost_ret (v := unkV k 0 T N 0) (by simp [results, Tryd.results19, go_sem, unkV, *]) rfl ⟨rfl, by go_grown⟩
end Go.Proofs.YtlgpoapedgodoaaDoor

/- The reference's Unkey at numbers. -/
namespace Go.Proofs.YtlgpoapedgodoaaDoor
open Go.RowKit
set_option linter.unusedVariables false

set_option maxRecDepth 8000 in
set_option maxHeartbeats 4000000 in
theorem runk_short (s : ByteArray) (h : 0 < s.size) (w : World) (k : Int) (hk : ((s[0]'h).toNat : Int) = k) (hwb : wrap64 k = k) (ht : s.toList.isEmpty = false) (KI : Hid (∀ w : World, Calls Tryd.prog 58 #[.int .i64 k] w fun e w' => e = .returned (.bool true) ∧ w' = w)) (KX : Hid (∀ w : World, Calls Tryd.prog 31 #[.int .i64 k] w fun e w' => e = .returned (.bool false) ∧ w' = w)) (h9 : decide ((s.size : Int) < 9) = true) :
    Calls Tryd.prog 19 #[.string s] w fun e w' => e = .returned (unkV 0 0 ⟨#[]⟩ 0 4) ∧ Below w.heap.size w w' := by
  have i0 : (0 : Int) < (s.size : Int) := by omega
  go_enter Tryd.func19, Tryd.ntmps19
  go_wp2_with fail
  refine calls_box2 ?_
  intro W hA hB hb
  have HB := Lib.hid hb
  have HA := Lib.hid hA
  have HV := Lib.hid hB
  clear hA hB hb
  refine calls_same (KI.out _) ?_
  obtain ⟨v0, v1, v2, v3, v4, v5, v6⟩ := cells7 HV.out
  obtain ⟨r0, r1, r2, r3, r4, r5, r6⟩ := cells7 HA.out
  have vf0 := blk_free HV.out 0
  have rf0 := blk_free HA.out 0
  have vf1 := blk_free HV.out 1
  have rf1 := blk_free HA.out 1
  have vf2 := blk_free HV.out 2
  have rf2 := blk_free HA.out 2
  have vf3 := blk_free HV.out 3
  have rf3 := blk_free HA.out 3
  have vf4 := blk_free HV.out 4
  have rf4 := blk_free HA.out 4
  have vf5 := blk_free HV.out 5
  have rf5 := blk_free HA.out 5
  have vf6 := blk_free HV.out 6
  have rf6 := blk_free HA.out 6
  go_wp2_with fail
  refine calls_same (KX.out _) ?_
  go_wp2_with fail
  have hb2 := HB.out
  exact bodyPost_ret (v := unkV 0 0 ⟨#[]⟩ 0 4) (by simp [results, Tryd.results19, go_sem, unkV, *]) rfl ⟨rfl, by go_grown⟩

set_option maxRecDepth 8000 in
set_option maxHeartbeats 4000000 in
theorem runk_nbad (s : ByteArray) (h : 0 < s.size) (w : World) (k : Int) (hk : ((s[0]'h).toNat : Int) = k) (hwb : wrap64 k = k) (ht : s.toList.isEmpty = false) (KI : Hid (∀ w : World, Calls Tryd.prog 58 #[.int .i64 k] w fun e w' => e = .returned (.bool true) ∧ w' = w)) (KX : Hid (∀ w : World, Calls Tryd.prog 31 #[.int .i64 k] w fun e w' => e = .returned (.bool false) ∧ w' = w)) (h9 : 9 ≤ s.size) (u z : Int) (HU : Hid (u = IntKind.u64.wrap (IntKind.u64.wrap ((256 : Int) * IntKind.u64.wrap (IntKind.u64.wrap ((256 : Int) * IntKind.u64.wrap (IntKind.u64.wrap ((256 : Int) * IntKind.u64.wrap (IntKind.u64.wrap ((256 : Int) * IntKind.u64.wrap (IntKind.u64.wrap ((256 : Int) * IntKind.u64.wrap (IntKind.u64.wrap ((256 : Int) * IntKind.u64.wrap (IntKind.u64.wrap ((256 : Int) * IntKind.u64.wrap (IntKind.u64.wrap (s[1].toNat : Int))) + IntKind.u64.wrap (s[2].toNat : Int))) + IntKind.u64.wrap (s[3].toNat : Int))) + IntKind.u64.wrap (s[4].toNat : Int))) + IntKind.u64.wrap (s[5].toNat : Int))) + IntKind.u64.wrap (s[6].toNat : Int))) + IntKind.u64.wrap (s[7].toNat : Int))) + IntKind.u64.wrap (s[8].toNat : Int)))) (KR : Hid (∀ w : World, Calls Tryd.prog 60 #[.int .i64 k, .int .u64 u] w fun e w' => e = .returned (.int .u64 z) ∧ w' = w)) (KF : Hid (∀ w : World, Calls Tryd.prog 21 #[.int .i64 k, .agg #[.int .i64 k, .int .u64 z, .string ⟨#[]⟩, .slice none 0 0, .slice none 0 0, .slice none 0 0, .slice none 0 0]] w fun e w' => e = .returned (.bool false) ∧ Below w.heap.size w w')) :
    Calls Tryd.prog 19 #[.string s] w fun e w' => e = .returned (unkV 0 0 ⟨#[]⟩ 0 5) ∧ Below w.heap.size w w' := by
  have i0 : (0 : Int) < (s.size : Int) := by omega
  go_enter Tryd.func19, Tryd.ntmps19
  go_wp2_with fail
  refine calls_box2 ?_
  intro W hA hB hb
  have HB := Lib.hid hb
  have HA := Lib.hid hA
  have HV := Lib.hid hB
  clear hA hB hb
  refine calls_same (KI.out _) ?_
  obtain ⟨v0, v1, v2, v3, v4, v5, v6⟩ := cells7 HV.out
  obtain ⟨r0, r1, r2, r3, r4, r5, r6⟩ := cells7 HA.out
  go_wp2_with fail
  refine calls_same (KX.out _) ?_
  go_wp2_with fail
  clear v0 v1 v2 v3 v4 v5 v6 r0 r1 r2 r3 r4 r5 r6
  have i9 : (9 : Int) ≤ (s.size : Int) := by omega
  have hd : decide ((s.size : Int) < 9) = false := decide_eq_false (by omega)
  obtain ⟨v0, v1, v2, v3, v4, v5, v6⟩ := cells7 HV.out
  obtain ⟨r0, r1, r2, r3, r4, r5, r6⟩ := cells7 HA.out
  have vf0 := blk_free HV.out 0
  have rf0 := blk_free HA.out 0
  have vf1 := blk_free HV.out 1
  have rf1 := blk_free HA.out 1
  have vf2 := blk_free HV.out 2
  have rf2 := blk_free HA.out 2
  have vf3 := blk_free HV.out 3
  have rf3 := blk_free HA.out 3
  have vf4 := blk_free HV.out 4
  have rf4 := blk_free HA.out 4
  have vf5 := blk_free HV.out 5
  have rf5 := blk_free HA.out 5
  have vf6 := blk_free HV.out 6
  have rf6 := blk_free HA.out 6
  go_wp2_with fail
  refine wp_loop_rounds 9 ?_
  rw [rounds_succ]
  go_wp2_with fail
  rw [rounds_succ]
  go_wp2_with fail
  rw [rounds_succ]
  go_wp2_with fail
  rw [rounds_succ]
  go_wp2_with fail
  rw [rounds_succ]
  go_wp2_with fail
  rw [rounds_succ]
  go_wp2_with fail
  rw [rounds_succ]
  go_wp2_with fail
  rw [rounds_succ]
  go_wp2_with fail
  rw [rounds_succ]
  go_wp2_with fail
  rw [← HU.out]
  refine calls_same (KR.out _) ?_
  go_wp2_with fail
  have HS2 : Hid (Below w.heap.size w (W.setCell ⟨w.heap.size + 1, 1, none⟩ (.int .u64 z))) := Lib.hid (HB.out.setCell (by simp) _)
  have HV3 : Hid ((W.setCell ⟨w.heap.size + 1, 1, none⟩ (.int .u64 z)).heap[w.heap.size + 1]? = some (.cells #[.int .i64 k, .int .u64 z, .string ⟨#[]⟩, .slice none 0 0, .slice none 0 0, .slice none 0 0, .slice none 0 0] 28 (0, 0))) := Lib.hid (blk_set HV.out (.int .u64 z))
  have HA3 : Hid ((W.setCell ⟨w.heap.size + 1, 1, none⟩ (.int .u64 z)).heap[w.heap.size]? = some (.cells #[.int .i64 0, .int .u64 0, .string ⟨#[]⟩, .slice none 0 0, .slice none 0 0, .slice none 0 0, .slice none 0 0] 28 (0, 0))) := Lib.hid (blk_set_ne HA.out (by simp) _)
  clear v0 r0 vf0 rf0 v1 r1 vf1 rf1 v2 r2 vf2 rf2 v3 r3 vf3 rf3 v4 r4 vf4 rf4 v5 r5 vf5 rf5 v6 r6 vf6 rf6
  generalize W.setCell ⟨w.heap.size + 1, 1, none⟩ (.int .u64 z) = W3 at *
  obtain ⟨a0, a1, a2, a3, a4, a5, a6⟩ := up7 HV3.out
  refine wp_region_up (by kernel_rfl) (by kernel_rfl) ?_
  repeat (go_big_quiet_step (first | (go_at_call 21; with_reducible exact calls_up (KF.out _))))
  refine wpQuiet_nil ?_
  rintro _ ⟨s1, rfl⟩
  clear a0 a1 a2 a3 a4 a5 a6
  have HB4 := Lib.hid (above HS2.out s1.h)
  have HV4 := Lib.hid (blk_keep s1.h HV3.out)
  have HA4 := Lib.hid (blk_keep s1.h HA3.out)
  generalize s1.w = w4 at *
  obtain ⟨v0, v1, v2, v3, v4, v5, v6⟩ := cells7 HV4.out
  obtain ⟨r0, r1, r2, r3, r4, r5, r6⟩ := cells7 HA4.out
  have vf0 := blk_free HV4.out 0
  have rf0 := blk_free HA4.out 0
  have vf1 := blk_free HV4.out 1
  have rf1 := blk_free HA4.out 1
  have vf2 := blk_free HV4.out 2
  have rf2 := blk_free HA4.out 2
  have vf3 := blk_free HV4.out 3
  have rf3 := blk_free HA4.out 3
  have vf4 := blk_free HV4.out 4
  have rf4 := blk_free HA4.out 4
  have vf5 := blk_free HV4.out 5
  have rf5 := blk_free HA4.out 5
  have vf6 := blk_free HV4.out 6
  have rf6 := blk_free HA4.out 6
  go_wp2_with fail
  have hb4 := HB4.out
  exact bodyPost_ret (v := unkV 0 0 ⟨#[]⟩ 0 5) (by simp [results, Tryd.results19, go_sem, unkV, *]) rfl ⟨rfl, by go_grown⟩

set_option maxRecDepth 8000 in
set_option maxHeartbeats 4000000 in
theorem runk_nnan (s : ByteArray) (h : 0 < s.size) (w : World) (k : Int) (hk : ((s[0]'h).toNat : Int) = k) (hwb : wrap64 k = k) (ht : s.toList.isEmpty = false) (KI : Hid (∀ w : World, Calls Tryd.prog 58 #[.int .i64 k] w fun e w' => e = .returned (.bool true) ∧ w' = w)) (KX : Hid (∀ w : World, Calls Tryd.prog 31 #[.int .i64 k] w fun e w' => e = .returned (.bool false) ∧ w' = w)) (h9 : 9 ≤ s.size) (u z : Int) (HU : Hid (u = IntKind.u64.wrap (IntKind.u64.wrap ((256 : Int) * IntKind.u64.wrap (IntKind.u64.wrap ((256 : Int) * IntKind.u64.wrap (IntKind.u64.wrap ((256 : Int) * IntKind.u64.wrap (IntKind.u64.wrap ((256 : Int) * IntKind.u64.wrap (IntKind.u64.wrap ((256 : Int) * IntKind.u64.wrap (IntKind.u64.wrap ((256 : Int) * IntKind.u64.wrap (IntKind.u64.wrap ((256 : Int) * IntKind.u64.wrap (IntKind.u64.wrap (s[1].toNat : Int))) + IntKind.u64.wrap (s[2].toNat : Int))) + IntKind.u64.wrap (s[3].toNat : Int))) + IntKind.u64.wrap (s[4].toNat : Int))) + IntKind.u64.wrap (s[5].toNat : Int))) + IntKind.u64.wrap (s[6].toNat : Int))) + IntKind.u64.wrap (s[7].toNat : Int))) + IntKind.u64.wrap (s[8].toNat : Int)))) (KR : Hid (∀ w : World, Calls Tryd.prog 60 #[.int .i64 k, .int .u64 u] w fun e w' => e = .returned (.int .u64 z) ∧ w' = w)) (y : Int) (KF : Hid (∀ w : World, Calls Tryd.prog 21 #[.int .i64 k, .agg #[.int .i64 k, .int .u64 z, .string ⟨#[]⟩, .slice none 0 0, .slice none 0 0, .slice none 0 0, .slice none 0 0]] w fun e w' => e = .returned (.bool true) ∧ Below w.heap.size w w')) (KN : Hid (∀ w : World, Calls Tryd.prog 22 #[.agg #[.int .i64 k, .int .u64 z, .string ⟨#[]⟩, .slice none 0 0, .slice none 0 0, .slice none 0 0, .slice none 0 0]] w fun e w' => e = .returned (.agg #[.int .i64 k, .int .u64 y, .string ⟨#[]⟩, .slice none 0 0, .slice none 0 0, .slice none 0 0, .slice none 0 0]) ∧ Below w.heap.size w w')) (KS : Hid (∀ w : World, Calls Tryd.prog 20 #[.agg #[.int .i64 k, .int .u64 z, .string ⟨#[]⟩, .slice none 0 0, .slice none 0 0, .slice none 0 0, .slice none 0 0], .agg #[.int .i64 k, .int .u64 y, .string ⟨#[]⟩, .slice none 0 0, .slice none 0 0, .slice none 0 0, .slice none 0 0]] w fun e w' => e = .returned (.bool false) ∧ Below w.heap.size w w')) :
    Calls Tryd.prog 19 #[.string s] w fun e w' => e = .returned (unkV 0 0 ⟨#[]⟩ 0 5) ∧ Below w.heap.size w w' := by
  have i0 : (0 : Int) < (s.size : Int) := by omega
  go_enter Tryd.func19, Tryd.ntmps19
  go_wp2_with fail
  refine calls_box2 ?_
  intro W hA hB hb
  have HB := Lib.hid hb
  have HA := Lib.hid hA
  have HV := Lib.hid hB
  clear hA hB hb
  refine calls_same (KI.out _) ?_
  obtain ⟨v0, v1, v2, v3, v4, v5, v6⟩ := cells7 HV.out
  obtain ⟨r0, r1, r2, r3, r4, r5, r6⟩ := cells7 HA.out
  go_wp2_with fail
  refine calls_same (KX.out _) ?_
  go_wp2_with fail
  clear v0 v1 v2 v3 v4 v5 v6 r0 r1 r2 r3 r4 r5 r6
  have i9 : (9 : Int) ≤ (s.size : Int) := by omega
  have hd : decide ((s.size : Int) < 9) = false := decide_eq_false (by omega)
  obtain ⟨v0, v1, v2, v3, v4, v5, v6⟩ := cells7 HV.out
  obtain ⟨r0, r1, r2, r3, r4, r5, r6⟩ := cells7 HA.out
  have vf0 := blk_free HV.out 0
  have rf0 := blk_free HA.out 0
  have vf1 := blk_free HV.out 1
  have rf1 := blk_free HA.out 1
  have vf2 := blk_free HV.out 2
  have rf2 := blk_free HA.out 2
  have vf3 := blk_free HV.out 3
  have rf3 := blk_free HA.out 3
  have vf4 := blk_free HV.out 4
  have rf4 := blk_free HA.out 4
  have vf5 := blk_free HV.out 5
  have rf5 := blk_free HA.out 5
  have vf6 := blk_free HV.out 6
  have rf6 := blk_free HA.out 6
  go_wp2_with fail
  refine wp_loop_rounds 9 ?_
  rw [rounds_succ]
  go_wp2_with fail
  rw [rounds_succ]
  go_wp2_with fail
  rw [rounds_succ]
  go_wp2_with fail
  rw [rounds_succ]
  go_wp2_with fail
  rw [rounds_succ]
  go_wp2_with fail
  rw [rounds_succ]
  go_wp2_with fail
  rw [rounds_succ]
  go_wp2_with fail
  rw [rounds_succ]
  go_wp2_with fail
  rw [rounds_succ]
  go_wp2_with fail
  rw [← HU.out]
  refine calls_same (KR.out _) ?_
  go_wp2_with fail
  have HS2 : Hid (Below w.heap.size w (W.setCell ⟨w.heap.size + 1, 1, none⟩ (.int .u64 z))) := Lib.hid (HB.out.setCell (by simp) _)
  have HV3 : Hid ((W.setCell ⟨w.heap.size + 1, 1, none⟩ (.int .u64 z)).heap[w.heap.size + 1]? = some (.cells #[.int .i64 k, .int .u64 z, .string ⟨#[]⟩, .slice none 0 0, .slice none 0 0, .slice none 0 0, .slice none 0 0] 28 (0, 0))) := Lib.hid (blk_set HV.out (.int .u64 z))
  have HA3 : Hid ((W.setCell ⟨w.heap.size + 1, 1, none⟩ (.int .u64 z)).heap[w.heap.size]? = some (.cells #[.int .i64 0, .int .u64 0, .string ⟨#[]⟩, .slice none 0 0, .slice none 0 0, .slice none 0 0, .slice none 0 0] 28 (0, 0))) := Lib.hid (blk_set_ne HA.out (by simp) _)
  clear v0 r0 vf0 rf0 v1 r1 vf1 rf1 v2 r2 vf2 rf2 v3 r3 vf3 rf3 v4 r4 vf4 rf4 v5 r5 vf5 rf5 v6 r6 vf6 rf6
  generalize W.setCell ⟨w.heap.size + 1, 1, none⟩ (.int .u64 z) = W3 at *
  obtain ⟨a0, a1, a2, a3, a4, a5, a6⟩ := up7 HV3.out
  refine wp_region_up (by kernel_rfl) (by kernel_rfl) ?_
  repeat (go_big_quiet_step (first | (go_at_call 21; with_reducible exact calls_up (KF.out _)) | (go_at_call 22; with_reducible exact calls_up (KN.out _)) | (go_at_call 20; with_reducible exact calls_up (KS.out _))))
  refine wpQuiet_nil ?_
  rintro _ ⟨s1, rfl⟩
  clear a0 a1 a2 a3 a4 a5 a6
  have HB4 := Lib.hid (above HS2.out s1.h)
  have HV4 := Lib.hid (blk_keep s1.h HV3.out)
  have HA4 := Lib.hid (blk_keep s1.h HA3.out)
  generalize s1.w = w4 at *
  obtain ⟨v0, v1, v2, v3, v4, v5, v6⟩ := cells7 HV4.out
  obtain ⟨r0, r1, r2, r3, r4, r5, r6⟩ := cells7 HA4.out
  have vf0 := blk_free HV4.out 0
  have rf0 := blk_free HA4.out 0
  have vf1 := blk_free HV4.out 1
  have rf1 := blk_free HA4.out 1
  have vf2 := blk_free HV4.out 2
  have rf2 := blk_free HA4.out 2
  have vf3 := blk_free HV4.out 3
  have rf3 := blk_free HA4.out 3
  have vf4 := blk_free HV4.out 4
  have rf4 := blk_free HA4.out 4
  have vf5 := blk_free HV4.out 5
  have rf5 := blk_free HA4.out 5
  have vf6 := blk_free HV4.out 6
  have rf6 := blk_free HA4.out 6
  go_wp2_with fail
  have hb4 := HB4.out
  exact bodyPost_ret (v := unkV 0 0 ⟨#[]⟩ 0 5) (by simp [results, Tryd.results19, go_sem, unkV, *]) rfl ⟨rfl, by go_grown⟩

set_option maxRecDepth 8000 in
set_option maxHeartbeats 4000000 in
theorem runk_num (s : ByteArray) (h : 0 < s.size) (w : World) (k : Int) (hk : ((s[0]'h).toNat : Int) = k) (hwb : wrap64 k = k) (ht : s.toList.isEmpty = false) (KI : Hid (∀ w : World, Calls Tryd.prog 58 #[.int .i64 k] w fun e w' => e = .returned (.bool true) ∧ w' = w)) (KX : Hid (∀ w : World, Calls Tryd.prog 31 #[.int .i64 k] w fun e w' => e = .returned (.bool false) ∧ w' = w)) (h9 : 9 ≤ s.size) (u z : Int) (HU : Hid (u = IntKind.u64.wrap (IntKind.u64.wrap ((256 : Int) * IntKind.u64.wrap (IntKind.u64.wrap ((256 : Int) * IntKind.u64.wrap (IntKind.u64.wrap ((256 : Int) * IntKind.u64.wrap (IntKind.u64.wrap ((256 : Int) * IntKind.u64.wrap (IntKind.u64.wrap ((256 : Int) * IntKind.u64.wrap (IntKind.u64.wrap ((256 : Int) * IntKind.u64.wrap (IntKind.u64.wrap ((256 : Int) * IntKind.u64.wrap (IntKind.u64.wrap (s[1].toNat : Int))) + IntKind.u64.wrap (s[2].toNat : Int))) + IntKind.u64.wrap (s[3].toNat : Int))) + IntKind.u64.wrap (s[4].toNat : Int))) + IntKind.u64.wrap (s[5].toNat : Int))) + IntKind.u64.wrap (s[6].toNat : Int))) + IntKind.u64.wrap (s[7].toNat : Int))) + IntKind.u64.wrap (s[8].toNat : Int)))) (KR : Hid (∀ w : World, Calls Tryd.prog 60 #[.int .i64 k, .int .u64 u] w fun e w' => e = .returned (.int .u64 z) ∧ w' = w)) (y : Int) (KF : Hid (∀ w : World, Calls Tryd.prog 21 #[.int .i64 k, .agg #[.int .i64 k, .int .u64 z, .string ⟨#[]⟩, .slice none 0 0, .slice none 0 0, .slice none 0 0, .slice none 0 0]] w fun e w' => e = .returned (.bool true) ∧ Below w.heap.size w w')) (KN : Hid (∀ w : World, Calls Tryd.prog 22 #[.agg #[.int .i64 k, .int .u64 z, .string ⟨#[]⟩, .slice none 0 0, .slice none 0 0, .slice none 0 0, .slice none 0 0]] w fun e w' => e = .returned (.agg #[.int .i64 k, .int .u64 y, .string ⟨#[]⟩, .slice none 0 0, .slice none 0 0, .slice none 0 0, .slice none 0 0]) ∧ Below w.heap.size w w')) (KS : Hid (∀ w : World, Calls Tryd.prog 20 #[.agg #[.int .i64 k, .int .u64 z, .string ⟨#[]⟩, .slice none 0 0, .slice none 0 0, .slice none 0 0, .slice none 0 0], .agg #[.int .i64 k, .int .u64 y, .string ⟨#[]⟩, .slice none 0 0, .slice none 0 0, .slice none 0 0, .slice none 0 0]] w fun e w' => e = .returned (.bool true) ∧ Below w.heap.size w w')) :
    Calls Tryd.prog 19 #[.string s] w fun e w' => e = .returned (unkV k z ⟨#[]⟩ 9 0) ∧ Below w.heap.size w w' := by
  have i0 : (0 : Int) < (s.size : Int) := by omega
  go_enter Tryd.func19, Tryd.ntmps19
  go_wp2_with fail
  refine calls_box2 ?_
  intro W hA hB hb
  have HB := Lib.hid hb
  have HA := Lib.hid hA
  have HV := Lib.hid hB
  clear hA hB hb
  refine calls_same (KI.out _) ?_
  obtain ⟨v0, v1, v2, v3, v4, v5, v6⟩ := cells7 HV.out
  obtain ⟨r0, r1, r2, r3, r4, r5, r6⟩ := cells7 HA.out
  go_wp2_with fail
  refine calls_same (KX.out _) ?_
  go_wp2_with fail
  clear v0 v1 v2 v3 v4 v5 v6 r0 r1 r2 r3 r4 r5 r6
  have i9 : (9 : Int) ≤ (s.size : Int) := by omega
  have hd : decide ((s.size : Int) < 9) = false := decide_eq_false (by omega)
  obtain ⟨v0, v1, v2, v3, v4, v5, v6⟩ := cells7 HV.out
  obtain ⟨r0, r1, r2, r3, r4, r5, r6⟩ := cells7 HA.out
  have vf0 := blk_free HV.out 0
  have rf0 := blk_free HA.out 0
  have vf1 := blk_free HV.out 1
  have rf1 := blk_free HA.out 1
  have vf2 := blk_free HV.out 2
  have rf2 := blk_free HA.out 2
  have vf3 := blk_free HV.out 3
  have rf3 := blk_free HA.out 3
  have vf4 := blk_free HV.out 4
  have rf4 := blk_free HA.out 4
  have vf5 := blk_free HV.out 5
  have rf5 := blk_free HA.out 5
  have vf6 := blk_free HV.out 6
  have rf6 := blk_free HA.out 6
  go_wp2_with fail
  refine wp_loop_rounds 9 ?_
  rw [rounds_succ]
  go_wp2_with fail
  rw [rounds_succ]
  go_wp2_with fail
  rw [rounds_succ]
  go_wp2_with fail
  rw [rounds_succ]
  go_wp2_with fail
  rw [rounds_succ]
  go_wp2_with fail
  rw [rounds_succ]
  go_wp2_with fail
  rw [rounds_succ]
  go_wp2_with fail
  rw [rounds_succ]
  go_wp2_with fail
  rw [rounds_succ]
  go_wp2_with fail
  rw [← HU.out]
  refine calls_same (KR.out _) ?_
  go_wp2_with fail
  have HS2 : Hid (Below w.heap.size w (W.setCell ⟨w.heap.size + 1, 1, none⟩ (.int .u64 z))) := Lib.hid (HB.out.setCell (by simp) _)
  have HV3 : Hid ((W.setCell ⟨w.heap.size + 1, 1, none⟩ (.int .u64 z)).heap[w.heap.size + 1]? = some (.cells #[.int .i64 k, .int .u64 z, .string ⟨#[]⟩, .slice none 0 0, .slice none 0 0, .slice none 0 0, .slice none 0 0] 28 (0, 0))) := Lib.hid (blk_set HV.out (.int .u64 z))
  have HA3 : Hid ((W.setCell ⟨w.heap.size + 1, 1, none⟩ (.int .u64 z)).heap[w.heap.size]? = some (.cells #[.int .i64 0, .int .u64 0, .string ⟨#[]⟩, .slice none 0 0, .slice none 0 0, .slice none 0 0, .slice none 0 0] 28 (0, 0))) := Lib.hid (blk_set_ne HA.out (by simp) _)
  clear v0 r0 vf0 rf0 v1 r1 vf1 rf1 v2 r2 vf2 rf2 v3 r3 vf3 rf3 v4 r4 vf4 rf4 v5 r5 vf5 rf5 v6 r6 vf6 rf6
  generalize W.setCell ⟨w.heap.size + 1, 1, none⟩ (.int .u64 z) = W3 at *
  obtain ⟨a0, a1, a2, a3, a4, a5, a6⟩ := up7 HV3.out
  refine wp_region_up (by kernel_rfl) (by kernel_rfl) ?_
  repeat (go_big_quiet_step (first | (go_at_call 21; with_reducible exact calls_up (KF.out _)) | (go_at_call 22; with_reducible exact calls_up (KN.out _)) | (go_at_call 20; with_reducible exact calls_up (KS.out _))))
  refine wpQuiet_nil ?_
  rintro _ ⟨s1, rfl⟩
  clear a0 a1 a2 a3 a4 a5 a6
  have HB4 := Lib.hid (above HS2.out s1.h)
  have HV4 := Lib.hid (blk_keep s1.h HV3.out)
  have HA4 := Lib.hid (blk_keep s1.h HA3.out)
  generalize s1.w = w4 at *
  obtain ⟨v0, v1, v2, v3, v4, v5, v6⟩ := cells7 HV4.out
  obtain ⟨r0, r1, r2, r3, r4, r5, r6⟩ := cells7 HA4.out
  have vf0 := blk_free HV4.out 0
  have rf0 := blk_free HA4.out 0
  have vf1 := blk_free HV4.out 1
  have rf1 := blk_free HA4.out 1
  have vf2 := blk_free HV4.out 2
  have rf2 := blk_free HA4.out 2
  have vf3 := blk_free HV4.out 3
  have rf3 := blk_free HA4.out 3
  have vf4 := blk_free HV4.out 4
  have rf4 := blk_free HA4.out 4
  have vf5 := blk_free HV4.out 5
  have rf5 := blk_free HA4.out 5
  have vf6 := blk_free HV4.out 6
  have rf6 := blk_free HA4.out 6
  go_wp2_with fail
  have hb4 := HB4.out
  exact bodyPost_ret (v := unkV k z ⟨#[]⟩ 9 0) (by simp [results, Tryd.results19, go_sem, unkV, *]) rfl ⟨rfl, by go_grown⟩
end Go.Proofs.YtlgpoapedgodoaaDoor

/- The number of the bytes 1 to 8, the greatest first, read byte for byte. -/
namespace Go.Proofs.YtlgpoapedgodoaaDoor
open Go.RowKit
set_option linter.unusedVariables false

theorem wrap_same (x : Int) (h0 : 0 ≤ x) (h1 : x < 18446744073709551616) : IntKind.u64.wrap x = x := by
  have : IntKind.u64.wrap x = x % 18446744073709551616 := rfl
  rw [this]
  omega

theorem be_list (b0 b1 b2 b3 b4 b5 b6 b7 b8 : UInt8) (l : List UInt8) : beZ ⟨⟨b0 :: b1 :: b2 :: b3 :: b4 :: b5 :: b6 :: b7 :: b8 :: l⟩⟩ =
    (b8.toNat : Int) + (b7.toNat : Int) * 256 + (b6.toNat : Int) * 65536 + (b5.toNat : Int) * 16777216 + (b4.toNat : Int) * 4294967296 + (b3.toNat : Int) * 1099511627776 + (b2.toNat : Int) * 281474976710656 + (b1.toNat : Int) * 72057594037927936 := by
  have e : (ByteArray.extract ⟨⟨b0 :: b1 :: b2 :: b3 :: b4 :: b5 :: b6 :: b7 :: b8 :: l⟩⟩ 1 9).data.toList = [b1, b2, b3, b4, b5, b6, b7, b8] := by
    rw [ByteArray.data_extract]
    simp [List.extract]
  unfold beZ revB
  rw [e]
  rfl

theorem round_same (u x : Int) (h0 : 0 ≤ u) (h1 : u < 72057594037927936) (g0 : 0 ≤ x) (g1 : x < 256) : IntKind.u64.wrap (IntKind.u64.wrap ((256 : Int) * u) + IntKind.u64.wrap x) = 256 * u + x := by
  rw [wrap_same x g0 (by omega), wrap_same (256 * u) (by omega) (by omega), wrap_same _ (by omega) (by omega)]

theorem horner (x1 x2 x3 x4 x5 x6 x7 x8 : Int) (h1 : 0 ≤ x1 ∧ x1 < 256) (h2 : 0 ≤ x2 ∧ x2 < 256) (h3 : 0 ≤ x3 ∧ x3 < 256) (h4 : 0 ≤ x4 ∧ x4 < 256) (h5 : 0 ≤ x5 ∧ x5 < 256) (h6 : 0 ≤ x6 ∧ x6 < 256) (h7 : 0 ≤ x7 ∧ x7 < 256) (h8 : 0 ≤ x8 ∧ x8 < 256) :
    IntKind.u64.wrap (IntKind.u64.wrap ((256 : Int) * IntKind.u64.wrap (IntKind.u64.wrap ((256 : Int) * IntKind.u64.wrap (IntKind.u64.wrap ((256 : Int) * IntKind.u64.wrap (IntKind.u64.wrap ((256 : Int) * IntKind.u64.wrap (IntKind.u64.wrap ((256 : Int) * IntKind.u64.wrap (IntKind.u64.wrap ((256 : Int) * IntKind.u64.wrap (IntKind.u64.wrap ((256 : Int) * IntKind.u64.wrap (IntKind.u64.wrap x1)) + IntKind.u64.wrap x2)) + IntKind.u64.wrap x3)) + IntKind.u64.wrap x4)) + IntKind.u64.wrap x5)) + IntKind.u64.wrap x6)) + IntKind.u64.wrap x7)) + IntKind.u64.wrap x8)
    = x8 + x7 * 256 + x6 * 65536 + x5 * 16777216 + x4 * 4294967296 + x3 * 1099511627776 + x2 * 281474976710656 + x1 * 72057594037927936 := by
  rw [wrap_same x1 (by omega) (by omega), wrap_same x1 (by omega) (by omega)]
  rw [round_same x1 x2 (by omega) (by omega) (by omega) (by omega)]
  rw [round_same _ x3 (by omega) (by omega) (by omega) (by omega)]
  rw [round_same _ x4 (by omega) (by omega) (by omega) (by omega)]
  rw [round_same _ x5 (by omega) (by omega) (by omega) (by omega)]
  rw [round_same _ x6 (by omega) (by omega) (by omega) (by omega)]
  rw [round_same _ x7 (by omega) (by omega) (by omega) (by omega)]
  rw [round_same _ x8 (by omega) (by omega) (by omega) (by omega)]
  omega

theorem be_horner (s : ByteArray) (h9 : 9 ≤ s.size) : beZ s =
    IntKind.u64.wrap (IntKind.u64.wrap ((256 : Int) * IntKind.u64.wrap (IntKind.u64.wrap ((256 : Int) * IntKind.u64.wrap (IntKind.u64.wrap ((256 : Int) * IntKind.u64.wrap (IntKind.u64.wrap ((256 : Int) * IntKind.u64.wrap (IntKind.u64.wrap ((256 : Int) * IntKind.u64.wrap (IntKind.u64.wrap ((256 : Int) * IntKind.u64.wrap (IntKind.u64.wrap ((256 : Int) * IntKind.u64.wrap (IntKind.u64.wrap (s[1].toNat : Int))) + IntKind.u64.wrap (s[2].toNat : Int))) + IntKind.u64.wrap (s[3].toNat : Int))) + IntKind.u64.wrap (s[4].toNat : Int))) + IntKind.u64.wrap (s[5].toNat : Int))) + IntKind.u64.wrap (s[6].toNat : Int))) + IntKind.u64.wrap (s[7].toNat : Int))) + IntKind.u64.wrap (s[8].toNat : Int)) := by
  have b : ∀ x : UInt8, 0 ≤ (x.toNat : Int) ∧ (x.toNat : Int) < 256 := fun x => by
    have := UInt8.toNat_lt x
    omega
  rw [horner _ _ _ _ _ _ _ _ (b _) (b _) (b _) (b _) (b _) (b _) (b _) (b _)]
  obtain ⟨⟨l⟩⟩ := s
  match l, h9 with
  | b0 :: b1 :: b2 :: b3 :: b4 :: b5 :: b6 :: b7 :: b8 :: l, _ => exact be_list b0 b1 b2 b3 b4 b5 b6 b7 b8 l
end Go.Proofs.YtlgpoapedgodoaaDoor

/- The reference's Unkey whole: one contract. -/
namespace Go.Proofs.YtlgpoapedgodoaaDoor
open Go.RowKit
set_option linter.unusedVariables false

theorem unT_len : ∀ (n : Nat) (l acc : List UInt8) (p : Nat), l.length ≤ n → (unT l acc p).1.length ≤ acc.length + l.length := by
  intro n
  induction n with
  | zero => intro l acc p h; cases l with
    | nil => simp [unT]
    | cons b l => simp at h
  | succ n ih => intro l acc p h; cases l with
    | nil => simp [unT]
    | cons b l =>
      unfold unT
      simp only [List.length_cons] at h ⊢
      split
      · have := ih l (acc ++ [b]) (p + 1) (by omega)
        simp at this; omega
      · cases l with
        | nil => simp
        | cons c l' =>
          simp only [List.length_cons] at h ⊢
          split
          · simp
          · split
            · have := ih l' (acc ++ [0]) (p + 2) (by omega)
              simp at this; omega
            · simp

theorem runkey_ok (s : ByteArray) (hs : s.size ≤ 140737488351232) (w : World) :
    Calls Tryd.prog 19 #[.string s] w fun e w' => e = .returned (unkeyF s).v ∧ Below w.heap.size w w' := by
  unfold unkeyF
  by_cases h0 : s.size = 0
  · rw [if_pos h0]
    have : s = ⟨#[]⟩ := by
      cases s with
      | mk d => cases d with
        | mk l => cases l with
          | nil => rfl
          | cons a b => simp [ByteArray.size] at h0
    subst this
    exact runk_empty w
  rw [if_neg h0]
  have h : 0 < s.size := by omega
  have ht : s.toList.isEmpty = false := by rw [empty_toList]; simp [h0]
  have hg : (s.get! 0).toNat = (s[0]'h).toNat := get_fin s 0 h
  rw [hg]
  obtain ⟨k, hk⟩ : ∃ k : Int, ((s[0]'h).toNat : Int) = k := ⟨_, rfl⟩
  have hlt := UInt8.toNat_lt (s[0]'h)
  have hwb : wrap64 k = k := by
    subst hk
    simp only [wrap64]; omega
  rw [hk]
  by_cases hr : 1 ≤ k ∧ k ≤ 9
  case neg =>
    rw [if_neg hr]
    exact runk_kind s h w (by rw [hk]; exact decide_eq_false hr) ht
  rw [if_pos hr]
  have KI : Hid (∀ w : World, Calls Tryd.prog 58 #[.int .i64 k] w fun e w' => e = .returned (.bool true) ∧ w' = w) := Lib.hid (by
    intro w
    have := ris_ok k w
    rw [decide_eq_true hr] at this
    exact this)
  have KF : ∀ (z : Int) (T : ByteArray) (b : Bool), T.size ≤ 140737488351232 → fitsB k k z T true = b → Hid (∀ w : World, Calls Tryd.prog 21 #[.int .i64 k, .agg #[.int .i64 k, .int .u64 z, .string T, .slice none 0 0, .slice none 0 0, .slice none 0 0, .slice none 0 0]] w fun e w' => e = .returned (.bool b) ∧ Below w.heap.size w w') := by
    intro z T b hT hb
    refine Lib.hid fun w => ?_
    have := rfits_ok k k z T 0 0 0 0 0 0 0 0 none none none none w hT
    rw [noneB0, hb] at this
    exact this
  by_cases h78 : k = 7 ∨ k = 8
  · rw [if_pos h78]
    have KX : Hid (∀ w : World, Calls Tryd.prog 31 #[.int .i64 k] w fun e w' => e = .returned (.bool true) ∧ w' = w) := Lib.hid (by
      intro w
      have := texts16_ok k w
      rw [decide_eq_true h78] at this
      exact this)
    obtain ⟨R, HR⟩ : ∃ R, R = unT (s.data.toList.drop 1) [] 1 := ⟨_, rfl⟩
    have hT : (⟨R.1.toArray⟩ : ByteArray).size ≤ 140737488351232 := by
      have := unT_len _ (s.data.toList.drop 1) [] 1 (Nat.le_refl _)
      rw [← HR] at this
      have hl : s.data.toList.length = s.size := by simp
      show R.1.toArray.size ≤ _
      simp only [List.size_toArray, List.length_drop, List.length_nil] at this ⊢
      omega
    have KU : Hid (∀ w : World, Calls Tryd.prog 59 #[.string s] w fun e w' => e = .returned (.tuple #[.string ⟨R.1.toArray⟩, .int .i64 (R.2.1 : Nat), .int .i64 R.2.2]) ∧ Below w.heap.size w w') := Lib.hid (by
      intro w
      rw [HR]
      exact runtext_ok s (by omega) hs w)
    rw [← HR]
    clear HR
    unfold untF
    by_cases hE : R.2.2 = 0
    · rw [if_neg (by simpa using hE)]
      cases hf : fitsB k k 0 ⟨R.1.toArray⟩ true
      · rw [if_neg (by simp)]
        exact runk_bad s h w k hk hwb ht KI KX _ _ _ KU hE (KF _ _ _ hT hf)
      · rw [if_pos rfl]
        refine runk_txt s h w k hk hwb ht KI KX _ _ _ KU hE (KF _ _ _ hT hf) (Lib.hid fun w => ?_) (Lib.hid fun w => same_yes _ _ _ _ _ _ _ _ _ _ _ _ _ _ _ _ _ _ _ _ _ _ _ w)
        have := rnorm_ok k 0 ⟨R.1.toArray⟩ 0 0 0 0 0 0 0 0 none none none none ⟨by decide, by decide⟩ w
        rw [normZ_no k 0 (by omega)] at this
        exact this
    · rw [if_pos hE]
      exact runk_err s h w k hk hwb ht KI KX _ _ R.2.2 KU (by simpa using hE)
  · rw [if_neg h78]
    have KX : Hid (∀ w : World, Calls Tryd.prog 31 #[.int .i64 k] w fun e w' => e = .returned (.bool false) ∧ w' = w) := Lib.hid (by
      intro w
      have := texts16_ok k w
      rw [decide_eq_false h78] at this
      exact this)
    by_cases h9 : s.size < 9
    · rw [if_pos h9]
      exact runk_short s h w k hk hwb ht KI KX (decide_eq_true (by omega))
    · rw [if_neg h9]
      have hu : word (beZ s) := takeZ_word _
      have HU := be_horner s (by omega)
      obtain ⟨u, eu⟩ : ∃ u, u = beZ s := ⟨_, rfl⟩
      rw [← eu] at hu HU ⊢
      have hw : word (unrankK k u) := unrankK_word k u hu
      have KR : Hid (∀ w : World, Calls Tryd.prog 60 #[.int .i64 k, .int .u64 u] w fun e w' => e = .returned (.int .u64 (unrankK k u)) ∧ w' = w) := Lib.hid fun w => unrank_ok k u hu w
      obtain ⟨z, hz⟩ : ∃ z, z = unrankK k u := ⟨_, rfl⟩
      rw [← hz] at hw KR ⊢
      have KN : Hid (∀ w : World, Calls Tryd.prog 22 #[.agg #[.int .i64 k, .int .u64 z, .string ⟨#[]⟩, .slice none 0 0, .slice none 0 0, .slice none 0 0, .slice none 0 0]] w fun e w' => e = .returned (.agg #[.int .i64 k, .int .u64 (normZ k z), .string ⟨#[]⟩, .slice none 0 0, .slice none 0 0, .slice none 0 0, .slice none 0 0]) ∧ Below w.heap.size w w') :=
        Lib.hid fun w => rnorm_ok k z ⟨#[]⟩ 0 0 0 0 0 0 0 0 none none none none hw w
      unfold unnF
      cases hf : fitsB k k z ⟨#[]⟩ true
      · rw [if_neg (by simp)]
        exact runk_nbad s h w k hk hwb ht KI KX (by omega) u z (Lib.hid HU) KR (KF _ _ _ (by decide) hf)
      · by_cases hy : normZ k z = z
        · rw [if_pos ⟨rfl, hy⟩]
          rw [hy] at KN
          exact runk_num s h w k hk hwb ht KI KX (by omega) u z (Lib.hid HU) KR z (KF _ _ _ (by decide) hf) KN (Lib.hid fun w => same_yes _ _ _ _ _ _ _ _ _ _ _ _ _ _ _ _ _ _ _ _ _ _ _ w)
        · rw [if_neg (fun x => hy x.2)]
          exact runk_nnan s h w k hk hwb ht KI KX (by omega) u z (Lib.hid HU) KR (normZ k z) (KF _ _ _ (by decide) hf) KN (Lib.hid fun w => same_bits _ _ _ (by simpa using fun x => hy x.symm) _ _ _ _ _ _ _ _ _ _ _ _ _ _ _ _ _ _ _ _ _ w)
end Go.Proofs.YtlgpoapedgodoaaDoor

/- cmp.Or over integers. -/
namespace Go.Proofs.YtlgpoapedgodoaaDoor
open Go.RowKit

/-- The first that is not zero. -/
def orL : List Int → Int
  | [] => 0
  | a :: l => orI a (orL l)

theorem orL_drop (l : List Int) (k : Nat) (a : Int) (h : l[k]? = some a) : orL (l.drop k) = orI a (orL (l.drop (k + 1))) := by
  have hk : k < l.length := (List.getElem?_eq_some_iff.1 h).1
  rw [List.drop_eq_getElem_cons hk]
  have : l[k] = a := (List.getElem?_eq_some_iff.1 h).2
  rw [this]; rfl

set_option maxHeartbeats 1000000 in
theorem or_ok (b : Nat) (l : List Int) (w : World) (hl : l.length ≤ 1000) (hc : ∀ (i : Nat) x, l[i]? = some x → w.cell? ⟨b, i, none⟩ = some (.int .i64 x)) :
    Calls Tryd.prog 40 #[.slice (some ⟨b, 0, none⟩) l.length l.length] w fun e w' => e = .returned (.int .i64 (orL l)) ∧ w' = w := by
  obtain ⟨L, HL⟩ : ∃ L, Hid (L = l.length) := ⟨_, Lib.hid rfl⟩
  rw [← HL.out] at hl ⊢
  obtain ⟨R, HR⟩ : ∃ R : Int, Hid (R = orL l) := ⟨_, Lib.hid rfl⟩
  rw [← HR.out]
  have HC := Lib.hid hc
  clear hc
  go_enter Tryd.func40, Tryd.ntmps40
  go_wp2_with fail
  go_loop [5, 8] (fun _ t => ∃ k : Nat, k ≤ L ∧ t = .int .i64 k ∧ Hid (R = orL (l.drop k))) (fun _ t => L - (intOf t).toNat)
  case atStart => exact ⟨0, Nat.zero_le _, rfl, HR⟩
  case round =>
    obtain ⟨k, hk, rfl, HK⟩ := hrel
    by_cases hlt : k < L
    · obtain ⟨x, hx⟩ : ∃ x, l[k]? = some x := ⟨_, List.getElem?_eq_getElem (by rw [← HL.out]; exact hlt)⟩
      have hcell : w.cell? ⟨b, k, none⟩ = some (.int .i64 x) := HC.out k x hx
      have HK2 : Hid (R = orI x (orL (l.drop (k + 1)))) := Lib.hid (by rw [HK.out]; exact orL_drop l k x hx)
      clear hx
      by_cases h0 : x = 0
      · subst h0
        go_wp2_with fail
        go_round
        case rel => exact ⟨k + 1, by omega, by go_num, by rw [HK2.out]; exact orI_zero⟩
        case measure => simp [intOf]; omega
      · have h0' : (x != 0) = true := by simp [h0]
        have H0 := Lib.hid h0
        clear h0
        go_wp2_with fail
        go_ret
        exact ⟨ret_int (by rw [HK2.out, orI_ne H0.out]), rfl⟩
    · have HG : Hid (R = 0) := Lib.hid (by rw [HK.out, List.drop_of_length_le (by rw [← HL.out]; omega)]; rfl)
      go_wp2_with fail
      go_ret
      exact ⟨ret_int HG.out.symm, rfl⟩

theorem or2_ok (b : Nat) (x y : Int) (w : World) (h0 : w.cell? ⟨b, 0, none⟩ = some (.int .i64 x)) (h1 : w.cell? ⟨b, 1, none⟩ = some (.int .i64 y)) :
    Calls Tryd.prog 40 #[.slice (some ⟨b, 0, none⟩) 2 2] w fun e w' => e = .returned (.int .i64 (orI x y)) ∧ w' = w := by
  have := or_ok b [x, y] w (by simp) (fun i z h => by
    match i, h with
    | 0, h => simp at h; subst h; exact h0
    | 1, h => simp at h; subst h; exact h1)
  have e : orL [x, y] = orI x y := by simp [orL, orI]; split <;> simp_all
  rw [e] at this
  exact this

theorem or4_ok (b : Nat) (x y z u : Int) (w : World) (h0 : w.cell? ⟨b, 0, none⟩ = some (.int .i64 x)) (h1 : w.cell? ⟨b, 1, none⟩ = some (.int .i64 y)) (h2 : w.cell? ⟨b, 2, none⟩ = some (.int .i64 z)) (h3 : w.cell? ⟨b, 3, none⟩ = some (.int .i64 u)) :
    Calls Tryd.prog 40 #[.slice (some ⟨b, 0, none⟩) 4 4] w fun e w' => e = .returned (.int .i64 (orI x (orI y (orI z u)))) ∧ w' = w := by
  have := or_ok b [x, y, z, u] w (by simp) (fun i z h => by
    match i, h with
    | 0, h => simp at h; subst h; exact h0
    | 1, h => simp at h; subst h; exact h1
    | 2, h => simp at h; subst h; exact h2
    | 3, h => simp at h; subst h; exact h3)
  have e : orL [x, y, z, u] = orI x (orI y (orI z u)) := by
    have : ∀ a, orI a 0 = a := by intro a; simp [orI]; omega
    simp [orL, this]
  rw [e] at this
  exact this
end Go.Proofs.YtlgpoapedgodoaaDoor

/- cmpPair, cmpSlot, cmpRaw: each out of its callees' contracts. -/
namespace Go.Proofs.YtlgpoapedgodoaaDoor
open Go.RowKit

set_option maxRecDepth 8000 in
set_option maxHeartbeats 2000000 in
theorem opair_ok (n : Nat) (HC : Hid (OCmp n)) : OPair n := by
  rintro v v' x y w ⟨ekx, ezx, etx, d1x, l1x, c1x, d2x, l2x, c2x, d3x, l3x, c3x, d4x, l4x, c4x, eky, ezy, ety, d1y, l1y, c1y, d2y, l2y, c2y, d3y, l3y, c3y, d4y, l4y, c4y, rfl, g1, g2⟩ ⟨ekx', ezx', etx', d1x', l1x', c1x', d2x', l2x', c2x', d3x', l3x', c3x', d4x', l4x', c4x', eky', ezy', ety', d1y', l1y', c1y', d2y', l2y', c2y', d3y', l3y', c3y', d4y', l4y', c4y', rfl, g1', g2'⟩
  obtain ⟨D1, H1⟩ : ∃ D : Int, Hid (D = cmpV n x.1 y.1) := ⟨_, Lib.hid rfl⟩
  obtain ⟨D2, H2⟩ : ∃ D : Int, Hid (D = cmpV n x.2 y.2) := ⟨_, Lib.hid rfl⟩
  rw [show cmpP (cmpV n) x y = orI D1 D2 by rw [H1.out, H2.out]; rfl]
  have K1 : Hid (∀ w' : World, Below w.heap.size w w' → Calls Tryd.prog 13 #[.agg #[.int .i64 ekx, .int .u64 ezx, .string etx, .slice d1x l1x c1x, .slice d2x l2x c2x, .slice d3x l3x c3x, .slice d4x l4x c4x], .agg #[.int .i64 ekx', .int .u64 ezx', .string etx', .slice d1x' l1x' c1x', .slice d2x' l2x' c2x', .slice d3x' l3x' c3x', .slice d4x' l4x' c4x']] w' fun e w2 => e = .returned (.int .i64 D1) ∧ Below w'.heap.size w' w2) := by
    intro w' hb
    rw [H1.out]
    exact HC.out _ _ x.1 y.1 _ ⟨_, _, _, _, _, _, _, _, _, _, _, _, _, _, _, rfl, RVal.keep hb n _ _ g1⟩ ⟨_, _, _, _, _, _, _, _, _, _, _, _, _, _, _, rfl, RVal.keep hb n _ _ g1'⟩
  have K2 : Hid (∀ w' : World, Below w.heap.size w w' → Calls Tryd.prog 13 #[.agg #[.int .i64 eky, .int .u64 ezy, .string ety, .slice d1y l1y c1y, .slice d2y l2y c2y, .slice d3y l3y c3y, .slice d4y l4y c4y], .agg #[.int .i64 eky', .int .u64 ezy', .string ety', .slice d1y' l1y' c1y', .slice d2y' l2y' c2y', .slice d3y' l3y' c3y', .slice d4y' l4y' c4y']] w' fun e w2 => e = .returned (.int .i64 D2) ∧ Below w'.heap.size w' w2) := by
    intro w' hb
    rw [H2.out]
    exact HC.out _ _ x.2 y.2 _ ⟨_, _, _, _, _, _, _, _, _, _, _, _, _, _, _, rfl, RVal.keep hb n _ _ g2⟩ ⟨_, _, _, _, _, _, _, _, _, _, _, _, _, _, _, rfl, RVal.keep hb n _ _ g2'⟩
  clear g1 g2 g1' g2'
  go_enter Tryd.func39, Tryd.ntmps39
  go_wp2_with fail
  refine wp_box2 ?_
  intro W hA hB hb
  obtain ⟨a0, a1, a2, a3, a4, a5, a6, a7, a8, a9, a10, a11, a12, a13⟩ := up14 hA
  obtain ⟨b0, b1, b2, b3, b4, b5, b6, b7, b8, b9, b10, b11, b12, b13⟩ := up14 hB
  have HB := Lib.hid hb
  clear hA hB hb
  refine wp_region_up_tail 10 (by kernel_rfl) (by kernel_rfl) ?_
  simp only [List.take_succ_cons, List.take_zero, List.drop_succ_cons, List.drop_zero]
  repeat (go_big_quiet_step (first | (go_at_call 13; with_reducible exact calls_up (K1.out _ (above HB.out (InClass.h _)))) | (go_at_call 13; with_reducible exact calls_up (K2.out _ (above HB.out (InClass.h _))))))
  refine wpQuiet_nil ?_
  rintro _ ⟨s1, rfl⟩
  clear a0 b0 a1 b1 a2 b2 a3 b3 a4 b4 a5 b5 a6 b6 a7 b7 a8 b8 a9 b9 a10 b10 a11 b11 a12 b12 a13 b13
  go_wp2_with fail
  refine calls_same (or2_ok _ _ _ _ (blk_cell (box1_facts _ _ _).1 0 rfl) (blk_cell (box1_facts _ _ _).1 1 rfl)) ?_
  go_wp2_with fail
  go_ret
  exact ⟨rfl, (above HB.out s1.h).alloc (above HB.out s1.h).size _⟩


set_option maxRecDepth 8000 in
set_option maxHeartbeats 2000000 in
theorem oslot_ok (n : Nat) (HC : Hid (OCmp n)) : OSlot n := by
  rintro v v' x y w ⟨eky, ezy, ety, d1y, l1y, c1y, d2y, l2y, c2y, d3y, l3y, c3y, d4y, l4y, c4y, rfl, hx, g2⟩ ⟨eky', ezy', ety', d1y', l1y', c1y', d2y', l2y', c2y', d3y', l3y', c3y', d4y', l4y', c4y', rfl, hy, g2'⟩
  obtain ⟨x1, x2⟩ := x
  obtain ⟨y1, y2⟩ := y
  obtain ⟨D1, H1⟩ : ∃ D : Int, Hid (D = cmpI x1 y1) := ⟨_, Lib.hid rfl⟩
  obtain ⟨D2, H2⟩ : ∃ D : Int, Hid (D = cmpV n x2 y2) := ⟨_, Lib.hid rfl⟩
  rw [show cmpS (cmpV n) (x1, x2) (y1, y2) = orI D1 D2 by rw [H1.out, H2.out]; rfl]
  have K1 : Hid (∀ w' : World, Calls Tryd.prog 34 #[.int .i64 x1, .int .i64 y1] w' fun e w2 => e = .returned (.int .i64 D1) ∧ w2 = w') := by
    intro w'
    rw [H1.out]
    exact cmpI_ok _ _ _
  have K2 : Hid (∀ w' : World, Below w.heap.size w w' → Calls Tryd.prog 13 #[.agg #[.int .i64 eky, .int .u64 ezy, .string ety, .slice d1y l1y c1y, .slice d2y l2y c2y, .slice d3y l3y c3y, .slice d4y l4y c4y], .agg #[.int .i64 eky', .int .u64 ezy', .string ety', .slice d1y' l1y' c1y', .slice d2y' l2y' c2y', .slice d3y' l3y' c3y', .slice d4y' l4y' c4y']] w' fun e w2 => e = .returned (.int .i64 D2) ∧ Below w'.heap.size w' w2) := by
    intro w' hb
    rw [H2.out]
    exact HC.out _ _ x2 y2 _ ⟨_, _, _, _, _, _, _, _, _, _, _, _, _, _, _, rfl, RVal.keep hb n _ _ g2⟩ ⟨_, _, _, _, _, _, _, _, _, _, _, _, _, _, _, rfl, RVal.keep hb n _ _ g2'⟩
  clear hx hy g2 g2'
  go_enter Tryd.func42, Tryd.ntmps42
  go_wp2_with fail
  refine wp_box2 ?_
  intro W hA hB hb
  obtain ⟨a0, a1, a2, a3, a4, a5, a6, a7⟩ := up8 hA
  obtain ⟨b0, b1, b2, b3, b4, b5, b6, b7⟩ := up8 hB
  have HB := Lib.hid hb
  clear hA hB hb
  refine wp_region_up_tail 10 (by kernel_rfl) (by kernel_rfl) ?_
  simp only [List.take_succ_cons, List.take_zero, List.drop_succ_cons, List.drop_zero]
  repeat (go_big_quiet_step (first | (go_at_call 34; with_reducible exact calls_up_same (K1.out _)) | (go_at_call 13; with_reducible exact calls_up (K2.out _ (above HB.out (InClass.h _))))))
  refine wpQuiet_nil ?_
  rintro _ ⟨s1, rfl⟩
  clear a0 b0 a1 b1 a2 b2 a3 b3 a4 b4 a5 b5 a6 b6 a7 b7
  go_wp2_with fail
  refine calls_same (or2_ok _ _ _ _ (blk_cell (box1_facts _ _ _).1 0 rfl) (blk_cell (box1_facts _ _ _).1 1 rfl)) ?_
  go_wp2_with fail
  go_ret
  exact ⟨rfl, (above HB.out s1.h).alloc (above HB.out s1.h).size _⟩

set_option maxRecDepth 8000 in
set_option maxHeartbeats 2000000 in
theorem oraw_ok : ORaw := by
  rintro v v' x y w ⟨rfl, hx⟩ ⟨rfl, hy⟩
  obtain ⟨x1, x2, x3, x4⟩ := x
  obtain ⟨y1, y2, y3, y4⟩ := y
  obtain ⟨D1, H1⟩ : ∃ D : Int, Hid (D = cmpI x1 y1) := ⟨_, Lib.hid rfl⟩
  obtain ⟨D2, H2⟩ : ∃ D : Int, Hid (D = cmpI x2 y2) := ⟨_, Lib.hid rfl⟩
  obtain ⟨D3, H3⟩ : ∃ D : Int, Hid (D = cmpI x3 y3) := ⟨_, Lib.hid rfl⟩
  obtain ⟨D4, H4⟩ : ∃ D : Int, Hid (D = cmpT x4 y4) := ⟨_, Lib.hid rfl⟩
  rw [show cmpR ⟨x1, x2, x3, x4⟩ ⟨y1, y2, y3, y4⟩ = orI D1 (orI D2 (orI D3 D4)) by rw [H1.out, H2.out, H3.out, H4.out]; rfl]
  have K1 : Hid (∀ w' : World, Calls Tryd.prog 34 #[.int .i64 x1, .int .i64 y1] w' fun e w2 => e = .returned (.int .i64 D1) ∧ w2 = w') := by
    intro w'; rw [H1.out]; exact cmpI_ok _ _ _
  have K2 : Hid (∀ w' : World, Calls Tryd.prog 34 #[.int .i64 x2, .int .i64 y2] w' fun e w2 => e = .returned (.int .i64 D2) ∧ w2 = w') := by
    intro w'; rw [H2.out]; exact cmpI_ok _ _ _
  have K3 : Hid (∀ w' : World, Calls Tryd.prog 75 #[.int .u64 x3, .int .u64 y3] w' fun e w2 => e = .returned (.int .i64 D3) ∧ w2 = w') := by
    intro w'; rw [H3.out]; exact cmpU_ok _ _ _
  have K4 : Hid (∀ w' : World, Calls Tryd.prog 74 #[.string x4, .string y4] w' fun e w2 => e = .returned (.int .i64 D4) ∧ w2 = w') := by
    intro w'; rw [H4.out]; exact cmpT_ok _ _ _
  clear hx hy
  go_enter Tryd.func44, Tryd.ntmps44
  go_wp2_with fail
  refine wp_box2 ?_
  intro W hA hB hb
  obtain ⟨a0, a1, a2, a3⟩ := up4 hA
  obtain ⟨b0, b1, b2, b3⟩ := up4 hB
  have HB := Lib.hid hb
  clear hA hB hb
  refine wp_region_up_tail 20 (by kernel_rfl) (by kernel_rfl) ?_
  simp only [List.take_succ_cons, List.take_zero, List.drop_succ_cons, List.drop_zero]
  repeat (go_big_quiet_step (first | (go_at_call 34; with_reducible exact calls_up_same (K1.out _)) | (go_at_call 34; with_reducible exact calls_up_same (K2.out _)) | (go_at_call 75; with_reducible exact calls_up_same (K3.out _)) | (go_at_call 74; with_reducible exact calls_up_same (K4.out _))))
  refine wpQuiet_nil ?_
  rintro _ ⟨s1, rfl⟩
  clear a0 a1 a2 a3 b0 b1 b2 b3
  go_wp2_with fail
  refine calls_same (or4_ok _ _ _ _ _ _ (blk_cell (box1_facts _ _ _).1 0 rfl) (blk_cell (box1_facts _ _ _).1 1 rfl) (blk_cell (box1_facts _ _ _).1 2 rfl) (blk_cell (box1_facts _ _ _).1 3 rfl)) ?_
  go_wp2_with fail
  go_ret
  exact ⟨rfl, (above HB.out s1.h).alloc (above HB.out s1.h).size _⟩
end Go.Proofs.YtlgpoapedgodoaaDoor

/- contents: what a value holds. -/
namespace Go.Proofs.YtlgpoapedgodoaaDoor
open Go.RowKit


set_option maxRecDepth 8000 in
set_option maxHeartbeats 1000000 in
theorem cont_s (ek : Int) (ez : Int) (et : ByteArray) (l1 l2 l3 l4 c1 c2 c3 c4 : Nat) (d1 d2 d3 d4 : Option Addr) (h : decide (1 ≤ ek ∧ ek ≤ 9) = true) (w : World) :
    Calls Tryd.prog 35 #[.agg #[.int .i64 ek, .int .u64 ez, .string et, .slice d1 l1 c1, .slice d2 l2 c2, .slice d3 l3 c3, .slice d4 l4 c4]] w fun e w' => e = .returned (.iface 58 (.agg #[.int .i64 ek, .int .u64 ez, .string et, .slice d1 l1 c1, .slice d2 l2 c2, .slice d3 l3 c3, .slice d4 l4 c4])) ∧ Below w.heap.size w w' := by
  go_enter Tryd.func35, Tryd.ntmps35
  go_wp2_with fail
  refine calls_same (is_ok _ _) ?_
  rw [h]
  go_wp2_with fail
  first | go_ret | exact bodyPost_ret (by simp [results, Tryd.results35, go_sem]) rfl ⟨rfl, by go_grown⟩
  exact ⟨rfl, by go_grown⟩

set_option maxRecDepth 8000 in
set_option maxHeartbeats 1000000 in
theorem cont_l (ez : Int) (et : ByteArray) (l1 l2 l3 l4 c1 c2 c3 c4 : Nat) (d1 d2 d3 d4 : Option Addr) (w : World) :
    Calls Tryd.prog 35 #[.agg #[.int .i64 11, .int .u64 ez, .string et, .slice d1 l1 c1, .slice d2 l2 c2, .slice d3 l3 c3, .slice d4 l4 c4]] w fun e w' => e = .returned (.iface 59 (.slice d1 l1 c1)) ∧ Below w.heap.size w w' := by
  go_enter Tryd.func35, Tryd.ntmps35
  go_wp2_with fail
  refine calls_same (is_ok _ _) ?_
  rw [show decide ((1:Int) ≤ 11 ∧ (11:Int) ≤ 9) = false by decide]
  go_wp2_with fail
  first | go_ret | exact bodyPost_ret (by simp [results, Tryd.results35, go_sem]) rfl ⟨rfl, by go_grown⟩
  exact ⟨rfl, by go_grown⟩

set_option maxRecDepth 8000 in
set_option maxHeartbeats 1000000 in
theorem cont_p (ez : Int) (et : ByteArray) (l1 l2 l3 l4 c1 c2 c3 c4 : Nat) (d1 d2 d3 d4 : Option Addr) (w : World) :
    Calls Tryd.prog 35 #[.agg #[.int .i64 12, .int .u64 ez, .string et, .slice d1 l1 c1, .slice d2 l2 c2, .slice d3 l3 c3, .slice d4 l4 c4]] w fun e w' => e = .returned (.iface 61 (.slice d2 l2 c2)) ∧ Below w.heap.size w w' := by
  go_enter Tryd.func35, Tryd.ntmps35
  go_wp2_with fail
  refine calls_same (is_ok _ _) ?_
  rw [show decide ((1:Int) ≤ 12 ∧ (12:Int) ≤ 9) = false by decide]
  go_wp2_with fail
  first | go_ret | exact bodyPost_ret (by simp [results, Tryd.results35, go_sem]) rfl ⟨rfl, by go_grown⟩
  exact ⟨rfl, by go_grown⟩

set_option maxRecDepth 8000 in
set_option maxHeartbeats 1000000 in
theorem cont_m (ez : Int) (et : ByteArray) (l1 l2 l3 l4 c1 c2 c3 c4 : Nat) (d1 d2 d3 d4 : Option Addr) (w : World) :
    Calls Tryd.prog 35 #[.agg #[.int .i64 10, .int .u64 ez, .string et, .slice d1 l1 c1, .slice d2 l2 c2, .slice d3 l3 c3, .slice d4 l4 c4]] w fun e w' => e = .returned (.iface 65 (.agg #[.slice d3 l3 c3, .slice d4 l4 c4])) ∧ Below w.heap.size w w' := by
  go_enter Tryd.func35, Tryd.ntmps35
  go_wp2_with fail
  refine calls_same (is_ok _ _) ?_
  rw [show decide ((1:Int) ≤ 10 ∧ (10:Int) ≤ 9) = false by decide]
  go_wp2_with fail
  first | go_ret | exact bodyPost_ret (by simp [results, Tryd.results35, go_sem]) rfl ⟨rfl, by go_grown⟩
  exact ⟨rfl, by go_grown⟩

set_option maxRecDepth 8000 in
set_option maxHeartbeats 1000000 in
theorem cont_n (ek : Int) (ez : Int) (et : ByteArray) (l1 l2 l3 l4 c1 c2 c3 c4 : Nat) (d1 d2 d3 d4 : Option Addr) (h : decide (1 ≤ ek ∧ ek ≤ 9) = false) (h1 : (ek == 11) = false) (h2 : (ek == 12) = false) (h3 : (ek == 10) = false) (w : World) :
    Calls Tryd.prog 35 #[.agg #[.int .i64 ek, .int .u64 ez, .string et, .slice d1 l1 c1, .slice d2 l2 c2, .slice d3 l3 c3, .slice d4 l4 c4]] w fun e w' => e = .returned (.nilIface) ∧ Below w.heap.size w w' := by
  go_enter Tryd.func35, Tryd.ntmps35
  go_wp2_with fail
  refine calls_same (is_ok _ _) ?_
  rw [h]
  go_wp2_with fail
  first | go_ret | exact bodyPost_ret (by simp [results, Tryd.results35, go_sem]) rfl ⟨rfl, by go_grown⟩
  exact ⟨rfl, by go_grown⟩
end Go.Proofs.YtlgpoapedgodoaaDoor
