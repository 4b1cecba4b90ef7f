/- The reference's Key. -/
import Derived.Test.YtlgpoapedgodoaaDoorRkeyA
import Derived.Test.YtlgpoapedgodoaaDoorOwn
import Derived.OwnWalk
import Derived.Deep.DeepMust
namespace Go.Proofs.YtlgpoapedgodoaaDoor
open Go.RowKit
set_option linter.unusedVariables false

set_option maxHeartbeats 800000 in
theorem texts16_ok (k : Int) (w : World) :
    Calls Tryd.prog 31 #[.int .i64 k] w fun e w' => e = .returned (.bool (decide (k = 7 ∨ k = 8))) ∧ w' = w := by
  go_enter Tryd.func31, Tryd.ntmps31
  go_wp2
  all_goals first | (exfalso; omega) | skip
  all_goals
    go_ret
    refine ⟨?_, rfl⟩
    simp_all
    try omega
    try (rw [Bool.eq_iff_iff]; simp)

set_option maxRecDepth 8000 in
set_option maxHeartbeats 4000000 in
theorem rkey_no (k z : Int) (t : ByteArray) (l1 l2 l3 l4 c1 c2 c3 c4 : Nat) (d1 d2 d3 d4 : Option Addr) (w : World) (KF : Hid (∀ w : World, Calls Tryd.prog 21 #[.int .i64 k, .agg #[.int .i64 k, .int .u64 z, .string t, .slice d1 l1 c1, .slice d2 l2 c2, .slice d3 l3 c3, .slice d4 l4 c4]] w fun e w' => e = .returned (.bool false) ∧ Below w.heap.size w w')) :
    Calls Tryd.prog 11 #[.agg #[.int .i64 k, .int .u64 z, .string t, .slice d1 l1 c1, .slice d2 l2 c2, .slice d3 l3 c3, .slice d4 l4 c4]] w fun e w' => e = .returned (.string ⟨#[]⟩) ∧ Below w.heap.size w w' := by
  go_enter Tryd.func11, Tryd.ntmps11
  go_wp2_with fail
  refine calls_box1 ?_
  intro W hA hb
  have HB := Lib.hid hb
  have HA := Lib.hid hA
  clear hA hb
  refine calls_on (KF.out _) ?_
  intro w2 hb2
  have HB2 := Lib.hid (above HB.out hb2)
  have HA2 := Lib.hid (blk_keep hb2 HA.out)
  clear hb2
  go_wp2_with fail
  go_ret
  exact ⟨rfl, HB2.out⟩

set_option maxRecDepth 8000 in
set_option maxHeartbeats 4000000 in
theorem rkey_num (k z u g : Int) (t : ByteArray) (l1 l2 l3 l4 c1 c2 c3 c4 : Nat) (d1 d2 d3 d4 : Option Addr) (w : World) (KF : Hid (∀ w : World, Calls Tryd.prog 21 #[.int .i64 k, .agg #[.int .i64 k, .int .u64 z, .string t, .slice d1 l1 c1, .slice d2 l2 c2, .slice d3 l3 c3, .slice d4 l4 c4]] w fun e w' => e = .returned (.bool true) ∧ Below w.heap.size w w')) (KT : Hid (∀ w : World, Calls Tryd.prog 31 #[.int .i64 k] w fun e w' => e = .returned (.bool false) ∧ w' = w)) (hk0 : 1 ≤ k) (hk9 : k ≤ 9) (E : ByteArray) (hE : E.size = 8)
    (KN : Hid (∀ w : World, Calls Tryd.prog 22 #[.agg #[.int .i64 k, .int .u64 z, .string t, .slice d1 l1 c1, .slice d2 l2 c2, .slice d3 l3 c3, .slice d4 l4 c4]] w fun e w' => e = .returned (.agg #[.int .i64 k, .int .u64 u, .string t, .slice d1 l1 c1, .slice d2 l2 c2, .slice d3 l3 c3, .slice d4 l4 c4]) ∧ Below w.heap.size w w'))
    (KR : Hid (∀ w : World, Calls Tryd.prog 33 #[.agg #[.int .i64 k, .int .u64 u, .string t, .slice d1 l1 c1, .slice d2 l2 c2, .slice d3 l3 c3, .slice d4 l4 c4]] w fun e w' => e = .returned (.int .u64 g) ∧ Below w.heap.size w w'))
    (KE : Hid (∀ w : World, Calls Tryd.prog 32 #[.int .u64 g] w fun e w' => e = .returned (.string E) ∧ Below w.heap.size w w')) :
    Calls Tryd.prog 11 #[.agg #[.int .i64 k, .int .u64 z, .string t, .slice d1 l1 c1, .slice d2 l2 c2, .slice d3 l3 c3, .slice d4 l4 c4]] w fun e w' => e = .returned (.string (strOfNums [k] ++ E)) ∧ Below w.heap.size w w' := by
  have hz : ∀ xs, (strOfNums xs).size = xs.length := strOfNums_size
  go_enter Tryd.func11, Tryd.ntmps11
  go_wp2_with fail
  refine calls_box1 ?_
  intro W hA hb
  have HB := Lib.hid hb
  have HA := Lib.hid hA
  clear hA hb
  refine calls_on (KF.out _) ?_
  intro w2 hb2
  have HB2 := Lib.hid (above HB.out hb2)
  have HA2 := Lib.hid (blk_keep hb2 HA.out)
  clear hb2
  have hsz2 : w.heap.size < w2.heap.size := blk_lt HA2.out
  obtain ⟨a0, a1, a2, a3, a4, a5, a6⟩ := cells7 HA2.out
  go_wp2_with fail
  clear a0 a1 a2 a3 a4 a5 a6
  refine calls_box1 ?_
  intro W3 hA3 hb3
  have HB3 := Lib.hid (above HB2.out hb3)
  have HA3 := Lib.hid (blk_keep hb3 HA2.out)
  have HO3 := Lib.hid hA3
  clear hA3 hb3
  refine calls_same (KT.out _) ?_
  go_wp2_with fail
  obtain ⟨a0, a1, a2, a3, a4, a5, a6⟩ := up7 HA3.out
  have cv : ∀ s : Up W3, (convert 51 9 (.slice (some ⟨w2.heap.size, 0, none⟩) 1 1)).run Tryd.prog s.w = .ok (.string (strOfNums [k])) s.w := fun s =>
    run_convert_bytes_arg s.w _ _ Tryd.underlying51 Tryd.underlying5 w2.heap.size 0 1 1 [k] rfl (fun i hi => by
      rw [Nat.zero_add]
      match i, hi with
      | 0, _ => exact Up.cell (blk_cell HO3.out 0 rfl) s) _ Tryd.underlying9
  refine wp_region_up (by kernel_rfl) (by kernel_rfl) ?_
  repeat (go_big_quiet_step (first | (go_at_call 22; with_reducible exact calls_up (KN.out _)) | (go_at_call 33; with_reducible exact calls_up (KR.out _)) | (go_at_call 32; with_reducible exact calls_up (KE.out _))))
  refine wpQuiet_nil ?_
  rintro _ ⟨s1, rfl⟩
  clear a0 a1 a2 a3 a4 a5 a6 cv
  go_wp2_with fail
  go_ret
  exact ⟨rfl, above HB3.out s1.h⟩

/-- The bytes of a text escaped, as numbers. -/
def escN (l : List UInt8) : List Int := (escT l).map fun b => (b.toNat : Int)
theorem escT_snoc (l : List UInt8) (b : UInt8) : escT (l ++ [b]) = escT l ++ (if b = 0 then [0, 255] else [b]) := by
  induction l with
  | nil => by_cases h : b = 0 <;> simp [escT, h]
  | cons a l ih => by_cases h : a = 0 <;> simp [escT, h, ih]
theorem escN_len (l : List UInt8) : (escN l).length ≤ 2 * l.length := by
  unfold escN
  rw [List.length_map, escT_length]
  have := List.count_le_length (a := (0 : UInt8)) (l := l)
  omega
theorem take_snoc (s : ByteArray) (k : Nat) (h : k < s.size) : s.data.toList.take (k + 1) = s.data.toList.take k ++ [s[k]] := by
  rw [List.take_succ_eq_append_getElem (by simpa using h)]; rfl

set_option maxRecDepth 8000 in
set_option maxHeartbeats 4000000 in
theorem rkey_text7 (z : Int) (t : ByteArray) (l1 l2 l3 l4 c1 c2 c3 c4 : Nat) (d1 d2 d3 d4 : Option Addr) (w : World) (KF : Hid (∀ w : World, Calls Tryd.prog 21 #[.int .i64 7, .agg #[.int .i64 7, .int .u64 z, .string t, .slice d1 l1 c1, .slice d2 l2 c2, .slice d3 l3 c3, .slice d4 l4 c4]] w fun e w' => e = .returned (.bool true) ∧ Below w.heap.size w w')) (KT : Hid (∀ w : World, Calls Tryd.prog 31 #[.int .i64 7] w fun e w' => e = .returned (.bool true) ∧ w' = w)) (ht : t.size ≤ 4096) :
    Calls Tryd.prog 11 #[.agg #[.int .i64 7, .int .u64 z, .string t, .slice d1 l1 c1, .slice d2 l2 c2, .slice d3 l3 c3, .slice d4 l4 c4]] w fun e w' => e = .returned (.string (strOfNums ([7] ++ escN t.data.toList ++ [0, 0]))) ∧ Below w.heap.size w w' := by
  go_enter Tryd.func11, Tryd.ntmps11
  go_wp2_with fail
  refine calls_box1 ?_
  intro W hA hb
  have HB := Lib.hid hb
  have HA := Lib.hid hA
  clear hA hb
  refine calls_on (KF.out _) ?_
  intro w2 hb2
  have HB2 := Lib.hid (above HB.out hb2)
  have HA2 := Lib.hid (blk_keep hb2 HA.out)
  clear hb2
  have hsz2 : w.heap.size < w2.heap.size := blk_lt HA2.out
  obtain ⟨a0, a1, a2, a3, a4, a5, a6⟩ := cells7 HA2.out
  go_wp2_with fail
  clear a0 a1 a2 a3 a4 a5 a6
  have HO3 : Hid (OwnB w2.heap.size (.slice (some ⟨w2.heap.size, 0, none⟩) 1 1) [7] (w2.alloc (.cells #[.int .u8 7] 5))) := Lib.hid (OwnB.lit w2.heap.size w2 7 (Nat.le_refl _))
  have hb3 : Below w2.heap.size w2 (w2.alloc (.cells #[.int .u8 7] 5)) := (Below.refl _ _).alloc (Nat.le_refl _) _
  have HB3 := Lib.hid hb3
  clear hb3
  generalize w2.alloc (.cells #[.int .u8 7] 5) = W3 at *
  refine calls_same (KT.out _) ?_
  go_wp2_with fail
  go_loopw [3, 4] (fun v i wr => ∃ k : Nat, k ≤ t.size ∧ i = .int .i64 k ∧ Hid (OwnB w2.heap.size v ([7] ++ escN (t.data.toList.take k)) wr) ∧ Below w2.heap.size w2 wr) (fun _ i _ => t.size - (intOf i).toNat)
  case atStart => exact ⟨0, Nat.zero_le _, rfl, HO3, HB3.out⟩
  case round =>
    obtain ⟨k, hk, rfl, HO, hbr⟩ := hrel
    have HBR := Lib.hid hbr
    have HAR := Lib.hid (blk_keep hbr HA2.out)
    have hsz : w.heap.size < wr.heap.size := blk_lt HAR.out
    have hszr : w2.heap.size ≤ wr.heap.size := hbr.size
    clear hbr
    obtain ⟨a0, a1, a2, a3, a4, a5, a6⟩ := cells7 HAR.out
    have HL := Lib.hid (escN_len (t.data.toList.take k))
    have hlen : ([7] ++ escN (t.data.toList.take k)).length ≤ 8200 := by
      have h1 := HL.out
      have h2 : (t.data.toList.take k).length ≤ k := List.length_take_le _ _
      simp only [List.length_append, List.length_cons, List.length_nil]
      omega
    have HLEN := Lib.hid hlen
    clear hlen
    by_cases hlt : k < t.size
    · have HS := Lib.hid (take_snoc t k hlt)
      have i0 : (0 : Int) ≤ (k : Int) := by omega
      have i1 : (k : Int) < (t.size : Int) := by omega
      by_cases hb0 : t[k] = 0
      · have hbn : (t[k].toNat : Int) = 0 := by rw [hb0]; rfl
        have HB0 := Lib.hid hb0
        have HBN := Lib.hid hbn
        have hbq : ((t[k].toNat : Int) == 0) = true := by rw [hbn]; rfl
        clear hb0 hbn
        go_wp2_with (at_builtin; go_must (refine appB1 _ rfl _ _ rfl w2.heap.size _ _ rfl HO.out _ rfl rfl (by have := HLEN.out; omega) HBR.out.size ?_))
        intro v1 w3 ho3 hb3 hs3
        have HO3' := Lib.hid ho3
        have HBR3 := Lib.hid (HBR.out.trans hb3)
        have HA3 := Lib.hid ((hb3.block w.heap.size hsz2).trans HAR.out)
        clear ho3 hb3 a0 a1 a2 a3 a4 a5 a6 hszr
        obtain ⟨a0, a1, a2, a3, a4, a5, a6⟩ := cells7 HA3.out
        have hsz3 : w.heap.size < w3.heap.size := blk_lt HA3.out
        go_wp2_with (at_builtin; go_must (refine appB1 _ rfl _ _ rfl w2.heap.size _ _ rfl HO3'.out _ rfl rfl (by have h9 := HLEN.out; simp only [List.length_append, List.length_cons, List.length_nil] at h9 ⊢; omega) HBR3.out.size ?_))
        intro v4 w4 ho4 hb4 hs4
        have HBR4 := Lib.hid (HBR3.out.trans hb4)
        have HO4 : Hid (OwnB w2.heap.size v4 ([7] ++ escN (t.data.toList.take (k + 1))) w4) := by
          rw [HS.out]
          have e : escN (List.take k t.data.toList ++ [t[k]]) = escN (List.take k t.data.toList) ++ [0, 255] := by
            unfold escN; rw [escT_snoc, if_pos HB0.out, List.map_append]; rfl
          rw [e, ← List.append_assoc]
          have := ho4
          rw [HBN.out] at this
          exact Lib.hid (by simpa using this)
        clear ho4 hb4 a0 a1 a2 a3 a4 a5 a6
        go_wp2_with fail
        go_roundw
        case rel => exact ⟨k + 1, by omega, by go_num, HO4, HBR4.out⟩
        case measure => simp [intOf]; omega
      · have hbn : ¬ (t[k].toNat : Int) = 0 := fun h => hb0 (UInt8.toNat_inj.1 (by have : ((0 : UInt8).toNat) = 0 := rfl; omega))
        have HB0 := Lib.hid hb0
        have hbq : ((t[k].toNat : Int) == 0) = false := by rw [beq_eq_false_iff_ne]; exact hbn
        clear hb0 hbn
        go_wp2_with (at_builtin; go_must (refine appB1 _ rfl _ _ rfl w2.heap.size _ _ rfl HO.out _ rfl rfl (by have := HLEN.out; omega) HBR.out.size ?_))
        intro v1 w3 ho3 hb3 hs3
        have HO4 : Hid (OwnB w2.heap.size v1 ([7] ++ escN (t.data.toList.take (k + 1))) w3) := by
          rw [HS.out]
          have e : escN (List.take k t.data.toList ++ [t[k]]) = escN (List.take k t.data.toList) ++ [(t[k].toNat : Int)] := by
            unfold escN; rw [escT_snoc, if_neg HB0.out, List.map_append]; rfl
          rw [e, ← List.append_assoc]
          exact ho3
        have HBR3 := Lib.hid (HBR.out.trans hb3)
        have HA3 := Lib.hid ((hb3.block w.heap.size hsz2).trans HAR.out)
        clear ho3 hb3 a0 a1 a2 a3 a4 a5 a6 hszr
        obtain ⟨a0, a1, a2, a3, a4, a5, a6⟩ := cells7 HA3.out
        have hsz3 : w.heap.size < w3.heap.size := blk_lt HA3.out
        go_wp2_with fail
        go_roundw
        case rel => exact ⟨k + 1, by omega, by go_num, HO4, HBR3.out⟩
        case measure => simp [intOf]; omega
    · have hkt : t.data.toList.take k = t.data.toList := List.take_of_length_le (by simp; omega)
      rw [hkt] at HO HLEN
      clear hkt
      go_wp2_with (at_builtin; go_must (refine appB2 _ _ rfl _ _ rfl w2.heap.size _ _ rfl HO.out _ rfl rfl (by have := HLEN.out; omega) HBR.out.size ?_))
      intro v1 w3 ho3 hb3 hs3
      have hcv := ho3.str
      have HB4 : Hid (Below w.heap.size w w3) := Lib.hid (above HB2.out ((HBR.out.trans hb3)))
      clear ho3 hb3 a0 a1 a2 a3 a4 a5 a6 hszr
      go_wp2_with fail
      go_ret
      exact ⟨rfl, HB4.out⟩

set_option maxRecDepth 8000 in
set_option maxHeartbeats 4000000 in
theorem rkey_text8 (z : Int) (t : ByteArray) (l1 l2 l3 l4 c1 c2 c3 c4 : Nat) (d1 d2 d3 d4 : Option Addr) (w : World) (KF : Hid (∀ w : World, Calls Tryd.prog 21 #[.int .i64 8, .agg #[.int .i64 8, .int .u64 z, .string t, .slice d1 l1 c1, .slice d2 l2 c2, .slice d3 l3 c3, .slice d4 l4 c4]] w fun e w' => e = .returned (.bool true) ∧ Below w.heap.size w w')) (KT : Hid (∀ w : World, Calls Tryd.prog 31 #[.int .i64 8] w fun e w' => e = .returned (.bool true) ∧ w' = w)) (ht : t.size ≤ 4096) :
    Calls Tryd.prog 11 #[.agg #[.int .i64 8, .int .u64 z, .string t, .slice d1 l1 c1, .slice d2 l2 c2, .slice d3 l3 c3, .slice d4 l4 c4]] w fun e w' => e = .returned (.string (strOfNums ([8] ++ escN t.data.toList ++ [0, 0]))) ∧ Below w.heap.size w w' := by
  go_enter Tryd.func11, Tryd.ntmps11
  go_wp2_with fail
  refine calls_box1 ?_
  intro W hA hb
  have HB := Lib.hid hb
  have HA := Lib.hid hA
  clear hA hb
  refine calls_on (KF.out _) ?_
  intro w2 hb2
  have HB2 := Lib.hid (above HB.out hb2)
  have HA2 := Lib.hid (blk_keep hb2 HA.out)
  clear hb2
  have hsz2 : w.heap.size < w2.heap.size := blk_lt HA2.out
  obtain ⟨a0, a1, a2, a3, a4, a5, a6⟩ := cells7 HA2.out
  go_wp2_with fail
  clear a0 a1 a2 a3 a4 a5 a6
  have HO3 : Hid (OwnB w2.heap.size (.slice (some ⟨w2.heap.size, 0, none⟩) 1 1) [8] (w2.alloc (.cells #[.int .u8 8] 5))) := Lib.hid (OwnB.lit w2.heap.size w2 8 (Nat.le_refl _))
  have hb3 : Below w2.heap.size w2 (w2.alloc (.cells #[.int .u8 8] 5)) := (Below.refl _ _).alloc (Nat.le_refl _) _
  have HB3 := Lib.hid hb3
  clear hb3
  generalize w2.alloc (.cells #[.int .u8 8] 5) = W3 at *
  refine calls_same (KT.out _) ?_
  go_wp2_with fail
  go_loopw [3, 4] (fun v i wr => ∃ k : Nat, k ≤ t.size ∧ i = .int .i64 k ∧ Hid (OwnB w2.heap.size v ([8] ++ escN (t.data.toList.take k)) wr) ∧ Below w2.heap.size w2 wr) (fun _ i _ => t.size - (intOf i).toNat)
  case atStart => exact ⟨0, Nat.zero_le _, rfl, HO3, HB3.out⟩
  case round =>
    obtain ⟨k, hk, rfl, HO, hbr⟩ := hrel
    have HBR := Lib.hid hbr
    have HAR := Lib.hid (blk_keep hbr HA2.out)
    have hsz : w.heap.size < wr.heap.size := blk_lt HAR.out
    have hszr : w2.heap.size ≤ wr.heap.size := hbr.size
    clear hbr
    obtain ⟨a0, a1, a2, a3, a4, a5, a6⟩ := cells7 HAR.out
    have HL := Lib.hid (escN_len (t.data.toList.take k))
    have hlen : ([8] ++ escN (t.data.toList.take k)).length ≤ 8200 := by
      have h1 := HL.out
      have h2 : (t.data.toList.take k).length ≤ k := List.length_take_le _ _
      simp only [List.length_append, List.length_cons, List.length_nil]
      omega
    have HLEN := Lib.hid hlen
    clear hlen
    by_cases hlt : k < t.size
    · have HS := Lib.hid (take_snoc t k hlt)
      have i0 : (0 : Int) ≤ (k : Int) := by omega
      have i1 : (k : Int) < (t.size : Int) := by omega
      by_cases hb0 : t[k] = 0
      · have hbn : (t[k].toNat : Int) = 0 := by rw [hb0]; rfl
        have HB0 := Lib.hid hb0
        have HBN := Lib.hid hbn
        have hbq : ((t[k].toNat : Int) == 0) = true := by rw [hbn]; rfl
        clear hb0 hbn
        go_wp2_with (at_builtin; go_must (refine appB1 _ rfl _ _ rfl w2.heap.size _ _ rfl HO.out _ rfl rfl (by have := HLEN.out; omega) HBR.out.size ?_))
        intro v1 w3 ho3 hb3 hs3
        have HO3' := Lib.hid ho3
        have HBR3 := Lib.hid (HBR.out.trans hb3)
        have HA3 := Lib.hid ((hb3.block w.heap.size hsz2).trans HAR.out)
        clear ho3 hb3 a0 a1 a2 a3 a4 a5 a6 hszr
        obtain ⟨a0, a1, a2, a3, a4, a5, a6⟩ := cells7 HA3.out
        have hsz3 : w.heap.size < w3.heap.size := blk_lt HA3.out
        go_wp2_with (at_builtin; go_must (refine appB1 _ rfl _ _ rfl w2.heap.size _ _ rfl HO3'.out _ rfl rfl (by have h9 := HLEN.out; simp only [List.length_append, List.length_cons, List.length_nil] at h9 ⊢; omega) HBR3.out.size ?_))
        intro v4 w4 ho4 hb4 hs4
        have HBR4 := Lib.hid (HBR3.out.trans hb4)
        have HO4 : Hid (OwnB w2.heap.size v4 ([8] ++ escN (t.data.toList.take (k + 1))) w4) := by
          rw [HS.out]
          have e : escN (List.take k t.data.toList ++ [t[k]]) = escN (List.take k t.data.toList) ++ [0, 255] := by
            unfold escN; rw [escT_snoc, if_pos HB0.out, List.map_append]; rfl
          rw [e, ← List.append_assoc]
          have := ho4
          rw [HBN.out] at this
          exact Lib.hid (by simpa using this)
        clear ho4 hb4 a0 a1 a2 a3 a4 a5 a6
        go_wp2_with fail
        go_roundw
        case rel => exact ⟨k + 1, by omega, by go_num, HO4, HBR4.out⟩
        case measure => simp [intOf]; omega
      · have hbn : ¬ (t[k].toNat : Int) = 0 := fun h => hb0 (UInt8.toNat_inj.1 (by have : ((0 : UInt8).toNat) = 0 := rfl; omega))
        have HB0 := Lib.hid hb0
        have hbq : ((t[k].toNat : Int) == 0) = false := by rw [beq_eq_false_iff_ne]; exact hbn
        clear hb0 hbn
        go_wp2_with (at_builtin; go_must (refine appB1 _ rfl _ _ rfl w2.heap.size _ _ rfl HO.out _ rfl rfl (by have := HLEN.out; omega) HBR.out.size ?_))
        intro v1 w3 ho3 hb3 hs3
        have HO4 : Hid (OwnB w2.heap.size v1 ([8] ++ escN (t.data.toList.take (k + 1))) w3) := by
          rw [HS.out]
          have e : escN (List.take k t.data.toList ++ [t[k]]) = escN (List.take k t.data.toList) ++ [(t[k].toNat : Int)] := by
            unfold escN; rw [escT_snoc, if_neg HB0.out, List.map_append]; rfl
          rw [e, ← List.append_assoc]
          exact ho3
        have HBR3 := Lib.hid (HBR.out.trans hb3)
        have HA3 := Lib.hid ((hb3.block w.heap.size hsz2).trans HAR.out)
        clear ho3 hb3 a0 a1 a2 a3 a4 a5 a6 hszr
        obtain ⟨a0, a1, a2, a3, a4, a5, a6⟩ := cells7 HA3.out
        have hsz3 : w.heap.size < w3.heap.size := blk_lt HA3.out
        go_wp2_with fail
        go_roundw
        case rel => exact ⟨k + 1, by omega, by go_num, HO4, HBR3.out⟩
        case measure => simp [intOf]; omega
    · have hkt : t.data.toList.take k = t.data.toList := List.take_of_length_le (by simp; omega)
      rw [hkt] at HO HLEN
      clear hkt
      go_wp2_with (at_builtin; go_must (refine appB2 _ _ rfl _ _ rfl w2.heap.size _ _ rfl HO.out _ rfl rfl (by have := HLEN.out; omega) HBR.out.size ?_))
      intro v1 w3 ho3 hb3 hs3
      have hcv := ho3.str
      have HB4 : Hid (Below w.heap.size w w3) := Lib.hid (above HB2.out ((HBR.out.trans hb3)))
      clear ho3 hb3 a0 a1 a2 a3 a4 a5 a6 hszr
      go_wp2_with fail
      go_ret
      exact ⟨rfl, HB4.out⟩
end Go.Proofs.YtlgpoapedgodoaaDoor
