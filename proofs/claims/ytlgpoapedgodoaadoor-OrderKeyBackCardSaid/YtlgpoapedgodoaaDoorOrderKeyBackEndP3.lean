/- Part 4 of the texts that prove OrderKeyBackEnd. -/
import Derived.Test.YtlgpoapedgodoaaDoorOrderKeyBackEndP2
import Derived.OwnWalk
import Derived.Deep.DeepMust

/- The reference's Key. -/
namespace Go.Proofs.YtlgpoapedgodoaaDoor
open Go.RowKit
set_option linter.unusedVariables false

set_option maxHeartbeats 800000 in
theorem texts16_ok (k : Int) (w : World) :
    Calls Tryd.prog 31 #[.int .i64 k] w fun e w' => e = .returned (.bool (decide (k = 7 ∨ k = 8))) ∧ w' = w := by
  go_enter Tryd.func31, Tryd.ntmps31
  go_wp2
  all_goals first | (exfalso; omega) | skip
  all_goals
    go_ret
    refine ⟨?_, rfl⟩
    simp_all
    try omega
    try (rw [Bool.eq_iff_iff]; simp)

set_option maxRecDepth 8000 in
set_option maxHeartbeats 4000000 in
theorem rkey_no (k z : Int) (t : ByteArray) (l1 l2 l3 l4 c1 c2 c3 c4 : Nat) (d1 d2 d3 d4 : Option Addr) (w : World) (KF : Hid (∀ w : World, Calls Tryd.prog 21 #[.int .i64 k, .agg #[.int .i64 k, .int .u64 z, .string t, .slice d1 l1 c1, .slice d2 l2 c2, .slice d3 l3 c3, .slice d4 l4 c4]] w fun e w' => e = .returned (.bool false) ∧ Below w.heap.size w w')) :
    Calls Tryd.prog 11 #[.agg #[.int .i64 k, .int .u64 z, .string t, .slice d1 l1 c1, .slice d2 l2 c2, .slice d3 l3 c3, .slice d4 l4 c4]] w fun e w' => e = .returned (.string ⟨#[]⟩) ∧ Below w.heap.size w w' := by
  go_enter Tryd.func11, Tryd.ntmps11
  go_wp2_with fail
  refine calls_box1 ?_
  intro W hA hb
  have HB := Lib.hid hb
  have HA := Lib.hid hA
  clear hA hb
  refine calls_on (KF.out _) ?_
  intro w2 hb2
  have HB2 := Lib.hid (above HB.out hb2)
  have HA2 := Lib.hid (blk_keep hb2 HA.out)
  clear hb2
  go_wp2_with fail
  go_ret
  exact ⟨rfl, HB2.out⟩

set_option maxRecDepth 8000 in
set_option maxHeartbeats 4000000 in
theorem rkey_num (k z u g : Int) (t : ByteArray) (l1 l2 l3 l4 c1 c2 c3 c4 : Nat) (d1 d2 d3 d4 : Option Addr) (w : World) (KF : Hid (∀ w : World, Calls Tryd.prog 21 #[.int .i64 k, .agg #[.int .i64 k, .int .u64 z, .string t, .slice d1 l1 c1, .slice d2 l2 c2, .slice d3 l3 c3, .slice d4 l4 c4]] w fun e w' => e = .returned (.bool true) ∧ Below w.heap.size w w')) (KT : Hid (∀ w : World, Calls Tryd.prog 31 #[.int .i64 k] w fun e w' => e = .returned (.bool false) ∧ w' = w)) (hk0 : 1 ≤ k) (hk9 : k ≤ 9) (E : ByteArray) (hE : E.size = 8)
    (KN : Hid (∀ w : World, Calls Tryd.prog 22 #[.agg #[.int .i64 k, .int .u64 z, .string t, .slice d1 l1 c1, .slice d2 l2 c2, .slice d3 l3 c3, .slice d4 l4 c4]] w fun e w' => e = .returned (.agg #[.int .i64 k, .int .u64 u, .string t, .slice d1 l1 c1, .slice d2 l2 c2, .slice d3 l3 c3, .slice d4 l4 c4]) ∧ Below w.heap.size w w'))
    (KR : Hid (∀ w : World, Calls Tryd.prog 33 #[.agg #[.int .i64 k, .int .u64 u, .string t, .slice d1 l1 c1, .slice d2 l2 c2, .slice d3 l3 c3, .slice d4 l4 c4]] w fun e w' => e = .returned (.int .u64 g) ∧ Below w.heap.size w w'))
    (KE : Hid (∀ w : World, Calls Tryd.prog 32 #[.int .u64 g] w fun e w' => e = .returned (.string E) ∧ Below w.heap.size w w')) :
    Calls Tryd.prog 11 #[.agg #[.int .i64 k, .int .u64 z, .string t, .slice d1 l1 c1, .slice d2 l2 c2, .slice d3 l3 c3, .slice d4 l4 c4]] w fun e w' => e = .returned (.string (strOfNums [k] ++ E)) ∧ Below w.heap.size w w' := by
  have hz : ∀ xs, (strOfNums xs).size = xs.length := strOfNums_size
  go_enter Tryd.func11, Tryd.ntmps11
  go_wp2_with fail
  refine calls_box1 ?_
  intro W hA hb
  have HB := Lib.hid hb
  have HA := Lib.hid hA
  clear hA hb
  refine calls_on (KF.out _) ?_
  intro w2 hb2
  have HB2 := Lib.hid (above HB.out hb2)
  have HA2 := Lib.hid (blk_keep hb2 HA.out)
  clear hb2
  have hsz2 : w.heap.size < w2.heap.size := blk_lt HA2.out
  obtain ⟨a0, a1, a2, a3, a4, a5, a6⟩ := cells7 HA2.out
  go_wp2_with fail
  clear a0 a1 a2 a3 a4 a5 a6
  refine calls_box1 ?_
  intro W3 hA3 hb3
  have HB3 := Lib.hid (above HB2.out hb3)
  have HA3 := Lib.hid (blk_keep hb3 HA2.out)
  have HO3 := Lib.hid hA3
  clear hA3 hb3
  refine calls_same (KT.out _) ?_
  go_wp2_with fail
  obtain ⟨a0, a1, a2, a3, a4, a5, a6⟩ := up7 HA3.out
  have cv : ∀ s : Up W3, (convert 51 9 (.slice (some ⟨w2.heap.size, 0, none⟩) 1 1)).run Tryd.prog s.w = .ok (.string (strOfNums [k])) s.w := fun s =>
    run_convert_bytes_arg s.w _ _ Tryd.underlying51 Tryd.underlying5 w2.heap.size 0 1 1 [k] rfl (fun i hi => by
      rw [Nat.zero_add]
      match i, hi with
      | 0, _ => exact Up.cell (blk_cell HO3.out 0 rfl) s) _ Tryd.underlying9
  refine wp_region_up (by kernel_rfl) (by kernel_rfl) ?_
  repeat (go_big_quiet_step (first | (go_at_call 22; with_reducible exact calls_up (KN.out _)) | (go_at_call 33; with_reducible exact calls_up (KR.out _)) | (go_at_call 32; with_reducible exact calls_up (KE.out _))))
  refine wpQuiet_nil ?_
  rintro _ ⟨s1, rfl⟩
  clear a0 a1 a2 a3 a4 a5 a6 cv
  go_wp2_with fail
  go_ret
  exact ⟨rfl, above HB3.out s1.h⟩

/-- The bytes of a text escaped, as numbers. -/
def escN (l : List UInt8) : List Int := (escT l).map fun b => (b.toNat : Int)
theorem escT_snoc (l : List UInt8) (b : UInt8) : escT (l ++ [b]) = escT l ++ (if b = 0 then [0, 255] else [b]) := by
  induction l with
  | nil => by_cases h : b = 0 <;> simp [escT, h]
  | cons a l ih => by_cases h : a = 0 <;> simp [escT, h, ih]
theorem escN_len (l : List UInt8) : (escN l).length ≤ 2 * l.length := by
  unfold escN
  rw [List.length_map, escT_length]
  have := List.count_le_length (a := (0 : UInt8)) (l := l)
  omega
theorem take_snoc (s : ByteArray) (k : Nat) (h : k < s.size) : s.data.toList.take (k + 1) = s.data.toList.take k ++ [s[k]] := by
  rw [List.take_succ_eq_append_getElem (by simpa using h)]; rfl

set_option maxRecDepth 8000 in
set_option maxHeartbeats 4000000 in
theorem rkey_text7 (z : Int) (t : ByteArray) (l1 l2 l3 l4 c1 c2 c3 c4 : Nat) (d1 d2 d3 d4 : Option Addr) (w : World) (KF : Hid (∀ w : World, Calls Tryd.prog 21 #[.int .i64 7, .agg #[.int .i64 7, .int .u64 z, .string t, .slice d1 l1 c1, .slice d2 l2 c2, .slice d3 l3 c3, .slice d4 l4 c4]] w fun e w' => e = .returned (.bool true) ∧ Below w.heap.size w w')) (KT : Hid (∀ w : World, Calls Tryd.prog 31 #[.int .i64 7] w fun e w' => e = .returned (.bool true) ∧ w' = w)) (ht : t.size ≤ 4096) :
    Calls Tryd.prog 11 #[.agg #[.int .i64 7, .int .u64 z, .string t, .slice d1 l1 c1, .slice d2 l2 c2, .slice d3 l3 c3, .slice d4 l4 c4]] w fun e w' => e = .returned (.string (strOfNums ([7] ++ escN t.data.toList ++ [0, 0]))) ∧ Below w.heap.size w w' := by
  go_enter Tryd.func11, Tryd.ntmps11
  go_wp2_with fail
  refine calls_box1 ?_
  intro W hA hb
  have HB := Lib.hid hb
  have HA := Lib.hid hA
  clear hA hb
  refine calls_on (KF.out _) ?_
  intro w2 hb2
  have HB2 := Lib.hid (above HB.out hb2)
  have HA2 := Lib.hid (blk_keep hb2 HA.out)
  clear hb2
  have hsz2 : w.heap.size < w2.heap.size := blk_lt HA2.out
  obtain ⟨a0, a1, a2, a3, a4, a5, a6⟩ := cells7 HA2.out
  go_wp2_with fail
  clear a0 a1 a2 a3 a4 a5 a6
  have HO3 : Hid (OwnB w2.heap.size (.slice (some ⟨w2.heap.size, 0, none⟩) 1 1) [7] (w2.alloc (.cells #[.int .u8 7] 5))) := Lib.hid (OwnB.lit w2.heap.size w2 7 (Nat.le_refl _))
  have hb3 : Below w2.heap.size w2 (w2.alloc (.cells #[.int .u8 7] 5)) := (Below.refl _ _).alloc (Nat.le_refl _) _
  have HB3 := Lib.hid hb3
  clear hb3
  generalize w2.alloc (.cells #[.int .u8 7] 5) = W3 at *
  refine calls_same (KT.out _) ?_
  go_wp2_with fail
  go_loopw [3, 4] (fun v i wr => ∃ k : Nat, k ≤ t.size ∧ i = .int .i64 k ∧ Hid (OwnB w2.heap.size v ([7] ++ escN (t.data.toList.take k)) wr) ∧ Below w2.heap.size w2 wr) (fun _ i _ => t.size - (intOf i).toNat)
  case atStart => exact ⟨0, Nat.zero_le _, rfl, HO3, HB3.out⟩
  case round =>
    obtain ⟨k, hk, rfl, HO, hbr⟩ := hrel
    have HBR := Lib.hid hbr
    have HAR := Lib.hid (blk_keep hbr HA2.out)
    have hsz : w.heap.size < wr.heap.size := blk_lt HAR.out
    have hszr : w2.heap.size ≤ wr.heap.size := hbr.size
    clear hbr
    obtain ⟨a0, a1, a2, a3, a4, a5, a6⟩ := cells7 HAR.out
    have HL := Lib.hid (escN_len (t.data.toList.take k))
    have hlen : ([7] ++ escN (t.data.toList.take k)).length ≤ 8200 := by
      have h1 := HL.out
      have h2 : (t.data.toList.take k).length ≤ k := List.length_take_le _ _
      simp only [List.length_append, List.length_cons, List.length_nil]
      omega
    have HLEN := Lib.hid hlen
    clear hlen
    by_cases hlt : k < t.size
    · have HS := Lib.hid (take_snoc t k hlt)
      have i0 : (0 : Int) ≤ (k : Int) := by omega
      have i1 : (k : Int) < (t.size : Int) := by omega
      by_cases hb0 : t[k] = 0
      · have hbn : (t[k].toNat : Int) = 0 := by rw [hb0]; rfl
        have HB0 := Lib.hid hb0
        have HBN := Lib.hid hbn
        have hbq : ((t[k].toNat : Int) == 0) = true := by rw [hbn]; rfl
        clear hb0 hbn
        go_wp2_with (at_builtin; go_must (refine appB1 _ rfl _ _ rfl w2.heap.size _ _ rfl HO.out _ rfl rfl (by have := HLEN.out; omega) HBR.out.size ?_))
        intro v1 w3 ho3 hb3 hs3
        have HO3' := Lib.hid ho3
        have HBR3 := Lib.hid (HBR.out.trans hb3)
        have HA3 := Lib.hid ((hb3.block w.heap.size hsz2).trans HAR.out)
        clear ho3 hb3 a0 a1 a2 a3 a4 a5 a6 hszr
        obtain ⟨a0, a1, a2, a3, a4, a5, a6⟩ := cells7 HA3.out
        have hsz3 : w.heap.size < w3.heap.size := blk_lt HA3.out
        go_wp2_with (at_builtin; go_must (refine appB1 _ rfl _ _ rfl w2.heap.size _ _ rfl HO3'.out _ rfl rfl (by have h9 := HLEN.out; simp only [List.length_append, List.length_cons, List.length_nil] at h9 ⊢; omega) HBR3.out.size ?_))
        intro v4 w4 ho4 hb4 hs4
        have HBR4 := Lib.hid (HBR3.out.trans hb4)
        have HO4 : Hid (OwnB w2.heap.size v4 ([7] ++ escN (t.data.toList.take (k + 1))) w4) := by
          rw [HS.out]
          have e : escN (List.take k t.data.toList ++ [t[k]]) = escN (List.take k t.data.toList) ++ [0, 255] := by
            unfold escN; rw [escT_snoc, if_pos HB0.out, List.map_append]; rfl
          rw [e, ← List.append_assoc]
          have := ho4
          rw [HBN.out] at this
          exact Lib.hid (by simpa using this)
        clear ho4 hb4 a0 a1 a2 a3 a4 a5 a6
        go_wp2_with fail
        go_roundw
        case rel => exact ⟨k + 1, by omega, by go_num, HO4, HBR4.out⟩
        case measure => simp [intOf]; omega
      · have hbn : ¬ (t[k].toNat : Int) = 0 := fun h => hb0 (UInt8.toNat_inj.1 (by have : ((0 : UInt8).toNat) = 0 := rfl; omega))
        have HB0 := Lib.hid hb0
        have hbq : ((t[k].toNat : Int) == 0) = false := by rw [beq_eq_false_iff_ne]; exact hbn
        clear hb0 hbn
        go_wp2_with (at_builtin; go_must (refine appB1 _ rfl _ _ rfl w2.heap.size _ _ rfl HO.out _ rfl rfl (by have := HLEN.out; omega) HBR.out.size ?_))
        intro v1 w3 ho3 hb3 hs3
        have HO4 : Hid (OwnB w2.heap.size v1 ([7] ++ escN (t.data.toList.take (k + 1))) w3) := by
          rw [HS.out]
          have e : escN (List.take k t.data.toList ++ [t[k]]) = escN (List.take k t.data.toList) ++ [(t[k].toNat : Int)] := by
            unfold escN; rw [escT_snoc, if_neg HB0.out, List.map_append]; rfl
          rw [e, ← List.append_assoc]
          exact ho3
        have HBR3 := Lib.hid (HBR.out.trans hb3)
        have HA3 := Lib.hid ((hb3.block w.heap.size hsz2).trans HAR.out)
        clear ho3 hb3 a0 a1 a2 a3 a4 a5 a6 hszr
        obtain ⟨a0, a1, a2, a3, a4, a5, a6⟩ := cells7 HA3.out
        have hsz3 : w.heap.size < w3.heap.size := blk_lt HA3.out
        go_wp2_with fail
        go_roundw
        case rel => exact ⟨k + 1, by omega, by go_num, HO4, HBR3.out⟩
        case measure => simp [intOf]; omega
    · have hkt : t.data.toList.take k = t.data.toList := List.take_of_length_le (by simp; omega)
      rw [hkt] at HO HLEN
      clear hkt
      go_wp2_with (at_builtin; go_must (refine appB2 _ _ rfl _ _ rfl w2.heap.size _ _ rfl HO.out _ rfl rfl (by have := HLEN.out; omega) HBR.out.size ?_))
      intro v1 w3 ho3 hb3 hs3
      have hcv := ho3.str
      have HB4 : Hid (Below w.heap.size w w3) := Lib.hid (above HB2.out ((HBR.out.trans hb3)))
      clear ho3 hb3 a0 a1 a2 a3 a4 a5 a6 hszr
      go_wp2_with fail
      go_ret
      exact ⟨rfl, HB4.out⟩

set_option maxRecDepth 8000 in
set_option maxHeartbeats 4000000 in
theorem rkey_text8 (z : Int) (t : ByteArray) (l1 l2 l3 l4 c1 c2 c3 c4 : Nat) (d1 d2 d3 d4 : Option Addr) (w : World) (KF : Hid (∀ w : World, Calls Tryd.prog 21 #[.int .i64 8, .agg #[.int .i64 8, .int .u64 z, .string t, .slice d1 l1 c1, .slice d2 l2 c2, .slice d3 l3 c3, .slice d4 l4 c4]] w fun e w' => e = .returned (.bool true) ∧ Below w.heap.size w w')) (KT : Hid (∀ w : World, Calls Tryd.prog 31 #[.int .i64 8] w fun e w' => e = .returned (.bool true) ∧ w' = w)) (ht : t.size ≤ 4096) :
    Calls Tryd.prog 11 #[.agg #[.int .i64 8, .int .u64 z, .string t, .slice d1 l1 c1, .slice d2 l2 c2, .slice d3 l3 c3, .slice d4 l4 c4]] w fun e w' => e = .returned (.string (strOfNums ([8] ++ escN t.data.toList ++ [0, 0]))) ∧ Below w.heap.size w w' := by
  go_enter Tryd.func11, Tryd.ntmps11
  go_wp2_with fail
  refine calls_box1 ?_
  intro W hA hb
  have HB := Lib.hid hb
  have HA := Lib.hid hA
  clear hA hb
  refine calls_on (KF.out _) ?_
  intro w2 hb2
  have HB2 := Lib.hid (above HB.out hb2)
  have HA2 := Lib.hid (blk_keep hb2 HA.out)
  clear hb2
  have hsz2 : w.heap.size < w2.heap.size := blk_lt HA2.out
  obtain ⟨a0, a1, a2, a3, a4, a5, a6⟩ := cells7 HA2.out
  go_wp2_with fail
  clear a0 a1 a2 a3 a4 a5 a6
  have HO3 : Hid (OwnB w2.heap.size (.slice (some ⟨w2.heap.size, 0, none⟩) 1 1) [8] (w2.alloc (.cells #[.int .u8 8] 5))) := Lib.hid (OwnB.lit w2.heap.size w2 8 (Nat.le_refl _))
  have hb3 : Below w2.heap.size w2 (w2.alloc (.cells #[.int .u8 8] 5)) := (Below.refl _ _).alloc (Nat.le_refl _) _
  have HB3 := Lib.hid hb3
  clear hb3
  generalize w2.alloc (.cells #[.int .u8 8] 5) = W3 at *
  refine calls_same (KT.out _) ?_
  go_wp2_with fail
  go_loopw [3, 4] (fun v i wr => ∃ k : Nat, k ≤ t.size ∧ i = .int .i64 k ∧ Hid (OwnB w2.heap.size v ([8] ++ escN (t.data.toList.take k)) wr) ∧ Below w2.heap.size w2 wr) (fun _ i _ => t.size - (intOf i).toNat)
  case atStart => exact ⟨0, Nat.zero_le _, rfl, HO3, HB3.out⟩
  case round =>
    obtain ⟨k, hk, rfl, HO, hbr⟩ := hrel
    have HBR := Lib.hid hbr
    have HAR := Lib.hid (blk_keep hbr HA2.out)
    have hsz : w.heap.size < wr.heap.size := blk_lt HAR.out
    have hszr : w2.heap.size ≤ wr.heap.size := hbr.size
    clear hbr
    obtain ⟨a0, a1, a2, a3, a4, a5, a6⟩ := cells7 HAR.out
    have HL := Lib.hid (escN_len (t.data.toList.take k))
    have hlen : ([8] ++ escN (t.data.toList.take k)).length ≤ 8200 := by
      have h1 := HL.out
      have h2 : (t.data.toList.take k).length ≤ k := List.length_take_le _ _
      simp only [List.length_append, List.length_cons, List.length_nil]
      omega
    have HLEN := Lib.hid hlen
    clear hlen
    by_cases hlt : k < t.size
    · have HS := Lib.hid (take_snoc t k hlt)
      have i0 : (0 : Int) ≤ (k : Int) := by omega
      have i1 : (k : Int) < (t.size : Int) := by omega
      by_cases hb0 : t[k] = 0
      · have hbn : (t[k].toNat : Int) = 0 := by rw [hb0]; rfl
        have HB0 := Lib.hid hb0
        have HBN := Lib.hid hbn
        have hbq : ((t[k].toNat : Int) == 0) = true := by rw [hbn]; rfl
        clear hb0 hbn
        go_wp2_with (at_builtin; go_must (refine appB1 _ rfl _ _ rfl w2.heap.size _ _ rfl HO.out _ rfl rfl (by have := HLEN.out; omega) HBR.out.size ?_))
        intro v1 w3 ho3 hb3 hs3
        have HO3' := Lib.hid ho3
        have HBR3 := Lib.hid (HBR.out.trans hb3)
        have HA3 := Lib.hid ((hb3.block w.heap.size hsz2).trans HAR.out)
        clear ho3 hb3 a0 a1 a2 a3 a4 a5 a6 hszr
        obtain ⟨a0, a1, a2, a3, a4, a5, a6⟩ := cells7 HA3.out
        have hsz3 : w.heap.size < w3.heap.size := blk_lt HA3.out
        go_wp2_with (at_builtin; go_must (refine appB1 _ rfl _ _ rfl w2.heap.size _ _ rfl HO3'.out _ rfl rfl (by have h9 := HLEN.out; simp only [List.length_append, List.length_cons, List.length_nil] at h9 ⊢; omega) HBR3.out.size ?_))
        intro v4 w4 ho4 hb4 hs4
        have HBR4 := Lib.hid (HBR3.out.trans hb4)
        have HO4 : Hid (OwnB w2.heap.size v4 ([8] ++ escN (t.data.toList.take (k + 1))) w4) := by
          rw [HS.out]
          have e : escN (List.take k t.data.toList ++ [t[k]]) = escN (List.take k t.data.toList) ++ [0, 255] := by
            unfold escN; rw [escT_snoc, if_pos HB0.out, List.map_append]; rfl
          rw [e, ← List.append_assoc]
          have := ho4
          rw [HBN.out] at this
          exact Lib.hid (by simpa using this)
        clear ho4 hb4 a0 a1 a2 a3 a4 a5 a6
        go_wp2_with fail
        go_roundw
        case rel => exact ⟨k + 1, by omega, by go_num, HO4, HBR4.out⟩
        case measure => simp [intOf]; omega
      · have hbn : ¬ (t[k].toNat : Int) = 0 := fun h => hb0 (UInt8.toNat_inj.1 (by have : ((0 : UInt8).toNat) = 0 := rfl; omega))
        have HB0 := Lib.hid hb0
        have hbq : ((t[k].toNat : Int) == 0) = false := by rw [beq_eq_false_iff_ne]; exact hbn
        clear hb0 hbn
        go_wp2_with (at_builtin; go_must (refine appB1 _ rfl _ _ rfl w2.heap.size _ _ rfl HO.out _ rfl rfl (by have := HLEN.out; omega) HBR.out.size ?_))
        intro v1 w3 ho3 hb3 hs3
        have HO4 : Hid (OwnB w2.heap.size v1 ([8] ++ escN (t.data.toList.take (k + 1))) w3) := by
          rw [HS.out]
          have e : escN (List.take k t.data.toList ++ [t[k]]) = escN (List.take k t.data.toList) ++ [(t[k].toNat : Int)] := by
            unfold escN; rw [escT_snoc, if_neg HB0.out, List.map_append]; rfl
          rw [e, ← List.append_assoc]
          exact ho3
        have HBR3 := Lib.hid (HBR.out.trans hb3)
        have HA3 := Lib.hid ((hb3.block w.heap.size hsz2).trans HAR.out)
        clear ho3 hb3 a0 a1 a2 a3 a4 a5 a6 hszr
        obtain ⟨a0, a1, a2, a3, a4, a5, a6⟩ := cells7 HA3.out
        have hsz3 : w.heap.size < w3.heap.size := blk_lt HA3.out
        go_wp2_with fail
        go_roundw
        case rel => exact ⟨k + 1, by omega, by go_num, HO4, HBR3.out⟩
        case measure => simp [intOf]; omega
    · have hkt : t.data.toList.take k = t.data.toList := List.take_of_length_le (by simp; omega)
      rw [hkt] at HO HLEN
      clear hkt
      go_wp2_with (at_builtin; go_must (refine appB2 _ _ rfl _ _ rfl w2.heap.size _ _ rfl HO.out _ rfl rfl (by have := HLEN.out; omega) HBR.out.size ?_))
      intro v1 w3 ho3 hb3 hs3
      have hcv := ho3.str
      have HB4 : Hid (Below w.heap.size w w3) := Lib.hid (above HB2.out ((HBR.out.trans hb3)))
      clear ho3 hb3 a0 a1 a2 a3 a4 a5 a6 hszr
      go_wp2_with fail
      go_ret
      exact ⟨rfl, HB4.out⟩
end Go.Proofs.YtlgpoapedgodoaaDoor

/- untext: the text of a key read again, the program's and the reference's. -/
namespace Go.Proofs.YtlgpoapedgodoaaDoor
open Go.RowKit
set_option linter.unusedVariables false

/-- The text behind a key's first byte: what is read so far, where it stands; the text, the key's length, the error. -/
def unT : List UInt8 → List UInt8 → Nat → List UInt8 × Nat × Int
  | [], _, _ => ([], 0, 4)
  | b :: l, acc, n =>
    if b ≠ 0 then unT l (acc ++ [b]) (n + 1) else
    match l with
    | [] => ([], 0, 4)
    | c :: l' => if c = 0 then (acc, n + 2, 0) else if c = 255 then unT l' (acc ++ [0]) (n + 2) else ([], 0, 5)

theorem drop_at (s : ByteArray) (p : Nat) (h : p < s.size) : s.data.toList.drop p = s[p] :: s.data.toList.drop (p + 1) := by
  rw [List.drop_eq_getElem_cons (by simpa using h)]; rfl
theorem drop_end (s : ByteArray) (p : Nat) (h : s.size ≤ p) : s.data.toList.drop p = [] := List.drop_of_length_le (by simpa using h)

theorem unT_end (s : ByteArray) (p : Nat) (acc : List UInt8) (h : s.size ≤ p) : unT (s.data.toList.drop p) acc p = ([], 0, 4) := by rw [drop_end s p h]; rfl
theorem unT_byte (s : ByteArray) (p : Nat) (acc : List UInt8) (h : p < s.size) (hb : s[p] ≠ 0) : unT (s.data.toList.drop p) acc p = unT (s.data.toList.drop (p + 1)) (acc ++ [s[p]]) (p + 1) := by
  rw [drop_at s p h, unT.eq_def]
  simp only [hb, ne_eq, not_false_eq_true, if_true]
theorem unT_short (s : ByteArray) (p : Nat) (acc : List UInt8) (h : p < s.size) (hb : s[p] = 0) (h2 : s.size ≤ p + 1) : unT (s.data.toList.drop p) acc p = ([], 0, 4) := by
  rw [drop_at s p h, drop_end s (p + 1) h2, hb]; rfl
theorem unT_done (s : ByteArray) (p : Nat) (acc : List UInt8) (h : p < s.size) (hb : s[p] = 0) (h2 : p + 1 < s.size) (hc : s[p + 1] = 0) : unT (s.data.toList.drop p) acc p = (acc, p + 2, 0) := by
  rw [drop_at s p h, drop_at s (p + 1) h2, hb, hc]; rfl
theorem unT_form (s : ByteArray) (p : Nat) (acc : List UInt8) (h : p < s.size) (hb : s[p] = 0) (h2 : p + 1 < s.size) (hc : s[p + 1] ≠ 0) (hd : s[p + 1] ≠ 255) : unT (s.data.toList.drop p) acc p = ([], 0, 5) := by
  rw [drop_at s p h, drop_at s (p + 1) h2, hb]; simp only [unT, hc, hd, ne_eq, not_true_eq_false, if_false]
theorem unT_zero (s : ByteArray) (p : Nat) (acc : List UInt8) (h : p < s.size) (hb : s[p] = 0) (h2 : p + 1 < s.size) (hc : s[p + 1] = 255) : unT (s.data.toList.drop p) acc p = unT (s.data.toList.drop (p + 2)) (acc ++ [0]) (p + 2) := by
  rw [drop_at s p h, drop_at s (p + 1) h2, hb, hc]; rfl

def nums (l : List UInt8) : List Int := l.map fun b => (b.toNat : Int)
theorem nums_str (l : List UInt8) : strOfNums (nums l) = ⟨l.toArray⟩ := by
  have e : (l.map fun b => (b.toNat : Int)).map (fun n => UInt8.ofNat n.toNat) = l := by
    rw [List.map_map]
    conv => rhs; rw [← List.map_id l]
    exact List.map_congr_left (by intro b _; simp)
  unfold strOfNums nums
  rw [e]

theorem ret_un {a b : ByteArray} {n m x y : Int} (h1 : a = b) (h2 : n = m) (h3 : x = y) : Ending.returned (.tuple #[.string a, .int .i64 n, .int .i64 x]) = .returned (.tuple #[.string b, .int .i64 m, .int .i64 y]) := by rw [h1, h2, h3]

set_option maxRecDepth 8000 in
set_option maxHeartbeats 4000000 in
theorem untext_ok (s : ByteArray) (h1 : 1 ≤ s.size) (hs : s.size ≤ 140737488351232) (w : World) :
    Calls Tryd.prog 55 #[.string s] w fun e w' => e = .returned (.tuple #[.string ⟨(unT (s.data.toList.drop 1) [] 1).1.toArray⟩, .int .i64 ((unT (s.data.toList.drop 1) [] 1).2.1 : Nat), .int .i64 (unT (s.data.toList.drop 1) [] 1).2.2]) ∧ Below w.heap.size w w' := by
  obtain ⟨R, HR⟩ : ∃ R, Hid (R = unT (s.data.toList.drop 1) [] 1) := ⟨_, Lib.hid rfl⟩
  rw [← HR.out]
  go_enter Tryd.func55, Tryd.ntmps55
  go_wp2_with fail
  go_loopw [5, 6] (fun v i wr => ∃ (p : Nat) (acc : List UInt8), 1 ≤ p ∧ p ≤ s.size ∧ acc.length ≤ p ∧ i = .int .i64 p ∧ Hid (R = unT (s.data.toList.drop p) acc p) ∧ Hid (OwnB w.heap.size v (nums acc) wr) ∧ Below w.heap.size w wr) (fun _ i _ => s.size - (intOf i).toNat)
  case atStart => exact ⟨1, [], Nat.le_refl _, h1, Nat.zero_le _, rfl, HR, OwnB.nil _ _, Below.refl _ _⟩
  case round =>
    obtain ⟨p, acc, hp1, hps, hacc, rfl, HK, HO, hbr⟩ := hrel
    have HBR := Lib.hid hbr
    clear hbr
    have HLEN : Hid ((nums acc).length ≤ p) := Lib.hid (by unfold nums; rw [List.length_map]; exact hacc)
    have i0 : (0 : Int) ≤ (p : Int) := by omega
    by_cases hlt : p < s.size
    · have i1 : (p : Int) < (s.size : Int) := by omega
      by_cases hb : s[p] = 0
      · have HB0 := Lib.hid hb
        have hbn : (s[p].toNat : Int) = 0 := by rw [hb]; rfl
        have hbq : ((s[p].toNat : Int) != 0) = false := by rw [bne_eq_false_iff_eq]; exact hbn
        clear hb hbn
        by_cases h2 : p + 1 < s.size
        · have j0 : (0 : Int) ≤ (p : Int) + 1 := by omega
          have j1 : (p : Int) + 1 < (s.size : Int) := by omega
          have jq : ((p : Int) + 1 == (s.size : Int)) = false := by rw [beq_eq_false_iff_ne]; omega
          have jg : decide ((s.size : Int) ≤ (p : Int) + 1) = false := decide_eq_false (by omega)
          by_cases hc : s[p + 1] = 0
          · have HN : Hid (R = (acc, p + 2, 0)) := Lib.hid (by rw [HK.out]; exact unT_done s p acc hlt HB0.out h2 hc)
            have hcn : (s[p + 1].toNat : Int) = 0 := by rw [hc]; rfl
            have hcq : ((s[p + 1].toNat : Int) == 0) = true := by rw [hcn]; rfl
            clear hc hcn
            have hcv := HO.out.str
            rw [nums_str] at hcv
            go_wp2_with fail
            go_ret3
            exact ⟨ret_un (by rw [HN.out]) (by rw [HN.out]; show (p : Int) + 1 + 1 = ((p + 2 : Nat) : Int); omega) (by rw [HN.out]), HBR.out⟩
          · have hcn : ¬ (s[p + 1].toNat : Int) = 0 := fun h => hc (UInt8.toNat_inj.1 (by have : ((0 : UInt8).toNat) = 0 := rfl; omega))
            have hcq : ((s[p + 1].toNat : Int) == 0) = false := by rw [beq_eq_false_iff_ne]; exact hcn
            by_cases hd : s[p + 1] = 255
            · have HN : Hid (R = unT (s.data.toList.drop (p + 2)) (acc ++ [0]) (p + 2)) := Lib.hid (by rw [HK.out]; exact unT_zero s p acc hlt HB0.out h2 hd)
              have hdq : ((s[p + 1].toNat : Int) != 255) = false := by rw [bne_eq_false_iff_eq, hd]; rfl
              clear hc hcn hd
              go_wp2_with (at_builtin; go_must (refine appB1 _ rfl _ _ rfl w.heap.size _ _ rfl HO.out _ rfl rfl (by have := HLEN.out; omega) HBR.out.size ?_))
              intro v1 w3 ho3 hb3 hs3
              have HO4 : Hid (OwnB w.heap.size v1 (nums (acc ++ [0])) w3) := Lib.hid (by
                have e : nums (acc ++ [0]) = nums acc ++ [0] := by unfold nums; rw [List.map_append]; rfl
                rw [e]; exact ho3)
              have HB3 := Lib.hid (HBR.out.trans hb3)
              clear ho3 hb3
              go_wp2_with fail
              go_roundw
              case rel => exact ⟨p + 2, acc ++ [0], by omega, by omega, by simp; omega, by go_num, HN, HO4, HB3.out⟩
              case measure => simp [intOf]; omega
            · have HN : Hid (R = ([], 0, 5)) := Lib.hid (by rw [HK.out]; exact unT_form s p acc hlt HB0.out h2 hc hd)
              have hdn : ¬ (s[p + 1].toNat : Int) = 255 := fun h => hd (UInt8.toNat_inj.1 (by have : ((255 : UInt8).toNat) = 255 := rfl; omega))
              have hdq : ((s[p + 1].toNat : Int) != 255) = true := by rw [bne_iff_ne]; exact hdn
              clear hc hcn hd hdn
              go_wp2_with fail
              go_ret3
              exact ⟨ret_un (by rw [HN.out]) (by rw [HN.out]; rfl) (by rw [HN.out]), HBR.out⟩
        · have jq : ((p : Int) + 1 == (s.size : Int)) = true := by rw [beq_iff_eq]; omega
          have jg : decide ((s.size : Int) ≤ (p : Int) + 1) = true := decide_eq_true (by omega)
          have HN : Hid (R = ([], 0, 4)) := Lib.hid (by rw [HK.out]; exact unT_short s p acc hlt HB0.out (by omega))
          go_wp2_with fail
          go_ret3
          exact ⟨ret_un (by rw [HN.out]) (by rw [HN.out]; rfl) (by rw [HN.out]), HBR.out⟩
      · have hbn : ¬ (s[p].toNat : Int) = 0 := fun h => hb (UInt8.toNat_inj.1 (by have : ((0 : UInt8).toNat) = 0 := rfl; omega))
        have hbq : ((s[p].toNat : Int) != 0) = true := by rw [bne_iff_ne]; exact hbn
        have HN : Hid (R = unT (s.data.toList.drop (p + 1)) (acc ++ [s[p]]) (p + 1)) := Lib.hid (by rw [HK.out]; exact unT_byte s p acc hlt hb)
        clear hb hbn
        go_wp2_with (at_builtin; go_must (refine appB1 _ rfl _ _ rfl w.heap.size _ _ rfl HO.out _ rfl rfl (by have := HLEN.out; omega) HBR.out.size ?_))
        intro v1 w3 ho3 hb3 hs3
        have HO4 : Hid (OwnB w.heap.size v1 (nums (acc ++ [s[p]])) w3) := Lib.hid (by
          have e : nums (acc ++ [s[p]]) = nums acc ++ [(s[p].toNat : Int)] := by unfold nums; rw [List.map_append]; rfl
          rw [e]; exact ho3)
        have HB3 := Lib.hid (HBR.out.trans hb3)
        clear ho3 hb3
        go_wp2_with fail
        go_roundw
        case rel => exact ⟨p + 1, acc ++ [s[p]], by omega, by omega, by simp; omega, by go_num, HN, HO4, HB3.out⟩
        case measure => simp [intOf]; omega
    · have HN : Hid (R = ([], 0, 4)) := Lib.hid (by rw [HK.out]; exact unT_end s p acc (by omega))
      go_wp2_with fail
      go_ret3
      exact ⟨ret_un (by rw [HN.out]) (by rw [HN.out]; rfl) (by rw [HN.out]), HBR.out⟩

set_option maxRecDepth 8000 in
set_option maxHeartbeats 4000000 in
theorem runtext_ok (s : ByteArray) (h1 : 1 ≤ s.size) (hs : s.size ≤ 140737488351232) (w : World) :
    Calls Tryd.prog 59 #[.string s] w fun e w' => e = .returned (.tuple #[.string ⟨(unT (s.data.toList.drop 1) [] 1).1.toArray⟩, .int .i64 ((unT (s.data.toList.drop 1) [] 1).2.1 : Nat), .int .i64 (unT (s.data.toList.drop 1) [] 1).2.2]) ∧ Below w.heap.size w w' := by
  obtain ⟨R, HR⟩ : ∃ R, Hid (R = unT (s.data.toList.drop 1) [] 1) := ⟨_, Lib.hid rfl⟩
  rw [← HR.out]
  go_enter Tryd.func59, Tryd.ntmps59
  go_wp2_with fail
  go_loopw [5, 6] (fun v i wr => ∃ (p : Nat) (acc : List UInt8), 1 ≤ p ∧ p ≤ s.size ∧ acc.length ≤ p ∧ i = .int .i64 p ∧ Hid (R = unT (s.data.toList.drop p) acc p) ∧ Hid (OwnB w.heap.size v (nums acc) wr) ∧ Below w.heap.size w wr) (fun _ i _ => s.size - (intOf i).toNat)
  case atStart => exact ⟨1, [], Nat.le_refl _, h1, Nat.zero_le _, rfl, HR, OwnB.nil _ _, Below.refl _ _⟩
  case round =>
    obtain ⟨p, acc, hp1, hps, hacc, rfl, HK, HO, hbr⟩ := hrel
    have HBR := Lib.hid hbr
    clear hbr
    have HLEN : Hid ((nums acc).length ≤ p) := Lib.hid (by unfold nums; rw [List.length_map]; exact hacc)
    have i0 : (0 : Int) ≤ (p : Int) := by omega
    by_cases hlt : p < s.size
    · have i1 : (p : Int) < (s.size : Int) := by omega
      by_cases hb : s[p] = 0
      · have HB0 := Lib.hid hb
        have hbn : (s[p].toNat : Int) = 0 := by rw [hb]; rfl
        have hbq : ((s[p].toNat : Int) != 0) = false := by rw [bne_eq_false_iff_eq]; exact hbn
        clear hb hbn
        by_cases h2 : p + 1 < s.size
        · have j0 : (0 : Int) ≤ (p : Int) + 1 := by omega
          have j1 : (p : Int) + 1 < (s.size : Int) := by omega
          have jq : ((p : Int) + 1 == (s.size : Int)) = false := by rw [beq_eq_false_iff_ne]; omega
          have jg : decide ((s.size : Int) ≤ (p : Int) + 1) = false := decide_eq_false (by omega)
          by_cases hc : s[p + 1] = 0
          · have HN : Hid (R = (acc, p + 2, 0)) := Lib.hid (by rw [HK.out]; exact unT_done s p acc hlt HB0.out h2 hc)
            have hcn : (s[p + 1].toNat : Int) = 0 := by rw [hc]; rfl
            have hcq : ((s[p + 1].toNat : Int) == 0) = true := by rw [hcn]; rfl
            clear hc hcn
            have hcv := HO.out.str
            rw [nums_str] at hcv
            go_wp2_with fail
            go_ret3
            exact ⟨ret_un (by rw [HN.out]) (by rw [HN.out]; rfl) (by rw [HN.out]), HBR.out⟩
          · have hcn : ¬ (s[p + 1].toNat : Int) = 0 := fun h => hc (UInt8.toNat_inj.1 (by have : ((0 : UInt8).toNat) = 0 := rfl; omega))
            have hcq : ((s[p + 1].toNat : Int) == 0) = false := by rw [beq_eq_false_iff_ne]; exact hcn
            by_cases hd : s[p + 1] = 255
            · have HN : Hid (R = unT (s.data.toList.drop (p + 2)) (acc ++ [0]) (p + 2)) := Lib.hid (by rw [HK.out]; exact unT_zero s p acc hlt HB0.out h2 hd)
              have hdq : ((s[p + 1].toNat : Int) != 255) = false := by rw [bne_eq_false_iff_eq, hd]; rfl
              clear hc hcn hd
              go_wp2_with (at_builtin; go_must (refine appB1 _ rfl _ _ rfl w.heap.size _ _ rfl HO.out _ rfl rfl (by have := HLEN.out; omega) HBR.out.size ?_))
              intro v1 w3 ho3 hb3 hs3
              have HO4 : Hid (OwnB w.heap.size v1 (nums (acc ++ [0])) w3) := Lib.hid (by
                have e : nums (acc ++ [0]) = nums acc ++ [0] := by unfold nums; rw [List.map_append]; rfl
                rw [e]; exact ho3)
              have HB3 := Lib.hid (HBR.out.trans hb3)
              clear ho3 hb3
              go_wp2_with fail
              go_roundw
              case rel => exact ⟨p + 2, acc ++ [0], by omega, by omega, by simp; omega, by go_num, HN, HO4, HB3.out⟩
              case measure => simp [intOf]; omega
            · have HN : Hid (R = ([], 0, 5)) := Lib.hid (by rw [HK.out]; exact unT_form s p acc hlt HB0.out h2 hc hd)
              have hdn : ¬ (s[p + 1].toNat : Int) = 255 := fun h => hd (UInt8.toNat_inj.1 (by have : ((255 : UInt8).toNat) = 255 := rfl; omega))
              have hdq : ((s[p + 1].toNat : Int) != 255) = true := by rw [bne_iff_ne]; exact hdn
              clear hc hcn hd hdn
              go_wp2_with fail
              go_ret3
              exact ⟨ret_un (by rw [HN.out]) (by rw [HN.out]; rfl) (by rw [HN.out]), HBR.out⟩
        · have jq : ((p : Int) + 1 == (s.size : Int)) = true := by rw [beq_iff_eq]; omega
          have jg : decide ((s.size : Int) ≤ (p : Int) + 1) = true := decide_eq_true (by omega)
          have HN : Hid (R = ([], 0, 4)) := Lib.hid (by rw [HK.out]; exact unT_short s p acc hlt HB0.out (by omega))
          go_wp2_with fail
          go_ret3
          exact ⟨ret_un (by rw [HN.out]) (by rw [HN.out]; rfl) (by rw [HN.out]), HBR.out⟩
      · have hbn : ¬ (s[p].toNat : Int) = 0 := fun h => hb (UInt8.toNat_inj.1 (by have : ((0 : UInt8).toNat) = 0 := rfl; omega))
        have hbq : ((s[p].toNat : Int) != 0) = true := by rw [bne_iff_ne]; exact hbn
        have HN : Hid (R = unT (s.data.toList.drop (p + 1)) (acc ++ [s[p]]) (p + 1)) := Lib.hid (by rw [HK.out]; exact unT_byte s p acc hlt hb)
        clear hb hbn
        go_wp2_with (at_builtin; go_must (refine appB1 _ rfl _ _ rfl w.heap.size _ _ rfl HO.out _ rfl rfl (by have := HLEN.out; omega) HBR.out.size ?_))
        intro v1 w3 ho3 hb3 hs3
        have HO4 : Hid (OwnB w.heap.size v1 (nums (acc ++ [s[p]])) w3) := Lib.hid (by
          have e : nums (acc ++ [s[p]]) = nums acc ++ [(s[p].toNat : Int)] := by unfold nums; rw [List.map_append]; rfl
          rw [e]; exact ho3)
        have HB3 := Lib.hid (HBR.out.trans hb3)
        clear ho3 hb3
        go_wp2_with fail
        go_roundw
        case rel => exact ⟨p + 1, acc ++ [s[p]], by omega, by omega, by simp; omega, by go_num, HN, HO4, HB3.out⟩
        case measure => simp [intOf]; omega
    · have HN : Hid (R = ([], 0, 4)) := Lib.hid (by rw [HK.out]; exact unT_end s p acc (by omega))
      go_wp2_with fail
      go_ret3
      exact ⟨ret_un (by rw [HN.out]) (by rw [HN.out]; rfl) (by rw [HN.out]), HBR.out⟩
end Go.Proofs.YtlgpoapedgodoaaDoor

/- varint.TakeFixed at eight bytes. -/
namespace Go.Proofs.YtlgpoapedgodoaaDoor
open Go.RowKit
set_option linter.unusedVariables false

theorem or_at (k : Nat) (a x : Int) (m : Int) (hm : m = 2 ^ k) (hk : k ≤ 56) (ha : 0 ≤ a ∧ a < m) (hx : 0 ≤ x ∧ x < 256) : bits .or .u64 a (IntKind.u64.wrap (IntKind.u64.wrap x * m)) = a + x * m := by
  have hp : (2 : Int) ^ k ≤ 72057594037927936 := by
    have : (2 : Nat) ^ k ≤ 2 ^ 56 := Nat.pow_le_pow_right (by decide) hk
    have e : ((2 ^ k : Nat) : Int) = 2 ^ k := by simp
    omega
  have hm1 : 0 < m ∧ m ≤ 72057594037927936 := by
    refine ⟨by omega, by omega⟩
  have hxm : 0 ≤ x * m ∧ x * m ≤ 255 * 72057594037927936 := by
    refine ⟨Int.mul_nonneg hx.1 (by omega), ?_⟩
    exact Int.mul_le_mul (by omega) hm1.2 (by omega) (by omega)
  rw [wrap_u, wrap_u, Int.emod_eq_of_lt hx.1 (by omega), Int.emod_eq_of_lt hxm.1 (by omega)]
  obtain ⟨n, rfl⟩ : ∃ n : Nat, a = n := ⟨a.toNat, by omega⟩
  obtain ⟨y, rfl⟩ : ∃ y : Nat, x = y := ⟨x.toNat, by omega⟩
  have e : (y : Int) * m = ((y * 2 ^ k : Nat) : Int) := by rw [hm]; simp
  have hn : n < 2 ^ k := by
    have e2 : ((2 ^ k : Nat) : Int) = 2 ^ k := by simp
    omega
  have hlt : y * 2 ^ k < 18446744073709551616 := by omega
  rw [e]
  have h := bits_or_u64_nat n (y * 2 ^ k) (by omega) hlt
  have h2 := Nat.two_pow_add_eq_or_of_lt (i := k) (b := n) hn y
  rw [show n ||| y * 2 ^ k = n + y * 2 ^ k by rw [Nat.or_comm, Nat.mul_comm y, ← h2, Nat.add_comm]] at h
  rw [h]
  simp

theorem take_bits (x0 x1 x2 x3 x4 x5 x6 x7 : Int) (h0 : 0 ≤ x0 ∧ x0 < 256) (h1 : 0 ≤ x1 ∧ x1 < 256) (h2 : 0 ≤ x2 ∧ x2 < 256) (h3 : 0 ≤ x3 ∧ x3 < 256) (h4 : 0 ≤ x4 ∧ x4 < 256) (h5 : 0 ≤ x5 ∧ x5 < 256) (h6 : 0 ≤ x6 ∧ x6 < 256) (h7 : 0 ≤ x7 ∧ x7 < 256) :
    (bits .or .u64 (bits .or .u64 (bits .or .u64 (bits .or .u64 (bits .or .u64 (bits .or .u64 (bits .or .u64 (bits .or .u64 (0 : Int) (IntKind.u64.wrap (IntKind.u64.wrap x0))) (IntKind.u64.wrap (IntKind.u64.wrap x1 * 256))) (IntKind.u64.wrap (IntKind.u64.wrap x2 * 65536))) (IntKind.u64.wrap (IntKind.u64.wrap x3 * 16777216))) (IntKind.u64.wrap (IntKind.u64.wrap x4 * 4294967296))) (IntKind.u64.wrap (IntKind.u64.wrap x5 * 1099511627776))) (IntKind.u64.wrap (IntKind.u64.wrap x6 * 281474976710656))) (IntKind.u64.wrap (IntKind.u64.wrap x7 * 72057594037927936))) = x0 + x1 * 256 + x2 * 65536 + x3 * 16777216 + x4 * 4294967296 + x5 * 1099511627776 + x6 * 281474976710656 + x7 * 72057594037927936 := by
  have e0 : bits .or .u64 (0 : Int) (IntKind.u64.wrap (IntKind.u64.wrap x0)) = x0 := by
    have := or_at 0 0 x0 1 (by decide) (by decide) ⟨by decide, by decide⟩ h0
    simpa using this
  rw [e0]
  rw [or_at 8 _ x1 256 (by decide) (by decide) ⟨by omega, by omega⟩ h1]
  rw [or_at 16 _ x2 65536 (by decide) (by decide) ⟨by omega, by omega⟩ h2]
  rw [or_at 24 _ x3 16777216 (by decide) (by decide) ⟨by omega, by omega⟩ h3]
  rw [or_at 32 _ x4 4294967296 (by decide) (by decide) ⟨by omega, by omega⟩ h4]
  rw [or_at 40 _ x5 1099511627776 (by decide) (by decide) ⟨by omega, by omega⟩ h5]
  rw [or_at 48 _ x6 281474976710656 (by decide) (by decide) ⟨by omega, by omega⟩ h6]
  rw [or_at 56 _ x7 72057594037927936 (by decide) (by decide) ⟨by omega, by omega⟩ h7]

/-- The number of eight bytes, the least one first. -/
def takeZ (s : ByteArray) : Int := ((s.get! 0).toNat : Int) + ((s.get! 1).toNat : Int) * 256 + ((s.get! 2).toNat : Int) * 65536 + ((s.get! 3).toNat : Int) * 16777216 + ((s.get! 4).toNat : Int) * 4294967296 + ((s.get! 5).toNat : Int) * 1099511627776 + ((s.get! 6).toNat : Int) * 281474976710656 + ((s.get! 7).toNat : Int) * 72057594037927936

set_option maxRecDepth 8000 in
set_option maxHeartbeats 4000000 in
theorem take_ok (s : ByteArray) (hs : s.size = 8) (w : World) :
    Calls Tryd.prog 80 #[.string s] w fun e w' => e = .returned (.tuple #[.int .u64 (takeZ s), .int .i64 0]) ∧ w' = w := by
  obtain ⟨R, HR⟩ : ∃ R, Hid (R = takeZ s) := ⟨_, Lib.hid rfl⟩
  rw [← HR.out]
  have HR2 : Hid (R = (bits .or .u64 (bits .or .u64 (bits .or .u64 (bits .or .u64 (bits .or .u64 (bits .or .u64 (bits .or .u64 (bits .or .u64 (0 : Int) (IntKind.u64.wrap (IntKind.u64.wrap (s[0].toNat : Int)))) (IntKind.u64.wrap (IntKind.u64.wrap (s[1].toNat : Int) * 256))) (IntKind.u64.wrap (IntKind.u64.wrap (s[2].toNat : Int) * 65536))) (IntKind.u64.wrap (IntKind.u64.wrap (s[3].toNat : Int) * 16777216))) (IntKind.u64.wrap (IntKind.u64.wrap (s[4].toNat : Int) * 4294967296))) (IntKind.u64.wrap (IntKind.u64.wrap (s[5].toNat : Int) * 1099511627776))) (IntKind.u64.wrap (IntKind.u64.wrap (s[6].toNat : Int) * 281474976710656))) (IntKind.u64.wrap (IntKind.u64.wrap (s[7].toNat : Int) * 72057594037927936)))) := Lib.hid (by
    have b : ∀ (i : Nat) (h : i < s.size), 0 ≤ ((s[i]'h).toNat : Int) ∧ ((s[i]'h).toNat : Int) < 256 := fun i h => by
      have := UInt8.toNat_lt (s[i]'h)
      omega
    have g : ∀ (i : Nat) (h : i < s.size), ((s.get! i).toNat : Int) = ((s[i]'h).toNat : Int) := fun i h => by
      have e := get_at s i h
      rw [Nat.add_zero] at e
      rw [e]
    rw [take_bits _ _ _ _ _ _ _ _ (b 0 _) (b 1 _) (b 2 _) (b 3 _) (b 4 _) (b 5 _) (b 6 _) (b 7 _), HR.out]
    unfold takeZ
    rw [g 0 (by omega), g 1 (by omega), g 2 (by omega), g 3 (by omega), g 4 (by omega), g 5 (by omega), g 6 (by omega), g 7 (by omega)])
  go_enter Tryd.func80, Tryd.ntmps80
  go_wp2_with fail
  refine wp_loop_rounds 9 ?_
  rw [rounds_succ]
  go_wp2_with fail
  rw [rounds_succ]
  go_wp2_with fail
  rw [rounds_succ]
  go_wp2_with fail
  rw [rounds_succ]
  go_wp2_with fail
  rw [rounds_succ]
  go_wp2_with fail
  rw [rounds_succ]
  go_wp2_with fail
  rw [rounds_succ]
  go_wp2_with fail
  rw [rounds_succ]
  go_wp2_with fail
  rw [rounds_succ]
  go_wp2_with fail
  go_ret2
  exact ⟨by rw [HR2.out]; rfl, rfl⟩
end Go.Proofs.YtlgpoapedgodoaaDoor

/- back and unrank: a number out of its key. -/
namespace Go.Proofs.YtlgpoapedgodoaaDoor
open Go.RowKit
set_option linter.unusedVariables false

/-- The bits for a number of a key. -/
def unrankK (k u : Int) : Int := if k = 2 ∨ k = 3 then flipZ u else if k = 6 then (if u < 9223372036854775808 then 18446744073709551615 - u else u - 9223372036854775808) else u

set_option maxRecDepth 4000 in
set_option maxHeartbeats 1000000 in
theorem back_ok (k u : Int) (hu : word u) (w : World) :
    Calls Tryd.prog 81 #[.int .i64 k, .int .u64 u] w fun e w' => e = .returned (.int .u64 (unrankK k u)) ∧ w' = w := by
  obtain ⟨R, HR⟩ : ∃ R, Hid (R = unrankK k u) := ⟨_, Lib.hid rfl⟩
  rw [← HR.out]
  have ht := u_top u hu.1 hu.2
  have hx := u_xor u hu
  have HN := Lib.hid (u_not u hu.1 hu.2)
  have HU := Lib.hid hu
  obtain ⟨F, HF⟩ : ∃ F, Hid (F = flipZ u) := ⟨_, Lib.hid rfl⟩
  rw [← HF.out] at hx
  clear hu
  by_cases h2 : k = 2
  · have HR2 : Hid (R = F) := Lib.hid (by rw [HR.out, HF.out]; unfold unrankK; simp [h2])
    subst h2
    clear ht
    go_enter Tryd.func81, Tryd.ntmps81
    go_wp2_with fail
    go_ret
    exact ⟨by rw [HR2.out]; rfl, rfl⟩
  by_cases h3 : k = 3
  · have HR2 : Hid (R = F) := Lib.hid (by rw [HR.out, HF.out]; unfold unrankK; simp [h3])
    subst h3
    clear ht h2
    go_enter Tryd.func81, Tryd.ntmps81
    go_wp2_with fail
    go_ret
    exact ⟨by rw [HR2.out]; rfl, rfl⟩
  by_cases h6 : k = 6
  · subst h6
    clear h2 h3
    by_cases hlt : u < 9223372036854775808
    · have e0 : u / 9223372036854775808 * 9223372036854775808 = 0 := by have := HU.out.1; omega
      rw [e0] at ht
      have HR2 : Hid (R = 18446744073709551615 - u) := Lib.hid (by rw [HR.out]; unfold unrankK; simp [hlt])
      clear e0 hlt
      go_enter Tryd.func81, Tryd.ntmps81
      go_wp2_with fail
      go_ret
      refine ⟨?_, rfl⟩
      rw [HR2.out, ← HN.out]
      rfl
    · have e0 : u / 9223372036854775808 * 9223372036854775808 = 9223372036854775808 := by have := HU.out.1; have := HU.out.2; omega
      rw [e0] at ht
      have HR2 : Hid (R = F) := Lib.hid (by rw [HR.out, HF.out]; unfold unrankK flipZ; simp [hlt])
      clear e0 hlt
      go_enter Tryd.func81, Tryd.ntmps81
      go_wp2_with fail
      go_ret
      exact ⟨by rw [HR2.out]; rfl, rfl⟩
  · have HR2 : Hid (R = u) := Lib.hid (by rw [HR.out]; unfold unrankK; simp [h2, h3, h6])
    have b2 : (k == 2) = false := by simp [h2]
    have b3 : (k == 3) = false := by simp [h3]
    have b6 : (k == 6) = false := by simp [h6]
    clear h2 h3 h6 ht hx
    go_enter Tryd.func81, Tryd.ntmps81
    go_wp2_with fail
    go_ret
    exact ⟨ret_int HR2.out.symm, rfl⟩

set_option maxRecDepth 4000 in
set_option maxHeartbeats 1000000 in
theorem unrank_ok (k u : Int) (hu : word u) (w : World) :
    Calls Tryd.prog 60 #[.int .i64 k, .int .u64 u] w fun e w' => e = .returned (.int .u64 (unrankK k u)) ∧ w' = w := by
  obtain ⟨R, HR⟩ : ∃ R, Hid (R = unrankK k u) := ⟨_, Lib.hid rfl⟩
  rw [← HR.out]
  obtain ⟨u0, u1⟩ := hu
  by_cases h2 : k = 2
  · have HR2 : Hid (R = IntKind.u64.wrap (u + 9223372036854775808)) := Lib.hid (by rw [HR.out, wrap_u]; unfold unrankK flipZ; rw [if_pos (.inl h2)]; split <;> omega)
    subst h2
    go_enter Tryd.func60, Tryd.ntmps60
    go_wp2_with fail
    go_ret
    exact ⟨by rw [HR2.out]; rfl, rfl⟩
  by_cases h3 : k = 3
  · have HR2 : Hid (R = IntKind.u64.wrap (u + 9223372036854775808)) := Lib.hid (by rw [HR.out, wrap_u]; unfold unrankK flipZ; rw [if_pos (.inr h3)]; split <;> omega)
    subst h3
    clear h2
    go_enter Tryd.func60, Tryd.ntmps60
    go_wp2_with fail
    go_ret
    exact ⟨by rw [HR2.out]; rfl, rfl⟩
  by_cases h6 : k = 6
  · subst h6
    clear h2 h3
    by_cases hlt : u < 9223372036854775808
    · have HR2 : Hid (R = 18446744073709551615 - u) := Lib.hid (by rw [HR.out]; unfold unrankK; simp [hlt])
      have hd : decide (9223372036854775808 ≤ u) = false := decide_eq_false (by omega)
      go_enter Tryd.func60, Tryd.ntmps60
      go_wp2_with fail
      go_ret
      exact ⟨by rw [HR2.out]; rfl, rfl⟩
    · have HR2 : Hid (R = IntKind.u64.wrap (u + 9223372036854775808)) := Lib.hid (by rw [HR.out, wrap_u]; unfold unrankK; rw [if_neg (by omega), if_pos rfl, if_neg hlt]; omega)
      have hd : decide (9223372036854775808 ≤ u) = true := decide_eq_true (by omega)
      go_enter Tryd.func60, Tryd.ntmps60
      go_wp2_with fail
      go_ret
      exact ⟨by rw [HR2.out]; rfl, rfl⟩
  · have HR2 : Hid (R = u) := Lib.hid (by rw [HR.out]; unfold unrankK; simp [h2, h3, h6])
    have b2 : (k == 2) = false := by simp [h2]
    have b3 : (k == 3) = false := by simp [h3]
    have b6 : (k == 6) = false := by simp [h6]
    clear h2 h3 h6
    go_enter Tryd.func60, Tryd.ntmps60
    go_wp2_with fail
    go_ret
    exact ⟨ret_int HR2.out.symm, rfl⟩
end Go.Proofs.YtlgpoapedgodoaaDoor

/- order.unnumber. -/
namespace Go.Proofs.YtlgpoapedgodoaaDoor
open Go.RowKit
set_option linter.unusedVariables false

theorem takeZ_word (s : ByteArray) : word (takeZ s) := by
  have b : ∀ i : Nat, 0 ≤ ((s.get! i).toNat : Int) ∧ ((s.get! i).toNat : Int) < 256 := fun i => by
    have := UInt8.toNat_lt (s.get! i)
    omega
  have b0 := b 0; have b1 := b 1; have b2 := b 2; have b3 := b 3; have b4 := b 4; have b5 := b 5; have b6 := b 6; have b7 := b 7
  unfold word takeZ
  omega

/-- The number in the bytes 1 to 8 of a key. -/
def beZ (s : ByteArray) : Int := takeZ (revB (s.extract 1 9))

theorem ret_unn {n m x y z u : Int} (h1 : n = m) (h2 : x = y) (h3 : z = u) : Ending.returned (.tuple #[.int .u64 n, .int .i64 x, .int .i64 z]) = .returned (.tuple #[.int .u64 m, .int .i64 y, .int .i64 u]) := by rw [h1, h2, h3]

set_option maxRecDepth 8000 in
set_option maxHeartbeats 4000000 in
theorem unnum_short (s : ByteArray) (h : decide ((s.size : Int) < 9) = true) (w : World) :
    Calls Tryd.prog 56 #[.string s] w fun e w' => e = .returned (.tuple #[.int .u64 0, .int .i64 0, .int .i64 4]) ∧ Below w.heap.size w w' := by
  go_enter Tryd.func56, Tryd.ntmps56
  go_wp2_with fail
  go_ret3
  exact ⟨rfl, Below.refl _ _⟩

set_option maxRecDepth 8000 in
set_option maxHeartbeats 4000000 in
theorem unnum_ok (s : ByteArray) (h9 : 9 ≤ s.size) (w : World) :
    Calls Tryd.prog 56 #[.string s] w fun e w' => e = .returned (.tuple #[.int .u64 (unrankK ((s.get! 0).toNat : Int) (beZ s)), .int .i64 9, .int .i64 0]) ∧ Below w.heap.size w w' := by
  have hd : decide ((s.size : Int) < 9) = false := decide_eq_false (by omega)
  have i0 : (0 : Int) < (s.size : Int) := by omega
  have i9 : (9 : Int) ≤ (s.size : Int) := by omega
  have G0 := Lib.hid (get_fin s 0 (by omega))
  obtain ⟨T, HT⟩ : ∃ T, Hid (T = s.extract 1 9) := ⟨_, Lib.hid rfl⟩
  have hTS : T.size = 8 := by rw [HT.out, ByteArray.size_extract]; omega
  obtain ⟨cap, w5, hrun, hcap, hcell, hfr, hb5, hsz⟩ := conv_s w T
  rw [hTS] at hrun hcap hcell hfr
  rw [HT.out] at hrun
  have HB5 := Lib.hid hb5
  have HC := Lib.hid hcell
  have HF := Lib.hid hfr
  have HTS := Lib.hid hTS
  clear hcell hfr hb5 hsz hTS
  obtain ⟨U, HU⟩ : ∃ U, Hid (U = takeZ (revB T)) := ⟨_, Lib.hid rfl⟩
  have HW : Hid (word U) := Lib.hid (by rw [HU.out]; exact takeZ_word _)
  go_enter Tryd.func56, Tryd.ntmps56
  go_wp2_with fail
  clear hrun
  refine (rev8_ok _ _ _ _ _ _ _ _ w.heap.size cap w5 hcap (HC.out 0 (by decide)) (HC.out 1 (by decide)) (HC.out 2 (by decide)) (HC.out 3 (by decide)) (HC.out 4 (by decide)) (HC.out 5 (by decide)) (HC.out 6 (by decide)) (HC.out 7 (by decide))
    (HF.out 0 (by decide)) (HF.out 1 (by decide)) (HF.out 2 (by decide)) (HF.out 3 (by decide)) (HF.out 4 (by decide)) (HF.out 5 (by decide)) (HF.out 6 (by decide)) (HF.out 7 (by decide))).mono ?_
  rintro e w6 ⟨rfl, hc6, hb6⟩
  have HB6 : Hid (Below w.heap.size w w6) := Lib.hid (HB5.out.trans hb6)
  have hcv := run_convert_bytes_arg (P := Tryd.prog) w6 51 5 Tryd.underlying51 Tryd.underlying5 w.heap.size 0 8 cap _ rfl hc6 9 Tryd.underlying9
  rw [revB8 T HTS.out] at hcv
  clear hc6 hb6 hcap
  go_wp2_with fail
  refine calls_same (take_ok (revB T) ((revB_size T).trans HTS.out) _) ?_
  rw [← HU.out]
  go_wp2_with fail
  refine calls_same (back_ok _ U HW.out _) ?_
  go_wp2_with fail
  go_ret3
  refine ⟨ret_unn ?_ rfl rfl, HB6.out⟩
  have hwb : wrap64 ((s[0]'(by omega)).toNat : Int) = ((s[0]'(by omega)).toNat : Int) := by
    have := UInt8.toNat_lt (s[0]'(by omega))
    simp only [wrap64]; omega
  rw [HU.out, HT.out, G0.out, hwb]
  rfl
end Go.Proofs.YtlgpoapedgodoaaDoor

/- order.Unkey, way by way. -/
namespace Go.Proofs.YtlgpoapedgodoaaDoor
open Go.RowKit
set_option linter.unusedVariables false

/-- What Unkey hands back. -/
def unkV (k z : Int) (t : ByteArray) (n e : Int) : Value := .tuple #[.agg #[.int .i64 k, .int .u64 z, .string t, .slice none 0 0, .slice none 0 0, .slice none 0 0, .slice none 0 0], .int .i64 n, .int .i64 e]

set_option maxRecDepth 8000 in
set_option maxHeartbeats 4000000 in
theorem unk_empty (w : World) :
    Calls Tryd.prog 18 #[.string ⟨#[]⟩] w fun e w' => e = .returned (unkV 0 0 ⟨#[]⟩ 0 4) ∧ Below w.heap.size w w' := by
  go_enter Tryd.func18, Tryd.ntmps18
  go_wp2_with fail
  exact bodyPost_ret (v := unkV 0 0 ⟨#[]⟩ 0 4) (by simp [results, Tryd.results18, go_sem, unkV]) rfl ⟨rfl, by go_grown⟩

set_option maxRecDepth 8000 in
set_option maxHeartbeats 4000000 in
theorem unk_kind (s : ByteArray) (h : 0 < s.size) (w : World) (hk : decide (1 ≤ ((s[0]'h).toNat : Int) ∧ ((s[0]'h).toNat : Int) ≤ 9) = false) (ht : s.toList.isEmpty = false) :
    Calls Tryd.prog 18 #[.string s] w fun e w' => e = .returned (unkV 0 0 ⟨#[]⟩ 0 5) ∧ Below w.heap.size w w' := by
  have i0 : (0 : Int) < (s.size : Int) := by omega
  have hwb : wrap64 ((s[0]'h).toNat : Int) = ((s[0]'h).toNat : Int) := by
    have := UInt8.toNat_lt (s[0]'h)
    simp only [wrap64]; omega
  have KI : Hid (∀ w : World, Calls Tryd.prog 45 #[.int .i64 ((s[0]'h).toNat : Int)] w fun e w' => e = .returned (.bool false) ∧ w' = w) := by
    intro w; rw [← hk]; exact is_ok _ w
  clear hk
  go_enter Tryd.func18, Tryd.ntmps18
  go_wp2_with fail
  refine calls_same (KI.out _) ?_
  go_wp2_with fail
  exact bodyPost_ret (v := unkV 0 0 ⟨#[]⟩ 0 5) (by simp [results, Tryd.results18, go_sem, unkV]) rfl ⟨rfl, by go_grown⟩
end Go.Proofs.YtlgpoapedgodoaaDoor

/- order.Unkey at texts. -/
namespace Go.Proofs.YtlgpoapedgodoaaDoor
open Go.RowKit
set_option linter.unusedVariables false

set_option maxRecDepth 8000 in
set_option maxHeartbeats 4000000 in
theorem unk_err7 (s : ByteArray) (h : 0 < s.size) (w : World) (hk : ((s[0]'h).toNat : Int) = 7) (ht : s.toList.isEmpty = false) (KI : Hid (∀ w : World, Calls Tryd.prog 45 #[.int .i64 7] w fun e w' => e = .returned (.bool true) ∧ w' = w)) (T : ByteArray) (N E : Int) (KU : Hid (∀ w : World, Calls Tryd.prog 55 #[.string s] w fun e w' => e = .returned (.tuple #[.string T, .int .i64 N, .int .i64 E]) ∧ Below w.heap.size w w')) (hE : (E != 0) = true) :
    Calls Tryd.prog 18 #[.string s] w fun e w' => e = .returned (unkV 0 0 ⟨#[]⟩ 0 E) ∧ Below w.heap.size w w' := by
  have i0 : (0 : Int) < (s.size : Int) := by omega
  go_enter Tryd.func18, Tryd.ntmps18
  go_wp2_with fail
  refine calls_box2 ?_
  intro W hA hB hb
  have HB := Lib.hid hb
  have HA := Lib.hid hA
  have HV := Lib.hid hB
  clear hA hB hb
  refine calls_same (KI.out _) ?_
  obtain ⟨v0, v1, v2, v3, v4, v5, v6⟩ := cells7 HV.out
  obtain ⟨r0, r1, r2, r3, r4, r5, r6⟩ := cells7 HA.out
  go_wp2_with fail
  clear v0 v1 v2 v3 v4 v5 v6 r0 r1 r2 r3 r4 r5 r6
  refine calls_on (KU.out _) ?_
  intro w2 hb2
  have HB2 := Lib.hid (above HB.out hb2)
  have HA2 := Lib.hid (blk_keep hb2 HA.out)
  have HV2 := Lib.hid (blk_keep hb2 HV.out)
  have hs2 := blk_lt HV2.out
  clear hb2
  obtain ⟨v0, v1, v2, v3, v4, v5, v6⟩ := cells7 HV2.out
  obtain ⟨r0, r1, r2, r3, r4, r5, r6⟩ := cells7 HA2.out
  have vf0 := blk_free HV2.out 0
  have rf0 := blk_free HA2.out 0
  have vf1 := blk_free HV2.out 1
  have rf1 := blk_free HA2.out 1
  have vf2 := blk_free HV2.out 2
  have rf2 := blk_free HA2.out 2
  have vf3 := blk_free HV2.out 3
  have rf3 := blk_free HA2.out 3
  have vf4 := blk_free HV2.out 4
  have rf4 := blk_free HA2.out 4
  have vf5 := blk_free HV2.out 5
  have rf5 := blk_free HA2.out 5
  have vf6 := blk_free HV2.out 6
  have rf6 := blk_free HA2.out 6
  go_wp2_with fail
  have hb2 := HB2.out
  exact bodyPost_ret (v := unkV 0 0 ⟨#[]⟩ 0 E) (by simp [results, Tryd.results18, go_sem, unkV, *]) rfl ⟨rfl, by go_grown⟩

set_option maxRecDepth 8000 in
set_option maxHeartbeats 4000000 in
theorem unk_bad7 (s : ByteArray) (h : 0 < s.size) (w : World) (hk : ((s[0]'h).toNat : Int) = 7) (ht : s.toList.isEmpty = false) (KI : Hid (∀ w : World, Calls Tryd.prog 45 #[.int .i64 7] w fun e w' => e = .returned (.bool true) ∧ w' = w)) (T : ByteArray) (N E : Int) (KU : Hid (∀ w : World, Calls Tryd.prog 55 #[.string s] w fun e w' => e = .returned (.tuple #[.string T, .int .i64 N, .int .i64 E]) ∧ Below w.heap.size w w')) (hE : E = 0) (KF : Hid (∀ w : World, Calls Tryd.prog 14 #[.int .i64 7, .agg #[.int .i64 7, .int .u64 0, .string T, .slice none 0 0, .slice none 0 0, .slice none 0 0, .slice none 0 0]] w fun e w' => e = .returned (.bool false) ∧ Below w.heap.size w w')) (KN : Hid (∀ w : World, Calls Tryd.prog 57 #[.agg #[.int .i64 7, .int .u64 0, .string T, .slice none 0 0, .slice none 0 0, .slice none 0 0, .slice none 0 0]] w fun e w' => e = .returned (.agg #[.int .i64 7, .int .u64 0, .string T, .slice none 0 0, .slice none 0 0, .slice none 0 0, .slice none 0 0]) ∧ Below w.heap.size w w')) :
    Calls Tryd.prog 18 #[.string s] w fun e w' => e = .returned (unkV 0 0 ⟨#[]⟩ 0 5) ∧ Below w.heap.size w w' := by
  have i0 : (0 : Int) < (s.size : Int) := by omega
  go_enter Tryd.func18, Tryd.ntmps18
  go_wp2_with fail
  refine calls_box2 ?_
  intro W hA hB hb
  have HB := Lib.hid hb
  have HA := Lib.hid hA
  have HV := Lib.hid hB
  clear hA hB hb
  refine calls_same (KI.out _) ?_
  obtain ⟨v0, v1, v2, v3, v4, v5, v6⟩ := cells7 HV.out
  obtain ⟨r0, r1, r2, r3, r4, r5, r6⟩ := cells7 HA.out
  go_wp2_with fail
  clear v0 v1 v2 v3 v4 v5 v6 r0 r1 r2 r3 r4 r5 r6
  subst hE
  refine calls_on (KU.out _) ?_
  intro w2 hb2
  have HB2 := Lib.hid (above HB.out hb2)
  have HA2 := Lib.hid (blk_keep hb2 HA.out)
  have HV2 := Lib.hid (blk_keep hb2 HV.out)
  have hs2 := blk_lt HV2.out
  clear hb2
  obtain ⟨v0, v1, v2, v3, v4, v5, v6⟩ := cells7 HV2.out
  obtain ⟨r0, r1, r2, r3, r4, r5, r6⟩ := cells7 HA2.out
  have vf0 := blk_free HV2.out 0
  have rf0 := blk_free HA2.out 0
  have vf1 := blk_free HV2.out 1
  have rf1 := blk_free HA2.out 1
  have vf2 := blk_free HV2.out 2
  have rf2 := blk_free HA2.out 2
  have vf3 := blk_free HV2.out 3
  have rf3 := blk_free HA2.out 3
  have vf4 := blk_free HV2.out 4
  have rf4 := blk_free HA2.out 4
  have vf5 := blk_free HV2.out 5
  have rf5 := blk_free HA2.out 5
  have vf6 := blk_free HV2.out 6
  have rf6 := blk_free HA2.out 6
  go_wp2_with fail
  have HS2 : Hid (Below w.heap.size w (w2.setCell ⟨w.heap.size + 1, 2, none⟩ (.string T))) := Lib.hid (HB2.out.setCell (by simp) _)
  have HV3 : Hid ((w2.setCell ⟨w.heap.size + 1, 2, none⟩ (.string T)).heap[w.heap.size + 1]? = some (.cells #[.int .i64 7, .int .u64 0, .string T, .slice none 0 0, .slice none 0 0, .slice none 0 0, .slice none 0 0] 28 (0, 0))) := Lib.hid (blk_set HV2.out (.string T))
  have HA3 : Hid ((w2.setCell ⟨w.heap.size + 1, 2, none⟩ (.string T)).heap[w.heap.size]? = some (.cells #[.int .i64 0, .int .u64 0, .string ⟨#[]⟩, .slice none 0 0, .slice none 0 0, .slice none 0 0, .slice none 0 0] 28 (0, 0))) := Lib.hid (blk_set_ne HA2.out (by simp) _)
  clear v0 r0 vf0 rf0 v1 r1 vf1 rf1 v2 r2 vf2 rf2 v3 r3 vf3 rf3 v4 r4 vf4 rf4 v5 r5 vf5 rf5 v6 r6 vf6 rf6
  generalize w2.setCell ⟨w.heap.size + 1, 2, none⟩ (.string T) = W3 at *
  obtain ⟨a0, a1, a2, a3, a4, a5, a6⟩ := up7 HV3.out
  refine wp_region_up (by kernel_rfl) (by kernel_rfl) ?_
  repeat (go_big_quiet_step (first | (go_at_call 14; with_reducible exact calls_up (KF.out _)) | (go_at_call 57; with_reducible exact calls_up (KN.out _))))
  refine wpQuiet_nil ?_
  rintro _ ⟨s1, rfl⟩
  clear a0 a1 a2 a3 a4 a5 a6
  have HB4 := Lib.hid (above HS2.out s1.h)
  have HV4 := Lib.hid (blk_keep s1.h HV3.out)
  have HA4 := Lib.hid (blk_keep s1.h HA3.out)
  generalize s1.w = w4 at *
  obtain ⟨v0, v1, v2, v3, v4, v5, v6⟩ := cells7 HV4.out
  obtain ⟨r0, r1, r2, r3, r4, r5, r6⟩ := cells7 HA4.out
  have vf0 := blk_free HV4.out 0
  have rf0 := blk_free HA4.out 0
  have vf1 := blk_free HV4.out 1
  have rf1 := blk_free HA4.out 1
  have vf2 := blk_free HV4.out 2
  have rf2 := blk_free HA4.out 2
  have vf3 := blk_free HV4.out 3
  have rf3 := blk_free HA4.out 3
  have vf4 := blk_free HV4.out 4
  have rf4 := blk_free HA4.out 4
  have vf5 := blk_free HV4.out 5
  have rf5 := blk_free HA4.out 5
  have vf6 := blk_free HV4.out 6
  have rf6 := blk_free HA4.out 6
  go_wp2_with fail
  have hb4 := HB4.out
  exact bodyPost_ret (v := unkV 0 0 ⟨#[]⟩ 0 5) (by simp [results, Tryd.results18, go_sem, unkV, *]) rfl ⟨rfl, by go_grown⟩

set_option maxRecDepth 8000 in
set_option maxHeartbeats 4000000 in
theorem unk_txt7 (s : ByteArray) (h : 0 < s.size) (w : World) (hk : ((s[0]'h).toNat : Int) = 7) (ht : s.toList.isEmpty = false) (KI : Hid (∀ w : World, Calls Tryd.prog 45 #[.int .i64 7] w fun e w' => e = .returned (.bool true) ∧ w' = w)) (T : ByteArray) (N E : Int) (KU : Hid (∀ w : World, Calls Tryd.prog 55 #[.string s] w fun e w' => e = .returned (.tuple #[.string T, .int .i64 N, .int .i64 E]) ∧ Below w.heap.size w w')) (hE : E = 0) (KF : Hid (∀ w : World, Calls Tryd.prog 14 #[.int .i64 7, .agg #[.int .i64 7, .int .u64 0, .string T, .slice none 0 0, .slice none 0 0, .slice none 0 0, .slice none 0 0]] w fun e w' => e = .returned (.bool true) ∧ Below w.heap.size w w')) (KN : Hid (∀ w : World, Calls Tryd.prog 57 #[.agg #[.int .i64 7, .int .u64 0, .string T, .slice none 0 0, .slice none 0 0, .slice none 0 0, .slice none 0 0]] w fun e w' => e = .returned (.agg #[.int .i64 7, .int .u64 0, .string T, .slice none 0 0, .slice none 0 0, .slice none 0 0, .slice none 0 0]) ∧ Below w.heap.size w w')) :
    Calls Tryd.prog 18 #[.string s] w fun e w' => e = .returned (unkV 7 0 T N 0) ∧ Below w.heap.size w w' := by
  have i0 : (0 : Int) < (s.size : Int) := by omega
  go_enter Tryd.func18, Tryd.ntmps18
  go_wp2_with fail
  refine calls_box2 ?_
  intro W hA hB hb
  have HB := Lib.hid hb
  have HA := Lib.hid hA
  have HV := Lib.hid hB
  clear hA hB hb
  refine calls_same (KI.out _) ?_
  obtain ⟨v0, v1, v2, v3, v4, v5, v6⟩ := cells7 HV.out
  obtain ⟨r0, r1, r2, r3, r4, r5, r6⟩ := cells7 HA.out
  go_wp2_with fail
  clear v0 v1 v2 v3 v4 v5 v6 r0 r1 r2 r3 r4 r5 r6
  subst hE
  refine calls_on (KU.out _) ?_
  intro w2 hb2
  have HB2 := Lib.hid (above HB.out hb2)
  have HA2 := Lib.hid (blk_keep hb2 HA.out)
  have HV2 := Lib.hid (blk_keep hb2 HV.out)
  have hs2 := blk_lt HV2.out
  clear hb2
  obtain ⟨v0, v1, v2, v3, v4, v5, v6⟩ := cells7 HV2.out
  obtain ⟨r0, r1, r2, r3, r4, r5, r6⟩ := cells7 HA2.out
  have vf0 := blk_free HV2.out 0
  have rf0 := blk_free HA2.out 0
  have vf1 := blk_free HV2.out 1
  have rf1 := blk_free HA2.out 1
  have vf2 := blk_free HV2.out 2
  have rf2 := blk_free HA2.out 2
  have vf3 := blk_free HV2.out 3
  have rf3 := blk_free HA2.out 3
  have vf4 := blk_free HV2.out 4
  have rf4 := blk_free HA2.out 4
  have vf5 := blk_free HV2.out 5
  have rf5 := blk_free HA2.out 5
  have vf6 := blk_free HV2.out 6
  have rf6 := blk_free HA2.out 6
  go_wp2_with fail
  have HS2 : Hid (Below w.heap.size w (w2.setCell ⟨w.heap.size + 1, 2, none⟩ (.string T))) := Lib.hid (HB2.out.setCell (by simp) _)
  have HV3 : Hid ((w2.setCell ⟨w.heap.size + 1, 2, none⟩ (.string T)).heap[w.heap.size + 1]? = some (.cells #[.int .i64 7, .int .u64 0, .string T, .slice none 0 0, .slice none 0 0, .slice none 0 0, .slice none 0 0] 28 (0, 0))) := Lib.hid (blk_set HV2.out (.string T))
  have HA3 : Hid ((w2.setCell ⟨w.heap.size + 1, 2, none⟩ (.string T)).heap[w.heap.size]? = some (.cells #[.int .i64 0, .int .u64 0, .string ⟨#[]⟩, .slice none 0 0, .slice none 0 0, .slice none 0 0, .slice none 0 0] 28 (0, 0))) := Lib.hid (blk_set_ne HA2.out (by simp) _)
  clear v0 r0 vf0 rf0 v1 r1 vf1 rf1 v2 r2 vf2 rf2 v3 r3 vf3 rf3 v4 r4 vf4 rf4 v5 r5 vf5 rf5 v6 r6 vf6 rf6
  generalize w2.setCell ⟨w.heap.size + 1, 2, none⟩ (.string T) = W3 at *
  obtain ⟨a0, a1, a2, a3, a4, a5, a6⟩ := up7 HV3.out
  refine wp_region_up (by kernel_rfl) (by kernel_rfl) ?_
  repeat (go_big_quiet_step (first | (go_at_call 14; with_reducible exact calls_up (KF.out _)) | (go_at_call 57; with_reducible exact calls_up (KN.out _))))
  refine wpQuiet_nil ?_
  rintro _ ⟨s1, rfl⟩
  clear a0 a1 a2 a3 a4 a5 a6
  have HB4 := Lib.hid (above HS2.out s1.h)
  have HV4 := Lib.hid (blk_keep s1.h HV3.out)
  have HA4 := Lib.hid (blk_keep s1.h HA3.out)
  generalize s1.w = w4 at *
  obtain ⟨v0, v1, v2, v3, v4, v5, v6⟩ := cells7 HV4.out
  obtain ⟨r0, r1, r2, r3, r4, r5, r6⟩ := cells7 HA4.out
  have vf0 := blk_free HV4.out 0
  have rf0 := blk_free HA4.out 0
  have vf1 := blk_free HV4.out 1
  have rf1 := blk_free HA4.out 1
  have vf2 := blk_free HV4.out 2
  have rf2 := blk_free HA4.out 2
  have vf3 := blk_free HV4.out 3
  have rf3 := blk_free HA4.out 3
  have vf4 := blk_free HV4.out 4
  have rf4 := blk_free HA4.out 4
  have vf5 := blk_free HV4.out 5
  have rf5 := blk_free HA4.out 5
  have vf6 := blk_free HV4.out 6
  have rf6 := blk_free HA4.out 6
  go_wp2_with fail
  have hb4 := HB4.out
  exact bodyPost_ret (v := unkV 7 0 T N 0) (by simp [results, Tryd.results18, go_sem, unkV, *]) rfl ⟨rfl, by go_grown⟩

set_option maxRecDepth 8000 in
set_option maxHeartbeats 4000000 in
theorem unk_err8 (s : ByteArray) (h : 0 < s.size) (w : World) (hk : ((s[0]'h).toNat : Int) = 8) (ht : s.toList.isEmpty = false) (KI : Hid (∀ w : World, Calls Tryd.prog 45 #[.int .i64 8] w fun e w' => e = .returned (.bool true) ∧ w' = w)) (T : ByteArray) (N E : Int) (KU : Hid (∀ w : World, Calls Tryd.prog 55 #[.string s] w fun e w' => e = .returned (.tuple #[.string T, .int .i64 N, .int .i64 E]) ∧ Below w.heap.size w w')) (hE : (E != 0) = true) :
    Calls Tryd.prog 18 #[.string s] w fun e w' => e = .returned (unkV 0 0 ⟨#[]⟩ 0 E) ∧ Below w.heap.size w w' := by
  have i0 : (0 : Int) < (s.size : Int) := by omega
  go_enter Tryd.func18, Tryd.ntmps18
  go_wp2_with fail
  refine calls_box2 ?_
  intro W hA hB hb
  have HB := Lib.hid hb
  have HA := Lib.hid hA
  have HV := Lib.hid hB
  clear hA hB hb
  refine calls_same (KI.out _) ?_
  obtain ⟨v0, v1, v2, v3, v4, v5, v6⟩ := cells7 HV.out
  obtain ⟨r0, r1, r2, r3, r4, r5, r6⟩ := cells7 HA.out
  go_wp2_with fail
  clear v0 v1 v2 v3 v4 v5 v6 r0 r1 r2 r3 r4 r5 r6
  refine calls_on (KU.out _) ?_
  intro w2 hb2
  have HB2 := Lib.hid (above HB.out hb2)
  have HA2 := Lib.hid (blk_keep hb2 HA.out)
  have HV2 := Lib.hid (blk_keep hb2 HV.out)
  have hs2 := blk_lt HV2.out
  clear hb2
  obtain ⟨v0, v1, v2, v3, v4, v5, v6⟩ := cells7 HV2.out
  obtain ⟨r0, r1, r2, r3, r4, r5, r6⟩ := cells7 HA2.out
  have vf0 := blk_free HV2.out 0
  have rf0 := blk_free HA2.out 0
  have vf1 := blk_free HV2.out 1
  have rf1 := blk_free HA2.out 1
  have vf2 := blk_free HV2.out 2
  have rf2 := blk_free HA2.out 2
  have vf3 := blk_free HV2.out 3
  have rf3 := blk_free HA2.out 3
  have vf4 := blk_free HV2.out 4
  have rf4 := blk_free HA2.out 4
  have vf5 := blk_free HV2.out 5
  have rf5 := blk_free HA2.out 5
  have vf6 := blk_free HV2.out 6
  have rf6 := blk_free HA2.out 6
  go_wp2_with fail
  have hb2 := HB2.out
  exact bodyPost_ret (v := unkV 0 0 ⟨#[]⟩ 0 E) (by simp [results, Tryd.results18, go_sem, unkV, *]) rfl ⟨rfl, by go_grown⟩

set_option maxRecDepth 8000 in
set_option maxHeartbeats 4000000 in
theorem unk_bad8 (s : ByteArray) (h : 0 < s.size) (w : World) (hk : ((s[0]'h).toNat : Int) = 8) (ht : s.toList.isEmpty = false) (KI : Hid (∀ w : World, Calls Tryd.prog 45 #[.int .i64 8] w fun e w' => e = .returned (.bool true) ∧ w' = w)) (T : ByteArray) (N E : Int) (KU : Hid (∀ w : World, Calls Tryd.prog 55 #[.string s] w fun e w' => e = .returned (.tuple #[.string T, .int .i64 N, .int .i64 E]) ∧ Below w.heap.size w w')) (hE : E = 0) (KF : Hid (∀ w : World, Calls Tryd.prog 14 #[.int .i64 8, .agg #[.int .i64 8, .int .u64 0, .string T, .slice none 0 0, .slice none 0 0, .slice none 0 0, .slice none 0 0]] w fun e w' => e = .returned (.bool false) ∧ Below w.heap.size w w')) (KN : Hid (∀ w : World, Calls Tryd.prog 57 #[.agg #[.int .i64 8, .int .u64 0, .string T, .slice none 0 0, .slice none 0 0, .slice none 0 0, .slice none 0 0]] w fun e w' => e = .returned (.agg #[.int .i64 8, .int .u64 0, .string T, .slice none 0 0, .slice none 0 0, .slice none 0 0, .slice none 0 0]) ∧ Below w.heap.size w w')) :
    Calls Tryd.prog 18 #[.string s] w fun e w' => e = .returned (unkV 0 0 ⟨#[]⟩ 0 5) ∧ Below w.heap.size w w' := by
  have i0 : (0 : Int) < (s.size : Int) := by omega
  go_enter Tryd.func18, Tryd.ntmps18
  go_wp2_with fail
  refine calls_box2 ?_
  intro W hA hB hb
  have HB := Lib.hid hb
  have HA := Lib.hid hA
  have HV := Lib.hid hB
  clear hA hB hb
  refine calls_same (KI.out _) ?_
  obtain ⟨v0, v1, v2, v3, v4, v5, v6⟩ := cells7 HV.out
  obtain ⟨r0, r1, r2, r3, r4, r5, r6⟩ := cells7 HA.out
  go_wp2_with fail
  clear v0 v1 v2 v3 v4 v5 v6 r0 r1 r2 r3 r4 r5 r6
  subst hE
  refine calls_on (KU.out _) ?_
  intro w2 hb2
  have HB2 := Lib.hid (above HB.out hb2)
  have HA2 := Lib.hid (blk_keep hb2 HA.out)
  have HV2 := Lib.hid (blk_keep hb2 HV.out)
  have hs2 := blk_lt HV2.out
  clear hb2
  obtain ⟨v0, v1, v2, v3, v4, v5, v6⟩ := cells7 HV2.out
  obtain ⟨r0, r1, r2, r3, r4, r5, r6⟩ := cells7 HA2.out
  have vf0 := blk_free HV2.out 0
  have rf0 := blk_free HA2.out 0
  have vf1 := blk_free HV2.out 1
  have rf1 := blk_free HA2.out 1
  have vf2 := blk_free HV2.out 2
  have rf2 := blk_free HA2.out 2
  have vf3 := blk_free HV2.out 3
  have rf3 := blk_free HA2.out 3
  have vf4 := blk_free HV2.out 4
  have rf4 := blk_free HA2.out 4
  have vf5 := blk_free HV2.out 5
  have rf5 := blk_free HA2.out 5
  have vf6 := blk_free HV2.out 6
  have rf6 := blk_free HA2.out 6
  go_wp2_with fail
  have HS2 : Hid (Below w.heap.size w (w2.setCell ⟨w.heap.size + 1, 2, none⟩ (.string T))) := Lib.hid (HB2.out.setCell (by simp) _)
  have HV3 : Hid ((w2.setCell ⟨w.heap.size + 1, 2, none⟩ (.string T)).heap[w.heap.size + 1]? = some (.cells #[.int .i64 8, .int .u64 0, .string T, .slice none 0 0, .slice none 0 0, .slice none 0 0, .slice none 0 0] 28 (0, 0))) := Lib.hid (blk_set HV2.out (.string T))
  have HA3 : Hid ((w2.setCell ⟨w.heap.size + 1, 2, none⟩ (.string T)).heap[w.heap.size]? = some (.cells #[.int .i64 0, .int .u64 0, .string ⟨#[]⟩, .slice none 0 0, .slice none 0 0, .slice none 0 0, .slice none 0 0] 28 (0, 0))) := Lib.hid (blk_set_ne HA2.out (by simp) _)
  clear v0 r0 vf0 rf0 v1 r1 vf1 rf1 v2 r2 vf2 rf2 v3 r3 vf3 rf3 v4 r4 vf4 rf4 v5 r5 vf5 rf5 v6 r6 vf6 rf6
  generalize w2.setCell ⟨w.heap.size + 1, 2, none⟩ (.string T) = W3 at *
  obtain ⟨a0, a1, a2, a3, a4, a5, a6⟩ := up7 HV3.out
  refine wp_region_up (by kernel_rfl) (by kernel_rfl) ?_
  repeat (go_big_quiet_step (first | (go_at_call 14; with_reducible exact calls_up (KF.out _)) | (go_at_call 57; with_reducible exact calls_up (KN.out _))))
  refine wpQuiet_nil ?_
  rintro _ ⟨s1, rfl⟩
  clear a0 a1 a2 a3 a4 a5 a6
  have HB4 := Lib.hid (above HS2.out s1.h)
  have HV4 := Lib.hid (blk_keep s1.h HV3.out)
  have HA4 := Lib.hid (blk_keep s1.h HA3.out)
  generalize s1.w = w4 at *
  obtain ⟨v0, v1, v2, v3, v4, v5, v6⟩ := cells7 HV4.out
  obtain ⟨r0, r1, r2, r3, r4, r5, r6⟩ := cells7 HA4.out
  have vf0 := blk_free HV4.out 0
  have rf0 := blk_free HA4.out 0
  have vf1 := blk_free HV4.out 1
  have rf1 := blk_free HA4.out 1
  have vf2 := blk_free HV4.out 2
  have rf2 := blk_free HA4.out 2
  have vf3 := blk_free HV4.out 3
  have rf3 := blk_free HA4.out 3
  have vf4 := blk_free HV4.out 4
  have rf4 := blk_free HA4.out 4
  have vf5 := blk_free HV4.out 5
  have rf5 := blk_free HA4.out 5
  have vf6 := blk_free HV4.out 6
  have rf6 := blk_free HA4.out 6
  go_wp2_with fail
  have hb4 := HB4.out
  exact bodyPost_ret (v := unkV 0 0 ⟨#[]⟩ 0 5) (by simp [results, Tryd.results18, go_sem, unkV, *]) rfl ⟨rfl, by go_grown⟩

set_option maxRecDepth 8000 in
set_option maxHeartbeats 4000000 in
theorem unk_txt8 (s : ByteArray) (h : 0 < s.size) (w : World) (hk : ((s[0]'h).toNat : Int) = 8) (ht : s.toList.isEmpty = false) (KI : Hid (∀ w : World, Calls Tryd.prog 45 #[.int .i64 8] w fun e w' => e = .returned (.bool true) ∧ w' = w)) (T : ByteArray) (N E : Int) (KU : Hid (∀ w : World, Calls Tryd.prog 55 #[.string s] w fun e w' => e = .returned (.tuple #[.string T, .int .i64 N, .int .i64 E]) ∧ Below w.heap.size w w')) (hE : E = 0) (KF : Hid (∀ w : World, Calls Tryd.prog 14 #[.int .i64 8, .agg #[.int .i64 8, .int .u64 0, .string T, .slice none 0 0, .slice none 0 0, .slice none 0 0, .slice none 0 0]] w fun e w' => e = .returned (.bool true) ∧ Below w.heap.size w w')) (KN : Hid (∀ w : World, Calls Tryd.prog 57 #[.agg #[.int .i64 8, .int .u64 0, .string T, .slice none 0 0, .slice none 0 0, .slice none 0 0, .slice none 0 0]] w fun e w' => e = .returned (.agg #[.int .i64 8, .int .u64 0, .string T, .slice none 0 0, .slice none 0 0, .slice none 0 0, .slice none 0 0]) ∧ Below w.heap.size w w')) :
    Calls Tryd.prog 18 #[.string s] w fun e w' => e = .returned (unkV 8 0 T N 0) ∧ Below w.heap.size w w' := by
  have i0 : (0 : Int) < (s.size : Int) := by omega
  go_enter Tryd.func18, Tryd.ntmps18
  go_wp2_with fail
  refine calls_box2 ?_
  intro W hA hB hb
  have HB := Lib.hid hb
  have HA := Lib.hid hA
  have HV := Lib.hid hB
  clear hA hB hb
  refine calls_same (KI.out _) ?_
  obtain ⟨v0, v1, v2, v3, v4, v5, v6⟩ := cells7 HV.out
  obtain ⟨r0, r1, r2, r3, r4, r5, r6⟩ := cells7 HA.out
  go_wp2_with fail
  clear v0 v1 v2 v3 v4 v5 v6 r0 r1 r2 r3 r4 r5 r6
  subst hE
  refine calls_on (KU.out _) ?_
  intro w2 hb2
  have HB2 := Lib.hid (above HB.out hb2)
  have HA2 := Lib.hid (blk_keep hb2 HA.out)
  have HV2 := Lib.hid (blk_keep hb2 HV.out)
  have hs2 := blk_lt HV2.out
  clear hb2
  obtain ⟨v0, v1, v2, v3, v4, v5, v6⟩ := cells7 HV2.out
  obtain ⟨r0, r1, r2, r3, r4, r5, r6⟩ := cells7 HA2.out
  have vf0 := blk_free HV2.out 0
  have rf0 := blk_free HA2.out 0
  have vf1 := blk_free HV2.out 1
  have rf1 := blk_free HA2.out 1
  have vf2 := blk_free HV2.out 2
  have rf2 := blk_free HA2.out 2
  have vf3 := blk_free HV2.out 3
  have rf3 := blk_free HA2.out 3
  have vf4 := blk_free HV2.out 4
  have rf4 := blk_free HA2.out 4
  have vf5 := blk_free HV2.out 5
  have rf5 := blk_free HA2.out 5
  have vf6 := blk_free HV2.out 6
  have rf6 := blk_free HA2.out 6
  go_wp2_with fail
  have HS2 : Hid (Below w.heap.size w (w2.setCell ⟨w.heap.size + 1, 2, none⟩ (.string T))) := Lib.hid (HB2.out.setCell (by simp) _)
  have HV3 : Hid ((w2.setCell ⟨w.heap.size + 1, 2, none⟩ (.string T)).heap[w.heap.size + 1]? = some (.cells #[.int .i64 8, .int .u64 0, .string T, .slice none 0 0, .slice none 0 0, .slice none 0 0, .slice none 0 0] 28 (0, 0))) := Lib.hid (blk_set HV2.out (.string T))
  have HA3 : Hid ((w2.setCell ⟨w.heap.size + 1, 2, none⟩ (.string T)).heap[w.heap.size]? = some (.cells #[.int .i64 0, .int .u64 0, .string ⟨#[]⟩, .slice none 0 0, .slice none 0 0, .slice none 0 0, .slice none 0 0] 28 (0, 0))) := Lib.hid (blk_set_ne HA2.out (by simp) _)
  clear v0 r0 vf0 rf0 v1 r1 vf1 rf1 v2 r2 vf2 rf2 v3 r3 vf3 rf3 v4 r4 vf4 rf4 v5 r5 vf5 rf5 v6 r6 vf6 rf6
  generalize w2.setCell ⟨w.heap.size + 1, 2, none⟩ (.string T) = W3 at *
  obtain ⟨a0, a1, a2, a3, a4, a5, a6⟩ := up7 HV3.out
  refine wp_region_up (by kernel_rfl) (by kernel_rfl) ?_
  repeat (go_big_quiet_step (first | (go_at_call 14; with_reducible exact calls_up (KF.out _)) | (go_at_call 57; with_reducible exact calls_up (KN.out _))))
  refine wpQuiet_nil ?_
  rintro _ ⟨s1, rfl⟩
  clear a0 a1 a2 a3 a4 a5 a6
  have HB4 := Lib.hid (above HS2.out s1.h)
  have HV4 := Lib.hid (blk_keep s1.h HV3.out)
  have HA4 := Lib.hid (blk_keep s1.h HA3.out)
  generalize s1.w = w4 at *
  obtain ⟨v0, v1, v2, v3, v4, v5, v6⟩ := cells7 HV4.out
  obtain ⟨r0, r1, r2, r3, r4, r5, r6⟩ := cells7 HA4.out
  have vf0 := blk_free HV4.out 0
  have rf0 := blk_free HA4.out 0
  have vf1 := blk_free HV4.out 1
  have rf1 := blk_free HA4.out 1
  have vf2 := blk_free HV4.out 2
  have rf2 := blk_free HA4.out 2
  have vf3 := blk_free HV4.out 3
  have rf3 := blk_free HA4.out 3
  have vf4 := blk_free HV4.out 4
  have rf4 := blk_free HA4.out 4
  have vf5 := blk_free HV4.out 5
  have rf5 := blk_free HA4.out 5
  have vf6 := blk_free HV4.out 6
  have rf6 := blk_free HA4.out 6
  go_wp2_with fail
  have hb4 := HB4.out
  exact bodyPost_ret (v := unkV 8 0 T N 0) (by simp [results, Tryd.results18, go_sem, unkV, *]) rfl ⟨rfl, by go_grown⟩
end Go.Proofs.YtlgpoapedgodoaaDoor
