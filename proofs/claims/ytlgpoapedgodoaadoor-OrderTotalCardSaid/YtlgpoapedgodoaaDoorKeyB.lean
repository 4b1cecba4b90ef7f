/- order.Key. -/
import Derived.Test.YtlgpoapedgodoaaDoorKeyA
import Derived.Test.YtlgpoapedgodoaaDoorConv
namespace Go.Proofs.YtlgpoapedgodoaaDoor
open Go.RowKit
set_option linter.unusedVariables false

/-- A text from its end. -/
def revB (s : ByteArray) : ByteArray := ⟨s.data.toList.reverse.toArray⟩
theorem revB_size (s : ByteArray) : (revB s).size = s.size := by
  show (s.data.toList.reverse.toArray).size = s.data.size
  simp
theorem revB8 (s : ByteArray) (h : s.size = 8) :
    strOfNums [((s.data.toList.getD 7 0).toNat : Int), ((s.data.toList.getD 6 0).toNat : Int), ((s.data.toList.getD 5 0).toNat : Int), ((s.data.toList.getD 4 0).toNat : Int), ((s.data.toList.getD 3 0).toNat : Int), ((s.data.toList.getD 2 0).toNat : Int), ((s.data.toList.getD 1 0).toNat : Int), ((s.data.toList.getD 0 0).toNat : Int)] = revB s := by
  have hl : s.data.toList.length = 8 := by simpa using h
  unfold revB strOfNums
  generalize s.data.toList = l at *
  match l, hl with
  | [b0, b1, b2, b3, b4, b5, b6, b7], _ => simp

def KFits (k z : Int) (t : ByteArray) (l1 l2 l3 l4 c1 c2 c3 c4 : Nat) (d1 d2 d3 d4 : Option Addr) (b : Bool) : Prop :=
  ∀ w : World, Calls Tryd.prog 14 #[.int .i64 k, .agg #[.int .i64 k, .int .u64 z, .string t, .slice d1 l1 c1, .slice d2 l2 c2, .slice d3 l3 c3, .slice d4 l4 c4]] w
    fun e w' => e = .returned (.bool b) ∧ Below w.heap.size w w'

set_option maxRecDepth 8000 in
set_option maxHeartbeats 2000000 in
theorem key_no (k z : Int) (t : ByteArray) (l1 l2 l3 l4 c1 c2 c3 c4 : Nat) (d1 d2 d3 d4 : Option Addr) (w : World) (KF : Hid (KFits k z t l1 l2 l3 l4 c1 c2 c3 c4 d1 d2 d3 d4 false)) :
    Calls Tryd.prog 10 #[.agg #[.int .i64 k, .int .u64 z, .string t, .slice d1 l1 c1, .slice d2 l2 c2, .slice d3 l3 c3, .slice d4 l4 c4]] w
      fun e w' => e = .returned (.string ⟨#[]⟩) ∧ Below w.heap.size w w' := by
  go_enter Tryd.func10, Tryd.ntmps10
  go_wp2_with fail
  refine calls_box1 ?_
  intro W hA hb
  have HB := Lib.hid hb
  clear hA hb
  refine calls_on (KF.out _) ?_
  intro w2 hb2
  have HB2 := Lib.hid (above HB.out hb2)
  clear hb2
  go_wp2_with fail
  go_ret
  exact ⟨rfl, HB2.out⟩

set_option maxRecDepth 8000 in
set_option maxHeartbeats 2000000 in
theorem key_text7 (z : Int) (t : ByteArray) (l1 l2 l3 l4 c1 c2 c3 c4 : Nat) (d1 d2 d3 d4 : Option Addr) (w : World) (KF : Hid (KFits 7 z t l1 l2 l3 l4 c1 c2 c3 c4 d1 d2 d3 d4 true))
    (E : ByteArray) (hE : E.size ≤ 8192) (m : Int) (hm : w.cell? ⟨0, 0, none⟩ = some (.int .i64 m))
    (KE : Hid (∀ w : World, w.cell? ⟨0, 0, none⟩ = some (.int .i64 m) → Calls Tryd.prog 27 #[.string t, .string ⟨#[0]⟩, .string ⟨#[0, 255]⟩] w fun e w' => e = .returned (.string E) ∧ Below w.heap.size w w')) :
    Calls Tryd.prog 10 #[.agg #[.int .i64 7, .int .u64 z, .string t, .slice d1 l1 c1, .slice d2 l2 c2, .slice d3 l3 c3, .slice d4 l4 c4]] w
      fun e w' => e = .returned (.string (⟨#[7]⟩ ++ E ++ ⟨#[0, 0]⟩)) ∧ Below w.heap.size w w' := by
  have HM := Lib.hid hm
  clear hm
  have u7 : Utf8.encode 7 = ⟨#[7]⟩ := by decide
  go_enter Tryd.func10, Tryd.ntmps10
  go_wp2_with fail
  refine calls_box1 ?_
  intro W hA hb
  have HB := Lib.hid hb
  have HA := Lib.hid hA
  clear hA hb
  refine calls_on (KF.out _) ?_
  intro w2 hb2
  have HB2 := Lib.hid (above HB.out hb2)
  have hA2 := blk_keep hb2 HA.out
  have HA2 := Lib.hid hA2
  obtain ⟨a0, a1, a2, a3, a4, a5, a6⟩ := cells7 hA2
  clear hA2 hb2
  go_wp2_with fail
  clear a0 a1 a2 a3 a4 a5 a6
  obtain ⟨a0, a1, a2, a3, a4, a5, a6⟩ := up7 HA2.out
  refine wp_region_up (by kernel_rfl) (by kernel_rfl) ?_
  repeat (go_big_quiet_step ((go_at_call 27; with_reducible exact calls_up (KE.out _ (held (above HB2.out (InClass.h _)) HM.out)))))
  refine wpQuiet_nil ?_
  rintro _ ⟨s1, rfl⟩
  clear a0 a1 a2 a3 a4 a5 a6
  go_wp2_with fail
  go_ret
  exact ⟨rfl, above HB2.out s1.h⟩

set_option maxRecDepth 8000 in
set_option maxHeartbeats 2000000 in
theorem key_text8 (z : Int) (t : ByteArray) (l1 l2 l3 l4 c1 c2 c3 c4 : Nat) (d1 d2 d3 d4 : Option Addr) (w : World) (KF : Hid (KFits 8 z t l1 l2 l3 l4 c1 c2 c3 c4 d1 d2 d3 d4 true))
    (E : ByteArray) (hE : E.size ≤ 8192) (m : Int) (hm : w.cell? ⟨0, 0, none⟩ = some (.int .i64 m))
    (KE : Hid (∀ w : World, w.cell? ⟨0, 0, none⟩ = some (.int .i64 m) → Calls Tryd.prog 27 #[.string t, .string ⟨#[0]⟩, .string ⟨#[0, 255]⟩] w fun e w' => e = .returned (.string E) ∧ Below w.heap.size w w')) :
    Calls Tryd.prog 10 #[.agg #[.int .i64 8, .int .u64 z, .string t, .slice d1 l1 c1, .slice d2 l2 c2, .slice d3 l3 c3, .slice d4 l4 c4]] w
      fun e w' => e = .returned (.string (⟨#[8]⟩ ++ E ++ ⟨#[0, 0]⟩)) ∧ Below w.heap.size w w' := by
  have HM := Lib.hid hm
  clear hm
  have u7 : Utf8.encode 8 = ⟨#[8]⟩ := by decide
  go_enter Tryd.func10, Tryd.ntmps10
  go_wp2_with fail
  refine calls_box1 ?_
  intro W hA hb
  have HB := Lib.hid hb
  have HA := Lib.hid hA
  clear hA hb
  refine calls_on (KF.out _) ?_
  intro w2 hb2
  have HB2 := Lib.hid (above HB.out hb2)
  have hA2 := blk_keep hb2 HA.out
  have HA2 := Lib.hid hA2
  obtain ⟨a0, a1, a2, a3, a4, a5, a6⟩ := cells7 hA2
  clear hA2 hb2
  go_wp2_with fail
  clear a0 a1 a2 a3 a4 a5 a6
  obtain ⟨a0, a1, a2, a3, a4, a5, a6⟩ := up7 HA2.out
  refine wp_region_up (by kernel_rfl) (by kernel_rfl) ?_
  repeat (go_big_quiet_step ((go_at_call 27; with_reducible exact calls_up (KE.out _ (held (above HB2.out (InClass.h _)) HM.out)))))
  refine wpQuiet_nil ?_
  rintro _ ⟨s1, rfl⟩
  clear a0 a1 a2 a3 a4 a5 a6
  go_wp2_with fail
  go_ret
  exact ⟨rfl, above HB2.out s1.h⟩


set_option maxRecDepth 8000 in
set_option maxHeartbeats 2000000 in
theorem key_num (k z : Int) (t : ByteArray) (l1 l2 l3 l4 c1 c2 c3 c4 : Nat) (d1 d2 d3 d4 : Option Addr) (w : World) (KF : Hid (KFits k z t l1 l2 l3 l4 c1 c2 c3 c4 d1 d2 d3 d4 true)) (h7 : (k == 7) = false) (h8 : (k == 8) = false)
    (u : Int) (S : ByteArray) (hS : S.size = 8) (K0 : ByteArray) (he : Utf8.encode k = K0) (hK0 : K0.size ≤ 10) (hk0 : 1 ≤ k) (hk9 : k ≤ 9)
    (KT : Hid (∀ w : World, Calls Tryd.prog 29 #[.agg #[.int .i64 k, .int .u64 z, .string t, .slice d1 l1 c1, .slice d2 l2 c2, .slice d3 l3 c3, .slice d4 l4 c4]] w fun e w' => e = .returned (.int .u64 u) ∧ Below w.heap.size w w'))
    (KX : Hid (∀ w : World, Calls Tryd.prog 28 #[.int .u64 u] w fun e w' => e = .returned (.string S) ∧ Below w.heap.size w w')) :
    Calls Tryd.prog 10 #[.agg #[.int .i64 k, .int .u64 z, .string t, .slice d1 l1 c1, .slice d2 l2 c2, .slice d3 l3 c3, .slice d4 l4 c4]] w
      fun e w' => e = .returned (.string (K0 ++ revB S)) ∧ Below w.heap.size w w' := by
  go_enter Tryd.func10, Tryd.ntmps10
  go_wp2_with fail
  refine calls_box1 ?_
  intro W hA hb
  have HB := Lib.hid hb
  have HA := Lib.hid hA
  clear hA hb
  refine calls_on (KF.out _) ?_
  intro w2 hb2
  have HB2 := Lib.hid (above HB.out hb2)
  have hA2 := blk_keep hb2 HA.out
  have HA2 := Lib.hid hA2
  obtain ⟨a0, a1, a2, a3, a4, a5, a6⟩ := cells7 hA2
  clear hA2 hb2
  go_wp2_with fail
  clear a0 a1 a2 a3 a4 a5 a6
  refine calls_on (KT.out _) ?_
  intro w3 hb3
  have HB3 := Lib.hid (above HB2.out hb3)
  have HA3 := Lib.hid (blk_keep hb3 HA2.out)
  clear hb3
  go_wp2_with fail
  refine calls_on (KX.out _) ?_
  intro w4 hb4
  have HB4 := Lib.hid (above HB3.out hb4)
  have HA4 := Lib.hid (blk_keep hb4 HA3.out)
  clear hb4
  obtain ⟨cap, w5, hrun, hcap, hcell, hfr, hb5, hsz⟩ := conv_s w4 S
  rw [hS] at hrun hcap hcell hfr
  have HB5 := Lib.hid (above HB4.out hb5)
  have HA5 := Lib.hid (blk_keep hb5 HA4.out)
  have HC := Lib.hid hcell
  have HF := Lib.hid hfr
  have H4 := Lib.hid (blk_lt HA4.out)
  clear hcell hfr hb5 hsz
  go_wp2_with fail
  clear hrun
  refine (rev8_ok _ _ _ _ _ _ _ _ w4.heap.size cap w5 hcap (HC.out 0 (by decide)) (HC.out 1 (by decide)) (HC.out 2 (by decide)) (HC.out 3 (by decide)) (HC.out 4 (by decide)) (HC.out 5 (by decide)) (HC.out 6 (by decide)) (HC.out 7 (by decide))
    (HF.out 0 (by decide)) (HF.out 1 (by decide)) (HF.out 2 (by decide)) (HF.out 3 (by decide)) (HF.out 4 (by decide)) (HF.out 5 (by decide)) (HF.out 6 (by decide)) (HF.out 7 (by decide))).mono ?_
  rintro e w6 ⟨rfl, hc6, hb6⟩
  have HB6 : Hid (Below w.heap.size w w6) := Lib.hid ((HB5.out).trans (hb6.mono (by have := H4.out; omega)))
  have hA6 := (hb6.block _ H4.out).trans HA5.out
  obtain ⟨a0, a1, a2, a3, a4, a5, a6⟩ := cells7 hA6
  have hcv := run_convert_bytes_arg (P := Tryd.prog) w6 51 5 Tryd.underlying51 Tryd.underlying5 w4.heap.size 0 8 cap _ rfl hc6 9 Tryd.underlying9
  rw [revB8 S hS] at hcv
  have hR : (revB S).size = 8 := (revB_size S).trans hS
  clear hA6 hc6 hb6 hcap hS
  go_wp2_with fail
  go_ret
  exact ⟨rfl, HB6.out⟩

/-- A key. -/
def keyT (k z : Int) (t : ByteArray) (e : Bool) : ByteArray :=
  if fitsB k k z t e = true then
    (if k = 7 ∨ k = 8 then Utf8.encode k ++ ⟨(escT t.data.toList).toArray⟩ ++ ⟨#[0, 0]⟩ else Utf8.encode k ++ revB (strOfNums (leZ (rankK k (normZ k z)))))
  else ⟨#[]⟩

/-- **order.Key.** -/
theorem key_ok (k z : Int) (t : ByteArray) (l1 l2 l3 l4 c1 c2 c3 c4 : Nat) (d1 d2 d3 d4 : Option Addr) (hz : word z) (h1 : l1 ≤ 140737488351232) (h2 : l2 ≤ 140737488351232) (h3 : l3 ≤ 140737488351232) (h4 : l4 ≤ 140737488351232)
    (m : Int) (w : World) (hm : w.cell? ⟨0, 0, none⟩ = some (.int .i64 m)) :
    Calls Tryd.prog 10 #[.agg #[.int .i64 k, .int .u64 z, .string t, .slice d1 l1 c1, .slice d2 l2 c2, .slice d3 l3 c3, .slice d4 l4 c4]] w
      fun e w' => e = .returned (.string (keyT k z t (noneB l1 l2 l3 l4))) ∧ Below w.heap.size w w' := by
  have KF : KFits k z t l1 l2 l3 l4 c1 c2 c3 c4 d1 d2 d3 d4 (fitsB k k z t (noneB l1 l2 l3 l4)) := fun w => fits_ok k k z t l1 l2 l3 l4 c1 c2 c3 c4 d1 d2 d3 d4 w h1 h2 h3 h4
  unfold keyT
  cases hf : fitsB k k z t (noneB l1 l2 l3 l4)
  · rw [hf] at KF
    rw [if_neg (by simp)]
    exact key_no k z t l1 l2 l3 l4 c1 c2 c3 c4 d1 d2 d3 d4 w (Lib.hid KF)
  · rw [hf] at KF
    rw [if_pos rfl]
    have hs : t.size ≤ 4096 := by
      unfold fitsB at hf
      simp only [Bool.and_eq_true, decide_eq_true_eq] at hf
      exact hf.1.2
    have hr : 1 ≤ k ∧ k ≤ 9 := by
      unfold fitsB at hf
      simp only [Bool.and_eq_true, decide_eq_true_eq] at hf
      exact hf.1.1.1.1.1
    have hE : (⟨(escT t.data.toList).toArray⟩ : ByteArray).size ≤ 8192 := by
      show (escT t.data.toList).toArray.size ≤ 8192
      simp only [List.size_toArray, escT_length]
      have := List.count_le_length (a := (0 : UInt8)) (l := t.data.toList)
      have hl : t.data.toList.length = t.size := by simp
      omega
    by_cases h7 : k = 7
    · subst h7
      rw [if_pos (.inl rfl)]
      exact key_text7 z t l1 l2 l3 l4 c1 c2 c3 c4 d1 d2 d3 d4 w (Lib.hid KF) _ hE m hm (Lib.hid fun w hw => esc_ok t m hs w hw)
    · by_cases h8 : k = 8
      · subst h8
        rw [if_pos (.inr rfl)]
        exact key_text8 z t l1 l2 l3 l4 c1 c2 c3 c4 d1 d2 d3 d4 w (Lib.hid KF) _ hE m hm (Lib.hid fun w hw => esc_ok t m hs w hw)
      · rw [if_neg (by omega)]
        refine key_num k z t l1 l2 l3 l4 c1 c2 c3 c4 d1 d2 d3 d4 w (Lib.hid KF) (by simp [h7]) (by simp [h8]) (rankK k (normZ k z)) (strOfNums (leZ (rankK k (normZ k z)))) (by rw [strOfNums_size]; rfl) (Utf8.encode k) rfl ?_ hr.1 hr.2
          (Lib.hid fun w => turned_ok k z t l1 l2 l3 l4 c1 c2 c3 c4 d1 d2 d3 d4 hz w) (Lib.hid fun w => fixed_ok _ (rankK_word k _ (normZ_word k z hz)) w)
        have : k = 1 ∨ k = 2 ∨ k = 3 ∨ k = 4 ∨ k = 5 ∨ k = 6 ∨ k = 9 := by omega
        rcases this with rfl | rfl | rfl | rfl | rfl | rfl | rfl <;> decide
end Go.Proofs.YtlgpoapedgodoaaDoor
