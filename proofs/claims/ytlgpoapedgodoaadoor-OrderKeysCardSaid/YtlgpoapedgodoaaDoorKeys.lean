/- The reference's Key in one contract; OrderKeys. -/
import Derived.Test.YtlgpoapedgodoaaDoorRkeyB
import Derived.Test.YtlgpoapedgodoaaDoorAwake
import Derived.Test.YtlgpoapedgodoaaDoorTotalC
namespace Go.Proofs.YtlgpoapedgodoaaDoor
open Go.RowKit
set_option linter.unusedVariables false

theorem enc_nums (k : Int) (h : 1 ≤ k ∧ k ≤ 9) : Utf8.encode k = strOfNums [k] := by
  have : k = 1 ∨ k = 2 ∨ k = 3 ∨ k = 4 ∨ k = 5 ∨ k = 6 ∨ k = 7 ∨ k = 8 ∨ k = 9 := by omega
  rcases this with rfl | rfl | rfl | rfl | rfl | rfl | rfl | rfl | rfl <;> decide

theorem nums_bytes (l : List UInt8) : (l.map fun b => (b.toNat : Int)).map (fun n => UInt8.ofNat n.toNat) = l := by
  rw [List.map_map]
  conv => rhs; rw [← List.map_id l]
  apply List.map_congr_left
  intro b _
  simp

theorem text_nums (k : Int) (h : 1 ≤ k ∧ k ≤ 9) (l : List UInt8) : strOfNums ([k] ++ escN l ++ [0, 0]) = Utf8.encode k ++ ⟨(escT l).toArray⟩ ++ ⟨#[0, 0]⟩ := by
  rw [enc_nums k h]
  apply ByteArray.ext
  have e := nums_bytes (escT l)
  unfold escN strOfNums
  simp only [List.map_append, e, ByteArray.data_append]
  simp

theorem rkey_ok (k z : Int) (t : ByteArray) (l1 l2 l3 l4 c1 c2 c3 c4 : Nat) (d1 d2 d3 d4 : Option Addr) (hz : word z) (ht : t.size ≤ 140737488351232) (w : World) :
    Calls Tryd.prog 11 #[.agg #[.int .i64 k, .int .u64 z, .string t, .slice d1 l1 c1, .slice d2 l2 c2, .slice d3 l3 c3, .slice d4 l4 c4]] w
      fun e w' => e = .returned (.string (keyT k z t (noneB l1 l2 l3 l4))) ∧ Below w.heap.size w w' := by
  have KF := fun w : World => rfits_ok k k z t l1 l2 l3 l4 c1 c2 c3 c4 d1 d2 d3 d4 w ht
  have KT := fun w : World => texts16_ok k w
  unfold RFitsAt at KF
  unfold keyT
  cases hf : fitsB k k z t (noneB l1 l2 l3 l4)
  · rw [hf] at KF
    rw [if_neg (by simp)]
    exact rkey_no k z t l1 l2 l3 l4 c1 c2 c3 c4 d1 d2 d3 d4 w (Lib.hid KF)
  · rw [hf] at KF
    rw [if_pos rfl]
    have hs : t.size ≤ 4096 := by
      unfold fitsB at hf
      simp only [Bool.and_eq_true, decide_eq_true_eq] at hf
      exact hf.1.2
    have hr : 1 ≤ k ∧ k ≤ 9 := by
      unfold fitsB at hf
      simp only [Bool.and_eq_true, decide_eq_true_eq] at hf
      exact hf.1.1.1.1.1
    by_cases h78 : k = 7 ∨ k = 8
    · rw [if_pos h78, ← text_nums k hr]
      rw [show decide (k = 7 ∨ k = 8) = true from decide_eq_true h78] at KT
      rcases h78 with rfl | rfl
      · exact rkey_text7 z t l1 l2 l3 l4 c1 c2 c3 c4 d1 d2 d3 d4 w (Lib.hid KF) (Lib.hid KT) hs
      · exact rkey_text8 z t l1 l2 l3 l4 c1 c2 c3 c4 d1 d2 d3 d4 w (Lib.hid KF) (Lib.hid KT) hs
    · rw [show decide (k = 7 ∨ k = 8) = false from decide_eq_false h78] at KT
      rw [if_neg h78, enc_nums k hr]
      have hw := normZ_word k z hz
      exact rkey_num k z (normZ k z) (rankK k (normZ k z)) t l1 l2 l3 l4 c1 c2 c3 c4 d1 d2 d3 d4 w (Lib.hid KF) (Lib.hid KT) hr.1 hr.2 (eightB (rankK k (normZ k z))) (by unfold eightB; rw [revB_size, strOfNums_size]; rfl)
        (Lib.hid fun w => rnorm_ok k z t l1 l2 l3 l4 c1 c2 c3 c4 d1 d2 d3 d4 hz w) (Lib.hid fun w => rank16_ok k (normZ k z) t _ _ _ _ hw w) (Lib.hid fun w => eight_ok _ (rankK_word k _ hw) w)

set_option maxRecDepth 8000 in
set_option maxHeartbeats 2000000 in
theorem keys_ok (n : Nat) (v : Value) (x : VT n) (m : Int) (w : World) (h : IsV n w v x) (hm : w.cell? ⟨0, 0, none⟩ = some (.int .i64 m)) :
    Calls Tryd.prog 3 #[v] w fun e w' => e = .returned (.bool true) ∧ Below w.heap.size w w' := by
  obtain ⟨ek, ez, et, d1, l1, c1, d2, l2, c2, d3, l3, c3, d4, l4, c4, rfl, g⟩ := h
  cases n with
  | zero => exact g.elim
  | succ n =>
  obtain ⟨_, _, _, wz, st, h1, h2, h3, h4⟩ := g.top
  have HM := Lib.hid hm
  clear hm g
  obtain ⟨X, HX⟩ : ∃ X, Hid (X = keyT ek ez et (noneB l1 l2 l3 l4)) := ⟨_, Lib.hid rfl⟩
  have K1 : Hid (∀ w' : World, Below w.heap.size w w' → Calls Tryd.prog 10 #[.agg #[.int .i64 ek, .int .u64 ez, .string et, .slice d1 l1 c1, .slice d2 l2 c2, .slice d3 l3 c3, .slice d4 l4 c4]] w' fun e w2 => e = .returned (.string X) ∧ Below w'.heap.size w' w2) := by
    intro w' hb; rw [HX.out]; exact key_ok ek ez et l1 l2 l3 l4 c1 c2 c3 c4 d1 d2 d3 d4 wz h1 h2 h3 h4 m w' (held hb HM.out)
  have K2 : Hid (∀ w' : World, Below w.heap.size w w' → Calls Tryd.prog 11 #[.agg #[.int .i64 ek, .int .u64 ez, .string et, .slice d1 l1 c1, .slice d2 l2 c2, .slice d3 l3 c3, .slice d4 l4 c4]] w' fun e w2 => e = .returned (.string X) ∧ Below w'.heap.size w' w2) := by
    intro w' _; rw [HX.out]; exact rkey_ok ek ez et l1 l2 l3 l4 c1 c2 c3 c4 d1 d2 d3 d4 wz st w'
  have K3 : Hid (∀ w' : World, Below w.heap.size w w' → Calls Tryd.prog 12 #[] w' fun e w2 => e = .returned (.bool true) ∧ Below w'.heap.size w' w2) :=
    Lib.hid fun w' hb => awake_ok m w' (held hb HM.out)
  have e1 : (X.toList == X.toList) = true := by simp
  clear wz st h1 h2 h3 h4
  go_enter Tryd.func3, Tryd.ntmps3
  go_wp2_with fail
  refine wp_box1 ?_
  intro W hA hb
  obtain ⟨a0, a1, a2, a3, a4, a5, a6⟩ := up7 hA
  have HB := Lib.hid hb
  clear hA hb
  refine wp_region_up (by kernel_rfl) (by kernel_rfl) ?_
  repeat (go_big_quiet_step (first | (go_at_call 10; with_reducible exact calls_up (K1.out _ (above HB.out (InClass.h _)))) | (go_at_call 11; with_reducible exact calls_up (K2.out _ (above HB.out (InClass.h _)))) | (go_at_call 12; with_reducible exact calls_up (K3.out _ (above HB.out (InClass.h _))))))
  refine wpQuiet_nil ?_
  rintro _ ⟨s1, rfl⟩
  clear a0 a1 a2 a3 a4 a5 a6
  go_wp2_with fail
  go_ret
  exact ⟨rfl, above HB.out s1.h⟩
end Go.Proofs.YtlgpoapedgodoaaDoor
