/- The reference's Cmp of scalars: numbers, and one contract. -/
import Derived.Test.YtlgpoapedgodoaaDoorCmpH
import Derived.Test.YtlgpoapedgodoaaDoorBoxes
namespace Go.Proofs.YtlgpoapedgodoaaDoor
open Go.RowKit

theorem rrank_eq (k z : Int) (t : ByteArray) (l p s r : Value) (hz : word z) (w : World) :
    Calls Tryd.prog 79 #[.agg #[.int .i64 k, .int .u64 z, .string t, l, p, s, r]] w
      fun e w' => e = .returned (.int .u64 (rankZ k z)) ∧ Below w.heap.size w w' := by
  by_cases h : k = 2 ∨ k = 3
  · exact rrank_s k z t l p s r hz (decide_eq_true h) w
  · by_cases h6 : k = 6
    · subst h6; exact rrank_d z t l p s r hz w
    · exact rrank_o k z t l p s r (decide_eq_false h) (by simp [h6]) w

set_option maxRecDepth 4000 in
set_option maxHeartbeats 1000000 in
theorem rscal_num (k z z' : Int) (t t' : ByteArray) (l p s r l' p' s' r' : Value) (h : decide (1 ≤ k ∧ k ≤ 9) = true) (h2 : decide (k = 7 ∨ k = 8) = false) (HZ : Hid (word z ∧ word z')) (w : World) :
    Calls Tryd.prog 54 #[.agg #[.int .i64 k, .int .u64 z, .string t, l, p, s, r], .agg #[.int .i64 k, .int .u64 z', .string t', l', p', s', r']] w
      fun e w' => e = .returned (.int .i64 (cmpI (rankZ k z) (rankZ k z'))) ∧ Below w.heap.size w w' := by
  obtain ⟨x, HX⟩ : ∃ x : Int, Hid (x = rankZ k z) := ⟨_, Lib.hid rfl⟩
  obtain ⟨y, HY⟩ : ∃ y : Int, Hid (y = rankZ k z') := ⟨_, Lib.hid rfl⟩
  rw [← HX.out, ← HY.out]
  obtain ⟨R, HR⟩ : ∃ R : Int, Hid (R = cmpI x y) := ⟨_, Lib.hid rfl⟩
  rw [← HR.out]
  have C1 : Hid (∀ w : World, Calls Tryd.prog 79 #[.agg #[.int .i64 k, .int .u64 z, .string t, l, p, s, r]] w fun e w' => e = .returned (.int .u64 x) ∧ Below w.heap.size w w') := by
    intro w; rw [HX.out]; exact rrank_eq k z t l p s r HZ.out.1 w
  have C2 : Hid (∀ w : World, Calls Tryd.prog 79 #[.agg #[.int .i64 k, .int .u64 z', .string t', l', p', s', r']] w fun e w' => e = .returned (.int .u64 y) ∧ Below w.heap.size w w') := by
    intro w; rw [HY.out]; exact rrank_eq k z' t' l' p' s' r' HZ.out.2 w
  have hk : decide (k < k) = false := by simp
  go_enter Tryd.func54, Tryd.ntmps54
  go_wp2_with fail
  refine (ris_ok _ _).mono ?_
  rintro e w1 ⟨rfl, rfl⟩
  rw [h]
  go_wp2_with fail
  refine (rtexts_ok _ _).mono ?_
  rintro e w1 ⟨rfl, rfl⟩
  rw [h2]
  go_wp2_with fail
  refine (rtexts_ok _ _).mono ?_
  rintro e w1 ⟨rfl, rfl⟩
  rw [h2]
  go_wp2_with fail
  refine (rtexts_ok _ _).mono ?_
  rintro e w1 ⟨rfl, rfl⟩
  rw [h2]
  go_wp2_with fail
  refine wp_box2 ?_
  intro W hA hB hb
  obtain ⟨a0, a1, a2, a3, a4, a5, a6⟩ := up7 hA
  obtain ⟨b0, b1, b2, b3, b4, b5, b6⟩ := up7 hB
  have HB := Lib.hid hb
  have HA := Lib.hid (And.intro hA hB)
  clear hb hA hB
  refine wp_region_up (by kernel_rfl) (by kernel_rfl) ?_
  repeat (go_big_quiet_step (first | (go_at_call 79; with_reducible exact calls_up (C1.out _)) | (go_at_call 79; with_reducible exact calls_up (C2.out _))))
  refine wpQuiet_nil ?_
  rintro _ ⟨s1, rfl⟩
  clear a0 a1 a2 a3 a4 a5 a6 b0 b1 b2 b3 b4 b5 b6
  go_wp2_with fail
  · go_ret
    refine ⟨?_, above HB.out s1.h⟩
    rw [HR.out]
    simp_all [cmpI]
  · have hA := blk_keep s1.h HA.out.1
    have hB := blk_keep s1.h HA.out.2
    obtain ⟨a0, a1, a2, a3, a4, a5, a6⟩ := up7 hA
    obtain ⟨b0, b1, b2, b3, b4, b5, b6⟩ := up7 hB
    clear hA hB
    refine wp_region_up (by kernel_rfl) (by kernel_rfl) ?_
    repeat (go_big_quiet_step (first | (go_at_call 79; with_reducible exact calls_up (C1.out _)) | (go_at_call 79; with_reducible exact calls_up (C2.out _))))
    refine wpQuiet_nil ?_
    rintro _ ⟨s2, rfl⟩
    clear a0 a1 a2 a3 a4 a5 a6 b0 b1 b2 b3 b4 b5 b6
    go_wp2_with fail
    all_goals
      go_ret
      refine ⟨?_, above HB.out (above s1.h s2.h)⟩
      rw [HR.out]
      simp_all [cmpI]
      try omega

theorem rscal_eq (k z k' z' : Int) (t t' : ByteArray) (l p s r l' p' s' r' : Value) (hz : word z) (hz' : word z') (w : World) :
    Calls Tryd.prog 54 #[.agg #[.int .i64 k, .int .u64 z, .string t, l, p, s, r], .agg #[.int .i64 k', .int .u64 z', .string t', l', p', s', r']] w
      fun e w' => e = .returned (.int .i64 (scalF k z t k' z' t')) ∧ Below w.heap.size w w' := by
  by_cases hk : k = k'
  · subst hk
    rw [show scalF k z t k z' t' = scalC k z t z' t' by simp [scalF]]
    by_cases h1 : 1 ≤ k ∧ k ≤ 9
    · by_cases h2 : k = 7 ∨ k = 8
      · rw [show scalC k z t z' t' = cmpT t t' by simp [scalC, h1, h2]]
        unfold cmpT
        cases h3 : Op.bytesLess t.toList t'.toList
        · cases h4 : (!(t.toList == t'.toList))
          · rw [if_neg (by simp), if_neg (by simpa [h3] using h4)]
            exact rscal_teq k z z' t t' l p s r l' p' s' r' (decide_eq_true h1) (decide_eq_true h2) h3 h4 w
          · rw [if_neg (by simp), if_pos (by simpa [h3] using h4)]
            exact rscal_tgt k z z' t t' l p s r l' p' s' r' (decide_eq_true h1) (decide_eq_true h2) h3 h4 w
        · rw [if_pos rfl]
          exact rscal_tlt k z z' t t' l p s r l' p' s' r' (decide_eq_true h1) (decide_eq_true h2) h3 w
      · rw [← rank_cmp k z z' t t' hz hz' h1 h2]
        exact rscal_num k z z' t t' l p s r l' p' s' r' (decide_eq_true h1) (decide_eq_false h2) (Lib.hid ⟨hz, hz'⟩) w
    · rw [show scalC k z t z' t' = 0 by simp [scalC, h1]]
      exact rscal_not k z z' t t' l p s r l' p' s' r' (decide_eq_false h1) w
  · rw [show scalF k z t k' z' t' = cmpI k k' by simp [scalF, hk]]
    unfold cmpI
    by_cases h : k < k'
    · rw [if_pos h]
      exact rscal_lt k z k' z' t t' l p s r l' p' s' r' (decide_eq_true h) w
    · rw [if_neg h, if_pos (show k' < k by omega)]
      exact rscal_gt k z k' z' t t' l p s r l' p' s' r' (decide_eq_false h) (decide_eq_true (show k' < k by omega)) w
end Go.Proofs.YtlgpoapedgodoaaDoor
