/- RetryDeadlines: the walk. -/
import Derived.Test.YtmihbfknhflfiaaRetryMore
namespace Go.Proofs.Ytmihbfknhflfiaa
open Go.RowKit

set_option maxHeartbeats 2000000 in
theorem deadlines_walk (a b c d t m g q0 q1 q2 q3 : Int) (safe : Bool) (w : World) :
    Calls Try.prog 9 #[.agg #[.int .i64 a, .int .i64 b, .int .i64 c, .int .i64 d], .agg #[.int .i64 t, .int .i64 m, .int .i64 g], .agg #[.int .i64 q0, .int .i64 q1, .int .i64 q2, .int .i64 q3], .bool safe] w fun e w' => e = .returned (.bool true) ∧ Below w.heap.size w w' := by
  obtain ⟨E, hE⟩ : ∃ E, (if q2 < q1 then q2 else q1) = E := ⟨_, rfl⟩
  obtain ⟨D, hD⟩ : ∃ D, (if q2 > q1 then q2 else q1) = D := ⟨_, rfl⟩
  have hED : E ≤ D := by rw [← hE, ← hD]; split <;> split <;> omega
  have K1 : ∀ w : World, Calls Try.prog 23 #[.agg #[.int .i64 a, .int .i64 b, .int .i64 c, .int .i64 d], .agg #[.int .i64 t, .int .i64 m, .int .i64 g], .int .i64 q0, .int .i64 E, .int .i64 q3, .bool safe] w (PlanPost m g (planOf a b c d t m g q0 E q3 safe).1 (planOf a b c d t m g q0 E q3 safe).2 w) := fun w => plan_any a b c d t m g q0 E q3 safe w
  have K2 : ∀ w : World, Calls Try.prog 23 #[.agg #[.int .i64 a, .int .i64 b, .int .i64 c, .int .i64 d], .agg #[.int .i64 t, .int .i64 m, .int .i64 g], .int .i64 q0, .int .i64 D, .int .i64 q3, .bool safe] w (PlanPost m g (planOf a b c d t m g q0 D q3 safe).1 (planOf a b c d t m g q0 D q3 safe).2 w) := fun w => plan_any a b c d t m g q0 D q3 safe w
  have K3 : ∀ w : World, Calls Try.prog 23 #[.agg #[.int .i64 a, .int .i64 b, .int .i64 c, .int .i64 d], .agg #[.int .i64 m, .int .i64 m, .int .i64 g], .int .i64 q0, .int .i64 D, .int .i64 q3, .bool safe] w (PlanPost m g (planOf a b c d m m g q0 D q3 safe).1 (planOf a b c d m m g q0 D q3 safe).2 w) := fun w => plan_any a b c d m m g q0 D q3 safe w
  have hl1 := planOf_len a b c d t m g q0 E q3 safe
  have hl2 := planOf_len a b c d t m g q0 D q3 safe
  have hl3 := planOf_len a b c d m m g q0 D q3 safe
  have hpre : 1 ≤ E → okB t m g → (planOf a b c d t m g q0 E q3 safe).1 <+: (planOf a b c d t m g q0 D q3 safe).1 ∧ (planOf a b c d t m g q0 D q3 safe).1 <+: (planOf a b c d m m g q0 D q3 safe).1 := fun hE1 hb =>
    ⟨planOf_mono hE1 hED (Int.le_refl _) hb hb, planOf_mono (by omega) (Int.le_refl _) hb.2.2.1 hb ⟨hb.1, by have := hb.2.1; have := hb.2.2.1; omega, Int.le_refl _, hb.2.2.2.1, hb.2.2.2.2⟩⟩
  have hnil : ¬ okB t m g → (planOf a b c d t m g q0 E q3 safe).1 = [] ∧ (planOf a b c d t m g q0 D q3 safe).1 = [] := fun hb => ⟨planOf_nil hb, planOf_nil hb⟩
  obtain ⟨L1, hL1⟩ : ∃ L, (planOf a b c d t m g q0 E q3 safe).1 = L := ⟨_, rfl⟩
  obtain ⟨f1, hf1⟩ : ∃ f, (planOf a b c d t m g q0 E q3 safe).2 = f := ⟨_, rfl⟩
  obtain ⟨L2, hL2⟩ : ∃ L, (planOf a b c d t m g q0 D q3 safe).1 = L := ⟨_, rfl⟩
  obtain ⟨f2, hf2⟩ : ∃ f, (planOf a b c d t m g q0 D q3 safe).2 = f := ⟨_, rfl⟩
  obtain ⟨L3, hL3⟩ : ∃ L, (planOf a b c d m m g q0 D q3 safe).1 = L := ⟨_, rfl⟩
  obtain ⟨f3, hf3⟩ : ∃ f, (planOf a b c d m m g q0 D q3 safe).2 = f := ⟨_, rfl⟩
  rw [hL1, hf1] at K1
  rw [hL2, hf2] at K2
  rw [hL3, hf3] at K3
  rw [hL1] at hl1 hpre hnil
  rw [hL2] at hl2 hpre hnil
  rw [hL3] at hl3 hpre
  clear hL1 hL2 hL3 hf1 hf2 hf3
  have H1 := Lib.hid K1; clear K1
  have H2 := Lib.hid K2; clear K2
  have H3 := Lib.hid K3; clear K3
  have HL := Lib.hid (And.intro hl1 (And.intro hl2 hl3)); clear hl1 hl2 hl3
  have HPre := Lib.hid hpre; clear hpre
  have HNil := Lib.hid hnil; clear hnil
  have P0 : PB w.heap.size a b c d t m g (((w.alloc (.cells #[.int .i64 a, .int .i64 b, .int .i64 c, .int .i64 d] 23)).alloc (.cells #[.int .i64 t, .int .i64 m, .int .i64 g] 25)).alloc (.cells #[.int .i64 q0, .int .i64 q1, .int .i64 q2, .int .i64 q3] 48)) :=
    (PB.made a b c d t m g w).keep ((Below.refl _ _).alloc (Nat.le_refl _) _)
  have Q0 := blk_new ((w.alloc (.cells #[.int .i64 a, .int .i64 b, .int .i64 c, .int .i64 d] 23)).alloc (.cells #[.int .i64 t, .int .i64 m, .int .i64 g] 25)) (.cells #[.int .i64 q0, .int .i64 q1, .int .i64 q2, .int .i64 q3] 48)
  have hB0 : Below w.heap.size w (((w.alloc (.cells #[.int .i64 a, .int .i64 b, .int .i64 c, .int .i64 d] 23)).alloc (.cells #[.int .i64 t, .int .i64 m, .int .i64 g] 25)).alloc (.cells #[.int .i64 q0, .int .i64 q1, .int .i64 q2, .int .i64 q3] 48)) := by go_grown
  simp only [World.size_alloc] at Q0
  have HP := Lib.hid P0; clear P0
  have HQ := Lib.hid Q0; clear Q0
  go_enter Try.func9, Try.ntmps9
  go_wp2_with fail
  go_quiet (fail)
  by_cases hE1 : E < 1
  · clear hE hD
    go_wp2_with fail
    refine (awake_any _).mono ?_
    rintro e w1 ⟨rfl, hb1⟩
    have hB1 := hB0.trans (((Joins.below_draws _ _ _).trans hb1).mono hB0.size)
    go_wp2_with fail
    go_ret
    exact ⟨rfl, hB1⟩
  · clear hE hD
    go_wp2_with fail
    refine (H1.out _).mono ?_
    rintro e w1 ⟨v1, rfl, hO1, hb1⟩
    have hk1 := (keep1 hb1).2.2.2
    have HP1 : Hid (PB w.heap.size a b c d t m g w1) := (HP.out.keep (Joins.below_draws _ _ _)).keep hk1
    have HQ1 : Hid (w1.heap[w.heap.size + 1 + 1]? = some (.cells #[.int .i64 q0, .int .i64 q1, .int .i64 q2, .int .i64 q3] 48 (0, 0))) := blk_keep hk1 HQ.out
    have HX1 : Hid (w1.heap[w.heap.size + 1 + 1 + 1]? = some (.cells #[.int .i64 m, .int .i64 m, .int .i64 g] 25 (0, 0))) := blk_keep hb1 (blk_new' _ _ (by simp))
    have HR1 := Lib.hid (ReadsI.of_owns hO1)
    have hB1 : Below w.heap.size w w1 := hB0.trans (((Joins.below_draws _ _ _).trans hk1).mono hB0.size)
    clear HP HQ hB0 hk1 hb1 hO1
    obtain ⟨⟨p0, p1, p2, p3⟩, ⟨t0, t1, t2⟩, hs1⟩ := HP1.out
    have u0 := blk_cell HQ1.out 0 rfl
    have u1 := blk_cell HQ1.out 1 rfl
    have u2 := blk_cell HQ1.out 2 rfl
    have u3 := blk_cell HQ1.out 3 rfl
    have l3 := blk_lt HX1.out
    have l2 : w.heap.size + 1 + 1 < w1.heap.size := by omega
    have l1 : w.heap.size + 1 < w1.heap.size := by omega
    have l0 : w.heap.size < w1.heap.size := by omega
    go_wp2_with fail
    refine (H2.out _).mono ?_
    rintro e w2 ⟨v2, rfl, hO2, hb2⟩
    have hk2 := (keep1 hb2).2.2.2
    have HP2 : Hid (PB w.heap.size a b c d t m g w2) := HP1.out.keep hk2
    have HQ2 : Hid (w2.heap[w.heap.size + 1 + 1]? = some (.cells #[.int .i64 q0, .int .i64 q1, .int .i64 q2, .int .i64 q3] 48 (0, 0))) := blk_keep hk2 HQ1.out
    have HX2 : Hid (w2.heap[w.heap.size + 1 + 1 + 1]? = some (.cells #[.int .i64 m, .int .i64 m, .int .i64 g] 25 (0, 0))) := blk_keep hk2 HX1.out
    have HR2 : Hid (ReadsI w2 v1 L1) := HR1.out.keep hk2
    have HS2 := Lib.hid (ReadsI.of_owns hO2)
    have hB2 := hB1.trans (hk2.mono hB1.size)
    clear HP1 HQ1 HX1 HR1 hB1 hk2 hb2 hO2 p0 p1 p2 p3 t0 t1 t2 hs1 u0 u1 u2 u3 l0 l1 l2 l3
    obtain ⟨⟨p0, p1, p2, p3⟩, ⟨t0, t1, t2⟩, hs1⟩ := HP2.out
    have u0 := blk_cell HQ2.out 0 rfl
    have u1 := blk_cell HQ2.out 1 rfl
    have u2 := blk_cell HQ2.out 2 rfl
    have u3 := blk_cell HQ2.out 3 rfl
    have x0 := blk_cell HX2.out 0 rfl
    have x1 := blk_cell HX2.out 1 rfl
    have x2 := blk_cell HX2.out 2 rfl
    have l3 := blk_lt HX2.out
    have l2 : w.heap.size + 1 + 1 < w2.heap.size := by omega
    have l1 : w.heap.size + 1 < w2.heap.size := by omega
    have l0 : w.heap.size < w2.heap.size := by omega
    go_wp2_with fail
    refine (H3.out _).mono ?_
    rintro e w3 ⟨v3, rfl, hO3, hb3⟩
    have hk3 := (keep1 hb3).2.2.2
    have HP3 : Hid (PB w.heap.size a b c d t m g w3) := HP2.out.keep hk3
    have HR3 : Hid (ReadsI w3 v1 L1) := HR2.out.keep hk3
    have HS3 : Hid (ReadsI w3 v2 L2) := HS2.out.keep hk3
    have HT3 := Lib.hid (ReadsI.of_owns hO3)
    have hB3 := hB2.trans (hk3.mono hB2.size)
    clear HP2 HQ2 HX2 HR2 HS2 hB2 hk3 hb3 hO3 p0 p1 p2 p3 t0 t1 t2 hs1 u0 u1 u2 u3 l0 l1 l2 l3 x0 x1 x2
    obtain ⟨_, ⟨t0, t1, t2⟩, hs1⟩ := HP3.out
    have l1 : w.heap.size + 1 < w3.heap.size := by omega
    go_wp2_with fail
    clear t0 t1 t2
    obtain ⟨ao1, c1, rfl, hc1, hn1, hx1⟩ := HR3.out.form
    obtain ⟨ao2, c2, rfl, hc2, hn2, hx2⟩ := HS3.out.form
    obtain ⟨ao3, c3, rfl, hc3, hn3, hx3⟩ := HT3.out.form
    have HN := Lib.hid (And.intro hn1 (And.intro hn2 hn3))
    have HXx := Lib.hid (And.intro hx1 (And.intro hx2 hx3))
    clear hn1 hn2 hn3 hx1 hx2 hx3
    by_cases hp : okB t m g
    · refine (rcheckb_ok _ _ _ _ hp).mono ?_
      rintro e w4 ⟨rfl, hb4⟩
      obtain ⟨hpre1, hpre2⟩ := HPre.out (by omega) hp
      have ht1 := prefix_take hpre1
      have ht2 := prefix_take hpre2
      have le1 := ht1.1
      have le2 := ht2.1
      have HT := Lib.hid (And.intro ht1.2 ht2.2)
      clear ht1 ht2 hpre1 hpre2 hp
      have HR4 := Lib.hid ((HR3.out.keep ((Below.refl _ _).alloc (Nat.le_refl _) _)).keep hb4)
      have HS4 := Lib.hid ((HS3.out.keep ((Below.refl _ _).alloc (Nat.le_refl _) _)).keep hb4)
      have HT4 := Lib.hid ((HT3.out.keep ((Below.refl _ _).alloc (Nat.le_refl _) _)).keep hb4)
      have hB4 := hB3.trans ((((Below.refl _ _).alloc (Nat.le_refl _) _).trans (hb4.mono (by simp))).mono hB3.size)
      clear hb4 HR3 HS3 HT3 hB3 HP3 hs1
      have hA : ReadsI w4 (.slice ao2 L1.length c2) L1 := by have := HS4.out.cut le1; rwa [HT.out.1] at this
      have hB : ReadsI w4 (.slice ao3 L2.length c3) L2 := by have := HT4.out.cut le2; rwa [HT.out.2] at this
      have HA := Lib.hid hA; clear hA
      have HBB := Lib.hid hB; clear hB
      go_wp2_with fail
      refine (ints_any _ _ L1 L1 _ HR4.out HA.out (by have := HL.out; omega)).mono ?_
      rintro e w5 ⟨rfl, hb5⟩
      rw [show decide (L1 = L1) = true from by simp]
      have hB5 := hB4.trans (hb5.mono hB4.size)
      have HS5 := Lib.hid (HS4.out.keep hb5)
      have HB5 := Lib.hid (HBB.out.keep hb5)
      clear hb5 HR4 HS4 HT4 HA HBB
      go_wp2_with fail
      refine (ints_any _ _ L2 L2 _ HS5.out HB5.out (by have := HL.out; omega)).mono ?_
      rintro e w6 ⟨rfl, hb6⟩
      rw [show decide (L2 = L2) = true from by simp]
      have hB6 := hB5.trans (hb6.mono hB5.size)
      clear hb6
      go_wp2_with fail
      refine (awake_any _).mono ?_
      rintro e w7 ⟨rfl, hb7⟩
      have hB7 := hB6.trans (hb7.mono hB6.size)
      go_wp2_with fail
      go_ret
      exact ⟨rfl, hB7⟩
    · refine (rcheckb_no _ _ _ _ hp).mono ?_
      rintro e w4 ⟨rfl, hb4⟩
      obtain ⟨e1, e2⟩ := HNil.out hp
      subst e1 e2
      have hB4 := hB3.trans ((((Below.refl _ _).alloc (Nat.le_refl _) _).trans (hb4.mono (by simp))).mono hB3.size)
      go_wp2_with fail
      refine (awake_any _).mono ?_
      rintro e w5 ⟨rfl, hb5⟩
      have hB5 := hB4.trans (hb5.mono hB4.size)
      go_wp2_with fail
      go_ret
      exact ⟨rfl, hB5⟩
end Go.Proofs.Ytmihbfknhflfiaa
