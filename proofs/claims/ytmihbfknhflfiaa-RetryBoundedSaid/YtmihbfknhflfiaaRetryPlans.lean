/- RetryPlans: the walk. -/
import Derived.Test.YtmihbfknhflfiaaRetryPlanNo
import Derived.Test.YtmihbfknhflfiaaRetryRplan
import Derived.Test.YtmihbfknhflfiaaRetryInts
import Derived.Test.YtmihbfknhflfiaaRetryBudgets
namespace Go.Proofs.Ytmihbfknhflfiaa
open Go.RowKit

theorem plan_any (a b c d t m g now dl code : Int) (safe : Bool) (w : World) :
    Calls Try.prog 23 #[.agg #[.int .i64 a, .int .i64 b, .int .i64 c, .int .i64 d], .agg #[.int .i64 t, .int .i64 m, .int .i64 g], .int .i64 now, .int .i64 dl, .int .i64 code, .bool safe] w
      (PlanPost m g (planOf a b c d t m g now dl code safe).1 (planOf a b c d t m g now dl code safe).2 w) := by
  by_cases h : planOk a b c d t m g now dl
  · exact plan_yes a b c d t m g now dl code safe w h
  · have e : planOf a b c d t m g now dl code safe = ([], t) := if_neg h
    rw [e]; exact plan_no a b c d t m g now dl code safe w h
theorem rplan_any (a b c d t m g now dl code : Int) (safe : Bool) (w : World) :
    Calls Try.prog 24 #[.agg #[.int .i64 a, .int .i64 b, .int .i64 c, .int .i64 d], .agg #[.int .i64 t, .int .i64 m, .int .i64 g], .int .i64 now, .int .i64 dl, .int .i64 code, .bool safe] w
      (PlanPost m g (planOf a b c d t m g now dl code safe).1 (planOf a b c d t m g now dl code safe).2 w) := by
  by_cases h : planOk a b c d t m g now dl
  · exact rplan_yes a b c d t m g now dl code safe w h
  · have e : planOf a b c d t m g now dl code safe = ([], t) := if_neg h
    rw [e]; exact rplan_no a b c d t m g now dl code safe w h

theorem planGo_len (a b c d m g dl code : Int) (safe : Bool) (f : Nat) : ∀ (n last t : Int), 1 ≤ n → ((planGo a b c d m g dl code safe f n last t).1 = [] ∨ (n + (planGo a b c d m g dl code safe f n last t).1.length ≤ a ∧ a ≤ 10)) := by
  induction f with
  | zero => intro n last t _; exact .inl rfl
  | succ f ih =>
    intro n last t hn
    rw [planGo]
    split
    · rename_i h
      obtain ⟨hp, _, _, hna, _⟩ := mayB_parts h.1
      right
      have ha : a ≤ 10 := hp.2.1
      rcases ih (n + 1) (afterOf last (pauseOf a b c d n)) (t - 1000) (by omega) with e | e
      · refine ⟨?_, ha⟩; rw [e]; simp; omega
      · refine ⟨?_, ha⟩; simp; omega
    · exact .inl rfl

theorem planOf_len (a b c d t m g now dl code : Int) (safe : Bool) : (planOf a b c d t m g now dl code safe).1.length ≤ 10 := by
  unfold planOf
  split
  · rcases planGo_len a b c d m g dl code safe 10 1 now (firstOf t m g) (by omega) with e | e
    · rw [e]; simp
    · simp; omega
  · simp

set_option maxHeartbeats 1000000 in
theorem plans_walk (a b c d t m g now dl code : Int) (safe : Bool) (w : World) :
    Calls Try.prog 7 #[.agg #[.int .i64 a, .int .i64 b, .int .i64 c, .int .i64 d], .agg #[.int .i64 t, .int .i64 m, .int .i64 g], .agg #[.int .i64 now, .int .i64 dl, .int .i64 code], .bool safe] w fun e w' => e = .returned (.bool true) ∧ Below w.heap.size w w' := by
  have KP : Hid (∀ w : World, Calls Try.prog 23 #[.agg #[.int .i64 a, .int .i64 b, .int .i64 c, .int .i64 d], .agg #[.int .i64 t, .int .i64 m, .int .i64 g], .int .i64 now, .int .i64 dl, .int .i64 code, .bool safe] w
      (PlanPost m g (planOf a b c d t m g now dl code safe).1 (planOf a b c d t m g now dl code safe).2 w)) := fun w => plan_any a b c d t m g now dl code safe w
  have KR : Hid (∀ w : World, Calls Try.prog 24 #[.agg #[.int .i64 a, .int .i64 b, .int .i64 c, .int .i64 d], .agg #[.int .i64 t, .int .i64 m, .int .i64 g], .int .i64 now, .int .i64 dl, .int .i64 code, .bool safe] w
      (PlanPost m g (planOf a b c d t m g now dl code safe).1 (planOf a b c d t m g now dl code safe).2 w)) := fun w => rplan_any a b c d t m g now dl code safe w
  have hlen := planOf_len a b c d t m g now dl code safe
  obtain ⟨L, hL⟩ : ∃ L, (planOf a b c d t m g now dl code safe).1 = L := ⟨_, rfl⟩
  obtain ⟨f, hf⟩ : ∃ f, (planOf a b c d t m g now dl code safe).2 = f := ⟨_, rfl⟩
  rw [hL, hf] at KP KR
  rw [hL] at hlen
  clear hL hf
  have HL := Lib.hid hlen; clear hlen
  have P0 : PB w.heap.size a b c d t m g (((w.alloc (.cells #[.int .i64 a, .int .i64 b, .int .i64 c, .int .i64 d] 23)).alloc (.cells #[.int .i64 t, .int .i64 m, .int .i64 g] 25)).alloc (.cells #[.int .i64 now, .int .i64 dl, .int .i64 code] 40)) :=
    (PB.made a b c d t m g w).keep ((Below.refl _ _).alloc (Nat.le_refl _) _)
  have Q0 := blk_new ((w.alloc (.cells #[.int .i64 a, .int .i64 b, .int .i64 c, .int .i64 d] 23)).alloc (.cells #[.int .i64 t, .int .i64 m, .int .i64 g] 25)) (.cells #[.int .i64 now, .int .i64 dl, .int .i64 code] 40)
  have hB0 : Below w.heap.size w (((w.alloc (.cells #[.int .i64 a, .int .i64 b, .int .i64 c, .int .i64 d] 23)).alloc (.cells #[.int .i64 t, .int .i64 m, .int .i64 g] 25)).alloc (.cells #[.int .i64 now, .int .i64 dl, .int .i64 code] 40)) := by go_grown
  simp only [World.size_alloc] at Q0
  have HP := Lib.hid P0; clear P0
  have HQ := Lib.hid Q0; clear Q0
  go_enter Try.func7, Try.ntmps7
  go_wp2_with fail
  refine (KP.out _).mono ?_
  rintro e w1 ⟨v1, rfl, hO1, hb1⟩
  have HP1 := Lib.hid (HP.out.keep hb1)
  have HQ1 := Lib.hid (blk_keep hb1 HQ.out)
  have HR1 := Lib.hid (ReadsI.of_owns hO1)
  have hB1 := hB0.trans (hb1.mono hB0.size)
  clear HP HQ hb1 hB0 hO1
  obtain ⟨⟨p0, p1, p2, p3⟩, ⟨t0, t1, t2⟩, hs1⟩ := HP1.out
  have q0 := blk_cell HQ1.out 0 rfl
  have q1 := blk_cell HQ1.out 1 rfl
  have q2 := blk_cell HQ1.out 2 rfl
  have l0 : w.heap.size < w1.heap.size := by omega
  have l1 : w.heap.size + 1 < w1.heap.size := by omega
  have l2 : w.heap.size + 1 + 1 < w1.heap.size := blk_lt HQ1.out
  go_wp2_with fail
  refine (KR.out _).mono ?_
  rintro e w2 ⟨v2, rfl, hO2, hb2⟩
  have X1 := blk_keep hb2 (blk_new w1 (.cells #[.int .i64 f, .int .i64 m, .int .i64 g] 25))
  have HR2 : Hid (ReadsI w2 v1 L) := (HR1.out.keep ((Below.refl _ _).alloc (Nat.le_refl _) _)).keep hb2
  have HS2 := Lib.hid (ReadsI.of_owns hO2)
  have hB2 := hB1.trans ((keep1 hb2).2.2.2.mono hB1.size)
  have l3 : w1.heap.size < w2.heap.size := (keep1 hb2).2.2.1
  have HX1 := Lib.hid X1
  clear X1 p0 p1 p2 p3 t0 t1 t2 hs1 q0 q1 q2 l0 l1 l2 hb2 hB1 HR1 HP1 HQ1 hO2
  have hEq := fun (a b c a' b' c' : Int) (w : World) => eq_budget a b c a' b' c' w
  have HEq := Lib.hid hEq; clear hEq
  go_wp2_with fail
  refine (ints_any v1 v2 L L _ (HR2.out.keep ((Below.refl _ _).alloc (Nat.le_refl _) _)) (HS2.out.keep ((Below.refl _ _).alloc (Nat.le_refl _) _)) (by have := HL.out; omega)).mono ?_
  rintro e w3 ⟨rfl, hb3⟩
  rw [show decide (L = L) = true from by simp]
  have Y1 := blk_keep hb3 (blk_old HX1.out (.cells #[.int .i64 f, .int .i64 m, .int .i64 g] 25))
  have Y2 := blk_keep hb3 (blk_new w2 (.cells #[.int .i64 f, .int .i64 m, .int .i64 g] 25))
  have hB3 := hB2.trans ((keep1 hb3).2.2.2.mono hB2.size)
  have y0 := blk_cell Y1 0 rfl
  have y1 := blk_cell Y1 1 rfl
  have y2 := blk_cell Y1 2 rfl
  have z0 := blk_cell Y2 0 rfl
  have z1 := blk_cell Y2 1 rfl
  have z2 := blk_cell Y2 2 rfl
  have hEq := HEq.out
  clear Y1 Y2 hb3 l3
  go_wp2_with fail
  refine (awake_any _).mono ?_
  rintro e w4 ⟨rfl, hb4⟩
  have hB4 := hB3.trans (hb4.mono hB3.size)
  go_wp2_with fail
  go_ret
  exact ⟨rfl, hB4⟩
end Go.Proofs.Ytmihbfknhflfiaa
