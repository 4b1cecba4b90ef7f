/- RetryPauses: the walk. -/
import Derived.Test.YtmihbfknhflfiaaRetryE
import Derived.Test.YtmihbfknhflfiaaRetryChecks
namespace Go.Proofs.Ytmihbfknhflfiaa
open Go.RowKit

theorem pause_at (a b c d n y : Int) (w : World) (hn : n ≤ 9223372036854775807) (hn0 : -9223372036854775808 ≤ n) (hy : pauseOf a b c d n = y) :
    Calls Try.prog 15 #[.agg #[.int .i64 a, .int .i64 b, .int .i64 c, .int .i64 d], .int .i64 n] w fun e w' => e = .returned (.int .i64 y) ∧ Below w.heap.size w w' := by
  rw [← hy]; exact pause_any _ _ _ _ _ _ hn hn0
theorem rpause_at (a b c d n y : Int) (w : World) (hn : n ≤ 9223372036854775807) (hn0 : -9223372036854775808 ≤ n) (hy : pauseOf a b c d n = y) :
    Calls Try.prog 16 #[.agg #[.int .i64 a, .int .i64 b, .int .i64 c, .int .i64 d], .int .i64 n] w fun e w' => e = .returned (.int .i64 y) ∧ Below w.heap.size w w' := by
  rw [← hy]; exact rpause_any _ _ _ _ _ _ hn hn0

theorem pauseOf_facts (a b c d n : Int) (hp : okP a b c d) (hn : 1 ≤ n) :
    b ≤ pauseOf a b c d n ∧ pauseOf a b c d n ≤ c ∧ 1 ≤ pauseOf a b c d n ∧ pauseOf a b c d (n + 1) = min c (2 * pauseOf a b c d n) ∧ pauseOf a b c d 1 = b := by
  have e : ∀ m : Int, 1 ≤ m → pauseOf a b c d m = dbl c (m - 1).toNat b := fun m hm => by unfold pauseOf; rw [if_neg (by simp [hp]; omega)]
  obtain ⟨h1, h2, h3, h4, h5, _⟩ := hp
  rw [e n hn, e (n + 1) (by omega), e 1 (by omega)]
  have g := dbl_ge c (n - 1).toNat b h3 h4
  refine ⟨g, dbl_le c _ _, by omega, ?_, ?_⟩
  · rw [show (n + 1 - 1).toNat = (n - 1).toNat + 1 by omega]; exact dbl_succ c (by omega) _ b h3
  · show min b c = b; omega

set_option linter.unusedVariables false in
set_option maxHeartbeats 1000000 in
theorem pauses_less (a b c d n x y : Int) (w : World) (hn : n ≤ 9223372036854775807) (hn0 : -9223372036854775808 ≤ n) (hn1 : 1 ≤ n) (hn2 : n ≤ 1000000)
    (HX : Hid (pauseOf a b c d n = x)) (HP : Hid (okP a b c d)) (f1 : b ≤ x) (f2 : x ≤ c) (f3 : 1 ≤ x) (hx2 : x ≤ 1099511627776)
    (K1 : Hid (∀ w : World, Calls Try.prog 15 #[.agg #[.int .i64 a, .int .i64 b, .int .i64 c, .int .i64 d], .int .i64 (n + 1)] w fun e w' => e = .returned (.int .i64 y) ∧ Below w.heap.size w w'))
    (K5 : Hid (∀ w : World, Calls Try.prog 15 #[.agg #[.int .i64 a, .int .i64 b, .int .i64 c, .int .i64 d], .int .i64 1] w fun e w' => e = .returned (.int .i64 b) ∧ Below w.heap.size w w')) (q : 2 * x < c) (q2 : (y == 2 * x) = true) :
    Calls Try.prog 4 #[.agg #[.int .i64 a, .int .i64 b, .int .i64 c, .int .i64 d], .int .i64 n] w fun e w' => e = .returned (.bool true) ∧ Below w.heap.size w w' := by
  have W1 : Hid (IntKind.i64.wrap (n + 1) = n + 1) := IntWalk.i64_in _ (by omega)
  have W2 : Hid (IntKind.i64.wrap (2 * x) = 2 * x) := IntWalk.i64_in _ (by omega)
  go_enter Try.func4, Try.ntmps4
  go_wp2_with fail
  refine (pause_at _ _ _ _ _ x _ hn hn0 HX.out).mono ?_
  rintro e w1 ⟨rfl, hb⟩
  obtain ⟨hc, hf⟩ := bcell hb
  have hB1 : Below w.heap.size w w1 := ((Below.refl _ _).alloc (Nat.le_refl _) _).trans (hb.mono (by simp))
  have hs1 : w.heap.size + 1 ≤ w1.heap.size := by have := hb.size; simp at this; omega
  go_wp2_with fail
  refine (rpause_at _ _ _ _ _ x _ hn hn0 HX.out).mono ?_
  rintro e w2 ⟨rfl, hb2⟩
  obtain ⟨hc2, hf2⟩ := bcell hb2
  have hB2 : Below w.heap.size w w2 := hB1.trans (hb2.mono (by omega))
  have hs2 : w.heap.size + 1 ≤ w2.heap.size := by have := hb2.size; omega
  have c0 : w2.cell? ⟨w.heap.size, 0, none⟩ = some (.int .i64 a) := (hc2 _ _ (by omega)).trans ((hc _ _ (by simp)).trans (by simp [go_sem]))
  have c1 : w2.cell? ⟨w.heap.size, 1, none⟩ = some (.int .i64 b) := (hc2 _ _ (by omega)).trans ((hc _ _ (by simp)).trans (by simp [go_sem]))
  have c2 : w2.cell? ⟨w.heap.size, 2, none⟩ = some (.int .i64 c) := (hc2 _ _ (by omega)).trans ((hc _ _ (by simp)).trans (by simp [go_sem]))
  have c3 : w2.cell? ⟨w.heap.size, 3, none⟩ = some (.int .i64 d) := (hc2 _ _ (by omega)).trans ((hc _ _ (by simp)).trans (by simp [go_sem]))
  clear hc hc2 hf hf2
  go_wp2_with fail
  refine (rcheck_ok _ _ _ _ _ HP.out).mono ?_
  rintro e w3 ⟨rfl, hb3⟩
  obtain ⟨hc3, hf3⟩ := bcell hb3
  have hB3 : Below w.heap.size w w3 := hB2.trans (hb3.mono (by omega))
  have hs3 : w.heap.size + 1 ≤ w3.heap.size := by have := hb3.size; omega
  have e0 := (hc3 _ _ (by omega)).trans c0
  have e1 := (hc3 _ _ (by omega)).trans c1
  have e2 := (hc3 _ _ (by omega)).trans c2
  have e3 := (hc3 _ _ (by omega)).trans c3
  clear hc3 hf3 c0 c1 c2 c3
  go_wp2_with fail
  all_goals first | (exfalso; omega) | skip
  have W1' := W1.out
  have W2' := W2.out
  go_region_held3 (fun w' => w'.cell? ⟨w.heap.size, 0, none⟩ = some (.int .i64 a) ∧ w'.cell? ⟨w.heap.size, 1, none⟩ = some (.int .i64 b) ∧ w'.cell? ⟨w.heap.size, 2, none⟩ = some (.int .i64 c) ∧ w'.cell? ⟨w.heap.size, 3, none⟩ = some (.int .i64 d) ∧ w.heap.size + 1 ≤ w'.heap.size ∧ Below w.heap.size w w')
    (first | exact ⟨e0, e1, e2, e3, hs3, hB3.drew⟩ | assumption | (go_split_ands; refine ⟨?_, ?_, ?_, ?_, ?_, ?_⟩ <;> first | (with_reducible exact held_cell hb4 (by assumption) (by assumption)) | (with_reducible exact held_size hb4 (by assumption)) | (with_reducible exact held_below hb4 (by assumption) (by assumption))))
    (first | (go_at_call_of 15 (Value.int .i64 1); refine (K5.out _).mono ?_; rintro e w4 ⟨rfl, hb4⟩) | (go_at_call 15; refine (K1.out _).mono ?_; rintro e w4 ⟨rfl, hb4⟩) | (go_at_call 14; refine (awake_any _).mono ?_; rintro e w4 ⟨rfl, hb4⟩))
  all_goals
    go_split_ands
    go_wp2_with fail
    go_ret
    exact ⟨rfl, by assumption⟩

set_option linter.unusedVariables false in
set_option maxHeartbeats 1000000 in
theorem pauses_more (a b c d n x y : Int) (w : World) (hn : n ≤ 9223372036854775807) (hn0 : -9223372036854775808 ≤ n) (hn1 : 1 ≤ n) (hn2 : n ≤ 1000000)
    (HX : Hid (pauseOf a b c d n = x)) (HP : Hid (okP a b c d)) (f1 : b ≤ x) (f2 : x ≤ c) (f3 : 1 ≤ x) (hx2 : x ≤ 1099511627776)
    (K1 : Hid (∀ w : World, Calls Try.prog 15 #[.agg #[.int .i64 a, .int .i64 b, .int .i64 c, .int .i64 d], .int .i64 (n + 1)] w fun e w' => e = .returned (.int .i64 y) ∧ Below w.heap.size w w'))
    (K5 : Hid (∀ w : World, Calls Try.prog 15 #[.agg #[.int .i64 a, .int .i64 b, .int .i64 c, .int .i64 d], .int .i64 1] w fun e w' => e = .returned (.int .i64 b) ∧ Below w.heap.size w w')) (q : (2 * x < c) = False) (q2 : (y == c) = true) :
    Calls Try.prog 4 #[.agg #[.int .i64 a, .int .i64 b, .int .i64 c, .int .i64 d], .int .i64 n] w fun e w' => e = .returned (.bool true) ∧ Below w.heap.size w w' := by
  have W1 : Hid (IntKind.i64.wrap (n + 1) = n + 1) := IntWalk.i64_in _ (by omega)
  have W2 : Hid (IntKind.i64.wrap (2 * x) = 2 * x) := IntWalk.i64_in _ (by omega)
  go_enter Try.func4, Try.ntmps4
  go_wp2_with fail
  refine (pause_at _ _ _ _ _ x _ hn hn0 HX.out).mono ?_
  rintro e w1 ⟨rfl, hb⟩
  obtain ⟨hc, hf⟩ := bcell hb
  have hB1 : Below w.heap.size w w1 := ((Below.refl _ _).alloc (Nat.le_refl _) _).trans (hb.mono (by simp))
  have hs1 : w.heap.size + 1 ≤ w1.heap.size := by have := hb.size; simp at this; omega
  go_wp2_with fail
  refine (rpause_at _ _ _ _ _ x _ hn hn0 HX.out).mono ?_
  rintro e w2 ⟨rfl, hb2⟩
  obtain ⟨hc2, hf2⟩ := bcell hb2
  have hB2 : Below w.heap.size w w2 := hB1.trans (hb2.mono (by omega))
  have hs2 : w.heap.size + 1 ≤ w2.heap.size := by have := hb2.size; omega
  have c0 : w2.cell? ⟨w.heap.size, 0, none⟩ = some (.int .i64 a) := (hc2 _ _ (by omega)).trans ((hc _ _ (by simp)).trans (by simp [go_sem]))
  have c1 : w2.cell? ⟨w.heap.size, 1, none⟩ = some (.int .i64 b) := (hc2 _ _ (by omega)).trans ((hc _ _ (by simp)).trans (by simp [go_sem]))
  have c2 : w2.cell? ⟨w.heap.size, 2, none⟩ = some (.int .i64 c) := (hc2 _ _ (by omega)).trans ((hc _ _ (by simp)).trans (by simp [go_sem]))
  have c3 : w2.cell? ⟨w.heap.size, 3, none⟩ = some (.int .i64 d) := (hc2 _ _ (by omega)).trans ((hc _ _ (by simp)).trans (by simp [go_sem]))
  clear hc hc2 hf hf2
  go_wp2_with fail
  refine (rcheck_ok _ _ _ _ _ HP.out).mono ?_
  rintro e w3 ⟨rfl, hb3⟩
  obtain ⟨hc3, hf3⟩ := bcell hb3
  have hB3 : Below w.heap.size w w3 := hB2.trans (hb3.mono (by omega))
  have hs3 : w.heap.size + 1 ≤ w3.heap.size := by have := hb3.size; omega
  have e0 := (hc3 _ _ (by omega)).trans c0
  have e1 := (hc3 _ _ (by omega)).trans c1
  have e2 := (hc3 _ _ (by omega)).trans c2
  have e3 := (hc3 _ _ (by omega)).trans c3
  clear hc3 hf3 c0 c1 c2 c3
  go_wp2_with fail
  all_goals first | (exfalso; omega) | skip
  have W1' := W1.out
  have W2' := W2.out
  go_region_held3 (fun w' => w'.cell? ⟨w.heap.size, 0, none⟩ = some (.int .i64 a) ∧ w'.cell? ⟨w.heap.size, 1, none⟩ = some (.int .i64 b) ∧ w'.cell? ⟨w.heap.size, 2, none⟩ = some (.int .i64 c) ∧ w'.cell? ⟨w.heap.size, 3, none⟩ = some (.int .i64 d) ∧ w.heap.size + 1 ≤ w'.heap.size ∧ Below w.heap.size w w')
    (first | exact ⟨e0, e1, e2, e3, hs3, hB3.drew⟩ | assumption | (go_split_ands; refine ⟨?_, ?_, ?_, ?_, ?_, ?_⟩ <;> first | (with_reducible exact held_cell hb4 (by assumption) (by assumption)) | (with_reducible exact held_size hb4 (by assumption)) | (with_reducible exact held_below hb4 (by assumption) (by assumption))))
    (first | (go_at_call_of 15 (Value.int .i64 1); refine (K5.out _).mono ?_; rintro e w4 ⟨rfl, hb4⟩) | (go_at_call 15; refine (K1.out _).mono ?_; rintro e w4 ⟨rfl, hb4⟩) | (go_at_call 14; refine (awake_any _).mono ?_; rintro e w4 ⟨rfl, hb4⟩))
  all_goals
    go_split_ands
    go_wp2_with fail
    go_ret
    exact ⟨rfl, by assumption⟩

set_option maxHeartbeats 1000000 in
theorem pauses_invalid (a b c d n : Int) (w : World) (hn : n ≤ 9223372036854775807) (hn0 : -9223372036854775808 ≤ n) (hv : ¬ (okP a b c d ∧ 1 ≤ n ∧ n ≤ 1000000)) :
    Calls Try.prog 4 #[.agg #[.int .i64 a, .int .i64 b, .int .i64 c, .int .i64 d], .int .i64 n] w fun e w' => e = .returned (.bool true) ∧ Below w.heap.size w w' := by
  obtain ⟨x, hx⟩ : ∃ x, pauseOf a b c d n = x := ⟨_, rfl⟩
  have HX := Lib.hid hx; clear hx
  have HV := Lib.hid hv; clear hv
  go_enter Try.func4, Try.ntmps4
  go_wp2_with fail
  refine (pause_at _ _ _ _ _ x _ hn hn0 HX.out).mono ?_
  rintro e w1 ⟨rfl, hb⟩
  obtain ⟨hc, hf⟩ := bcell hb
  have hB1 : Below w.heap.size w w1 := ((Below.refl _ _).alloc (Nat.le_refl _) _).trans (hb.mono (by simp))
  have hs1 : w.heap.size + 1 ≤ w1.heap.size := by have := hb.size; simp at this; omega
  go_wp2_with fail
  refine (rpause_at _ _ _ _ _ x _ hn hn0 HX.out).mono ?_
  rintro e w2 ⟨rfl, hb2⟩
  obtain ⟨hc2, hf2⟩ := bcell hb2
  have hB2 : Below w.heap.size w w2 := hB1.trans (hb2.mono (by omega))
  have hs2 : w.heap.size + 1 ≤ w2.heap.size := by have := hb2.size; omega
  have c0 : w2.cell? ⟨w.heap.size, 0, none⟩ = some (.int .i64 a) := (hc2 _ _ (by omega)).trans ((hc _ _ (by simp)).trans (by simp [go_sem]))
  have c1 : w2.cell? ⟨w.heap.size, 1, none⟩ = some (.int .i64 b) := (hc2 _ _ (by omega)).trans ((hc _ _ (by simp)).trans (by simp [go_sem]))
  have c2 : w2.cell? ⟨w.heap.size, 2, none⟩ = some (.int .i64 c) := (hc2 _ _ (by omega)).trans ((hc _ _ (by simp)).trans (by simp [go_sem]))
  have c3 : w2.cell? ⟨w.heap.size, 3, none⟩ = some (.int .i64 d) := (hc2 _ _ (by omega)).trans ((hc _ _ (by simp)).trans (by simp [go_sem]))
  clear hc hc2 hf hf2
  by_cases hp : okP a b c d
  · have hn3 : n < 1 ∨ 1000000 < n := by
      have := HV.out
      by_cases h1 : n < 1
      · exact .inl h1
      · by_cases h2 : 1000000 < n
        · exact .inr h2
        · exact absurd ⟨hp, by omega, by omega⟩ this
    have HP := Lib.hid hp; clear hp
    rcases hn3 with h3 | h3
    all_goals
      go_wp2_with fail
      refine (rcheck_ok _ _ _ _ _ HP.out).mono ?_
      rintro e w3 ⟨rfl, hb3⟩
      have hB3 : Below w.heap.size w w3 := hB2.trans (hb3.mono (by omega))
      go_wp2_with fail
      all_goals first | (exfalso; omega) | skip
      refine (awake_any _).mono ?_
      rintro e w4 ⟨rfl, hb4⟩
      have hB4 : Below w.heap.size w w4 := hB3.trans (hb4.mono (by have := hB3.size; omega))
      go_wp2_with fail
      go_ret
      exact ⟨rfl, hB4⟩
  · go_wp2_with fail
    refine (rcheck_no _ _ _ _ _ hp).mono ?_
    rintro e w3 ⟨rfl, hb3⟩
    have hB3 : Below w.heap.size w w3 := hB2.trans (hb3.mono (by omega))
    go_wp2_with fail
    refine (awake_any _).mono ?_
    rintro e w4 ⟨rfl, hb4⟩
    have hB4 : Below w.heap.size w w4 := hB3.trans (hb4.mono (by have := hB3.size; omega))
    go_wp2_with fail
    go_ret
    exact ⟨rfl, hB4⟩

theorem pauses_walk (a b c d n : Int) (w : World) (hn : n ≤ 9223372036854775807) (hn0 : -9223372036854775808 ≤ n) :
    Calls Try.prog 4 #[.agg #[.int .i64 a, .int .i64 b, .int .i64 c, .int .i64 d], .int .i64 n] w fun e w' => e = .returned (.bool true) ∧ Below w.heap.size w w' := by
  by_cases hv : okP a b c d ∧ 1 ≤ n ∧ n ≤ 1000000
  · obtain ⟨hp, hn1, hn2⟩ := hv
    obtain ⟨f1, f2, f3, f4, f5⟩ := pauseOf_facts a b c d n hp hn1
    obtain ⟨x, hx⟩ : ∃ x, pauseOf a b c d n = x := ⟨_, rfl⟩
    rw [hx] at f1 f2 f3 f4
    obtain ⟨y, hy⟩ : ∃ y, pauseOf a b c d (n + 1) = y := ⟨_, rfl⟩
    rw [hy] at f4
    have hc := hp.2.2.2.2.1
    have K1 : Hid (∀ w : World, Calls Try.prog 15 #[.agg #[.int .i64 a, .int .i64 b, .int .i64 c, .int .i64 d], .int .i64 (n + 1)] w fun e w' => e = .returned (.int .i64 y) ∧ Below w.heap.size w w') := fun w => pause_at _ _ _ _ _ y w (by omega) (by omega) hy
    have K5 : Hid (∀ w : World, Calls Try.prog 15 #[.agg #[.int .i64 a, .int .i64 b, .int .i64 c, .int .i64 d], .int .i64 1] w fun e w' => e = .returned (.int .i64 b) ∧ Below w.heap.size w w') := fun w => pause_at _ _ _ _ _ b w (by omega) (by omega) f5
    by_cases h1 : 2 * x < c
    · exact pauses_less a b c d n x y w hn hn0 hn1 hn2 hx hp f1 f2 f3 (by omega) K1 K5 h1 (by simp only [beq_iff_eq]; omega)
    · exact pauses_more a b c d n x y w hn hn0 hn1 hn2 hx hp f1 f2 f3 (by omega) K1 K5 (by simp only [h1]) (by simp only [beq_iff_eq]; omega)
  · exact pauses_invalid a b c d n w hn hn0 hv
end Go.Proofs.Ytmihbfknhflfiaa
