/- Contracts of Pause, the program's and the reference's: both are pauseOf. -/
import Derived.Test.YtmihbfknhflfiaaRetryA
import Derived.Test.YtmihbfknhflfiaaRetryB
namespace Go.Proofs.Ytmihbfknhflfiaa
open Go.RowKit

/-- The end of the program's loop. -/
theorem pause_end (b c n p : Int) (k : Nat) (hc : 1 ≤ c) (hc2 : c ≤ 1099511627776) (_hp : 1 ≤ p) (hk : (k : Int) ≤ n - 1)
    (hd : dbl c ((n - 1).toNat - k) p = dbl c (n - 1).toNat b) (h2 : (2 : Int) ^ k ≤ p) (he : c ≤ p ∨ (k : Int) = n - 1 ∨ k = 64) : dbl c (n - 1).toNat b = min p c := by
  rw [← hd]
  rcases he with he | he | he
  · rw [dbl_cap c hc _ p he]; omega
  · rw [show (n - 1).toNat - k = 0 by omega]; rfl
  · subst he
    have : (2 : Int) ^ 64 = 18446744073709551616 := by decide
    rw [this] at h2
    rw [dbl_cap c hc _ p (by omega)]; omega

theorem pause_step (b c n p : Int) (k : Nat) (hk : (k : Int) < n - 1)
    (hd : dbl c ((n - 1).toNat - k) p = dbl c (n - 1).toNat b) (h2 : (2 : Int) ^ k ≤ p) :
    dbl c ((n - 1).toNat - (k + 1)) (p * 2) = dbl c (n - 1).toNat b ∧ (2 : Int) ^ (k + 1) ≤ p * 2 := by
  constructor
  · rw [← hd, show (n - 1).toNat - k = ((n - 1).toNat - (k + 1)) + 1 by omega, dbl, Int.mul_comm]
  · rw [Int.pow_succ]; omega

set_option maxHeartbeats 400000 in
theorem pause_any (a b c d n : Int) (w : World) (hn : n ≤ 9223372036854775807) (hn0 : -9223372036854775808 ≤ n) :
    Calls Try.prog 15 #[.agg #[.int .i64 a, .int .i64 b, .int .i64 c, .int .i64 d], .int .i64 n] w fun e w' => e = .returned (.int .i64 (pauseOf a b c d n)) ∧ Below w.heap.size w w' := by
  by_cases h1 : n < 1
  · have hv : pauseOf a b c d n = 0 := by unfold pauseOf; rw [if_pos (Or.inl h1)]
    rw [hv]; clear hv
    go_enter Try.func15, Try.ntmps15
    go_wp2_with fail
    go_ret
    exact ⟨rfl, by go_grown⟩
  by_cases hp : okP a b c d
  · have hv : pauseOf a b c d n = dbl c (n - 1).toNat b := by unfold pauseOf; rw [if_neg (by simp [hp]; omega)]
    rw [hv]; clear hv
    obtain ⟨R, hR⟩ : ∃ R, R = dbl c (n - 1).toNat b := ⟨_, rfl⟩
    rw [← hR]
    have HR := Lib.hid hR; clear hR
    obtain ⟨N, hN⟩ : ∃ N : Nat, (N : Int) = min (n - 1) 64 := ⟨(min (n - 1) 64).toNat, by omega⟩
    go_enter Try.func15, Try.ntmps15
    have HN := Lib.hid hN; clear hN
    go_wp2_with fail
    refine (check_ok _ _ _ _ _ hp).mono ?_
    rintro e w1 ⟨rfl, hb⟩
    obtain ⟨hc, hf⟩ := bcell hb
    have hcb : 1 ≤ b ∧ b ≤ c ∧ 1 ≤ c ∧ c ≤ 1099511627776 := ⟨hp.2.2.1, hp.2.2.2.1, by have := hp.2.2.1; have := hp.2.2.2.1; omega, hp.2.2.2.2.1⟩
    obtain ⟨hb1, hbc, hc1, hc2⟩ := hcb
    go_wp2_with fail
    all_goals
      go_loop [5, 18] (fun t i => ∃ (k : Nat) (p : Int), k ≤ N ∧ i = .int .i64 k ∧ t = .int .i64 p ∧ 1 ≤ p ∧ p ≤ 2 * c ∧ dbl c ((n - 1).toNat - k) p = dbl c (n - 1).toNat b ∧ (2 : Int) ^ k ≤ p) (fun _ i => N - (intOf i).toNat)
      case atStart => exact ⟨0, b, Nat.zero_le _, rfl, rfl, hb1, by omega, rfl, by simpa using hb1⟩
      case round =>
        obtain ⟨k, p, hkN, rfl, rfl, hp1, hp2, hd, h2⟩ := hrel
        have HD := Lib.hid hd; clear hd
        have H2 := Lib.hid h2; clear h2
        have hN := HN.out
        have hkn : (k : Int) ≤ n - 1 := by omega
        have hk64 : (k : Int) ≤ 64 := by omega
        clear hN
        by_cases hcp : c ≤ p
        · have hfin : R = min p c := HR.out.trans <| pause_end b c n p k hc1 hc2 hp1 hkn HD.out H2.out (.inl hcp)
          have HF := Lib.hid hfin; clear hfin
          go_wp2
          all_goals
            go_ret
            exact ⟨by rw [HF.out]; simp; omega, (((Below.refl _ _).alloc (Nat.le_refl _) _).trans (hb.mono (by simp)))⟩
        · by_cases hkk : k < N
          · have hs := pause_step b c n p k (by have := HN.out; omega) HD.out H2.out
            have HS := Lib.hid hs; clear hs
            have hlt : (k : Int) < n - 1 := by have := HN.out; omega
            have hlt2 : (k : Int) < 64 := by have := HN.out; omega
            go_wp2
            go_round
            case rel => exact ⟨k + 1, p * 2, by omega, by go_num, rfl, by omega, by omega, HS.out.1, HS.out.2⟩
            case measure => simp [intOf]; omega
          · have hfin : R = min p c := HR.out.trans <| pause_end b c n p k hc1 hc2 hp1 hkn HD.out H2.out (.inr (by have := HN.out; omega))
            have HF := Lib.hid hfin; clear hfin
            have hmin : min (n - 1) 64 ≤ (k : Int) := by have := HN.out; omega
            go_wp2
            all_goals
              go_ret
              exact ⟨by rw [HF.out]; simp; omega, (((Below.refl _ _).alloc (Nat.le_refl _) _).trans (hb.mono (by simp)))⟩
  · have hv : pauseOf a b c d n = 0 := by unfold pauseOf; rw [if_pos (Or.inr hp)]
    rw [hv]; clear hv
    go_enter Try.func15, Try.ntmps15
    go_wp2_with fail
    refine (check_no _ _ _ _ _ hp).mono ?_
    rintro e w1 ⟨rfl, hb⟩
    go_wp2_with fail
    go_ret
    exact ⟨rfl, (((Below.refl _ _).alloc (Nat.le_refl _) _).trans (hb.mono (by simp)))⟩

/-- The reference's loop. -/
theorem rpause_step (b c n p : Int) (k : Nat) (hc : 1 ≤ c) (hp : 1 ≤ p) (hk : (k : Int) < n - 1)
    (hd : dbl c ((n - 1).toNat - k) p = dbl c (n - 1).toNat b) :
    dbl c ((n - 1).toNat - (k + 1)) (min (2 * p) c) = dbl c (n - 1).toNat b := by
  rw [← hd, dbl_min c hc _ p hp, show (n - 1).toNat - k = ((n - 1).toNat - (k + 1)) + 1 by omega, dbl]

set_option maxHeartbeats 400000 in
theorem rpause_any (a b c d n : Int) (w : World) (hn : n ≤ 9223372036854775807) (hn0 : -9223372036854775808 ≤ n) :
    Calls Try.prog 16 #[.agg #[.int .i64 a, .int .i64 b, .int .i64 c, .int .i64 d], .int .i64 n] w fun e w' => e = .returned (.int .i64 (pauseOf a b c d n)) ∧ Below w.heap.size w w' := by
  by_cases h1 : n < 1
  · have hv : pauseOf a b c d n = 0 := by unfold pauseOf; rw [if_pos (Or.inl h1)]
    rw [hv]; clear hv
    go_enter Try.func16, Try.ntmps16
    go_wp2_with fail
    go_ret
    exact ⟨rfl, by go_grown⟩
  by_cases hp : okP a b c d
  · have hv : pauseOf a b c d n = dbl c (n - 1).toNat b := by unfold pauseOf; rw [if_neg (by simp [hp]; omega)]
    rw [hv]; clear hv
    obtain ⟨R, hR⟩ : ∃ R, R = dbl c (n - 1).toNat b := ⟨_, rfl⟩
    rw [← hR]
    have HR := Lib.hid hR; clear hR
    go_enter Try.func16, Try.ntmps16
    go_wp2_with fail
    refine (rcheck_ok _ _ _ _ _ hp).mono ?_
    rintro e w1 ⟨rfl, hb⟩
    obtain ⟨hc, hf⟩ := bcell hb
    have hcb : 1 ≤ b ∧ b ≤ c ∧ 1 ≤ c ∧ c ≤ 1099511627776 := ⟨hp.2.2.1, hp.2.2.2.1, by have := hp.2.2.1; have := hp.2.2.2.1; omega, hp.2.2.2.2.1⟩
    obtain ⟨hb1, hbc, hc1, hc2⟩ := hcb
    go_wp2_with fail
    go_loop [5, 6] (fun t i => ∃ (k : Nat) (p : Int), (k : Int) ≤ n - 1 ∧ i = .int .i64 (k + 1) ∧ t = .int .i64 p ∧ 1 ≤ p ∧ p ≤ c ∧ dbl c ((n - 1).toNat - k) p = dbl c (n - 1).toNat b) (fun _ i => (n - intOf i).toNat)
    case atStart => exact ⟨0, b, by omega, rfl, rfl, hb1, by omega, rfl⟩
    case round =>
      obtain ⟨k, p, hkn, rfl, rfl, hp1, hp2, hd⟩ := hrel
      have HD := Lib.hid hd; clear hd
      by_cases hkk : (k : Int) < n - 1
      · by_cases hcp : p < c
        · have hs := rpause_step b c n p k hc1 hp1 hkk HD.out
          have HS := Lib.hid hs; clear hs
          go_wp2
          all_goals first | (exfalso; omega) | skip
          all_goals
            go_round
            case rel => exact ⟨k + 1, min (2 * p) c, by omega, by go_num, by go_num, by omega, by omega, HS.out⟩
            case measure => simp [intOf]; omega
        · have hfin : R = p := HR.out.trans <| by rw [← HD.out, dbl_cap c hc1 _ p (by omega)]; omega
          have HF := Lib.hid hfin; clear hfin
          go_wp2
          all_goals first | (exfalso; omega) | skip
          go_ret
          exact ⟨by rw [HF.out]; rfl, (((Below.refl _ _).alloc (Nat.le_refl _) _).trans (hb.mono (by simp)))⟩
      · have hfin : R = p := HR.out.trans <| by rw [← HD.out, show (n - 1).toNat - k = 0 by omega, dbl]; omega
        have HF := Lib.hid hfin; clear hfin
        go_wp2
        all_goals first | (exfalso; omega) | skip
        go_ret
        exact ⟨by rw [HF.out]; rfl, (((Below.refl _ _).alloc (Nat.le_refl _) _).trans (hb.mono (by simp)))⟩
  · have hv : pauseOf a b c d n = 0 := by unfold pauseOf; rw [if_pos (Or.inr hp)]
    rw [hv]; clear hv
    go_enter Try.func16, Try.ntmps16
    go_wp2_with fail
    refine (rcheck_no _ _ _ _ _ hp).mono ?_
    rintro e w1 ⟨rfl, hb⟩
    go_wp2_with fail
    go_ret
    exact ⟨rfl, (((Below.refl _ _).alloc (Nat.le_refl _) _).trans (hb.mono (by simp)))⟩
end Go.Proofs.Ytmihbfknhflfiaa
