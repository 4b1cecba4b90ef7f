/- Contracts of listed and May, the program's and the reference's, and of the statements' own awake. -/
import Derived.Test.YtmihbfknhflfiaaRetryC
import Derived.Test.YtmihbfknhflfiaaRetryD
namespace Go.Proofs.Ytmihbfknhflfiaa
open Go.RowKit

set_option maxHeartbeats 400000 in
theorem awake_any (w : World) :
    Calls Try.prog 14 #[] w fun e w' => e = .returned (.bool true) ∧ Below w.heap.size w w' := by
  have e1 : takeOf 1500 2000 0 = 500 := by decide
  have e2 : takeErr 1500 2000 0 = 0 := by decide
  have e3 : pauseOf 4 100 250 0 3 = 250 := by decide
  have E := Lib.hid (And.intro e1 (And.intro e2 e3)); clear e1 e2 e3
  go_enter Try.func14, Try.ntmps14
  go_wp2_with fail
  refine (take_any _ _ _ _).mono ?_
  rintro e w1 ⟨rfl, hb⟩
  rw [E.out.1, E.out.2.1]
  go_wp2_with fail
  refine (pause_any _ _ _ _ _ _ (by omega) (by omega)).mono ?_
  rintro e w2 ⟨rfl, hb2⟩
  rw [E.out.2.2]
  obtain ⟨hc2, hf2⟩ := bcell hb2
  go_wp2_with fail
  refine (check_no _ _ _ _ _ (by decide)).mono ?_
  rintro e w3 ⟨rfl, hb3⟩
  go_wp2_with fail
  go_ret
  exact ⟨rfl, ((hb.alloc (by have := hb.size; omega) _).trans (hb2.mono (by have := hb.size; simp; omega))).trans (hb3.mono (by have := hb.size; have := hb2.size; simp at this; omega))⟩

/-- The reference's listed. -/
theorem half_pow (d : Int) (k : Nat) (_hd : 0 ≤ d) : (d / 2 ^ k) / 2 = d / 2 ^ (k + 1) := by
  rw [Int.pow_succ, Int.ediv_ediv_of_nonneg (by have : (0 : Int) < 2 ^ k := Int.pow_pos (by decide); omega)]

set_option maxHeartbeats 400000 in
theorem listed_any (d code : Int) (w : World) (hd : 0 ≤ d) (hd2 : d < 16384) :
    Calls Try.prog 26 #[.int .i64 d, .int .i64 code] w fun e w' => e = .returned (.bool (listedB d code)) ∧ w = w' := by
  by_cases h0 : code < 0
  · have hv : listedB d code = false := by unfold listedB; simp; omega
    rw [hv]; clear hv
    go_enter Try.func26, Try.ntmps26
    go_wp2
    go_ret
    exact ⟨rfl, rfl⟩
  by_cases h1 : 13 < code
  · have hv : listedB d code = false := by unfold listedB; simp; omega
    rw [hv]; clear hv
    go_enter Try.func26, Try.ntmps26
    go_wp2
    all_goals first | (exfalso; omega) | skip
    go_ret
    exact ⟨rfl, rfl⟩
  have hv : listedB d code = (d / 2 ^ code.toNat % 2 == 1) := by
    unfold listedB
    rw [Bool.eq_iff_iff]; simp; omega
  rw [hv]; clear hv
  obtain ⟨R, hR⟩ : ∃ R, R = (d / 2 ^ code.toNat % 2 == 1) := ⟨_, rfl⟩
  rw [← hR]
  have HR := Lib.hid hR; clear hR
  go_enter Try.func26, Try.ntmps26
  go_wp2
  all_goals first | (exfalso; omega) | skip
  go_loop [0, 5] (fun t i => ∃ (k : Nat) (p : Int), (k : Int) ≤ code ∧ i = .int .i64 k ∧ t = .int .i64 p ∧ 0 ≤ p ∧ p < 16384 ∧ p = d / 2 ^ k) (fun _ i => (code - intOf i).toNat)
  case atStart => exact ⟨0, d, by omega, rfl, rfl, hd, hd2, by simp⟩
  case round =>
    obtain ⟨k, p, hk, rfl, rfl, hp0, hp1, hp⟩ := hrel
    have HP := Lib.hid hp; clear hp
    by_cases hkk : (k : Int) < code
    · have hs : p / 2 = d / 2 ^ (k + 1) := by rw [HP.out, half_pow d k hd]
      have HS := Lib.hid hs; clear hs
      go_wp2
      go_round
      case rel => exact ⟨k + 1, p / 2, by omega, by go_num, by go_num, by omega, by omega, HS.out⟩
      case measure => simp [intOf]; omega
    · have hfin : R = (p % 2 == 1) := HR.out.trans (by rw [HP.out, show code.toNat = k by omega])
      have HF := Lib.hid hfin; clear hfin
      go_wp2
      all_goals first | (exfalso; omega) | skip
      go_ret
      exact ⟨by rw [HF.out]; rfl, rfl⟩
end Go.Proofs.Ytmihbfknhflfiaa
