/- Contracts of First, Take, before, After, listed: the program's and the reference's. -/
import Derived.Test.YtmihbfknhflfiaaRetryA
import Derived.Test.YtmihbfknhflfiaaRetryB
namespace Go.Proofs.Ytmihbfknhflfiaa
open Go.RowKit

/-- After. -/
def afterOf (t s : Int) : Int := min (min (max t 0) 1099511627776 + min (max s 0) 1099511627776) 1099511627776
/-- before. -/
def beforeB (t d : Int) : Bool := decide (d < 1 ∨ t < d)

theorem before_any (t d : Int) (w : World) :
    Calls Try.prog 27 #[.int .i64 t, .int .i64 d] w fun e w' => e = .returned (.bool (beforeB t d)) ∧ w = w' := by
  by_cases h1 : d < 1
  · have hv : beforeB t d = true := by unfold beforeB; simp [h1]
    rw [hv]; clear hv
    go_enter Try.func27, Try.ntmps27
    go_wp2
    go_ret
    exact ⟨rfl, rfl⟩
  · by_cases h2 : t < d
    · have hv : beforeB t d = true := by unfold beforeB; simp [h2]
      rw [hv]; clear hv
      go_enter Try.func27, Try.ntmps27
      go_wp2
      all_goals first | (exfalso; omega) | skip
      all_goals
        go_ret
        exact ⟨by simp; try omega, rfl⟩
    · have hv : beforeB t d = false := by unfold beforeB; simp; omega
      rw [hv]; clear hv
      go_enter Try.func27, Try.ntmps27
      go_wp2
      all_goals first | (exfalso; omega) | skip
      all_goals
        go_ret
        exact ⟨by simp; try omega, rfl⟩

theorem rbefore_any (t d : Int) (w : World) :
    Calls Try.prog 29 #[.int .i64 t, .int .i64 d] w fun e w' => e = .returned (.bool (beforeB t d)) ∧ w = w' := by
  by_cases h1 : d < 1
  · have hv : beforeB t d = true := by unfold beforeB; simp [h1]
    rw [hv]; clear hv
    go_enter Try.func29, Try.ntmps29
    go_wp2
    go_ret
    exact ⟨rfl, rfl⟩
  · by_cases h2 : t < d
    · have hv : beforeB t d = true := by unfold beforeB; simp [h2]
      rw [hv]; clear hv
      go_enter Try.func29, Try.ntmps29
      go_wp2
      all_goals first | (exfalso; omega) | skip
      all_goals
        go_ret
        exact ⟨by simp; try omega, rfl⟩
    · have hv : beforeB t d = false := by unfold beforeB; simp; omega
      rw [hv]; clear hv
      go_enter Try.func29, Try.ntmps29
      go_wp2
      all_goals first | (exfalso; omega) | skip
      all_goals
        go_ret
        exact ⟨by simp; try omega, rfl⟩

theorem after_any (t s : Int) (w : World) :
    Calls Try.prog 28 #[.int .i64 t, .int .i64 s] w fun e w' => e = .returned (.int .i64 (afterOf t s)) ∧ w = w' := by
  obtain ⟨R, hR⟩ : ∃ R, R = afterOf t s := ⟨_, rfl⟩
  rw [← hR]
  have HR := Lib.hid hR; clear hR
  go_enter Try.func28, Try.ntmps28
  go_wp2
  all_goals
    go_ret
    refine ⟨?_, rfl⟩
    rw [HR.out]
    simp [afterOf]
    try omega

theorem bound_any (n : Int) (w : World) :
    Calls Try.prog 31 #[.int .i64 n] w fun e w' => e = .returned (.int .i64 (min (max n 0) 1099511627776)) ∧ w = w' := by
  obtain ⟨R, hR⟩ : ∃ R, R = min (max n 0) 1099511627776 := ⟨_, rfl⟩
  rw [← hR]
  have HR := Lib.hid hR; clear hR
  go_enter Try.func31, Try.ntmps31
  go_wp2
  all_goals
    go_ret
    refine ⟨?_, rfl⟩
    rw [HR.out]
    simp
    try omega

theorem rafter_any (t s : Int) (w : World) :
    Calls Try.prog 30 #[.int .i64 t, .int .i64 s] w fun e w' => e = .returned (.int .i64 (afterOf t s)) ∧ w = w' := by
  obtain ⟨R, hR⟩ : ∃ R, R = afterOf t s := ⟨_, rfl⟩
  rw [← hR]
  have HR := Lib.hid hR; clear hR
  go_enter Try.func30, Try.ntmps30
  go_wp2_with fail
  refine (bound_any _ _).mono ?_
  rintro e w' ⟨rfl, rfl⟩
  obtain ⟨x, hx⟩ : ∃ x, x = min (max t 0) 1099511627776 := ⟨_, rfl⟩
  rw [← hx]
  have hx0 : 0 ≤ x ∧ x ≤ 1099511627776 := by omega
  have HX := Lib.hid hx; clear hx
  go_wp2_with fail
  refine (bound_any _ _).mono ?_
  rintro e w' ⟨rfl, rfl⟩
  obtain ⟨y, hy⟩ : ∃ y, y = min (max s 0) 1099511627776 := ⟨_, rfl⟩
  rw [← hy]
  have hy0 : 0 ≤ y ∧ y ≤ 1099511627776 := by omega
  have HY := Lib.hid hy; clear hy
  go_wp2_with fail
  refine (bound_any _ _).mono ?_
  rintro e w' ⟨rfl, rfl⟩
  go_wp2_with fail
  go_ret
  refine ⟨?_, rfl⟩
  rw [HR.out, HX.out, HY.out]
  simp [afterOf]
  try omega

/-- First. -/
def firstOf (t m g : Int) : Int := if okB t m g then min (t + g) m else t
/-- Take: the tokens that are left, and the outcome. -/
def takeOf (t m g : Int) : Int := if okB t m g ∧ 1000 ≤ t then t - 1000 else t
def takeErr (t m g : Int) : Int := if ¬ okB t m g then 1 else if t < 1000 then 22 else 0

set_option maxHeartbeats 400000 in
theorem first_any (t m g : Int) (w : World) :
    Calls Try.prog 19 #[.agg #[.int .i64 t, .int .i64 m, .int .i64 g]] w fun e w' => e = .returned (.agg #[.int .i64 (firstOf t m g), .int .i64 m, .int .i64 g]) ∧ Below w.heap.size w w' := by
  by_cases hp : okB t m g
  · have hv : firstOf t m g = min (t + g) m := by unfold firstOf; rw [if_pos hp]
    rw [hv]; clear hv
    obtain ⟨R, hR⟩ : ∃ R, R = min (t + g) m := ⟨_, rfl⟩
    rw [← hR]
    have HR := Lib.hid hR; clear hR
    go_enter Try.func19, Try.ntmps19
    go_wp2_with fail
    refine (checkb_ok _ _ _ _ hp).mono ?_
    rintro e w1 ⟨rfl, hb⟩
    obtain ⟨hc, hf⟩ := bcell hb
    have hB : Below w.heap.size w w1 := (((Below.refl _ _).alloc (Nat.le_refl _) _).alloc (by simp) _).trans (hb.mono (by simp; omega))
    have k0 : w1.cell? ⟨w.heap.size + 1, 0, none⟩ = some (.int .i64 0) := (hc _ _ (by simp; try omega)).trans (by simp [go_sem])
    have k1 : w1.cell? ⟨w.heap.size + 1, 1, none⟩ = some (.int .i64 0) := (hc _ _ (by simp; try omega)).trans (by simp [go_sem])
    have k2 : w1.cell? ⟨w.heap.size + 1, 2, none⟩ = some (.int .i64 0) := (hc _ _ (by simp; try omega)).trans (by simp [go_sem])
    have j0 : w1.cell? ⟨w.heap.size, 0, none⟩ = some (.int .i64 t) := (hc _ _ (by simp; try omega)).trans (by simp [go_sem])
    have j1 : w1.cell? ⟨w.heap.size, 1, none⟩ = some (.int .i64 m) := (hc _ _ (by simp; try omega)).trans (by simp [go_sem])
    have j2 : w1.cell? ⟨w.heap.size, 2, none⟩ = some (.int .i64 g) := (hc _ _ (by simp; try omega)).trans (by simp [go_sem])
    clear hc
    have hs : w.heap.size + 2 ≤ w1.heap.size := by have := hb.size; simp at this; omega
    obtain ⟨h1, h2, h3, h4, h5⟩ := hp
    go_wp2_with fail
    all_goals first | (exfalso; omega) | skip
    all_goals
      refine bodyPost_ret (by simp [results, Try.results19, go_sem, k0, k1, k2]; rfl) rfl ?_
      refine ⟨?_, ?_⟩
      · rw [HR.out]; simp; try omega
      · go_grown
  · have hv : firstOf t m g = t := by unfold firstOf; rw [if_neg hp]
    rw [hv]; clear hv
    go_enter Try.func19, Try.ntmps19
    go_wp2_with fail
    refine (checkb_no _ _ _ _ hp).mono ?_
    rintro e w1 ⟨rfl, hb⟩
    obtain ⟨hc, hf⟩ := bcell hb
    have hB : Below w.heap.size w w1 := (((Below.refl _ _).alloc (Nat.le_refl _) _).alloc (by simp) _).trans (hb.mono (by simp; omega))
    have k0 : w1.cell? ⟨w.heap.size + 1, 0, none⟩ = some (.int .i64 0) := (hc _ _ (by simp; try omega)).trans (by simp [go_sem])
    have k1 : w1.cell? ⟨w.heap.size + 1, 1, none⟩ = some (.int .i64 0) := (hc _ _ (by simp; try omega)).trans (by simp [go_sem])
    have k2 : w1.cell? ⟨w.heap.size + 1, 2, none⟩ = some (.int .i64 0) := (hc _ _ (by simp; try omega)).trans (by simp [go_sem])
    have j0 : w1.cell? ⟨w.heap.size, 0, none⟩ = some (.int .i64 t) := (hc _ _ (by simp; try omega)).trans (by simp [go_sem])
    have j1 : w1.cell? ⟨w.heap.size, 1, none⟩ = some (.int .i64 m) := (hc _ _ (by simp; try omega)).trans (by simp [go_sem])
    have j2 : w1.cell? ⟨w.heap.size, 2, none⟩ = some (.int .i64 g) := (hc _ _ (by simp; try omega)).trans (by simp [go_sem])
    clear hc
    have hs : w.heap.size + 2 ≤ w1.heap.size := by have := hb.size; simp at this; omega
    go_wp2_with fail
    refine bodyPost_ret (by simp [results, Try.results19, go_sem, k0, k1, k2]; rfl) rfl ?_
    exact ⟨rfl, by go_grown⟩

set_option maxHeartbeats 400000 in
theorem rfirst_any (t m g : Int) (w : World) :
    Calls Try.prog 20 #[.agg #[.int .i64 t, .int .i64 m, .int .i64 g]] w fun e w' => e = .returned (.agg #[.int .i64 (firstOf t m g), .int .i64 m, .int .i64 g]) ∧ Below w.heap.size w w' := by
  by_cases hp : okB t m g
  · have hv : firstOf t m g = min (t + g) m := by unfold firstOf; rw [if_pos hp]
    rw [hv]; clear hv
    obtain ⟨R, hR⟩ : ∃ R, R = min (t + g) m := ⟨_, rfl⟩
    rw [← hR]
    have HR := Lib.hid hR; clear hR
    go_enter Try.func20, Try.ntmps20
    go_wp2_with fail
    refine (rcheckb_ok _ _ _ _ hp).mono ?_
    rintro e w1 ⟨rfl, hb⟩
    obtain ⟨hc, hf⟩ := bcell hb
    have hB : Below w.heap.size w w1 := (((Below.refl _ _).alloc (Nat.le_refl _) _).alloc (by simp) _).trans (hb.mono (by simp; omega))
    have k0 : w1.cell? ⟨w.heap.size + 1, 0, none⟩ = some (.int .i64 0) := (hc _ _ (by simp; try omega)).trans (by simp [go_sem])
    have k1 : w1.cell? ⟨w.heap.size + 1, 1, none⟩ = some (.int .i64 0) := (hc _ _ (by simp; try omega)).trans (by simp [go_sem])
    have k2 : w1.cell? ⟨w.heap.size + 1, 2, none⟩ = some (.int .i64 0) := (hc _ _ (by simp; try omega)).trans (by simp [go_sem])
    have j0 : w1.cell? ⟨w.heap.size, 0, none⟩ = some (.int .i64 t) := (hc _ _ (by simp; try omega)).trans (by simp [go_sem])
    have j1 : w1.cell? ⟨w.heap.size, 1, none⟩ = some (.int .i64 m) := (hc _ _ (by simp; try omega)).trans (by simp [go_sem])
    have j2 : w1.cell? ⟨w.heap.size, 2, none⟩ = some (.int .i64 g) := (hc _ _ (by simp; try omega)).trans (by simp [go_sem])
    clear hc
    have hs : w.heap.size + 2 ≤ w1.heap.size := by have := hb.size; simp at this; omega
    obtain ⟨h1, h2, h3, h4, h5⟩ := hp
    go_wp2_with fail
    all_goals first | (exfalso; omega) | skip
    all_goals
      refine bodyPost_ret (by simp [results, Try.results20, go_sem, k0, k1, k2]; rfl) rfl ?_
      refine ⟨?_, ?_⟩
      · rw [HR.out]; simp; try omega
      · go_grown
  · have hv : firstOf t m g = t := by unfold firstOf; rw [if_neg hp]
    rw [hv]; clear hv
    go_enter Try.func20, Try.ntmps20
    go_wp2_with fail
    refine (rcheckb_no _ _ _ _ hp).mono ?_
    rintro e w1 ⟨rfl, hb⟩
    obtain ⟨hc, hf⟩ := bcell hb
    have hB : Below w.heap.size w w1 := (((Below.refl _ _).alloc (Nat.le_refl _) _).alloc (by simp) _).trans (hb.mono (by simp; omega))
    have k0 : w1.cell? ⟨w.heap.size + 1, 0, none⟩ = some (.int .i64 0) := (hc _ _ (by simp; try omega)).trans (by simp [go_sem])
    have k1 : w1.cell? ⟨w.heap.size + 1, 1, none⟩ = some (.int .i64 0) := (hc _ _ (by simp; try omega)).trans (by simp [go_sem])
    have k2 : w1.cell? ⟨w.heap.size + 1, 2, none⟩ = some (.int .i64 0) := (hc _ _ (by simp; try omega)).trans (by simp [go_sem])
    have j0 : w1.cell? ⟨w.heap.size, 0, none⟩ = some (.int .i64 t) := (hc _ _ (by simp; try omega)).trans (by simp [go_sem])
    have j1 : w1.cell? ⟨w.heap.size, 1, none⟩ = some (.int .i64 m) := (hc _ _ (by simp; try omega)).trans (by simp [go_sem])
    have j2 : w1.cell? ⟨w.heap.size, 2, none⟩ = some (.int .i64 g) := (hc _ _ (by simp; try omega)).trans (by simp [go_sem])
    clear hc
    have hs : w.heap.size + 2 ≤ w1.heap.size := by have := hb.size; simp at this; omega
    go_wp2_with fail
    refine bodyPost_ret (by simp [results, Try.results20, go_sem, k0, k1, k2]; rfl) rfl ?_
    exact ⟨rfl, by go_grown⟩

set_option maxHeartbeats 400000 in
theorem take_any (t m g : Int) (w : World) :
    Calls Try.prog 17 #[.agg #[.int .i64 t, .int .i64 m, .int .i64 g]] w fun e w' => e = .returned (.tuple #[.agg #[.int .i64 (takeOf t m g), .int .i64 m, .int .i64 g], .int .i64 (takeErr t m g)]) ∧ Below w.heap.size w w' := by
  by_cases hp : okB t m g
  · by_cases ht : t < 1000
    · have hv : takeOf t m g = t := by unfold takeOf; rw [if_neg (by omega)]
      have hv2 : takeErr t m g = 22 := by unfold takeErr; rw [if_neg (by simpa using hp), if_pos ht]
      rw [hv, hv2]; clear hv hv2
      go_enter Try.func17, Try.ntmps17
      go_wp2_with fail
      refine (checkb_ok _ _ _ _ hp).mono ?_
      rintro e w1 ⟨rfl, hb⟩
      obtain ⟨hc, hf⟩ := bcell hb
      have hB : Below w.heap.size w w1 := (((Below.refl _ _).alloc (Nat.le_refl _) _).alloc (by simp) _).trans (hb.mono (by simp; omega))
      have k0 : w1.cell? ⟨w.heap.size + 1, 0, none⟩ = some (.int .i64 0) := (hc _ _ (by simp; try omega)).trans (by simp [go_sem])
      have k1 : w1.cell? ⟨w.heap.size + 1, 1, none⟩ = some (.int .i64 0) := (hc _ _ (by simp; try omega)).trans (by simp [go_sem])
      have k2 : w1.cell? ⟨w.heap.size + 1, 2, none⟩ = some (.int .i64 0) := (hc _ _ (by simp; try omega)).trans (by simp [go_sem])
      have j0 : w1.cell? ⟨w.heap.size, 0, none⟩ = some (.int .i64 t) := (hc _ _ (by simp; try omega)).trans (by simp [go_sem])
      have j1 : w1.cell? ⟨w.heap.size, 1, none⟩ = some (.int .i64 m) := (hc _ _ (by simp; try omega)).trans (by simp [go_sem])
      have j2 : w1.cell? ⟨w.heap.size, 2, none⟩ = some (.int .i64 g) := (hc _ _ (by simp; try omega)).trans (by simp [go_sem])
      clear hc
      have hs : w.heap.size + 2 ≤ w1.heap.size := by have := hb.size; simp at this; omega
      go_wp2_with fail
      all_goals first | (exfalso; omega) | skip
      refine bodyPost_ret (by simp [results, Try.results17, go_sem, k0, k1, k2]; rfl) rfl ?_
      exact ⟨rfl, by go_grown⟩
    · have hv : takeOf t m g = t - 1000 := by unfold takeOf; rw [if_pos ⟨hp, by omega⟩]
      have hv2 : takeErr t m g = 0 := by unfold takeErr; rw [if_neg (by simpa using hp), if_neg ht]
      rw [hv, hv2]; clear hv hv2
      go_enter Try.func17, Try.ntmps17
      go_wp2_with fail
      refine (checkb_ok _ _ _ _ hp).mono ?_
      rintro e w1 ⟨rfl, hb⟩
      obtain ⟨hc, hf⟩ := bcell hb
      have hB : Below w.heap.size w w1 := (((Below.refl _ _).alloc (Nat.le_refl _) _).alloc (by simp) _).trans (hb.mono (by simp; omega))
      have k0 : w1.cell? ⟨w.heap.size + 1, 0, none⟩ = some (.int .i64 0) := (hc _ _ (by simp; try omega)).trans (by simp [go_sem])
      have k1 : w1.cell? ⟨w.heap.size + 1, 1, none⟩ = some (.int .i64 0) := (hc _ _ (by simp; try omega)).trans (by simp [go_sem])
      have k2 : w1.cell? ⟨w.heap.size + 1, 2, none⟩ = some (.int .i64 0) := (hc _ _ (by simp; try omega)).trans (by simp [go_sem])
      have j0 : w1.cell? ⟨w.heap.size, 0, none⟩ = some (.int .i64 t) := (hc _ _ (by simp; try omega)).trans (by simp [go_sem])
      have j1 : w1.cell? ⟨w.heap.size, 1, none⟩ = some (.int .i64 m) := (hc _ _ (by simp; try omega)).trans (by simp [go_sem])
      have j2 : w1.cell? ⟨w.heap.size, 2, none⟩ = some (.int .i64 g) := (hc _ _ (by simp; try omega)).trans (by simp [go_sem])
      clear hc
      have hs : w.heap.size + 2 ≤ w1.heap.size := by have := hb.size; simp at this; omega
      obtain ⟨h1, h2, h3, h4, h5⟩ := hp
      go_wp2_with fail
      all_goals first | (exfalso; omega) | skip
      refine bodyPost_ret (by simp [results, Try.results17, go_sem, k0, k1, k2]; rfl) rfl ?_
      exact ⟨rfl, by go_grown⟩
  · have hv : takeOf t m g = t := by unfold takeOf; rw [if_neg (by simp [hp])]
    have hv2 : takeErr t m g = 1 := by unfold takeErr; rw [if_pos hp]
    rw [hv, hv2]; clear hv hv2
    go_enter Try.func17, Try.ntmps17
    go_wp2_with fail
    refine (checkb_no _ _ _ _ hp).mono ?_
    rintro e w1 ⟨rfl, hb⟩
    obtain ⟨hc, hf⟩ := bcell hb
    have hB : Below w.heap.size w w1 := (((Below.refl _ _).alloc (Nat.le_refl _) _).alloc (by simp) _).trans (hb.mono (by simp; omega))
    have k0 : w1.cell? ⟨w.heap.size + 1, 0, none⟩ = some (.int .i64 0) := (hc _ _ (by simp; try omega)).trans (by simp [go_sem])
    have k1 : w1.cell? ⟨w.heap.size + 1, 1, none⟩ = some (.int .i64 0) := (hc _ _ (by simp; try omega)).trans (by simp [go_sem])
    have k2 : w1.cell? ⟨w.heap.size + 1, 2, none⟩ = some (.int .i64 0) := (hc _ _ (by simp; try omega)).trans (by simp [go_sem])
    have j0 : w1.cell? ⟨w.heap.size, 0, none⟩ = some (.int .i64 t) := (hc _ _ (by simp; try omega)).trans (by simp [go_sem])
    have j1 : w1.cell? ⟨w.heap.size, 1, none⟩ = some (.int .i64 m) := (hc _ _ (by simp; try omega)).trans (by simp [go_sem])
    have j2 : w1.cell? ⟨w.heap.size, 2, none⟩ = some (.int .i64 g) := (hc _ _ (by simp; try omega)).trans (by simp [go_sem])
    clear hc
    have hs : w.heap.size + 2 ≤ w1.heap.size := by have := hb.size; simp at this; omega
    go_wp2_with fail
    refine bodyPost_ret (by simp [results, Try.results17, go_sem, k0, k1, k2]; rfl) rfl ?_
    exact ⟨rfl, by go_grown⟩

set_option maxHeartbeats 400000 in
theorem rtake_any (t m g : Int) (w : World) :
    Calls Try.prog 18 #[.agg #[.int .i64 t, .int .i64 m, .int .i64 g]] w fun e w' => e = .returned (.tuple #[.agg #[.int .i64 (takeOf t m g), .int .i64 m, .int .i64 g], .int .i64 (takeErr t m g)]) ∧ Below w.heap.size w w' := by
  by_cases hp : okB t m g
  · by_cases ht : t < 1000
    · have hv : takeOf t m g = t := by unfold takeOf; rw [if_neg (by omega)]
      have hv2 : takeErr t m g = 22 := by unfold takeErr; rw [if_neg (by simpa using hp), if_pos ht]
      rw [hv, hv2]; clear hv hv2
      go_enter Try.func18, Try.ntmps18
      go_wp2_with fail
      refine (rcheckb_ok _ _ _ _ hp).mono ?_
      rintro e w1 ⟨rfl, hb⟩
      obtain ⟨hc, hf⟩ := bcell hb
      have hB : Below w.heap.size w w1 := (((Below.refl _ _).alloc (Nat.le_refl _) _).alloc (by simp) _).trans (hb.mono (by simp; omega))
      have k0 : w1.cell? ⟨w.heap.size + 1, 0, none⟩ = some (.int .i64 0) := (hc _ _ (by simp; try omega)).trans (by simp [go_sem])
      have k1 : w1.cell? ⟨w.heap.size + 1, 1, none⟩ = some (.int .i64 0) := (hc _ _ (by simp; try omega)).trans (by simp [go_sem])
      have k2 : w1.cell? ⟨w.heap.size + 1, 2, none⟩ = some (.int .i64 0) := (hc _ _ (by simp; try omega)).trans (by simp [go_sem])
      have j0 : w1.cell? ⟨w.heap.size, 0, none⟩ = some (.int .i64 t) := (hc _ _ (by simp; try omega)).trans (by simp [go_sem])
      have j1 : w1.cell? ⟨w.heap.size, 1, none⟩ = some (.int .i64 m) := (hc _ _ (by simp; try omega)).trans (by simp [go_sem])
      have j2 : w1.cell? ⟨w.heap.size, 2, none⟩ = some (.int .i64 g) := (hc _ _ (by simp; try omega)).trans (by simp [go_sem])
      clear hc
      have hs : w.heap.size + 2 ≤ w1.heap.size := by have := hb.size; simp at this; omega
      go_wp2_with fail
      all_goals first | (exfalso; omega) | skip
      refine bodyPost_ret (by simp [results, Try.results18, go_sem, k0, k1, k2]; rfl) rfl ?_
      exact ⟨rfl, by go_grown⟩
    · have hv : takeOf t m g = t - 1000 := by unfold takeOf; rw [if_pos ⟨hp, by omega⟩]
      have hv2 : takeErr t m g = 0 := by unfold takeErr; rw [if_neg (by simpa using hp), if_neg ht]
      rw [hv, hv2]; clear hv hv2
      go_enter Try.func18, Try.ntmps18
      go_wp2_with fail
      refine (rcheckb_ok _ _ _ _ hp).mono ?_
      rintro e w1 ⟨rfl, hb⟩
      obtain ⟨hc, hf⟩ := bcell hb
      have hB : Below w.heap.size w w1 := (((Below.refl _ _).alloc (Nat.le_refl _) _).alloc (by simp) _).trans (hb.mono (by simp; omega))
      have k0 : w1.cell? ⟨w.heap.size + 1, 0, none⟩ = some (.int .i64 0) := (hc _ _ (by simp; try omega)).trans (by simp [go_sem])
      have k1 : w1.cell? ⟨w.heap.size + 1, 1, none⟩ = some (.int .i64 0) := (hc _ _ (by simp; try omega)).trans (by simp [go_sem])
      have k2 : w1.cell? ⟨w.heap.size + 1, 2, none⟩ = some (.int .i64 0) := (hc _ _ (by simp; try omega)).trans (by simp [go_sem])
      have j0 : w1.cell? ⟨w.heap.size, 0, none⟩ = some (.int .i64 t) := (hc _ _ (by simp; try omega)).trans (by simp [go_sem])
      have j1 : w1.cell? ⟨w.heap.size, 1, none⟩ = some (.int .i64 m) := (hc _ _ (by simp; try omega)).trans (by simp [go_sem])
      have j2 : w1.cell? ⟨w.heap.size, 2, none⟩ = some (.int .i64 g) := (hc _ _ (by simp; try omega)).trans (by simp [go_sem])
      clear hc
      have hs : w.heap.size + 2 ≤ w1.heap.size := by have := hb.size; simp at this; omega
      obtain ⟨h1, h2, h3, h4, h5⟩ := hp
      go_wp2_with fail
      all_goals first | (exfalso; omega) | skip
      refine bodyPost_ret (by simp [results, Try.results18, go_sem, k0, k1, k2]; rfl) rfl ?_
      exact ⟨rfl, by go_grown⟩
  · have hv : takeOf t m g = t := by unfold takeOf; rw [if_neg (by simp [hp])]
    have hv2 : takeErr t m g = 1 := by unfold takeErr; rw [if_pos hp]
    rw [hv, hv2]; clear hv hv2
    go_enter Try.func18, Try.ntmps18
    go_wp2_with fail
    refine (rcheckb_no _ _ _ _ hp).mono ?_
    rintro e w1 ⟨rfl, hb⟩
    obtain ⟨hc, hf⟩ := bcell hb
    have hB : Below w.heap.size w w1 := (((Below.refl _ _).alloc (Nat.le_refl _) _).alloc (by simp) _).trans (hb.mono (by simp; omega))
    have k0 : w1.cell? ⟨w.heap.size + 1, 0, none⟩ = some (.int .i64 0) := (hc _ _ (by simp; try omega)).trans (by simp [go_sem])
    have k1 : w1.cell? ⟨w.heap.size + 1, 1, none⟩ = some (.int .i64 0) := (hc _ _ (by simp; try omega)).trans (by simp [go_sem])
    have k2 : w1.cell? ⟨w.heap.size + 1, 2, none⟩ = some (.int .i64 0) := (hc _ _ (by simp; try omega)).trans (by simp [go_sem])
    have j0 : w1.cell? ⟨w.heap.size, 0, none⟩ = some (.int .i64 t) := (hc _ _ (by simp; try omega)).trans (by simp [go_sem])
    have j1 : w1.cell? ⟨w.heap.size, 1, none⟩ = some (.int .i64 m) := (hc _ _ (by simp; try omega)).trans (by simp [go_sem])
    have j2 : w1.cell? ⟨w.heap.size, 2, none⟩ = some (.int .i64 g) := (hc _ _ (by simp; try omega)).trans (by simp [go_sem])
    clear hc
    have hs : w.heap.size + 2 ≤ w1.heap.size := by have := hb.size; simp at this; omega
    go_wp2_with fail
    refine bodyPost_ret (by simp [results, Try.results18, go_sem, k0, k1, k2]; rfl) rfl ?_
    exact ⟨rfl, by go_grown⟩
end Go.Proofs.Ytmihbfknhflfiaa
