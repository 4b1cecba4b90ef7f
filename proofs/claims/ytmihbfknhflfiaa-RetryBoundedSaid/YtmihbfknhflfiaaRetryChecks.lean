/- RetryChecks: the walk. -/
import Derived.Test.YtmihbfknhflfiaaRetryE
import Derived.Deep.RegionHeld3
import Derived.Deep.DeepCutAuto
namespace Go.Proofs.Ytmihbfknhflfiaa
open Go.RowKit

/-- The outcome of Check and of CheckBudget. -/
def errP (a b c d : Int) : Int := if okP a b c d then 0 else 1
def errB (t m g : Int) : Int := if okB t m g then 0 else 1
theorem check_any (a b c d : Int) (w : World) :
    Calls Try.prog 10 #[.agg #[.int .i64 a, .int .i64 b, .int .i64 c, .int .i64 d]] w fun e w' => e = .returned (.int .i64 (errP a b c d)) ∧ Below w.heap.size w w' := by
  unfold errP; split
  · exact check_ok _ _ _ _ _ ‹_›
  · exact check_no _ _ _ _ _ ‹_›
theorem rcheck_any (a b c d : Int) (w : World) :
    Calls Try.prog 11 #[.agg #[.int .i64 a, .int .i64 b, .int .i64 c, .int .i64 d]] w fun e w' => e = .returned (.int .i64 (errP a b c d)) ∧ Below w.heap.size w w' := by
  unfold errP; split
  · exact rcheck_ok _ _ _ _ _ ‹_›
  · exact rcheck_no _ _ _ _ _ ‹_›
theorem checkb_any (t m g : Int) (w : World) :
    Calls Try.prog 12 #[.agg #[.int .i64 t, .int .i64 m, .int .i64 g]] w fun e w' => e = .returned (.int .i64 (errB t m g)) ∧ Below w.heap.size w w' := by
  unfold errB; split
  · exact checkb_ok _ _ _ _ ‹_›
  · exact checkb_no _ _ _ _ ‹_›
theorem rcheckb_any (t m g : Int) (w : World) :
    Calls Try.prog 13 #[.agg #[.int .i64 t, .int .i64 m, .int .i64 g]] w fun e w' => e = .returned (.int .i64 (errB t m g)) ∧ Below w.heap.size w w' := by
  unfold errB; split
  · exact rcheckb_ok _ _ _ _ ‹_›
  · exact rcheckb_no _ _ _ _ ‹_›

set_option maxHeartbeats 1000000 in
theorem checks_walk (a b c d t m g : Int) (w : World) :
    Calls Try.prog 3 #[.agg #[.int .i64 a, .int .i64 b, .int .i64 c, .int .i64 d], .agg #[.int .i64 t, .int .i64 m, .int .i64 g]] w fun e w' => e = .returned (.bool true) ∧ Below w.heap.size w w' := by
  go_enter Try.func3, Try.ntmps3
  go_wp2_with fail
  obtain ⟨W0, hW0⟩ : ∃ W0 : World, W0 = (w.alloc (.cells #[.int .i64 a, .int .i64 b, .int .i64 c, .int .i64 d] 23)).alloc (.cells #[.int .i64 t, .int .i64 m, .int .i64 g] 25) := ⟨_, rfl⟩
  have hB0 : Below w.heap.size w W0 := by rw [hW0]; go_grown
  have hs0 : w.heap.size + 2 = W0.heap.size := by rw [hW0]; simp
  have c0 : W0.cell? ⟨w.heap.size, 0, none⟩ = some (.int .i64 a) := by rw [hW0]; simp [go_sem]
  have c1 : W0.cell? ⟨w.heap.size, 1, none⟩ = some (.int .i64 b) := by rw [hW0]; simp [go_sem]
  have c2 : W0.cell? ⟨w.heap.size, 2, none⟩ = some (.int .i64 c) := by rw [hW0]; simp [go_sem]
  have c3 : W0.cell? ⟨w.heap.size, 3, none⟩ = some (.int .i64 d) := by rw [hW0]; simp [go_sem]
  have d0 : W0.cell? ⟨w.heap.size + 1, 0, none⟩ = some (.int .i64 t) := by rw [hW0]; simp [go_sem]
  have d1 : W0.cell? ⟨w.heap.size + 1, 1, none⟩ = some (.int .i64 m) := by rw [hW0]; simp [go_sem]
  have d2 : W0.cell? ⟨w.heap.size + 1, 2, none⟩ = some (.int .i64 g) := by rw [hW0]; simp [go_sem]
  have hsz : w.heap.size + 2 ≤ W0.heap.size := by omega
  rw [← hW0]
  clear hW0 hs0
  go_region_held3 (fun w' => w'.cell? ⟨w.heap.size, 0, none⟩ = some (.int .i64 a) ∧ w'.cell? ⟨w.heap.size, 1, none⟩ = some (.int .i64 b) ∧ w'.cell? ⟨w.heap.size, 2, none⟩ = some (.int .i64 c) ∧ w'.cell? ⟨w.heap.size, 3, none⟩ = some (.int .i64 d) ∧ w'.cell? ⟨w.heap.size + 1, 0, none⟩ = some (.int .i64 t) ∧ w'.cell? ⟨w.heap.size + 1, 1, none⟩ = some (.int .i64 m) ∧ w'.cell? ⟨w.heap.size + 1, 2, none⟩ = some (.int .i64 g) ∧ w.heap.size + 2 ≤ w'.heap.size ∧ Below w.heap.size w w')
    (first | exact ⟨c0, c1, c2, c3, d0, d1, d2, hsz, hB0.drew⟩ | (go_split_ands; refine ⟨?_, ?_, ?_, ?_, ?_, ?_, ?_, ?_, ?_⟩ <;> first | (rw [hb.cell (by simp; omega)]; assumption) | (have := hb.size; omega) | exact Below.trans (by assumption) (hb.mono (by omega))))
    (first | (go_at_call 10; refine (check_any _ _ _ _ _).mono ?_; rintro e w' ⟨rfl, hb⟩) | (go_at_call 11; refine (rcheck_any _ _ _ _ _).mono ?_; rintro e w' ⟨rfl, hb⟩) | (go_at_call 12; refine (checkb_any _ _ _ _).mono ?_; rintro e w' ⟨rfl, hb⟩) | (go_at_call 13; refine (rcheckb_any _ _ _ _).mono ?_; rintro e w' ⟨rfl, hb⟩) | (go_at_call 14; refine (awake_any _).mono ?_; rintro e w' ⟨rfl, hb⟩))
  go_split_ands
  go_wp2_with fail
  go_ret
  exact ⟨rfl, by assumption⟩
end Go.Proofs.Ytmihbfknhflfiaa
