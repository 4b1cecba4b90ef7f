/- RetryMays: the walk. -/
import Derived.Test.YtmihbfknhflfiaaRetryRmay
import Derived.Deep.RegionHeld3
namespace Go.Proofs.Ytmihbfknhflfiaa
open Go.RowKit

set_option maxHeartbeats 1000000 in
theorem mays_walk (a b c d t m g n code : Int) (safe : Bool) (w : World) :
    Calls Try.prog 6 #[.agg #[.int .i64 a, .int .i64 b, .int .i64 c, .int .i64 d], .agg #[.int .i64 t, .int .i64 m, .int .i64 g], .agg #[.int .i64 n, .int .i64 code], .bool safe] w fun e w' => e = .returned (.bool true) ∧ Below w.heap.size w w' := by
  go_enter Try.func6, Try.ntmps6
  go_wp2_with fail
  obtain ⟨V, hV⟩ : ∃ V : World, V = ((w.alloc (.cells #[.int .i64 a, .int .i64 b, .int .i64 c, .int .i64 d] 23)).alloc (.cells #[.int .i64 t, .int .i64 m, .int .i64 g] 25)).alloc (.cells #[.int .i64 n, .int .i64 code] 37) := ⟨_, rfl⟩
  have hs : V.cell? ⟨w.heap.size, 0, none⟩ = some (.int .i64 a) ∧ V.cell? ⟨w.heap.size, 1, none⟩ = some (.int .i64 b) ∧ V.cell? ⟨w.heap.size, 2, none⟩ = some (.int .i64 c) ∧ V.cell? ⟨w.heap.size, 3, none⟩ = some (.int .i64 d) ∧ V.cell? ⟨w.heap.size + 1, 0, none⟩ = some (.int .i64 t) ∧ V.cell? ⟨w.heap.size + 1, 1, none⟩ = some (.int .i64 m) ∧ V.cell? ⟨w.heap.size + 1, 2, none⟩ = some (.int .i64 g) ∧ V.cell? ⟨w.heap.size + 1 + 1, 0, none⟩ = some (.int .i64 n) ∧ V.cell? ⟨w.heap.size + 1 + 1, 1, none⟩ = some (.int .i64 code) ∧ w.heap.size + 1 ≤ V.heap.size ∧ w.heap.size + 1 + 1 ≤ V.heap.size ∧ w.heap.size + 1 + 1 + 1 ≤ V.heap.size ∧ Below w.heap.size w V := by
    subst hV
    refine ⟨?_, ?_, ?_, ?_, ?_, ?_, ?_, ?_, ?_, ?_, ?_, ?_, ?_⟩
    all_goals first | (simp [go_sem]; done) | (simp; omega) | go_grown
  rw [← hV]
  obtain ⟨s1, s2, s3, s4, s5, s6, s7, s8, s9, s10, s11, s12, s13⟩ := hs
  clear hV
  go_region_held3 (fun w' => w'.cell? ⟨w.heap.size, 0, none⟩ = some (.int .i64 a) ∧ w'.cell? ⟨w.heap.size, 1, none⟩ = some (.int .i64 b) ∧ w'.cell? ⟨w.heap.size, 2, none⟩ = some (.int .i64 c) ∧ w'.cell? ⟨w.heap.size, 3, none⟩ = some (.int .i64 d) ∧ w'.cell? ⟨w.heap.size + 1, 0, none⟩ = some (.int .i64 t) ∧ w'.cell? ⟨w.heap.size + 1, 1, none⟩ = some (.int .i64 m) ∧ w'.cell? ⟨w.heap.size + 1, 2, none⟩ = some (.int .i64 g) ∧ w'.cell? ⟨w.heap.size + 1 + 1, 0, none⟩ = some (.int .i64 n) ∧ w'.cell? ⟨w.heap.size + 1 + 1, 1, none⟩ = some (.int .i64 code) ∧ w.heap.size + 1 ≤ w'.heap.size ∧ w.heap.size + 1 + 1 ≤ w'.heap.size ∧ w.heap.size + 1 + 1 + 1 ≤ w'.heap.size ∧ Below w.heap.size w w')
    (first | exact ⟨s1, s2, s3, s4, s5, s6, s7, s8, s9, s10, s11, s12, s13.drew⟩ | assumption | (go_split_ands; refine ⟨?_, ?_, ?_, ?_, ?_, ?_, ?_, ?_, ?_, ?_, ?_, ?_, ?_⟩ <;> first | (with_reducible exact held_cell hb4 (by assumption) (by assumption)) | (with_reducible exact held_size hb4 (by assumption)) | (with_reducible exact held_below hb4 (by assumption) (by assumption))))
    (first | (go_at_call 21; refine (may_any _ _ _ _ _ _ _ _ _ _ _).mono ?_; rintro e w4 ⟨rfl, hb4⟩) | (go_at_call 22; refine (rmay_any _ _ _ _ _ _ _ _ _ _ _).mono ?_; rintro e w4 ⟨rfl, hb4⟩) | (go_at_call 14; refine (awake_any _).mono ?_; rintro e w4 ⟨rfl, hb4⟩))
  go_split_ands
  go_wp2_with fail
  go_ret
  exact ⟨rfl, by assumption⟩
end Go.Proofs.Ytmihbfknhflfiaa
