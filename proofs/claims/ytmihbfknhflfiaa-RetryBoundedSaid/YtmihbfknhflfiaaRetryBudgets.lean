/- RetryBudgets: the walk. -/
import Derived.Test.YtmihbfknhflfiaaRetryE
import Derived.Test.YtmihbfknhflfiaaBase
import Derived.Test.YtmihbfknhflfiaaRetryChecks
import Derived.Laws.StructEq
namespace Go.Proofs.Ytmihbfknhflfiaa
open Go.RowKit

theorem eq_budget (a b c a' b' c' : Int) (w : World) : (Op.equalIn 10000 25 (.agg #[.int .i64 a, .int .i64 b, .int .i64 c]) (.agg #[.int .i64 a', .int .i64 b', .int .i64 c'])).run Try.prog w = .ok (a == a' && (b == b' && c == c')) w := by
  have u3 := Try.underlying3
  have a3 := Try.isAgg3
  have z3 := Try.sizeOf3
  have hS : Try.prog.underlying 25 = some (.struct (Try.prog.fieldsOf 25)) := by kernel_rfl
  rw [show (10000 : Nat) = 9999 + 1 from rfl, run_equalIn_agg w 9999 25 _ _ hS (by kernel_rfl)]
  simp only [Program.fieldsOf, Try.underlying25]
  go_simp
  by_cases h1 : a = a' <;> by_cases h2 : b = b' <;> by_cases h3 : c = c' <;> simp [h1, h2, h3]

theorem okB_take {t m g : Int} (h : okB t m g) : okB (takeOf t m g) m g := by
  unfold takeOf
  split
  · obtain ⟨h1, h2, h3, h4, h5⟩ := h; rename_i q; exact ⟨h1, by omega, by omega, h4, h5⟩
  · exact h
theorem okB_first {t m g : Int} (h : okB t m g) : okB (firstOf t m g) m g := by
  unfold firstOf
  rw [if_pos h]
  obtain ⟨h1, h2, h3, h4, h5⟩ := h; exact ⟨h1, by omega, by omega, h4, h5⟩

theorem rfirst_at (t m g z : Int) (w : World) (h : firstOf t m g = z) :
    Calls Try.prog 20 #[.agg #[.int .i64 t, .int .i64 m, .int .i64 g]] w fun e w' => e = .returned (.agg #[.int .i64 z, .int .i64 m, .int .i64 g]) ∧ Below w.heap.size w w' := by
  rw [← h]; exact rfirst_any _ _ _ _
set_option maxHeartbeats 1000000 in
theorem budgets_walk (t m g : Int) (w : World) :
    Calls Try.prog 5 #[.agg #[.int .i64 t, .int .i64 m, .int .i64 g]] w fun e w' => e = .returned (.bool true) ∧ Below w.heap.size w w' := by
  obtain ⟨x, hx⟩ : ∃ x, takeOf t m g = x := ⟨_, rfl⟩
  obtain ⟨y, hy⟩ : ∃ y, takeErr t m g = y := ⟨_, rfl⟩
  obtain ⟨z, hz⟩ : ∃ z, firstOf t m g = z := ⟨_, rfl⟩
  have HX : Hid (takeOf t m g = x ∧ takeErr t m g = y ∧ firstOf t m g = z) := ⟨hx, hy, hz⟩
  clear hx hy hz
  go_enter Try.func5, Try.ntmps5
  go_wp2_with fail
  refine (take_any _ _ _ _).mono ?_
  rintro e w1 ⟨rfl, hb⟩
  rw [HX.out.1, HX.out.2.1]
  obtain ⟨hc, hf⟩ := bcell hb
  have hB1 : Below w.heap.size w w1 := ((Below.refl _ _).alloc (Nat.le_refl _) _).trans (hb.mono (by simp))
  have hs1 : w.heap.size + 1 ≤ w1.heap.size := by have := hb.size; simp at this; omega
  have b0 : w1.cell? ⟨w.heap.size, 0, none⟩ = some (.int .i64 t) := (hc _ _ (by simp)).trans (by simp [go_sem])
  have b1 : w1.cell? ⟨w.heap.size, 1, none⟩ = some (.int .i64 m) := (hc _ _ (by simp)).trans (by simp [go_sem])
  have b2 : w1.cell? ⟨w.heap.size, 2, none⟩ = some (.int .i64 g) := (hc _ _ (by simp)).trans (by simp [go_sem])
  clear hc hf
  have hlt1 : w.heap.size < w1.heap.size := by omega
  go_wp2_with fail
  refine (rtake_any _ _ _ _).mono ?_
  rintro e w2 ⟨rfl, hb2⟩
  rw [HX.out.1, HX.out.2.1]
  obtain ⟨ko, kn, hlt2, hB2'⟩ := keep1 hb2
  have hB2 : Below w.heap.size w w2 := hB1.trans (hB2'.mono (by omega))
  have c0 : w2.cell? ⟨w1.heap.size, 0, none⟩ = some (.int .i64 x) := kn 0
  have c1 : w2.cell? ⟨w1.heap.size, 1, none⟩ = some (.int .i64 m) := kn 1
  have c2 : w2.cell? ⟨w1.heap.size, 2, none⟩ = some (.int .i64 g) := kn 2
  have b0 := ko hlt1 b0
  have b1 := ko hlt1 b1
  have b2 := ko hlt1 b2
  have hlt3 : w.heap.size < w2.heap.size := by omega
  clear hb2 kn ko hb hB2' hs1
  go_wp2_with fail
  refine (first_any _ _ _ _).mono ?_
  rintro e w3 ⟨rfl, hb3⟩
  rw [HX.out.2.2]
  obtain ⟨ko, kn, hlt4, hB3'⟩ := keep1 hb3
  have hB3 : Below w.heap.size w w3 := hB2.trans (hB3'.mono (by omega))
  have d0 : w3.cell? ⟨w2.heap.size, 0, none⟩ = some (.int .i64 x) := kn 0
  have d1 : w3.cell? ⟨w2.heap.size, 1, none⟩ = some (.int .i64 m) := kn 1
  have d2 : w3.cell? ⟨w2.heap.size, 2, none⟩ = some (.int .i64 g) := kn 2
  have c0 := ko hlt2 c0
  have c1 := ko hlt2 c1
  have c2 := ko hlt2 c2
  have b0 := ko hlt3 b0
  have b1 := ko hlt3 b1
  have b2 := ko hlt3 b2
  have hlt5 : w.heap.size < w3.heap.size := by omega
  have hlt6 : w1.heap.size < w3.heap.size := by omega
  clear hb3 kn ko hB3'
  have hfr : w3.frozen? ⟨w3.heap.size, 0, none⟩ = false := by simp [World.frozen?]
  have hEq := fun (a b c a' b' c' : Int) (w : World) => eq_budget a b c a' b' c' w
  go_wp2_with fail
  obtain ⟨V, hV⟩ : ∃ V : World, V = w3.alloc (.cells #[.int .i64 z, .int .i64 m, .int .i64 g] 25) := ⟨_, rfl⟩
  have hs : V.cell? ⟨w.heap.size, 0, none⟩ = some (.int .i64 t) ∧ V.cell? ⟨w.heap.size, 1, none⟩ = some (.int .i64 m) ∧ V.cell? ⟨w.heap.size, 2, none⟩ = some (.int .i64 g) ∧ V.cell? ⟨w1.heap.size, 0, none⟩ = some (.int .i64 x) ∧ V.cell? ⟨w1.heap.size, 1, none⟩ = some (.int .i64 m) ∧ V.cell? ⟨w1.heap.size, 2, none⟩ = some (.int .i64 g) ∧ V.cell? ⟨w2.heap.size, 0, none⟩ = some (.int .i64 x) ∧ V.cell? ⟨w2.heap.size, 1, none⟩ = some (.int .i64 m) ∧ V.cell? ⟨w2.heap.size, 2, none⟩ = some (.int .i64 g) ∧ V.cell? ⟨w3.heap.size, 0, none⟩ = some (.int .i64 z) ∧ V.cell? ⟨w3.heap.size, 1, none⟩ = some (.int .i64 m) ∧ V.cell? ⟨w3.heap.size, 2, none⟩ = some (.int .i64 g) ∧ w.heap.size + 1 ≤ V.heap.size ∧ w1.heap.size + 1 ≤ V.heap.size ∧ w2.heap.size + 1 ≤ V.heap.size ∧ w3.heap.size + 1 ≤ V.heap.size ∧ Below w.heap.size w V := by
    subst hV
    refine ⟨?_, ?_, ?_, ?_, ?_, ?_, ?_, ?_, ?_, ?_, ?_, ?_, ?_, ?_, ?_, ?_, ?_⟩
    all_goals first | (simp [go_sem, hlt4, hlt5, hlt6, b0, b1, b2, c0, c1, c2, d0, d1, d2]; done) | (simp; omega) | exact hB3.alloc (by omega) _
  rw [← hV]
  obtain ⟨s1, s2, s3, s4, s5, s6, s7, s8, s9, s10, s11, s12, s13, s14, s15, s16, s17⟩ := hs
  clear hV b0 b1 b2 c0 c1 c2 d0 d1 d2 hB3 hfr
  go_region_held3 (fun w' => w'.cell? ⟨w.heap.size, 0, none⟩ = some (.int .i64 t) ∧ w'.cell? ⟨w.heap.size, 1, none⟩ = some (.int .i64 m) ∧ w'.cell? ⟨w.heap.size, 2, none⟩ = some (.int .i64 g) ∧ w'.cell? ⟨w1.heap.size, 0, none⟩ = some (.int .i64 x) ∧ w'.cell? ⟨w1.heap.size, 1, none⟩ = some (.int .i64 m) ∧ w'.cell? ⟨w1.heap.size, 2, none⟩ = some (.int .i64 g) ∧ w'.cell? ⟨w2.heap.size, 0, none⟩ = some (.int .i64 x) ∧ w'.cell? ⟨w2.heap.size, 1, none⟩ = some (.int .i64 m) ∧ w'.cell? ⟨w2.heap.size, 2, none⟩ = some (.int .i64 g) ∧ w'.cell? ⟨w3.heap.size, 0, none⟩ = some (.int .i64 z) ∧ w'.cell? ⟨w3.heap.size, 1, none⟩ = some (.int .i64 m) ∧ w'.cell? ⟨w3.heap.size, 2, none⟩ = some (.int .i64 g) ∧ w.heap.size + 1 ≤ w'.heap.size ∧ w1.heap.size + 1 ≤ w'.heap.size ∧ w2.heap.size + 1 ≤ w'.heap.size ∧ w3.heap.size + 1 ≤ w'.heap.size ∧ Below w.heap.size w w')
    (first | exact ⟨s1, s2, s3, s4, s5, s6, s7, s8, s9, s10, s11, s12, s13, s14, s15, s16, s17.drew⟩ | assumption | (go_split_ands; refine ⟨?_, ?_, ?_, ?_, ?_, ?_, ?_, ?_, ?_, ?_, ?_, ?_, ?_, ?_, ?_, ?_, ?_⟩ <;> first | (with_reducible exact held_cell hb4 (by assumption) (by assumption)) | (with_reducible exact held_size hb4 (by assumption)) | (with_reducible exact held_below hb4 (by assumption) (by assumption))))
    (first | (go_at_call 20; refine (rfirst_at _ _ _ z _ HX.out.2.2).mono ?_; rintro e w4 ⟨rfl, hb4⟩))
  go_split_ands
  go_wp2_with fail
  have hB4 : Below w.heap.size w w4 := by assumption
  have hs4 : w.heap.size + 1 ≤ w4.heap.size := by assumption
  by_cases hp : okB t m g
  · have hx := okB_take hp
    have hz := okB_first hp
    rw [HX.out.1] at hx
    rw [HX.out.2.2] at hz
    have HO : Hid (okB t m g ∧ okB x m g ∧ okB z m g) := ⟨hp, hx, hz⟩
    clear hp hx hz
    refine (rcheckb_ok _ _ _ _ HO.out.1).mono ?_
    rintro e w5 ⟨rfl, hb5⟩
    have p0 : w5.cell? ⟨w1.heap.size, 0, none⟩ = some (.int .i64 x) := held_cell hb5 (by assumption) (by assumption)
    have p1 : w5.cell? ⟨w1.heap.size, 1, none⟩ = some (.int .i64 m) := held_cell hb5 (by assumption) (by assumption)
    have p2 : w5.cell? ⟨w1.heap.size, 2, none⟩ = some (.int .i64 g) := held_cell hb5 (by assumption) (by assumption)
    have q0 : w5.cell? ⟨w3.heap.size, 0, none⟩ = some (.int .i64 z) := held_cell hb5 (by assumption) (by assumption)
    have q1 : w5.cell? ⟨w3.heap.size, 1, none⟩ = some (.int .i64 m) := held_cell hb5 (by assumption) (by assumption)
    have q2 : w5.cell? ⟨w3.heap.size, 2, none⟩ = some (.int .i64 g) := held_cell hb5 (by assumption) (by assumption)
    have l3 : w3.heap.size + 1 ≤ w5.heap.size := held_size hb5 (by assumption)
    have l5 : w.heap.size + 1 ≤ w5.heap.size := held_size hb5 hs4
    have hB5 : Below w.heap.size w w5 := held_below hb5 hs4 hB4
    clear hb5
    go_wp2_with fail
    refine (checkb_ok _ _ _ _ HO.out.2.1).mono ?_
    rintro e w6 ⟨rfl, hb6⟩
    have u0 : w6.cell? ⟨w3.heap.size, 0, none⟩ = some (.int .i64 z) := held_cell hb6 (by assumption) (by assumption)
    have u1 : w6.cell? ⟨w3.heap.size, 1, none⟩ = some (.int .i64 m) := held_cell hb6 (by assumption) (by assumption)
    have u2 : w6.cell? ⟨w3.heap.size, 2, none⟩ = some (.int .i64 g) := held_cell hb6 (by assumption) (by assumption)
    have l6 : w.heap.size + 1 ≤ w6.heap.size := held_size hb6 l5
    have hB6 : Below w.heap.size w w6 := held_below hb6 l5 hB5
    clear hb6
    go_wp2_with fail
    refine (checkb_ok _ _ _ _ HO.out.2.2).mono ?_
    rintro e w7 ⟨rfl, hb7⟩
    have l7 : w.heap.size + 1 ≤ w7.heap.size := held_size hb7 l6
    have hB7 : Below w.heap.size w w7 := held_below hb7 l6 hB6
    go_wp2_with fail
    refine (awake_any _).mono ?_
    rintro e w8 ⟨rfl, hb8⟩
    have hB8 : Below w.heap.size w w8 := held_below hb8 l7 hB7
    go_wp2_with fail
    go_ret
    exact ⟨rfl, hB8⟩
  · refine (rcheckb_no _ _ _ _ hp).mono ?_
    rintro e w5 ⟨rfl, hb5⟩
    have l5 : w.heap.size + 1 ≤ w5.heap.size := held_size hb5 hs4
    have hB5 : Below w.heap.size w w5 := held_below hb5 hs4 hB4
    go_wp2_with fail
    refine (awake_any _).mono ?_
    rintro e w8 ⟨rfl, hb8⟩
    have hB8 : Below w.heap.size w w8 := held_below hb8 l5 hB5
    go_wp2_with fail
    go_ret
    exact ⟨rfl, hB8⟩
end Go.Proofs.Ytmihbfknhflfiaa
