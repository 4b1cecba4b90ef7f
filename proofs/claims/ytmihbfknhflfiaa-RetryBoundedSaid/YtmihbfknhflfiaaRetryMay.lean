/- Contracts of May, the program's and the reference's: both are mayB. -/
import Derived.Test.YtmihbfknhflfiaaRetryE
import Derived.Test.YtmihbfknhflfiaaBase
namespace Go.Proofs.Ytmihbfknhflfiaa
open Go.RowKit

/-- The cells of a policy and of a budget in two blocks, one behind the other. -/
def PB (B : Nat) (a b c d t m g : Int) (w : World) : Prop :=
  (w.cell? ⟨B, 0, none⟩ = some (.int .i64 a) ∧ w.cell? ⟨B, 1, none⟩ = some (.int .i64 b) ∧ w.cell? ⟨B, 2, none⟩ = some (.int .i64 c) ∧ w.cell? ⟨B, 3, none⟩ = some (.int .i64 d)) ∧
  (w.cell? ⟨B + 1, 0, none⟩ = some (.int .i64 t) ∧ w.cell? ⟨B + 1, 1, none⟩ = some (.int .i64 m) ∧ w.cell? ⟨B + 1, 2, none⟩ = some (.int .i64 g)) ∧ B + 1 + 1 ≤ w.heap.size
theorem PB.keep {B : Nat} {a b c d t m g : Int} {w w' : World} (h : PB B a b c d t m g w) (hb : Below w.heap.size w w') : PB B a b c d t m g w' := by
  obtain ⟨⟨h1, h2, h3, h4⟩, ⟨h5, h6, h7⟩, h8⟩ := h
  exact ⟨⟨held_cell hb (by omega) h1, held_cell hb (by omega) h2, held_cell hb (by omega) h3, held_cell hb (by omega) h4⟩, ⟨held_cell hb h8 h5, held_cell hb h8 h6, held_cell hb h8 h7⟩, held_size hb h8⟩
theorem PB.made (a b c d t m g : Int) (w : World) : PB w.heap.size a b c d t m g ((w.alloc (.cells #[.int .i64 a, .int .i64 b, .int .i64 c, .int .i64 d] 23)).alloc (.cells #[.int .i64 t, .int .i64 m, .int .i64 g] 25)) := by
  refine ⟨⟨?_, ?_, ?_, ?_⟩, ⟨?_, ?_, ?_⟩, ?_⟩ <;> simp [go_sem]
theorem made_below (a b c d t m g : Int) (w : World) : Below w.heap.size w ((w.alloc (.cells #[.int .i64 a, .int .i64 b, .int .i64 c, .int .i64 d] 23)).alloc (.cells #[.int .i64 t, .int .i64 m, .int .i64 g] 25)) := by go_grown

theorem mayB_of {a b c d t m g n code : Int} {safe : Bool} (hp : okP a b c d) (hb : okB t m g) (h1 : 1 ≤ n) (h2 : n < a) :
    mayB a b c d t m g n code safe = (listedB d code && (safe || decide (code = 12)) && decide (1000 ≤ t)) := by
  unfold mayB; rw [decide_eq_true ⟨hp, hb, h1, h2⟩]; simp
theorem mayB_no {a b c d t m g n code : Int} {safe : Bool} (h : ¬ (okP a b c d ∧ okB t m g ∧ 1 ≤ n ∧ n < a)) : mayB a b c d t m g n code safe = false := by
  unfold mayB; rw [decide_eq_false h]; simp

theorem listedB_out {d code : Int} (h : code < 0 ∨ 13 < code) : listedB d code = false := by
  unfold listedB; apply decide_eq_false; omega
theorem listedB_zero {d : Int} (h : d % 2 = 0) : listedB d 0 = false := by
  unfold listedB; apply decide_eq_false; simp; omega
theorem listedB_in {d code : Int} (h0 : 0 ≤ code) (h1 : code ≤ 13) : listedB d code = (d / 2 ^ code.toNat % 2 == 1) := by
  unfold listedB; rw [Bool.eq_iff_iff]; simp; omega

set_option maxHeartbeats 1000000 in
theorem may_any (a b c d t m g n code : Int) (safe : Bool) (w : World) :
    Calls Try.prog 21 #[.agg #[.int .i64 a, .int .i64 b, .int .i64 c, .int .i64 d], .agg #[.int .i64 t, .int .i64 m, .int .i64 g], .int .i64 n, .int .i64 code, .bool safe] w fun e w' => e = .returned (.bool (mayB a b c d t m g n code safe)) ∧ Below w.heap.size w w' := by
  have hW := PB.made a b c d t m g w
  have hB := made_below a b c d t m g w
  have HW := Lib.hid hW; clear hW
  by_cases hp : okP a b c d
  case neg =>
    rw [mayB_no (by simp [hp])]
    go_enter Try.func21, Try.ntmps21
    go_wp2_with fail
    refine (check_no _ _ _ _ _ hp).mono ?_
    rintro e w1 ⟨rfl, hb1⟩
    go_wp2_with fail
    go_ret
    exact ⟨rfl, hB.trans (hb1.mono (by simp; omega))⟩
  by_cases hq : okB t m g
  case neg =>
    rw [mayB_no (by simp [hq])]
    go_enter Try.func21, Try.ntmps21
    go_wp2_with fail
    refine (check_ok _ _ _ _ _ hp).mono ?_
    rintro e w1 ⟨rfl, hb1⟩
    have HP1 := HW.out.keep hb1
    have hB1 := hB.trans (hb1.mono (by simp; omega))
    obtain ⟨_, ⟨t0, t1, t2⟩, hs⟩ := HP1
    go_wp2_with fail
    refine (checkb_no _ _ _ _ hq).mono ?_
    rintro e w2 ⟨rfl, hb2⟩
    go_wp2_with fail
    go_ret
    exact ⟨rfl, hB1.trans (hb2.mono (by omega))⟩
  by_cases hn : 1 ≤ n ∧ n < a
  case neg =>
    rw [mayB_no (by simp [hn])]
    go_enter Try.func21, Try.ntmps21
    go_wp2_with fail
    refine (check_ok _ _ _ _ _ hp).mono ?_
    rintro e w1 ⟨rfl, hb1⟩
    have HP1 := HW.out.keep hb1
    have hB1 := hB.trans (hb1.mono (by simp; omega))
    have HP1' := Lib.hid HP1
    obtain ⟨_, ⟨t0, t1, t2⟩, hs⟩ := HP1
    go_wp2_with fail
    refine (checkb_ok _ _ _ _ hq).mono ?_
    rintro e w2 ⟨rfl, hb2⟩
    have HP2 := HP1'.out.keep hb2
    have hB2 := hB1.trans (hb2.mono (by omega))
    clear t0 t1 t2
    obtain ⟨⟨p0, p1, p2, p3⟩, _, hs2⟩ := HP2
    by_cases h1 : n < 1
    · go_wp2_with fail
      go_ret
      exact ⟨rfl, hB2⟩
    · have h2 : a ≤ n := by omega
      go_wp2_with fail
      all_goals first | (exfalso; omega) | skip
      go_ret
      exact ⟨rfl, hB2⟩
  rw [mayB_of hp hq hn.1 hn.2]
  obtain ⟨hn1, hn2⟩ := hn
  obtain ⟨R, hR⟩ : ∃ R, R = (listedB d code && (safe || decide (code = 12)) && decide (1000 ≤ t)) := ⟨_, rfl⟩
  rw [← hR]
  have HR := Lib.hid hR; clear hR
  have hd1 : 0 ≤ d := hp.2.2.2.2.2.1
  have hd2 : d < 16384 := hp.2.2.2.2.2.2.1
  have HD : Hid (d % 2 = 0) := hp.2.2.2.2.2.2.2
  have hand : bits .and .i64 (d / 2 ^ code.toNat) 1 = d / 2 ^ code.toNat % 2 := and_one_i64 _
  go_enter Try.func21, Try.ntmps21
  go_wp2_with fail
  refine (check_ok _ _ _ _ _ hp).mono ?_
  rintro e w1 ⟨rfl, hb1⟩
  have HP1 := HW.out.keep hb1
  have hB1 := hB.trans (hb1.mono (by simp; omega))
  have HP1' := Lib.hid HP1
  obtain ⟨_, ⟨t0, t1, t2⟩, hs⟩ := HP1
  go_wp2_with fail
  refine (checkb_ok _ _ _ _ hq).mono ?_
  rintro e w2 ⟨rfl, hb2⟩
  have HP2 := HP1'.out.keep hb2
  have hB2 := hB1.trans (hb2.mono (by omega))
  clear t0 t1 t2 hb2 hb1 HP1' HW hB hB1
  obtain ⟨⟨p0, p1, p2, p3⟩, ⟨t0, t1, t2⟩, hs2⟩ := HP2
  by_cases h1 : code < 1
  · have hf : R = false := HR.out.trans (by
      by_cases h0 : code = 0
      · subst h0; rw [listedB_zero HD.out]; simp
      · rw [listedB_out (.inl (by omega))]; simp)
    have HF := Lib.hid hf; clear hf
    go_wp2_with fail
    go_ret
    exact ⟨by rw [HF.out]; rfl, hB2⟩
  by_cases h2 : 13 < code
  · have hf : R = false := HR.out.trans (by rw [listedB_out (.inr h2)]; simp)
    have HF := Lib.hid hf; clear hf
    go_wp2_with fail
    all_goals first | (exfalso; omega) | skip
    go_ret
    exact ⟨by rw [HF.out]; rfl, hB2⟩
  have hl := listedB_in (d := d) (code := code) (by omega) (by omega)
  have hr : R = (d / 2 ^ code.toNat % 2 == 1 && (safe || decide (code = 12)) && decide (1000 ≤ t)) := by rw [HR.out, hl]
  have HF := Lib.hid hr; clear hr hl
  go_wp2_with fail
  all_goals first | (exfalso; omega) | skip
  all_goals
    go_ret
    refine ⟨?_, hB2⟩
    rw [HF.out]
    rcases (show d / 2 ^ code.toNat % 2 = 0 ∨ d / 2 ^ code.toNat % 2 = 1 by omega) with hx | hx <;> simp_all
end Go.Proofs.Ytmihbfknhflfiaa
