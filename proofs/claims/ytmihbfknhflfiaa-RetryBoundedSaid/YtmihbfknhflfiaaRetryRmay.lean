/- The contract of the reference's May: it is mayB. -/
import Derived.Test.YtmihbfknhflfiaaRetryMay
namespace Go.Proofs.Ytmihbfknhflfiaa
open Go.RowKit

set_option maxHeartbeats 1000000 in
theorem rmay_any (a b c d t m g n code : Int) (safe : Bool) (w : World) :
    Calls Try.prog 22 #[.agg #[.int .i64 a, .int .i64 b, .int .i64 c, .int .i64 d], .agg #[.int .i64 t, .int .i64 m, .int .i64 g], .int .i64 n, .int .i64 code, .bool safe] w fun e w' => e = .returned (.bool (mayB a b c d t m g n code safe)) ∧ Below w.heap.size w w' := by
  have hW := PB.made a b c d t m g w
  have hB := made_below a b c d t m g w
  have HW := Lib.hid hW; clear hW
  by_cases hp : okP a b c d
  case neg =>
    rw [mayB_no (by simp [hp])]
    go_enter Try.func22, Try.ntmps22
    go_wp2_with fail
    refine (rcheck_no _ _ _ _ _ hp).mono ?_
    rintro e w1 ⟨rfl, hb1⟩
    go_wp2_with fail
    go_ret
    exact ⟨rfl, hB.trans (hb1.mono (by simp; omega))⟩
  by_cases hq : okB t m g
  case neg =>
    rw [mayB_no (by simp [hq])]
    go_enter Try.func22, Try.ntmps22
    go_wp2_with fail
    refine (rcheck_ok _ _ _ _ _ hp).mono ?_
    rintro e w1 ⟨rfl, hb1⟩
    have HP1 := HW.out.keep hb1
    have hB1 := hB.trans (hb1.mono (by simp; omega))
    obtain ⟨_, ⟨t0, t1, t2⟩, hs⟩ := HP1
    go_wp2_with fail
    refine (rcheckb_no _ _ _ _ hq).mono ?_
    rintro e w2 ⟨rfl, hb2⟩
    go_wp2_with fail
    go_ret
    exact ⟨rfl, hB1.trans (hb2.mono (by omega))⟩
  by_cases hn : 1 ≤ n ∧ n < a
  case neg =>
    rw [mayB_no (by simp [hn])]
    go_enter Try.func22, Try.ntmps22
    go_wp2_with fail
    refine (rcheck_ok _ _ _ _ _ hp).mono ?_
    rintro e w1 ⟨rfl, hb1⟩
    have HP1 := HW.out.keep hb1
    have hB1 := hB.trans (hb1.mono (by simp; omega))
    have HP1' := Lib.hid HP1
    obtain ⟨_, ⟨t0, t1, t2⟩, hs⟩ := HP1
    go_wp2_with fail
    refine (rcheckb_ok _ _ _ _ hq).mono ?_
    rintro e w2 ⟨rfl, hb2⟩
    have HP2 := HP1'.out.keep hb2
    have hB2 := hB1.trans (hb2.mono (by omega))
    clear t0 t1 t2
    obtain ⟨⟨p0, p1, p2, p3⟩, _, hs2⟩ := HP2
    by_cases h1 : n < 1
    · go_wp2_with fail
      all_goals first | (exfalso; omega) | skip
      go_ret
      exact ⟨rfl, hB2⟩
    · have h2 : a ≤ n := by omega
      go_wp2_with fail
      all_goals first | (exfalso; omega) | skip
      go_ret
      exact ⟨rfl, hB2⟩
  rw [mayB_of hp hq hn.1 hn.2]
  obtain ⟨hn1, hn2⟩ := hn
  obtain ⟨L, hL⟩ : ∃ L, listedB d code = L := ⟨_, rfl⟩
  rw [hL]
  obtain ⟨R, hR⟩ : ∃ R, R = (L && (safe || decide (code = 12)) && decide (1000 ≤ t)) := ⟨_, rfl⟩
  rw [← hR]
  have HR := Lib.hid hR; clear hR
  have HL := Lib.hid hL; clear hL
  have hd1 : 0 ≤ d := hp.2.2.2.2.2.1
  have hd2 : d < 16384 := hp.2.2.2.2.2.2.1
  go_enter Try.func22, Try.ntmps22
  go_wp2_with fail
  refine (rcheck_ok _ _ _ _ _ hp).mono ?_
  rintro e w1 ⟨rfl, hb1⟩
  have HP1 := HW.out.keep hb1
  have hB1 := hB.trans (hb1.mono (by simp; omega))
  have HP1' := Lib.hid HP1
  obtain ⟨_, ⟨t0, t1, t2⟩, hs⟩ := HP1
  go_wp2_with fail
  refine (rcheckb_ok _ _ _ _ hq).mono ?_
  rintro e w2 ⟨rfl, hb2⟩
  have HP2 := HP1'.out.keep hb2
  have hB2 := hB1.trans (hb2.mono (by omega))
  clear t0 t1 t2 hb2 hb1 HP1' HW hB hB1
  obtain ⟨⟨p0, p1, p2, p3⟩, ⟨t0, t1, t2⟩, hs2⟩ := HP2
  go_wp2_with fail
  all_goals first | (exfalso; omega) | skip
  refine (listed_any d code _ hd1 hd2).mono ?_
  rintro e w3 ⟨rfl, rfl⟩
  rw [HL.out]
  go_wp2_with fail
  all_goals
    go_ret
    refine ⟨?_, hB2⟩
    rw [HR.out]
    simp_all
end Go.Proofs.Ytmihbfknhflfiaa
