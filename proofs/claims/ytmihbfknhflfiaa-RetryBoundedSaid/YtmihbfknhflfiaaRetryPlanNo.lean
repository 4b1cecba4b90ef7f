/- The contracts of Plan, the program's and the reference's, where nothing is tried. -/
import Derived.Test.YtmihbfknhflfiaaRetryPlan
namespace Go.Proofs.Ytmihbfknhflfiaa
open Go.RowKit

set_option maxHeartbeats 1000000 in
set_option linter.unusedVariables false in
theorem plan_no_p (a b c d t m g now dl code : Int) (safe : Bool) (w : World) (hp : ¬ okP a b c d) :
    Calls Try.prog 23 #[.agg #[.int .i64 a, .int .i64 b, .int .i64 c, .int .i64 d], .agg #[.int .i64 t, .int .i64 m, .int .i64 g], .int .i64 now, .int .i64 dl, .int .i64 code, .bool safe] w (PlanPost m g [] t w) := by
  have hM := planMem_made a b c d t m g w
  have hB := planMem_below a b c d t m g w
  have HM := Lib.hid hM; clear hM
  go_enter Try.func23, Try.ntmps23
  · go_wp2_with fail
    refine (check_no _ _ _ _ _ hp).mono ?_
    rintro e w1 ⟨rfl, hb⟩
    have HM : Hid (PlanMem w.heap.size a b c d t m g w1) := HM.out.keep hb
    have hB := hB.trans (hb.mono hB.size)
    clear hb
    have c0 := blk_cell HM.out.2.1 0 rfl
    have c1 := blk_cell HM.out.2.1 1 rfl
    have c2 := blk_cell HM.out.2.1 2 rfl
    have r0 := blk_cell HM.out.2.2 0 rfl
    have r1 := blk_cell HM.out.2.2 1 rfl
    have r2 := blk_cell HM.out.2.2 2 rfl
    have f0 := blk_free HM.out.2.2 0
    have f1 := blk_free HM.out.2.2 1
    have f2 := blk_free HM.out.2.2 2
    go_wp2_with fail
    all_goals first | (exfalso; omega) | skip
    go_region
    go_wp2_with fail
    refine bodyPost_ret (v := .tuple #[.slice none 0 0, .agg #[.int .i64 t, .int .i64 m, .int .i64 g]]) (by simp [results, Try.results23, go_sem, r0, r1, r2]) rfl ?_
    exact ⟨_, rfl, World.ownsRow_nil _ _ _ _, (set3_below hB (g := w.heap.size + 1 + 1) (by omega) _ _ _).drew⟩

set_option maxHeartbeats 1000000 in
set_option linter.unusedVariables false in
theorem plan_no_b (a b c d t m g now dl code : Int) (safe : Bool) (w : World) (hp : okP a b c d) (hq : ¬ okB t m g) :
    Calls Try.prog 23 #[.agg #[.int .i64 a, .int .i64 b, .int .i64 c, .int .i64 d], .agg #[.int .i64 t, .int .i64 m, .int .i64 g], .int .i64 now, .int .i64 dl, .int .i64 code, .bool safe] w (PlanPost m g [] t w) := by
  have hM := planMem_made a b c d t m g w
  have hB := planMem_below a b c d t m g w
  have HM := Lib.hid hM; clear hM
  go_enter Try.func23, Try.ntmps23
  · go_wp2_with fail
    refine (check_ok _ _ _ _ _ hp).mono ?_
    rintro e w1 ⟨rfl, hb⟩
    have HM : Hid (PlanMem w.heap.size a b c d t m g w1) := HM.out.keep hb
    have hB := hB.trans (hb.mono hB.size)
    clear hb
    have c0 := blk_cell HM.out.2.1 0 rfl
    have c1 := blk_cell HM.out.2.1 1 rfl
    have c2 := blk_cell HM.out.2.1 2 rfl
    go_wp2_with fail
    refine (checkb_no _ _ _ _ hq).mono ?_
    rintro e w2 ⟨rfl, hb⟩
    have HM : Hid (PlanMem w.heap.size a b c d t m g w2) := HM.out.keep hb
    have hB := hB.trans (hb.mono hB.size)
    clear hb
    clear c0 c1 c2
    have c0 := blk_cell HM.out.2.1 0 rfl
    have c1 := blk_cell HM.out.2.1 1 rfl
    have c2 := blk_cell HM.out.2.1 2 rfl
    have r0 := blk_cell HM.out.2.2 0 rfl
    have r1 := blk_cell HM.out.2.2 1 rfl
    have r2 := blk_cell HM.out.2.2 2 rfl
    have f0 := blk_free HM.out.2.2 0
    have f1 := blk_free HM.out.2.2 1
    have f2 := blk_free HM.out.2.2 2
    go_wp2_with fail
    all_goals first | (exfalso; omega) | skip
    go_region
    go_wp2_with fail
    refine bodyPost_ret (v := .tuple #[.slice none 0 0, .agg #[.int .i64 t, .int .i64 m, .int .i64 g]]) (by simp [results, Try.results23, go_sem, r0, r1, r2]) rfl ?_
    exact ⟨_, rfl, World.ownsRow_nil _ _ _ _, (set3_below hB (g := w.heap.size + 1 + 1) (by omega) _ _ _).drew⟩

set_option maxHeartbeats 1000000 in
set_option linter.unusedVariables false in
theorem plan_no_n (a b c d t m g now dl code : Int) (safe : Bool) (w : World) (hp : okP a b c d) (hq : okB t m g) (hn : now < 0) :
    Calls Try.prog 23 #[.agg #[.int .i64 a, .int .i64 b, .int .i64 c, .int .i64 d], .agg #[.int .i64 t, .int .i64 m, .int .i64 g], .int .i64 now, .int .i64 dl, .int .i64 code, .bool safe] w (PlanPost m g [] t w) := by
  have hM := planMem_made a b c d t m g w
  have hB := planMem_below a b c d t m g w
  have HM := Lib.hid hM; clear hM
  go_enter Try.func23, Try.ntmps23
  · go_wp2_with fail
    refine (check_ok _ _ _ _ _ hp).mono ?_
    rintro e w1 ⟨rfl, hb⟩
    have HM : Hid (PlanMem w.heap.size a b c d t m g w1) := HM.out.keep hb
    have hB := hB.trans (hb.mono hB.size)
    clear hb
    have c0 := blk_cell HM.out.2.1 0 rfl
    have c1 := blk_cell HM.out.2.1 1 rfl
    have c2 := blk_cell HM.out.2.1 2 rfl
    go_wp2_with fail
    refine (checkb_ok _ _ _ _ hq).mono ?_
    rintro e w2 ⟨rfl, hb⟩
    have HM : Hid (PlanMem w.heap.size a b c d t m g w2) := HM.out.keep hb
    have hB := hB.trans (hb.mono hB.size)
    clear hb
    clear c0 c1 c2
    have c0 := blk_cell HM.out.2.1 0 rfl
    have c1 := blk_cell HM.out.2.1 1 rfl
    have c2 := blk_cell HM.out.2.1 2 rfl
    have r0 := blk_cell HM.out.2.2 0 rfl
    have r1 := blk_cell HM.out.2.2 1 rfl
    have r2 := blk_cell HM.out.2.2 2 rfl
    have f0 := blk_free HM.out.2.2 0
    have f1 := blk_free HM.out.2.2 1
    have f2 := blk_free HM.out.2.2 2
    go_wp2_with fail
    all_goals first | (exfalso; omega) | skip
    go_region
    go_wp2_with fail
    refine bodyPost_ret (v := .tuple #[.slice none 0 0, .agg #[.int .i64 t, .int .i64 m, .int .i64 g]]) (by simp [results, Try.results23, go_sem, r0, r1, r2]) rfl ?_
    exact ⟨_, rfl, World.ownsRow_nil _ _ _ _, (set3_below hB (g := w.heap.size + 1 + 1) (by omega) _ _ _).drew⟩

set_option maxHeartbeats 1000000 in
set_option linter.unusedVariables false in
theorem plan_no_m (a b c d t m g now dl code : Int) (safe : Bool) (w : World) (hp : okP a b c d) (hq : okB t m g) (hn : 1099511627776 < now) :
    Calls Try.prog 23 #[.agg #[.int .i64 a, .int .i64 b, .int .i64 c, .int .i64 d], .agg #[.int .i64 t, .int .i64 m, .int .i64 g], .int .i64 now, .int .i64 dl, .int .i64 code, .bool safe] w (PlanPost m g [] t w) := by
  have hM := planMem_made a b c d t m g w
  have hB := planMem_below a b c d t m g w
  have HM := Lib.hid hM; clear hM
  go_enter Try.func23, Try.ntmps23
  · go_wp2_with fail
    refine (check_ok _ _ _ _ _ hp).mono ?_
    rintro e w1 ⟨rfl, hb⟩
    have HM : Hid (PlanMem w.heap.size a b c d t m g w1) := HM.out.keep hb
    have hB := hB.trans (hb.mono hB.size)
    clear hb
    have c0 := blk_cell HM.out.2.1 0 rfl
    have c1 := blk_cell HM.out.2.1 1 rfl
    have c2 := blk_cell HM.out.2.1 2 rfl
    go_wp2_with fail
    refine (checkb_ok _ _ _ _ hq).mono ?_
    rintro e w2 ⟨rfl, hb⟩
    have HM : Hid (PlanMem w.heap.size a b c d t m g w2) := HM.out.keep hb
    have hB := hB.trans (hb.mono hB.size)
    clear hb
    clear c0 c1 c2
    have c0 := blk_cell HM.out.2.1 0 rfl
    have c1 := blk_cell HM.out.2.1 1 rfl
    have c2 := blk_cell HM.out.2.1 2 rfl
    have r0 := blk_cell HM.out.2.2 0 rfl
    have r1 := blk_cell HM.out.2.2 1 rfl
    have r2 := blk_cell HM.out.2.2 2 rfl
    have f0 := blk_free HM.out.2.2 0
    have f1 := blk_free HM.out.2.2 1
    have f2 := blk_free HM.out.2.2 2
    go_wp2_with fail
    all_goals first | (exfalso; omega) | skip
    go_region
    go_wp2_with fail
    refine bodyPost_ret (v := .tuple #[.slice none 0 0, .agg #[.int .i64 t, .int .i64 m, .int .i64 g]]) (by simp [results, Try.results23, go_sem, r0, r1, r2]) rfl ?_
    exact ⟨_, rfl, World.ownsRow_nil _ _ _ _, (set3_below hB (g := w.heap.size + 1 + 1) (by omega) _ _ _).drew⟩

set_option maxHeartbeats 1000000 in
set_option linter.unusedVariables false in
theorem plan_no_d (a b c d t m g now dl code : Int) (safe : Bool) (w : World) (hp : okP a b c d) (hq : okB t m g) (hn : 0 ≤ now) (hn2 : now ≤ 1099511627776) (hd : beforeB now dl = false) :
    Calls Try.prog 23 #[.agg #[.int .i64 a, .int .i64 b, .int .i64 c, .int .i64 d], .agg #[.int .i64 t, .int .i64 m, .int .i64 g], .int .i64 now, .int .i64 dl, .int .i64 code, .bool safe] w (PlanPost m g [] t w) := by
  have hM := planMem_made a b c d t m g w
  have hB := planMem_below a b c d t m g w
  have HM := Lib.hid hM; clear hM
  go_enter Try.func23, Try.ntmps23
  · go_wp2_with fail
    refine (check_ok _ _ _ _ _ hp).mono ?_
    rintro e w1 ⟨rfl, hb⟩
    have HM : Hid (PlanMem w.heap.size a b c d t m g w1) := HM.out.keep hb
    have hB := hB.trans (hb.mono hB.size)
    clear hb
    have c0 := blk_cell HM.out.2.1 0 rfl
    have c1 := blk_cell HM.out.2.1 1 rfl
    have c2 := blk_cell HM.out.2.1 2 rfl
    go_wp2_with fail
    refine (checkb_ok _ _ _ _ hq).mono ?_
    rintro e w2 ⟨rfl, hb⟩
    have HM : Hid (PlanMem w.heap.size a b c d t m g w2) := HM.out.keep hb
    have hB := hB.trans (hb.mono hB.size)
    clear hb
    clear c0 c1 c2
    go_wp2_with fail
    all_goals first | (exfalso; omega) | skip
    refine (before_any _ _ _).mono ?_
    rintro e w3 ⟨rfl, rfl⟩
    rw [hd]
    have c0 := blk_cell HM.out.2.1 0 rfl
    have c1 := blk_cell HM.out.2.1 1 rfl
    have c2 := blk_cell HM.out.2.1 2 rfl
    have r0 := blk_cell HM.out.2.2 0 rfl
    have r1 := blk_cell HM.out.2.2 1 rfl
    have r2 := blk_cell HM.out.2.2 2 rfl
    have f0 := blk_free HM.out.2.2 0
    have f1 := blk_free HM.out.2.2 1
    have f2 := blk_free HM.out.2.2 2
    go_wp2_with fail
    all_goals first | (exfalso; omega) | skip
    go_region
    go_wp2_with fail
    refine bodyPost_ret (v := .tuple #[.slice none 0 0, .agg #[.int .i64 t, .int .i64 m, .int .i64 g]]) (by simp [results, Try.results23, go_sem, r0, r1, r2]) rfl ?_
    exact ⟨_, rfl, World.ownsRow_nil _ _ _ _, (set3_below hB (g := w.heap.size + 1 + 1) (by omega) _ _ _).drew⟩

theorem plan_no (a b c d t m g now dl code : Int) (safe : Bool) (w : World) (h : ¬ planOk a b c d t m g now dl) :
    Calls Try.prog 23 #[.agg #[.int .i64 a, .int .i64 b, .int .i64 c, .int .i64 d], .agg #[.int .i64 t, .int .i64 m, .int .i64 g], .int .i64 now, .int .i64 dl, .int .i64 code, .bool safe] w (PlanPost m g [] t w) := by
  by_cases hp : okP a b c d
  · by_cases hq : okB t m g
    · by_cases h1 : now < 0
      · exact plan_no_n a b c d t m g now dl code safe w hp hq h1
      · by_cases h2 : 1099511627776 < now
        · exact plan_no_m a b c d t m g now dl code safe w hp hq h2
        · refine plan_no_d a b c d t m g now dl code safe w hp hq (by omega) (by omega) ?_
          cases hd : beforeB now dl
          · rfl
          · exact absurd ⟨hp, hq, by omega, by omega, hd⟩ h
    · exact plan_no_b a b c d t m g now dl code safe w hp hq
  · exact plan_no_p a b c d t m g now dl code safe w hp

set_option maxHeartbeats 1000000 in
set_option linter.unusedVariables false in
theorem rplan_no_p (a b c d t m g now dl code : Int) (safe : Bool) (w : World) (hp : ¬ okP a b c d) :
    Calls Try.prog 24 #[.agg #[.int .i64 a, .int .i64 b, .int .i64 c, .int .i64 d], .agg #[.int .i64 t, .int .i64 m, .int .i64 g], .int .i64 now, .int .i64 dl, .int .i64 code, .bool safe] w (PlanPost m g [] t w) := by
  have hM := planMem_made a b c d t m g w
  have hB := planMem_below a b c d t m g w
  have HM := Lib.hid hM; clear hM
  go_enter Try.func24, Try.ntmps24
  · go_wp2_with fail
    refine (rcheck_no _ _ _ _ _ hp).mono ?_
    rintro e w1 ⟨rfl, hb⟩
    have HM : Hid (PlanMem w.heap.size a b c d t m g w1) := HM.out.keep hb
    have hB := hB.trans (hb.mono hB.size)
    clear hb
    have c0 := blk_cell HM.out.2.1 0 rfl
    have c1 := blk_cell HM.out.2.1 1 rfl
    have c2 := blk_cell HM.out.2.1 2 rfl
    have r0 := blk_cell HM.out.2.2 0 rfl
    have r1 := blk_cell HM.out.2.2 1 rfl
    have r2 := blk_cell HM.out.2.2 2 rfl
    have f0 := blk_free HM.out.2.2 0
    have f1 := blk_free HM.out.2.2 1
    have f2 := blk_free HM.out.2.2 2
    go_wp2_with fail
    all_goals first | (exfalso; omega) | skip
    go_region
    go_wp2_with fail
    refine bodyPost_ret (v := .tuple #[.slice none 0 0, .agg #[.int .i64 t, .int .i64 m, .int .i64 g]]) (by simp [results, Try.results24, go_sem, r0, r1, r2]) rfl ?_
    exact ⟨_, rfl, World.ownsRow_nil _ _ _ _, (set3_below hB (g := w.heap.size + 1 + 1) (by omega) _ _ _).drew⟩

set_option maxHeartbeats 1000000 in
set_option linter.unusedVariables false in
theorem rplan_no_b (a b c d t m g now dl code : Int) (safe : Bool) (w : World) (hp : okP a b c d) (hq : ¬ okB t m g) :
    Calls Try.prog 24 #[.agg #[.int .i64 a, .int .i64 b, .int .i64 c, .int .i64 d], .agg #[.int .i64 t, .int .i64 m, .int .i64 g], .int .i64 now, .int .i64 dl, .int .i64 code, .bool safe] w (PlanPost m g [] t w) := by
  have hM := planMem_made a b c d t m g w
  have hB := planMem_below a b c d t m g w
  have HM := Lib.hid hM; clear hM
  go_enter Try.func24, Try.ntmps24
  · go_wp2_with fail
    refine (rcheck_ok _ _ _ _ _ hp).mono ?_
    rintro e w1 ⟨rfl, hb⟩
    have HM : Hid (PlanMem w.heap.size a b c d t m g w1) := HM.out.keep hb
    have hB := hB.trans (hb.mono hB.size)
    clear hb
    have c0 := blk_cell HM.out.2.1 0 rfl
    have c1 := blk_cell HM.out.2.1 1 rfl
    have c2 := blk_cell HM.out.2.1 2 rfl
    go_wp2_with fail
    refine (rcheckb_no _ _ _ _ hq).mono ?_
    rintro e w2 ⟨rfl, hb⟩
    have HM : Hid (PlanMem w.heap.size a b c d t m g w2) := HM.out.keep hb
    have hB := hB.trans (hb.mono hB.size)
    clear hb
    clear c0 c1 c2
    have c0 := blk_cell HM.out.2.1 0 rfl
    have c1 := blk_cell HM.out.2.1 1 rfl
    have c2 := blk_cell HM.out.2.1 2 rfl
    have r0 := blk_cell HM.out.2.2 0 rfl
    have r1 := blk_cell HM.out.2.2 1 rfl
    have r2 := blk_cell HM.out.2.2 2 rfl
    have f0 := blk_free HM.out.2.2 0
    have f1 := blk_free HM.out.2.2 1
    have f2 := blk_free HM.out.2.2 2
    go_wp2_with fail
    all_goals first | (exfalso; omega) | skip
    go_region
    go_wp2_with fail
    refine bodyPost_ret (v := .tuple #[.slice none 0 0, .agg #[.int .i64 t, .int .i64 m, .int .i64 g]]) (by simp [results, Try.results24, go_sem, r0, r1, r2]) rfl ?_
    exact ⟨_, rfl, World.ownsRow_nil _ _ _ _, (set3_below hB (g := w.heap.size + 1 + 1) (by omega) _ _ _).drew⟩

set_option maxHeartbeats 1000000 in
set_option linter.unusedVariables false in
theorem rplan_no_n (a b c d t m g now dl code : Int) (safe : Bool) (w : World) (hp : okP a b c d) (hq : okB t m g) (hn : now < 0) :
    Calls Try.prog 24 #[.agg #[.int .i64 a, .int .i64 b, .int .i64 c, .int .i64 d], .agg #[.int .i64 t, .int .i64 m, .int .i64 g], .int .i64 now, .int .i64 dl, .int .i64 code, .bool safe] w (PlanPost m g [] t w) := by
  have hM := planMem_made a b c d t m g w
  have hB := planMem_below a b c d t m g w
  have HM := Lib.hid hM; clear hM
  go_enter Try.func24, Try.ntmps24
  · go_wp2_with fail
    refine (rcheck_ok _ _ _ _ _ hp).mono ?_
    rintro e w1 ⟨rfl, hb⟩
    have HM : Hid (PlanMem w.heap.size a b c d t m g w1) := HM.out.keep hb
    have hB := hB.trans (hb.mono hB.size)
    clear hb
    have c0 := blk_cell HM.out.2.1 0 rfl
    have c1 := blk_cell HM.out.2.1 1 rfl
    have c2 := blk_cell HM.out.2.1 2 rfl
    go_wp2_with fail
    refine (rcheckb_ok _ _ _ _ hq).mono ?_
    rintro e w2 ⟨rfl, hb⟩
    have HM : Hid (PlanMem w.heap.size a b c d t m g w2) := HM.out.keep hb
    have hB := hB.trans (hb.mono hB.size)
    clear hb
    clear c0 c1 c2
    have c0 := blk_cell HM.out.2.1 0 rfl
    have c1 := blk_cell HM.out.2.1 1 rfl
    have c2 := blk_cell HM.out.2.1 2 rfl
    have r0 := blk_cell HM.out.2.2 0 rfl
    have r1 := blk_cell HM.out.2.2 1 rfl
    have r2 := blk_cell HM.out.2.2 2 rfl
    have f0 := blk_free HM.out.2.2 0
    have f1 := blk_free HM.out.2.2 1
    have f2 := blk_free HM.out.2.2 2
    go_wp2_with fail
    all_goals first | (exfalso; omega) | skip
    go_region
    go_wp2_with fail
    refine bodyPost_ret (v := .tuple #[.slice none 0 0, .agg #[.int .i64 t, .int .i64 m, .int .i64 g]]) (by simp [results, Try.results24, go_sem, r0, r1, r2]) rfl ?_
    exact ⟨_, rfl, World.ownsRow_nil _ _ _ _, (set3_below hB (g := w.heap.size + 1 + 1) (by omega) _ _ _).drew⟩

set_option maxHeartbeats 1000000 in
set_option linter.unusedVariables false in
theorem rplan_no_m (a b c d t m g now dl code : Int) (safe : Bool) (w : World) (hp : okP a b c d) (hq : okB t m g) (hn : 1099511627776 < now) :
    Calls Try.prog 24 #[.agg #[.int .i64 a, .int .i64 b, .int .i64 c, .int .i64 d], .agg #[.int .i64 t, .int .i64 m, .int .i64 g], .int .i64 now, .int .i64 dl, .int .i64 code, .bool safe] w (PlanPost m g [] t w) := by
  have hM := planMem_made a b c d t m g w
  have hB := planMem_below a b c d t m g w
  have HM := Lib.hid hM; clear hM
  go_enter Try.func24, Try.ntmps24
  · go_wp2_with fail
    refine (rcheck_ok _ _ _ _ _ hp).mono ?_
    rintro e w1 ⟨rfl, hb⟩
    have HM : Hid (PlanMem w.heap.size a b c d t m g w1) := HM.out.keep hb
    have hB := hB.trans (hb.mono hB.size)
    clear hb
    have c0 := blk_cell HM.out.2.1 0 rfl
    have c1 := blk_cell HM.out.2.1 1 rfl
    have c2 := blk_cell HM.out.2.1 2 rfl
    go_wp2_with fail
    refine (rcheckb_ok _ _ _ _ hq).mono ?_
    rintro e w2 ⟨rfl, hb⟩
    have HM : Hid (PlanMem w.heap.size a b c d t m g w2) := HM.out.keep hb
    have hB := hB.trans (hb.mono hB.size)
    clear hb
    clear c0 c1 c2
    have c0 := blk_cell HM.out.2.1 0 rfl
    have c1 := blk_cell HM.out.2.1 1 rfl
    have c2 := blk_cell HM.out.2.1 2 rfl
    have r0 := blk_cell HM.out.2.2 0 rfl
    have r1 := blk_cell HM.out.2.2 1 rfl
    have r2 := blk_cell HM.out.2.2 2 rfl
    have f0 := blk_free HM.out.2.2 0
    have f1 := blk_free HM.out.2.2 1
    have f2 := blk_free HM.out.2.2 2
    go_wp2_with fail
    all_goals first | (exfalso; omega) | skip
    go_region
    go_wp2_with fail
    refine bodyPost_ret (v := .tuple #[.slice none 0 0, .agg #[.int .i64 t, .int .i64 m, .int .i64 g]]) (by simp [results, Try.results24, go_sem, r0, r1, r2]) rfl ?_
    exact ⟨_, rfl, World.ownsRow_nil _ _ _ _, (set3_below hB (g := w.heap.size + 1 + 1) (by omega) _ _ _).drew⟩

set_option maxHeartbeats 1000000 in
set_option linter.unusedVariables false in
theorem rplan_no_d (a b c d t m g now dl code : Int) (safe : Bool) (w : World) (hp : okP a b c d) (hq : okB t m g) (hn : 0 ≤ now) (hn2 : now ≤ 1099511627776) (hd : beforeB now dl = false) :
    Calls Try.prog 24 #[.agg #[.int .i64 a, .int .i64 b, .int .i64 c, .int .i64 d], .agg #[.int .i64 t, .int .i64 m, .int .i64 g], .int .i64 now, .int .i64 dl, .int .i64 code, .bool safe] w (PlanPost m g [] t w) := by
  have hM := planMem_made a b c d t m g w
  have hB := planMem_below a b c d t m g w
  have HM := Lib.hid hM; clear hM
  go_enter Try.func24, Try.ntmps24
  · go_wp2_with fail
    refine (rcheck_ok _ _ _ _ _ hp).mono ?_
    rintro e w1 ⟨rfl, hb⟩
    have HM : Hid (PlanMem w.heap.size a b c d t m g w1) := HM.out.keep hb
    have hB := hB.trans (hb.mono hB.size)
    clear hb
    have c0 := blk_cell HM.out.2.1 0 rfl
    have c1 := blk_cell HM.out.2.1 1 rfl
    have c2 := blk_cell HM.out.2.1 2 rfl
    go_wp2_with fail
    refine (rcheckb_ok _ _ _ _ hq).mono ?_
    rintro e w2 ⟨rfl, hb⟩
    have HM : Hid (PlanMem w.heap.size a b c d t m g w2) := HM.out.keep hb
    have hB := hB.trans (hb.mono hB.size)
    clear hb
    clear c0 c1 c2
    go_wp2_with fail
    all_goals first | (exfalso; omega) | skip
    refine (rbefore_any _ _ _).mono ?_
    rintro e w3 ⟨rfl, rfl⟩
    rw [hd]
    have c0 := blk_cell HM.out.2.1 0 rfl
    have c1 := blk_cell HM.out.2.1 1 rfl
    have c2 := blk_cell HM.out.2.1 2 rfl
    have r0 := blk_cell HM.out.2.2 0 rfl
    have r1 := blk_cell HM.out.2.2 1 rfl
    have r2 := blk_cell HM.out.2.2 2 rfl
    have f0 := blk_free HM.out.2.2 0
    have f1 := blk_free HM.out.2.2 1
    have f2 := blk_free HM.out.2.2 2
    go_wp2_with fail
    all_goals first | (exfalso; omega) | skip
    go_region
    go_wp2_with fail
    refine bodyPost_ret (v := .tuple #[.slice none 0 0, .agg #[.int .i64 t, .int .i64 m, .int .i64 g]]) (by simp [results, Try.results24, go_sem, r0, r1, r2]) rfl ?_
    exact ⟨_, rfl, World.ownsRow_nil _ _ _ _, (set3_below hB (g := w.heap.size + 1 + 1) (by omega) _ _ _).drew⟩

theorem rplan_no (a b c d t m g now dl code : Int) (safe : Bool) (w : World) (h : ¬ planOk a b c d t m g now dl) :
    Calls Try.prog 24 #[.agg #[.int .i64 a, .int .i64 b, .int .i64 c, .int .i64 d], .agg #[.int .i64 t, .int .i64 m, .int .i64 g], .int .i64 now, .int .i64 dl, .int .i64 code, .bool safe] w (PlanPost m g [] t w) := by
  by_cases hp : okP a b c d
  · by_cases hq : okB t m g
    · by_cases h1 : now < 0
      · exact rplan_no_n a b c d t m g now dl code safe w hp hq h1
      · by_cases h2 : 1099511627776 < now
        · exact rplan_no_m a b c d t m g now dl code safe w hp hq h2
        · refine rplan_no_d a b c d t m g now dl code safe w hp hq (by omega) (by omega) ?_
          cases hd : beforeB now dl
          · rfl
          · exact absurd ⟨hp, hq, by omega, by omega, hd⟩ h
    · exact rplan_no_b a b c d t m g now dl code safe w hp hq
  · exact rplan_no_p a b c d t m g now dl code safe w hp
end Go.Proofs.Ytmihbfknhflfiaa
