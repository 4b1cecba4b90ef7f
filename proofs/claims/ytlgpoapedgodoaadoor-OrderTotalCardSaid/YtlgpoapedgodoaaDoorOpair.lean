/- cmpPair, cmpSlot, cmpRaw: each out of its callees' contracts. -/
import Derived.Test.YtlgpoapedgodoaaDoorOr
namespace Go.Proofs.YtlgpoapedgodoaaDoor
open Go.RowKit

set_option maxRecDepth 8000 in
set_option maxHeartbeats 2000000 in
theorem opair_ok (n : Nat) (HC : Hid (OCmp n)) : OPair n := by
  rintro v v' x y w ⟨ekx, ezx, etx, d1x, l1x, c1x, d2x, l2x, c2x, d3x, l3x, c3x, d4x, l4x, c4x, eky, ezy, ety, d1y, l1y, c1y, d2y, l2y, c2y, d3y, l3y, c3y, d4y, l4y, c4y, rfl, g1, g2⟩ ⟨ekx', ezx', etx', d1x', l1x', c1x', d2x', l2x', c2x', d3x', l3x', c3x', d4x', l4x', c4x', eky', ezy', ety', d1y', l1y', c1y', d2y', l2y', c2y', d3y', l3y', c3y', d4y', l4y', c4y', rfl, g1', g2'⟩
  obtain ⟨D1, H1⟩ : ∃ D : Int, Hid (D = cmpV n x.1 y.1) := ⟨_, Lib.hid rfl⟩
  obtain ⟨D2, H2⟩ : ∃ D : Int, Hid (D = cmpV n x.2 y.2) := ⟨_, Lib.hid rfl⟩
  rw [show cmpP (cmpV n) x y = orI D1 D2 by rw [H1.out, H2.out]; rfl]
  have K1 : Hid (∀ w' : World, Below w.heap.size w w' → Calls Tryd.prog 13 #[.agg #[.int .i64 ekx, .int .u64 ezx, .string etx, .slice d1x l1x c1x, .slice d2x l2x c2x, .slice d3x l3x c3x, .slice d4x l4x c4x], .agg #[.int .i64 ekx', .int .u64 ezx', .string etx', .slice d1x' l1x' c1x', .slice d2x' l2x' c2x', .slice d3x' l3x' c3x', .slice d4x' l4x' c4x']] w' fun e w2 => e = .returned (.int .i64 D1) ∧ Below w'.heap.size w' w2) := by
    intro w' hb
    rw [H1.out]
    exact HC.out _ _ x.1 y.1 _ ⟨_, _, _, _, _, _, _, _, _, _, _, _, _, _, _, rfl, RVal.keep hb n _ _ g1⟩ ⟨_, _, _, _, _, _, _, _, _, _, _, _, _, _, _, rfl, RVal.keep hb n _ _ g1'⟩
  have K2 : Hid (∀ w' : World, Below w.heap.size w w' → Calls Tryd.prog 13 #[.agg #[.int .i64 eky, .int .u64 ezy, .string ety, .slice d1y l1y c1y, .slice d2y l2y c2y, .slice d3y l3y c3y, .slice d4y l4y c4y], .agg #[.int .i64 eky', .int .u64 ezy', .string ety', .slice d1y' l1y' c1y', .slice d2y' l2y' c2y', .slice d3y' l3y' c3y', .slice d4y' l4y' c4y']] w' fun e w2 => e = .returned (.int .i64 D2) ∧ Below w'.heap.size w' w2) := by
    intro w' hb
    rw [H2.out]
    exact HC.out _ _ x.2 y.2 _ ⟨_, _, _, _, _, _, _, _, _, _, _, _, _, _, _, rfl, RVal.keep hb n _ _ g2⟩ ⟨_, _, _, _, _, _, _, _, _, _, _, _, _, _, _, rfl, RVal.keep hb n _ _ g2'⟩
  clear g1 g2 g1' g2'
  go_enter Tryd.func39, Tryd.ntmps39
  go_wp2_with fail
  refine wp_box2 ?_
  intro W hA hB hb
  obtain ⟨a0, a1, a2, a3, a4, a5, a6, a7, a8, a9, a10, a11, a12, a13⟩ := up14 hA
  obtain ⟨b0, b1, b2, b3, b4, b5, b6, b7, b8, b9, b10, b11, b12, b13⟩ := up14 hB
  have HB := Lib.hid hb
  clear hA hB hb
  refine wp_region_up_tail 10 (by kernel_rfl) (by kernel_rfl) ?_
  simp only [List.take_succ_cons, List.take_zero, List.drop_succ_cons, List.drop_zero]
  repeat (go_big_quiet_step (first | (go_at_call 13; with_reducible exact calls_up (K1.out _ (above HB.out (InClass.h _)))) | (go_at_call 13; with_reducible exact calls_up (K2.out _ (above HB.out (InClass.h _))))))
  refine wpQuiet_nil ?_
  rintro _ ⟨s1, rfl⟩
  clear a0 b0 a1 b1 a2 b2 a3 b3 a4 b4 a5 b5 a6 b6 a7 b7 a8 b8 a9 b9 a10 b10 a11 b11 a12 b12 a13 b13
  go_wp2_with fail
  refine calls_same (or2_ok _ _ _ _ (blk_cell (box1_facts _ _ _).1 0 rfl) (blk_cell (box1_facts _ _ _).1 1 rfl)) ?_
  go_wp2_with fail
  go_ret
  exact ⟨rfl, (above HB.out s1.h).alloc (above HB.out s1.h).size _⟩


set_option maxRecDepth 8000 in
set_option maxHeartbeats 2000000 in
theorem oslot_ok (n : Nat) (HC : Hid (OCmp n)) : OSlot n := by
  rintro v v' x y w ⟨eky, ezy, ety, d1y, l1y, c1y, d2y, l2y, c2y, d3y, l3y, c3y, d4y, l4y, c4y, rfl, hx, g2⟩ ⟨eky', ezy', ety', d1y', l1y', c1y', d2y', l2y', c2y', d3y', l3y', c3y', d4y', l4y', c4y', rfl, hy, g2'⟩
  obtain ⟨x1, x2⟩ := x
  obtain ⟨y1, y2⟩ := y
  obtain ⟨D1, H1⟩ : ∃ D : Int, Hid (D = cmpI x1 y1) := ⟨_, Lib.hid rfl⟩
  obtain ⟨D2, H2⟩ : ∃ D : Int, Hid (D = cmpV n x2 y2) := ⟨_, Lib.hid rfl⟩
  rw [show cmpS (cmpV n) (x1, x2) (y1, y2) = orI D1 D2 by rw [H1.out, H2.out]; rfl]
  have K1 : Hid (∀ w' : World, Calls Tryd.prog 34 #[.int .i64 x1, .int .i64 y1] w' fun e w2 => e = .returned (.int .i64 D1) ∧ w2 = w') := by
    intro w'
    rw [H1.out]
    exact cmpI_ok _ _ _
  have K2 : Hid (∀ w' : World, Below w.heap.size w w' → Calls Tryd.prog 13 #[.agg #[.int .i64 eky, .int .u64 ezy, .string ety, .slice d1y l1y c1y, .slice d2y l2y c2y, .slice d3y l3y c3y, .slice d4y l4y c4y], .agg #[.int .i64 eky', .int .u64 ezy', .string ety', .slice d1y' l1y' c1y', .slice d2y' l2y' c2y', .slice d3y' l3y' c3y', .slice d4y' l4y' c4y']] w' fun e w2 => e = .returned (.int .i64 D2) ∧ Below w'.heap.size w' w2) := by
    intro w' hb
    rw [H2.out]
    exact HC.out _ _ x2 y2 _ ⟨_, _, _, _, _, _, _, _, _, _, _, _, _, _, _, rfl, RVal.keep hb n _ _ g2⟩ ⟨_, _, _, _, _, _, _, _, _, _, _, _, _, _, _, rfl, RVal.keep hb n _ _ g2'⟩
  clear hx hy g2 g2'
  go_enter Tryd.func42, Tryd.ntmps42
  go_wp2_with fail
  refine wp_box2 ?_
  intro W hA hB hb
  obtain ⟨a0, a1, a2, a3, a4, a5, a6, a7⟩ := up8 hA
  obtain ⟨b0, b1, b2, b3, b4, b5, b6, b7⟩ := up8 hB
  have HB := Lib.hid hb
  clear hA hB hb
  refine wp_region_up_tail 10 (by kernel_rfl) (by kernel_rfl) ?_
  simp only [List.take_succ_cons, List.take_zero, List.drop_succ_cons, List.drop_zero]
  repeat (go_big_quiet_step (first | (go_at_call 34; with_reducible exact calls_up_same (K1.out _)) | (go_at_call 13; with_reducible exact calls_up (K2.out _ (above HB.out (InClass.h _))))))
  refine wpQuiet_nil ?_
  rintro _ ⟨s1, rfl⟩
  clear a0 b0 a1 b1 a2 b2 a3 b3 a4 b4 a5 b5 a6 b6 a7 b7
  go_wp2_with fail
  refine calls_same (or2_ok _ _ _ _ (blk_cell (box1_facts _ _ _).1 0 rfl) (blk_cell (box1_facts _ _ _).1 1 rfl)) ?_
  go_wp2_with fail
  go_ret
  exact ⟨rfl, (above HB.out s1.h).alloc (above HB.out s1.h).size _⟩

set_option maxRecDepth 8000 in
set_option maxHeartbeats 2000000 in
theorem oraw_ok : ORaw := by
  rintro v v' x y w ⟨rfl, hx⟩ ⟨rfl, hy⟩
  obtain ⟨x1, x2, x3, x4⟩ := x
  obtain ⟨y1, y2, y3, y4⟩ := y
  obtain ⟨D1, H1⟩ : ∃ D : Int, Hid (D = cmpI x1 y1) := ⟨_, Lib.hid rfl⟩
  obtain ⟨D2, H2⟩ : ∃ D : Int, Hid (D = cmpI x2 y2) := ⟨_, Lib.hid rfl⟩
  obtain ⟨D3, H3⟩ : ∃ D : Int, Hid (D = cmpI x3 y3) := ⟨_, Lib.hid rfl⟩
  obtain ⟨D4, H4⟩ : ∃ D : Int, Hid (D = cmpT x4 y4) := ⟨_, Lib.hid rfl⟩
  rw [show cmpR ⟨x1, x2, x3, x4⟩ ⟨y1, y2, y3, y4⟩ = orI D1 (orI D2 (orI D3 D4)) by rw [H1.out, H2.out, H3.out, H4.out]; rfl]
  have K1 : Hid (∀ w' : World, Calls Tryd.prog 34 #[.int .i64 x1, .int .i64 y1] w' fun e w2 => e = .returned (.int .i64 D1) ∧ w2 = w') := by
    intro w'; rw [H1.out]; exact cmpI_ok _ _ _
  have K2 : Hid (∀ w' : World, Calls Tryd.prog 34 #[.int .i64 x2, .int .i64 y2] w' fun e w2 => e = .returned (.int .i64 D2) ∧ w2 = w') := by
    intro w'; rw [H2.out]; exact cmpI_ok _ _ _
  have K3 : Hid (∀ w' : World, Calls Tryd.prog 75 #[.int .u64 x3, .int .u64 y3] w' fun e w2 => e = .returned (.int .i64 D3) ∧ w2 = w') := by
    intro w'; rw [H3.out]; exact cmpU_ok _ _ _
  have K4 : Hid (∀ w' : World, Calls Tryd.prog 74 #[.string x4, .string y4] w' fun e w2 => e = .returned (.int .i64 D4) ∧ w2 = w') := by
    intro w'; rw [H4.out]; exact cmpT_ok _ _ _
  clear hx hy
  go_enter Tryd.func44, Tryd.ntmps44
  go_wp2_with fail
  refine wp_box2 ?_
  intro W hA hB hb
  obtain ⟨a0, a1, a2, a3⟩ := up4 hA
  obtain ⟨b0, b1, b2, b3⟩ := up4 hB
  have HB := Lib.hid hb
  clear hA hB hb
  refine wp_region_up_tail 20 (by kernel_rfl) (by kernel_rfl) ?_
  simp only [List.take_succ_cons, List.take_zero, List.drop_succ_cons, List.drop_zero]
  repeat (go_big_quiet_step (first | (go_at_call 34; with_reducible exact calls_up_same (K1.out _)) | (go_at_call 34; with_reducible exact calls_up_same (K2.out _)) | (go_at_call 75; with_reducible exact calls_up_same (K3.out _)) | (go_at_call 74; with_reducible exact calls_up_same (K4.out _))))
  refine wpQuiet_nil ?_
  rintro _ ⟨s1, rfl⟩
  clear a0 a1 a2 a3 b0 b1 b2 b3
  go_wp2_with fail
  refine calls_same (or4_ok _ _ _ _ _ _ (blk_cell (box1_facts _ _ _).1 0 rfl) (blk_cell (box1_facts _ _ _).1 1 rfl) (blk_cell (box1_facts _ _ _).1 2 rfl) (blk_cell (box1_facts _ _ _).1 3 rfl)) ?_
  go_wp2_with fail
  go_ret
  exact ⟨rfl, (above HB.out s1.h).alloc (above HB.out s1.h).size _⟩
end Go.Proofs.YtlgpoapedgodoaaDoor
