/- The walk of OrderTotal. -/
import Derived.Test.YtlgpoapedgodoaaDoorKeyOrder
import Derived.Test.YtlgpoapedgodoaaDoorAwake
import Derived.Test.YtlgpoapedgodoaaDoorArgOpen
namespace Go.Proofs.YtlgpoapedgodoaaDoor
open Go.RowKit
set_option linter.unusedVariables false

theorem box3_facts (w : World) (c1 : Array Value) (t1 : TypeId) (c2 : Array Value) (t2 : TypeId) (c3 : Array Value) (t3 : TypeId) :
    (((w.alloc (.cells c1 t1)).alloc (.cells c2 t2)).alloc (.cells c3 t3)).heap[w.heap.size]? = some (.cells c1 t1 (0, 0)) ∧ (((w.alloc (.cells c1 t1)).alloc (.cells c2 t2)).alloc (.cells c3 t3)).heap[w.heap.size + 1]? = some (.cells c2 t2 (0, 0)) ∧
      (((w.alloc (.cells c1 t1)).alloc (.cells c2 t2)).alloc (.cells c3 t3)).heap[w.heap.size + 1 + 1]? = some (.cells c3 t3 (0, 0)) ∧ Below w.heap.size w (((w.alloc (.cells c1 t1)).alloc (.cells c2 t2)).alloc (.cells c3 t3)) := by
  obtain ⟨h1, h2, h3⟩ := box2_facts w c1 t1 c2 t2
  exact ⟨blk_old h1 _, blk_old h2 _, blk_new' _ _ (by simp), h3.alloc h3.size _⟩
theorem wp_box3 {P : Program} {c : Code} {Q : Exit → Act → World → Prop} {a : Act} {w : World} {c1 : Array Value} {t1 : TypeId} {c2 : Array Value} {t2 : TypeId} {c3 : Array Value} {t3 : TypeId}
    (h : ∀ W : World, W.heap[w.heap.size]? = some (.cells c1 t1 (0, 0)) → W.heap[w.heap.size + 1]? = some (.cells c2 t2 (0, 0)) → W.heap[w.heap.size + 1 + 1]? = some (.cells c3 t3 (0, 0)) → Below w.heap.size w W → c.wp P Q a W) : c.wp P Q a (((w.alloc (.cells c1 t1)).alloc (.cells c2 t2)).alloc (.cells c3 t3)) :=
  h _ (box3_facts w c1 t1 c2 t2 c3 t3).1 (box3_facts w c1 t1 c2 t2 c3 t3).2.1 (box3_facts w c1 t1 c2 t2 c3 t3).2.2.1 (box3_facts w c1 t1 c2 t2 c3 t3).2.2.2


set_option maxRecDepth 8000 in
set_option maxHeartbeats 4000000 in
theorem tot_gt_n (eka eza ekb ezb ekc ezc : Int) (eta etb etc : ByteArray) (l1a l2a l3a l4a c1a c2a c3a c4a : Nat) (d1a d2a d3a d4a : Option Addr) (l1b l2b l3b l4b c1b c2b c3b c4b : Nat) (d1b d2b d3b d4b : Option Addr) (l1c l2c l3c l4c c1c c2c c3c c4c : Nat) (d1c d2c d3c d4c : Option Addr) (AB BC AC : Int) (FA FB : Bool) (X Y : ByteArray) (w : World) (KAB : Hid (∀ w' : World, Below w.heap.size w w' → Calls Tryd.prog 13 #[.agg #[.int .i64 eka, .int .u64 eza, .string eta, .slice d1a l1a c1a, .slice d2a l2a c2a, .slice d3a l3a c3a, .slice d4a l4a c4a], .agg #[.int .i64 ekb, .int .u64 ezb, .string etb, .slice d1b l1b c1b, .slice d2b l2b c2b, .slice d3b l3b c3b, .slice d4b l4b c4b]] w' fun e w2 => e = .returned (.int .i64 AB) ∧ Below w'.heap.size w' w2)) (KBC : Hid (∀ w' : World, Below w.heap.size w w' → Calls Tryd.prog 13 #[.agg #[.int .i64 ekb, .int .u64 ezb, .string etb, .slice d1b l1b c1b, .slice d2b l2b c2b, .slice d3b l3b c3b, .slice d4b l4b c4b], .agg #[.int .i64 ekc, .int .u64 ezc, .string etc, .slice d1c l1c c1c, .slice d2c l2c c2c, .slice d3c l3c c3c, .slice d4c l4c c4c]] w' fun e w2 => e = .returned (.int .i64 BC) ∧ Below w'.heap.size w' w2)) (KAC : Hid (∀ w' : World, Below w.heap.size w w' → Calls Tryd.prog 13 #[.agg #[.int .i64 eka, .int .u64 eza, .string eta, .slice d1a l1a c1a, .slice d2a l2a c2a, .slice d3a l3a c3a, .slice d4a l4a c4a], .agg #[.int .i64 ekc, .int .u64 ezc, .string etc, .slice d1c l1c c1c, .slice d2c l2c c2c, .slice d3c l3c c3c, .slice d4c l4c c4c]] w' fun e w2 => e = .returned (.int .i64 AC) ∧ Below w'.heap.size w' w2)) (KBA : Hid (∀ w' : World, Below w.heap.size w w' → Calls Tryd.prog 13 #[.agg #[.int .i64 ekb, .int .u64 ezb, .string etb, .slice d1b l1b c1b, .slice d2b l2b c2b, .slice d3b l3b c3b, .slice d4b l4b c4b], .agg #[.int .i64 eka, .int .u64 eza, .string eta, .slice d1a l1a c1a, .slice d2a l2a c2a, .slice d3a l3a c3a, .slice d4a l4a c4a]] w' fun e w2 => e = .returned (.int .i64 (-AB)) ∧ Below w'.heap.size w' w2)) (KFA : Hid (∀ w' : World, Below w.heap.size w w' → Calls Tryd.prog 14 #[.int .i64 eka, .agg #[.int .i64 eka, .int .u64 eza, .string eta, .slice d1a l1a c1a, .slice d2a l2a c2a, .slice d3a l3a c3a, .slice d4a l4a c4a]] w' fun e w2 => e = .returned (.bool FA) ∧ Below w'.heap.size w' w2)) (KFB : Hid (∀ w' : World, Below w.heap.size w w' → Calls Tryd.prog 14 #[.int .i64 ekb, .agg #[.int .i64 ekb, .int .u64 ezb, .string etb, .slice d1b l1b c1b, .slice d2b l2b c2b, .slice d3b l3b c3b, .slice d4b l4b c4b]] w' fun e w2 => e = .returned (.bool FB) ∧ Below w'.heap.size w' w2)) (KXA : Hid (∀ w' : World, Below w.heap.size w w' → Calls Tryd.prog 10 #[.agg #[.int .i64 eka, .int .u64 eza, .string eta, .slice d1a l1a c1a, .slice d2a l2a c2a, .slice d3a l3a c3a, .slice d4a l4a c4a]] w' fun e w2 => e = .returned (.string X) ∧ Below w'.heap.size w' w2)) (KXB : Hid (∀ w' : World, Below w.heap.size w w' → Calls Tryd.prog 10 #[.agg #[.int .i64 ekb, .int .u64 ezb, .string etb, .slice d1b l1b c1b, .slice d2b l2b c2b, .slice d3b l3b c3b, .slice d4b l4b c4b]] w' fun e w2 => e = .returned (.string Y) ∧ Below w'.heap.size w' w2)) (KW : Hid (∀ w' : World, Below w.heap.size w w' → Calls Tryd.prog 12 #[] w' fun e w2 => e = .returned (.bool true) ∧ Below w'.heap.size w' w2)) (hlo : -1 ≤ AB) (hhi : AB ≤ 1) (hn : (-AB != -AB) = false) (h1 : decide (AB ≤ 0) = false) (hfa : FA = false) :
    Calls Tryd.prog 4 #[.agg #[.int .i64 eka, .int .u64 eza, .string eta, .slice d1a l1a c1a, .slice d2a l2a c2a, .slice d3a l3a c3a, .slice d4a l4a c4a], .agg #[.int .i64 ekb, .int .u64 ezb, .string etb, .slice d1b l1b c1b, .slice d2b l2b c2b, .slice d3b l3b c3b, .slice d4b l4b c4b], .agg #[.int .i64 ekc, .int .u64 ezc, .string etc, .slice d1c l1c c1c, .slice d2c l2c c2c, .slice d3c l3c c3c, .slice d4c l4c c4c]] w fun e w' => e = .returned (.bool true) ∧ Below w.heap.size w w' := by
  subst hfa
  go_enter Tryd.func4, Tryd.ntmps4
  go_wp2_with fail
  refine wp_box3 ?_
  intro W hA hB hC hb
  obtain ⟨a0, a1, a2, a3, a4, a5, a6⟩ := up7 hA
  obtain ⟨b0, b1, b2, b3, b4, b5, b6⟩ := up7 hB
  obtain ⟨c0, c1, c2, c3, c4, c5, c6⟩ := up7 hC
  have HB := Lib.hid hb
  have HABC := Lib.hid (And.intro hA (And.intro hB hC))
  clear hA hB hC hb
  refine wp_region_up (by kernel_rfl) (by kernel_rfl) ?_
  repeat (go_big_quiet_step (first | (go_at_call 13; with_reducible exact calls_up (KAB.out _ (above HB.out (InClass.h _)))) | (go_at_call 13; with_reducible exact calls_up (KBC.out _ (above HB.out (InClass.h _)))) | (go_at_call 13; with_reducible exact calls_up (KAC.out _ (above HB.out (InClass.h _))))))
  refine wpQuiet_nil ?_
  rintro _ ⟨s1, rfl⟩
  clear a0 b0 c0 a1 b1 c1 a2 b2 c2 a3 b3 c3 a4 b4 c4 a5 b5 c5 a6 b6 c6
  have HB1 := Lib.hid (above HB.out s1.h)
  have HA1 := Lib.hid (blk_keep s1.h HABC.out.1)
  have HBB1 := Lib.hid (blk_keep s1.h HABC.out.2.1)
  obtain ⟨a0, a1, a2, a3, a4, a5, a6⟩ := cells7 HA1.out
  obtain ⟨b0, b1, b2, b3, b4, b5, b6⟩ := cells7 HBB1.out
  generalize s1.w = w1 at *
  go_wp2_with fail
  refine calls_on (KBA.out _ HB1.out) ?_
  intro w2 hb2
  have HB2 := Lib.hid (above HB1.out hb2)
  have HA2 := Lib.hid (blk_keep hb2 HA1.out)
  have HBB2 := Lib.hid (blk_keep hb2 HBB1.out)
  clear a0 b0 a1 b1 a2 b2 a3 b3 a4 b4 a5 b5 a6 b6 hb2
  obtain ⟨a0, a1, a2, a3, a4, a5, a6⟩ := cells7 HA2.out
  obtain ⟨b0, b1, b2, b3, b4, b5, b6⟩ := cells7 HBB2.out
  go_wp2_with fail
  refine calls_on (KFA.out _ HB2.out) ?_
  intro w3 hb3
  have HB3 := Lib.hid (above HB2.out hb3)
  have HA3 := Lib.hid (blk_keep hb3 HA2.out)
  have HBB3 := Lib.hid (blk_keep hb3 HBB2.out)
  clear a0 b0 a1 b1 a2 b2 a3 b3 a4 b4 a5 b5 a6 b6 hb3
  obtain ⟨a0, a1, a2, a3, a4, a5, a6⟩ := cells7 HA3.out
  obtain ⟨b0, b1, b2, b3, b4, b5, b6⟩ := cells7 HBB3.out
  go_wp2_with fail
  refine calls_on (KW.out _ HB3.out) ?_
  intro w9 hb9
  have HB9 := Lib.hid (above HB3.out hb9)
  clear hb9
  go_wp2_with fail
  go_ret
  exact ⟨rfl, HB9.out⟩


set_option maxRecDepth 8000 in
set_option maxHeartbeats 4000000 in
theorem tot_gt_a (eka eza ekb ezb ekc ezc : Int) (eta etb etc : ByteArray) (l1a l2a l3a l4a c1a c2a c3a c4a : Nat) (d1a d2a d3a d4a : Option Addr) (l1b l2b l3b l4b c1b c2b c3b c4b : Nat) (d1b d2b d3b d4b : Option Addr) (l1c l2c l3c l4c c1c c2c c3c c4c : Nat) (d1c d2c d3c d4c : Option Addr) (AB BC AC : Int) (FA FB : Bool) (X Y : ByteArray) (w : World) (KAB : Hid (∀ w' : World, Below w.heap.size w w' → Calls Tryd.prog 13 #[.agg #[.int .i64 eka, .int .u64 eza, .string eta, .slice d1a l1a c1a, .slice d2a l2a c2a, .slice d3a l3a c3a, .slice d4a l4a c4a], .agg #[.int .i64 ekb, .int .u64 ezb, .string etb, .slice d1b l1b c1b, .slice d2b l2b c2b, .slice d3b l3b c3b, .slice d4b l4b c4b]] w' fun e w2 => e = .returned (.int .i64 AB) ∧ Below w'.heap.size w' w2)) (KBC : Hid (∀ w' : World, Below w.heap.size w w' → Calls Tryd.prog 13 #[.agg #[.int .i64 ekb, .int .u64 ezb, .string etb, .slice d1b l1b c1b, .slice d2b l2b c2b, .slice d3b l3b c3b, .slice d4b l4b c4b], .agg #[.int .i64 ekc, .int .u64 ezc, .string etc, .slice d1c l1c c1c, .slice d2c l2c c2c, .slice d3c l3c c3c, .slice d4c l4c c4c]] w' fun e w2 => e = .returned (.int .i64 BC) ∧ Below w'.heap.size w' w2)) (KAC : Hid (∀ w' : World, Below w.heap.size w w' → Calls Tryd.prog 13 #[.agg #[.int .i64 eka, .int .u64 eza, .string eta, .slice d1a l1a c1a, .slice d2a l2a c2a, .slice d3a l3a c3a, .slice d4a l4a c4a], .agg #[.int .i64 ekc, .int .u64 ezc, .string etc, .slice d1c l1c c1c, .slice d2c l2c c2c, .slice d3c l3c c3c, .slice d4c l4c c4c]] w' fun e w2 => e = .returned (.int .i64 AC) ∧ Below w'.heap.size w' w2)) (KBA : Hid (∀ w' : World, Below w.heap.size w w' → Calls Tryd.prog 13 #[.agg #[.int .i64 ekb, .int .u64 ezb, .string etb, .slice d1b l1b c1b, .slice d2b l2b c2b, .slice d3b l3b c3b, .slice d4b l4b c4b], .agg #[.int .i64 eka, .int .u64 eza, .string eta, .slice d1a l1a c1a, .slice d2a l2a c2a, .slice d3a l3a c3a, .slice d4a l4a c4a]] w' fun e w2 => e = .returned (.int .i64 (-AB)) ∧ Below w'.heap.size w' w2)) (KFA : Hid (∀ w' : World, Below w.heap.size w w' → Calls Tryd.prog 14 #[.int .i64 eka, .agg #[.int .i64 eka, .int .u64 eza, .string eta, .slice d1a l1a c1a, .slice d2a l2a c2a, .slice d3a l3a c3a, .slice d4a l4a c4a]] w' fun e w2 => e = .returned (.bool FA) ∧ Below w'.heap.size w' w2)) (KFB : Hid (∀ w' : World, Below w.heap.size w w' → Calls Tryd.prog 14 #[.int .i64 ekb, .agg #[.int .i64 ekb, .int .u64 ezb, .string etb, .slice d1b l1b c1b, .slice d2b l2b c2b, .slice d3b l3b c3b, .slice d4b l4b c4b]] w' fun e w2 => e = .returned (.bool FB) ∧ Below w'.heap.size w' w2)) (KXA : Hid (∀ w' : World, Below w.heap.size w w' → Calls Tryd.prog 10 #[.agg #[.int .i64 eka, .int .u64 eza, .string eta, .slice d1a l1a c1a, .slice d2a l2a c2a, .slice d3a l3a c3a, .slice d4a l4a c4a]] w' fun e w2 => e = .returned (.string X) ∧ Below w'.heap.size w' w2)) (KXB : Hid (∀ w' : World, Below w.heap.size w w' → Calls Tryd.prog 10 #[.agg #[.int .i64 ekb, .int .u64 ezb, .string etb, .slice d1b l1b c1b, .slice d2b l2b c2b, .slice d3b l3b c3b, .slice d4b l4b c4b]] w' fun e w2 => e = .returned (.string Y) ∧ Below w'.heap.size w' w2)) (KW : Hid (∀ w' : World, Below w.heap.size w w' → Calls Tryd.prog 12 #[] w' fun e w2 => e = .returned (.bool true) ∧ Below w'.heap.size w' w2)) (hlo : -1 ≤ AB) (hhi : AB ≤ 1) (hn : (-AB != -AB) = false) (h1 : decide (AB ≤ 0) = false) (hfa : FA = true) (hfb : FB = false) :
    Calls Tryd.prog 4 #[.agg #[.int .i64 eka, .int .u64 eza, .string eta, .slice d1a l1a c1a, .slice d2a l2a c2a, .slice d3a l3a c3a, .slice d4a l4a c4a], .agg #[.int .i64 ekb, .int .u64 ezb, .string etb, .slice d1b l1b c1b, .slice d2b l2b c2b, .slice d3b l3b c3b, .slice d4b l4b c4b], .agg #[.int .i64 ekc, .int .u64 ezc, .string etc, .slice d1c l1c c1c, .slice d2c l2c c2c, .slice d3c l3c c3c, .slice d4c l4c c4c]] w fun e w' => e = .returned (.bool true) ∧ Below w.heap.size w w' := by
  subst hfa hfb
  go_enter Tryd.func4, Tryd.ntmps4
  go_wp2_with fail
  refine wp_box3 ?_
  intro W hA hB hC hb
  obtain ⟨a0, a1, a2, a3, a4, a5, a6⟩ := up7 hA
  obtain ⟨b0, b1, b2, b3, b4, b5, b6⟩ := up7 hB
  obtain ⟨c0, c1, c2, c3, c4, c5, c6⟩ := up7 hC
  have HB := Lib.hid hb
  have HABC := Lib.hid (And.intro hA (And.intro hB hC))
  clear hA hB hC hb
  refine wp_region_up (by kernel_rfl) (by kernel_rfl) ?_
  repeat (go_big_quiet_step (first | (go_at_call 13; with_reducible exact calls_up (KAB.out _ (above HB.out (InClass.h _)))) | (go_at_call 13; with_reducible exact calls_up (KBC.out _ (above HB.out (InClass.h _)))) | (go_at_call 13; with_reducible exact calls_up (KAC.out _ (above HB.out (InClass.h _))))))
  refine wpQuiet_nil ?_
  rintro _ ⟨s1, rfl⟩
  clear a0 b0 c0 a1 b1 c1 a2 b2 c2 a3 b3 c3 a4 b4 c4 a5 b5 c5 a6 b6 c6
  have HB1 := Lib.hid (above HB.out s1.h)
  have HA1 := Lib.hid (blk_keep s1.h HABC.out.1)
  have HBB1 := Lib.hid (blk_keep s1.h HABC.out.2.1)
  obtain ⟨a0, a1, a2, a3, a4, a5, a6⟩ := cells7 HA1.out
  obtain ⟨b0, b1, b2, b3, b4, b5, b6⟩ := cells7 HBB1.out
  generalize s1.w = w1 at *
  go_wp2_with fail
  refine calls_on (KBA.out _ HB1.out) ?_
  intro w2 hb2
  have HB2 := Lib.hid (above HB1.out hb2)
  have HA2 := Lib.hid (blk_keep hb2 HA1.out)
  have HBB2 := Lib.hid (blk_keep hb2 HBB1.out)
  clear a0 b0 a1 b1 a2 b2 a3 b3 a4 b4 a5 b5 a6 b6 hb2
  obtain ⟨a0, a1, a2, a3, a4, a5, a6⟩ := cells7 HA2.out
  obtain ⟨b0, b1, b2, b3, b4, b5, b6⟩ := cells7 HBB2.out
  go_wp2_with fail
  refine calls_on (KFA.out _ HB2.out) ?_
  intro w3 hb3
  have HB3 := Lib.hid (above HB2.out hb3)
  have HA3 := Lib.hid (blk_keep hb3 HA2.out)
  have HBB3 := Lib.hid (blk_keep hb3 HBB2.out)
  clear a0 b0 a1 b1 a2 b2 a3 b3 a4 b4 a5 b5 a6 b6 hb3
  obtain ⟨a0, a1, a2, a3, a4, a5, a6⟩ := cells7 HA3.out
  obtain ⟨b0, b1, b2, b3, b4, b5, b6⟩ := cells7 HBB3.out
  go_wp2_with fail
  refine calls_on (KFB.out _ HB3.out) ?_
  intro w4 hb4
  have HB4 := Lib.hid (above HB3.out hb4)
  have HA4 := Lib.hid (blk_keep hb4 HA3.out)
  have HBB4 := Lib.hid (blk_keep hb4 HBB3.out)
  clear a0 b0 a1 b1 a2 b2 a3 b3 a4 b4 a5 b5 a6 b6 hb4
  go_wp2_with fail
  refine calls_on (KW.out _ HB4.out) ?_
  intro w9 hb9
  have HB9 := Lib.hid (above HB4.out hb9)
  clear hb9
  go_wp2_with fail
  go_ret
  exact ⟨rfl, HB9.out⟩


set_option maxRecDepth 8000 in
set_option maxHeartbeats 4000000 in
theorem tot_gt_y (eka eza ekb ezb ekc ezc : Int) (eta etb etc : ByteArray) (l1a l2a l3a l4a c1a c2a c3a c4a : Nat) (d1a d2a d3a d4a : Option Addr) (l1b l2b l3b l4b c1b c2b c3b c4b : Nat) (d1b d2b d3b d4b : Option Addr) (l1c l2c l3c l4c c1c c2c c3c c4c : Nat) (d1c d2c d3c d4c : Option Addr) (AB BC AC : Int) (FA FB : Bool) (X Y : ByteArray) (P Q : Bool) (w : World) (KAB : Hid (∀ w' : World, Below w.heap.size w w' → Calls Tryd.prog 13 #[.agg #[.int .i64 eka, .int .u64 eza, .string eta, .slice d1a l1a c1a, .slice d2a l2a c2a, .slice d3a l3a c3a, .slice d4a l4a c4a], .agg #[.int .i64 ekb, .int .u64 ezb, .string etb, .slice d1b l1b c1b, .slice d2b l2b c2b, .slice d3b l3b c3b, .slice d4b l4b c4b]] w' fun e w2 => e = .returned (.int .i64 AB) ∧ Below w'.heap.size w' w2)) (KBC : Hid (∀ w' : World, Below w.heap.size w w' → Calls Tryd.prog 13 #[.agg #[.int .i64 ekb, .int .u64 ezb, .string etb, .slice d1b l1b c1b, .slice d2b l2b c2b, .slice d3b l3b c3b, .slice d4b l4b c4b], .agg #[.int .i64 ekc, .int .u64 ezc, .string etc, .slice d1c l1c c1c, .slice d2c l2c c2c, .slice d3c l3c c3c, .slice d4c l4c c4c]] w' fun e w2 => e = .returned (.int .i64 BC) ∧ Below w'.heap.size w' w2)) (KAC : Hid (∀ w' : World, Below w.heap.size w w' → Calls Tryd.prog 13 #[.agg #[.int .i64 eka, .int .u64 eza, .string eta, .slice d1a l1a c1a, .slice d2a l2a c2a, .slice d3a l3a c3a, .slice d4a l4a c4a], .agg #[.int .i64 ekc, .int .u64 ezc, .string etc, .slice d1c l1c c1c, .slice d2c l2c c2c, .slice d3c l3c c3c, .slice d4c l4c c4c]] w' fun e w2 => e = .returned (.int .i64 AC) ∧ Below w'.heap.size w' w2)) (KBA : Hid (∀ w' : World, Below w.heap.size w w' → Calls Tryd.prog 13 #[.agg #[.int .i64 ekb, .int .u64 ezb, .string etb, .slice d1b l1b c1b, .slice d2b l2b c2b, .slice d3b l3b c3b, .slice d4b l4b c4b], .agg #[.int .i64 eka, .int .u64 eza, .string eta, .slice d1a l1a c1a, .slice d2a l2a c2a, .slice d3a l3a c3a, .slice d4a l4a c4a]] w' fun e w2 => e = .returned (.int .i64 (-AB)) ∧ Below w'.heap.size w' w2)) (KFA : Hid (∀ w' : World, Below w.heap.size w w' → Calls Tryd.prog 14 #[.int .i64 eka, .agg #[.int .i64 eka, .int .u64 eza, .string eta, .slice d1a l1a c1a, .slice d2a l2a c2a, .slice d3a l3a c3a, .slice d4a l4a c4a]] w' fun e w2 => e = .returned (.bool FA) ∧ Below w'.heap.size w' w2)) (KFB : Hid (∀ w' : World, Below w.heap.size w w' → Calls Tryd.prog 14 #[.int .i64 ekb, .agg #[.int .i64 ekb, .int .u64 ezb, .string etb, .slice d1b l1b c1b, .slice d2b l2b c2b, .slice d3b l3b c3b, .slice d4b l4b c4b]] w' fun e w2 => e = .returned (.bool FB) ∧ Below w'.heap.size w' w2)) (KXA : Hid (∀ w' : World, Below w.heap.size w w' → Calls Tryd.prog 10 #[.agg #[.int .i64 eka, .int .u64 eza, .string eta, .slice d1a l1a c1a, .slice d2a l2a c2a, .slice d3a l3a c3a, .slice d4a l4a c4a]] w' fun e w2 => e = .returned (.string X) ∧ Below w'.heap.size w' w2)) (KXB : Hid (∀ w' : World, Below w.heap.size w w' → Calls Tryd.prog 10 #[.agg #[.int .i64 ekb, .int .u64 ezb, .string etb, .slice d1b l1b c1b, .slice d2b l2b c2b, .slice d3b l3b c3b, .slice d4b l4b c4b]] w' fun e w2 => e = .returned (.string Y) ∧ Below w'.heap.size w' w2)) (KW : Hid (∀ w' : World, Below w.heap.size w w' → Calls Tryd.prog 12 #[] w' fun e w2 => e = .returned (.bool true) ∧ Below w'.heap.size w' w2)) (hlo : -1 ≤ AB) (hhi : AB ≤ 1) (hn : (-AB != -AB) = false) (h1 : decide (AB ≤ 0) = false) (hfa : FA = true) (hfb : FB = true) (p1 : Op.bytesLess X.toList Y.toList = P) (p2 : decide (AB < 0) = P) (q1 : (X.toList == Y.toList) = Q) (q2 : (AB == 0) = Q) (e1 : X.toList.isEmpty = false) :
    Calls Tryd.prog 4 #[.agg #[.int .i64 eka, .int .u64 eza, .string eta, .slice d1a l1a c1a, .slice d2a l2a c2a, .slice d3a l3a c3a, .slice d4a l4a c4a], .agg #[.int .i64 ekb, .int .u64 ezb, .string etb, .slice d1b l1b c1b, .slice d2b l2b c2b, .slice d3b l3b c3b, .slice d4b l4b c4b], .agg #[.int .i64 ekc, .int .u64 ezc, .string etc, .slice d1c l1c c1c, .slice d2c l2c c2c, .slice d3c l3c c3c, .slice d4c l4c c4c]] w fun e w' => e = .returned (.bool true) ∧ Below w.heap.size w w' := by
  subst hfa hfb
  cases P <;> cases Q
  all_goals
    go_enter Tryd.func4, Tryd.ntmps4
    go_wp2_with fail
    refine wp_box3 ?_
    intro W hA hB hC hb
    obtain ⟨a0, a1, a2, a3, a4, a5, a6⟩ := up7 hA
    obtain ⟨b0, b1, b2, b3, b4, b5, b6⟩ := up7 hB
    obtain ⟨c0, c1, c2, c3, c4, c5, c6⟩ := up7 hC
    have HB := Lib.hid hb
    have HABC := Lib.hid (And.intro hA (And.intro hB hC))
    clear hA hB hC hb
    refine wp_region_up (by kernel_rfl) (by kernel_rfl) ?_
    repeat (go_big_quiet_step (first | (go_at_call 13; with_reducible exact calls_up (KAB.out _ (above HB.out (InClass.h _)))) | (go_at_call 13; with_reducible exact calls_up (KBC.out _ (above HB.out (InClass.h _)))) | (go_at_call 13; with_reducible exact calls_up (KAC.out _ (above HB.out (InClass.h _))))))
    refine wpQuiet_nil ?_
    rintro _ ⟨s1, rfl⟩
    clear a0 b0 c0 a1 b1 c1 a2 b2 c2 a3 b3 c3 a4 b4 c4 a5 b5 c5 a6 b6 c6
    have HB1 := Lib.hid (above HB.out s1.h)
    have HA1 := Lib.hid (blk_keep s1.h HABC.out.1)
    have HBB1 := Lib.hid (blk_keep s1.h HABC.out.2.1)
    obtain ⟨a0, a1, a2, a3, a4, a5, a6⟩ := cells7 HA1.out
    obtain ⟨b0, b1, b2, b3, b4, b5, b6⟩ := cells7 HBB1.out
    generalize s1.w = w1 at *
    go_wp2_with fail
    refine calls_on (KBA.out _ HB1.out) ?_
    intro w2 hb2
    have HB2 := Lib.hid (above HB1.out hb2)
    have HA2 := Lib.hid (blk_keep hb2 HA1.out)
    have HBB2 := Lib.hid (blk_keep hb2 HBB1.out)
    clear a0 b0 a1 b1 a2 b2 a3 b3 a4 b4 a5 b5 a6 b6 hb2
    obtain ⟨a0, a1, a2, a3, a4, a5, a6⟩ := cells7 HA2.out
    obtain ⟨b0, b1, b2, b3, b4, b5, b6⟩ := cells7 HBB2.out
    go_wp2_with fail
    refine calls_on (KFA.out _ HB2.out) ?_
    intro w3 hb3
    have HB3 := Lib.hid (above HB2.out hb3)
    have HA3 := Lib.hid (blk_keep hb3 HA2.out)
    have HBB3 := Lib.hid (blk_keep hb3 HBB2.out)
    clear a0 b0 a1 b1 a2 b2 a3 b3 a4 b4 a5 b5 a6 b6 hb3
    obtain ⟨a0, a1, a2, a3, a4, a5, a6⟩ := cells7 HA3.out
    obtain ⟨b0, b1, b2, b3, b4, b5, b6⟩ := cells7 HBB3.out
    go_wp2_with fail
    refine calls_on (KFB.out _ HB3.out) ?_
    intro w4 hb4
    have HB4 := Lib.hid (above HB3.out hb4)
    have HA4 := Lib.hid (blk_keep hb4 HA3.out)
    have HBB4 := Lib.hid (blk_keep hb4 HBB3.out)
    clear a0 b0 a1 b1 a2 b2 a3 b3 a4 b4 a5 b5 a6 b6 hb4
    go_wp2_with fail
    obtain ⟨a0, a1, a2, a3, a4, a5, a6⟩ := up7 HA4.out
    obtain ⟨b0, b1, b2, b3, b4, b5, b6⟩ := up7 HBB4.out
    refine wp_region_up (by kernel_rfl) (by kernel_rfl) ?_
    repeat (go_big_quiet_step (first | (go_at_call 10; with_reducible exact calls_up (KXA.out _ (above HB4.out (InClass.h _)))) | (go_at_call 10; with_reducible exact calls_up (KXB.out _ (above HB4.out (InClass.h _))))))
    refine wpQuiet_nil ?_
    rintro _ ⟨s5, rfl⟩
    clear a0 b0 a1 b1 a2 b2 a3 b3 a4 b4 a5 b5 a6 b6
    have HB5 := Lib.hid (above HB4.out s5.h)
    generalize s5.w = w5 at *
    go_wp2_with fail
    refine calls_on (KW.out _ HB5.out) ?_
    intro w9 hb9
    have HB9 := Lib.hid (above HB5.out hb9)
    clear hb9
    go_wp2_with fail
    go_ret
    exact ⟨rfl, HB9.out⟩


set_option maxRecDepth 8000 in
set_option maxHeartbeats 4000000 in
theorem tot_le_n (eka eza ekb ezb ekc ezc : Int) (eta etb etc : ByteArray) (l1a l2a l3a l4a c1a c2a c3a c4a : Nat) (d1a d2a d3a d4a : Option Addr) (l1b l2b l3b l4b c1b c2b c3b c4b : Nat) (d1b d2b d3b d4b : Option Addr) (l1c l2c l3c l4c c1c c2c c3c c4c : Nat) (d1c d2c d3c d4c : Option Addr) (AB BC AC : Int) (FA FB : Bool) (X Y : ByteArray) (w : World) (KAB : Hid (∀ w' : World, Below w.heap.size w w' → Calls Tryd.prog 13 #[.agg #[.int .i64 eka, .int .u64 eza, .string eta, .slice d1a l1a c1a, .slice d2a l2a c2a, .slice d3a l3a c3a, .slice d4a l4a c4a], .agg #[.int .i64 ekb, .int .u64 ezb, .string etb, .slice d1b l1b c1b, .slice d2b l2b c2b, .slice d3b l3b c3b, .slice d4b l4b c4b]] w' fun e w2 => e = .returned (.int .i64 AB) ∧ Below w'.heap.size w' w2)) (KBC : Hid (∀ w' : World, Below w.heap.size w w' → Calls Tryd.prog 13 #[.agg #[.int .i64 ekb, .int .u64 ezb, .string etb, .slice d1b l1b c1b, .slice d2b l2b c2b, .slice d3b l3b c3b, .slice d4b l4b c4b], .agg #[.int .i64 ekc, .int .u64 ezc, .string etc, .slice d1c l1c c1c, .slice d2c l2c c2c, .slice d3c l3c c3c, .slice d4c l4c c4c]] w' fun e w2 => e = .returned (.int .i64 BC) ∧ Below w'.heap.size w' w2)) (KAC : Hid (∀ w' : World, Below w.heap.size w w' → Calls Tryd.prog 13 #[.agg #[.int .i64 eka, .int .u64 eza, .string eta, .slice d1a l1a c1a, .slice d2a l2a c2a, .slice d3a l3a c3a, .slice d4a l4a c4a], .agg #[.int .i64 ekc, .int .u64 ezc, .string etc, .slice d1c l1c c1c, .slice d2c l2c c2c, .slice d3c l3c c3c, .slice d4c l4c c4c]] w' fun e w2 => e = .returned (.int .i64 AC) ∧ Below w'.heap.size w' w2)) (KBA : Hid (∀ w' : World, Below w.heap.size w w' → Calls Tryd.prog 13 #[.agg #[.int .i64 ekb, .int .u64 ezb, .string etb, .slice d1b l1b c1b, .slice d2b l2b c2b, .slice d3b l3b c3b, .slice d4b l4b c4b], .agg #[.int .i64 eka, .int .u64 eza, .string eta, .slice d1a l1a c1a, .slice d2a l2a c2a, .slice d3a l3a c3a, .slice d4a l4a c4a]] w' fun e w2 => e = .returned (.int .i64 (-AB)) ∧ Below w'.heap.size w' w2)) (KFA : Hid (∀ w' : World, Below w.heap.size w w' → Calls Tryd.prog 14 #[.int .i64 eka, .agg #[.int .i64 eka, .int .u64 eza, .string eta, .slice d1a l1a c1a, .slice d2a l2a c2a, .slice d3a l3a c3a, .slice d4a l4a c4a]] w' fun e w2 => e = .returned (.bool FA) ∧ Below w'.heap.size w' w2)) (KFB : Hid (∀ w' : World, Below w.heap.size w w' → Calls Tryd.prog 14 #[.int .i64 ekb, .agg #[.int .i64 ekb, .int .u64 ezb, .string etb, .slice d1b l1b c1b, .slice d2b l2b c2b, .slice d3b l3b c3b, .slice d4b l4b c4b]] w' fun e w2 => e = .returned (.bool FB) ∧ Below w'.heap.size w' w2)) (KXA : Hid (∀ w' : World, Below w.heap.size w w' → Calls Tryd.prog 10 #[.agg #[.int .i64 eka, .int .u64 eza, .string eta, .slice d1a l1a c1a, .slice d2a l2a c2a, .slice d3a l3a c3a, .slice d4a l4a c4a]] w' fun e w2 => e = .returned (.string X) ∧ Below w'.heap.size w' w2)) (KXB : Hid (∀ w' : World, Below w.heap.size w w' → Calls Tryd.prog 10 #[.agg #[.int .i64 ekb, .int .u64 ezb, .string etb, .slice d1b l1b c1b, .slice d2b l2b c2b, .slice d3b l3b c3b, .slice d4b l4b c4b]] w' fun e w2 => e = .returned (.string Y) ∧ Below w'.heap.size w' w2)) (KW : Hid (∀ w' : World, Below w.heap.size w w' → Calls Tryd.prog 12 #[] w' fun e w2 => e = .returned (.bool true) ∧ Below w'.heap.size w' w2)) (hlo : -1 ≤ AB) (hhi : AB ≤ 1) (hn : (-AB != -AB) = false) (h1 : decide (AB ≤ 0) = true) (h2 : decide (BC ≤ 0) = false) (hfa : FA = false) :
    Calls Tryd.prog 4 #[.agg #[.int .i64 eka, .int .u64 eza, .string eta, .slice d1a l1a c1a, .slice d2a l2a c2a, .slice d3a l3a c3a, .slice d4a l4a c4a], .agg #[.int .i64 ekb, .int .u64 ezb, .string etb, .slice d1b l1b c1b, .slice d2b l2b c2b, .slice d3b l3b c3b, .slice d4b l4b c4b], .agg #[.int .i64 ekc, .int .u64 ezc, .string etc, .slice d1c l1c c1c, .slice d2c l2c c2c, .slice d3c l3c c3c, .slice d4c l4c c4c]] w fun e w' => e = .returned (.bool true) ∧ Below w.heap.size w w' := by
  subst hfa
  go_enter Tryd.func4, Tryd.ntmps4
  go_wp2_with fail
  refine wp_box3 ?_
  intro W hA hB hC hb
  obtain ⟨a0, a1, a2, a3, a4, a5, a6⟩ := up7 hA
  obtain ⟨b0, b1, b2, b3, b4, b5, b6⟩ := up7 hB
  obtain ⟨c0, c1, c2, c3, c4, c5, c6⟩ := up7 hC
  have HB := Lib.hid hb
  have HABC := Lib.hid (And.intro hA (And.intro hB hC))
  clear hA hB hC hb
  refine wp_region_up (by kernel_rfl) (by kernel_rfl) ?_
  repeat (go_big_quiet_step (first | (go_at_call 13; with_reducible exact calls_up (KAB.out _ (above HB.out (InClass.h _)))) | (go_at_call 13; with_reducible exact calls_up (KBC.out _ (above HB.out (InClass.h _)))) | (go_at_call 13; with_reducible exact calls_up (KAC.out _ (above HB.out (InClass.h _))))))
  refine wpQuiet_nil ?_
  rintro _ ⟨s1, rfl⟩
  clear a0 b0 c0 a1 b1 c1 a2 b2 c2 a3 b3 c3 a4 b4 c4 a5 b5 c5 a6 b6 c6
  have HB1 := Lib.hid (above HB.out s1.h)
  have HA1 := Lib.hid (blk_keep s1.h HABC.out.1)
  have HBB1 := Lib.hid (blk_keep s1.h HABC.out.2.1)
  obtain ⟨a0, a1, a2, a3, a4, a5, a6⟩ := cells7 HA1.out
  obtain ⟨b0, b1, b2, b3, b4, b5, b6⟩ := cells7 HBB1.out
  generalize s1.w = w1 at *
  go_wp2_with fail
  refine calls_on (KBA.out _ HB1.out) ?_
  intro w2 hb2
  have HB2 := Lib.hid (above HB1.out hb2)
  have HA2 := Lib.hid (blk_keep hb2 HA1.out)
  have HBB2 := Lib.hid (blk_keep hb2 HBB1.out)
  clear a0 b0 a1 b1 a2 b2 a3 b3 a4 b4 a5 b5 a6 b6 hb2
  obtain ⟨a0, a1, a2, a3, a4, a5, a6⟩ := cells7 HA2.out
  obtain ⟨b0, b1, b2, b3, b4, b5, b6⟩ := cells7 HBB2.out
  go_wp2_with fail
  refine calls_on (KFA.out _ HB2.out) ?_
  intro w3 hb3
  have HB3 := Lib.hid (above HB2.out hb3)
  have HA3 := Lib.hid (blk_keep hb3 HA2.out)
  have HBB3 := Lib.hid (blk_keep hb3 HBB2.out)
  clear a0 b0 a1 b1 a2 b2 a3 b3 a4 b4 a5 b5 a6 b6 hb3
  obtain ⟨a0, a1, a2, a3, a4, a5, a6⟩ := cells7 HA3.out
  obtain ⟨b0, b1, b2, b3, b4, b5, b6⟩ := cells7 HBB3.out
  go_wp2_with fail
  refine calls_on (KW.out _ HB3.out) ?_
  intro w9 hb9
  have HB9 := Lib.hid (above HB3.out hb9)
  clear hb9
  go_wp2_with fail
  go_ret
  exact ⟨rfl, HB9.out⟩


set_option maxRecDepth 8000 in
set_option maxHeartbeats 4000000 in
theorem tot_le_a (eka eza ekb ezb ekc ezc : Int) (eta etb etc : ByteArray) (l1a l2a l3a l4a c1a c2a c3a c4a : Nat) (d1a d2a d3a d4a : Option Addr) (l1b l2b l3b l4b c1b c2b c3b c4b : Nat) (d1b d2b d3b d4b : Option Addr) (l1c l2c l3c l4c c1c c2c c3c c4c : Nat) (d1c d2c d3c d4c : Option Addr) (AB BC AC : Int) (FA FB : Bool) (X Y : ByteArray) (w : World) (KAB : Hid (∀ w' : World, Below w.heap.size w w' → Calls Tryd.prog 13 #[.agg #[.int .i64 eka, .int .u64 eza, .string eta, .slice d1a l1a c1a, .slice d2a l2a c2a, .slice d3a l3a c3a, .slice d4a l4a c4a], .agg #[.int .i64 ekb, .int .u64 ezb, .string etb, .slice d1b l1b c1b, .slice d2b l2b c2b, .slice d3b l3b c3b, .slice d4b l4b c4b]] w' fun e w2 => e = .returned (.int .i64 AB) ∧ Below w'.heap.size w' w2)) (KBC : Hid (∀ w' : World, Below w.heap.size w w' → Calls Tryd.prog 13 #[.agg #[.int .i64 ekb, .int .u64 ezb, .string etb, .slice d1b l1b c1b, .slice d2b l2b c2b, .slice d3b l3b c3b, .slice d4b l4b c4b], .agg #[.int .i64 ekc, .int .u64 ezc, .string etc, .slice d1c l1c c1c, .slice d2c l2c c2c, .slice d3c l3c c3c, .slice d4c l4c c4c]] w' fun e w2 => e = .returned (.int .i64 BC) ∧ Below w'.heap.size w' w2)) (KAC : Hid (∀ w' : World, Below w.heap.size w w' → Calls Tryd.prog 13 #[.agg #[.int .i64 eka, .int .u64 eza, .string eta, .slice d1a l1a c1a, .slice d2a l2a c2a, .slice d3a l3a c3a, .slice d4a l4a c4a], .agg #[.int .i64 ekc, .int .u64 ezc, .string etc, .slice d1c l1c c1c, .slice d2c l2c c2c, .slice d3c l3c c3c, .slice d4c l4c c4c]] w' fun e w2 => e = .returned (.int .i64 AC) ∧ Below w'.heap.size w' w2)) (KBA : Hid (∀ w' : World, Below w.heap.size w w' → Calls Tryd.prog 13 #[.agg #[.int .i64 ekb, .int .u64 ezb, .string etb, .slice d1b l1b c1b, .slice d2b l2b c2b, .slice d3b l3b c3b, .slice d4b l4b c4b], .agg #[.int .i64 eka, .int .u64 eza, .string eta, .slice d1a l1a c1a, .slice d2a l2a c2a, .slice d3a l3a c3a, .slice d4a l4a c4a]] w' fun e w2 => e = .returned (.int .i64 (-AB)) ∧ Below w'.heap.size w' w2)) (KFA : Hid (∀ w' : World, Below w.heap.size w w' → Calls Tryd.prog 14 #[.int .i64 eka, .agg #[.int .i64 eka, .int .u64 eza, .string eta, .slice d1a l1a c1a, .slice d2a l2a c2a, .slice d3a l3a c3a, .slice d4a l4a c4a]] w' fun e w2 => e = .returned (.bool FA) ∧ Below w'.heap.size w' w2)) (KFB : Hid (∀ w' : World, Below w.heap.size w w' → Calls Tryd.prog 14 #[.int .i64 ekb, .agg #[.int .i64 ekb, .int .u64 ezb, .string etb, .slice d1b l1b c1b, .slice d2b l2b c2b, .slice d3b l3b c3b, .slice d4b l4b c4b]] w' fun e w2 => e = .returned (.bool FB) ∧ Below w'.heap.size w' w2)) (KXA : Hid (∀ w' : World, Below w.heap.size w w' → Calls Tryd.prog 10 #[.agg #[.int .i64 eka, .int .u64 eza, .string eta, .slice d1a l1a c1a, .slice d2a l2a c2a, .slice d3a l3a c3a, .slice d4a l4a c4a]] w' fun e w2 => e = .returned (.string X) ∧ Below w'.heap.size w' w2)) (KXB : Hid (∀ w' : World, Below w.heap.size w w' → Calls Tryd.prog 10 #[.agg #[.int .i64 ekb, .int .u64 ezb, .string etb, .slice d1b l1b c1b, .slice d2b l2b c2b, .slice d3b l3b c3b, .slice d4b l4b c4b]] w' fun e w2 => e = .returned (.string Y) ∧ Below w'.heap.size w' w2)) (KW : Hid (∀ w' : World, Below w.heap.size w w' → Calls Tryd.prog 12 #[] w' fun e w2 => e = .returned (.bool true) ∧ Below w'.heap.size w' w2)) (hlo : -1 ≤ AB) (hhi : AB ≤ 1) (hn : (-AB != -AB) = false) (h1 : decide (AB ≤ 0) = true) (h2 : decide (BC ≤ 0) = false) (hfa : FA = true) (hfb : FB = false) :
    Calls Tryd.prog 4 #[.agg #[.int .i64 eka, .int .u64 eza, .string eta, .slice d1a l1a c1a, .slice d2a l2a c2a, .slice d3a l3a c3a, .slice d4a l4a c4a], .agg #[.int .i64 ekb, .int .u64 ezb, .string etb, .slice d1b l1b c1b, .slice d2b l2b c2b, .slice d3b l3b c3b, .slice d4b l4b c4b], .agg #[.int .i64 ekc, .int .u64 ezc, .string etc, .slice d1c l1c c1c, .slice d2c l2c c2c, .slice d3c l3c c3c, .slice d4c l4c c4c]] w fun e w' => e = .returned (.bool true) ∧ Below w.heap.size w w' := by
  subst hfa hfb
  go_enter Tryd.func4, Tryd.ntmps4
  go_wp2_with fail
  refine wp_box3 ?_
  intro W hA hB hC hb
  obtain ⟨a0, a1, a2, a3, a4, a5, a6⟩ := up7 hA
  obtain ⟨b0, b1, b2, b3, b4, b5, b6⟩ := up7 hB
  obtain ⟨c0, c1, c2, c3, c4, c5, c6⟩ := up7 hC
  have HB := Lib.hid hb
  have HABC := Lib.hid (And.intro hA (And.intro hB hC))
  clear hA hB hC hb
  refine wp_region_up (by kernel_rfl) (by kernel_rfl) ?_
  repeat (go_big_quiet_step (first | (go_at_call 13; with_reducible exact calls_up (KAB.out _ (above HB.out (InClass.h _)))) | (go_at_call 13; with_reducible exact calls_up (KBC.out _ (above HB.out (InClass.h _)))) | (go_at_call 13; with_reducible exact calls_up (KAC.out _ (above HB.out (InClass.h _))))))
  refine wpQuiet_nil ?_
  rintro _ ⟨s1, rfl⟩
  clear a0 b0 c0 a1 b1 c1 a2 b2 c2 a3 b3 c3 a4 b4 c4 a5 b5 c5 a6 b6 c6
  have HB1 := Lib.hid (above HB.out s1.h)
  have HA1 := Lib.hid (blk_keep s1.h HABC.out.1)
  have HBB1 := Lib.hid (blk_keep s1.h HABC.out.2.1)
  obtain ⟨a0, a1, a2, a3, a4, a5, a6⟩ := cells7 HA1.out
  obtain ⟨b0, b1, b2, b3, b4, b5, b6⟩ := cells7 HBB1.out
  generalize s1.w = w1 at *
  go_wp2_with fail
  refine calls_on (KBA.out _ HB1.out) ?_
  intro w2 hb2
  have HB2 := Lib.hid (above HB1.out hb2)
  have HA2 := Lib.hid (blk_keep hb2 HA1.out)
  have HBB2 := Lib.hid (blk_keep hb2 HBB1.out)
  clear a0 b0 a1 b1 a2 b2 a3 b3 a4 b4 a5 b5 a6 b6 hb2
  obtain ⟨a0, a1, a2, a3, a4, a5, a6⟩ := cells7 HA2.out
  obtain ⟨b0, b1, b2, b3, b4, b5, b6⟩ := cells7 HBB2.out
  go_wp2_with fail
  refine calls_on (KFA.out _ HB2.out) ?_
  intro w3 hb3
  have HB3 := Lib.hid (above HB2.out hb3)
  have HA3 := Lib.hid (blk_keep hb3 HA2.out)
  have HBB3 := Lib.hid (blk_keep hb3 HBB2.out)
  clear a0 b0 a1 b1 a2 b2 a3 b3 a4 b4 a5 b5 a6 b6 hb3
  obtain ⟨a0, a1, a2, a3, a4, a5, a6⟩ := cells7 HA3.out
  obtain ⟨b0, b1, b2, b3, b4, b5, b6⟩ := cells7 HBB3.out
  go_wp2_with fail
  refine calls_on (KFB.out _ HB3.out) ?_
  intro w4 hb4
  have HB4 := Lib.hid (above HB3.out hb4)
  have HA4 := Lib.hid (blk_keep hb4 HA3.out)
  have HBB4 := Lib.hid (blk_keep hb4 HBB3.out)
  clear a0 b0 a1 b1 a2 b2 a3 b3 a4 b4 a5 b5 a6 b6 hb4
  go_wp2_with fail
  refine calls_on (KW.out _ HB4.out) ?_
  intro w9 hb9
  have HB9 := Lib.hid (above HB4.out hb9)
  clear hb9
  go_wp2_with fail
  go_ret
  exact ⟨rfl, HB9.out⟩


set_option maxRecDepth 8000 in
set_option maxHeartbeats 4000000 in
theorem tot_le_y (eka eza ekb ezb ekc ezc : Int) (eta etb etc : ByteArray) (l1a l2a l3a l4a c1a c2a c3a c4a : Nat) (d1a d2a d3a d4a : Option Addr) (l1b l2b l3b l4b c1b c2b c3b c4b : Nat) (d1b d2b d3b d4b : Option Addr) (l1c l2c l3c l4c c1c c2c c3c c4c : Nat) (d1c d2c d3c d4c : Option Addr) (AB BC AC : Int) (FA FB : Bool) (X Y : ByteArray) (P Q : Bool) (w : World) (KAB : Hid (∀ w' : World, Below w.heap.size w w' → Calls Tryd.prog 13 #[.agg #[.int .i64 eka, .int .u64 eza, .string eta, .slice d1a l1a c1a, .slice d2a l2a c2a, .slice d3a l3a c3a, .slice d4a l4a c4a], .agg #[.int .i64 ekb, .int .u64 ezb, .string etb, .slice d1b l1b c1b, .slice d2b l2b c2b, .slice d3b l3b c3b, .slice d4b l4b c4b]] w' fun e w2 => e = .returned (.int .i64 AB) ∧ Below w'.heap.size w' w2)) (KBC : Hid (∀ w' : World, Below w.heap.size w w' → Calls Tryd.prog 13 #[.agg #[.int .i64 ekb, .int .u64 ezb, .string etb, .slice d1b l1b c1b, .slice d2b l2b c2b, .slice d3b l3b c3b, .slice d4b l4b c4b], .agg #[.int .i64 ekc, .int .u64 ezc, .string etc, .slice d1c l1c c1c, .slice d2c l2c c2c, .slice d3c l3c c3c, .slice d4c l4c c4c]] w' fun e w2 => e = .returned (.int .i64 BC) ∧ Below w'.heap.size w' w2)) (KAC : Hid (∀ w' : World, Below w.heap.size w w' → Calls Tryd.prog 13 #[.agg #[.int .i64 eka, .int .u64 eza, .string eta, .slice d1a l1a c1a, .slice d2a l2a c2a, .slice d3a l3a c3a, .slice d4a l4a c4a], .agg #[.int .i64 ekc, .int .u64 ezc, .string etc, .slice d1c l1c c1c, .slice d2c l2c c2c, .slice d3c l3c c3c, .slice d4c l4c c4c]] w' fun e w2 => e = .returned (.int .i64 AC) ∧ Below w'.heap.size w' w2)) (KBA : Hid (∀ w' : World, Below w.heap.size w w' → Calls Tryd.prog 13 #[.agg #[.int .i64 ekb, .int .u64 ezb, .string etb, .slice d1b l1b c1b, .slice d2b l2b c2b, .slice d3b l3b c3b, .slice d4b l4b c4b], .agg #[.int .i64 eka, .int .u64 eza, .string eta, .slice d1a l1a c1a, .slice d2a l2a c2a, .slice d3a l3a c3a, .slice d4a l4a c4a]] w' fun e w2 => e = .returned (.int .i64 (-AB)) ∧ Below w'.heap.size w' w2)) (KFA : Hid (∀ w' : World, Below w.heap.size w w' → Calls Tryd.prog 14 #[.int .i64 eka, .agg #[.int .i64 eka, .int .u64 eza, .string eta, .slice d1a l1a c1a, .slice d2a l2a c2a, .slice d3a l3a c3a, .slice d4a l4a c4a]] w' fun e w2 => e = .returned (.bool FA) ∧ Below w'.heap.size w' w2)) (KFB : Hid (∀ w' : World, Below w.heap.size w w' → Calls Tryd.prog 14 #[.int .i64 ekb, .agg #[.int .i64 ekb, .int .u64 ezb, .string etb, .slice d1b l1b c1b, .slice d2b l2b c2b, .slice d3b l3b c3b, .slice d4b l4b c4b]] w' fun e w2 => e = .returned (.bool FB) ∧ Below w'.heap.size w' w2)) (KXA : Hid (∀ w' : World, Below w.heap.size w w' → Calls Tryd.prog 10 #[.agg #[.int .i64 eka, .int .u64 eza, .string eta, .slice d1a l1a c1a, .slice d2a l2a c2a, .slice d3a l3a c3a, .slice d4a l4a c4a]] w' fun e w2 => e = .returned (.string X) ∧ Below w'.heap.size w' w2)) (KXB : Hid (∀ w' : World, Below w.heap.size w w' → Calls Tryd.prog 10 #[.agg #[.int .i64 ekb, .int .u64 ezb, .string etb, .slice d1b l1b c1b, .slice d2b l2b c2b, .slice d3b l3b c3b, .slice d4b l4b c4b]] w' fun e w2 => e = .returned (.string Y) ∧ Below w'.heap.size w' w2)) (KW : Hid (∀ w' : World, Below w.heap.size w w' → Calls Tryd.prog 12 #[] w' fun e w2 => e = .returned (.bool true) ∧ Below w'.heap.size w' w2)) (hlo : -1 ≤ AB) (hhi : AB ≤ 1) (hn : (-AB != -AB) = false) (h1 : decide (AB ≤ 0) = true) (h2 : decide (BC ≤ 0) = false) (hfa : FA = true) (hfb : FB = true) (p1 : Op.bytesLess X.toList Y.toList = P) (p2 : decide (AB < 0) = P) (q1 : (X.toList == Y.toList) = Q) (q2 : (AB == 0) = Q) (e1 : X.toList.isEmpty = false) :
    Calls Tryd.prog 4 #[.agg #[.int .i64 eka, .int .u64 eza, .string eta, .slice d1a l1a c1a, .slice d2a l2a c2a, .slice d3a l3a c3a, .slice d4a l4a c4a], .agg #[.int .i64 ekb, .int .u64 ezb, .string etb, .slice d1b l1b c1b, .slice d2b l2b c2b, .slice d3b l3b c3b, .slice d4b l4b c4b], .agg #[.int .i64 ekc, .int .u64 ezc, .string etc, .slice d1c l1c c1c, .slice d2c l2c c2c, .slice d3c l3c c3c, .slice d4c l4c c4c]] w fun e w' => e = .returned (.bool true) ∧ Below w.heap.size w w' := by
  subst hfa hfb
  cases P <;> cases Q
  all_goals
    go_enter Tryd.func4, Tryd.ntmps4
    go_wp2_with fail
    refine wp_box3 ?_
    intro W hA hB hC hb
    obtain ⟨a0, a1, a2, a3, a4, a5, a6⟩ := up7 hA
    obtain ⟨b0, b1, b2, b3, b4, b5, b6⟩ := up7 hB
    obtain ⟨c0, c1, c2, c3, c4, c5, c6⟩ := up7 hC
    have HB := Lib.hid hb
    have HABC := Lib.hid (And.intro hA (And.intro hB hC))
    clear hA hB hC hb
    refine wp_region_up (by kernel_rfl) (by kernel_rfl) ?_
    repeat (go_big_quiet_step (first | (go_at_call 13; with_reducible exact calls_up (KAB.out _ (above HB.out (InClass.h _)))) | (go_at_call 13; with_reducible exact calls_up (KBC.out _ (above HB.out (InClass.h _)))) | (go_at_call 13; with_reducible exact calls_up (KAC.out _ (above HB.out (InClass.h _))))))
    refine wpQuiet_nil ?_
    rintro _ ⟨s1, rfl⟩
    clear a0 b0 c0 a1 b1 c1 a2 b2 c2 a3 b3 c3 a4 b4 c4 a5 b5 c5 a6 b6 c6
    have HB1 := Lib.hid (above HB.out s1.h)
    have HA1 := Lib.hid (blk_keep s1.h HABC.out.1)
    have HBB1 := Lib.hid (blk_keep s1.h HABC.out.2.1)
    obtain ⟨a0, a1, a2, a3, a4, a5, a6⟩ := cells7 HA1.out
    obtain ⟨b0, b1, b2, b3, b4, b5, b6⟩ := cells7 HBB1.out
    generalize s1.w = w1 at *
    go_wp2_with fail
    refine calls_on (KBA.out _ HB1.out) ?_
    intro w2 hb2
    have HB2 := Lib.hid (above HB1.out hb2)
    have HA2 := Lib.hid (blk_keep hb2 HA1.out)
    have HBB2 := Lib.hid (blk_keep hb2 HBB1.out)
    clear a0 b0 a1 b1 a2 b2 a3 b3 a4 b4 a5 b5 a6 b6 hb2
    obtain ⟨a0, a1, a2, a3, a4, a5, a6⟩ := cells7 HA2.out
    obtain ⟨b0, b1, b2, b3, b4, b5, b6⟩ := cells7 HBB2.out
    go_wp2_with fail
    refine calls_on (KFA.out _ HB2.out) ?_
    intro w3 hb3
    have HB3 := Lib.hid (above HB2.out hb3)
    have HA3 := Lib.hid (blk_keep hb3 HA2.out)
    have HBB3 := Lib.hid (blk_keep hb3 HBB2.out)
    clear a0 b0 a1 b1 a2 b2 a3 b3 a4 b4 a5 b5 a6 b6 hb3
    obtain ⟨a0, a1, a2, a3, a4, a5, a6⟩ := cells7 HA3.out
    obtain ⟨b0, b1, b2, b3, b4, b5, b6⟩ := cells7 HBB3.out
    go_wp2_with fail
    refine calls_on (KFB.out _ HB3.out) ?_
    intro w4 hb4
    have HB4 := Lib.hid (above HB3.out hb4)
    have HA4 := Lib.hid (blk_keep hb4 HA3.out)
    have HBB4 := Lib.hid (blk_keep hb4 HBB3.out)
    clear a0 b0 a1 b1 a2 b2 a3 b3 a4 b4 a5 b5 a6 b6 hb4
    go_wp2_with fail
    obtain ⟨a0, a1, a2, a3, a4, a5, a6⟩ := up7 HA4.out
    obtain ⟨b0, b1, b2, b3, b4, b5, b6⟩ := up7 HBB4.out
    refine wp_region_up (by kernel_rfl) (by kernel_rfl) ?_
    repeat (go_big_quiet_step (first | (go_at_call 10; with_reducible exact calls_up (KXA.out _ (above HB4.out (InClass.h _)))) | (go_at_call 10; with_reducible exact calls_up (KXB.out _ (above HB4.out (InClass.h _))))))
    refine wpQuiet_nil ?_
    rintro _ ⟨s5, rfl⟩
    clear a0 b0 a1 b1 a2 b2 a3 b3 a4 b4 a5 b5 a6 b6
    have HB5 := Lib.hid (above HB4.out s5.h)
    generalize s5.w = w5 at *
    go_wp2_with fail
    refine calls_on (KW.out _ HB5.out) ?_
    intro w9 hb9
    have HB9 := Lib.hid (above HB5.out hb9)
    clear hb9
    go_wp2_with fail
    go_ret
    exact ⟨rfl, HB9.out⟩


set_option maxRecDepth 8000 in
set_option maxHeartbeats 4000000 in
theorem tot_ll_n (eka eza ekb ezb ekc ezc : Int) (eta etb etc : ByteArray) (l1a l2a l3a l4a c1a c2a c3a c4a : Nat) (d1a d2a d3a d4a : Option Addr) (l1b l2b l3b l4b c1b c2b c3b c4b : Nat) (d1b d2b d3b d4b : Option Addr) (l1c l2c l3c l4c c1c c2c c3c c4c : Nat) (d1c d2c d3c d4c : Option Addr) (AB BC AC : Int) (FA FB : Bool) (X Y : ByteArray) (w : World) (KAB : Hid (∀ w' : World, Below w.heap.size w w' → Calls Tryd.prog 13 #[.agg #[.int .i64 eka, .int .u64 eza, .string eta, .slice d1a l1a c1a, .slice d2a l2a c2a, .slice d3a l3a c3a, .slice d4a l4a c4a], .agg #[.int .i64 ekb, .int .u64 ezb, .string etb, .slice d1b l1b c1b, .slice d2b l2b c2b, .slice d3b l3b c3b, .slice d4b l4b c4b]] w' fun e w2 => e = .returned (.int .i64 AB) ∧ Below w'.heap.size w' w2)) (KBC : Hid (∀ w' : World, Below w.heap.size w w' → Calls Tryd.prog 13 #[.agg #[.int .i64 ekb, .int .u64 ezb, .string etb, .slice d1b l1b c1b, .slice d2b l2b c2b, .slice d3b l3b c3b, .slice d4b l4b c4b], .agg #[.int .i64 ekc, .int .u64 ezc, .string etc, .slice d1c l1c c1c, .slice d2c l2c c2c, .slice d3c l3c c3c, .slice d4c l4c c4c]] w' fun e w2 => e = .returned (.int .i64 BC) ∧ Below w'.heap.size w' w2)) (KAC : Hid (∀ w' : World, Below w.heap.size w w' → Calls Tryd.prog 13 #[.agg #[.int .i64 eka, .int .u64 eza, .string eta, .slice d1a l1a c1a, .slice d2a l2a c2a, .slice d3a l3a c3a, .slice d4a l4a c4a], .agg #[.int .i64 ekc, .int .u64 ezc, .string etc, .slice d1c l1c c1c, .slice d2c l2c c2c, .slice d3c l3c c3c, .slice d4c l4c c4c]] w' fun e w2 => e = .returned (.int .i64 AC) ∧ Below w'.heap.size w' w2)) (KBA : Hid (∀ w' : World, Below w.heap.size w w' → Calls Tryd.prog 13 #[.agg #[.int .i64 ekb, .int .u64 ezb, .string etb, .slice d1b l1b c1b, .slice d2b l2b c2b, .slice d3b l3b c3b, .slice d4b l4b c4b], .agg #[.int .i64 eka, .int .u64 eza, .string eta, .slice d1a l1a c1a, .slice d2a l2a c2a, .slice d3a l3a c3a, .slice d4a l4a c4a]] w' fun e w2 => e = .returned (.int .i64 (-AB)) ∧ Below w'.heap.size w' w2)) (KFA : Hid (∀ w' : World, Below w.heap.size w w' → Calls Tryd.prog 14 #[.int .i64 eka, .agg #[.int .i64 eka, .int .u64 eza, .string eta, .slice d1a l1a c1a, .slice d2a l2a c2a, .slice d3a l3a c3a, .slice d4a l4a c4a]] w' fun e w2 => e = .returned (.bool FA) ∧ Below w'.heap.size w' w2)) (KFB : Hid (∀ w' : World, Below w.heap.size w w' → Calls Tryd.prog 14 #[.int .i64 ekb, .agg #[.int .i64 ekb, .int .u64 ezb, .string etb, .slice d1b l1b c1b, .slice d2b l2b c2b, .slice d3b l3b c3b, .slice d4b l4b c4b]] w' fun e w2 => e = .returned (.bool FB) ∧ Below w'.heap.size w' w2)) (KXA : Hid (∀ w' : World, Below w.heap.size w w' → Calls Tryd.prog 10 #[.agg #[.int .i64 eka, .int .u64 eza, .string eta, .slice d1a l1a c1a, .slice d2a l2a c2a, .slice d3a l3a c3a, .slice d4a l4a c4a]] w' fun e w2 => e = .returned (.string X) ∧ Below w'.heap.size w' w2)) (KXB : Hid (∀ w' : World, Below w.heap.size w w' → Calls Tryd.prog 10 #[.agg #[.int .i64 ekb, .int .u64 ezb, .string etb, .slice d1b l1b c1b, .slice d2b l2b c2b, .slice d3b l3b c3b, .slice d4b l4b c4b]] w' fun e w2 => e = .returned (.string Y) ∧ Below w'.heap.size w' w2)) (KW : Hid (∀ w' : World, Below w.heap.size w w' → Calls Tryd.prog 12 #[] w' fun e w2 => e = .returned (.bool true) ∧ Below w'.heap.size w' w2)) (hlo : -1 ≤ AB) (hhi : AB ≤ 1) (hn : (-AB != -AB) = false) (h1 : decide (AB ≤ 0) = true) (h2 : decide (BC ≤ 0) = true) (h3 : (AC != min AB BC) = false) (hfa : FA = false) :
    Calls Tryd.prog 4 #[.agg #[.int .i64 eka, .int .u64 eza, .string eta, .slice d1a l1a c1a, .slice d2a l2a c2a, .slice d3a l3a c3a, .slice d4a l4a c4a], .agg #[.int .i64 ekb, .int .u64 ezb, .string etb, .slice d1b l1b c1b, .slice d2b l2b c2b, .slice d3b l3b c3b, .slice d4b l4b c4b], .agg #[.int .i64 ekc, .int .u64 ezc, .string etc, .slice d1c l1c c1c, .slice d2c l2c c2c, .slice d3c l3c c3c, .slice d4c l4c c4c]] w fun e w' => e = .returned (.bool true) ∧ Below w.heap.size w w' := by
  subst hfa
  go_enter Tryd.func4, Tryd.ntmps4
  go_wp2_with fail
  refine wp_box3 ?_
  intro W hA hB hC hb
  obtain ⟨a0, a1, a2, a3, a4, a5, a6⟩ := up7 hA
  obtain ⟨b0, b1, b2, b3, b4, b5, b6⟩ := up7 hB
  obtain ⟨c0, c1, c2, c3, c4, c5, c6⟩ := up7 hC
  have HB := Lib.hid hb
  have HABC := Lib.hid (And.intro hA (And.intro hB hC))
  clear hA hB hC hb
  refine wp_region_up (by kernel_rfl) (by kernel_rfl) ?_
  repeat (go_big_quiet_step (first | (go_at_call 13; with_reducible exact calls_up (KAB.out _ (above HB.out (InClass.h _)))) | (go_at_call 13; with_reducible exact calls_up (KBC.out _ (above HB.out (InClass.h _)))) | (go_at_call 13; with_reducible exact calls_up (KAC.out _ (above HB.out (InClass.h _))))))
  refine wpQuiet_nil ?_
  rintro _ ⟨s1, rfl⟩
  clear a0 b0 c0 a1 b1 c1 a2 b2 c2 a3 b3 c3 a4 b4 c4 a5 b5 c5 a6 b6 c6
  have HB1 := Lib.hid (above HB.out s1.h)
  have HA1 := Lib.hid (blk_keep s1.h HABC.out.1)
  have HBB1 := Lib.hid (blk_keep s1.h HABC.out.2.1)
  obtain ⟨a0, a1, a2, a3, a4, a5, a6⟩ := cells7 HA1.out
  obtain ⟨b0, b1, b2, b3, b4, b5, b6⟩ := cells7 HBB1.out
  generalize s1.w = w1 at *
  go_wp2_with fail
  refine calls_on (KBA.out _ HB1.out) ?_
  intro w2 hb2
  have HB2 := Lib.hid (above HB1.out hb2)
  have HA2 := Lib.hid (blk_keep hb2 HA1.out)
  have HBB2 := Lib.hid (blk_keep hb2 HBB1.out)
  clear a0 b0 a1 b1 a2 b2 a3 b3 a4 b4 a5 b5 a6 b6 hb2
  obtain ⟨a0, a1, a2, a3, a4, a5, a6⟩ := cells7 HA2.out
  obtain ⟨b0, b1, b2, b3, b4, b5, b6⟩ := cells7 HBB2.out
  go_wp2_with fail
  refine calls_on (KFA.out _ HB2.out) ?_
  intro w3 hb3
  have HB3 := Lib.hid (above HB2.out hb3)
  have HA3 := Lib.hid (blk_keep hb3 HA2.out)
  have HBB3 := Lib.hid (blk_keep hb3 HBB2.out)
  clear a0 b0 a1 b1 a2 b2 a3 b3 a4 b4 a5 b5 a6 b6 hb3
  obtain ⟨a0, a1, a2, a3, a4, a5, a6⟩ := cells7 HA3.out
  obtain ⟨b0, b1, b2, b3, b4, b5, b6⟩ := cells7 HBB3.out
  go_wp2_with fail
  refine calls_on (KW.out _ HB3.out) ?_
  intro w9 hb9
  have HB9 := Lib.hid (above HB3.out hb9)
  clear hb9
  go_wp2_with fail
  go_ret
  exact ⟨rfl, HB9.out⟩


set_option maxRecDepth 8000 in
set_option maxHeartbeats 4000000 in
theorem tot_ll_a (eka eza ekb ezb ekc ezc : Int) (eta etb etc : ByteArray) (l1a l2a l3a l4a c1a c2a c3a c4a : Nat) (d1a d2a d3a d4a : Option Addr) (l1b l2b l3b l4b c1b c2b c3b c4b : Nat) (d1b d2b d3b d4b : Option Addr) (l1c l2c l3c l4c c1c c2c c3c c4c : Nat) (d1c d2c d3c d4c : Option Addr) (AB BC AC : Int) (FA FB : Bool) (X Y : ByteArray) (w : World) (KAB : Hid (∀ w' : World, Below w.heap.size w w' → Calls Tryd.prog 13 #[.agg #[.int .i64 eka, .int .u64 eza, .string eta, .slice d1a l1a c1a, .slice d2a l2a c2a, .slice d3a l3a c3a, .slice d4a l4a c4a], .agg #[.int .i64 ekb, .int .u64 ezb, .string etb, .slice d1b l1b c1b, .slice d2b l2b c2b, .slice d3b l3b c3b, .slice d4b l4b c4b]] w' fun e w2 => e = .returned (.int .i64 AB) ∧ Below w'.heap.size w' w2)) (KBC : Hid (∀ w' : World, Below w.heap.size w w' → Calls Tryd.prog 13 #[.agg #[.int .i64 ekb, .int .u64 ezb, .string etb, .slice d1b l1b c1b, .slice d2b l2b c2b, .slice d3b l3b c3b, .slice d4b l4b c4b], .agg #[.int .i64 ekc, .int .u64 ezc, .string etc, .slice d1c l1c c1c, .slice d2c l2c c2c, .slice d3c l3c c3c, .slice d4c l4c c4c]] w' fun e w2 => e = .returned (.int .i64 BC) ∧ Below w'.heap.size w' w2)) (KAC : Hid (∀ w' : World, Below w.heap.size w w' → Calls Tryd.prog 13 #[.agg #[.int .i64 eka, .int .u64 eza, .string eta, .slice d1a l1a c1a, .slice d2a l2a c2a, .slice d3a l3a c3a, .slice d4a l4a c4a], .agg #[.int .i64 ekc, .int .u64 ezc, .string etc, .slice d1c l1c c1c, .slice d2c l2c c2c, .slice d3c l3c c3c, .slice d4c l4c c4c]] w' fun e w2 => e = .returned (.int .i64 AC) ∧ Below w'.heap.size w' w2)) (KBA : Hid (∀ w' : World, Below w.heap.size w w' → Calls Tryd.prog 13 #[.agg #[.int .i64 ekb, .int .u64 ezb, .string etb, .slice d1b l1b c1b, .slice d2b l2b c2b, .slice d3b l3b c3b, .slice d4b l4b c4b], .agg #[.int .i64 eka, .int .u64 eza, .string eta, .slice d1a l1a c1a, .slice d2a l2a c2a, .slice d3a l3a c3a, .slice d4a l4a c4a]] w' fun e w2 => e = .returned (.int .i64 (-AB)) ∧ Below w'.heap.size w' w2)) (KFA : Hid (∀ w' : World, Below w.heap.size w w' → Calls Tryd.prog 14 #[.int .i64 eka, .agg #[.int .i64 eka, .int .u64 eza, .string eta, .slice d1a l1a c1a, .slice d2a l2a c2a, .slice d3a l3a c3a, .slice d4a l4a c4a]] w' fun e w2 => e = .returned (.bool FA) ∧ Below w'.heap.size w' w2)) (KFB : Hid (∀ w' : World, Below w.heap.size w w' → Calls Tryd.prog 14 #[.int .i64 ekb, .agg #[.int .i64 ekb, .int .u64 ezb, .string etb, .slice d1b l1b c1b, .slice d2b l2b c2b, .slice d3b l3b c3b, .slice d4b l4b c4b]] w' fun e w2 => e = .returned (.bool FB) ∧ Below w'.heap.size w' w2)) (KXA : Hid (∀ w' : World, Below w.heap.size w w' → Calls Tryd.prog 10 #[.agg #[.int .i64 eka, .int .u64 eza, .string eta, .slice d1a l1a c1a, .slice d2a l2a c2a, .slice d3a l3a c3a, .slice d4a l4a c4a]] w' fun e w2 => e = .returned (.string X) ∧ Below w'.heap.size w' w2)) (KXB : Hid (∀ w' : World, Below w.heap.size w w' → Calls Tryd.prog 10 #[.agg #[.int .i64 ekb, .int .u64 ezb, .string etb, .slice d1b l1b c1b, .slice d2b l2b c2b, .slice d3b l3b c3b, .slice d4b l4b c4b]] w' fun e w2 => e = .returned (.string Y) ∧ Below w'.heap.size w' w2)) (KW : Hid (∀ w' : World, Below w.heap.size w w' → Calls Tryd.prog 12 #[] w' fun e w2 => e = .returned (.bool true) ∧ Below w'.heap.size w' w2)) (hlo : -1 ≤ AB) (hhi : AB ≤ 1) (hn : (-AB != -AB) = false) (h1 : decide (AB ≤ 0) = true) (h2 : decide (BC ≤ 0) = true) (h3 : (AC != min AB BC) = false) (hfa : FA = true) (hfb : FB = false) :
    Calls Tryd.prog 4 #[.agg #[.int .i64 eka, .int .u64 eza, .string eta, .slice d1a l1a c1a, .slice d2a l2a c2a, .slice d3a l3a c3a, .slice d4a l4a c4a], .agg #[.int .i64 ekb, .int .u64 ezb, .string etb, .slice d1b l1b c1b, .slice d2b l2b c2b, .slice d3b l3b c3b, .slice d4b l4b c4b], .agg #[.int .i64 ekc, .int .u64 ezc, .string etc, .slice d1c l1c c1c, .slice d2c l2c c2c, .slice d3c l3c c3c, .slice d4c l4c c4c]] w fun e w' => e = .returned (.bool true) ∧ Below w.heap.size w w' := by
  subst hfa hfb
  go_enter Tryd.func4, Tryd.ntmps4
  go_wp2_with fail
  refine wp_box3 ?_
  intro W hA hB hC hb
  obtain ⟨a0, a1, a2, a3, a4, a5, a6⟩ := up7 hA
  obtain ⟨b0, b1, b2, b3, b4, b5, b6⟩ := up7 hB
  obtain ⟨c0, c1, c2, c3, c4, c5, c6⟩ := up7 hC
  have HB := Lib.hid hb
  have HABC := Lib.hid (And.intro hA (And.intro hB hC))
  clear hA hB hC hb
  refine wp_region_up (by kernel_rfl) (by kernel_rfl) ?_
  repeat (go_big_quiet_step (first | (go_at_call 13; with_reducible exact calls_up (KAB.out _ (above HB.out (InClass.h _)))) | (go_at_call 13; with_reducible exact calls_up (KBC.out _ (above HB.out (InClass.h _)))) | (go_at_call 13; with_reducible exact calls_up (KAC.out _ (above HB.out (InClass.h _))))))
  refine wpQuiet_nil ?_
  rintro _ ⟨s1, rfl⟩
  clear a0 b0 c0 a1 b1 c1 a2 b2 c2 a3 b3 c3 a4 b4 c4 a5 b5 c5 a6 b6 c6
  have HB1 := Lib.hid (above HB.out s1.h)
  have HA1 := Lib.hid (blk_keep s1.h HABC.out.1)
  have HBB1 := Lib.hid (blk_keep s1.h HABC.out.2.1)
  obtain ⟨a0, a1, a2, a3, a4, a5, a6⟩ := cells7 HA1.out
  obtain ⟨b0, b1, b2, b3, b4, b5, b6⟩ := cells7 HBB1.out
  generalize s1.w = w1 at *
  go_wp2_with fail
  refine calls_on (KBA.out _ HB1.out) ?_
  intro w2 hb2
  have HB2 := Lib.hid (above HB1.out hb2)
  have HA2 := Lib.hid (blk_keep hb2 HA1.out)
  have HBB2 := Lib.hid (blk_keep hb2 HBB1.out)
  clear a0 b0 a1 b1 a2 b2 a3 b3 a4 b4 a5 b5 a6 b6 hb2
  obtain ⟨a0, a1, a2, a3, a4, a5, a6⟩ := cells7 HA2.out
  obtain ⟨b0, b1, b2, b3, b4, b5, b6⟩ := cells7 HBB2.out
  go_wp2_with fail
  refine calls_on (KFA.out _ HB2.out) ?_
  intro w3 hb3
  have HB3 := Lib.hid (above HB2.out hb3)
  have HA3 := Lib.hid (blk_keep hb3 HA2.out)
  have HBB3 := Lib.hid (blk_keep hb3 HBB2.out)
  clear a0 b0 a1 b1 a2 b2 a3 b3 a4 b4 a5 b5 a6 b6 hb3
  obtain ⟨a0, a1, a2, a3, a4, a5, a6⟩ := cells7 HA3.out
  obtain ⟨b0, b1, b2, b3, b4, b5, b6⟩ := cells7 HBB3.out
  go_wp2_with fail
  refine calls_on (KFB.out _ HB3.out) ?_
  intro w4 hb4
  have HB4 := Lib.hid (above HB3.out hb4)
  have HA4 := Lib.hid (blk_keep hb4 HA3.out)
  have HBB4 := Lib.hid (blk_keep hb4 HBB3.out)
  clear a0 b0 a1 b1 a2 b2 a3 b3 a4 b4 a5 b5 a6 b6 hb4
  go_wp2_with fail
  refine calls_on (KW.out _ HB4.out) ?_
  intro w9 hb9
  have HB9 := Lib.hid (above HB4.out hb9)
  clear hb9
  go_wp2_with fail
  go_ret
  exact ⟨rfl, HB9.out⟩


set_option maxRecDepth 8000 in
set_option maxHeartbeats 4000000 in
theorem tot_ll_y (eka eza ekb ezb ekc ezc : Int) (eta etb etc : ByteArray) (l1a l2a l3a l4a c1a c2a c3a c4a : Nat) (d1a d2a d3a d4a : Option Addr) (l1b l2b l3b l4b c1b c2b c3b c4b : Nat) (d1b d2b d3b d4b : Option Addr) (l1c l2c l3c l4c c1c c2c c3c c4c : Nat) (d1c d2c d3c d4c : Option Addr) (AB BC AC : Int) (FA FB : Bool) (X Y : ByteArray) (P Q : Bool) (w : World) (KAB : Hid (∀ w' : World, Below w.heap.size w w' → Calls Tryd.prog 13 #[.agg #[.int .i64 eka, .int .u64 eza, .string eta, .slice d1a l1a c1a, .slice d2a l2a c2a, .slice d3a l3a c3a, .slice d4a l4a c4a], .agg #[.int .i64 ekb, .int .u64 ezb, .string etb, .slice d1b l1b c1b, .slice d2b l2b c2b, .slice d3b l3b c3b, .slice d4b l4b c4b]] w' fun e w2 => e = .returned (.int .i64 AB) ∧ Below w'.heap.size w' w2)) (KBC : Hid (∀ w' : World, Below w.heap.size w w' → Calls Tryd.prog 13 #[.agg #[.int .i64 ekb, .int .u64 ezb, .string etb, .slice d1b l1b c1b, .slice d2b l2b c2b, .slice d3b l3b c3b, .slice d4b l4b c4b], .agg #[.int .i64 ekc, .int .u64 ezc, .string etc, .slice d1c l1c c1c, .slice d2c l2c c2c, .slice d3c l3c c3c, .slice d4c l4c c4c]] w' fun e w2 => e = .returned (.int .i64 BC) ∧ Below w'.heap.size w' w2)) (KAC : Hid (∀ w' : World, Below w.heap.size w w' → Calls Tryd.prog 13 #[.agg #[.int .i64 eka, .int .u64 eza, .string eta, .slice d1a l1a c1a, .slice d2a l2a c2a, .slice d3a l3a c3a, .slice d4a l4a c4a], .agg #[.int .i64 ekc, .int .u64 ezc, .string etc, .slice d1c l1c c1c, .slice d2c l2c c2c, .slice d3c l3c c3c, .slice d4c l4c c4c]] w' fun e w2 => e = .returned (.int .i64 AC) ∧ Below w'.heap.size w' w2)) (KBA : Hid (∀ w' : World, Below w.heap.size w w' → Calls Tryd.prog 13 #[.agg #[.int .i64 ekb, .int .u64 ezb, .string etb, .slice d1b l1b c1b, .slice d2b l2b c2b, .slice d3b l3b c3b, .slice d4b l4b c4b], .agg #[.int .i64 eka, .int .u64 eza, .string eta, .slice d1a l1a c1a, .slice d2a l2a c2a, .slice d3a l3a c3a, .slice d4a l4a c4a]] w' fun e w2 => e = .returned (.int .i64 (-AB)) ∧ Below w'.heap.size w' w2)) (KFA : Hid (∀ w' : World, Below w.heap.size w w' → Calls Tryd.prog 14 #[.int .i64 eka, .agg #[.int .i64 eka, .int .u64 eza, .string eta, .slice d1a l1a c1a, .slice d2a l2a c2a, .slice d3a l3a c3a, .slice d4a l4a c4a]] w' fun e w2 => e = .returned (.bool FA) ∧ Below w'.heap.size w' w2)) (KFB : Hid (∀ w' : World, Below w.heap.size w w' → Calls Tryd.prog 14 #[.int .i64 ekb, .agg #[.int .i64 ekb, .int .u64 ezb, .string etb, .slice d1b l1b c1b, .slice d2b l2b c2b, .slice d3b l3b c3b, .slice d4b l4b c4b]] w' fun e w2 => e = .returned (.bool FB) ∧ Below w'.heap.size w' w2)) (KXA : Hid (∀ w' : World, Below w.heap.size w w' → Calls Tryd.prog 10 #[.agg #[.int .i64 eka, .int .u64 eza, .string eta, .slice d1a l1a c1a, .slice d2a l2a c2a, .slice d3a l3a c3a, .slice d4a l4a c4a]] w' fun e w2 => e = .returned (.string X) ∧ Below w'.heap.size w' w2)) (KXB : Hid (∀ w' : World, Below w.heap.size w w' → Calls Tryd.prog 10 #[.agg #[.int .i64 ekb, .int .u64 ezb, .string etb, .slice d1b l1b c1b, .slice d2b l2b c2b, .slice d3b l3b c3b, .slice d4b l4b c4b]] w' fun e w2 => e = .returned (.string Y) ∧ Below w'.heap.size w' w2)) (KW : Hid (∀ w' : World, Below w.heap.size w w' → Calls Tryd.prog 12 #[] w' fun e w2 => e = .returned (.bool true) ∧ Below w'.heap.size w' w2)) (hlo : -1 ≤ AB) (hhi : AB ≤ 1) (hn : (-AB != -AB) = false) (h1 : decide (AB ≤ 0) = true) (h2 : decide (BC ≤ 0) = true) (h3 : (AC != min AB BC) = false) (hfa : FA = true) (hfb : FB = true) (p1 : Op.bytesLess X.toList Y.toList = P) (p2 : decide (AB < 0) = P) (q1 : (X.toList == Y.toList) = Q) (q2 : (AB == 0) = Q) (e1 : X.toList.isEmpty = false) :
    Calls Tryd.prog 4 #[.agg #[.int .i64 eka, .int .u64 eza, .string eta, .slice d1a l1a c1a, .slice d2a l2a c2a, .slice d3a l3a c3a, .slice d4a l4a c4a], .agg #[.int .i64 ekb, .int .u64 ezb, .string etb, .slice d1b l1b c1b, .slice d2b l2b c2b, .slice d3b l3b c3b, .slice d4b l4b c4b], .agg #[.int .i64 ekc, .int .u64 ezc, .string etc, .slice d1c l1c c1c, .slice d2c l2c c2c, .slice d3c l3c c3c, .slice d4c l4c c4c]] w fun e w' => e = .returned (.bool true) ∧ Below w.heap.size w w' := by
  subst hfa hfb
  cases P <;> cases Q
  all_goals
    go_enter Tryd.func4, Tryd.ntmps4
    go_wp2_with fail
    refine wp_box3 ?_
    intro W hA hB hC hb
    obtain ⟨a0, a1, a2, a3, a4, a5, a6⟩ := up7 hA
    obtain ⟨b0, b1, b2, b3, b4, b5, b6⟩ := up7 hB
    obtain ⟨c0, c1, c2, c3, c4, c5, c6⟩ := up7 hC
    have HB := Lib.hid hb
    have HABC := Lib.hid (And.intro hA (And.intro hB hC))
    clear hA hB hC hb
    refine wp_region_up (by kernel_rfl) (by kernel_rfl) ?_
    repeat (go_big_quiet_step (first | (go_at_call 13; with_reducible exact calls_up (KAB.out _ (above HB.out (InClass.h _)))) | (go_at_call 13; with_reducible exact calls_up (KBC.out _ (above HB.out (InClass.h _)))) | (go_at_call 13; with_reducible exact calls_up (KAC.out _ (above HB.out (InClass.h _))))))
    refine wpQuiet_nil ?_
    rintro _ ⟨s1, rfl⟩
    clear a0 b0 c0 a1 b1 c1 a2 b2 c2 a3 b3 c3 a4 b4 c4 a5 b5 c5 a6 b6 c6
    have HB1 := Lib.hid (above HB.out s1.h)
    have HA1 := Lib.hid (blk_keep s1.h HABC.out.1)
    have HBB1 := Lib.hid (blk_keep s1.h HABC.out.2.1)
    obtain ⟨a0, a1, a2, a3, a4, a5, a6⟩ := cells7 HA1.out
    obtain ⟨b0, b1, b2, b3, b4, b5, b6⟩ := cells7 HBB1.out
    generalize s1.w = w1 at *
    go_wp2_with fail
    refine calls_on (KBA.out _ HB1.out) ?_
    intro w2 hb2
    have HB2 := Lib.hid (above HB1.out hb2)
    have HA2 := Lib.hid (blk_keep hb2 HA1.out)
    have HBB2 := Lib.hid (blk_keep hb2 HBB1.out)
    clear a0 b0 a1 b1 a2 b2 a3 b3 a4 b4 a5 b5 a6 b6 hb2
    obtain ⟨a0, a1, a2, a3, a4, a5, a6⟩ := cells7 HA2.out
    obtain ⟨b0, b1, b2, b3, b4, b5, b6⟩ := cells7 HBB2.out
    go_wp2_with fail
    refine calls_on (KFA.out _ HB2.out) ?_
    intro w3 hb3
    have HB3 := Lib.hid (above HB2.out hb3)
    have HA3 := Lib.hid (blk_keep hb3 HA2.out)
    have HBB3 := Lib.hid (blk_keep hb3 HBB2.out)
    clear a0 b0 a1 b1 a2 b2 a3 b3 a4 b4 a5 b5 a6 b6 hb3
    obtain ⟨a0, a1, a2, a3, a4, a5, a6⟩ := cells7 HA3.out
    obtain ⟨b0, b1, b2, b3, b4, b5, b6⟩ := cells7 HBB3.out
    go_wp2_with fail
    refine calls_on (KFB.out _ HB3.out) ?_
    intro w4 hb4
    have HB4 := Lib.hid (above HB3.out hb4)
    have HA4 := Lib.hid (blk_keep hb4 HA3.out)
    have HBB4 := Lib.hid (blk_keep hb4 HBB3.out)
    clear a0 b0 a1 b1 a2 b2 a3 b3 a4 b4 a5 b5 a6 b6 hb4
    go_wp2_with fail
    obtain ⟨a0, a1, a2, a3, a4, a5, a6⟩ := up7 HA4.out
    obtain ⟨b0, b1, b2, b3, b4, b5, b6⟩ := up7 HBB4.out
    refine wp_region_up (by kernel_rfl) (by kernel_rfl) ?_
    repeat (go_big_quiet_step (first | (go_at_call 10; with_reducible exact calls_up (KXA.out _ (above HB4.out (InClass.h _)))) | (go_at_call 10; with_reducible exact calls_up (KXB.out _ (above HB4.out (InClass.h _))))))
    refine wpQuiet_nil ?_
    rintro _ ⟨s5, rfl⟩
    clear a0 b0 a1 b1 a2 b2 a3 b3 a4 b4 a5 b5 a6 b6
    have HB5 := Lib.hid (above HB4.out s5.h)
    generalize s5.w = w5 at *
    go_wp2_with fail
    refine calls_on (KW.out _ HB5.out) ?_
    intro w9 hb9
    have HB9 := Lib.hid (above HB5.out hb9)
    clear hb9
    go_wp2_with fail
    go_ret
    exact ⟨rfl, HB9.out⟩

end Go.Proofs.YtlgpoapedgodoaaDoor
