/- order.Cmp, kind by kind. -/
import Derived.Test.YtlgpoapedgodoaaDoorCont
import Derived.Test.YtlgpoapedgodoaaDoorCmpE
import Derived.Test.YtlgpoapedgodoaaDoorCompA
import Derived.Test.YtlgpoapedgodoaaDoorCompB
import Derived.Test.YtlgpoapedgodoaaDoorCompC
import Derived.Test.YtlgpoapedgodoaaDoorCompD
namespace Go.Proofs.YtlgpoapedgodoaaDoor
open Go.RowKit

@[go_sem] theorem as_o_o (v : Value) (w : World) : (Instr.typeAssert (.iface 58 v) 20 58 true).run Tryd.prog w = .ok (.tuple #[v, .bool true]) w := by kernel_rfl
@[go_sem] theorem as_o_l (v : Value) (w : World) : (Instr.typeAssert (.iface 58 v) 20 59 true).run Tryd.prog w = .ok (.tuple #[.slice none 0 0, .bool false]) w := by kernel_rfl
@[go_sem] theorem as_o_p (v : Value) (w : World) : (Instr.typeAssert (.iface 58 v) 20 61 true).run Tryd.prog w = .ok (.tuple #[.slice none 0 0, .bool false]) w := by kernel_rfl
@[go_sem] theorem as_o_m (v : Value) (w : World) : (Instr.typeAssert (.iface 58 v) 20 65 true).run Tryd.prog w = .ok (.tuple #[.agg #[.slice none 0 0, .slice none 0 0], .bool false]) w := by kernel_rfl
@[go_sem] theorem asf_o (v : Value) (w : World) : (Instr.typeAssert (.iface 58 v) 20 58 false).run Tryd.prog w = .ok v w := by kernel_rfl
@[go_sem] theorem as_n_o (w : World) : (Instr.typeAssert .nilIface 20 58 true).run Tryd.prog w = .ok (.tuple #[.agg #[.int .i64 0, .int .u64 0, .string ⟨#[]⟩, .slice none 0 0, .slice none 0 0, .slice none 0 0, .slice none 0 0], .bool false]) w := by kernel_rfl
@[go_sem] theorem as_l_o (v : Value) (w : World) : (Instr.typeAssert (.iface 59 v) 20 58 true).run Tryd.prog w = .ok (.tuple #[.agg #[.int .i64 0, .int .u64 0, .string ⟨#[]⟩, .slice none 0 0, .slice none 0 0, .slice none 0 0, .slice none 0 0], .bool false]) w := by kernel_rfl
@[go_sem] theorem as_l_l (v : Value) (w : World) : (Instr.typeAssert (.iface 59 v) 20 59 true).run Tryd.prog w = .ok (.tuple #[v, .bool true]) w := by kernel_rfl
@[go_sem] theorem as_l_p (v : Value) (w : World) : (Instr.typeAssert (.iface 59 v) 20 61 true).run Tryd.prog w = .ok (.tuple #[.slice none 0 0, .bool false]) w := by kernel_rfl
@[go_sem] theorem as_l_m (v : Value) (w : World) : (Instr.typeAssert (.iface 59 v) 20 65 true).run Tryd.prog w = .ok (.tuple #[.agg #[.slice none 0 0, .slice none 0 0], .bool false]) w := by kernel_rfl
@[go_sem] theorem asf_l (v : Value) (w : World) : (Instr.typeAssert (.iface 59 v) 20 59 false).run Tryd.prog w = .ok v w := by kernel_rfl
@[go_sem] theorem as_n_l (w : World) : (Instr.typeAssert .nilIface 20 59 true).run Tryd.prog w = .ok (.tuple #[.slice none 0 0, .bool false]) w := by kernel_rfl
@[go_sem] theorem as_p_o (v : Value) (w : World) : (Instr.typeAssert (.iface 61 v) 20 58 true).run Tryd.prog w = .ok (.tuple #[.agg #[.int .i64 0, .int .u64 0, .string ⟨#[]⟩, .slice none 0 0, .slice none 0 0, .slice none 0 0, .slice none 0 0], .bool false]) w := by kernel_rfl
@[go_sem] theorem as_p_l (v : Value) (w : World) : (Instr.typeAssert (.iface 61 v) 20 59 true).run Tryd.prog w = .ok (.tuple #[.slice none 0 0, .bool false]) w := by kernel_rfl
@[go_sem] theorem as_p_p (v : Value) (w : World) : (Instr.typeAssert (.iface 61 v) 20 61 true).run Tryd.prog w = .ok (.tuple #[v, .bool true]) w := by kernel_rfl
@[go_sem] theorem as_p_m (v : Value) (w : World) : (Instr.typeAssert (.iface 61 v) 20 65 true).run Tryd.prog w = .ok (.tuple #[.agg #[.slice none 0 0, .slice none 0 0], .bool false]) w := by kernel_rfl
@[go_sem] theorem asf_p (v : Value) (w : World) : (Instr.typeAssert (.iface 61 v) 20 61 false).run Tryd.prog w = .ok v w := by kernel_rfl
@[go_sem] theorem as_n_p (w : World) : (Instr.typeAssert .nilIface 20 61 true).run Tryd.prog w = .ok (.tuple #[.slice none 0 0, .bool false]) w := by kernel_rfl
@[go_sem] theorem as_m_o (v : Value) (w : World) : (Instr.typeAssert (.iface 65 v) 20 58 true).run Tryd.prog w = .ok (.tuple #[.agg #[.int .i64 0, .int .u64 0, .string ⟨#[]⟩, .slice none 0 0, .slice none 0 0, .slice none 0 0, .slice none 0 0], .bool false]) w := by kernel_rfl
@[go_sem] theorem as_m_l (v : Value) (w : World) : (Instr.typeAssert (.iface 65 v) 20 59 true).run Tryd.prog w = .ok (.tuple #[.slice none 0 0, .bool false]) w := by kernel_rfl
@[go_sem] theorem as_m_p (v : Value) (w : World) : (Instr.typeAssert (.iface 65 v) 20 61 true).run Tryd.prog w = .ok (.tuple #[.slice none 0 0, .bool false]) w := by kernel_rfl
@[go_sem] theorem as_m_m (v : Value) (w : World) : (Instr.typeAssert (.iface 65 v) 20 65 true).run Tryd.prog w = .ok (.tuple #[v, .bool true]) w := by kernel_rfl
@[go_sem] theorem asf_m (v : Value) (w : World) : (Instr.typeAssert (.iface 65 v) 20 65 false).run Tryd.prog w = .ok v w := by kernel_rfl
@[go_sem] theorem as_n_m (w : World) : (Instr.typeAssert .nilIface 20 65 true).run Tryd.prog w = .ok (.tuple #[.agg #[.slice none 0 0, .slice none 0 0], .bool false]) w := by kernel_rfl

set_option maxRecDepth 8000 in
set_option maxHeartbeats 2000000 in
theorem ocmp_ne (ek ek' : Int) (ez ez' : Int) (et et' : ByteArray) (l1 l2 l3 l4 c1 c2 c3 c4 l1' l2' l3' l4' c1' c2' c3' c4' : Nat) (d1 d2 d3 d4 d1' d2' d3' d4' : Option Addr) (w : World) (h : (ek != ek') = true) :
    Calls Tryd.prog 13 #[.agg #[.int .i64 ek, .int .u64 ez, .string et, .slice d1 l1 c1, .slice d2 l2 c2, .slice d3 l3 c3, .slice d4 l4 c4], .agg #[.int .i64 ek', .int .u64 ez', .string et', .slice d1' l1' c1', .slice d2' l2' c2', .slice d3' l3' c3', .slice d4' l4' c4']] w fun e w' => e = .returned (.int .i64 (cmpI ek ek')) ∧ Below w.heap.size w w' := by
  go_enter Tryd.func13, Tryd.ntmps13
  go_wp2_with fail
  refine calls_box2 ?_
  intro W hA hB hb
  have HB := Lib.hid hb
  have HAB := Lib.hid (And.intro hA hB)
  clear hb hA hB
  refine calls_same (cmpI_ok _ _ _) ?_
  go_wp2_with fail
  go_ret
  exact ⟨rfl, HB.out⟩

set_option maxRecDepth 8000 in
set_option maxHeartbeats 2000000 in
theorem ocmp_s (ek : Int) (ez ez' : Int) (et et' : ByteArray) (l1 l2 l3 l4 c1 c2 c3 c4 l1' l2' l3' l4' c1' c2' c3' c4' : Nat) (d1 d2 d3 d4 d1' d2' d3' d4' : Option Addr) (w : World) (h : decide (1 ≤ ek ∧ ek ≤ 9) = true) (HZ : Hid (word ez ∧ word ez')) :
    Calls Tryd.prog 13 #[.agg #[.int .i64 ek, .int .u64 ez, .string et, .slice d1 l1 c1, .slice d2 l2 c2, .slice d3 l3 c3, .slice d4 l4 c4], .agg #[.int .i64 ek, .int .u64 ez', .string et', .slice d1' l1' c1', .slice d2' l2' c2', .slice d3' l3' c3', .slice d4' l4' c4']] w fun e w' => e = .returned (.int .i64 (scalF ek ez et ek ez' et')) ∧ Below w.heap.size w w' := by
  go_enter Tryd.func13, Tryd.ntmps13
  go_wp2_with fail
  refine calls_box2 ?_
  intro W hA hB hb
  have HB := Lib.hid hb
  have HAB := Lib.hid (And.intro hA hB)
  clear hb hA hB
  refine calls_on (cont_s _ _ _ _ _ _ _ _ _ _ _ _ _ _ _ h _) ?_
  intro w2 hb2
  have HB2 := Lib.hid hb2
  clear hb2
  have hA2 := blk_keep HB2.out HAB.out.1
  obtain ⟨a0, a1, a2, a3, a4, a5, a6⟩ := cells7 hA2
  clear hA2
  go_wp2_with fail
  clear a0 a1 a2 a3 a4 a5 a6
  refine calls_on (cont_s _ _ _ _ _ _ _ _ _ _ _ _ _ _ _ h _) ?_
  intro w3 hb3
  have HB3 := Lib.hid (above HB2.out hb3)
  clear hb3 HB2
  have hA3 := blk_keep HB3.out HAB.out.1
  have hB3 := blk_keep HB3.out HAB.out.2
  obtain ⟨a0, a1, a2, a3, a4, a5, a6⟩ := cells7 hA3
  obtain ⟨b0, b1, b2, b3, b4, b5, b6⟩ := cells7 hB3
  have hsz : w.heap.size + 1 < w3.heap.size := blk_lt hB3
  clear hA3 hB3
  go_wp2_with fail
  refine calls_box1 ?_
  intro W4 _ hb4
  have HB4 := Lib.hid (above HB3.out hb4)
  clear hb4
  refine calls_on (scal_eq _ _ _ _ _ _ _ _ _ _ _ _ _ _ HZ.out.1 HZ.out.2 _) ?_
  intro w5 hb5
  have HB5 := Lib.hid (above HB.out (above HB4.out hb5))
  clear hb5 a0 a1 a2 a3 a4 a5 a6 b0 b1 b2 b3 b4 b5 b6
  go_wp2_with fail
  go_ret
  exact ⟨rfl, HB5.out⟩

set_option maxRecDepth 8000 in
set_option maxHeartbeats 2000000 in
theorem ocmp_l (ez ez' : Int) (et et' : ByteArray) (l1 l2 l3 l4 c1 c2 c3 c4 l1' l2' l3' l4' c1' c2' c3' c4' : Nat) (d1 d2 d3 d4 d1' d2' d3' d4' : Option Addr) (w : World) (R : Int) (K : Hid (∀ w' : World, Below w.heap.size w w' → Calls Tryd.prog 37 #[.slice d1 l1 c1, .slice d1' l1' c1', .func (.func 13) #[] #[]] w' fun e w2 => e = .returned (.int .i64 R) ∧ Below w'.heap.size w' w2)) :
    Calls Tryd.prog 13 #[.agg #[.int .i64 11, .int .u64 ez, .string et, .slice d1 l1 c1, .slice d2 l2 c2, .slice d3 l3 c3, .slice d4 l4 c4], .agg #[.int .i64 11, .int .u64 ez', .string et', .slice d1' l1' c1', .slice d2' l2' c2', .slice d3' l3' c3', .slice d4' l4' c4']] w fun e w' => e = .returned (.int .i64 (R)) ∧ Below w.heap.size w w' := by
  go_enter Tryd.func13, Tryd.ntmps13
  go_wp2_with fail
  refine calls_box2 ?_
  intro W hA hB hb
  have HB := Lib.hid hb
  have HAB := Lib.hid (And.intro hA hB)
  clear hb hA hB
  refine calls_on (cont_l _ _ _ _ _ _ _ _ _ _ _ _ _ _ _) ?_
  intro w2 hb2
  have HB2 := Lib.hid hb2
  clear hb2
  have hA2 := blk_keep HB2.out HAB.out.1
  obtain ⟨a0, a1, a2, a3, a4, a5, a6⟩ := cells7 hA2
  clear hA2
  go_wp2_with fail
  clear a0 a1 a2 a3 a4 a5 a6
  refine calls_on (cont_l _ _ _ _ _ _ _ _ _ _ _ _ _ _ _) ?_
  intro w3 hb3
  have HB3 := Lib.hid (above HB2.out hb3)
  clear hb3 HB2
  have hA3 := blk_keep HB3.out HAB.out.1
  have hB3 := blk_keep HB3.out HAB.out.2
  obtain ⟨a0, a1, a2, a3, a4, a5, a6⟩ := cells7 hA3
  obtain ⟨b0, b1, b2, b3, b4, b5, b6⟩ := cells7 hB3
  have hsz : w.heap.size + 1 < w3.heap.size := blk_lt hB3
  clear hA3 hB3
  go_wp2_with fail
  refine calls_on (K.out _ (above HB.out HB3.out)) ?_
  intro w5 hb5
  have HB5 := Lib.hid (above HB.out (above HB3.out hb5))
  clear hb5 a0 a1 a2 a3 a4 a5 a6 b0 b1 b2 b3 b4 b5 b6
  go_wp2_with fail
  go_ret
  exact ⟨rfl, HB5.out⟩

set_option maxRecDepth 8000 in
set_option maxHeartbeats 2000000 in
theorem ocmp_p (ez ez' : Int) (et et' : ByteArray) (l1 l2 l3 l4 c1 c2 c3 c4 l1' l2' l3' l4' c1' c2' c3' c4' : Nat) (d1 d2 d3 d4 d1' d2' d3' d4' : Option Addr) (w : World) (R : Int) (K : Hid (∀ w' : World, Below w.heap.size w w' → Calls Tryd.prog 38 #[.slice d2 l2 c2, .slice d2' l2' c2', .func (.func 39) #[] #[]] w' fun e w2 => e = .returned (.int .i64 R) ∧ Below w'.heap.size w' w2)) :
    Calls Tryd.prog 13 #[.agg #[.int .i64 12, .int .u64 ez, .string et, .slice d1 l1 c1, .slice d2 l2 c2, .slice d3 l3 c3, .slice d4 l4 c4], .agg #[.int .i64 12, .int .u64 ez', .string et', .slice d1' l1' c1', .slice d2' l2' c2', .slice d3' l3' c3', .slice d4' l4' c4']] w fun e w' => e = .returned (.int .i64 (R)) ∧ Below w.heap.size w w' := by
  go_enter Tryd.func13, Tryd.ntmps13
  go_wp2_with fail
  refine calls_box2 ?_
  intro W hA hB hb
  have HB := Lib.hid hb
  have HAB := Lib.hid (And.intro hA hB)
  clear hb hA hB
  refine calls_on (cont_p _ _ _ _ _ _ _ _ _ _ _ _ _ _ _) ?_
  intro w2 hb2
  have HB2 := Lib.hid hb2
  clear hb2
  have hA2 := blk_keep HB2.out HAB.out.1
  obtain ⟨a0, a1, a2, a3, a4, a5, a6⟩ := cells7 hA2
  clear hA2
  go_wp2_with fail
  clear a0 a1 a2 a3 a4 a5 a6
  refine calls_on (cont_p _ _ _ _ _ _ _ _ _ _ _ _ _ _ _) ?_
  intro w3 hb3
  have HB3 := Lib.hid (above HB2.out hb3)
  clear hb3 HB2
  have hA3 := blk_keep HB3.out HAB.out.1
  have hB3 := blk_keep HB3.out HAB.out.2
  obtain ⟨a0, a1, a2, a3, a4, a5, a6⟩ := cells7 hA3
  obtain ⟨b0, b1, b2, b3, b4, b5, b6⟩ := cells7 hB3
  have hsz : w.heap.size + 1 < w3.heap.size := blk_lt hB3
  clear hA3 hB3
  go_wp2_with fail
  refine calls_on (K.out _ (above HB.out HB3.out)) ?_
  intro w5 hb5
  have HB5 := Lib.hid (above HB.out (above HB3.out hb5))
  clear hb5 a0 a1 a2 a3 a4 a5 a6 b0 b1 b2 b3 b4 b5 b6
  go_wp2_with fail
  go_ret
  exact ⟨rfl, HB5.out⟩

set_option maxRecDepth 8000 in
set_option maxHeartbeats 2000000 in
theorem ocmp_m (ez ez' : Int) (et et' : ByteArray) (l1 l2 l3 l4 c1 c2 c3 c4 l1' l2' l3' l4' c1' c2' c3' c4' : Nat) (d1 d2 d3 d4 d1' d2' d3' d4' : Option Addr) (w : World) (R S : Int) (K1 : Hid (∀ w' : World, Below w.heap.size w w' → Calls Tryd.prog 41 #[.slice d3 l3 c3, .slice d3' l3' c3', .func (.func 42) #[] #[]] w' fun e w2 => e = .returned (.int .i64 R) ∧ Below w'.heap.size w' w2)) (K2 : Hid (∀ w' : World, Below w.heap.size w w' → Calls Tryd.prog 43 #[.slice d4 l4 c4, .slice d4' l4' c4', .func (.func 44) #[] #[]] w' fun e w2 => e = .returned (.int .i64 S) ∧ Below w'.heap.size w' w2)) :
    Calls Tryd.prog 13 #[.agg #[.int .i64 10, .int .u64 ez, .string et, .slice d1 l1 c1, .slice d2 l2 c2, .slice d3 l3 c3, .slice d4 l4 c4], .agg #[.int .i64 10, .int .u64 ez', .string et', .slice d1' l1' c1', .slice d2' l2' c2', .slice d3' l3' c3', .slice d4' l4' c4']] w fun e w' => e = .returned (.int .i64 (orI R S)) ∧ Below w.heap.size w w' := by
  go_enter Tryd.func13, Tryd.ntmps13
  go_wp2_with fail
  refine calls_box2 ?_
  intro W hA hB hb
  have HB := Lib.hid hb
  have HAB := Lib.hid (And.intro hA hB)
  clear hb hA hB
  refine calls_on (cont_m _ _ _ _ _ _ _ _ _ _ _ _ _ _ _) ?_
  intro w2 hb2
  have HB2 := Lib.hid hb2
  clear hb2
  have hA2 := blk_keep HB2.out HAB.out.1
  obtain ⟨a0, a1, a2, a3, a4, a5, a6⟩ := cells7 hA2
  clear hA2
  go_wp2_with fail
  clear a0 a1 a2 a3 a4 a5 a6
  refine calls_on (cont_m _ _ _ _ _ _ _ _ _ _ _ _ _ _ _) ?_
  intro w3 hb3
  have HB3 := Lib.hid (above HB2.out hb3)
  clear hb3 HB2
  have hA3 := blk_keep HB3.out HAB.out.1
  have hB3 := blk_keep HB3.out HAB.out.2
  obtain ⟨a0, a1, a2, a3, a4, a5, a6⟩ := cells7 hA3
  obtain ⟨b0, b1, b2, b3, b4, b5, b6⟩ := cells7 hB3
  have hsz : w.heap.size + 1 < w3.heap.size := blk_lt hB3
  clear hA3 hB3
  go_wp2_with fail
  clear a0 a1 a2 a3 a4 a5 a6 b0 b1 b2 b3 b4 b5 b6
  refine wp_box2 ?_
  intro W4 hA4 hB4 hb4
  obtain ⟨a0, a1⟩ := up2 hA4
  obtain ⟨b0, b1⟩ := up2 hB4
  have HB4 := Lib.hid (above HB.out (above HB3.out hb4))
  clear hA4 hB4 hb4 hsz
  refine wp_region_up_tail 10 (by kernel_rfl) (by kernel_rfl) ?_
  simp only [List.take_succ_cons, List.take_zero, List.drop_succ_cons, List.drop_zero]
  repeat (go_big_quiet_step (first | (go_at_call 41; with_reducible exact calls_up (K1.out _ (above HB4.out (InClass.h _)))) | (go_at_call 43; with_reducible exact calls_up (K2.out _ (above HB4.out (InClass.h _))))))
  refine wpQuiet_nil ?_
  rintro _ ⟨s1, rfl⟩
  clear a0 a1 b0 b1
  go_wp2_with fail
  refine calls_same (or2_ok _ _ _ _ (blk_cell (box1_facts _ _ _).1 0 rfl) (blk_cell (box1_facts _ _ _).1 1 rfl)) ?_
  go_wp2_with fail
  go_ret
  exact ⟨rfl, (above HB4.out s1.h).alloc (above HB4.out s1.h).size _⟩

set_option maxRecDepth 8000 in
set_option maxHeartbeats 2000000 in
theorem ocmp_n (ek : Int) (ez ez' : Int) (et et' : ByteArray) (l1 l2 l3 l4 c1 c2 c3 c4 l1' l2' l3' l4' c1' c2' c3' c4' : Nat) (d1 d2 d3 d4 d1' d2' d3' d4' : Option Addr) (w : World) (h : decide (1 ≤ ek ∧ ek ≤ 9) = false) (h1 : (ek == 11) = false) (h2 : (ek == 12) = false) (h3 : (ek == 10) = false) :
    Calls Tryd.prog 13 #[.agg #[.int .i64 ek, .int .u64 ez, .string et, .slice d1 l1 c1, .slice d2 l2 c2, .slice d3 l3 c3, .slice d4 l4 c4], .agg #[.int .i64 ek, .int .u64 ez', .string et', .slice d1' l1' c1', .slice d2' l2' c2', .slice d3' l3' c3', .slice d4' l4' c4']] w fun e w' => e = .returned (.int .i64 (0)) ∧ Below w.heap.size w w' := by
  go_enter Tryd.func13, Tryd.ntmps13
  go_wp2_with fail
  refine calls_box2 ?_
  intro W hA hB hb
  have HB := Lib.hid hb
  have HAB := Lib.hid (And.intro hA hB)
  clear hb hA hB
  refine calls_on (cont_n _ _ _ _ _ _ _ _ _ _ _ _ _ _ _ h h1 h2 h3 _) ?_
  intro w2 hb2
  have HB2 := Lib.hid hb2
  clear hb2
  have hA2 := blk_keep HB2.out HAB.out.1
  obtain ⟨a0, a1, a2, a3, a4, a5, a6⟩ := cells7 hA2
  clear hA2
  go_wp2_with fail
  clear a0 a1 a2 a3 a4 a5 a6
  refine calls_on (cont_n _ _ _ _ _ _ _ _ _ _ _ _ _ _ _ h h1 h2 h3 _) ?_
  intro w3 hb3
  have HB3 := Lib.hid (above HB2.out hb3)
  clear hb3 HB2
  have hA3 := blk_keep HB3.out HAB.out.1
  have hB3 := blk_keep HB3.out HAB.out.2
  obtain ⟨a0, a1, a2, a3, a4, a5, a6⟩ := cells7 hA3
  obtain ⟨b0, b1, b2, b3, b4, b5, b6⟩ := cells7 hB3
  have hsz : w.heap.size + 1 < w3.heap.size := blk_lt hB3
  clear hA3 hB3
  go_wp2_with fail
  go_ret
  exact ⟨rfl, above HB.out HB3.out⟩

theorem ocmp_succ (n : Nat) (H : OCmp n) : OCmp (n + 1) := by
  have HC := Lib.hid H
  clear H
  rintro v v' x y w ⟨ek, ez, et, d1, l1, c1, d2, l2, c2, d3, l3, c3, d4, l4, c4, rfl, g⟩ ⟨ek', ez', et', d1', l1', c1', d2', l2', c2', d3', l3', c3', d4', l4', c4', rfl, g'⟩
  obtain ⟨l, p, s, r, hcs, hbd, r1, r2, r3, r4⟩ := g
  obtain ⟨l', p', s', r', hcs', hbd', r1', r2', r3', r4'⟩ := g'
  simp only [List.cons.injEq, Value.int.injEq, Value.string.injEq, true_and, and_true] at hcs hcs'
  obtain ⟨e1, e2, e3, rfl, rfl, rfl, rfl⟩ := hcs
  obtain ⟨e1', e2', e3', rfl, rfl, rfl, rfl⟩ := hcs'
  show Calls _ _ _ _ fun e w' => e = .returned (.int .i64 (cmpN (cmpV n) x y)) ∧ _
  have hz : word ez := by unfold word; rw [e2]; omega
  have hz' : word ez' := by unfold word; rw [e2']; omega
  unfold cmpN
  rw [← e1, ← e1']
  by_cases hk : ek = ek'
  · subst hk
    rw [if_neg (by simp)]
    by_cases h1 : 1 ≤ ek ∧ ek ≤ 9
    · rw [if_pos h1, ← e2, ← e3, ← e2', ← e3']
      have := ocmp_s ek ez ez' et et' l1 l2 l3 l4 c1 c2 c3 c4 l1' l2' l3' l4' c1' c2' c3' c4' d1 d2 d3 d4 d1' d2' d3' d4' w (decide_eq_true h1) (Lib.hid ⟨hz, hz'⟩)
      rw [show scalF ek ez et ek ez' et' = scalC ek ez et ez' et' by simp [scalF]] at this
      exact this
    · rw [if_neg h1]
      by_cases h2 : ek = 11
      · subst h2
        rw [if_pos rfl]
        exact ocmp_l _ _ _ _ _ _ _ _ _ _ _ _ _ _ _ _ _ _ _ _ _ _ _ _ _ _ _ _ w _ (Lib.hid fun w' hb => cfl_ok n HC _ _ _ _ w' (r1.keep hb (fun _ _ h => RVal.keep hb n _ _ h)) (r1'.keep hb (fun _ _ h => RVal.keep hb n _ _ h)))
      · rw [if_neg h2]
        by_cases h3 : ek = 12
        · subst h3
          rw [if_pos rfl]
          exact ocmp_p _ _ _ _ _ _ _ _ _ _ _ _ _ _ _ _ _ _ _ _ _ _ _ _ _ _ _ _ w _ (Lib.hid fun w' hb => cfp_ok n (Lib.hid (opair_ok n HC)) _ _ _ _ w' (r2.keep hb (fun _ _ h => RPair.keep hb h)) (r2'.keep hb (fun _ _ h => RPair.keep hb h)))
        · rw [if_neg h3]
          by_cases h4 : ek = 10
          · subst h4
            rw [if_pos rfl]
            exact ocmp_m _ _ _ _ _ _ _ _ _ _ _ _ _ _ _ _ _ _ _ _ _ _ _ _ _ _ _ _ w _ _
              (Lib.hid fun w' hb => cfs_ok n (Lib.hid (oslot_ok n HC)) _ _ _ _ w' (r3.keep hb (fun _ _ h => RSlot.keep hb h)) (r3'.keep hb (fun _ _ h => RSlot.keep hb h)))
              (Lib.hid fun w' hb => cfr_ok (Lib.hid oraw_ok) _ _ _ _ w' (r4.keep hb (fun _ _ h => h)) (r4'.keep hb (fun _ _ h => h)))
          · rw [if_neg h4]
            exact ocmp_n ek _ _ _ _ _ _ _ _ _ _ _ _ _ _ _ _ _ _ _ _ _ _ _ _ _ _ _ _ w (decide_eq_false h1) (by simp [h2]) (by simp [h3]) (by simp [h4])
  · rw [if_pos hk]
    exact ocmp_ne ek ek' _ _ _ _ _ _ _ _ _ _ _ _ _ _ _ _ _ _ _ _ _ _ _ _ _ _ _ _ w (by simp [hk])

/-- **order.Cmp, at every number of levels.** -/
theorem ocmp_all : ∀ n : Nat, OCmp n
  | 0 => by
    rintro v v' x y w ⟨ek, ez, et, d1, l1, c1, d2, l2, c2, d3, l3, c3, d4, l4, c4, rfl, g⟩ _
    exact g.elim
  | n + 1 => ocmp_succ n (ocmp_all n)
end Go.Proofs.YtlgpoapedgodoaaDoor
