/- contents: what a value holds. -/
import Derived.Test.YtlgpoapedgodoaaDoorOpair
namespace Go.Proofs.YtlgpoapedgodoaaDoor
open Go.RowKit


set_option maxRecDepth 8000 in
set_option maxHeartbeats 1000000 in
theorem cont_s (ek : Int) (ez : Int) (et : ByteArray) (l1 l2 l3 l4 c1 c2 c3 c4 : Nat) (d1 d2 d3 d4 : Option Addr) (h : decide (1 ≤ ek ∧ ek ≤ 9) = true) (w : World) :
    Calls Tryd.prog 35 #[.agg #[.int .i64 ek, .int .u64 ez, .string et, .slice d1 l1 c1, .slice d2 l2 c2, .slice d3 l3 c3, .slice d4 l4 c4]] w fun e w' => e = .returned (.iface 58 (.agg #[.int .i64 ek, .int .u64 ez, .string et, .slice d1 l1 c1, .slice d2 l2 c2, .slice d3 l3 c3, .slice d4 l4 c4])) ∧ Below w.heap.size w w' := by
  go_enter Tryd.func35, Tryd.ntmps35
  go_wp2_with fail
  refine calls_same (is_ok _ _) ?_
  rw [h]
  go_wp2_with fail
  first | go_ret | exact bodyPost_ret (by simp [results, Tryd.results35, go_sem]) rfl ⟨rfl, by go_grown⟩
  exact ⟨rfl, by go_grown⟩

set_option maxRecDepth 8000 in
set_option maxHeartbeats 1000000 in
theorem cont_l (ez : Int) (et : ByteArray) (l1 l2 l3 l4 c1 c2 c3 c4 : Nat) (d1 d2 d3 d4 : Option Addr) (w : World) :
    Calls Tryd.prog 35 #[.agg #[.int .i64 11, .int .u64 ez, .string et, .slice d1 l1 c1, .slice d2 l2 c2, .slice d3 l3 c3, .slice d4 l4 c4]] w fun e w' => e = .returned (.iface 59 (.slice d1 l1 c1)) ∧ Below w.heap.size w w' := by
  go_enter Tryd.func35, Tryd.ntmps35
  go_wp2_with fail
  refine calls_same (is_ok _ _) ?_
  rw [show decide ((1:Int) ≤ 11 ∧ (11:Int) ≤ 9) = false by decide]
  go_wp2_with fail
  first | go_ret | exact bodyPost_ret (by simp [results, Tryd.results35, go_sem]) rfl ⟨rfl, by go_grown⟩
  exact ⟨rfl, by go_grown⟩

set_option maxRecDepth 8000 in
set_option maxHeartbeats 1000000 in
theorem cont_p (ez : Int) (et : ByteArray) (l1 l2 l3 l4 c1 c2 c3 c4 : Nat) (d1 d2 d3 d4 : Option Addr) (w : World) :
    Calls Tryd.prog 35 #[.agg #[.int .i64 12, .int .u64 ez, .string et, .slice d1 l1 c1, .slice d2 l2 c2, .slice d3 l3 c3, .slice d4 l4 c4]] w fun e w' => e = .returned (.iface 61 (.slice d2 l2 c2)) ∧ Below w.heap.size w w' := by
  go_enter Tryd.func35, Tryd.ntmps35
  go_wp2_with fail
  refine calls_same (is_ok _ _) ?_
  rw [show decide ((1:Int) ≤ 12 ∧ (12:Int) ≤ 9) = false by decide]
  go_wp2_with fail
  first | go_ret | exact bodyPost_ret (by simp [results, Tryd.results35, go_sem]) rfl ⟨rfl, by go_grown⟩
  exact ⟨rfl, by go_grown⟩

set_option maxRecDepth 8000 in
set_option maxHeartbeats 1000000 in
theorem cont_m (ez : Int) (et : ByteArray) (l1 l2 l3 l4 c1 c2 c3 c4 : Nat) (d1 d2 d3 d4 : Option Addr) (w : World) :
    Calls Tryd.prog 35 #[.agg #[.int .i64 10, .int .u64 ez, .string et, .slice d1 l1 c1, .slice d2 l2 c2, .slice d3 l3 c3, .slice d4 l4 c4]] w fun e w' => e = .returned (.iface 65 (.agg #[.slice d3 l3 c3, .slice d4 l4 c4])) ∧ Below w.heap.size w w' := by
  go_enter Tryd.func35, Tryd.ntmps35
  go_wp2_with fail
  refine calls_same (is_ok _ _) ?_
  rw [show decide ((1:Int) ≤ 10 ∧ (10:Int) ≤ 9) = false by decide]
  go_wp2_with fail
  first | go_ret | exact bodyPost_ret (by simp [results, Tryd.results35, go_sem]) rfl ⟨rfl, by go_grown⟩
  exact ⟨rfl, by go_grown⟩

set_option maxRecDepth 8000 in
set_option maxHeartbeats 1000000 in
theorem cont_n (ek : Int) (ez : Int) (et : ByteArray) (l1 l2 l3 l4 c1 c2 c3 c4 : Nat) (d1 d2 d3 d4 : Option Addr) (h : decide (1 ≤ ek ∧ ek ≤ 9) = false) (h1 : (ek == 11) = false) (h2 : (ek == 12) = false) (h3 : (ek == 10) = false) (w : World) :
    Calls Tryd.prog 35 #[.agg #[.int .i64 ek, .int .u64 ez, .string et, .slice d1 l1 c1, .slice d2 l2 c2, .slice d3 l3 c3, .slice d4 l4 c4]] w fun e w' => e = .returned (.nilIface) ∧ Below w.heap.size w w' := by
  go_enter Tryd.func35, Tryd.ntmps35
  go_wp2_with fail
  refine calls_same (is_ok _ _) ?_
  rw [h]
  go_wp2_with fail
  first | go_ret | exact bodyPost_ret (by simp [results, Tryd.results35, go_sem]) rfl ⟨rfl, by go_grown⟩
  exact ⟨rfl, by go_grown⟩
end Go.Proofs.YtlgpoapedgodoaaDoor
