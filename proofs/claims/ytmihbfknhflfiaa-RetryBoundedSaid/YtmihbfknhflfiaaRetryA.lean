/- Contracts of Check and CheckBudget, the program's and the reference's, at valid policies and budgets. -/
import Derived.Test.YtmihbfknhflfiaaRows
import Derived.Test.YtmihbfknhflfiaaRetryLaw
import Derived.WalkKit
import Derived.ProofKit
import Derived.OpenShut
import Derived.Handy
import Derived.Outline
import Derived.BigGuardPart
import Derived.Lib.Hide
namespace Go.Proofs.Ytmihbfknhflfiaa
open Go.RowKit

set_option maxHeartbeats 400000 in
theorem check_ok (a b c d : Int) (w : World) (h : okP a b c d) :
    Calls Try.prog 10 #[.agg #[.int .i64 a, .int .i64 b, .int .i64 c, .int .i64 d]] w fun e w' => e = .returned (.int .i64 0) ∧ Below w.heap.size w w' := by
  obtain ⟨h1, h2, h3, h4, h5, h6, h7, h8⟩ := h
  have hand : bits BinOp.and .i64 d 1 = d % 2 := and_one_i64 d
  go_enter Try.func10, Try.ntmps10
  go_wp2
  all_goals first | (exfalso; omega) | skip
  go_ret
  exact ⟨rfl, by go_grown⟩

set_option maxHeartbeats 400000 in
theorem rcheck_ok (a b c d : Int) (w : World) (h : okP a b c d) :
    Calls Try.prog 11 #[.agg #[.int .i64 a, .int .i64 b, .int .i64 c, .int .i64 d]] w fun e w' => e = .returned (.int .i64 0) ∧ Below w.heap.size w w' := by
  obtain ⟨h1, h2, h3, h4, h5, h6, h7, h8⟩ := h
  go_enter Try.func11, Try.ntmps11
  go_wp2
  all_goals first | (exfalso; omega) | skip
  go_ret
  exact ⟨rfl, by go_grown⟩

set_option maxHeartbeats 400000 in
theorem checkb_ok (t m g : Int) (w : World) (h : okB t m g) :
    Calls Try.prog 12 #[.agg #[.int .i64 t, .int .i64 m, .int .i64 g]] w fun e w' => e = .returned (.int .i64 0) ∧ Below w.heap.size w w' := by
  obtain ⟨h1, h2, h3, h4, h5⟩ := h
  go_enter Try.func12, Try.ntmps12
  go_wp2
  all_goals first | (exfalso; omega) | skip
  go_ret
  exact ⟨rfl, by go_grown⟩

set_option maxHeartbeats 400000 in
theorem rcheckb_ok (t m g : Int) (w : World) (h : okB t m g) :
    Calls Try.prog 13 #[.agg #[.int .i64 t, .int .i64 m, .int .i64 g]] w fun e w' => e = .returned (.int .i64 0) ∧ Below w.heap.size w w' := by
  obtain ⟨h1, h2, h3, h4, h5⟩ := h
  go_enter Try.func13, Try.ntmps13
  go_wp2
  all_goals first | (exfalso; omega) | skip
  go_ret
  exact ⟨rfl, by go_grown⟩
end Go.Proofs.Ytmihbfknhflfiaa
