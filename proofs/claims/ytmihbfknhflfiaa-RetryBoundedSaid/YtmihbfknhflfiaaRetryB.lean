/- Contracts of Check and CheckBudget, the program's and the reference's, at policies and budgets that are not valid. -/
import Derived.Test.YtmihbfknhflfiaaRows
import Derived.Test.YtmihbfknhflfiaaRetryLaw
import Derived.WalkKit
import Derived.ProofKit
import Derived.OpenShut
import Derived.Handy
import Derived.Outline
import Derived.BigGuardPart
import Derived.Lib.Hide
namespace Go.Proofs.Ytmihbfknhflfiaa
open Go.RowKit

set_option maxHeartbeats 400000 in
theorem check_no (a b c d : Int) (w : World) (h : ¬ okP a b c d) :
    Calls Try.prog 10 #[.agg #[.int .i64 a, .int .i64 b, .int .i64 c, .int .i64 d]] w fun e w' => e = .returned (.int .i64 1) ∧ Below w.heap.size w w' := by
  have H := Lib.hid h; clear h
  have hand : bits BinOp.and .i64 d 1 = d % 2 := and_one_i64 d
  go_enter Try.func10, Try.ntmps10
  go_wp2
  all_goals go_ret
  all_goals first | exact ⟨rfl, by go_grown⟩ | exact absurd (show okP a b c d from ⟨by omega, by omega, by omega, by omega, by omega, by omega, by omega, by simp_all⟩) H.out

set_option maxHeartbeats 400000 in
theorem rcheck_no (a b c d : Int) (w : World) (h : ¬ okP a b c d) :
    Calls Try.prog 11 #[.agg #[.int .i64 a, .int .i64 b, .int .i64 c, .int .i64 d]] w fun e w' => e = .returned (.int .i64 1) ∧ Below w.heap.size w w' := by
  have H := Lib.hid h; clear h
  go_enter Try.func11, Try.ntmps11
  go_wp2
  all_goals go_ret
  all_goals first | exact ⟨rfl, by go_grown⟩ | exact absurd (show okP a b c d from ⟨by omega, by omega, by omega, by omega, by omega, by omega, by omega, by simp_all⟩) H.out

set_option maxHeartbeats 400000 in
theorem checkb_no (t m g : Int) (w : World) (h : ¬ okB t m g) :
    Calls Try.prog 12 #[.agg #[.int .i64 t, .int .i64 m, .int .i64 g]] w fun e w' => e = .returned (.int .i64 1) ∧ Below w.heap.size w w' := by
  have H := Lib.hid h; clear h
  go_enter Try.func12, Try.ntmps12
  go_wp2
  all_goals go_ret
  all_goals first | exact ⟨rfl, by go_grown⟩ | exact absurd (show okB t m g from ⟨by omega, by omega, by omega, by omega, by omega⟩) H.out

set_option maxHeartbeats 400000 in
theorem rcheckb_no (t m g : Int) (w : World) (h : ¬ okB t m g) :
    Calls Try.prog 13 #[.agg #[.int .i64 t, .int .i64 m, .int .i64 g]] w fun e w' => e = .returned (.int .i64 1) ∧ Below w.heap.size w w' := by
  have H := Lib.hid h; clear h
  go_enter Try.func13, Try.ntmps13
  go_wp2
  all_goals go_ret
  all_goals first | exact ⟨rfl, by go_grown⟩ | exact absurd (show okB t m g from ⟨by omega, by omega, by omega, by omega, by omega⟩) H.out
end Go.Proofs.Ytmihbfknhflfiaa
