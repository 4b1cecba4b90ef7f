/- How the arguments of the retry statements read: policies, budgets, arrays of integers. -/
import Derived.Test.YtmihbfknhflfiaaRows
import Derived.WalkKit
import Derived.ProofKit
import Derived.OpenShut
import Derived.ChangeOld
import Derived.Below
import Derived.Lib.SmallJoins
namespace Go.Proofs.Ytmihbfknhflfiaa
open Go.ChangeShapes Go.WideShapes Go.ChangeAt Go.RowKit Go.Joins

theorem own : ownKnob Try.prog.godebug = none := by kernel_rfl
theorem laidOut : laidOutB Try.prog = true := by kernel_rfl
theorem cellsRetry : Try.prog.cellsOf 23 = 4 := by kernel_rfl
theorem cellsBudget : Try.prog.cellsOf 25 = 3 := by kernel_rfl
theorem cellsInt : Try.prog.cellsOf 3 = 1 := by kernel_rfl

/-- An integer's 64 bits. -/
def I64 (n : Int) : Prop := -9223372036854775808 ≤ n ∧ n ≤ 9223372036854775807

section
variable {H : Type} {enc : TypeId × Value → H} {W : World} {b0 base : Nat} {spare : Nat → Bool} {held : Bool} {v : Value} {d : DataW H} {p : List MemPlace}

theorem field_int {f : Field} {u : Value} {y : DataW H × List MemPlace} {n : Nat} (hf : f.type = 3) (h : DataW.trod enc Try.prog W base spare held n f.type [u] = some y) : ∃ a : Int, u = .int .i64 a ∧ I64 a := by
  rw [hf] at h
  obtain ⟨a, h1, _, wa⟩ := DataW.trod_int Try.underlying3 h
  have hb := bounds_i64 wa
  exact ⟨a, by simpa using h1, hb⟩

theorem open_retry (hv : Value.okWide Try.prog W .any b0 23 v) (h : DataW.Trod enc Try.prog W base spare held 23 v d p) :
    ∃ a b c e : Int, v = .agg #[.int .i64 a, .int .i64 b, .int .i64 c, .int .i64 e] ∧ I64 a ∧ I64 b ∧ I64 c ∧ I64 e := by
  obtain ⟨v0, v1, v2, v3, y0, y1, y2, y3, m, rfl, _, _, h0, h1, h2, h3⟩ := open_agg4 Try.underlying23 (by kernel_rfl) cellsRetry hv h
  obtain ⟨a, rfl, ia⟩ := field_int rfl h0
  obtain ⟨b, rfl, ib⟩ := field_int rfl h1
  obtain ⟨c, rfl, ic⟩ := field_int rfl h2
  obtain ⟨e, rfl, ie⟩ := field_int rfl h3
  exact ⟨a, b, c, e, rfl, ia, ib, ic, ie⟩

theorem open_budget (hv : Value.okWide Try.prog W .any b0 25 v) (h : DataW.Trod enc Try.prog W base spare held 25 v d p) :
    ∃ a b c : Int, v = .agg #[.int .i64 a, .int .i64 b, .int .i64 c] ∧ I64 a ∧ I64 b ∧ I64 c := by
  obtain ⟨v0, v1, v2, y0, y1, y2, m, rfl, _, _, h0, h1, h2⟩ := open_agg3 Try.underlying25 (by kernel_rfl) cellsBudget hv h
  obtain ⟨a, rfl, ia⟩ := field_int rfl h0
  obtain ⟨b, rfl, ib⟩ := field_int rfl h1
  obtain ⟨c, rfl, ic⟩ := field_int rfl h2
  exact ⟨a, b, c, rfl, ia, ib, ic⟩
end
end Go.Proofs.Ytmihbfknhflfiaa
