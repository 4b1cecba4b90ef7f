/- What the top of a value's reading gives. -/
import Derived.Test.YtlgpoapedgodoaaDoorRow
import Derived.Test.YtlgpoapedgodoaaDoorCmpB
namespace Go.Proofs.YtlgpoapedgodoaaDoor
open Go.RowKit

theorem RVal.top {n : Nat} {w : World} {k z : Int} {t : ByteArray} {l1 l2 l3 l4 c1 c2 c3 c4 : Nat} {d1 d2 d3 d4 : Option Addr} {x : VT (n + 1)}
    (h : RVal (n + 1) w [.int .i64 k, .int .u64 z, .string t, .slice d1 l1 c1, .slice d2 l2 c2, .slice d3 l3 c3, .slice d4 l4 c4] x) :
    VS.kind x = k ∧ VS.bits x = z ∧ VS.text x = t ∧ word z ∧ t.size ≤ 140737488351232 ∧ l1 ≤ 140737488351232 ∧ l2 ≤ 140737488351232 ∧ l3 ≤ 140737488351232 ∧ l4 ≤ 140737488351232 := by
  obtain ⟨l, p, s, r, hcs, hbd, r1, r2, r3, r4⟩ := h
  simp only [List.cons.injEq, Value.int.injEq, Value.string.injEq, true_and, and_true] at hcs
  obtain ⟨e1, e2, e3, rfl, rfl, rfl, rfl⟩ := hcs
  have len : ∀ {α : Type} {k : Nat} {R : World → List Value → α → Prop} {d : Option Addr} {l c : Nat} {xs : List α}, RowAt k R w (.slice d l c) xs → l ≤ 140737488351232 := by
    intro α k R d l c xs h
    obtain ⟨ao, c', hv, _, hm, _⟩ := h
    simp only [Value.slice.injEq] at hv
    rw [hv.2.1]; exact hm.2
  refine ⟨e1.symm, e2.symm, e3.symm, ?_, by rw [e3]; exact hbd.2.2.2.2, len r1, len r2, len r3, len r4⟩
  unfold word; rw [e2]; omega

end Go.Proofs.YtlgpoapedgodoaaDoor
