/- The two ways to compare numbers agree. -/
import Derived.Test.YtlgpoapedgodoaaDoorCmpG
namespace Go.Proofs.YtlgpoapedgodoaaDoor
open Go.RowKit

theorem rank_cmp (k z z' : Int) (t t' : ByteArray) (hz : word z) (hz' : word z') (h : 1 ≤ k ∧ k ≤ 9) (h2 : ¬ (k = 7 ∨ k = 8)) :
    cmpI (rankZ k z) (rankZ k z') = scalC k z t z' t' := by
  obtain ⟨a, b⟩ := hz
  obtain ⟨c, d⟩ := hz'
  have e : ∀ x : Int, 0 ≤ x → x < 18446744073709551616 → wrap64 x = if x < 9223372036854775808 then x else x - 18446744073709551616 := by
    intro x h1 h2
    simp only [wrap64]
    split <;> omega
  unfold scalC rankZ
  rw [if_neg (show ¬ ¬ (1 ≤ k ∧ k ≤ 9) from fun x => x h), if_neg h2]
  by_cases h3 : k = 2 ∨ k = 3
  · simp only [if_pos h3]
    rw [e z a b, e z' c d]
    by_cases g1 : z < 9223372036854775808 <;> by_cases g2 : z' < 9223372036854775808 <;> simp only [g1, g2, if_true, if_false] <;> unfold cmpI <;> (repeat' split) <;> omega
  · simp only [if_neg h3]
    split <;> rfl
end Go.Proofs.YtlgpoapedgodoaaDoor
