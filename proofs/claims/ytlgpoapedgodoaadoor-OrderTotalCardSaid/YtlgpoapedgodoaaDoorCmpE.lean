/- Cmp of scalars: one contract. -/
import Derived.Test.YtlgpoapedgodoaaDoorCmpD
namespace Go.Proofs.YtlgpoapedgodoaaDoor
open Go.RowKit

theorem scal_eq (k z k' z' : Int) (t t' : ByteArray) (l p s r l' p' s' r' : Value) (hz : word z) (hz' : word z') (w : World) :
    Calls Tryd.prog 36 #[.agg #[.int .i64 k, .int .u64 z, .string t, l, p, s, r], .agg #[.int .i64 k', .int .u64 z', .string t', l', p', s', r']] w
      fun e w' => e = .returned (.int .i64 (scalF k z t k' z' t')) ∧ Below w.heap.size w w' := by
  by_cases hk : k = k'
  · subst hk
    rw [show scalF k z t k z' t' = scalC k z t z' t' by simp [scalF]]
    by_cases h1 : 1 ≤ k ∧ k ≤ 9
    · by_cases h2 : k = 7 ∨ k = 8
      · rw [show scalC k z t z' t' = cmpT t t' by simp [scalC, h1, h2]]
        exact scal_text k z z' t t' l p s r l' p' s' r' (decide_eq_true h1) (decide_eq_true h2) w
      · by_cases h3 : k = 2
        · subst h3; exact scal_s2 z z' t t' l p s r l' p' s' r' w
        · by_cases h4 : k = 3
          · subst h4; exact scal_s3 z z' t t' l p s r l' p' s' r' w
          · by_cases h6 : k = 6
            · subst h6; exact scal_d z z' t t' l p s r l' p' s' r' (Lib.hid ⟨hz, hz'⟩) w
            · rw [show scalC k z t z' t' = cmpI z z' by simp [scalC, h1, h2, h3, h4, h6]]
              exact scal_bits k z z' t t' l p s r l' p' s' r' (decide_eq_true h1) (decide_eq_false h2) (by simp [h3]) (by simp [h4]) (by simp [h6]) w
    · rw [show scalC k z t z' t' = 0 by simp [scalC, h1]]
      exact scal_not k z z' t t' l p s r l' p' s' r' (decide_eq_false h1) w
  · rw [show scalF k z t k' z' t' = cmpI k k' by simp [scalF, hk]]
    exact scal_ne k z k' z' t t' l p s r l' p' s' r' (by simp [hk]) w
end Go.Proofs.YtlgpoapedgodoaaDoor
