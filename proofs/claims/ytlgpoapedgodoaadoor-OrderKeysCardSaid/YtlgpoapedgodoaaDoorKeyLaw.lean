/- The text of a key: its zero bytes escaped. -/
import Derived.Lib.ReplaceLaws
namespace Go.Proofs.YtlgpoapedgodoaaDoor

/-- Each zero byte with 255 behind it. -/
def escT : List UInt8 → List UInt8
  | [] => []
  | b :: l => if b = 0 then 0 :: 255 :: escT l else b :: escT l

theorem escT_none : ∀ l : List UInt8, l.count 0 = 0 → escT l = l
  | [], _ => rfl
  | b :: l, h => by
    by_cases hb : b = 0
    · subst hb; simp at h
    · rw [List.count_cons_of_ne (by simpa using hb)] at h
      simp only [escT, hb, if_false, escT_none l h]

theorem escT_length (l : List UInt8) : (escT l).length = l.length + l.count 0 := by
  induction l with
  | nil => rfl
  | cons b l ih =>
    by_cases hb : b = 0
    · subst hb; simp [escT, ih]; omega
    · rw [List.count_cons_of_ne (by simpa using hb)]
      simp [escT, hb, ih]; omega

theorem replaceK_esc : ∀ (l : List UInt8) (k : Nat), l.count 0 ≤ k → Lib.replaceK [0] [0, 255] k l = escT l
  | [], 0, _ => rfl
  | [], k + 1, _ => rfl
  | b :: l, 0, h => by
    rw [escT_none _ (by omega)]; rfl
  | b :: l, k + 1, h => by
    by_cases hb : b = 0
    · subst hb
      have hi : Lib.index (0 :: l) [0] = ((0 : Nat) : Int) := by rw [Lib.index_one]; rfl
      rw [Lib.replaceK_hit _ _ _ _ 0 hi]
      have := replaceK_esc l k (by simp at h; omega)
      simp [escT, this]
    · rw [List.count_cons_of_ne (by simpa using hb)] at h
      have ih := replaceK_esc l (k + 1) h
      have hge := Lib.indexByte_ge l 0
      by_cases hm : Lib.indexByte l 0 = -1
      · have h1 : Lib.index (b :: l) [0] = -1 := by rw [Lib.index_one]; unfold Lib.indexByte; simp [hb, hm]
        have h2 : Lib.index l [0] = -1 := by rw [Lib.index_one]; exact hm
        simp only [Lib.replaceK, h1, h2, beq_self_eq_true, if_true] at ih ⊢
        simp only [escT, hb, if_false, ← ih]
      · obtain ⟨i, hi⟩ : ∃ i : Nat, Lib.indexByte l 0 = i := ⟨(Lib.indexByte l 0).toNat, by omega⟩
        have h1 : Lib.index (b :: l) [0] = ((i + 1 : Nat) : Int) := by rw [Lib.index_one]; unfold Lib.indexByte; simp [hb, hi]
        have h2 : Lib.index l [0] = (i : Int) := by rw [Lib.index_one]; exact hi
        rw [Lib.replaceK_hit _ _ _ _ _ h1]
        rw [Lib.replaceK_hit _ _ _ _ _ h2] at ih
        simp only [escT, hb, if_false, ← ih]
        simp

theorem replaceAll_esc (l : List UInt8) : Lib.replaceAll l [0] [0, 255] = escT l := by
  unfold Lib.replaceAll Lib.replace
  rw [if_neg (by decide)]
  have : Lib.replaceNum l [0] (-1) = l.count 0 := by
    unfold Lib.replaceNum
    rw [if_pos (.inl (by decide)), Lib.count_one]
  rw [this]
  exact replaceK_esc l _ (Nat.le_refl _)
end Go.Proofs.YtlgpoapedgodoaaDoor
