/- Well-formed sequences of UTF-8: the reference's way and the model's decoding agree. -/
import Derived.Lib.DecodeN
namespace Go.Proofs.YtlgpoapedgodoaaDoor

/-- The length of the well-formed sequence that begins a text of n bytes with these four, or 0. -/
def sizeN (n b0 b1 b2 b3 : Nat) : Nat :=
  if b0 < 128 then 1
  else if (194 ≤ b0 ∧ b0 ≤ 223) ∧ (1 < n ∧ 128 ≤ b1 ∧ b1 ≤ 191) then 2
  else if b0 = 224 ∧ (1 < n ∧ 160 ≤ b1 ∧ b1 ≤ 191) ∧ (2 < n ∧ 128 ≤ b2 ∧ b2 ≤ 191) then 3
  else if b0 = 237 ∧ (1 < n ∧ 128 ≤ b1 ∧ b1 ≤ 159) ∧ (2 < n ∧ 128 ≤ b2 ∧ b2 ≤ 191) then 3
  else if (225 ≤ b0 ∧ b0 ≤ 239 ∧ b0 ≠ 237) ∧ (1 < n ∧ 128 ≤ b1 ∧ b1 ≤ 191) ∧ (2 < n ∧ 128 ≤ b2 ∧ b2 ≤ 191) then 3
  else if b0 = 240 ∧ (1 < n ∧ 144 ≤ b1 ∧ b1 ≤ 191) ∧ (2 < n ∧ 128 ≤ b2 ∧ b2 ≤ 191) ∧ (3 < n ∧ 128 ≤ b3 ∧ b3 ≤ 191) then 4
  else if (241 ≤ b0 ∧ b0 ≤ 243) ∧ (1 < n ∧ 128 ≤ b1 ∧ b1 ≤ 191) ∧ (2 < n ∧ 128 ≤ b2 ∧ b2 ≤ 191) ∧ (3 < n ∧ 128 ≤ b3 ∧ b3 ≤ 191) then 4
  else if b0 = 244 ∧ (1 < n ∧ 128 ≤ b1 ∧ b1 ≤ 143) ∧ (2 < n ∧ 128 ≤ b2 ∧ b2 ≤ 191) ∧ (3 < n ∧ 128 ≤ b3 ∧ b3 ≤ 191) then 4
  else 0

theorem sizeN_le (n b0 b1 b2 b3 : Nat) (hn : 1 ≤ n) : sizeN n b0 b1 b2 b3 ≤ n := by
  unfold sizeN
  repeat' split
  all_goals omega

/-- What the decoding says of a sequence. -/
def okN (n b0 b1 b2 : Nat) (x : Nat × Nat) : Nat := if x.1 = 65533 ∧ ¬ (2 < n ∧ b0 = 239 ∧ b1 = 191 ∧ b2 = 189) then 0 else x.2
theorem okN_bad {n b0 b1 b2 k : Nat} (h : ¬ (2 < n ∧ b0 = 239 ∧ b1 = 191 ∧ b2 = 189)) : okN n b0 b1 b2 (65533, k) = 0 := by unfold okN; rw [if_pos ⟨rfl, h⟩]
theorem okN_good {n b0 b1 b2 c k : Nat} (h : c ≠ 65533 ∨ (2 < n ∧ b0 = 239 ∧ b1 = 191 ∧ b2 = 189)) : okN n b0 b1 b2 (c, k) = k := by
  unfold okN; rw [if_neg]; intro ⟨h1, h2⟩; rcases h with h | h
  · exact h h1
  · exact h2 h

/-- The first byte of two. -/
theorem utf_2 (n b0 b1 b2 b3 : Nat) (hb : 194 ≤ b0 ∧ b0 ≤ 223) (h1 : b1 < 256) : sizeN n b0 b1 b2 b3 = okN n b0 b1 b2 (Lib.decodeN n b0 b1 b2 b3) := by
  by_cases h : 1 < n ∧ 128 ≤ b1 ∧ b1 ≤ 191
  · have e1 : sizeN n b0 b1 b2 b3 = 2 := by unfold sizeN; rw [if_neg (by omega), if_pos (by omega)]
    have e2 : Lib.decodeN n b0 b1 b2 b3 = (b0 % 32 * 64 + b1 % 64, 2) := by unfold Lib.decodeN; rw [if_neg (by omega), if_pos (by omega), if_pos (by omega)]
    rw [e1, e2, okN_good (by omega)]
  · have e1 : sizeN n b0 b1 b2 b3 = 0 := by unfold sizeN; rw [if_neg (by omega), if_neg (by omega), if_neg (by omega), if_neg (by omega), if_neg (by omega), if_neg (by omega), if_neg (by omega), if_neg (by omega)]
    have e2 : Lib.decodeN n b0 b1 b2 b3 = (65533, 1) := by unfold Lib.decodeN; rw [if_neg (by omega), if_neg (by omega), if_neg (by omega), if_neg (by omega)]
    rw [e1, e2, okN_bad (by omega)]

/-- No first byte. -/
theorem utf_0 (n b0 b1 b2 b3 : Nat) (hb : (128 ≤ b0 ∧ b0 < 194) ∨ 245 ≤ b0) (h0 : b0 < 256) : sizeN n b0 b1 b2 b3 = okN n b0 b1 b2 (Lib.decodeN n b0 b1 b2 b3) := by
  have e : Lib.decodeN n b0 b1 b2 b3 = (65533, 1) := by
    unfold Lib.decodeN
    rw [if_neg (by omega)]
    by_cases c1 : b0 / 32 = 6 ∧ (1 < n ∧ b1 / 64 = 2)
    · rw [if_pos c1, if_neg (by omega)]
    · rw [if_neg c1, if_neg (by omega)]
      by_cases c2 : b0 / 8 = 30 ∧ (1 < n ∧ b1 / 64 = 2) ∧ (2 < n ∧ b2 / 64 = 2) ∧ (3 < n ∧ b3 / 64 = 2)
      · rw [if_pos c2, if_neg (by omega)]
      · rw [if_neg c2]
  rw [e, okN_bad (by omega)]
  unfold sizeN
  rw [if_neg (by omega), if_neg (by omega), if_neg (by omega), if_neg (by omega), if_neg (by omega), if_neg (by omega), if_neg (by omega), if_neg (by omega)]

/-- The first byte of three. -/
theorem utf_3 (n b0 b1 b2 b3 : Nat) (hb : 224 ≤ b0 ∧ b0 ≤ 239) (h1 : b1 < 256) (h2 : b2 < 256) : sizeN n b0 b1 b2 b3 = okN n b0 b1 b2 (Lib.decodeN n b0 b1 b2 b3) := by
  by_cases c : (1 < n ∧ b1 / 64 = 2) ∧ (2 < n ∧ b2 / 64 = 2)
  · by_cases d0 : b0 = 224
    · by_cases d1 : 160 ≤ b1
      · have e1 : sizeN n b0 b1 b2 b3 = 3 := by unfold sizeN; rw [if_neg (by omega), if_neg (by omega), if_pos (by omega)]
        have e2 : Lib.decodeN n b0 b1 b2 b3 = (b0 % 16 * 4096 + b1 % 64 * 64 + b2 % 64, 3) := by unfold Lib.decodeN; rw [if_neg (by omega), if_neg (by omega), if_pos (by omega), if_pos (by omega)]
        rw [e1, e2, okN_good (by omega)]
      · have e1 : sizeN n b0 b1 b2 b3 = 0 := by unfold sizeN; rw [if_neg (by omega), if_neg (by omega), if_neg (by omega), if_neg (by omega), if_neg (by omega), if_neg (by omega), if_neg (by omega), if_neg (by omega)]
        have e2 : Lib.decodeN n b0 b1 b2 b3 = (65533, 1) := by unfold Lib.decodeN; rw [if_neg (by omega), if_neg (by omega), if_pos (by omega), if_neg (by omega)]
        rw [e1, e2, okN_bad (by omega)]
    · by_cases d2 : b0 = 237
      · by_cases d3 : b1 ≤ 159
        · have e1 : sizeN n b0 b1 b2 b3 = 3 := by unfold sizeN; rw [if_neg (by omega), if_neg (by omega), if_neg (by omega), if_pos (by omega)]
          have e2 : Lib.decodeN n b0 b1 b2 b3 = (b0 % 16 * 4096 + b1 % 64 * 64 + b2 % 64, 3) := by unfold Lib.decodeN; rw [if_neg (by omega), if_neg (by omega), if_pos (by omega), if_pos (by omega)]
          rw [e1, e2, okN_good (by omega)]
        · have e1 : sizeN n b0 b1 b2 b3 = 0 := by unfold sizeN; rw [if_neg (by omega), if_neg (by omega), if_neg (by omega), if_neg (by omega), if_neg (by omega), if_neg (by omega), if_neg (by omega), if_neg (by omega)]
          have e2 : Lib.decodeN n b0 b1 b2 b3 = (65533, 1) := by unfold Lib.decodeN; rw [if_neg (by omega), if_neg (by omega), if_pos (by omega), if_neg (by omega)]
          rw [e1, e2, okN_bad (by omega)]
      · have e1 : sizeN n b0 b1 b2 b3 = 3 := by unfold sizeN; rw [if_neg (by omega), if_neg (by omega), if_neg (by omega), if_neg (by omega), if_pos (by omega)]
        have e2 : Lib.decodeN n b0 b1 b2 b3 = (b0 % 16 * 4096 + b1 % 64 * 64 + b2 % 64, 3) := by unfold Lib.decodeN; rw [if_neg (by omega), if_neg (by omega), if_pos (by omega), if_pos (by omega)]
        rw [e1, e2, okN_good (by omega)]
  · have e1 : sizeN n b0 b1 b2 b3 = 0 := by unfold sizeN; rw [if_neg (by omega), if_neg (by omega), if_neg (by omega), if_neg (by omega), if_neg (by omega), if_neg (by omega), if_neg (by omega), if_neg (by omega)]
    have e2 : Lib.decodeN n b0 b1 b2 b3 = (65533, 1) := by unfold Lib.decodeN; rw [if_neg (by omega), if_neg (by omega), if_neg (by omega), if_neg (by omega)]
    rw [e1, e2, okN_bad (by omega)]

/-- The first byte of four. -/
theorem utf_4 (n b0 b1 b2 b3 : Nat) (hb : 240 ≤ b0 ∧ b0 ≤ 244) (h1 : b1 < 256) (h2 : b2 < 256) (h3 : b3 < 256) : sizeN n b0 b1 b2 b3 = okN n b0 b1 b2 (Lib.decodeN n b0 b1 b2 b3) := by
  by_cases c : (1 < n ∧ b1 / 64 = 2) ∧ (2 < n ∧ b2 / 64 = 2) ∧ (3 < n ∧ b3 / 64 = 2)
  · by_cases d0 : b0 = 240
    · by_cases d1 : 144 ≤ b1
      · have e1 : sizeN n b0 b1 b2 b3 = 4 := by unfold sizeN; rw [if_neg (by omega), if_neg (by omega), if_neg (by omega), if_neg (by omega), if_neg (by omega), if_pos (by omega)]
        have e2 : Lib.decodeN n b0 b1 b2 b3 = (b0 % 8 * 262144 + b1 % 64 * 4096 + b2 % 64 * 64 + b3 % 64, 4) := by unfold Lib.decodeN; rw [if_neg (by omega), if_neg (by omega), if_neg (by omega), if_pos (by omega), if_pos (by omega)]
        rw [e1, e2, okN_good (by omega)]
      · have e1 : sizeN n b0 b1 b2 b3 = 0 := by unfold sizeN; rw [if_neg (by omega), if_neg (by omega), if_neg (by omega), if_neg (by omega), if_neg (by omega), if_neg (by omega), if_neg (by omega), if_neg (by omega)]
        have e2 : Lib.decodeN n b0 b1 b2 b3 = (65533, 1) := by unfold Lib.decodeN; rw [if_neg (by omega), if_neg (by omega), if_neg (by omega), if_pos (by omega), if_neg (by omega)]
        rw [e1, e2, okN_bad (by omega)]
    · by_cases d2 : b0 = 244
      · by_cases d3 : b1 ≤ 143
        · have e1 : sizeN n b0 b1 b2 b3 = 4 := by unfold sizeN; rw [if_neg (by omega), if_neg (by omega), if_neg (by omega), if_neg (by omega), if_neg (by omega), if_neg (by omega), if_neg (by omega), if_pos (by omega)]
          have e2 : Lib.decodeN n b0 b1 b2 b3 = (b0 % 8 * 262144 + b1 % 64 * 4096 + b2 % 64 * 64 + b3 % 64, 4) := by unfold Lib.decodeN; rw [if_neg (by omega), if_neg (by omega), if_neg (by omega), if_pos (by omega), if_pos (by omega)]
          rw [e1, e2, okN_good (by omega)]
        · have e1 : sizeN n b0 b1 b2 b3 = 0 := by unfold sizeN; rw [if_neg (by omega), if_neg (by omega), if_neg (by omega), if_neg (by omega), if_neg (by omega), if_neg (by omega), if_neg (by omega), if_neg (by omega)]
          have e2 : Lib.decodeN n b0 b1 b2 b3 = (65533, 1) := by unfold Lib.decodeN; rw [if_neg (by omega), if_neg (by omega), if_neg (by omega), if_pos (by omega), if_neg (by omega)]
          rw [e1, e2, okN_bad (by omega)]
      · have e1 : sizeN n b0 b1 b2 b3 = 4 := by unfold sizeN; rw [if_neg (by omega), if_neg (by omega), if_neg (by omega), if_neg (by omega), if_neg (by omega), if_neg (by omega), if_pos (by omega)]
        have e2 : Lib.decodeN n b0 b1 b2 b3 = (b0 % 8 * 262144 + b1 % 64 * 4096 + b2 % 64 * 64 + b3 % 64, 4) := by unfold Lib.decodeN; rw [if_neg (by omega), if_neg (by omega), if_neg (by omega), if_pos (by omega), if_pos (by omega)]
        rw [e1, e2, okN_good (by omega)]
  · have e1 : sizeN n b0 b1 b2 b3 = 0 := by unfold sizeN; rw [if_neg (by omega), if_neg (by omega), if_neg (by omega), if_neg (by omega), if_neg (by omega), if_neg (by omega), if_neg (by omega), if_neg (by omega)]
    have e2 : Lib.decodeN n b0 b1 b2 b3 = (65533, 1) := by unfold Lib.decodeN; rw [if_neg (by omega), if_neg (by omega), if_neg (by omega), if_neg (by omega)]
    rw [e1, e2, okN_bad (by omega)]

/-- No sequence: just where the decoding gives the replacement rune that does not stand there. -/
theorem sizeN_decode (n b0 b1 b2 b3 : Nat) (h0 : b0 < 256) (h1 : b1 < 256) (h2 : b2 < 256) (h3 : b3 < 256) :
    sizeN n b0 b1 b2 b3 = if (Lib.decodeN n b0 b1 b2 b3).1 = 65533 ∧ ¬ (2 < n ∧ b0 = 239 ∧ b1 = 191 ∧ b2 = 189) then 0 else (Lib.decodeN n b0 b1 b2 b3).2 := by
  show _ = okN n b0 b1 b2 _
  by_cases c0 : b0 < 128
  · unfold sizeN Lib.decodeN
    rw [if_pos c0, if_pos c0, okN_good (by omega)]
  by_cases c1 : b0 < 194
  · exact utf_0 n b0 b1 b2 b3 (by omega) h0
  by_cases c2 : b0 < 224
  · exact utf_2 n b0 b1 b2 b3 (by omega) h1
  by_cases c3 : b0 < 240
  · exact utf_3 n b0 b1 b2 b3 (by omega) h1 h2
  by_cases c4 : b0 < 245
  · exact utf_4 n b0 b1 b2 b3 (by omega) h1 h2 h3
  · exact utf_0 n b0 b1 b2 b3 (by omega) h0

/-- At a place of a text. -/
def sizeAt (s : ByteArray) (i : Nat) : Nat := sizeN (s.size - i) (s.get! i).toNat (s.get! (i + 1)).toNat (s.get! (i + 2)).toNat (s.get! (i + 3)).toNat

theorem sizeAt_le (s : ByteArray) (i : Nat) (h : i < s.size) : i + sizeAt s i ≤ s.size := by
  have := sizeN_le (s.size - i) (s.get! i).toNat (s.get! (i + 1)).toNat (s.get! (i + 2)).toNat (s.get! (i + 3)).toNat (by omega)
  unfold sizeAt
  omega

theorem sizeAt_decode (s : ByteArray) (i : Nat) : sizeAt s i = if (Utf8.decode s i).1 = 65533 ∧ ¬ (2 < s.size - i ∧ (s.get! i).toNat = 239 ∧ (s.get! (i + 1)).toNat = 191 ∧ (s.get! (i + 2)).toNat = 189) then 0 else (Utf8.decode s i).2 := by
  rw [Lib.decode_at]
  exact sizeN_decode _ _ _ _ _ (UInt8.toNat_lt _) (UInt8.toNat_lt _) (UInt8.toNat_lt _) (UInt8.toNat_lt _)

/-- The place of the first wrong byte from p on, or -1. -/
def badFrom (s : ByteArray) : Nat → Nat → Int
  | 0, _ => -1
  | f + 1, p => if p < s.size then (if sizeAt s p = 0 then p else badFrom s f (p + sizeAt s p)) else -1
def badZ (s : ByteArray) : Int := badFrom s s.size 0

theorem badFrom_more (s : ByteArray) : ∀ (f g p : Nat), s.size - p ≤ f → s.size - p ≤ g → badFrom s f p = badFrom s g p
  | 0, 0, _, _, _ => rfl
  | 0, g + 1, p, h, _ => by
    simp only [badFrom]; rw [if_neg (by omega)]
  | f + 1, 0, p, _, h => by
    simp only [badFrom]; rw [if_neg (by omega)]
  | f + 1, g + 1, p, h, h' => by
    simp only [badFrom]
    by_cases hp : p < s.size
    · rw [if_pos hp, if_pos hp]
      by_cases h0 : sizeAt s p = 0
      · rw [if_pos h0, if_pos h0]
      · rw [if_neg h0, if_neg h0]
        exact badFrom_more s f g _ (by omega) (by omega)
    · rw [if_neg hp, if_neg hp]

/-- What is left from p on. -/
def badAt (s : ByteArray) (p : Nat) : Int := badFrom s (s.size - p) p
theorem badZ_at (s : ByteArray) : badZ s = badAt s 0 := rfl
theorem badAt_end (s : ByteArray) (p : Nat) (h : s.size ≤ p) : badAt s p = -1 := by
  unfold badAt
  rw [show s.size - p = 0 by omega]; rfl
theorem badAt_bad (s : ByteArray) (p : Nat) (h : p < s.size) (h0 : sizeAt s p = 0) : badAt s p = p := by
  unfold badAt
  rw [show s.size - p = (s.size - p - 1) + 1 by omega]
  simp only [badFrom]
  rw [if_pos h, if_pos h0]
theorem badAt_on (s : ByteArray) (p : Nat) (h : p < s.size) (h0 : sizeAt s p ≠ 0) : badAt s p = badAt s (p + sizeAt s p) := by
  unfold badAt
  rw [show s.size - p = (s.size - p - 1) + 1 by omega]
  simp only [badFrom]
  rw [if_pos h, if_neg h0]
  exact badFrom_more s _ _ _ (by omega) (by omega)
/-- Whether a text is valid. -/
def validB (s : ByteArray) : Bool := decide (badZ s < 0)
end Go.Proofs.YtlgpoapedgodoaaDoor
