/- Part 2 of the texts that prove OrderKeyBackEnd. -/
import Derived.Lib.DecodeN
import Derived.Shelf.Strings.Builder1
import Derived.Shelf.Strings.Builder2
import Derived.Shelf.Strings.Search1
import Derived.Shelf.Strings.Search2
import Derived.Shelf.Strings.Search3
import Derived.Shelf.Strings.Count
import Derived.Shelf.LaysM
import Derived.Shelf.Strings.Shaped
import Derived.Shelf.Strings.Prefix
import Derived.Shelf.Strings.Split
import Derived.Shelf.Strings.Replace
import Derived.Shelf.Strings.SplitShaped
import Derived.Shelf.Unicode.DecodeSlow
import Derived.Test.YtlgpoapedgodoaaDoorProg
import Derived.Test.YtlgpoapedgodoaaDoorOrderKeyBackEndP0
import Derived.Laws.RangeAny

/- Well-formed sequences of UTF-8: the reference's way and the model's decoding agree. -/
namespace Go.Proofs.YtlgpoapedgodoaaDoor

/-- The length of the well-formed sequence that begins a text of n bytes with these four, or 0. -/
def sizeN (n b0 b1 b2 b3 : Nat) : Nat :=
  if b0 < 128 then 1
  else if (194 ≤ b0 ∧ b0 ≤ 223) ∧ (1 < n ∧ 128 ≤ b1 ∧ b1 ≤ 191) then 2
  else if b0 = 224 ∧ (1 < n ∧ 160 ≤ b1 ∧ b1 ≤ 191) ∧ (2 < n ∧ 128 ≤ b2 ∧ b2 ≤ 191) then 3
  else if b0 = 237 ∧ (1 < n ∧ 128 ≤ b1 ∧ b1 ≤ 159) ∧ (2 < n ∧ 128 ≤ b2 ∧ b2 ≤ 191) then 3
  else if (225 ≤ b0 ∧ b0 ≤ 239 ∧ b0 ≠ 237) ∧ (1 < n ∧ 128 ≤ b1 ∧ b1 ≤ 191) ∧ (2 < n ∧ 128 ≤ b2 ∧ b2 ≤ 191) then 3
  else if b0 = 240 ∧ (1 < n ∧ 144 ≤ b1 ∧ b1 ≤ 191) ∧ (2 < n ∧ 128 ≤ b2 ∧ b2 ≤ 191) ∧ (3 < n ∧ 128 ≤ b3 ∧ b3 ≤ 191) then 4
  else if (241 ≤ b0 ∧ b0 ≤ 243) ∧ (1 < n ∧ 128 ≤ b1 ∧ b1 ≤ 191) ∧ (2 < n ∧ 128 ≤ b2 ∧ b2 ≤ 191) ∧ (3 < n ∧ 128 ≤ b3 ∧ b3 ≤ 191) then 4
  else if b0 = 244 ∧ (1 < n ∧ 128 ≤ b1 ∧ b1 ≤ 143) ∧ (2 < n ∧ 128 ≤ b2 ∧ b2 ≤ 191) ∧ (3 < n ∧ 128 ≤ b3 ∧ b3 ≤ 191) then 4
  else 0

theorem sizeN_le (n b0 b1 b2 b3 : Nat) (hn : 1 ≤ n) : sizeN n b0 b1 b2 b3 ≤ n := by
  unfold sizeN
  repeat' split
  all_goals omega

/-- What the decoding says of a sequence. -/
def okN (n b0 b1 b2 : Nat) (x : Nat × Nat) : Nat := if x.1 = 65533 ∧ ¬ (2 < n ∧ b0 = 239 ∧ b1 = 191 ∧ b2 = 189) then 0 else x.2
theorem okN_bad {n b0 b1 b2 k : Nat} (h : ¬ (2 < n ∧ b0 = 239 ∧ b1 = 191 ∧ b2 = 189)) : okN n b0 b1 b2 (65533, k) = 0 := by unfold okN; rw [if_pos ⟨rfl, h⟩]
theorem okN_good {n b0 b1 b2 c k : Nat} (h : c ≠ 65533 ∨ (2 < n ∧ b0 = 239 ∧ b1 = 191 ∧ b2 = 189)) : okN n b0 b1 b2 (c, k) = k := by
  unfold okN; rw [if_neg]; intro ⟨h1, h2⟩; rcases h with h | h
  · exact h h1
  · exact h2 h

/-- The first byte of two. -/
theorem utf_2 (n b0 b1 b2 b3 : Nat) (hb : 194 ≤ b0 ∧ b0 ≤ 223) (h1 : b1 < 256) : sizeN n b0 b1 b2 b3 = okN n b0 b1 b2 (Lib.decodeN n b0 b1 b2 b3) := by
  by_cases h : 1 < n ∧ 128 ≤ b1 ∧ b1 ≤ 191
  · have e1 : sizeN n b0 b1 b2 b3 = 2 := by unfold sizeN; rw [if_neg (by omega), if_pos (by omega)]
    have e2 : Lib.decodeN n b0 b1 b2 b3 = (b0 % 32 * 64 + b1 % 64, 2) := by unfold Lib.decodeN; rw [if_neg (by omega), if_pos (by omega), if_pos (by omega)]
    rw [e1, e2, okN_good (by omega)]
  · have e1 : sizeN n b0 b1 b2 b3 = 0 := by unfold sizeN; rw [if_neg (by omega), if_neg (by omega), if_neg (by omega), if_neg (by omega), if_neg (by omega), if_neg (by omega), if_neg (by omega), if_neg (by omega)]
    have e2 : Lib.decodeN n b0 b1 b2 b3 = (65533, 1) := by unfold Lib.decodeN; rw [if_neg (by omega), if_neg (by omega), if_neg (by omega), if_neg (by omega)]
    rw [e1, e2, okN_bad (by omega)]

/-- No first byte. -/
theorem utf_0 (n b0 b1 b2 b3 : Nat) (hb : (128 ≤ b0 ∧ b0 < 194) ∨ 245 ≤ b0) (h0 : b0 < 256) : sizeN n b0 b1 b2 b3 = okN n b0 b1 b2 (Lib.decodeN n b0 b1 b2 b3) := by
  have e : Lib.decodeN n b0 b1 b2 b3 = (65533, 1) := by
    unfold Lib.decodeN
    rw [if_neg (by omega)]
    by_cases c1 : b0 / 32 = 6 ∧ (1 < n ∧ b1 / 64 = 2)
    · rw [if_pos c1, if_neg (by omega)]
    · rw [if_neg c1, if_neg (by omega)]
      by_cases c2 : b0 / 8 = 30 ∧ (1 < n ∧ b1 / 64 = 2) ∧ (2 < n ∧ b2 / 64 = 2) ∧ (3 < n ∧ b3 / 64 = 2)
      · rw [if_pos c2, if_neg (by omega)]
      · rw [if_neg c2]
  rw [e, okN_bad (by omega)]
  unfold sizeN
  rw [if_neg (by omega), if_neg (by omega), if_neg (by omega), if_neg (by omega), if_neg (by omega), if_neg (by omega), if_neg (by omega), if_neg (by omega)]

/-- The first byte of three. -/
theorem utf_3 (n b0 b1 b2 b3 : Nat) (hb : 224 ≤ b0 ∧ b0 ≤ 239) (h1 : b1 < 256) (h2 : b2 < 256) : sizeN n b0 b1 b2 b3 = okN n b0 b1 b2 (Lib.decodeN n b0 b1 b2 b3) := by
  by_cases c : (1 < n ∧ b1 / 64 = 2) ∧ (2 < n ∧ b2 / 64 = 2)
  · by_cases d0 : b0 = 224
    · by_cases d1 : 160 ≤ b1
      · have e1 : sizeN n b0 b1 b2 b3 = 3 := by unfold sizeN; rw [if_neg (by omega), if_neg (by omega), if_pos (by omega)]
        have e2 : Lib.decodeN n b0 b1 b2 b3 = (b0 % 16 * 4096 + b1 % 64 * 64 + b2 % 64, 3) := by unfold Lib.decodeN; rw [if_neg (by omega), if_neg (by omega), if_pos (by omega), if_pos (by omega)]
        rw [e1, e2, okN_good (by omega)]
      · have e1 : sizeN n b0 b1 b2 b3 = 0 := by unfold sizeN; rw [if_neg (by omega), if_neg (by omega), if_neg (by omega), if_neg (by omega), if_neg (by omega), if_neg (by omega), if_neg (by omega), if_neg (by omega)]
        have e2 : Lib.decodeN n b0 b1 b2 b3 = (65533, 1) := by unfold Lib.decodeN; rw [if_neg (by omega), if_neg (by omega), if_pos (by omega), if_neg (by omega)]
        rw [e1, e2, okN_bad (by omega)]
    · by_cases d2 : b0 = 237
      · by_cases d3 : b1 ≤ 159
        · have e1 : sizeN n b0 b1 b2 b3 = 3 := by unfold sizeN; rw [if_neg (by omega), if_neg (by omega), if_neg (by omega), if_pos (by omega)]
          have e2 : Lib.decodeN n b0 b1 b2 b3 = (b0 % 16 * 4096 + b1 % 64 * 64 + b2 % 64, 3) := by unfold Lib.decodeN; rw [if_neg (by omega), if_neg (by omega), if_pos (by omega), if_pos (by omega)]
          rw [e1, e2, okN_good (by omega)]
        · have e1 : sizeN n b0 b1 b2 b3 = 0 := by unfold sizeN; rw [if_neg (by omega), if_neg (by omega), if_neg (by omega), if_neg (by omega), if_neg (by omega), if_neg (by omega), if_neg (by omega), if_neg (by omega)]
          have e2 : Lib.decodeN n b0 b1 b2 b3 = (65533, 1) := by unfold Lib.decodeN; rw [if_neg (by omega), if_neg (by omega), if_pos (by omega), if_neg (by omega)]
          rw [e1, e2, okN_bad (by omega)]
      · have e1 : sizeN n b0 b1 b2 b3 = 3 := by unfold sizeN; rw [if_neg (by omega), if_neg (by omega), if_neg (by omega), if_neg (by omega), if_pos (by omega)]
        have e2 : Lib.decodeN n b0 b1 b2 b3 = (b0 % 16 * 4096 + b1 % 64 * 64 + b2 % 64, 3) := by unfold Lib.decodeN; rw [if_neg (by omega), if_neg (by omega), if_pos (by omega), if_pos (by omega)]
        rw [e1, e2, okN_good (by omega)]
  · have e1 : sizeN n b0 b1 b2 b3 = 0 := by unfold sizeN; rw [if_neg (by omega), if_neg (by omega), if_neg (by omega), if_neg (by omega), if_neg (by omega), if_neg (by omega), if_neg (by omega), if_neg (by omega)]
    have e2 : Lib.decodeN n b0 b1 b2 b3 = (65533, 1) := by unfold Lib.decodeN; rw [if_neg (by omega), if_neg (by omega), if_neg (by omega), if_neg (by omega)]
    rw [e1, e2, okN_bad (by omega)]

/-- The first byte of four. -/
theorem utf_4 (n b0 b1 b2 b3 : Nat) (hb : 240 ≤ b0 ∧ b0 ≤ 244) (h1 : b1 < 256) (h2 : b2 < 256) (h3 : b3 < 256) : sizeN n b0 b1 b2 b3 = okN n b0 b1 b2 (Lib.decodeN n b0 b1 b2 b3) := by
  by_cases c : (1 < n ∧ b1 / 64 = 2) ∧ (2 < n ∧ b2 / 64 = 2) ∧ (3 < n ∧ b3 / 64 = 2)
  · by_cases d0 : b0 = 240
    · by_cases d1 : 144 ≤ b1
      · have e1 : sizeN n b0 b1 b2 b3 = 4 := by unfold sizeN; rw [if_neg (by omega), if_neg (by omega), if_neg (by omega), if_neg (by omega), if_neg (by omega), if_pos (by omega)]
        have e2 : Lib.decodeN n b0 b1 b2 b3 = (b0 % 8 * 262144 + b1 % 64 * 4096 + b2 % 64 * 64 + b3 % 64, 4) := by unfold Lib.decodeN; rw [if_neg (by omega), if_neg (by omega), if_neg (by omega), if_pos (by omega), if_pos (by omega)]
        rw [e1, e2, okN_good (by omega)]
      · have e1 : sizeN n b0 b1 b2 b3 = 0 := by unfold sizeN; rw [if_neg (by omega), if_neg (by omega), if_neg (by omega), if_neg (by omega), if_neg (by omega), if_neg (by omega), if_neg (by omega), if_neg (by omega)]
        have e2 : Lib.decodeN n b0 b1 b2 b3 = (65533, 1) := by unfold Lib.decodeN; rw [if_neg (by omega), if_neg (by omega), if_neg (by omega), if_pos (by omega), if_neg (by omega)]
        rw [e1, e2, okN_bad (by omega)]
    · by_cases d2 : b0 = 244
      · by_cases d3 : b1 ≤ 143
        · have e1 : sizeN n b0 b1 b2 b3 = 4 := by unfold sizeN; rw [if_neg (by omega), if_neg (by omega), if_neg (by omega), if_neg (by omega), if_neg (by omega), if_neg (by omega), if_neg (by omega), if_pos (by omega)]
          have e2 : Lib.decodeN n b0 b1 b2 b3 = (b0 % 8 * 262144 + b1 % 64 * 4096 + b2 % 64 * 64 + b3 % 64, 4) := by unfold Lib.decodeN; rw [if_neg (by omega), if_neg (by omega), if_neg (by omega), if_pos (by omega), if_pos (by omega)]
          rw [e1, e2, okN_good (by omega)]
        · have e1 : sizeN n b0 b1 b2 b3 = 0 := by unfold sizeN; rw [if_neg (by omega), if_neg (by omega), if_neg (by omega), if_neg (by omega), if_neg (by omega), if_neg (by omega), if_neg (by omega), if_neg (by omega)]
          have e2 : Lib.decodeN n b0 b1 b2 b3 = (65533, 1) := by unfold Lib.decodeN; rw [if_neg (by omega), if_neg (by omega), if_neg (by omega), if_pos (by omega), if_neg (by omega)]
          rw [e1, e2, okN_bad (by omega)]
      · have e1 : sizeN n b0 b1 b2 b3 = 4 := by unfold sizeN; rw [if_neg (by omega), if_neg (by omega), if_neg (by omega), if_neg (by omega), if_neg (by omega), if_neg (by omega), if_pos (by omega)]
        have e2 : Lib.decodeN n b0 b1 b2 b3 = (b0 % 8 * 262144 + b1 % 64 * 4096 + b2 % 64 * 64 + b3 % 64, 4) := by unfold Lib.decodeN; rw [if_neg (by omega), if_neg (by omega), if_neg (by omega), if_pos (by omega), if_pos (by omega)]
        rw [e1, e2, okN_good (by omega)]
  · have e1 : sizeN n b0 b1 b2 b3 = 0 := by unfold sizeN; rw [if_neg (by omega), if_neg (by omega), if_neg (by omega), if_neg (by omega), if_neg (by omega), if_neg (by omega), if_neg (by omega), if_neg (by omega)]
    have e2 : Lib.decodeN n b0 b1 b2 b3 = (65533, 1) := by unfold Lib.decodeN; rw [if_neg (by omega), if_neg (by omega), if_neg (by omega), if_neg (by omega)]
    rw [e1, e2, okN_bad (by omega)]

/-- No sequence: just where the decoding gives the replacement rune that does not stand there. -/
theorem sizeN_decode (n b0 b1 b2 b3 : Nat) (h0 : b0 < 256) (h1 : b1 < 256) (h2 : b2 < 256) (h3 : b3 < 256) :
    sizeN n b0 b1 b2 b3 = if (Lib.decodeN n b0 b1 b2 b3).1 = 65533 ∧ ¬ (2 < n ∧ b0 = 239 ∧ b1 = 191 ∧ b2 = 189) then 0 else (Lib.decodeN n b0 b1 b2 b3).2 := by
  show _ = okN n b0 b1 b2 _
  by_cases c0 : b0 < 128
  · unfold sizeN Lib.decodeN
    rw [if_pos c0, if_pos c0, okN_good (by omega)]
  by_cases c1 : b0 < 194
  · exact utf_0 n b0 b1 b2 b3 (by omega) h0
  by_cases c2 : b0 < 224
  · exact utf_2 n b0 b1 b2 b3 (by omega) h1
  by_cases c3 : b0 < 240
  · exact utf_3 n b0 b1 b2 b3 (by omega) h1 h2
  by_cases c4 : b0 < 245
  · exact utf_4 n b0 b1 b2 b3 (by omega) h1 h2 h3
  · exact utf_0 n b0 b1 b2 b3 (by omega) h0

/-- At a place of a text. -/
def sizeAt (s : ByteArray) (i : Nat) : Nat := sizeN (s.size - i) (s.get! i).toNat (s.get! (i + 1)).toNat (s.get! (i + 2)).toNat (s.get! (i + 3)).toNat

theorem sizeAt_le (s : ByteArray) (i : Nat) (h : i < s.size) : i + sizeAt s i ≤ s.size := by
  have := sizeN_le (s.size - i) (s.get! i).toNat (s.get! (i + 1)).toNat (s.get! (i + 2)).toNat (s.get! (i + 3)).toNat (by omega)
  unfold sizeAt
  omega

theorem sizeAt_decode (s : ByteArray) (i : Nat) : sizeAt s i = if (Utf8.decode s i).1 = 65533 ∧ ¬ (2 < s.size - i ∧ (s.get! i).toNat = 239 ∧ (s.get! (i + 1)).toNat = 191 ∧ (s.get! (i + 2)).toNat = 189) then 0 else (Utf8.decode s i).2 := by
  rw [Lib.decode_at]
  exact sizeN_decode _ _ _ _ _ (UInt8.toNat_lt _) (UInt8.toNat_lt _) (UInt8.toNat_lt _) (UInt8.toNat_lt _)

/-- The place of the first wrong byte from p on, or -1. -/
def badFrom (s : ByteArray) : Nat → Nat → Int
  | 0, _ => -1
  | f + 1, p => if p < s.size then (if sizeAt s p = 0 then p else badFrom s f (p + sizeAt s p)) else -1
def badZ (s : ByteArray) : Int := badFrom s s.size 0

theorem badFrom_more (s : ByteArray) : ∀ (f g p : Nat), s.size - p ≤ f → s.size - p ≤ g → badFrom s f p = badFrom s g p
  | 0, 0, _, _, _ => rfl
  | 0, g + 1, p, h, _ => by
    simp only [badFrom]; rw [if_neg (by omega)]
  | f + 1, 0, p, _, h => by
    simp only [badFrom]; rw [if_neg (by omega)]
  | f + 1, g + 1, p, h, h' => by
    simp only [badFrom]
    by_cases hp : p < s.size
    · rw [if_pos hp, if_pos hp]
      by_cases h0 : sizeAt s p = 0
      · rw [if_pos h0, if_pos h0]
      · rw [if_neg h0, if_neg h0]
        exact badFrom_more s f g _ (by omega) (by omega)
    · rw [if_neg hp, if_neg hp]

/-- What is left from p on. -/
def badAt (s : ByteArray) (p : Nat) : Int := badFrom s (s.size - p) p
theorem badZ_at (s : ByteArray) : badZ s = badAt s 0 := rfl
theorem badAt_end (s : ByteArray) (p : Nat) (h : s.size ≤ p) : badAt s p = -1 := by
  unfold badAt
  rw [show s.size - p = 0 by omega]; rfl
theorem badAt_bad (s : ByteArray) (p : Nat) (h : p < s.size) (h0 : sizeAt s p = 0) : badAt s p = p := by
  unfold badAt
  rw [show s.size - p = (s.size - p - 1) + 1 by omega]
  simp only [badFrom]
  rw [if_pos h, if_pos h0]
theorem badAt_on (s : ByteArray) (p : Nat) (h : p < s.size) (h0 : sizeAt s p ≠ 0) : badAt s p = badAt s (p + sizeAt s p) := by
  unfold badAt
  rw [show s.size - p = (s.size - p - 1) + 1 by omega]
  simp only [badFrom]
  rw [if_pos h, if_neg h0]
  exact badFrom_more s _ _ _ (by omega) (by omega)
/-- Whether a text is valid. -/
def validB (s : ByteArray) : Bool := decide (badZ s < 0)
end Go.Proofs.YtlgpoapedgodoaaDoor

/- DERIVED: THE SHELF's CONTRACTS AT THIS DUMP, IN PLAIN WORDS (tools/lay-plain.mjs out of 'TrydShelf.lean', which tools/lay-shelf.mjs wrote): THE SAME DECLARATIONS UNDER THE SAME NAMES: 'import', 'namespace', 'open', 'def', 'theorem' AND NOTHING ELSE: no command of the shelf's: FOR A HAND-IN. Each laying: the table of numbers ('.._ren') and one theorem, a field a fact of the dump's own or the kernel's comparison; each contract: ONE APPLICATION. -/
namespace Go.Proofs
open Go.Shelf
def Tryd.lays99_ren : Go.Shelf.Ren := ⟨fun | 99 => 107 | 206 => 118 | n => n, fun | 9 => 9 | 4 => 4 | 3 => 3 | n => n, fun | n => n⟩
theorem Tryd.lays99 : Go.Proofs.Lays.n99 Tryd.prog Tryd.lays99_ren := {
  mixed := by kernel_rfl
  f99 := Tryd.func107.trans (congrArg some (by kernel_rfl))
  f206 := Tryd.func118.trans (congrArg some (by kernel_rfl))
  t3 := Tryd.underlying3
  a3 := Tryd.isAgg3
  z3 := Tryd.sizeOf3
  v3 := Tryd.zeroValue3
  t4 := Tryd.underlying4
  a4 := Tryd.isAgg4
  z4 := Tryd.sizeOf4
  v4 := Tryd.zeroValue4
  t9 := Tryd.underlying9
  a9 := Tryd.isAgg9
  z9 := Tryd.sizeOf9
  v9 := Tryd.zeroValue9 }
open Go.RowKit Go.Lib in
/-- strings.HasPrefix: "HasPrefix reports whether the string s begins with prefix.": IT RETURNS 'Lib.hasPrefix s prefix'; the world is as it was. (LAID: no walk: one application.) -/
theorem Tryd.strings_HasPrefix (s p : ByteArray) (w : World) :
    Calls Tryd.prog 107 #[.string s, .string p] w fun e w' => e = .returned (.bool (Lib.hasPrefix s.data.toList p.data.toList)) ∧ w' = w := Any.strings_HasPrefix Tryd.lays99 s p w
def Tryd.lays155_ren : Go.Shelf.Ren := ⟨fun | 155 => 27 | 154 => 71 | 138 => 86 | 165 => 87 | 143 => 88 | 166 => 89 | 197 => 90 | 169 => 91 | 195 => 101 | 218 => 102 | 240 => 103 | 241 => 104 | 219 => 105 | 260 => 106 | 276 => 112 | 277 => 113 | 217 => 114 | 225 => 115 | 224 => 116 | 267 => 117 | 266 => 121 | 314 => 122 | n => n, fun | 9 => 9 | 3 => 3 | 4 => 4 | 72 => 98 | 0 => 0 | 76 => 102 | 105 => 104 | 21 => 21 | 5 => 5 | 70 => 96 | 20 => 20 | 37 => 51 | 75 => 101 | 127 => 115 | 164 => 120 | 46 => 119 | 119 => 124 | 139 => 127 | 138 => 126 | 146 => 129 | 51 => 128 | 80 => 106 | n => n, fun | 1 => 0 | 3 => 1 | 4 => 2 | n => n⟩
theorem Tryd.lays155 : Go.Proofs.Lays.n155 Tryd.prog Tryd.lays155_ren := {
  mixed := by kernel_rfl
  f138 := Tryd.func86.trans (congrArg some (by kernel_rfl))
  f143 := Tryd.func88.trans (congrArg some (by kernel_rfl))
  f154 := Tryd.func71.trans (congrArg some (by kernel_rfl))
  f155 := Tryd.func27.trans (congrArg some (by kernel_rfl))
  f165 := Tryd.func87.trans (congrArg some (by kernel_rfl))
  f166 := Tryd.func89.trans (congrArg some (by kernel_rfl))
  f169 := Tryd.func91.trans (congrArg some (by kernel_rfl))
  f195 := Tryd.func101.trans (congrArg some (by kernel_rfl))
  f197 := Tryd.func90.trans (congrArg some (by kernel_rfl))
  f217 := Tryd.func114.trans (congrArg some (by kernel_rfl))
  f218 := Tryd.func102.trans (congrArg some (by kernel_rfl))
  f219 := Tryd.func105.trans (congrArg some (by kernel_rfl))
  f224 := Tryd.func116.trans (congrArg some (by kernel_rfl))
  f225 := Tryd.func115.trans (congrArg some (by kernel_rfl))
  f240 := Tryd.func103.trans (congrArg some (by kernel_rfl))
  f241 := Tryd.func104.trans (congrArg some (by kernel_rfl))
  f260 := Tryd.func106.trans (congrArg some (by kernel_rfl))
  f266 := Tryd.func121.trans (congrArg some (by kernel_rfl))
  f267 := Tryd.func117.trans (congrArg some (by kernel_rfl))
  f276 := Tryd.func112.trans (congrArg some (by kernel_rfl))
  f277 := Tryd.func113.trans (congrArg some (by kernel_rfl))
  f314 := Tryd.func122.trans (congrArg some (by kernel_rfl))
  t0 := Tryd.underlying0
  a0 := Tryd.isAgg0
  z0 := Tryd.sizeOf0
  v0 := Tryd.zeroValue0
  t3 := Tryd.underlying3
  a3 := Tryd.isAgg3
  z3 := Tryd.sizeOf3
  v3 := Tryd.zeroValue3
  t4 := Tryd.underlying4
  a4 := Tryd.isAgg4
  z4 := Tryd.sizeOf4
  v4 := Tryd.zeroValue4
  t5 := Tryd.underlying5
  a5 := Tryd.isAgg5
  z5 := Tryd.sizeOf5
  v5 := Tryd.zeroValue5
  t9 := Tryd.underlying9
  a9 := Tryd.isAgg9
  z9 := Tryd.sizeOf9
  v9 := Tryd.zeroValue9
  t20 := Tryd.underlying20
  a20 := Tryd.isAgg20
  z20 := Tryd.sizeOf20
  v20 := Tryd.zeroValue20
  t21 := Tryd.underlying21
  a21 := Tryd.isAgg21
  z21 := Tryd.sizeOf21
  v21 := Tryd.zeroValue21
  t37 := Tryd.underlying51
  a37 := Tryd.isAgg51
  z37 := Tryd.sizeOf51
  v37 := Tryd.zeroValue51
  t46 := Tryd.underlying119
  a46 := Tryd.isAgg119
  z46 := Tryd.sizeOf119
  v46 := Tryd.zeroValue119
  t51 := Tryd.underlying128
  a51 := Tryd.isAgg128
  z51 := Tryd.sizeOf128
  v51 := Tryd.zeroValue128
  t70 := Tryd.underlying96
  a70 := Tryd.isAgg96
  z70 := Tryd.sizeOf96
  v70 := Tryd.zeroValue96
  t72 := Tryd.underlying98
  a72 := Tryd.isAgg98
  z72 := Tryd.sizeOf98
  v72 := Tryd.zeroValue98
  t75 := Tryd.underlying101
  a75 := Tryd.isAgg101
  z75 := Tryd.sizeOf101
  v75 := Tryd.zeroValue101
  t76 := Tryd.underlying102
  a76 := Tryd.isAgg102
  z76 := Tryd.sizeOf102
  v76 := Tryd.zeroValue102
  t105 := Tryd.underlying104
  a105 := Tryd.isAgg104
  z105 := Tryd.sizeOf104
  v105 := Tryd.zeroValue104
  t119 := Tryd.underlying124
  a119 := Tryd.isAgg124
  z119 := Tryd.sizeOf124
  t127 := Tryd.underlying115
  a127 := Tryd.isAgg115
  z127 := Tryd.sizeOf115
  v127 := Tryd.zeroValue115
  t138 := Tryd.underlying126
  a138 := Tryd.isAgg126
  z138 := Tryd.sizeOf126
  v138 := Tryd.zeroValue126
  t139 := Tryd.underlying127
  a139 := Tryd.isAgg127
  z139 := Tryd.sizeOf127
  v139 := Tryd.zeroValue127
  t146 := Tryd.underlying129
  a146 := Tryd.isAgg129
  z146 := Tryd.sizeOf129
  v146 := Tryd.zeroValue129
  t164 := Tryd.underlying120
  a164 := Tryd.isAgg120
  z164 := Tryd.sizeOf120
  v164 := Tryd.zeroValue120
  g1 := by kernel_rfl
  g3 := by kernel_rfl
  g4 := by kernel_rfl }
theorem Tryd.Builder_Extra_155 : Builder.Extra Tryd.prog Tryd.lays155_ren := {
  sizeBuilder := by kernel_rfl
  liesBuilder := by kernel_rfl
  t5 := Tryd.underlying5
  a5 := Tryd.isAgg5
  z5 := Tryd.sizeOf5
  v5 := Tryd.zeroValue5
  infoByte := by kernel_rfl
  cellsByte := by kernel_rfl
  sizeByte := by kernel_rfl
  neB5 := by decide }
open Go.RowKit Go.Lib in
/-- strings.ReplaceAll: "ReplaceAll returns a copy of the string s with all non-overlapping instances of old replaced by new.": AT AN old THAT IS NOT EMPTY: 'Lib.replaceAll s old new'. (LAID: no walk: one application.) -/
theorem Tryd.strings_ReplaceAll (s old new : ByteArray) (m : Int) (w : World) (hs : s.size < 4294967281) (hm : w.cell? ⟨0, 0, none⟩ = some (.int .i64 m)) (h1 : 1 ≤ old.size) (hlen : s.size + Lib.countB s old * new.size ≤ 140737488355328) :
    Calls Tryd.prog 27 #[.string s, .string old, .string new] w fun e w' =>
      e = .returned (.string ⟨(Lib.replaceAll s.data.toList old.data.toList new.data.toList).toArray⟩) ∧ Below w.heap.size w w' := Any.strings_ReplaceAll Tryd.lays155 Tryd.Builder_Extra_155 s old new m w hs hm h1 hlen
end Go.Proofs


/- utf.Bad, utf.Valid: the first wrong byte. -/
namespace Go.Proofs.YtlgpoapedgodoaaDoor
open Go.RowKit

/-- The replacement rune stands there. -/
def fffd (s : ByteArray) (i : Nat) : Prop := 2 < s.size - i ∧ (s.get! i).toNat = 239 ∧ (s.get! (i + 1)).toNat = 191 ∧ (s.get! (i + 2)).toNat = 189
instance (s : ByteArray) (i : Nat) : Decidable (fffd s i) := by unfold fffd; infer_instance

theorem get_list (s : ByteArray) (i : Nat) (h : i < s.size) : s.data.toList[i]? = some (s.get! i) := by
  have e := get_at s i h
  rw [Nat.add_zero] at e
  rw [e]
  simp only [Array.getElem?_toList]
  rw [Array.getElem?_eq_getElem h]
  rfl

theorem prefix_fffd (s : ByteArray) (i : Nat) : Lib.hasPrefix (s.extract i s.size).data.toList [239, 191, 189] = decide (fffd s i) := by
  have e : (s.extract i s.size).data.toList = s.data.toList.drop i := by
    simp [ByteArray.data_extract]
    exact List.take_of_length_le (by simp)
  rw [e, Bool.eq_iff_iff, decide_eq_true_iff]
  unfold Lib.hasPrefix
  rw [List.isPrefixOf_iff_prefix]
  constructor
  · rintro ⟨r, hr⟩
    have hlen := congrArg List.length hr
    have hn : 3 + r.length = s.size - i := by simp at hlen; omega
    have key : ∀ k, k < 3 → ([239, 191, 189] : List UInt8)[k]? = some (s.get! (i + k)) := by
      intro k hk
      have h1 := get_list s (i + k) (by omega)
      rw [← h1]
      have h2 : (s.data.toList.drop i)[k]? = s.data.toList[i + k]? := by rw [List.getElem?_drop]
      rw [← h2, ← hr, List.getElem?_append_left (by simpa using hk)]
    have k0 := key 0 (by omega); have k1 := key 1 (by omega); have k2 := key 2 (by omega)
    simp at k0 k1 k2
    refine ⟨by omega, ?_, ?_, ?_⟩
    · rw [← k0]; rfl
    · rw [← k1]; rfl
    · rw [← k2]; rfl
  · rintro ⟨h0, h1, h2, h3⟩
    have g0 := get_list s i (by omega)
    have g1 := get_list s (i + 1) (by omega)
    have g2 := get_list s (i + 2) (by omega)
    have e0 : s.get! i = 239 := UInt8.toNat_inj.1 h1
    have e1 : s.get! (i + 1) = 191 := UInt8.toNat_inj.1 h2
    have e2 : s.get! (i + 2) = 189 := UInt8.toNat_inj.1 h3
    rw [e0] at g0; rw [e1] at g1; rw [e2] at g2
    refine ⟨s.data.toList.drop (i + 3), ?_⟩
    have d : ∀ (l : List UInt8) (k : Nat) (x : UInt8), l[k]? = some x → l.drop k = x :: l.drop (k + 1) := by
      intro l k x h
      have hk := (List.getElem?_eq_some_iff.1 h).1
      have hx := (List.getElem?_eq_some_iff.1 h).2
      rw [List.drop_eq_getElem_cons hk, hx]
    rw [d _ _ _ g0, d _ _ _ g1, d _ _ _ g2]
    rfl

set_option maxHeartbeats 1000000 in
theorem wrong_ok (s : ByteArray) (i : Nat) (c : Int) (hi : i < s.size) (w : World) :
    Calls Tryd.prog 94 #[.string s, .int .i64 i, .int .i32 c] w fun e w' => e = .returned (.bool (decide (c = 65533 ∧ ¬ fffd s i))) ∧ w' = w := by
  obtain ⟨R, HR⟩ : ∃ R, Hid (R = decide (c = 65533 ∧ ¬ fffd s i)) := ⟨_, Lib.hid rfl⟩
  rw [← HR.out]
  by_cases hc : c = 65533
  · subst hc
    obtain ⟨F, HF⟩ : ∃ F, Hid (F = decide (fffd s i)) := ⟨_, Lib.hid rfl⟩
    have KP : Hid (∀ w : World, Calls Tryd.prog 107 #[.string (s.extract i s.size), .string ⟨#[239, 191, 189]⟩] w fun e w' => e = .returned (.bool F) ∧ w' = w) := by
      intro w
      have := Tryd.strings_HasPrefix (s.extract i s.size) ⟨#[239, 191, 189]⟩ w
      rw [prefix_fffd s i] at this
      rw [HF.out]
      exact this
    have i1 : (i : Int) ≤ (s.size : Int) := by omega
    have i0 : (0 : Int) ≤ (i : Int) := by omega
    go_enter Tryd.func94, Tryd.ntmps94
    go_wp2_with fail
    refine calls_same (KP.out _) ?_
    go_wp2_with fail
    go_ret
    refine ⟨?_, rfl⟩
    rw [HR.out]
    have e := HF.out
    simp only [true_and, decide_not]
    rw [← e]
    rfl
  · have hcb : (c == 65533) = false := by simp [hc]
    have HC := Lib.hid hc
    clear hc
    go_enter Tryd.func94, Tryd.ntmps94
    go_wp2_with fail
    go_ret
    refine ⟨?_, rfl⟩
    rw [HR.out]
    simp [HC.out]

theorem width_pos (s : ByteArray) (pos : Nat) (h : pos < s.size) : 1 ≤ (Utf8.decode s pos).2 := by
  by_cases ha : (s[pos]'h).toNat < 128
  · rw [decode_ascii s pos h ha]
    exact Nat.le_refl _
  · exact (decode_high s pos h (by omega)).2

theorem sizeAt_fffd (s : ByteArray) (i : Nat) (h : i < s.size) : (sizeAt s i = 0 ↔ (((Utf8.decode s i).1 : Nat) : Int) = 65533 ∧ ¬ fffd s i) ∧ (sizeAt s i ≠ 0 → sizeAt s i = (Utf8.decode s i).2) := by
  have hd := sizeAt_decode s i
  have hp := width_pos s i h
  have e : (((Utf8.decode s i).1 : Nat) : Int) = 65533 ↔ (Utf8.decode s i).1 = 65533 := by omega
  rw [e]
  by_cases hb : (Utf8.decode s i).1 = 65533 ∧ ¬ fffd s i
  · rw [show sizeAt s i = 0 by rw [hd]; exact if_pos hb]
    exact ⟨⟨fun _ => hb, fun _ => rfl⟩, fun h => absurd rfl h⟩
  · have : sizeAt s i = (Utf8.decode s i).2 := by rw [hd]; exact if_neg hb
    rw [this]
    exact ⟨⟨fun h0 => by omega, fun h => absurd h hb⟩, fun _ => rfl⟩

set_option maxHeartbeats 1000000 in
theorem bad_ok (s : ByteArray) (w : World) :
    Calls Tryd.prog 77 #[.string s] w fun e w' => e = .returned (.int .i64 (badZ s)) ∧ Below w.heap.size w w' := by
  obtain ⟨R, HR⟩ : ∃ R, Hid (R = badZ s) := ⟨_, Lib.hid rfl⟩
  rw [← HR.out]
  have bi : ∀ p, Below w.heap.size w (w.iter s p) := fun p => (Below.refl _ _).alloc (Nat.le_refl _) _
  have BI := Lib.hid bi
  clear bi
  go_enter Tryd.func77, Tryd.ntmps77
  go_wp2_with fail
  go_loopw [3, 4] (fun _ _ w' => ∃ pos : Nat, w' = w.iter s pos ∧ Hid (R = badAt s pos)) (fun _ _ w' => s.size - w'.iterPos w.heap.size)
  case atStart => exact ⟨0, rfl, HR⟩
  case round =>
    obtain ⟨pos, rfl, HP⟩ := hrel
    by_cases hp : pos < s.size
    · have hnx : ∀ ty, (Instr.next (.pointer (some ⟨w.heap.size, 0, none⟩)) true ty).run Tryd.prog (w.iter s pos) = _ := fun ty => run_next_any w s pos ty hp
      obtain ⟨D, HD⟩ : ∃ D, Hid (D = decide ((((Utf8.decode s pos).1 : Nat) : Int) = 65533 ∧ ¬ fffd s pos)) := ⟨_, Lib.hid rfl⟩
      have hwd := width_pos s pos hp
      have HS := Lib.hid (sizeAt_fffd s pos hp)
      go_wp2_with fail
      refine calls_same (wrong_ok s pos _ hp _) ?_
      rw [← HD.out]
      cases D
      · have h0 : sizeAt s pos ≠ 0 := fun h => by
          have := decide_eq_true (HS.out.1.1 h)
          rw [← HD.out] at this
          cases this
        have HN : Hid (R = badAt s (pos + (Utf8.decode s pos).2)) := Lib.hid (by rw [HP.out, badAt_on s pos hp h0, HS.out.2 h0])
        clear h0
        go_wp2_with fail
        go_roundw
        case rel => exact ⟨pos + (Utf8.decode s pos).2, rfl, HN⟩
        case measure => simp; omega
      · have h0 : sizeAt s pos = 0 := HS.out.1.2 (of_decide_eq_true HD.out.symm)
        have HN : Hid (R = pos) := Lib.hid (by rw [HP.out, badAt_bad s pos hp h0])
        clear h0
        go_wp2_with fail
        go_ret
        exact ⟨ret_int HN.out.symm, BI.out _⟩
    · have hnx : ∀ ty, (Instr.next (.pointer (some ⟨w.heap.size, 0, none⟩)) true ty).run Tryd.prog (w.iter s pos) = _ := fun ty => run_next_end w s pos ty hp
      have HN : Hid (R = -1) := Lib.hid (by rw [HP.out, badAt_end s pos (by omega)])
      go_wp2_with fail
      go_ret
      exact ⟨ret_int HN.out.symm, BI.out _⟩

set_option maxHeartbeats 1000000 in
theorem valid_ok (s : ByteArray) (w : World) :
    Calls Tryd.prog 48 #[.string s] w fun e w' => e = .returned (.bool (validB s)) ∧ Below w.heap.size w w' := by
  obtain ⟨R, HR⟩ : ∃ R, Hid (R = validB s) := ⟨_, Lib.hid rfl⟩
  rw [← HR.out]
  go_enter Tryd.func48, Tryd.ntmps48
  go_wp2_with fail
  refine calls_on (bad_ok s _) ?_
  intro w' hb
  go_wp2_with fail
  go_ret
  exact ⟨by rw [HR.out]; rfl, hb⟩
end Go.Proofs.YtlgpoapedgodoaaDoor

/- The reference's between and tail. -/
namespace Go.Proofs.YtlgpoapedgodoaaDoor
open Go.RowKit

def btwB (s : ByteArray) (i lo hi : Nat) : Bool := decide (i < s.size ∧ lo ≤ (s.get! i).toNat ∧ (s.get! i).toNat ≤ hi)
def tailB (s : ByteArray) : Nat → Nat → Bool
  | _, 0 => true
  | i, n + 1 => btwB s i 128 191 && tailB s (i + 1) n

theorem get_fin (s : ByteArray) (i : Nat) (h : i < s.size) : (s.get! i).toNat = (s[i]'h).toNat := by
  have e := get_at s i h
  rw [Nat.add_zero] at e
  rw [e]

set_option maxHeartbeats 1000000 in
theorem between_ok (s : ByteArray) (i lo hi : Nat) (w : World) :
    Calls Tryd.prog 109 #[.string s, .int .i64 i, .int .u8 lo, .int .u8 hi] w fun e w' => e = .returned (.bool (btwB s i lo hi)) ∧ w' = w := by
  obtain ⟨R, HR⟩ : ∃ R, Hid (R = btwB s i lo hi) := ⟨_, Lib.hid rfl⟩
  rw [← HR.out]
  by_cases h : i < s.size
  · have G := Lib.hid (get_fin s i h)
    have i0 : (0 : Int) ≤ (i : Int) := by omega
    have i1 : (i : Int) < (s.size : Int) := by omega
    by_cases h1 : lo ≤ (s[i]'h).toNat
    · by_cases h2 : (s[i]'h).toNat ≤ hi
      · have HF : Hid (R = true) := Lib.hid (by rw [HR.out]; exact decide_eq_true ⟨h, by rw [G.out]; exact h1, by rw [G.out]; exact h2⟩)
        go_enter Tryd.func109, Tryd.ntmps109
        go_wp2_with fail
        go_ret
        exact ⟨by rw [HF.out]; simp, rfl⟩
      · have HF : Hid (R = false) := Lib.hid (by rw [HR.out]; exact decide_eq_false (fun x => h2 (by rw [← G.out]; exact x.2.2)))
        go_enter Tryd.func109, Tryd.ntmps109
        go_wp2_with fail
        go_ret
        exact ⟨by rw [HF.out]; simp, rfl⟩
    · have HF : Hid (R = false) := Lib.hid (by rw [HR.out]; exact decide_eq_false (fun x => h1 (by rw [← G.out]; exact x.2.1)))
      have hd : decide (lo ≤ (s[i]'h).toNat) = false := decide_eq_false h1
      go_enter Tryd.func109, Tryd.ntmps109
      go_wp2_with fail
      go_ret
      exact ⟨ret_bool HF.out.symm, rfl⟩
  · have HF : Hid (R = false) := Lib.hid (by rw [HR.out]; exact decide_eq_false (fun x => h x.1))
    have hd : decide (i < s.size) = false := decide_eq_false h
    go_enter Tryd.func109, Tryd.ntmps109
    go_wp2_with fail
    go_ret
    exact ⟨ret_bool HF.out.symm, rfl⟩

set_option maxHeartbeats 1000000 in
theorem tail_ok (s : ByteArray) (i n : Nat) (hn : n ≤ 3) (hi : i ≤ 9223372036854775000) (w : World) :
    Calls Tryd.prog 108 #[.string s, .int .i64 i, .int .i64 n] w fun e w' => e = .returned (.bool (tailB s i n)) ∧ w' = w := by
  obtain ⟨R, HR⟩ : ∃ R, Hid (R = tailB s i n) := ⟨_, Lib.hid rfl⟩
  rw [← HR.out]
  go_enter Tryd.func108, Tryd.ntmps108
  go_wp2_with fail
  go_loop [7] (fun t => ∃ k : Nat, k ≤ n ∧ t = .int .i64 k ∧ Hid (R = tailB s (i + k) (n - k))) (fun t => n - (intOf t).toNat)
  case atStart => exact ⟨0, Nat.zero_le _, rfl, HR⟩
  case round =>
    obtain ⟨k, hk, rfl, HK⟩ := hrel
    by_cases hlt : k < n
    · obtain ⟨D, HD⟩ : ∃ D, Hid (D = btwB s (i + k) 128 191) := ⟨_, Lib.hid rfl⟩
      have HN : Hid (R = (D && tailB s (i + (k + 1)) (n - (k + 1)))) := Lib.hid (by rw [HK.out, show n - k = (n - (k + 1)) + 1 by omega, HD.out]; rfl)
      have KB : Hid (∀ w : World, Calls Tryd.prog 109 #[.string s, .int .i64 (i + k), .int .u8 128, .int .u8 191] w fun e w' => e = .returned (.bool D) ∧ w' = w) := by
        intro w
        rw [HD.out]
        exact between_ok s (i + k) 128 191 w
      go_wp2_with fail
      refine calls_same (KB.out _) ?_
      cases D
      · go_wp2_with fail
        go_ret
        exact ⟨ret_bool (by rw [HN.out]; rfl), rfl⟩
      · go_wp2_with fail
        go_round
        case rel => exact ⟨k + 1, by omega, by go_num, Lib.hid (by rw [HN.out]; rfl)⟩
        case measure => simp [intOf]; omega
    · have HN : Hid (R = true) := Lib.hid (by rw [HK.out, show n - k = 0 by omega]; rfl)
      go_wp2_with fail
      go_ret
      exact ⟨ret_bool HN.out.symm, rfl⟩
end Go.Proofs.YtlgpoapedgodoaaDoor

/- The reference's Size: the length of the well-formed sequence at a place. -/
namespace Go.Proofs.YtlgpoapedgodoaaDoor
open Go.RowKit
set_option linter.unusedSimpArgs false

theorem size_a (s : ByteArray) (i : Nat) (h0 : 0 ≤ (s.get! i).toNat) (h1 : (s.get! i).toNat ≤ 127) : sizeAt s i = 1 := by
  unfold sizeAt sizeN
  rw [if_pos (by omega)]

set_option maxRecDepth 8000 in
set_option maxHeartbeats 2000000 in
theorem sizew_a (s : ByteArray) (i : Nat) (h : i < s.size) (hi : i ≤ 9223372036854770000) (g0 : 0 ≤ (s[i]'h).toNat) (g1 : (s[i]'h).toNat ≤ 127) (w : World) :
    Calls Tryd.prog 96 #[.string s, .int .i64 i] w fun e w' => e = .returned (.int .i64 (sizeAt s i)) ∧ w' = w := by
  have G := get_fin s i h
  rw [size_a s i (by omega) (by omega)]
  clear G
  have i0 : (0 : Int) ≤ (i : Int) := by omega
  have i1 : (i : Int) < (s.size : Int) := by omega
  have t0 : decide ((s[i].toNat : Int) < 128) = true := decide_eq_true (by omega)
  have t1 : decide (194 ≤ (s[i].toNat : Int)) = false := decide_eq_false (by omega)
  have t2 : decide ((s[i].toNat : Int) ≤ 223) = true := decide_eq_true (by omega)
  have t3 : ((s[i].toNat : Int) == 224) = false := by rw [beq_eq_false_iff_ne]; omega
  have t4 : ((s[i].toNat : Int) == 237) = false := by rw [beq_eq_false_iff_ne]; omega
  have t5 : decide (225 ≤ (s[i].toNat : Int)) = false := decide_eq_false (by omega)
  have t6 : decide ((s[i].toNat : Int) ≤ 239) = true := decide_eq_true (by omega)
  have t7 : ((s[i].toNat : Int) != 237) = true := by rw [bne_iff_ne]; omega
  have t8 : ((s[i].toNat : Int) == 240) = false := by rw [beq_eq_false_iff_ne]; omega
  have t9 : decide (241 ≤ (s[i].toNat : Int)) = false := decide_eq_false (by omega)
  have t10 : decide ((s[i].toNat : Int) ≤ 243) = true := decide_eq_true (by omega)
  have t11 : ((s[i].toNat : Int) == 244) = false := by rw [beq_eq_false_iff_ne]; omega
  go_enter Tryd.func96, Tryd.ntmps96
  go_wp2_with fail
  go_ret
  exact ⟨rfl, rfl⟩

theorem size_z1 (s : ByteArray) (i : Nat) (h0 : 128 ≤ (s.get! i).toNat) (h1 : (s.get! i).toNat ≤ 193) : sizeAt s i = 0 := by
  unfold sizeAt sizeN
  rw [if_neg (by omega), if_neg (by omega), if_neg (by omega), if_neg (by omega), if_neg (by omega), if_neg (by omega), if_neg (by omega), if_neg (by omega)]

set_option maxRecDepth 8000 in
set_option maxHeartbeats 2000000 in
theorem sizew_z1 (s : ByteArray) (i : Nat) (h : i < s.size) (hi : i ≤ 9223372036854770000) (g0 : 128 ≤ (s[i]'h).toNat) (g1 : (s[i]'h).toNat ≤ 193) (w : World) :
    Calls Tryd.prog 96 #[.string s, .int .i64 i] w fun e w' => e = .returned (.int .i64 (sizeAt s i)) ∧ w' = w := by
  have G := get_fin s i h
  rw [size_z1 s i (by omega) (by omega)]
  clear G
  have i0 : (0 : Int) ≤ (i : Int) := by omega
  have i1 : (i : Int) < (s.size : Int) := by omega
  have t0 : decide ((s[i].toNat : Int) < 128) = false := decide_eq_false (by omega)
  have t1 : decide (194 ≤ (s[i].toNat : Int)) = false := decide_eq_false (by omega)
  have t2 : decide ((s[i].toNat : Int) ≤ 223) = true := decide_eq_true (by omega)
  have t3 : ((s[i].toNat : Int) == 224) = false := by rw [beq_eq_false_iff_ne]; omega
  have t4 : ((s[i].toNat : Int) == 237) = false := by rw [beq_eq_false_iff_ne]; omega
  have t5 : decide (225 ≤ (s[i].toNat : Int)) = false := decide_eq_false (by omega)
  have t6 : decide ((s[i].toNat : Int) ≤ 239) = true := decide_eq_true (by omega)
  have t7 : ((s[i].toNat : Int) != 237) = true := by rw [bne_iff_ne]; omega
  have t8 : ((s[i].toNat : Int) == 240) = false := by rw [beq_eq_false_iff_ne]; omega
  have t9 : decide (241 ≤ (s[i].toNat : Int)) = false := decide_eq_false (by omega)
  have t10 : decide ((s[i].toNat : Int) ≤ 243) = true := decide_eq_true (by omega)
  have t11 : ((s[i].toNat : Int) == 244) = false := by rw [beq_eq_false_iff_ne]; omega
  go_enter Tryd.func96, Tryd.ntmps96
  go_wp2_with fail
  go_ret
  exact ⟨rfl, rfl⟩

theorem size_b (s : ByteArray) (i : Nat) (h0 : 194 ≤ (s.get! i).toNat) (h1 : (s.get! i).toNat ≤ 223) : sizeAt s i = if (tailB s (i + 1) 1) = true then 2 else 0 := by
  have e : ((tailB s (i + 1) 1) = true) = ((i + 1 < s.size ∧ 128 ≤ (s.get! (i + 1)).toNat ∧ (s.get! (i + 1)).toNat ≤ 191)) := by
    simp only [btwB, tailB, Bool.and_true, Bool.and_eq_true, decide_eq_true_eq, Nat.add_assoc, Nat.reduceAdd]
  unfold sizeAt sizeN
  simp only [e]
  by_cases h : (i + 1 < s.size ∧ 128 ≤ (s.get! (i + 1)).toNat ∧ (s.get! (i + 1)).toNat ≤ 191)
  · conv => rhs; rw [if_pos h]
    rw [if_neg (by omega), if_pos (by omega)]
  · conv => rhs; rw [if_neg h]
    rw [if_neg (by omega), if_neg (by omega), if_neg (by omega), if_neg (by omega), if_neg (by omega), if_neg (by omega), if_neg (by omega), if_neg (by omega)]

set_option maxRecDepth 8000 in
set_option maxHeartbeats 2000000 in
theorem sizew_b (s : ByteArray) (i : Nat) (h : i < s.size) (hi : i ≤ 9223372036854770000) (g0 : 194 ≤ (s[i]'h).toNat) (g1 : (s[i]'h).toNat ≤ 223) (w : World) :
    Calls Tryd.prog 96 #[.string s, .int .i64 i] w fun e w' => e = .returned (.int .i64 (sizeAt s i)) ∧ w' = w := by
  have G := get_fin s i h
  rw [size_b s i (by omega) (by omega)]
  clear G
  have i0 : (0 : Int) ≤ (i : Int) := by omega
  have i1 : (i : Int) < (s.size : Int) := by omega
  obtain ⟨T, HT⟩ : ∃ T, Hid (T = tailB s (i + 1) 1) := ⟨_, Lib.hid rfl⟩
  rw [← HT.out]
  have KT : Hid (∀ w : World, Calls Tryd.prog 108 #[.string s, .int .i64 (i + 1), .int .i64 1] w fun e w' => e = .returned (.bool T) ∧ w' = w) := by
    intro w; rw [HT.out]; exact tail_ok s (i + 1) 1 (by omega) (by omega) w
  have t0 : decide ((s[i].toNat : Int) < 128) = false := decide_eq_false (by omega)
  have t1 : decide (194 ≤ (s[i].toNat : Int)) = true := decide_eq_true (by omega)
  have t2 : decide ((s[i].toNat : Int) ≤ 223) = true := decide_eq_true (by omega)
  have t3 : ((s[i].toNat : Int) == 224) = false := by rw [beq_eq_false_iff_ne]; omega
  have t4 : ((s[i].toNat : Int) == 237) = false := by rw [beq_eq_false_iff_ne]; omega
  have t5 : decide (225 ≤ (s[i].toNat : Int)) = false := decide_eq_false (by omega)
  have t6 : decide ((s[i].toNat : Int) ≤ 239) = true := decide_eq_true (by omega)
  have t7 : ((s[i].toNat : Int) != 237) = true := by rw [bne_iff_ne]; omega
  have t8 : ((s[i].toNat : Int) == 240) = false := by rw [beq_eq_false_iff_ne]; omega
  have t9 : decide (241 ≤ (s[i].toNat : Int)) = false := decide_eq_false (by omega)
  have t10 : decide ((s[i].toNat : Int) ≤ 243) = true := decide_eq_true (by omega)
  have t11 : ((s[i].toNat : Int) == 244) = false := by rw [beq_eq_false_iff_ne]; omega
  cases T
  all_goals
    go_enter Tryd.func96, Tryd.ntmps96
    go_wp2_with fail
    refine calls_same (KT.out _) ?_
    go_wp2_with fail
    go_ret
    exact ⟨rfl, rfl⟩

theorem size_c (s : ByteArray) (i : Nat) (h0 : 224 ≤ (s.get! i).toNat) (h1 : (s.get! i).toNat ≤ 224) : sizeAt s i = if (btwB s (i + 1) 160 191 && tailB s (i + 2) 1) = true then 3 else 0 := by
  have e : ((btwB s (i + 1) 160 191 && tailB s (i + 2) 1) = true) = ((i + 1 < s.size ∧ 160 ≤ (s.get! (i + 1)).toNat ∧ (s.get! (i + 1)).toNat ≤ 191) ∧ (i + 2 < s.size ∧ 128 ≤ (s.get! (i + 2)).toNat ∧ (s.get! (i + 2)).toNat ≤ 191)) := by
    simp only [btwB, tailB, Bool.and_true, Bool.and_eq_true, decide_eq_true_eq, Nat.add_assoc, Nat.reduceAdd]
  unfold sizeAt sizeN
  simp only [e]
  by_cases h : (i + 1 < s.size ∧ 160 ≤ (s.get! (i + 1)).toNat ∧ (s.get! (i + 1)).toNat ≤ 191) ∧ (i + 2 < s.size ∧ 128 ≤ (s.get! (i + 2)).toNat ∧ (s.get! (i + 2)).toNat ≤ 191)
  · conv => rhs; rw [if_pos h]
    rw [if_neg (by omega), if_neg (by omega), if_pos (by omega)]
  · conv => rhs; rw [if_neg h]
    rw [if_neg (by omega), if_neg (by omega), if_neg (by omega), if_neg (by omega), if_neg (by omega), if_neg (by omega), if_neg (by omega), if_neg (by omega)]

set_option maxRecDepth 8000 in
set_option maxHeartbeats 2000000 in
theorem sizew_c (s : ByteArray) (i : Nat) (h : i < s.size) (hi : i ≤ 9223372036854770000) (g0 : 224 ≤ (s[i]'h).toNat) (g1 : (s[i]'h).toNat ≤ 224) (w : World) :
    Calls Tryd.prog 96 #[.string s, .int .i64 i] w fun e w' => e = .returned (.int .i64 (sizeAt s i)) ∧ w' = w := by
  have G := get_fin s i h
  rw [size_c s i (by omega) (by omega)]
  clear G
  have i0 : (0 : Int) ≤ (i : Int) := by omega
  have i1 : (i : Int) < (s.size : Int) := by omega
  obtain ⟨B, HB⟩ : ∃ B, Hid (B = btwB s (i + 1) 160 191) := ⟨_, Lib.hid rfl⟩
  rw [← HB.out]
  have KB : Hid (∀ w : World, Calls Tryd.prog 109 #[.string s, .int .i64 (i + 1), .int .u8 160, .int .u8 191] w fun e w' => e = .returned (.bool B) ∧ w' = w) := by
    intro w; rw [HB.out]; exact between_ok s (i + 1) 160 191 w
  obtain ⟨T, HT⟩ : ∃ T, Hid (T = tailB s (i + 2) 1) := ⟨_, Lib.hid rfl⟩
  rw [← HT.out]
  have KT : Hid (∀ w : World, Calls Tryd.prog 108 #[.string s, .int .i64 (i + 2), .int .i64 1] w fun e w' => e = .returned (.bool T) ∧ w' = w) := by
    intro w; rw [HT.out]; exact tail_ok s (i + 2) 1 (by omega) (by omega) w
  have t0 : decide ((s[i].toNat : Int) < 128) = false := decide_eq_false (by omega)
  have t1 : decide (194 ≤ (s[i].toNat : Int)) = true := decide_eq_true (by omega)
  have t2 : decide ((s[i].toNat : Int) ≤ 223) = false := decide_eq_false (by omega)
  have t3 : ((s[i].toNat : Int) == 224) = true := by rw [beq_iff_eq]; omega
  have t4 : ((s[i].toNat : Int) == 237) = false := by rw [beq_eq_false_iff_ne]; omega
  have t5 : decide (225 ≤ (s[i].toNat : Int)) = false := decide_eq_false (by omega)
  have t6 : decide ((s[i].toNat : Int) ≤ 239) = true := decide_eq_true (by omega)
  have t7 : ((s[i].toNat : Int) != 237) = true := by rw [bne_iff_ne]; omega
  have t8 : ((s[i].toNat : Int) == 240) = false := by rw [beq_eq_false_iff_ne]; omega
  have t9 : decide (241 ≤ (s[i].toNat : Int)) = false := decide_eq_false (by omega)
  have t10 : decide ((s[i].toNat : Int) ≤ 243) = true := decide_eq_true (by omega)
  have t11 : ((s[i].toNat : Int) == 244) = false := by rw [beq_eq_false_iff_ne]; omega
  cases B
  · go_enter Tryd.func96, Tryd.ntmps96
    go_wp2_with fail
    refine calls_same (KB.out _) ?_
    go_wp2_with fail
    go_ret
    exact ⟨rfl, rfl⟩
  cases T
  all_goals
    go_enter Tryd.func96, Tryd.ntmps96
    go_wp2_with fail
    refine calls_same (KB.out _) ?_
    go_wp2_with fail
    refine calls_same (KT.out _) ?_
    go_wp2_with fail
    go_ret
    exact ⟨rfl, rfl⟩

theorem size_e (s : ByteArray) (i : Nat) (h0 : 225 ≤ (s.get! i).toNat) (h1 : (s.get! i).toNat ≤ 236) : sizeAt s i = if (tailB s (i + 1) 2) = true then 3 else 0 := by
  have e : ((tailB s (i + 1) 2) = true) = ((i + 1 < s.size ∧ 128 ≤ (s.get! (i + 1)).toNat ∧ (s.get! (i + 1)).toNat ≤ 191) ∧ (i + 2 < s.size ∧ 128 ≤ (s.get! (i + 2)).toNat ∧ (s.get! (i + 2)).toNat ≤ 191)) := by
    simp only [btwB, tailB, Bool.and_true, Bool.and_eq_true, decide_eq_true_eq, Nat.add_assoc, Nat.reduceAdd]
  unfold sizeAt sizeN
  simp only [e]
  by_cases h : (i + 1 < s.size ∧ 128 ≤ (s.get! (i + 1)).toNat ∧ (s.get! (i + 1)).toNat ≤ 191) ∧ (i + 2 < s.size ∧ 128 ≤ (s.get! (i + 2)).toNat ∧ (s.get! (i + 2)).toNat ≤ 191)
  · conv => rhs; rw [if_pos h]
    rw [if_neg (by omega), if_neg (by omega), if_neg (by omega), if_neg (by omega), if_pos (by omega)]
  · conv => rhs; rw [if_neg h]
    rw [if_neg (by omega), if_neg (by omega), if_neg (by omega), if_neg (by omega), if_neg (by omega), if_neg (by omega), if_neg (by omega), if_neg (by omega)]

set_option maxRecDepth 8000 in
set_option maxHeartbeats 2000000 in
theorem sizew_e (s : ByteArray) (i : Nat) (h : i < s.size) (hi : i ≤ 9223372036854770000) (g0 : 225 ≤ (s[i]'h).toNat) (g1 : (s[i]'h).toNat ≤ 236) (w : World) :
    Calls Tryd.prog 96 #[.string s, .int .i64 i] w fun e w' => e = .returned (.int .i64 (sizeAt s i)) ∧ w' = w := by
  have G := get_fin s i h
  rw [size_e s i (by omega) (by omega)]
  clear G
  have i0 : (0 : Int) ≤ (i : Int) := by omega
  have i1 : (i : Int) < (s.size : Int) := by omega
  obtain ⟨T, HT⟩ : ∃ T, Hid (T = tailB s (i + 1) 2) := ⟨_, Lib.hid rfl⟩
  rw [← HT.out]
  have KT : Hid (∀ w : World, Calls Tryd.prog 108 #[.string s, .int .i64 (i + 1), .int .i64 2] w fun e w' => e = .returned (.bool T) ∧ w' = w) := by
    intro w; rw [HT.out]; exact tail_ok s (i + 1) 2 (by omega) (by omega) w
  have t0 : decide ((s[i].toNat : Int) < 128) = false := decide_eq_false (by omega)
  have t1 : decide (194 ≤ (s[i].toNat : Int)) = true := decide_eq_true (by omega)
  have t2 : decide ((s[i].toNat : Int) ≤ 223) = false := decide_eq_false (by omega)
  have t3 : ((s[i].toNat : Int) == 224) = false := by rw [beq_eq_false_iff_ne]; omega
  have t4 : ((s[i].toNat : Int) == 237) = false := by rw [beq_eq_false_iff_ne]; omega
  have t5 : decide (225 ≤ (s[i].toNat : Int)) = true := decide_eq_true (by omega)
  have t6 : decide ((s[i].toNat : Int) ≤ 239) = true := decide_eq_true (by omega)
  have t7 : ((s[i].toNat : Int) != 237) = true := by rw [bne_iff_ne]; omega
  have t8 : ((s[i].toNat : Int) == 240) = false := by rw [beq_eq_false_iff_ne]; omega
  have t9 : decide (241 ≤ (s[i].toNat : Int)) = false := decide_eq_false (by omega)
  have t10 : decide ((s[i].toNat : Int) ≤ 243) = true := decide_eq_true (by omega)
  have t11 : ((s[i].toNat : Int) == 244) = false := by rw [beq_eq_false_iff_ne]; omega
  cases T
  all_goals
    go_enter Tryd.func96, Tryd.ntmps96
    go_wp2_with fail
    refine calls_same (KT.out _) ?_
    go_wp2_with fail
    go_ret
    exact ⟨rfl, rfl⟩

theorem size_d (s : ByteArray) (i : Nat) (h0 : 237 ≤ (s.get! i).toNat) (h1 : (s.get! i).toNat ≤ 237) : sizeAt s i = if (btwB s (i + 1) 128 159 && tailB s (i + 2) 1) = true then 3 else 0 := by
  have e : ((btwB s (i + 1) 128 159 && tailB s (i + 2) 1) = true) = ((i + 1 < s.size ∧ 128 ≤ (s.get! (i + 1)).toNat ∧ (s.get! (i + 1)).toNat ≤ 159) ∧ (i + 2 < s.size ∧ 128 ≤ (s.get! (i + 2)).toNat ∧ (s.get! (i + 2)).toNat ≤ 191)) := by
    simp only [btwB, tailB, Bool.and_true, Bool.and_eq_true, decide_eq_true_eq, Nat.add_assoc, Nat.reduceAdd]
  unfold sizeAt sizeN
  simp only [e]
  by_cases h : (i + 1 < s.size ∧ 128 ≤ (s.get! (i + 1)).toNat ∧ (s.get! (i + 1)).toNat ≤ 159) ∧ (i + 2 < s.size ∧ 128 ≤ (s.get! (i + 2)).toNat ∧ (s.get! (i + 2)).toNat ≤ 191)
  · conv => rhs; rw [if_pos h]
    rw [if_neg (by omega), if_neg (by omega), if_neg (by omega), if_pos (by omega)]
  · conv => rhs; rw [if_neg h]
    rw [if_neg (by omega), if_neg (by omega), if_neg (by omega), if_neg (by omega), if_neg (by omega), if_neg (by omega), if_neg (by omega), if_neg (by omega)]

set_option maxRecDepth 8000 in
set_option maxHeartbeats 2000000 in
theorem sizew_d (s : ByteArray) (i : Nat) (h : i < s.size) (hi : i ≤ 9223372036854770000) (g0 : 237 ≤ (s[i]'h).toNat) (g1 : (s[i]'h).toNat ≤ 237) (w : World) :
    Calls Tryd.prog 96 #[.string s, .int .i64 i] w fun e w' => e = .returned (.int .i64 (sizeAt s i)) ∧ w' = w := by
  have G := get_fin s i h
  rw [size_d s i (by omega) (by omega)]
  clear G
  have i0 : (0 : Int) ≤ (i : Int) := by omega
  have i1 : (i : Int) < (s.size : Int) := by omega
  obtain ⟨B, HB⟩ : ∃ B, Hid (B = btwB s (i + 1) 128 159) := ⟨_, Lib.hid rfl⟩
  rw [← HB.out]
  have KB : Hid (∀ w : World, Calls Tryd.prog 109 #[.string s, .int .i64 (i + 1), .int .u8 128, .int .u8 159] w fun e w' => e = .returned (.bool B) ∧ w' = w) := by
    intro w; rw [HB.out]; exact between_ok s (i + 1) 128 159 w
  obtain ⟨T, HT⟩ : ∃ T, Hid (T = tailB s (i + 2) 1) := ⟨_, Lib.hid rfl⟩
  rw [← HT.out]
  have KT : Hid (∀ w : World, Calls Tryd.prog 108 #[.string s, .int .i64 (i + 2), .int .i64 1] w fun e w' => e = .returned (.bool T) ∧ w' = w) := by
    intro w; rw [HT.out]; exact tail_ok s (i + 2) 1 (by omega) (by omega) w
  have t0 : decide ((s[i].toNat : Int) < 128) = false := decide_eq_false (by omega)
  have t1 : decide (194 ≤ (s[i].toNat : Int)) = true := decide_eq_true (by omega)
  have t2 : decide ((s[i].toNat : Int) ≤ 223) = false := decide_eq_false (by omega)
  have t3 : ((s[i].toNat : Int) == 224) = false := by rw [beq_eq_false_iff_ne]; omega
  have t4 : ((s[i].toNat : Int) == 237) = true := by rw [beq_iff_eq]; omega
  have t5 : decide (225 ≤ (s[i].toNat : Int)) = true := decide_eq_true (by omega)
  have t6 : decide ((s[i].toNat : Int) ≤ 239) = true := decide_eq_true (by omega)
  have t7 : ((s[i].toNat : Int) != 237) = false := by rw [bne_eq_false_iff_eq]; omega
  have t8 : ((s[i].toNat : Int) == 240) = false := by rw [beq_eq_false_iff_ne]; omega
  have t9 : decide (241 ≤ (s[i].toNat : Int)) = false := decide_eq_false (by omega)
  have t10 : decide ((s[i].toNat : Int) ≤ 243) = true := decide_eq_true (by omega)
  have t11 : ((s[i].toNat : Int) == 244) = false := by rw [beq_eq_false_iff_ne]; omega
  cases B
  · go_enter Tryd.func96, Tryd.ntmps96
    go_wp2_with fail
    refine calls_same (KB.out _) ?_
    go_wp2_with fail
    go_ret
    exact ⟨rfl, rfl⟩
  cases T
  all_goals
    go_enter Tryd.func96, Tryd.ntmps96
    go_wp2_with fail
    refine calls_same (KB.out _) ?_
    go_wp2_with fail
    refine calls_same (KT.out _) ?_
    go_wp2_with fail
    go_ret
    exact ⟨rfl, rfl⟩

theorem size_e2 (s : ByteArray) (i : Nat) (h0 : 238 ≤ (s.get! i).toNat) (h1 : (s.get! i).toNat ≤ 239) : sizeAt s i = if (tailB s (i + 1) 2) = true then 3 else 0 := by
  have e : ((tailB s (i + 1) 2) = true) = ((i + 1 < s.size ∧ 128 ≤ (s.get! (i + 1)).toNat ∧ (s.get! (i + 1)).toNat ≤ 191) ∧ (i + 2 < s.size ∧ 128 ≤ (s.get! (i + 2)).toNat ∧ (s.get! (i + 2)).toNat ≤ 191)) := by
    simp only [btwB, tailB, Bool.and_true, Bool.and_eq_true, decide_eq_true_eq, Nat.add_assoc, Nat.reduceAdd]
  unfold sizeAt sizeN
  simp only [e]
  by_cases h : (i + 1 < s.size ∧ 128 ≤ (s.get! (i + 1)).toNat ∧ (s.get! (i + 1)).toNat ≤ 191) ∧ (i + 2 < s.size ∧ 128 ≤ (s.get! (i + 2)).toNat ∧ (s.get! (i + 2)).toNat ≤ 191)
  · conv => rhs; rw [if_pos h]
    rw [if_neg (by omega), if_neg (by omega), if_neg (by omega), if_neg (by omega), if_pos (by omega)]
  · conv => rhs; rw [if_neg h]
    rw [if_neg (by omega), if_neg (by omega), if_neg (by omega), if_neg (by omega), if_neg (by omega), if_neg (by omega), if_neg (by omega), if_neg (by omega)]

set_option maxRecDepth 8000 in
set_option maxHeartbeats 2000000 in
theorem sizew_e2 (s : ByteArray) (i : Nat) (h : i < s.size) (hi : i ≤ 9223372036854770000) (g0 : 238 ≤ (s[i]'h).toNat) (g1 : (s[i]'h).toNat ≤ 239) (w : World) :
    Calls Tryd.prog 96 #[.string s, .int .i64 i] w fun e w' => e = .returned (.int .i64 (sizeAt s i)) ∧ w' = w := by
  have G := get_fin s i h
  rw [size_e2 s i (by omega) (by omega)]
  clear G
  have i0 : (0 : Int) ≤ (i : Int) := by omega
  have i1 : (i : Int) < (s.size : Int) := by omega
  obtain ⟨T, HT⟩ : ∃ T, Hid (T = tailB s (i + 1) 2) := ⟨_, Lib.hid rfl⟩
  rw [← HT.out]
  have KT : Hid (∀ w : World, Calls Tryd.prog 108 #[.string s, .int .i64 (i + 1), .int .i64 2] w fun e w' => e = .returned (.bool T) ∧ w' = w) := by
    intro w; rw [HT.out]; exact tail_ok s (i + 1) 2 (by omega) (by omega) w
  have t0 : decide ((s[i].toNat : Int) < 128) = false := decide_eq_false (by omega)
  have t1 : decide (194 ≤ (s[i].toNat : Int)) = true := decide_eq_true (by omega)
  have t2 : decide ((s[i].toNat : Int) ≤ 223) = false := decide_eq_false (by omega)
  have t3 : ((s[i].toNat : Int) == 224) = false := by rw [beq_eq_false_iff_ne]; omega
  have t4 : ((s[i].toNat : Int) == 237) = false := by rw [beq_eq_false_iff_ne]; omega
  have t5 : decide (225 ≤ (s[i].toNat : Int)) = true := decide_eq_true (by omega)
  have t6 : decide ((s[i].toNat : Int) ≤ 239) = true := decide_eq_true (by omega)
  have t7 : ((s[i].toNat : Int) != 237) = true := by rw [bne_iff_ne]; omega
  have t8 : ((s[i].toNat : Int) == 240) = false := by rw [beq_eq_false_iff_ne]; omega
  have t9 : decide (241 ≤ (s[i].toNat : Int)) = false := decide_eq_false (by omega)
  have t10 : decide ((s[i].toNat : Int) ≤ 243) = true := decide_eq_true (by omega)
  have t11 : ((s[i].toNat : Int) == 244) = false := by rw [beq_eq_false_iff_ne]; omega
  cases T
  all_goals
    go_enter Tryd.func96, Tryd.ntmps96
    go_wp2_with fail
    refine calls_same (KT.out _) ?_
    go_wp2_with fail
    go_ret
    exact ⟨rfl, rfl⟩

theorem size_f (s : ByteArray) (i : Nat) (h0 : 240 ≤ (s.get! i).toNat) (h1 : (s.get! i).toNat ≤ 240) : sizeAt s i = if (btwB s (i + 1) 144 191 && tailB s (i + 2) 2) = true then 4 else 0 := by
  have e : ((btwB s (i + 1) 144 191 && tailB s (i + 2) 2) = true) = ((i + 1 < s.size ∧ 144 ≤ (s.get! (i + 1)).toNat ∧ (s.get! (i + 1)).toNat ≤ 191) ∧ (i + 2 < s.size ∧ 128 ≤ (s.get! (i + 2)).toNat ∧ (s.get! (i + 2)).toNat ≤ 191) ∧ (i + 3 < s.size ∧ 128 ≤ (s.get! (i + 3)).toNat ∧ (s.get! (i + 3)).toNat ≤ 191)) := by
    simp only [btwB, tailB, Bool.and_true, Bool.and_eq_true, decide_eq_true_eq, Nat.add_assoc, Nat.reduceAdd]
  unfold sizeAt sizeN
  simp only [e]
  by_cases h : (i + 1 < s.size ∧ 144 ≤ (s.get! (i + 1)).toNat ∧ (s.get! (i + 1)).toNat ≤ 191) ∧ (i + 2 < s.size ∧ 128 ≤ (s.get! (i + 2)).toNat ∧ (s.get! (i + 2)).toNat ≤ 191) ∧ (i + 3 < s.size ∧ 128 ≤ (s.get! (i + 3)).toNat ∧ (s.get! (i + 3)).toNat ≤ 191)
  · conv => rhs; rw [if_pos h]
    rw [if_neg (by omega), if_neg (by omega), if_neg (by omega), if_neg (by omega), if_neg (by omega), if_pos (by omega)]
  · conv => rhs; rw [if_neg h]
    rw [if_neg (by omega), if_neg (by omega), if_neg (by omega), if_neg (by omega), if_neg (by omega), if_neg (by omega), if_neg (by omega), if_neg (by omega)]

set_option maxRecDepth 8000 in
set_option maxHeartbeats 2000000 in
theorem sizew_f (s : ByteArray) (i : Nat) (h : i < s.size) (hi : i ≤ 9223372036854770000) (g0 : 240 ≤ (s[i]'h).toNat) (g1 : (s[i]'h).toNat ≤ 240) (w : World) :
    Calls Tryd.prog 96 #[.string s, .int .i64 i] w fun e w' => e = .returned (.int .i64 (sizeAt s i)) ∧ w' = w := by
  have G := get_fin s i h
  rw [size_f s i (by omega) (by omega)]
  clear G
  have i0 : (0 : Int) ≤ (i : Int) := by omega
  have i1 : (i : Int) < (s.size : Int) := by omega
  obtain ⟨B, HB⟩ : ∃ B, Hid (B = btwB s (i + 1) 144 191) := ⟨_, Lib.hid rfl⟩
  rw [← HB.out]
  have KB : Hid (∀ w : World, Calls Tryd.prog 109 #[.string s, .int .i64 (i + 1), .int .u8 144, .int .u8 191] w fun e w' => e = .returned (.bool B) ∧ w' = w) := by
    intro w; rw [HB.out]; exact between_ok s (i + 1) 144 191 w
  obtain ⟨T, HT⟩ : ∃ T, Hid (T = tailB s (i + 2) 2) := ⟨_, Lib.hid rfl⟩
  rw [← HT.out]
  have KT : Hid (∀ w : World, Calls Tryd.prog 108 #[.string s, .int .i64 (i + 2), .int .i64 2] w fun e w' => e = .returned (.bool T) ∧ w' = w) := by
    intro w; rw [HT.out]; exact tail_ok s (i + 2) 2 (by omega) (by omega) w
  have t0 : decide ((s[i].toNat : Int) < 128) = false := decide_eq_false (by omega)
  have t1 : decide (194 ≤ (s[i].toNat : Int)) = true := decide_eq_true (by omega)
  have t2 : decide ((s[i].toNat : Int) ≤ 223) = false := decide_eq_false (by omega)
  have t3 : ((s[i].toNat : Int) == 224) = false := by rw [beq_eq_false_iff_ne]; omega
  have t4 : ((s[i].toNat : Int) == 237) = false := by rw [beq_eq_false_iff_ne]; omega
  have t5 : decide (225 ≤ (s[i].toNat : Int)) = true := decide_eq_true (by omega)
  have t6 : decide ((s[i].toNat : Int) ≤ 239) = false := decide_eq_false (by omega)
  have t7 : ((s[i].toNat : Int) != 237) = true := by rw [bne_iff_ne]; omega
  have t8 : ((s[i].toNat : Int) == 240) = true := by rw [beq_iff_eq]; omega
  have t9 : decide (241 ≤ (s[i].toNat : Int)) = false := decide_eq_false (by omega)
  have t10 : decide ((s[i].toNat : Int) ≤ 243) = true := decide_eq_true (by omega)
  have t11 : ((s[i].toNat : Int) == 244) = false := by rw [beq_eq_false_iff_ne]; omega
  cases B
  · go_enter Tryd.func96, Tryd.ntmps96
    go_wp2_with fail
    refine calls_same (KB.out _) ?_
    go_wp2_with fail
    go_ret
    exact ⟨rfl, rfl⟩
  cases T
  all_goals
    go_enter Tryd.func96, Tryd.ntmps96
    go_wp2_with fail
    refine calls_same (KB.out _) ?_
    go_wp2_with fail
    refine calls_same (KT.out _) ?_
    go_wp2_with fail
    go_ret
    exact ⟨rfl, rfl⟩

theorem size_g (s : ByteArray) (i : Nat) (h0 : 241 ≤ (s.get! i).toNat) (h1 : (s.get! i).toNat ≤ 243) : sizeAt s i = if (tailB s (i + 1) 3) = true then 4 else 0 := by
  have e : ((tailB s (i + 1) 3) = true) = ((i + 1 < s.size ∧ 128 ≤ (s.get! (i + 1)).toNat ∧ (s.get! (i + 1)).toNat ≤ 191) ∧ (i + 2 < s.size ∧ 128 ≤ (s.get! (i + 2)).toNat ∧ (s.get! (i + 2)).toNat ≤ 191) ∧ (i + 3 < s.size ∧ 128 ≤ (s.get! (i + 3)).toNat ∧ (s.get! (i + 3)).toNat ≤ 191)) := by
    simp only [btwB, tailB, Bool.and_true, Bool.and_eq_true, decide_eq_true_eq, Nat.add_assoc, Nat.reduceAdd]
  unfold sizeAt sizeN
  simp only [e]
  by_cases h : (i + 1 < s.size ∧ 128 ≤ (s.get! (i + 1)).toNat ∧ (s.get! (i + 1)).toNat ≤ 191) ∧ (i + 2 < s.size ∧ 128 ≤ (s.get! (i + 2)).toNat ∧ (s.get! (i + 2)).toNat ≤ 191) ∧ (i + 3 < s.size ∧ 128 ≤ (s.get! (i + 3)).toNat ∧ (s.get! (i + 3)).toNat ≤ 191)
  · conv => rhs; rw [if_pos h]
    rw [if_neg (by omega), if_neg (by omega), if_neg (by omega), if_neg (by omega), if_neg (by omega), if_neg (by omega), if_pos (by omega)]
  · conv => rhs; rw [if_neg h]
    rw [if_neg (by omega), if_neg (by omega), if_neg (by omega), if_neg (by omega), if_neg (by omega), if_neg (by omega), if_neg (by omega), if_neg (by omega)]

set_option maxRecDepth 8000 in
set_option maxHeartbeats 2000000 in
theorem sizew_g (s : ByteArray) (i : Nat) (h : i < s.size) (hi : i ≤ 9223372036854770000) (g0 : 241 ≤ (s[i]'h).toNat) (g1 : (s[i]'h).toNat ≤ 243) (w : World) :
    Calls Tryd.prog 96 #[.string s, .int .i64 i] w fun e w' => e = .returned (.int .i64 (sizeAt s i)) ∧ w' = w := by
  have G := get_fin s i h
  rw [size_g s i (by omega) (by omega)]
  clear G
  have i0 : (0 : Int) ≤ (i : Int) := by omega
  have i1 : (i : Int) < (s.size : Int) := by omega
  obtain ⟨T, HT⟩ : ∃ T, Hid (T = tailB s (i + 1) 3) := ⟨_, Lib.hid rfl⟩
  rw [← HT.out]
  have KT : Hid (∀ w : World, Calls Tryd.prog 108 #[.string s, .int .i64 (i + 1), .int .i64 3] w fun e w' => e = .returned (.bool T) ∧ w' = w) := by
    intro w; rw [HT.out]; exact tail_ok s (i + 1) 3 (by omega) (by omega) w
  have t0 : decide ((s[i].toNat : Int) < 128) = false := decide_eq_false (by omega)
  have t1 : decide (194 ≤ (s[i].toNat : Int)) = true := decide_eq_true (by omega)
  have t2 : decide ((s[i].toNat : Int) ≤ 223) = false := decide_eq_false (by omega)
  have t3 : ((s[i].toNat : Int) == 224) = false := by rw [beq_eq_false_iff_ne]; omega
  have t4 : ((s[i].toNat : Int) == 237) = false := by rw [beq_eq_false_iff_ne]; omega
  have t5 : decide (225 ≤ (s[i].toNat : Int)) = true := decide_eq_true (by omega)
  have t6 : decide ((s[i].toNat : Int) ≤ 239) = false := decide_eq_false (by omega)
  have t7 : ((s[i].toNat : Int) != 237) = true := by rw [bne_iff_ne]; omega
  have t8 : ((s[i].toNat : Int) == 240) = false := by rw [beq_eq_false_iff_ne]; omega
  have t9 : decide (241 ≤ (s[i].toNat : Int)) = true := decide_eq_true (by omega)
  have t10 : decide ((s[i].toNat : Int) ≤ 243) = true := decide_eq_true (by omega)
  have t11 : ((s[i].toNat : Int) == 244) = false := by rw [beq_eq_false_iff_ne]; omega
  cases T
  all_goals
    go_enter Tryd.func96, Tryd.ntmps96
    go_wp2_with fail
    refine calls_same (KT.out _) ?_
    go_wp2_with fail
    go_ret
    exact ⟨rfl, rfl⟩

theorem size_h (s : ByteArray) (i : Nat) (h0 : 244 ≤ (s.get! i).toNat) (h1 : (s.get! i).toNat ≤ 244) : sizeAt s i = if (btwB s (i + 1) 128 143 && tailB s (i + 2) 2) = true then 4 else 0 := by
  have e : ((btwB s (i + 1) 128 143 && tailB s (i + 2) 2) = true) = ((i + 1 < s.size ∧ 128 ≤ (s.get! (i + 1)).toNat ∧ (s.get! (i + 1)).toNat ≤ 143) ∧ (i + 2 < s.size ∧ 128 ≤ (s.get! (i + 2)).toNat ∧ (s.get! (i + 2)).toNat ≤ 191) ∧ (i + 3 < s.size ∧ 128 ≤ (s.get! (i + 3)).toNat ∧ (s.get! (i + 3)).toNat ≤ 191)) := by
    simp only [btwB, tailB, Bool.and_true, Bool.and_eq_true, decide_eq_true_eq, Nat.add_assoc, Nat.reduceAdd]
  unfold sizeAt sizeN
  simp only [e]
  by_cases h : (i + 1 < s.size ∧ 128 ≤ (s.get! (i + 1)).toNat ∧ (s.get! (i + 1)).toNat ≤ 143) ∧ (i + 2 < s.size ∧ 128 ≤ (s.get! (i + 2)).toNat ∧ (s.get! (i + 2)).toNat ≤ 191) ∧ (i + 3 < s.size ∧ 128 ≤ (s.get! (i + 3)).toNat ∧ (s.get! (i + 3)).toNat ≤ 191)
  · conv => rhs; rw [if_pos h]
    rw [if_neg (by omega), if_neg (by omega), if_neg (by omega), if_neg (by omega), if_neg (by omega), if_neg (by omega), if_neg (by omega), if_pos (by omega)]
  · conv => rhs; rw [if_neg h]
    rw [if_neg (by omega), if_neg (by omega), if_neg (by omega), if_neg (by omega), if_neg (by omega), if_neg (by omega), if_neg (by omega), if_neg (by omega)]

set_option maxRecDepth 8000 in
set_option maxHeartbeats 2000000 in
theorem sizew_h (s : ByteArray) (i : Nat) (h : i < s.size) (hi : i ≤ 9223372036854770000) (g0 : 244 ≤ (s[i]'h).toNat) (g1 : (s[i]'h).toNat ≤ 244) (w : World) :
    Calls Tryd.prog 96 #[.string s, .int .i64 i] w fun e w' => e = .returned (.int .i64 (sizeAt s i)) ∧ w' = w := by
  have G := get_fin s i h
  rw [size_h s i (by omega) (by omega)]
  clear G
  have i0 : (0 : Int) ≤ (i : Int) := by omega
  have i1 : (i : Int) < (s.size : Int) := by omega
  obtain ⟨B, HB⟩ : ∃ B, Hid (B = btwB s (i + 1) 128 143) := ⟨_, Lib.hid rfl⟩
  rw [← HB.out]
  have KB : Hid (∀ w : World, Calls Tryd.prog 109 #[.string s, .int .i64 (i + 1), .int .u8 128, .int .u8 143] w fun e w' => e = .returned (.bool B) ∧ w' = w) := by
    intro w; rw [HB.out]; exact between_ok s (i + 1) 128 143 w
  obtain ⟨T, HT⟩ : ∃ T, Hid (T = tailB s (i + 2) 2) := ⟨_, Lib.hid rfl⟩
  rw [← HT.out]
  have KT : Hid (∀ w : World, Calls Tryd.prog 108 #[.string s, .int .i64 (i + 2), .int .i64 2] w fun e w' => e = .returned (.bool T) ∧ w' = w) := by
    intro w; rw [HT.out]; exact tail_ok s (i + 2) 2 (by omega) (by omega) w
  have t0 : decide ((s[i].toNat : Int) < 128) = false := decide_eq_false (by omega)
  have t1 : decide (194 ≤ (s[i].toNat : Int)) = true := decide_eq_true (by omega)
  have t2 : decide ((s[i].toNat : Int) ≤ 223) = false := decide_eq_false (by omega)
  have t3 : ((s[i].toNat : Int) == 224) = false := by rw [beq_eq_false_iff_ne]; omega
  have t4 : ((s[i].toNat : Int) == 237) = false := by rw [beq_eq_false_iff_ne]; omega
  have t5 : decide (225 ≤ (s[i].toNat : Int)) = true := decide_eq_true (by omega)
  have t6 : decide ((s[i].toNat : Int) ≤ 239) = false := decide_eq_false (by omega)
  have t7 : ((s[i].toNat : Int) != 237) = true := by rw [bne_iff_ne]; omega
  have t8 : ((s[i].toNat : Int) == 240) = false := by rw [beq_eq_false_iff_ne]; omega
  have t9 : decide (241 ≤ (s[i].toNat : Int)) = true := decide_eq_true (by omega)
  have t10 : decide ((s[i].toNat : Int) ≤ 243) = false := decide_eq_false (by omega)
  have t11 : ((s[i].toNat : Int) == 244) = true := by rw [beq_iff_eq]; omega
  cases B
  · go_enter Tryd.func96, Tryd.ntmps96
    go_wp2_with fail
    refine calls_same (KB.out _) ?_
    go_wp2_with fail
    go_ret
    exact ⟨rfl, rfl⟩
  cases T
  all_goals
    go_enter Tryd.func96, Tryd.ntmps96
    go_wp2_with fail
    refine calls_same (KB.out _) ?_
    go_wp2_with fail
    refine calls_same (KT.out _) ?_
    go_wp2_with fail
    go_ret
    exact ⟨rfl, rfl⟩

theorem size_z2 (s : ByteArray) (i : Nat) (h0 : 245 ≤ (s.get! i).toNat) (h1 : (s.get! i).toNat ≤ 255) : sizeAt s i = 0 := by
  unfold sizeAt sizeN
  rw [if_neg (by omega), if_neg (by omega), if_neg (by omega), if_neg (by omega), if_neg (by omega), if_neg (by omega), if_neg (by omega), if_neg (by omega)]

set_option maxRecDepth 8000 in
set_option maxHeartbeats 2000000 in
theorem sizew_z2 (s : ByteArray) (i : Nat) (h : i < s.size) (hi : i ≤ 9223372036854770000) (g0 : 245 ≤ (s[i]'h).toNat) (g1 : (s[i]'h).toNat ≤ 255) (w : World) :
    Calls Tryd.prog 96 #[.string s, .int .i64 i] w fun e w' => e = .returned (.int .i64 (sizeAt s i)) ∧ w' = w := by
  have G := get_fin s i h
  rw [size_z2 s i (by omega) (by omega)]
  clear G
  have i0 : (0 : Int) ≤ (i : Int) := by omega
  have i1 : (i : Int) < (s.size : Int) := by omega
  have t0 : decide ((s[i].toNat : Int) < 128) = false := decide_eq_false (by omega)
  have t1 : decide (194 ≤ (s[i].toNat : Int)) = true := decide_eq_true (by omega)
  have t2 : decide ((s[i].toNat : Int) ≤ 223) = false := decide_eq_false (by omega)
  have t3 : ((s[i].toNat : Int) == 224) = false := by rw [beq_eq_false_iff_ne]; omega
  have t4 : ((s[i].toNat : Int) == 237) = false := by rw [beq_eq_false_iff_ne]; omega
  have t5 : decide (225 ≤ (s[i].toNat : Int)) = true := decide_eq_true (by omega)
  have t6 : decide ((s[i].toNat : Int) ≤ 239) = false := decide_eq_false (by omega)
  have t7 : ((s[i].toNat : Int) != 237) = true := by rw [bne_iff_ne]; omega
  have t8 : ((s[i].toNat : Int) == 240) = false := by rw [beq_eq_false_iff_ne]; omega
  have t9 : decide (241 ≤ (s[i].toNat : Int)) = true := decide_eq_true (by omega)
  have t10 : decide ((s[i].toNat : Int) ≤ 243) = false := decide_eq_false (by omega)
  have t11 : ((s[i].toNat : Int) == 244) = false := by rw [beq_eq_false_iff_ne]; omega
  go_enter Tryd.func96, Tryd.ntmps96
  go_wp2_with fail
  go_ret
  exact ⟨rfl, rfl⟩

theorem size_ok (s : ByteArray) (i : Nat) (h : i < s.size) (hi : i ≤ 9223372036854770000) (w : World) :
    Calls Tryd.prog 96 #[.string s, .int .i64 i] w fun e w' => e = .returned (.int .i64 (sizeAt s i)) ∧ w' = w := by
  have hb : (s[i]'h).toNat < 256 := UInt8.toNat_lt _
  by_cases ca : (s[i]'h).toNat ≤ 127
  · exact sizew_a s i h hi (by omega) ca w
  by_cases cz1 : (s[i]'h).toNat ≤ 193
  · exact sizew_z1 s i h hi (by omega) cz1 w
  by_cases cb : (s[i]'h).toNat ≤ 223
  · exact sizew_b s i h hi (by omega) cb w
  by_cases cc : (s[i]'h).toNat ≤ 224
  · exact sizew_c s i h hi (by omega) cc w
  by_cases ce : (s[i]'h).toNat ≤ 236
  · exact sizew_e s i h hi (by omega) ce w
  by_cases cd : (s[i]'h).toNat ≤ 237
  · exact sizew_d s i h hi (by omega) cd w
  by_cases ce2 : (s[i]'h).toNat ≤ 239
  · exact sizew_e2 s i h hi (by omega) ce2 w
  by_cases cf : (s[i]'h).toNat ≤ 240
  · exact sizew_f s i h hi (by omega) cf w
  by_cases cg : (s[i]'h).toNat ≤ 243
  · exact sizew_g s i h hi (by omega) cg w
  by_cases ch : (s[i]'h).toNat ≤ 244
  · exact sizew_h s i h hi (by omega) ch w
  · exact sizew_z2 s i h hi (by omega) (by omega) w
end Go.Proofs.YtlgpoapedgodoaaDoor

/- The reference's Bad and Valid. -/
namespace Go.Proofs.YtlgpoapedgodoaaDoor
open Go.RowKit

set_option maxHeartbeats 1000000 in
theorem rbad_ok (s : ByteArray) (hs : s.size ≤ 9223372036854770000) (w : World) :
    Calls Tryd.prog 83 #[.string s] w fun e w' => e = .returned (.int .i64 (badZ s)) ∧ w' = w := by
  obtain ⟨R, HR⟩ : ∃ R, Hid (R = badZ s) := ⟨_, Lib.hid rfl⟩
  rw [← HR.out]
  go_enter Tryd.func83, Tryd.ntmps83
  go_wp2_with fail
  go_loop [3, 4] (fun t _ => ∃ p : Nat, p ≤ s.size ∧ t = .int .i64 p ∧ Hid (R = badAt s p)) (fun t _ => s.size - (intOf t).toNat)
  case atStart => exact ⟨0, Nat.zero_le _, rfl, HR⟩
  case round =>
    obtain ⟨p, hp, rfl, HP⟩ := hrel
    by_cases hlt : p < s.size
    · obtain ⟨D, HD⟩ : ∃ D, Hid (D = sizeAt s p) := ⟨_, Lib.hid rfl⟩
      have hle := sizeAt_le s p hlt
      rw [← HD.out] at hle
      have KS : Hid (∀ w : World, Calls Tryd.prog 96 #[.string s, .int .i64 p] w fun e w' => e = .returned (.int .i64 D) ∧ w' = w) := by
        intro w
        rw [HD.out]
        exact size_ok s p hlt (by omega) w
      by_cases h0 : D = 0
      · subst h0
        have HN : Hid (R = p) := Lib.hid (by rw [HP.out, badAt_bad s p hlt HD.out.symm])
        go_wp2_with fail
        refine calls_same (KS.out _) ?_
        go_wp2_with fail
        go_ret
        exact ⟨ret_int HN.out.symm, rfl⟩
      · have HN : Hid (R = badAt s (p + D)) := Lib.hid (by rw [HP.out, badAt_on s p hlt (by rw [← HD.out]; exact h0), ← HD.out])
        have hz : ((D : Int) == 0) = false := by rw [beq_eq_false_iff_ne]; omega
        have hpos : 0 < D := by omega
        clear h0
        go_wp2_with fail
        refine calls_same (KS.out _) ?_
        go_wp2_with fail
        go_round
        case rel => exact ⟨p + D, by omega, by go_num, HN⟩
        case measure => simp [intOf]; omega
    · have HN : Hid (R = -1) := Lib.hid (by rw [HP.out, badAt_end s p (by omega)])
      go_wp2_with fail
      go_ret
      exact ⟨ret_int HN.out.symm, rfl⟩

set_option maxHeartbeats 1000000 in
theorem rvalid_ok (s : ByteArray) (hs : s.size ≤ 9223372036854770000) (w : World) :
    Calls Tryd.prog 63 #[.string s] w fun e w' => e = .returned (.bool (validB s)) ∧ w' = w := by
  obtain ⟨R, HR⟩ : ∃ R, Hid (R = validB s) := ⟨_, Lib.hid rfl⟩
  rw [← HR.out]
  go_enter Tryd.func63, Tryd.ntmps63
  go_wp2_with fail
  refine calls_same (rbad_ok s hs _) ?_
  go_wp2_with fail
  go_ret
  exact ⟨by rw [HR.out]; rfl, rfl⟩
end Go.Proofs.YtlgpoapedgodoaaDoor

/- Cmp of doubles. -/
namespace Go.Proofs.YtlgpoapedgodoaaDoor
open Go.RowKit

theorem below_drewN {B : Nat} {a w : World} (h : Below B a w) (n : Nat) : Below B a (w.drewN n) := ⟨h.os, h.tape, h.output, h.size, h.block⟩

set_option maxRecDepth 4000 in
set_option maxHeartbeats 1000000 in
theorem scal_d (z z' : Int) (t t' : ByteArray) (l p s r l' p' s' r' : Value) (HZ : Hid (word z ∧ word z')) (w : World) :
    Calls Tryd.prog 36 #[.agg #[.int .i64 6, .int .u64 z, .string t, l, p, s, r], .agg #[.int .i64 6, .int .u64 z', .string t', l', p', s', r']] w
      fun e w' => e = .returned (.int .i64 (cmpI (placeZ z) (placeZ z'))) ∧ Below w.heap.size w w' := by
  obtain ⟨R, HR⟩ : ∃ R : Int, Hid (R = cmpI (placeZ z) (placeZ z')) := ⟨_, Lib.hid rfl⟩
  rw [← HR.out]
  go_enter Tryd.func36, Tryd.ntmps36
  go_wp2_with fail
  refine (is_ok _ _).mono ?_
  rintro e w1 ⟨rfl, rfl⟩
  rw [show decide ((1:Int) ≤ 6 ∧ (6:Int) ≤ 9) = true by decide]
  go_wp2_with fail
  refine (texty_ok _ _).mono ?_
  rintro e w1 ⟨rfl, rfl⟩
  rw [show decide ((6:Int) = 7 ∨ (6:Int) = 8) = false by decide]
  go_wp2_with fail
  go_big_quiet (first | (go_at_call 76; with_reducible exact Calls.quiet_of_same (place_ok z HZ.out.1 _)) | (go_at_call 76; with_reducible exact Calls.quiet_of_same (place_ok z' HZ.out.2 _)) | (go_at_call 75; with_reducible exact Calls.quiet_of_same (cmpU_ok (placeZ z) (placeZ z') _)))
  go_wp2_with fail
  go_ret
  refine ⟨?_, below_drewN (by go_grown) _⟩
  try rw [HR.out]
  try rfl

end Go.Proofs.YtlgpoapedgodoaaDoor

/- Cmp of scalars: one contract. -/
namespace Go.Proofs.YtlgpoapedgodoaaDoor
open Go.RowKit

theorem scal_eq (k z k' z' : Int) (t t' : ByteArray) (l p s r l' p' s' r' : Value) (hz : word z) (hz' : word z') (w : World) :
    Calls Tryd.prog 36 #[.agg #[.int .i64 k, .int .u64 z, .string t, l, p, s, r], .agg #[.int .i64 k', .int .u64 z', .string t', l', p', s', r']] w
      fun e w' => e = .returned (.int .i64 (scalF k z t k' z' t')) ∧ Below w.heap.size w w' := by
  by_cases hk : k = k'
  · subst hk
    rw [show scalF k z t k z' t' = scalC k z t z' t' by simp [scalF]]
    by_cases h1 : 1 ≤ k ∧ k ≤ 9
    · by_cases h2 : k = 7 ∨ k = 8
      · rw [show scalC k z t z' t' = cmpT t t' by simp [scalC, h1, h2]]
        exact scal_text k z z' t t' l p s r l' p' s' r' (decide_eq_true h1) (decide_eq_true h2) w
      · by_cases h3 : k = 2
        · subst h3; exact scal_s2 z z' t t' l p s r l' p' s' r' w
        · by_cases h4 : k = 3
          · subst h4; exact scal_s3 z z' t t' l p s r l' p' s' r' w
          · by_cases h6 : k = 6
            · subst h6; exact scal_d z z' t t' l p s r l' p' s' r' (Lib.hid ⟨hz, hz'⟩) w
            · rw [show scalC k z t z' t' = cmpI z z' by simp [scalC, h1, h2, h3, h4, h6]]
              exact scal_bits k z z' t t' l p s r l' p' s' r' (decide_eq_true h1) (decide_eq_false h2) (by simp [h3]) (by simp [h4]) (by simp [h6]) w
    · rw [show scalC k z t z' t' = 0 by simp [scalC, h1]]
      exact scal_not k z z' t t' l p s r l' p' s' r' (decide_eq_false h1) w
  · rw [show scalF k z t k' z' t' = cmpI k k' by simp [scalF, hk]]
    exact scal_ne k z k' z' t t' l p s r l' p' s' r' (by simp [hk]) w
end Go.Proofs.YtlgpoapedgodoaaDoor

/- scalar.lean, scalar.within; the reference's lone. -/
namespace Go.Proofs.YtlgpoapedgodoaaDoor
open Go.RowKit

/-- No parts. -/
def noneB (l1 l2 l3 l4 : Nat) : Bool := decide (l1 = 0 ∧ l2 = 0 ∧ l3 = 0 ∧ l4 = 0)
/-- Whether the bits fit a kind of numbers. -/
def withinB (k z : Int) : Bool :=
  if k = 1 then decide (z ≤ 1) else if k = 2 then decide (-2147483648 ≤ wrap64 z ∧ wrap64 z ≤ 2147483647)
  else if k = 9 then decide (z ≤ 2147483647) else if k = 4 then decide (z ≤ 4294967295) else true
/-- Only the field of its kind. -/
def leanB (k z : Int) (t : ByteArray) (e : Bool) : Bool := e && (if k = 7 ∨ k = 8 then decide (z = 0) else decide (t.size = 0))

theorem empty_toList (t : ByteArray) : t.toList.isEmpty = decide (t.size = 0) := by
  rw [Bool.eq_iff_iff, List.isEmpty_iff, decide_eq_true_iff]
  have : t.toList = t.data.toList := Lib.toList_data t
  rw [this]
  constructor
  · intro h
    have := congrArg List.length h
    simpa using this
  · intro h
    exact List.length_eq_zero_iff.1 (by simpa using h)

set_option maxRecDepth 4000 in
set_option maxHeartbeats 1000000 in
theorem lean_ok (k z : Int) (t : ByteArray) (l1 l2 l3 l4 c1 c2 c3 c4 : Nat) (d1 d2 d3 d4 : Option Addr) (h1 : l1 ≤ 140737488351232) (h2 : l2 ≤ 140737488351232) (h3 : l3 ≤ 140737488351232) (h4 : l4 ≤ 140737488351232) (w : World) :
    Calls Tryd.prog 46 #[.agg #[.int .i64 k, .int .u64 z, .string t, .slice d1 l1 c1, .slice d2 l2 c2, .slice d3 l3 c3, .slice d4 l4 c4]] w
      fun e w' => e = .returned (.bool (leanB k z t (noneB l1 l2 l3 l4))) ∧ Below w.heap.size w w' := by
  obtain ⟨R, HR⟩ : ∃ R, Hid (R = leanB k z t (noneB l1 l2 l3 l4)) := ⟨_, Lib.hid rfl⟩
  rw [← HR.out]
  by_cases hz : l1 + l2 + l3 + l4 = 0
  · have n1 : decide ((0 : Int) < (l1 : Int) + (l2 : Int) + (l3 : Int) + (l4 : Int)) = false := decide_eq_false (by omega)
    have n2 : decide (0 < l1 + l2 + l3 + l4) = false := decide_eq_false (by omega)
    have HE : Hid (noneB l1 l2 l3 l4 = true) := Lib.hid (decide_eq_true ⟨by omega, by omega, by omega, by omega⟩)
    have HZ := Lib.hid hz
    clear hz
    by_cases hk : k = 7 ∨ k = 8
    · have KT : Hid (∀ w : World, Calls Tryd.prog 73 #[.int .i64 k] w fun e w' => e = .returned (.bool true) ∧ w' = w) := by
        intro w; rw [show true = decide (k = 7 ∨ k = 8) from (decide_eq_true hk).symm]; exact texty_ok k w
      have HK := Lib.hid hk
      clear hk
      go_enter Tryd.func46, Tryd.ntmps46
      go_wp2_with fail
      refine calls_same (KT.out _) ?_
      go_wp2_with fail
      go_ret
      refine ⟨ret_bool ?_, by go_grown⟩
      rw [HR.out]; unfold leanB; rw [HE.out, if_pos HK.out]; simp; rfl
    · have KT : Hid (∀ w : World, Calls Tryd.prog 73 #[.int .i64 k] w fun e w' => e = .returned (.bool false) ∧ w' = w) := by
        intro w; rw [show false = decide (k = 7 ∨ k = 8) from (decide_eq_false hk).symm]; exact texty_ok k w
      have HK := Lib.hid hk
      clear hk
      obtain ⟨E, HE2⟩ : ∃ E, Hid (E = decide (t.size = 0)) := ⟨_, Lib.hid rfl⟩
      have hemp : t.toList.isEmpty = E := by rw [HE2.out]; exact empty_toList t
      go_enter Tryd.func46, Tryd.ntmps46
      go_wp2_with fail
      refine calls_same (KT.out _) ?_
      go_wp2_with fail
      go_ret
      refine ⟨ret_bool ?_, by go_grown⟩
      rw [HR.out]; unfold leanB; rw [HE.out, if_neg HK.out, ← HE2.out]; rfl
  · have n1 : decide ((0 : Int) < (l1 : Int) + (l2 : Int) + (l3 : Int) + (l4 : Int)) = true := decide_eq_true (by omega)
    have n2 : decide (0 < l1 + l2 + l3 + l4) = true := decide_eq_true (by omega)
    have HE : Hid (noneB l1 l2 l3 l4 = false) := Lib.hid (decide_eq_false (fun x => hz (by omega)))
    clear hz
    go_enter Tryd.func46, Tryd.ntmps46
    go_wp2_with fail
    go_ret
    refine ⟨ret_bool ?_, by go_grown⟩
    rw [HR.out]; unfold leanB; rw [HE.out]; rfl
end Go.Proofs.YtlgpoapedgodoaaDoor
