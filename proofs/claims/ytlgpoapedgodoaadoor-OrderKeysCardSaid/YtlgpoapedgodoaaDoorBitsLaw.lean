/- Bits of an IEEE number, as sums. -/
import Derived.Laws.MathBits
import Derived.Laws.BitsAllLaws
import Derived.Laws.Bits64b
import Derived.Laws.Bits64
namespace Go.Proofs.YtlgpoapedgodoaaDoor

theorem n_mant (a : Nat) : a &&& 4503599627370495 = a % 4503599627370496 := by
  have := Nat.and_two_pow_sub_one_eq_mod a 52
  simpa using this

theorem n_top (a : Nat) (h : a < 18446744073709551616) : a &&& 9223372036854775808 = a / 9223372036854775808 * 9223372036854775808 := by
  apply Nat.eq_of_testBit_eq
  intro i
  have e : (9223372036854775808 : Nat) = 2 ^ 63 := by decide
  rw [e, Nat.testBit_and, Nat.testBit_two_pow, Nat.testBit_mul_two_pow, Nat.testBit_div_two_pow]
  by_cases h2 : 63 ≤ i
  · rw [show i - 63 + 63 = i by omega]
    by_cases h1 : 63 = i
    · subst h1; simp
    · have h3 : 64 ≤ i := by omega
      have : a.testBit i = false := Nat.testBit_lt_two_pow (Nat.lt_of_lt_of_le h (by rw [show (18446744073709551616:Nat) = 2^64 by decide]; exact Nat.pow_le_pow_right (by decide) h3))
      simp [this]
  · have h1 : ¬ 63 = i := by omega
    simp [h1, h2]

theorem n_exp (a : Nat) : a &&& 9218868437227405312 = a % 9223372036854775808 / 4503599627370496 * 4503599627370496 := by
  apply Nat.eq_of_testBit_eq
  intro i
  have e : (9223372036854775808 : Nat) = 2 ^ 63 := by decide
  have e2 : (4503599627370496 : Nat) = 2 ^ 52 := by decide
  have e3 : (9218868437227405312 : Nat) = (2^11 - 1) * 2 ^ 52 := by decide
  rw [e3, e, e2, Nat.testBit_and, Nat.testBit_mul_two_pow, Nat.testBit_mul_two_pow, Nat.testBit_two_pow_sub_one, Nat.testBit_div_two_pow, Nat.testBit_mod_two_pow]
  by_cases h2 : 52 ≤ i
  · rw [show i - 52 + 52 = i by omega]
    by_cases h3 : i < 63
    · have : i - 52 < 11 := by omega
      simp [h2, h3, this]
    · have : ¬ i - 52 < 11 := by omega
      simp [h3, this]
  · simp [h2]

theorem n_or (a : Nat) (h : a < 9223372036854775808) : a ||| 9223372036854775808 = a + 9223372036854775808 := by
  have e : (9223372036854775808 : Nat) = 2 ^ 63 * 1 := by decide
  have := Nat.two_pow_add_eq_or_of_lt (i := 63) (b := a) (by simpa using h) 1
  rw [Nat.or_comm, Nat.add_comm, e]; exact this.symm

theorem u_mant (a : Int) (h0 : 0 ≤ a) (h1 : a < 18446744073709551616) : bits .and .u64 a 4503599627370495 = a % 4503599627370496 := by
  obtain ⟨n, rfl⟩ : ∃ n : Nat, a = n := ⟨a.toNat, by omega⟩
  have h := bits_and_u64_nat n 4503599627370495 (by omega) (by decide)
  rw [n_mant] at h
  exact h

theorem u_exp (a : Int) (h0 : 0 ≤ a) (h1 : a < 18446744073709551616) :
    bits .and .u64 a 9218868437227405312 = a % 9223372036854775808 / 4503599627370496 * 4503599627370496 := by
  obtain ⟨n, rfl⟩ : ∃ n : Nat, a = n := ⟨a.toNat, by omega⟩
  have h := bits_and_u64_nat n 9218868437227405312 (by omega) (by decide)
  rw [n_exp] at h
  exact h

theorem u_top (a : Int) (h0 : 0 ≤ a) (h1 : a < 18446744073709551616) :
    bits .and .u64 a 9223372036854775808 = a / 9223372036854775808 * 9223372036854775808 := by
  obtain ⟨n, rfl⟩ : ∃ n : Nat, a = n := ⟨a.toNat, by omega⟩
  have h := bits_and_u64_nat n 9223372036854775808 (by omega) (by decide)
  rw [n_top _ (by omega)] at h
  exact h

theorem u_or (a : Int) (h0 : 0 ≤ a) (h1 : a < 9223372036854775808) :
    bits .or .u64 a 9223372036854775808 = a + 9223372036854775808 := by
  obtain ⟨n, rfl⟩ : ∃ n : Nat, a = n := ⟨a.toNat, by omega⟩
  have h := bits_or_u64_nat n 9223372036854775808 (by omega) (by decide)
  rw [n_or _ (by omega)] at h
  exact h

theorem n_not (a : Nat) (h : a < 18446744073709551616) : 18446744073709551615 ^^^ a = 18446744073709551615 - a := by
  apply Nat.eq_of_testBit_eq
  intro i
  have e : 18446744073709551615 - a = 2 ^ 64 - (a + 1) := by omega
  rw [e, Nat.testBit_two_pow_sub_succ (by omega), Nat.testBit_xor, show (18446744073709551615 : Nat) = 2 ^ 64 - 1 by decide, Nat.testBit_two_pow_sub_one]
  by_cases h2 : i < 64
  · simp [h2]
  · have : a.testBit i = false := Nat.testBit_lt_two_pow (Nat.lt_of_lt_of_le h (by rw [show (18446744073709551616:Nat) = 2^64 by decide]; exact Nat.pow_le_pow_right (by decide) (by omega)))
    simp [h2, this]

theorem u_not (a : Int) (h0 : 0 ≤ a) (h1 : a < 18446744073709551616) :
    bits .xor .u64 (IntKind.max .u64) a = 18446744073709551615 - a := by
  obtain ⟨n, rfl⟩ : ∃ n : Nat, a = n := ⟨a.toNat, by omega⟩
  have h := bits_xor_u64_nat 18446744073709551615 n (by decide) (by omega)
  rw [n_not _ (by omega)] at h
  have e : IntKind.max .u64 = ((18446744073709551615 : Nat) : Int) := by decide
  rw [e, h]
  omega
end Go.Proofs.YtlgpoapedgodoaaDoor
