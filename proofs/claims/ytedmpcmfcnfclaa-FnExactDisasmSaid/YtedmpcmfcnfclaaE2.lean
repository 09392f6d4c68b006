/- Masks of words. -/
import Derived.Test.YtedmpcmfcnfclaaE1
namespace Go.Proofs.YtedmpcmfcnfclaaFw
open Go Go.RowKit
set_option linter.unusedVariables false
set_option linter.unusedSimpArgs false

theorem and_high (n k j : Nat) (h : n < 2 ^ (k + j)) : n &&& ((2 ^ j - 1) * 2 ^ k) = n / 2 ^ k * 2 ^ k := by
  apply Nat.eq_of_testBit_eq
  intro i
  rw [Nat.testBit_and, Nat.testBit_mul_two_pow, Nat.testBit_mul_two_pow, Nat.testBit_two_pow_sub_one, Nat.testBit_div_two_pow]
  by_cases hi : k ≤ i
  · simp only [hi, decide_true, Bool.true_and]
    rw [show i - k + k = i by omega]
    by_cases hj : i - k < j
    · simp [hj]
    · have : n.testBit i = false := Nat.testBit_lt_two_pow (Nat.lt_of_lt_of_le h (Nat.pow_le_pow_right (by omega) (by omega)))
      simp [this]
  · simp [hi]

theorem bits_and_nat (n m : Nat) (hn : n < 9223372036854775808) (hm : m < 9223372036854775808) : bits .and .i64 (n : Int) (m : Int) = ((n &&& m : Nat) : Int) := by
  have h1 : n &&& m ≤ n := Nat.and_le_left
  unfold bits
  simp only [BitVec.toNat_and, BitVec.ofInt_natCast, BitVec.toNat_ofNat]
  rw [show IntKind.i64.bits = 64 from rfl, Nat.mod_eq_of_lt (by omega), Nat.mod_eq_of_lt (by omega), IntKind.wrap_i64]
  omega

theorem bits_andNot_nat (n m : Nat) (hn : n < 9223372036854775808) (hm : m < 9223372036854775808) : bits .andNot .i64 (n : Int) (m : Int) = ((n &&& (18446744073709551615 - m) : Nat) : Int) := by
  have h1 : n &&& (18446744073709551615 - m) ≤ n := Nat.and_le_left
  unfold bits
  simp only [BitVec.toNat_and, BitVec.ofInt_natCast, BitVec.toNat_ofNat, BitVec.toNat_not]
  rw [show IntKind.i64.bits = 64 from rfl, Nat.mod_eq_of_lt (by omega), Nat.mod_eq_of_lt (by omega), IntKind.wrap_i64]
  rw [show 2 ^ 64 - 1 - m = 18446744073709551615 - m from rfl]
  omega

theorem and_61440 (n : Nat) (h : n < 65536) : bits .and .i64 (n : Int) 61440 = ((n / 4096 * 4096 : Nat) : Int) := by
  have := bits_and_nat n 61440 (by omega) (by omega)
  rw [show ((61440 : Nat) : Int) = 61440 from rfl] at this
  rw [this, show (61440 : Nat) = (2 ^ 4 - 1) * 2 ^ 12 from rfl, and_high n 12 4 (by omega)]
theorem and_65472 (n : Nat) (h : n < 65536) : bits .and .i64 (n : Int) 65472 = ((n / 64 * 64 : Nat) : Int) := by
  have := bits_and_nat n 65472 (by omega) (by omega)
  rw [show ((65472 : Nat) : Int) = 65472 from rfl] at this
  rw [this, show (65472 : Nat) = (2 ^ 10 - 1) * 2 ^ 6 from rfl, and_high n 6 10 (by omega)]
theorem and_65024 (n : Nat) (h : n < 65536) : bits .and .i64 (n : Int) 65024 = ((n / 512 * 512 : Nat) : Int) := by
  have := bits_and_nat n 65024 (by omega) (by omega)
  rw [show ((65024 : Nat) : Int) = 65024 from rfl] at this
  rw [this, show (65024 : Nat) = (2 ^ 7 - 1) * 2 ^ 9 from rfl, and_high n 9 7 (by omega)]
theorem and_65528 (n : Nat) (h : n < 65536) : bits .and .i64 (n : Int) 65528 = ((n / 8 * 8 : Nat) : Int) := by
  have := bits_and_nat n 65528 (by omega) (by omega)
  rw [show ((65528 : Nat) : Int) = 65528 from rfl] at this
  rw [this, show (65528 : Nat) = (2 ^ 13 - 1) * 2 ^ 3 from rfl, and_high n 3 13 (by omega)]
theorem and_65280 (n : Nat) (h : n < 65536) : bits .and .i64 (n : Int) 65280 = ((n / 256 * 256 : Nat) : Int) := by
  have := bits_and_nat n 65280 (by omega) (by omega)
  rw [show ((65280 : Nat) : Int) = 65280 from rfl] at this
  rw [this, show (65280 : Nat) = (2 ^ 8 - 1) * 2 ^ 8 from rfl, and_high n 8 8 (by omega)]
theorem andNot_4095 (n : Nat) (h : n < 65536) : bits .andNot .i64 (n : Int) 4095 = ((n / 4096 * 4096 : Nat) : Int) := by
  have := bits_andNot_nat n 4095 (by omega) (by omega)
  rw [show ((4095 : Nat) : Int) = 4095 from rfl] at this
  rw [this, show (18446744073709551615 - 4095 : Nat) = (2 ^ 52 - 1) * 2 ^ 12 from rfl, and_high n 12 52 (by omega)]
theorem andNot_511 (n : Nat) (h : n < 65536) : bits .andNot .i64 (n : Int) 511 = ((n / 512 * 512 : Nat) : Int) := by
  have := bits_andNot_nat n 511 (by omega) (by omega)
  rw [show ((511 : Nat) : Int) = 511 from rfl] at this
  rw [this, show (18446744073709551615 - 511 : Nat) = (2 ^ 55 - 1) * 2 ^ 9 from rfl, and_high n 9 55 (by omega)]
theorem andNot_63 (n : Nat) (h : n < 65536) : bits .andNot .i64 (n : Int) 63 = ((n / 64 * 64 : Nat) : Int) := by
  have := bits_andNot_nat n 63 (by omega) (by omega)
  rw [show ((63 : Nat) : Int) = 63 from rfl] at this
  rw [this, show (18446744073709551615 - 63 : Nat) = (2 ^ 58 - 1) * 2 ^ 6 from rfl, and_high n 6 58 (by omega)]
theorem andNot_7 (n : Nat) (h : n < 65536) : bits .andNot .i64 (n : Int) 7 = ((n / 8 * 8 : Nat) : Int) := by
  have := bits_andNot_nat n 7 (by omega) (by omega)
  rw [show ((7 : Nat) : Int) = 7 from rfl] at this
  rw [this, show (18446744073709551615 - 7 : Nat) = (2 ^ 61 - 1) * 2 ^ 3 from rfl, and_high n 3 61 (by omega)]
theorem andNot_255 (n : Nat) (h : n < 65536) : bits .andNot .i64 (n : Int) 255 = ((n / 256 * 256 : Nat) : Int) := by
  have := bits_andNot_nat n 255 (by omega) (by omega)
  rw [show ((255 : Nat) : Int) = 255 from rfl] at this
  rw [this, show (18446744073709551615 - 255 : Nat) = (2 ^ 56 - 1) * 2 ^ 8 from rfl, and_high n 8 56 (by omega)]
theorem and_7 (n : Nat) (h : n < 65536) : bits .and .i64 (n : Int) 7 = ((n % 8 : Nat) : Int) := by
  have := bits_and_nat n 7 (by omega) (by omega)
  rw [show ((7 : Nat) : Int) = 7 from rfl] at this
  rw [this, show (7 : Nat) = 2 ^ 3 - 1 from rfl, Nat.and_two_pow_sub_one_eq_mod]
theorem and_255 (n : Nat) (h : n < 65536) : bits .and .i64 (n : Int) 255 = ((n % 256 : Nat) : Int) := by
  have := bits_and_nat n 255 (by omega) (by omega)
  rw [show ((255 : Nat) : Int) = 255 from rfl] at this
  rw [this, show (255 : Nat) = 2 ^ 8 - 1 from rfl, Nat.and_two_pow_sub_one_eq_mod]
theorem andNot_0 (n : Nat) (h : n < 65536) : bits .andNot .i64 (n : Int) 0 = (n : Int) := by
  have := bits_andNot_nat n 0 (by omega) (by omega)
  rw [show ((0 : Nat) : Int) = 0 from rfl] at this
  rw [this, show (18446744073709551615 - 0 : Nat) = 2 ^ 64 - 1 from rfl, Nat.and_two_pow_sub_one_eq_mod, Nat.mod_eq_of_lt (by omega)]

end Go.Proofs.YtedmpcmfcnfclaaFw
