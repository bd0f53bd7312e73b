/- The bits of the trap's registers, in plain numbers (over the functions of QTrapEnters). -/
import Derived.Test.YtcnohkakklaejaaFPowerQTrapEnters
namespace Go.Proofs.Ytcnohkakklaejaa.FQTrapEnters
set_option linter.unusedVariables false
open Go Go.RowKit Go.Proofs.Ytcnohkakklaejaa.QTrapEnters Go.Proofs.Ytcnohkakklaejaa.Bit Go.Proofs.YtcnohkakklaejaaW.PrintWords Go.Proofs.YtcnohkakklaejaaW.PrintMore

theorem bit_ref (s i k : Nat) (hs : s < 4294967296) (hi : i ≤ 31) (hk : 50 < k) : mimesisref17_bit.f k (s : Int) (i : Int) = some ((s / 2 ^ i % 2 : Nat) : Int) := by
  unfold mimesisref17_bit.f
  have := bits_ref s i 1 k hs (by omega) (by omega) (by omega) (by omega)
  rw [show ((1 : Nat) : Int) = 1 from rfl, show (2 : Nat) ^ 1 = 2 from rfl] at this
  rw [this]; rfl

/-- One bit, put in. -/
def setBit (s i b : Nat) : Nat := s - s / 2 ^ i % 2 * 2 ^ i + b % 2 * 2 ^ i
theorem put_bit (s i b k : Nat) (hs : s < 4294967296) (hb : b < 4294967296) (hi : i ≤ 31) (hk : 50 < k) : mimesisref01_Put.f k (s : Int) (i : Int) 1 (b : Int) = some ((setBit s i b : Nat) : Int) := by
  have := put_ref s i 1 b k hs hb (by omega) (by omega)
  rwa [show ((1 : Nat) : Int) = 1 from rfl, show (2 : Nat) ^ 1 = 2 from rfl] at this
theorem setBit_lt (s i b : Nat) (hs : s < 4294967296) (hi : i ≤ 31) : setBit s i b < 4294967296 := by
  have := (put_num s i 1 b hs (by omega)).1
  rwa [show (2 : Nat) ^ 1 = 2 from rfl] at this

theorem and_bit (s i : Nat) (hs : s < 4294967296) (hi : i ≤ 31) : Go.bits .and .u32 (s : Int) ((2 ^ i : Nat) : Int) = ((s / 2 ^ i % 2 * 2 ^ i : Nat) : Int) := by
  have h := and_field s 1 i
  rw [show (2 : Nat) ^ 1 = 2 from rfl, show (2 : Nat) - 1 = 1 from rfl, Nat.one_mul] at h
  have hp := two_pow_le 31 hi
  rw [u32_and_nat s _ hs (by omega), h]
theorem andNot_bit (s i : Nat) (hs : s < 4294967296) (hi : i ≤ 31) : Go.bits .andNot .u32 (s : Int) ((2 ^ i : Nat) : Int) = ((s - s / 2 ^ i % 2 * 2 ^ i : Nat) : Int) := by
  have h := andNot_field s 1 i hs (by omega)
  rw [show (2 : Nat) ^ 1 = 2 from rfl, show (2 : Nat) - 1 = 1 from rfl, Nat.one_mul] at h
  have hp := two_pow_le 31 hi
  rw [u32_andNot_nat s _ hs (by omega), h]
theorem or_bit (s i b : Nat) (hs : s < 4294967296) (h0 : s / 2 ^ i % 2 = 0) (hi : i ≤ 31) (hb : b < 2) : Go.bits .or .u32 (s : Int) ((b * 2 ^ i : Nat) : Int) = ((s + b * 2 ^ i : Nat) : Int) := by
  have h := or_field s b 1 i h0 hb
  have hp := two_pow_le 31 hi
  have : b * 2 ^ i ≤ 2 ^ i := by
    have := Nat.mul_le_mul_right (2 ^ i) (show b ≤ 1 by omega); omega
  rw [u32_or_nat s _ hs (by omega), h]
theorem andNot8 (s : Nat) (hs : s < 4294967296) : Go.bits .andNot .u32 (s : Int) 8 = ((s - s / 8 % 2 * 8 : Nat) : Int) := by
  have := andNot_bit s 3 hs (by decide)
  rwa [show (2 : Nat) ^ 3 = 8 from rfl, show ((8 : Nat) : Int) = 8 from rfl] at this
theorem and128 (s : Nat) (hs : s < 4294967296) : Go.bits .and .u32 (s : Int) 128 = ((s / 128 % 2 * 128 : Nat) : Int) := by
  have := and_bit s 7 hs (by decide)
  rwa [show (2 : Nat) ^ 7 = 128 from rfl, show ((128 : Nat) : Int) = 128 from rfl] at this
theorem and8 (s : Nat) (hs : s < 4294967296) : Go.bits .and .u32 (s : Int) 8 = ((s / 8 % 2 * 8 : Nat) : Int) := by
  have := and_bit s 3 hs (by decide)
  rwa [show (2 : Nat) ^ 3 = 8 from rfl, show ((8 : Nat) : Int) = 8 from rfl] at this
theorem and2048 (s : Nat) (hs : s < 4294967296) : Go.bits .and .u32 (s : Int) 2048 = ((s / 2048 % 2 * 2048 : Nat) : Int) := by
  have := and_bit s 11 hs (by decide)
  rwa [show (2 : Nat) ^ 11 = 2048 from rfl, show ((2048 : Nat) : Int) = 2048 from rfl] at this
theorem and1 (s : Nat) (hs : s < 4294967296) : Go.bits .and .u32 (s : Int) 1 = ((s % 2 : Nat) : Int) := by
  have := and_bit s 0 hs (by decide)
  rwa [Nat.pow_zero, Nat.div_one, Nat.mul_one, show ((1 : Nat) : Int) = 1 from rfl] at this
/-- The bit 7 is set, whatever it was. -/
theorem or_128 (s : Nat) (hs : s < 4294967296) : Go.bits .or .u32 (s : Int) 128 = ((s - s / 128 % 2 * 128 + 128 : Nat) : Int) := by
  have e : s ||| 128 = (s - s / 128 % 2 * 128) ||| 128 := by
    have h := andNot_field s 1 7 hs (by decide)
    rw [show (2 : Nat) ^ 1 = 2 from rfl, show (2 : Nat) - 1 = 1 from rfl, Nat.one_mul, show (2 : Nat) ^ 7 = 128 from rfl] at h
    rw [← h]
    apply Nat.eq_of_testBit_eq
    intro i
    rw [Nat.testBit_or, Nat.testBit_or, Nat.testBit_and, show 4294967295 - 128 = 2 ^ 32 - (128 + 1) by decide, Nat.testBit_two_pow_sub_succ (by decide)]
    by_cases hi : i < 32
    · simp only [hi, decide_true, Bool.true_and]
      cases s.testBit i <;> cases (128 : Nat).testBit i <;> rfl
    · have h1 : s.testBit i = false := Nat.testBit_lt_two_pow (Nat.lt_of_lt_of_le hs (two_pow_le i (show 32 ≤ i by omega)))
      simp [h1]
  have h3 := or_field (s - s / 128 % 2 * 128) 1 1 7 (by rw [show (2 : Nat) ^ 7 = 128 from rfl]; omega) (by decide)
  rw [Nat.one_mul, show (2 : Nat) ^ 7 = 128 from rfl] at h3
  rw [show (128 : Int) = ((128 : Nat) : Int) from rfl, u32_or_nat s 128 hs (by decide), e, h3]

end Go.Proofs.Ytcnohkakklaejaa.FQTrapEnters
