/- Single bits of words, in plain numbers. -/
import Derived.Test.YtcnohkakklaejaaBit
namespace Go.Proofs.Ytcnohkakklaejaa.BitW
set_option linter.unusedVariables false
open Go Go.Proofs.Ytcnohkakklaejaa.Bit

theorem two_pow_le {n : Nat} (m : Nat) (h : n ≤ m) : 2 ^ n ≤ 2 ^ m := Nat.pow_le_pow_right (by decide) h
/-- One bit, put in. -/
def setBit (s i b : Nat) : Nat := s - s / 2 ^ i % 2 * 2 ^ i + b % 2 * 2 ^ i
theorem and_bit (s i : Nat) (hs : s < 4294967296) (hi : i ≤ 31) : Go.bits .and .u32 (s : Int) ((2 ^ i : Nat) : Int) = ((s / 2 ^ i % 2 * 2 ^ i : Nat) : Int) := by
  have h := and_field s 1 i
  rw [show (2 : Nat) ^ 1 = 2 from rfl, show (2 : Nat) - 1 = 1 from rfl, Nat.one_mul] at h
  have hp := two_pow_le 31 hi
  rw [u32_and_nat s _ hs (by omega), h]
theorem andNot_bit (s i : Nat) (hs : s < 4294967296) (hi : i ≤ 31) : Go.bits .andNot .u32 (s : Int) ((2 ^ i : Nat) : Int) = ((s - s / 2 ^ i % 2 * 2 ^ i : Nat) : Int) := by
  have h := andNot_field s 1 i hs (by omega)
  rw [show (2 : Nat) ^ 1 = 2 from rfl, show (2 : Nat) - 1 = 1 from rfl, Nat.one_mul] at h
  have hp := two_pow_le 31 hi
  rw [u32_andNot_nat s _ hs (by omega), h]
theorem or_bit (s i b : Nat) (hs : s < 4294967296) (h0 : s / 2 ^ i % 2 = 0) (hi : i ≤ 31) (hb : b < 2) : Go.bits .or .u32 (s : Int) ((b * 2 ^ i : Nat) : Int) = ((s + b * 2 ^ i : Nat) : Int) := by
  have h := or_field s b 1 i h0 hb
  have hp := two_pow_le 31 hi
  have : b * 2 ^ i ≤ 2 ^ i := by
    have := Nat.mul_le_mul_right (2 ^ i) (show b ≤ 1 by omega); omega
  rw [u32_or_nat s _ hs (by omega), h]
theorem andNot8 (s : Nat) (hs : s < 4294967296) : Go.bits .andNot .u32 (s : Int) 8 = ((s - s / 8 % 2 * 8 : Nat) : Int) := by
  have := andNot_bit s 3 hs (by decide)
  rwa [show (2 : Nat) ^ 3 = 8 from rfl, show ((8 : Nat) : Int) = 8 from rfl] at this
theorem and128 (s : Nat) (hs : s < 4294967296) : Go.bits .and .u32 (s : Int) 128 = ((s / 128 % 2 * 128 : Nat) : Int) := by
  have := and_bit s 7 hs (by decide)
  rwa [show (2 : Nat) ^ 7 = 128 from rfl, show ((128 : Nat) : Int) = 128 from rfl] at this
theorem and8 (s : Nat) (hs : s < 4294967296) : Go.bits .and .u32 (s : Int) 8 = ((s / 8 % 2 * 8 : Nat) : Int) := by
  have := and_bit s 3 hs (by decide)
  rwa [show (2 : Nat) ^ 3 = 8 from rfl, show ((8 : Nat) : Int) = 8 from rfl] at this
theorem and2048 (s : Nat) (hs : s < 4294967296) : Go.bits .and .u32 (s : Int) 2048 = ((s / 2048 % 2 * 2048 : Nat) : Int) := by
  have := and_bit s 11 hs (by decide)
  rwa [show (2 : Nat) ^ 11 = 2048 from rfl, show ((2048 : Nat) : Int) = 2048 from rfl] at this
theorem and1 (s : Nat) (hs : s < 4294967296) : Go.bits .and .u32 (s : Int) 1 = ((s % 2 : Nat) : Int) := by
  have := and_bit s 0 hs (by decide)
  rwa [Nat.pow_zero, Nat.div_one, Nat.mul_one, show ((1 : Nat) : Int) = 1 from rfl] at this
/-- The bit 7 is set, whatever it was. -/
theorem or_128 (s : Nat) (hs : s < 4294967296) : Go.bits .or .u32 (s : Int) 128 = ((s - s / 128 % 2 * 128 + 128 : Nat) : Int) := by
  have e : s ||| 128 = (s - s / 128 % 2 * 128) ||| 128 := by
    have h := andNot_field s 1 7 hs (by decide)
    rw [show (2 : Nat) ^ 1 = 2 from rfl, show (2 : Nat) - 1 = 1 from rfl, Nat.one_mul, show (2 : Nat) ^ 7 = 128 from rfl] at h
    rw [← h]
    apply Nat.eq_of_testBit_eq
    intro i
    rw [Nat.testBit_or, Nat.testBit_or, Nat.testBit_and, show 4294967295 - 128 = 2 ^ 32 - (128 + 1) by decide, Nat.testBit_two_pow_sub_succ (by decide)]
    by_cases hi : i < 32
    · simp only [hi, decide_true, Bool.true_and]
      cases s.testBit i <;> cases (128 : Nat).testBit i <;> rfl
    · have h1 : s.testBit i = false := Nat.testBit_lt_two_pow (Nat.lt_of_lt_of_le hs (two_pow_le i (show 32 ≤ i by omega)))
      simp [h1]
  have h3 := or_field (s - s / 128 % 2 * 128) 1 1 7 (by rw [show (2 : Nat) ^ 7 = 128 from rfl]; omega) (by decide)
  rw [Nat.one_mul, show (2 : Nat) ^ 7 = 128 from rfl] at h3
  rw [show (128 : Int) = ((128 : Nat) : Int) from rfl, u32_or_nat s 128 hs (by decide), e, h3]

theorem andNot136 (s : Nat) (hs : s < 4294967296) : Go.bits .andNot .u32 (s : Int) 136 = ((s - s / 8 % 2 * 8 - s / 128 % 2 * 128 : Nat) : Int) := by
  have h1 := andNot_field s 1 3 hs (by decide)
  rw [show (2 : Nat) ^ 1 = 2 from rfl, show (2 : Nat) - 1 = 1 from rfl, Nat.one_mul, show (2 : Nat) ^ 3 = 8 from rfl] at h1
  have h2 := andNot_field (s - s / 8 % 2 * 8) 1 7 (by omega) (by decide)
  rw [show (2 : Nat) ^ 1 = 2 from rfl, show (2 : Nat) - 1 = 1 from rfl, Nat.one_mul, show (2 : Nat) ^ 7 = 128 from rfl] at h2
  rw [show (136 : Int) = ((136 : Nat) : Int) from rfl, u32_andNot_nat s 136 hs (by decide), show 4294967295 - 136 = (4294967295 - 8) &&& (4294967295 - 128) by decide, ← Nat.and_assoc, h1, h2]
  rw [Int.natCast_inj]
  omega
theorem andNot3 (s : Nat) (hs : s < 4294967296) : Go.bits .andNot .u32 (s : Int) 3 = ((s / 4 * 4 : Nat) : Int) := by
  have h1 := andNot_field s 2 0 hs (by decide)
  rw [show (2 : Nat) ^ 2 = 4 from rfl, show (4 : Nat) - 1 = 3 from rfl, Nat.pow_zero, Nat.mul_one, Nat.div_one, Nat.mul_one] at h1
  rw [show (3 : Int) = ((3 : Nat) : Int) from rfl, u32_andNot_nat s 3 hs (by decide), h1, Int.natCast_inj]
  omega

/-- The status behind a trap. -/
def st (s : Nat) : Nat := setBit (setBit s 7 (s / 8 % 2)) 3 0
theorem status (s : Nat) (hs : s < 4294967296) : Go.bits .or .u32 (Go.bits .andNot .u32 (s : Int) 136) (((Go.bits .and .u32 (s : Int) 8) * 16) % 4294967296) = ((st s : Nat) : Int) := by
  rw [andNot136 s hs, and8 s hs]
  have e : ((s / 8 % 2 * 8 : Nat) : Int) * 16 % 4294967296 = ((s / 8 % 2 * 128 : Nat) : Int) := by omega
  rw [e]
  have h1 := or_bit (s - s / 8 % 2 * 8 - s / 128 % 2 * 128) 7 (s / 8 % 2) (by omega) (by have : (2 : Nat) ^ 7 = 128 := rfl; omega) (by decide) (by omega)
  rw [show (2 : Nat) ^ 7 = 128 from rfl] at h1
  rw [h1]
  unfold st setBit
  rw [Int.natCast_inj]
  simp only [show (2 : Nat) ^ 3 = 8 from rfl, show (2 : Nat) ^ 7 = 128 from rfl]
  have e1 : (s - s / 128 % 2 * 128 + s / 8 % 2 % 2 * 128) / 8 = s / 8 - s / 128 % 2 * 16 + s / 8 % 2 * 16 := by omega
  have e2 : (s / 8 - s / 128 % 2 * 16 + s / 8 % 2 * 16) % 2 = s / 8 % 2 := by omega
  rw [e1, e2]
  omega

/-- The status behind the way back. -/
theorem status_back (s : Nat) (hs : s < 4294967296) : Go.bits .or .u32 (Go.bits .or .u32 (Go.bits .andNot .u32 (s : Int) 8) ((Go.bits .and .u32 (s : Int) 128) / 16)) 128 = ((setBit (setBit s 3 (s / 128 % 2)) 7 1 : Nat) : Int) := by
  rw [andNot8 s hs, and128 s hs]
  have e : (((s / 128 % 2 * 128 : Nat) : Int) / 16) = ((s / 128 % 2 * 8 : Nat) : Int) := by omega
  rw [e]
  have h1 := or_bit (s - s / 8 % 2 * 8) 3 (s / 128 % 2) (by omega) (by have : (2 : Nat) ^ 3 = 8 := rfl; omega) (by decide) (by omega)
  rw [show (2 : Nat) ^ 3 = 8 from rfl] at h1
  rw [h1]
  have h2 := or_128 (s - s / 8 % 2 * 8 + s / 128 % 2 * 8) (by omega)
  rw [h2]
  unfold setBit
  rw [Int.natCast_inj]
  simp only [show (2 : Nat) ^ 3 = 8 from rfl, show (2 : Nat) ^ 7 = 128 from rfl]
  omega

end Go.Proofs.Ytcnohkakklaejaa.BitW
