/- Plain facts on the bits of natural numbers and of 32-bit words: fields cut out, put in, joined. No program in sight. -/
import Derived.Laws.BitsAllLaws
import GoSem.Claim
namespace Go.Proofs.Ytfnbpmkbjbibkaa.Bit
open Go

theorem tb_mask (n at_ i : Nat) : ((2 ^ n - 1) * 2 ^ at_).testBit i = (decide (at_ ≤ i) && decide (i < at_ + n)) := by
  rw [← Nat.shiftLeft_eq, Nat.testBit_shiftLeft, Nat.testBit_two_pow_sub_one]
  by_cases h : at_ ≤ i <;> simp [h] <;> omega

theorem tb_mul (y at_ i : Nat) : (y * 2 ^ at_).testBit i = (decide (at_ ≤ i) && y.testBit (i - at_)) := by
  rw [← Nat.shiftLeft_eq, Nat.testBit_shiftLeft]

/-- A field, cut out in its place. -/
theorem and_field (x n at_ : Nat) : x &&& (2 ^ n - 1) * 2 ^ at_ = x / 2 ^ at_ % 2 ^ n * 2 ^ at_ := by
  apply Nat.eq_of_testBit_eq
  intro i
  rw [Nat.testBit_and, tb_mask, tb_mul, Nat.testBit_mod_two_pow, Nat.testBit_div_two_pow]
  by_cases h : at_ ≤ i
  · rw [show i - at_ + at_ = i by omega]
    simp only [h, decide_true, Bool.true_and]
    rw [Bool.and_comm]
    congr 1
    by_cases h2 : i < at_ + n <;> simp [h2] <;> omega
  · simp [h]

/-- A number in three parts: below a field, the field, above it. -/
theorem parts (x n at_ : Nat) : x = 2 ^ at_ * (2 ^ n * (x / 2 ^ (at_ + n)) + x / 2 ^ at_ % 2 ^ n) + x % 2 ^ at_ := by
  have h1 : x / 2 ^ (at_ + n) = x / 2 ^ at_ / 2 ^ n := by rw [Nat.pow_add, Nat.div_div_eq_div_mul]
  rw [h1, Nat.div_add_mod, Nat.div_add_mod]

/-- A number without a field. -/
theorem andNot_field (x n at_ : Nat) (hx : x < 4294967296) (h : at_ + n ≤ 32) :
    x &&& (4294967295 - (2 ^ n - 1) * 2 ^ at_) = x - x / 2 ^ at_ % 2 ^ n * 2 ^ at_ := by
  have hm : (2 ^ n - 1) * 2 ^ at_ < 2 ^ 32 := by
    have h1 : 2 ^ n * 2 ^ at_ ≤ 2 ^ 32 := by rw [← Nat.pow_add]; exact Nat.pow_le_pow_right (by decide) (by omega)
    have h2 : 0 < 2 ^ at_ := Nat.two_pow_pos _
    have h3 : (2 ^ n - 1) * 2 ^ at_ = 2 ^ n * 2 ^ at_ - 2 ^ at_ := by rw [Nat.sub_mul, Nat.one_mul]
    have h4 : 0 < 2 ^ n := Nat.two_pow_pos _
    have h5 : 2 ^ at_ ≤ 2 ^ n * 2 ^ at_ := Nat.le_mul_of_pos_left _ h4
    omega
  have e : x - x / 2 ^ at_ % 2 ^ n * 2 ^ at_ = 2 ^ at_ * (2 ^ n * (x / 2 ^ (at_ + n))) + x % 2 ^ at_ := by
    have hp := parts x n at_
    generalize x / 2 ^ (at_ + n) = hi at *
    generalize x / 2 ^ at_ % 2 ^ n = mid at *
    rw [Nat.mul_add] at hp
    have : mid * 2 ^ at_ = 2 ^ at_ * mid := Nat.mul_comm _ _
    omega
  rw [e]
  apply Nat.eq_of_testBit_eq
  intro i
  rw [Nat.testBit_and, show 4294967295 - (2 ^ n - 1) * 2 ^ at_ = 2 ^ 32 - ((2 ^ n - 1) * 2 ^ at_ + 1) by omega, Nat.testBit_two_pow_sub_succ hm, tb_mask]
  rw [Nat.testBit_two_pow_mul_add _ (Nat.mod_lt _ (Nat.two_pow_pos _)), Nat.testBit_mod_two_pow]
  by_cases h1 : i < at_
  · have : ¬ at_ ≤ i := by omega
    simp only [h1, this, if_true, decide_true, decide_false, Bool.false_and, Bool.not_false, Bool.and_true, Bool.true_and]
    by_cases h2 : i < 32
    · simp [h2]
    · omega
  · rw [if_neg h1]
    have h1' : at_ ≤ i := by omega
    rw [show 2 ^ n * (x / 2 ^ (at_ + n)) = x / 2 ^ (at_ + n) * 2 ^ n from Nat.mul_comm _ _, tb_mul, Nat.testBit_div_two_pow]
    by_cases h2 : i < at_ + n
    · have : ¬ n ≤ i - at_ := by omega
      simp [h1', h2, this]
    · have h3 : n ≤ i - at_ := by omega
      rw [show i - at_ - n + (at_ + n) = i by omega]
      simp only [h1', h2, h3, decide_true, decide_false, Bool.and_false, Bool.not_false, Bool.and_true, Bool.true_and]
      by_cases h4 : i < 32
      · simp [h4]
      · have : x.testBit i = false := Nat.testBit_lt_two_pow (Nat.lt_of_lt_of_le hx (by rw [show 4294967296 = 2 ^ 32 from rfl]; exact Nat.pow_le_pow_right (by decide) (by omega)))
        simp [this]

/-- A field joined to a number that has noughts there. -/
theorem or_field (x y n at_ : Nat) (h0 : x / 2 ^ at_ % 2 ^ n = 0) (hy : y < 2 ^ n) : x ||| y * 2 ^ at_ = x + y * 2 ^ at_ := by
  have hp := parts x n at_
  rw [h0, Nat.add_zero] at hp
  have e : x + y * 2 ^ at_ = 2 ^ at_ * (2 ^ n * (x / 2 ^ (at_ + n)) + y) + x % 2 ^ at_ := by
    rw [Nat.mul_add, Nat.mul_comm y]
    generalize x / 2 ^ (at_ + n) = hi at *
    omega
  rw [e]
  apply Nat.eq_of_testBit_eq
  intro i
  rw [Nat.testBit_or, tb_mul, Nat.testBit_two_pow_mul_add _ (Nat.mod_lt _ (Nat.two_pow_pos _)), Nat.testBit_mod_two_pow]
  by_cases h1 : i < at_
  · have : ¬ at_ ≤ i := by omega
    simp [h1, this]
  · rw [if_neg h1, Nat.testBit_two_pow_mul_add _ hy, Nat.testBit_div_two_pow]
    have h1' : at_ ≤ i := by omega
    by_cases h2 : i - at_ < n
    · rw [if_pos h2]
      have : x.testBit i = false := by
        have h5 : (x / 2 ^ at_ % 2 ^ n).testBit (i - at_) = false := by rw [h0]; simp
        rw [Nat.testBit_mod_two_pow, Nat.testBit_div_two_pow, show i - at_ + at_ = i by omega] at h5
        simpa [h2] using h5
      simp [h1', this]
    · rw [if_neg h2, show i - at_ - n + (at_ + n) = i by omega]
      have : y.testBit (i - at_) = false := Nat.testBit_lt_two_pow (Nat.lt_of_lt_of_le hy (Nat.pow_le_pow_right (by decide) (by omega)))
      simp [this]

/-! ### The same of words as integers -/

theorem wf_u32 {x : Int} (h : (Lit.int .u32 x).wf = true) : ∃ n : Nat, x = n ∧ n < 4294967296 := by
  have : 0 ≤ x ∧ x < 4294967296 := by simp [Lit.wf, IntKind.min, IntKind.max, IntKind.bits, IntKind.signed] at h; omega
  exact ⟨x.toNat, by omega, by omega⟩

end Go.Proofs.Ytfnbpmkbjbibkaa.Bit
