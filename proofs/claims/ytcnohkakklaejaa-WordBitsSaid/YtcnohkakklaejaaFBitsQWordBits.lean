/- What the program's Bits (and Put) answer, in plain numbers (over the functions printed for QWordBits). -/
import Derived.Test.YtcnohkakklaejaaFPowerQWordBits
namespace Go.Proofs.Ytcnohkakklaejaa.FQWordBits
set_option linter.unusedVariables false
open Go Go.RowKit Go.Proofs.Ytcnohkakklaejaa.QWordBits Go.Proofs.Ytcnohkakklaejaa.Bit Go.Proofs.YtcnohkakklaejaaW.PrintWords Go.Proofs.YtcnohkakklaejaaW.PrintMore

theorem shr_u32 (w n : Nat) (hn : n ≤ 32) : shr .u32 (w : Int) (n : Int) = ((w / 2 ^ n : Nat) : Int) := by
  unfold shr
  rw [Nat.min_eq_left (by simpa [IntKind.bits] using hn)]
  simp
theorem shl_u32 (w n : Nat) (hn : n ≤ 32) : shl .u32 (w : Int) (n : Int) = ((w * 2 ^ n % 4294967296 : Nat) : Int) := by
  unfold shl
  rw [Nat.min_eq_left (by simpa [IntKind.bits] using hn), IntKind.wrap_u32']
  simp

/-- May a place and a width be? -/
def Fits (a n : Int) : Prop := 0 ≤ a ∧ a ≤ 31 ∧ 1 ≤ n ∧ n ≤ 32 - a
theorem right_yes {a n : Int} (h : Fits a n) : word_right.f a n = some true := by
  obtain ⟨h1, h2, h3, h4⟩ := h
  unfold word_right.f
  rw [if_pos h1, if_pos h2, if_pos h3, show wrap64 (32 - a) = 32 - a by unfold wrap64; omega]
  simp [h4]
theorem right_no {a n : Int} (h : ¬ Fits a n) : word_right.f a n = some false := by
  unfold word_right.f
  unfold Fits at h
  split
  · split
    · split
      · rw [show wrap64 (32 - a) = 32 - a by unfold wrap64; omega]
        rw [decide_eq_false (by omega)]
      · rfl
    · rfl
  · rfl

theorem mask (n : Nat) (h1 : 1 ≤ n) (h : n ≤ 32) : word_mask.f (n : Int) = some ((2 ^ n - 1 : Nat) : Int) := by
  unfold word_mask.f
  by_cases h32 : n = 32
  · subst h32; rfl
  · rw [if_neg (by omega), if_pos (by rw [u64_in n (by omega)]; omega), u64_in n (by omega)]
    have := shl_u32 1 n h
    have hp : 2 ^ n ≤ 2 ^ 31 := two_pow_le 31 (by omega)
    have hp0 := Nat.two_pow_pos n
    rw [show (1 : Int) = ((1 : Nat) : Int) from rfl, this, Nat.one_mul]
    generalize (2 : Nat) ^ n = q at *
    congr 1
    omega

theorem bits_no (w a n : Int) (h : ¬ Fits a n) : word_Bits.f w a n = some (0, 4) := by
  unfold word_Bits.f; rw [right_no h]; rfl

theorem and_low (x n : Nat) (hn : n ≤ 32) (hx : x < 4294967296) : Go.bits .and .u32 (x : Int) ((2 ^ n - 1 : Nat) : Int) = ((x % 2 ^ n : Nat) : Int) := by
  have : 2 ^ n ≤ 2 ^ 32 := two_pow_le 32 hn
  have h0 := Nat.two_pow_pos n
  rw [u32_and_nat x _ hx (by omega), Nat.and_two_pow_sub_one_eq_mod]

theorem bits_yes (w a n : Nat) (hw : w < 4294967296) (h : Fits a n) : word_Bits.f (w : Int) (a : Int) (n : Int) = some (((w / 2 ^ a % 2 ^ n : Nat) : Int), 0) := by
  have h' := h
  obtain ⟨h1, h2, h3, h4⟩ := h'
  unfold word_Bits.f
  rw [right_yes h]; simp only [Option.bind_some, if_true]
  rw [u64_in a (by omega), if_pos (by omega), mask n (by omega) (by omega)]; simp only [Option.bind_some]
  rw [shr_u32 w a (by omega), and_low _ _ (by omega) (by have := Nat.div_le_self w (2 ^ a); omega)]

theorem put_no (w a n x : Int) (h : ¬ Fits a n) : word_Put.f w a n x = some (0, 4) := by
  unfold word_Put.f; rw [right_no h]; rfl

theorem put_yes (w a n x : Nat) (hw : w < 4294967296) (hx : x < 4294967296) (h : Fits a n) :
    word_Put.f (w : Int) (a : Int) (n : Int) (x : Int) = some (((w - w / 2 ^ a % 2 ^ n * 2 ^ a + x % 2 ^ n * 2 ^ a : Nat) : Int), 0) := by
  have h' := h
  obtain ⟨h1, h2, h3, h4⟩ := h'
  unfold word_Put.f
  rw [right_yes h]; simp only [Option.bind_some, if_true]
  rw [mask n (by omega) (by omega)]; simp only [Option.bind_some]
  rw [u64_in a (by omega), if_pos (by omega), shl_u32 _ a (by omega), shl_u32 _ a (by omega)]
  have hp : 2 ^ n * 2 ^ a ≤ 2 ^ 32 := by rw [← Nat.pow_add]; exact two_pow_le 32 (by omega)
  have hp2 : 0 < 2 ^ a := Nat.two_pow_pos a
  have hm : (2 ^ n - 1) * 2 ^ a < 4294967296 := by rw [Nat.sub_mul, Nat.one_mul]; have := Nat.le_mul_of_pos_left (2 ^ a) (Nat.two_pow_pos n); omega
  rw [Nat.mod_eq_of_lt hm, u32_andNot_nat w _ hw hm, u32_and_nat _ _ (Nat.mod_lt _ (by decide)) hm, andNot_field w n a hw (by omega), and_field]
  have e : x * 2 ^ a % 4294967296 / 2 ^ a % 2 ^ n = x % 2 ^ n := by
    rw [show (4294967296 : Nat) = 2 ^ a * 2 ^ (32 - a) by rw [← Nat.pow_add, show a + (32 - a) = 32 by omega], Nat.mul_comm x, Nat.mul_mod_mul_left, Nat.mul_div_cancel_left _ hp2]
    exact Nat.mod_mod_of_dvd _ (Nat.pow_dvd_pow 2 (by omega))
  rw [e]
  obtain ⟨hlt, hle⟩ := put_num w a n x hw (by omega)
  have hr : (w - w / 2 ^ a % 2 ^ n * 2 ^ a) / 2 ^ a % 2 ^ n = 0 := by
    have hq := parts w n a
    have hl : w % 2 ^ a < 2 ^ a := Nat.mod_lt _ hp2
    have : w - w / 2 ^ a % 2 ^ n * 2 ^ a = 2 ^ a * (2 ^ n * (w / 2 ^ (a + n))) + w % 2 ^ a := by
      generalize w / 2 ^ (a + n) = hi at *
      generalize w / 2 ^ a % 2 ^ n = mid at *
      rw [Nat.mul_add] at hq
      have : mid * 2 ^ a = 2 ^ a * mid := Nat.mul_comm _ _
      omega
    rw [this, Nat.mul_add_div hp2, Nat.div_eq_of_lt hl, Nat.add_zero, Nat.mul_mod_right]
  have hy : x % 2 ^ n < 2 ^ n := Nat.mod_lt _ (Nat.two_pow_pos n)
  have hb : x % 2 ^ n * 2 ^ a < 4294967296 := by omega
  rw [u32_or_nat _ _ (by omega) hb, or_field _ _ n a hr hy]

end Go.Proofs.Ytcnohkakklaejaa.FQWordBits
