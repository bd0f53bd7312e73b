/- What the program's Bits (and Put) answer, in plain numbers (over the functions printed for PWordHexes). -/
import Derived.Test.YtcnohkakklaejaaFPowerPWordHexes
namespace Go.Proofs.Ytcnohkakklaejaa.FPWordHexes
open Go Go.RowKit Go.Proofs.Ytcnohkakklaejaa.PWordHexes Go.Proofs.Ytcnohkakklaejaa.Bit Go.Proofs.YtcnohkakklaejaaW.PrintWords Go.Proofs.YtcnohkakklaejaaW.PrintMore

theorem shr_u32 (w n : Nat) (hn : n ≤ 32) : shr .u32 (w : Int) (n : Int) = ((w / 2 ^ n : Nat) : Int) := by
  unfold shr
  rw [Nat.min_eq_left (by simpa [IntKind.bits] using hn)]
  simp
theorem shl_u32 (w n : Nat) (hn : n ≤ 32) : shl .u32 (w : Int) (n : Int) = ((w * 2 ^ n % 4294967296 : Nat) : Int) := by
  unfold shl
  rw [Nat.min_eq_left (by simpa [IntKind.bits] using hn), IntKind.wrap_u32']
  simp

/-- May a place and a width be? -/
def Fits (a n : Int) : Prop := 0 ≤ a ∧ a ≤ 31 ∧ 1 ≤ n ∧ n ≤ 32 - a
theorem right_yes {a n : Int} (h : Fits a n) : word_right.f a n = some true := by
  obtain ⟨h1, h2, h3, h4⟩ := h
  unfold word_right.f
  rw [if_pos h1, if_pos h2, if_pos h3, show wrap64 (32 - a) = 32 - a by unfold wrap64; omega]
  simp [h4]
theorem right_no {a n : Int} (h : ¬ Fits a n) : word_right.f a n = some false := by
  unfold word_right.f
  unfold Fits at h
  split
  · split
    · split
      · rw [show wrap64 (32 - a) = 32 - a by unfold wrap64; omega]
        rw [decide_eq_false (by omega)]
      · rfl
    · rfl
  · rfl

theorem mask (n : Nat) (h1 : 1 ≤ n) (h : n ≤ 32) : word_mask.f (n : Int) = some ((2 ^ n - 1 : Nat) : Int) := by
  unfold word_mask.f
  by_cases h32 : n = 32
  · subst h32; rfl
  · rw [if_neg (by omega), if_pos (by rw [u64_in n (by omega)]; omega), u64_in n (by omega)]
    have := shl_u32 1 n h
    have hp : 2 ^ n ≤ 2 ^ 31 := two_pow_le 31 (by omega)
    have hp0 := Nat.two_pow_pos n
    rw [show (1 : Int) = ((1 : Nat) : Int) from rfl, this, Nat.one_mul]
    generalize (2 : Nat) ^ n = q at *
    congr 1
    omega

theorem bits_no (w a n : Int) (h : ¬ Fits a n) : word_Bits.f w a n = some (0, 4) := by
  unfold word_Bits.f; rw [right_no h]; rfl

theorem and_low (x n : Nat) (hn : n ≤ 32) (hx : x < 4294967296) : Go.bits .and .u32 (x : Int) ((2 ^ n - 1 : Nat) : Int) = ((x % 2 ^ n : Nat) : Int) := by
  have : 2 ^ n ≤ 2 ^ 32 := two_pow_le 32 hn
  have h0 := Nat.two_pow_pos n
  rw [u32_and_nat x _ hx (by omega), Nat.and_two_pow_sub_one_eq_mod]

theorem bits_yes (w a n : Nat) (hw : w < 4294967296) (h : Fits a n) : word_Bits.f (w : Int) (a : Int) (n : Int) = some (((w / 2 ^ a % 2 ^ n : Nat) : Int), 0) := by
  have h' := h
  obtain ⟨h1, h2, h3, h4⟩ := h'
  unfold word_Bits.f
  rw [right_yes h]; simp only [Option.bind_some, if_true]
  rw [u64_in a (by omega), if_pos (by omega), mask n (by omega) (by omega)]; simp only [Option.bind_some]
  rw [shr_u32 w a (by omega), and_low _ _ (by omega) (by have := Nat.div_le_self w (2 ^ a); omega)]


end Go.Proofs.Ytcnohkakklaejaa.FPWordHexes
