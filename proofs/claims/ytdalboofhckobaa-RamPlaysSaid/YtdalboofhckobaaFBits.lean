/- What the program's Bits (and Put) answer, in plain numbers (over the functions printed for QRamPlays). -/
import Derived.Test.YtdalboofhckobaaFPower
namespace Go.Proofs.Ytdalboofhckobaa.FQRamPlays
set_option linter.unusedVariables false
open Go Go.RowKit Go.Proofs.Ytdalboofhckobaa.QRamPlays Go.Proofs.Ytdalboofhckobaa.Bit Go.Proofs.YtdalboofhckobaaW.PrintWords Go.Proofs.YtdalboofhckobaaW.PrintMore

theorem shr_u32 (w n : Nat) (hn : n ≤ 32) : shr .u32 (w : Int) (n : Int) = ((w / 2 ^ n : Nat) : Int) := by
  unfold shr
  rw [Nat.min_eq_left (by simpa [IntKind.bits] using hn)]
  simp
theorem shl_u32 (w n : Nat) (hn : n ≤ 32) : shl .u32 (w : Int) (n : Int) = ((w * 2 ^ n % 4294967296 : Nat) : Int) := by
  unfold shl
  rw [Nat.min_eq_left (by simpa [IntKind.bits] using hn), IntKind.wrap_u32']
  simp

/-- May a place and a width be? -/
def Fits (a n : Int) : Prop := 0 ≤ a ∧ a ≤ 31 ∧ 1 ≤ n ∧ n ≤ 32 - a
theorem and_low (x n : Nat) (hn : n ≤ 32) (hx : x < 4294967296) : Go.bits .and .u32 (x : Int) ((2 ^ n - 1 : Nat) : Int) = ((x % 2 ^ n : Nat) : Int) := by
  have : 2 ^ n ≤ 2 ^ 32 := two_pow_le 32 hn
  have h0 := Nat.two_pow_pos n
  rw [u32_and_nat x _ hx (by omega), Nat.and_two_pow_sub_one_eq_mod]

end Go.Proofs.Ytdalboofhckobaa.FQRamPlays
