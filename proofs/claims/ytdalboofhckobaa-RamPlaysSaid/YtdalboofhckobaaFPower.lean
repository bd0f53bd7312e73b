/- What the reference's Power, Bits and Put answer, in plain numbers (over the functions printed for QRamPlays). -/
import Derived.Test.YtdalboofhckobaaQRamPlaysx
import Derived.Test.YtdalboofhckobaaBit
namespace Go.Proofs.Ytdalboofhckobaa.FQRamPlays
set_option linter.unusedVariables false
open Go Go.RowKit Go.Proofs.Ytdalboofhckobaa.QRamPlays Go.Proofs.Ytdalboofhckobaa.Bit Go.Proofs.YtdalboofhckobaaW.PrintWords Go.Proofs.YtdalboofhckobaaW.PrintMore

theorem u64_in (n : Nat) (h : n < 18446744073709551616) : IntKind.u64.wrap (n : Int) = n := by rw [IntKind.wrap_u64]; omega
theorem w64_in (n : Int) (h : 0 ≤ n) (h2 : n ≤ 9223372036854775807) : wrap64 n = n := by unfold wrap64; omega
theorem two_pow_le {n : Nat} (m : Nat) (h : n ≤ m) : 2 ^ n ≤ 2 ^ m := Nat.pow_le_pow_right (by decide) h

theorem power_l0 (n : Nat) (hn : n ≤ 62) (d : Nat) : ∀ (k i : Nat), i + d = n → d < k → mimesisref01_Power.l0 k n ((2 ^ i : Nat) : Int) i = some ((2 ^ n : Nat) : Int) := by
  induction d with
  | zero =>
    intro k i hi hk
    obtain ⟨k, rfl⟩ : ∃ m, k = m + 1 := ⟨k - 1, by omega⟩
    simp only [mimesisref01_Power.l0]
    rw [if_neg (by omega), show i = n by omega]
  | succ d ih =>
    intro k i hi hk
    obtain ⟨k, rfl⟩ : ∃ m, k = m + 1 := ⟨k - 1, by omega⟩
    simp only [mimesisref01_Power.l0]
    rw [if_pos (by omega)]
    have h2 : (2 : Nat) ^ (i + 1) ≤ 2 ^ 62 := two_pow_le 62 (by omega)
    have e1 : IntKind.u64.wrap (((2 ^ i : Nat) : Int) * 2) = ((2 ^ (i + 1) : Nat) : Int) := by
      rw [show ((2 ^ i : Nat) : Int) * 2 = ((2 ^ (i + 1) : Nat) : Int) by rw [Nat.pow_succ]; push_cast; rfl]
      exact u64_in _ (by omega)
    have e2 : wrap64 ((i : Int) + 1) = ((i + 1 : Nat) : Int) := by rw [w64_in _ (by omega) (by omega)]; push_cast; rfl
    rw [e1, e2]
    exact ih k (i + 1) (by omega) (by omega)

theorem power (n k : Nat) (hn : n ≤ 62) (hk : n < k) : mimesisref01_Power.f k (n : Int) = some ((2 ^ n : Nat) : Int) := by
  have := power_l0 n hn n k 0 (by omega) hk
  simpa [mimesisref01_Power.f] using this

theorem pow_pos_ne (n : Nat) : ¬ ((2 ^ n : Nat) : Int) = 0 := by have := Nat.two_pow_pos n; omega

theorem put_num (w at_ n x : Nat) (hw : w < 4294967296) (h : at_ + n ≤ 32) : w - w / 2 ^ at_ % 2 ^ n * 2 ^ at_ + x % 2 ^ n * 2 ^ at_ < 4294967296 ∧ w / 2 ^ at_ % 2 ^ n * 2 ^ at_ ≤ w := by
  have hp := parts w n at_
  have h1 : w / 2 ^ at_ % 2 ^ n < 2 ^ n := Nat.mod_lt _ (Nat.two_pow_pos _)
  have h2 : x % 2 ^ n < 2 ^ n := Nat.mod_lt _ (Nat.two_pow_pos _)
  have h3 : w / 2 ^ (at_ + n) < 2 ^ (32 - (at_ + n)) := by
    rw [Nat.div_lt_iff_lt_mul (Nat.two_pow_pos _), ← Nat.pow_add, show 32 - (at_ + n) + (at_ + n) = 32 by omega]; exact hw
  have h4 : w % 2 ^ at_ < 2 ^ at_ := Nat.mod_lt _ (Nat.two_pow_pos _)
  generalize w / 2 ^ (at_ + n) = hi at *
  generalize w / 2 ^ at_ % 2 ^ n = mid at *
  generalize w % 2 ^ at_ = lo at *
  generalize x % 2 ^ n = y at *
  have e32 : (4294967296 : Nat) = 2 ^ at_ * (2 ^ n * 2 ^ (32 - (at_ + n))) := by rw [← Nat.pow_add, ← Nat.pow_add, show at_ + (n + (32 - (at_ + n))) = 32 by omega]
  have h5 : 2 ^ n * hi + y + 1 ≤ 2 ^ n * 2 ^ (32 - (at_ + n)) := by
    have : 2 ^ n * (hi + 1) ≤ 2 ^ n * 2 ^ (32 - (at_ + n)) := Nat.mul_le_mul_left _ h3
    rw [Nat.mul_add, Nat.mul_one] at this; omega
  have h6 : 2 ^ at_ * (2 ^ n * hi + y + 1) ≤ 4294967296 := by rw [e32]; exact Nat.mul_le_mul_left _ h5
  rw [Nat.mul_comm mid, Nat.mul_comm y]
  simp only [Nat.mul_add, Nat.mul_one] at hp h6
  omega

end Go.Proofs.Ytdalboofhckobaa.FQRamPlays
