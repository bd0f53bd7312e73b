/- What the reference's Power, Bits and Put answer, in plain numbers (over the functions printed for QTrapHears). -/
import Derived.Test.YtcnohkakklaejaaQTrapHearsx
import Derived.Test.YtcnohkakklaejaaBit
namespace Go.Proofs.Ytcnohkakklaejaa.FQTrapHears
set_option linter.unusedVariables false
open Go Go.RowKit Go.Proofs.Ytcnohkakklaejaa.QTrapHears Go.Proofs.Ytcnohkakklaejaa.Bit Go.Proofs.YtcnohkakklaejaaW.PrintWords Go.Proofs.YtcnohkakklaejaaW.PrintMore

theorem u64_in (n : Nat) (h : n < 18446744073709551616) : IntKind.u64.wrap (n : Int) = n := by rw [IntKind.wrap_u64]; omega
theorem w64_in (n : Int) (h : 0 ≤ n) (h2 : n ≤ 9223372036854775807) : wrap64 n = n := by unfold wrap64; omega
theorem two_pow_le {n : Nat} (m : Nat) (h : n ≤ m) : 2 ^ n ≤ 2 ^ m := Nat.pow_le_pow_right (by decide) h

theorem power_l0 (n : Nat) (hn : n ≤ 62) (d : Nat) : ∀ (k i : Nat), i + d = n → d < k → mimesisref01_Power.l0 k n ((2 ^ i : Nat) : Int) i = some ((2 ^ n : Nat) : Int) := by
  induction d with
  | zero =>
    intro k i hi hk
    obtain ⟨k, rfl⟩ : ∃ m, k = m + 1 := ⟨k - 1, by omega⟩
    simp only [mimesisref01_Power.l0]
    rw [if_neg (by omega), show i = n by omega]
  | succ d ih =>
    intro k i hi hk
    obtain ⟨k, rfl⟩ : ∃ m, k = m + 1 := ⟨k - 1, by omega⟩
    simp only [mimesisref01_Power.l0]
    rw [if_pos (by omega)]
    have h2 : (2 : Nat) ^ (i + 1) ≤ 2 ^ 62 := two_pow_le 62 (by omega)
    have e1 : IntKind.u64.wrap (((2 ^ i : Nat) : Int) * 2) = ((2 ^ (i + 1) : Nat) : Int) := by
      rw [show ((2 ^ i : Nat) : Int) * 2 = ((2 ^ (i + 1) : Nat) : Int) by rw [Nat.pow_succ]; push_cast; rfl]
      exact u64_in _ (by omega)
    have e2 : wrap64 ((i : Int) + 1) = ((i + 1 : Nat) : Int) := by rw [w64_in _ (by omega) (by omega)]; push_cast; rfl
    rw [e1, e2]
    exact ih k (i + 1) (by omega) (by omega)

theorem power (n k : Nat) (hn : n ≤ 62) (hk : n < k) : mimesisref01_Power.f k (n : Int) = some ((2 ^ n : Nat) : Int) := by
  have := power_l0 n hn n k 0 (by omega) hk
  simpa [mimesisref01_Power.f] using this

theorem pow_pos_ne (n : Nat) : ¬ ((2 ^ n : Nat) : Int) = 0 := by have := Nat.two_pow_pos n; omega

theorem bits_ref (w at_ n k : Nat) (hw : w < 4294967296) (ha : at_ ≤ 62) (hn : n ≤ 32) (hk : at_ < k) (hk2 : n < k) :
    mimesisref01_Bits.f k (w : Int) (at_ : Int) (n : Int) = some ((w / 2 ^ at_ % 2 ^ n : Nat) : Int) := by
  unfold mimesisref01_Bits.f
  rw [power at_ k ha hk]; simp only [Option.bind_some]
  rw [if_neg (pow_pos_ne _), power n k (by omega) hk2]; simp only [Option.bind_some]
  rw [if_neg (pow_pos_ne _), u64_in w (by omega)]
  have hd : w / 2 ^ at_ ≤ w := Nat.div_le_self _ _
  rw [show Int.tdiv (w : Int) ((2 ^ at_ : Nat) : Int) = ((w / 2 ^ at_ : Nat) : Int) from rfl, u64_in _ (by omega)]
  rw [show Int.tmod ((w / 2 ^ at_ : Nat) : Int) ((2 ^ n : Nat) : Int) = ((w / 2 ^ at_ % 2 ^ n : Nat) : Int) from rfl]
  have hm : w / 2 ^ at_ % 2 ^ n ≤ w / 2 ^ at_ := Nat.mod_le _ _
  generalize w / 2 ^ at_ % 2 ^ n = r at *
  congr 1
  omega


end Go.Proofs.Ytcnohkakklaejaa.FQTrapHears
