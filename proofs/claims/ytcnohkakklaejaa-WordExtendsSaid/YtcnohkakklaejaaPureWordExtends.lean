/-
  WordExtends: for every word and every width the program's Extend and Signed answer as the reference's, or tell that there is no such width. No condition.
-/
import Derived.Test.YtcnohkakklaejaaPWordExtendsx1
import Derived.Test.YtcnohkakklaejaaFPowerPWordExtends
namespace Go.Proofs.Ytcnohkakklaejaa.Pure
open Go Go.RowKit Go.Proofs.Ytcnohkakklaejaa.PWordExtends Go.Proofs.YtcnohkakklaejaaW.PrintWords Go.Proofs.YtcnohkakklaejaaW.PrintLast Go.Proofs.YtcnohkakklaejaaW.PrintMore Go.Proofs.Ytcnohkakklaejaa.Bit Go.Proofs.Ytcnohkakklaejaa.FPWordExtends

set_option linter.unusedVariables false
set_option linter.unusedSimpArgs false

theorem we_awake_at : mimesislaw01_awake.f 20 = some true := by kernel_rfl
theorem we_awake (k : Nat) (hk : 20 ≤ k) : mimesislaw01_awake.f k = some true :=
  at_rounds (g := mimesislaw01_awake.f) mimesislaw01_awake.mono hk we_awake_at

theorem we_signed (x : Nat) (hx : x < 4294967296) : ∃ r, word_Signed.f (x : Int) = some r ∧ mimesisref01_Signed.f (x : Int) = some r := by
  unfold word_Signed.f mimesisref01_Signed.f
  refine ⟨_, rfl, ?_⟩
  unfold wrap64 wrap32
  split <;> (rw [Option.some.injEq]; omega)

/-- The lowest bits as a signed number, in numbers. -/
def ext (x n : Nat) : Nat := if 2 ^ (n - 1) ≤ x % 2 ^ n then x % 2 ^ n + 4294967296 - 2 ^ n else x % 2 ^ n

theorem we_ext (x n : Nat) (hx : x < 4294967296) (h1 : 1 ≤ n) (h : n ≤ 32) : word_Extend.f (x : Int) (n : Int) = some ((ext x n : Int), 0) := by
  unfold word_Extend.f
  rw [if_neg (by omega), if_neg (by omega), show wrap64 (32 - (n : Int)) = ((32 - n : Nat) : Int) by unfold wrap64; omega, u64_in _ (by omega), if_pos (by omega)]
  unfold shl shr
  rw [Nat.min_eq_left (show ((32 - n : Nat) : Int).toNat ≤ IntKind.u32.bits by simp [IntKind.bits]), Nat.min_eq_left (show ((32 - n : Nat) : Int).toNat ≤ IntKind.i32.bits by simp [IntKind.bits]), IntKind.wrap_u32']
  have e1 : (x : Int) * 2 ^ ((32 - n : Nat) : Int).toNat % 4294967296 = ((x % 2 ^ n * 2 ^ (32 - n) : Nat) : Int) := by
    rw [Int.toNat_natCast]
    have : x * 2 ^ (32 - n) % 4294967296 = x % 2 ^ n * 2 ^ (32 - n) := by
      rw [show (4294967296 : Nat) = 2 ^ n * 2 ^ (32 - n) by rw [← Nat.pow_add, show n + (32 - n) = 32 by omega], Nat.mul_mod_mul_right]
    rw [← this, show ((2 : Int) ^ (32 - n)) = ((2 ^ (32 - n) : Nat) : Int) by push_cast; rfl, ← Int.natCast_mul]
    generalize x * 2 ^ (32 - n) = z
    omega
  rw [e1, Int.toNat_natCast]
  have hy : x % 2 ^ n < 2 ^ n := Nat.mod_lt _ (Nat.two_pow_pos n)
  have hn : 2 ^ n = 2 * 2 ^ (n - 1) := by rw [← Nat.pow_succ', show (n - 1).succ = n by omega]
  have hm : 2 ^ (32 - n) * 2 ^ n = 4294967296 := by rw [← Nat.pow_add, show 32 - n + n = 32 by omega]
  unfold ext
  generalize x % 2 ^ n = y at *
  have hq0 : 0 < 2 ^ (32 - n) := Nat.two_pow_pos _
  have hp0 : 0 < 2 ^ (n - 1) := Nat.two_pow_pos _
  rw [show ((2 : Int) ^ (32 - n)) = ((2 ^ (32 - n) : Nat) : Int) by push_cast; rfl]
  generalize 2 ^ (32 - n) = q at *
  generalize 2 ^ (n - 1) = p at *
  rw [hn] at hm hy ⊢
  have hm' : q * p = 2147483648 := by
    have : q * (2 * p) = 2 * (q * p) := by rw [Nat.mul_left_comm]
    omega
  congr 2
  by_cases h2 : p ≤ y
  · rw [if_pos h2]
    have hge : q * p ≤ y * q := by rw [Nat.mul_comm y]; exact Nat.mul_le_mul_left _ h2
    have hlt : y * q < 4294967296 := by
      have : y * q < 2 * p * q := Nat.mul_lt_mul_of_pos_right hy hq0
      rw [Nat.mul_comm (2 * p)] at this; omega
    rw [show wrap32 ((y * q : Nat) : Int) = ((y * q : Nat) : Int) - 4294967296 by unfold wrap32; omega]
    have e2 : (((y * q : Nat) : Int) - 4294967296) = ((y : Int) - 2 * p) * q := by
      rw [Int.sub_mul, ← Int.natCast_mul, show (2 * (p : Int) * (q : Int)) = ((q * (2 * p) : Nat) : Int) by push_cast; rw [Int.mul_comm (q : Int)], hm]; rfl
    rw [e2, Int.mul_ediv_cancel _ (by omega)]
    have : q ≤ 2147483648 := by rw [← hm']; exact Nat.le_mul_of_pos_right _ hp0
    have : p ≤ 2147483648 := by rw [← hm']; exact Nat.le_mul_of_pos_left _ hq0
    omega
  · rw [if_neg h2]
    have hlt : y * q < q * p := by rw [Nat.mul_comm q]; exact Nat.mul_lt_mul_of_pos_right (by omega) hq0
    rw [show wrap32 ((y * q : Nat) : Int) = ((y * q : Nat) : Int) by unfold wrap32; omega]
    rw [show (((y * q : Nat) : Int) / (q : Int)) = ((y * q / q : Nat) : Int) from rfl, Nat.mul_div_cancel _ hq0]
    have : p ≤ 2147483648 := by rw [← hm']; exact Nat.le_mul_of_pos_left _ hq0
    omega

theorem we_ref (x n k : Nat) (hx : x < 4294967296) (h1 : 1 ≤ n) (h : n ≤ 32) (hk : 40 < k) : mimesisref01_Extend.f k (x : Int) (n : Int) = some (ext x n : Int) := by
  unfold mimesisref01_Extend.f
  rw [power n k (by omega) (by omega)]; simp only [Option.bind_some]
  rw [if_neg (pow_pos_ne _), show wrap64 ((n : Int) - 1) = ((n - 1 : Nat) : Int) by unfold wrap64; omega, power (n - 1) k (by omega) (by omega)]; simp only [Option.bind_some]
  rw [u64_in x (by omega), show Int.tmod (x : Int) ((2 ^ n : Nat) : Int) = ((x % 2 ^ n : Nat) : Int) from rfl]
  have hy : x % 2 ^ n < 2 ^ n := Nat.mod_lt _ (Nat.two_pow_pos n)
  have hp : 2 ^ n ≤ 2 ^ 32 := two_pow_le 32 h
  unfold ext
  generalize x % 2 ^ n = y at *
  by_cases h2 : 2 ^ (n - 1) ≤ y
  · have p32 := power 32 k (by omega) (by omega)
    rw [if_pos (by omega), if_pos h2, show (32 : Int) = ((32 : Nat) : Int) from rfl, p32]; simp only [Option.bind_some]
    rw [← Int.natCast_add, u64_in _ (by omega), show (((y + 2 ^ 32 : Nat) : Int) - ((2 ^ n : Nat) : Int)) = ((y + 4294967296 - 2 ^ n : Nat) : Int) by omega, u64_in _ (by omega)]
    congr 1
    omega
  · rw [if_neg (by omega), if_neg h2]
    congr 1
    omega

theorem WordExtends : mimesislaw01_WordExtends.Pure := by
  intro a0 a1 w0 w1
  obtain ⟨x, rfl, hx⟩ := wf_u32 w0
  refine ⟨51, ?_⟩
  obtain ⟨r, hs, hr⟩ := we_signed x hx
  unfold mimesislaw01_WordExtends.f
  rw [hs, hr]
  have ha := we_awake 50 (by decide)
  by_cases h1 : a1 < 1
  · have e : word_Extend.f (x : Int) a1 = some (0, 4) := by unfold word_Extend.f; rw [if_pos h1]
    rw [e]; simp only [Option.bind_some, if_true, if_pos h1]
    simp only [mimesislaw01_WordExtends.j0, if_true, ha, Option.bind_some]
  · by_cases h2 : a1 > 32
    · have e : word_Extend.f (x : Int) a1 = some (0, 4) := by unfold word_Extend.f; rw [if_neg h1, if_pos h2]
      rw [e]; simp only [Option.bind_some, if_true, if_neg h1, decide_eq_true h2]
      simp only [mimesislaw01_WordExtends.j0, if_true, ha, Option.bind_some]
    · obtain ⟨n, rfl⟩ : ∃ n : Nat, a1 = n := ⟨a1.toNat, by omega⟩
      have e := we_ext x n hx (by omega) (by omega)
      have f := we_ref x n 50 hx (by omega) (by omega) (by decide)
      rw [e]; simp only [Option.bind_some, if_true, if_neg h1, decide_eq_false h2]
      simp only [mimesislaw01_WordExtends.j0, if_true, ha, Option.bind_some, f]
      simp

end Go.Proofs.Ytcnohkakklaejaa.Pure
