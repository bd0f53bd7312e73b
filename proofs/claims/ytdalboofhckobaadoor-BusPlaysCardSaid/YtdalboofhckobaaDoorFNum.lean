/- What the program's and the reference's Number, Bytes, SameBytes answer, in plain lists (over the functions printed for QBusPlays). -/
import Derived.Laws.BitsAllLaws
import GoSem.Claim
import Derived.Test.YtdalboofhckobaaDoorQBusPlaysx
namespace Go.Proofs.YtdalboofhckobaaDoor.Bit
open Go

theorem tb_mask (n at_ i : Nat) : ((2 ^ n - 1) * 2 ^ at_).testBit i = (decide (at_ ≤ i) && decide (i < at_ + n)) := by
  rw [← Nat.shiftLeft_eq, Nat.testBit_shiftLeft, Nat.testBit_two_pow_sub_one]
  by_cases h : at_ ≤ i <;> simp [h] <;> omega

theorem tb_mul (y at_ i : Nat) : (y * 2 ^ at_).testBit i = (decide (at_ ≤ i) && y.testBit (i - at_)) := by
  rw [← Nat.shiftLeft_eq, Nat.testBit_shiftLeft]

/-- A field, cut out in its place. -/
theorem and_field (x n at_ : Nat) : x &&& (2 ^ n - 1) * 2 ^ at_ = x / 2 ^ at_ % 2 ^ n * 2 ^ at_ := by
  apply Nat.eq_of_testBit_eq
  intro i
  rw [Nat.testBit_and, tb_mask, tb_mul, Nat.testBit_mod_two_pow, Nat.testBit_div_two_pow]
  by_cases h : at_ ≤ i
  · rw [show i - at_ + at_ = i by omega]
    simp only [h, decide_true, Bool.true_and]
    rw [Bool.and_comm]
    congr 1
    by_cases h2 : i < at_ + n <;> simp [h2] <;> omega
  · simp [h]

/-- A number in three parts: below a field, the field, above it. -/
theorem parts (x n at_ : Nat) : x = 2 ^ at_ * (2 ^ n * (x / 2 ^ (at_ + n)) + x / 2 ^ at_ % 2 ^ n) + x % 2 ^ at_ := by
  have h1 : x / 2 ^ (at_ + n) = x / 2 ^ at_ / 2 ^ n := by rw [Nat.pow_add, Nat.div_div_eq_div_mul]
  rw [h1, Nat.div_add_mod, Nat.div_add_mod]

/-- A number without a field. -/
theorem andNot_field (x n at_ : Nat) (hx : x < 4294967296) (h : at_ + n ≤ 32) :
    x &&& (4294967295 - (2 ^ n - 1) * 2 ^ at_) = x - x / 2 ^ at_ % 2 ^ n * 2 ^ at_ := by
  have hm : (2 ^ n - 1) * 2 ^ at_ < 2 ^ 32 := by
    have h1 : 2 ^ n * 2 ^ at_ ≤ 2 ^ 32 := by rw [← Nat.pow_add]; exact Nat.pow_le_pow_right (by decide) (by omega)
    have h2 : 0 < 2 ^ at_ := Nat.two_pow_pos _
    have h3 : (2 ^ n - 1) * 2 ^ at_ = 2 ^ n * 2 ^ at_ - 2 ^ at_ := by rw [Nat.sub_mul, Nat.one_mul]
    have h4 : 0 < 2 ^ n := Nat.two_pow_pos _
    have h5 : 2 ^ at_ ≤ 2 ^ n * 2 ^ at_ := Nat.le_mul_of_pos_left _ h4
    omega
  have e : x - x / 2 ^ at_ % 2 ^ n * 2 ^ at_ = 2 ^ at_ * (2 ^ n * (x / 2 ^ (at_ + n))) + x % 2 ^ at_ := by
    have hp := parts x n at_
    generalize x / 2 ^ (at_ + n) = hi at *
    generalize x / 2 ^ at_ % 2 ^ n = mid at *
    rw [Nat.mul_add] at hp
    have : mid * 2 ^ at_ = 2 ^ at_ * mid := Nat.mul_comm _ _
    omega
  rw [e]
  apply Nat.eq_of_testBit_eq
  intro i
  rw [Nat.testBit_and, show 4294967295 - (2 ^ n - 1) * 2 ^ at_ = 2 ^ 32 - ((2 ^ n - 1) * 2 ^ at_ + 1) by omega, Nat.testBit_two_pow_sub_succ hm, tb_mask]
  rw [Nat.testBit_two_pow_mul_add _ (Nat.mod_lt _ (Nat.two_pow_pos _)), Nat.testBit_mod_two_pow]
  by_cases h1 : i < at_
  · have : ¬ at_ ≤ i := by omega
    simp only [h1, this, if_true, decide_true, decide_false, Bool.false_and, Bool.not_false, Bool.and_true, Bool.true_and]
    by_cases h2 : i < 32
    · simp [h2]
    · omega
  · rw [if_neg h1]
    have h1' : at_ ≤ i := by omega
    rw [show 2 ^ n * (x / 2 ^ (at_ + n)) = x / 2 ^ (at_ + n) * 2 ^ n from Nat.mul_comm _ _, tb_mul, Nat.testBit_div_two_pow]
    by_cases h2 : i < at_ + n
    · have : ¬ n ≤ i - at_ := by omega
      simp [h1', h2, this]
    · have h3 : n ≤ i - at_ := by omega
      rw [show i - at_ - n + (at_ + n) = i by omega]
      simp only [h1', h2, h3, decide_true, decide_false, Bool.and_false, Bool.not_false, Bool.and_true, Bool.true_and]
      by_cases h4 : i < 32
      · simp [h4]
      · have : x.testBit i = false := Nat.testBit_lt_two_pow (Nat.lt_of_lt_of_le hx (by rw [show 4294967296 = 2 ^ 32 from rfl]; exact Nat.pow_le_pow_right (by decide) (by omega)))
        simp [this]

/-- A field joined to a number that has noughts there. -/
theorem or_field (x y n at_ : Nat) (h0 : x / 2 ^ at_ % 2 ^ n = 0) (hy : y < 2 ^ n) : x ||| y * 2 ^ at_ = x + y * 2 ^ at_ := by
  have hp := parts x n at_
  rw [h0, Nat.add_zero] at hp
  have e : x + y * 2 ^ at_ = 2 ^ at_ * (2 ^ n * (x / 2 ^ (at_ + n)) + y) + x % 2 ^ at_ := by
    rw [Nat.mul_add, Nat.mul_comm y]
    generalize x / 2 ^ (at_ + n) = hi at *
    omega
  rw [e]
  apply Nat.eq_of_testBit_eq
  intro i
  rw [Nat.testBit_or, tb_mul, Nat.testBit_two_pow_mul_add _ (Nat.mod_lt _ (Nat.two_pow_pos _)), Nat.testBit_mod_two_pow]
  by_cases h1 : i < at_
  · have : ¬ at_ ≤ i := by omega
    simp [h1, this]
  · rw [if_neg h1, Nat.testBit_two_pow_mul_add _ hy, Nat.testBit_div_two_pow]
    have h1' : at_ ≤ i := by omega
    by_cases h2 : i - at_ < n
    · rw [if_pos h2]
      have : x.testBit i = false := by
        have h5 : (x / 2 ^ at_ % 2 ^ n).testBit (i - at_) = false := by rw [h0]; simp
        rw [Nat.testBit_mod_two_pow, Nat.testBit_div_two_pow, show i - at_ + at_ = i by omega] at h5
        simpa [h2] using h5
      simp [h1', this]
    · rw [if_neg h2, show i - at_ - n + (at_ + n) = i by omega]
      have : y.testBit (i - at_) = false := Nat.testBit_lt_two_pow (Nat.lt_of_lt_of_le hy (Nat.pow_le_pow_right (by decide) (by omega)))
      simp [this]

/-! ### The same of words as integers -/

theorem wf_u32 {x : Int} (h : (Lit.int .u32 x).wf = true) : ∃ n : Nat, x = n ∧ n < 4294967296 := by
  have : 0 ≤ x ∧ x < 4294967296 := by simp [Lit.wf, IntKind.min, IntKind.max, IntKind.bits, IntKind.signed] at h; omega
  exact ⟨x.toNat, by omega, by omega⟩

end Go.Proofs.YtdalboofhckobaaDoor.Bit

namespace Go.Proofs.YtdalboofhckobaaDoor.FQBusPlays
set_option linter.unusedVariables false
open Go Go.RowKit Go.Proofs.YtdalboofhckobaaDoor.QBusPlays Go.Proofs.YtdalboofhckobaaDoor.Bit Go.Proofs.YtdalboofhckobaaDoorW.PrintWords Go.Proofs.YtdalboofhckobaaDoorW.PrintMore

theorem u64_in (n : Nat) (h : n < 18446744073709551616) : IntKind.u64.wrap (n : Int) = n := by rw [IntKind.wrap_u64]; omega
theorem w64_in (n : Int) (h : 0 ≤ n) (h2 : n ≤ 9223372036854775807) : wrap64 n = n := by unfold wrap64; omega
theorem two_pow_le {n : Nat} (m : Nat) (h : n ≤ m) : 2 ^ n ≤ 2 ^ m := Nat.pow_le_pow_right (by decide) h

theorem power_l0 (n : Nat) (hn : n ≤ 62) (d : Nat) : ∀ (k i : Nat), i + d = n → d < k → mimesisref01_Power.l0 k n ((2 ^ i : Nat) : Int) i = some ((2 ^ n : Nat) : Int) := by
  induction d with
  | zero =>
    intro k i hi hk
    obtain ⟨k, rfl⟩ : ∃ m, k = m + 1 := ⟨k - 1, by omega⟩
    simp only [mimesisref01_Power.l0]
    rw [if_neg (by omega), show i = n by omega]
  | succ d ih =>
    intro k i hi hk
    obtain ⟨k, rfl⟩ : ∃ m, k = m + 1 := ⟨k - 1, by omega⟩
    simp only [mimesisref01_Power.l0]
    rw [if_pos (by omega)]
    have h2 : (2 : Nat) ^ (i + 1) ≤ 2 ^ 62 := two_pow_le 62 (by omega)
    have e1 : IntKind.u64.wrap (((2 ^ i : Nat) : Int) * 2) = ((2 ^ (i + 1) : Nat) : Int) := by
      rw [show ((2 ^ i : Nat) : Int) * 2 = ((2 ^ (i + 1) : Nat) : Int) by rw [Nat.pow_succ]; push_cast; rfl]
      exact u64_in _ (by omega)
    have e2 : wrap64 ((i : Int) + 1) = ((i + 1 : Nat) : Int) := by rw [w64_in _ (by omega) (by omega)]; push_cast; rfl
    rw [e1, e2]
    exact ih k (i + 1) (by omega) (by omega)

theorem power (n k : Nat) (hn : n ≤ 62) (hk : n < k) : mimesisref01_Power.f k (n : Int) = some ((2 ^ n : Nat) : Int) := by
  have := power_l0 n hn n k 0 (by omega) hk
  simpa [mimesisref01_Power.f] using this

theorem pow_pos_ne (n : Nat) : ¬ ((2 ^ n : Nat) : Int) = 0 := by have := Nat.two_pow_pos n; omega

theorem put_num (w at_ n x : Nat) (hw : w < 4294967296) (h : at_ + n ≤ 32) : w - w / 2 ^ at_ % 2 ^ n * 2 ^ at_ + x % 2 ^ n * 2 ^ at_ < 4294967296 ∧ w / 2 ^ at_ % 2 ^ n * 2 ^ at_ ≤ w := by
  have hp := parts w n at_
  have h1 : w / 2 ^ at_ % 2 ^ n < 2 ^ n := Nat.mod_lt _ (Nat.two_pow_pos _)
  have h2 : x % 2 ^ n < 2 ^ n := Nat.mod_lt _ (Nat.two_pow_pos _)
  have h3 : w / 2 ^ (at_ + n) < 2 ^ (32 - (at_ + n)) := by
    rw [Nat.div_lt_iff_lt_mul (Nat.two_pow_pos _), ← Nat.pow_add, show 32 - (at_ + n) + (at_ + n) = 32 by omega]; exact hw
  have h4 : w % 2 ^ at_ < 2 ^ at_ := Nat.mod_lt _ (Nat.two_pow_pos _)
  generalize w / 2 ^ (at_ + n) = hi at *
  generalize w / 2 ^ at_ % 2 ^ n = mid at *
  generalize w % 2 ^ at_ = lo at *
  generalize x % 2 ^ n = y at *
  have e32 : (4294967296 : Nat) = 2 ^ at_ * (2 ^ n * 2 ^ (32 - (at_ + n))) := by rw [← Nat.pow_add, ← Nat.pow_add, show at_ + (n + (32 - (at_ + n))) = 32 by omega]
  have h5 : 2 ^ n * hi + y + 1 ≤ 2 ^ n * 2 ^ (32 - (at_ + n)) := by
    have : 2 ^ n * (hi + 1) ≤ 2 ^ n * 2 ^ (32 - (at_ + n)) := Nat.mul_le_mul_left _ h3
    rw [Nat.mul_add, Nat.mul_one] at this; omega
  have h6 : 2 ^ at_ * (2 ^ n * hi + y + 1) ≤ 4294967296 := by rw [e32]; exact Nat.mul_le_mul_left _ h5
  rw [Nat.mul_comm mid, Nat.mul_comm y]
  simp only [Nat.mul_add, Nat.mul_one] at hp h6
  omega

end Go.Proofs.YtdalboofhckobaaDoor.FQBusPlays

namespace Go.Proofs.YtdalboofhckobaaDoor.FQBusPlays
set_option linter.unusedVariables false
open Go Go.RowKit Go.Proofs.YtdalboofhckobaaDoor.QBusPlays Go.Proofs.YtdalboofhckobaaDoor.Bit Go.Proofs.YtdalboofhckobaaDoorW.PrintWords Go.Proofs.YtdalboofhckobaaDoorW.PrintMore

theorem shr_u32 (w n : Nat) (hn : n ≤ 32) : shr .u32 (w : Int) (n : Int) = ((w / 2 ^ n : Nat) : Int) := by
  unfold shr
  rw [Nat.min_eq_left (by simpa [IntKind.bits] using hn)]
  simp
theorem shl_u32 (w n : Nat) (hn : n ≤ 32) : shl .u32 (w : Int) (n : Int) = ((w * 2 ^ n % 4294967296 : Nat) : Int) := by
  unfold shl
  rw [Nat.min_eq_left (by simpa [IntKind.bits] using hn), IntKind.wrap_u32']
  simp

/-- May a place and a width be? -/
def Fits (a n : Int) : Prop := 0 ≤ a ∧ a ≤ 31 ∧ 1 ≤ n ∧ n ≤ 32 - a
theorem and_low (x n : Nat) (hn : n ≤ 32) (hx : x < 4294967296) : Go.bits .and .u32 (x : Int) ((2 ^ n - 1 : Nat) : Int) = ((x % 2 ^ n : Nat) : Int) := by
  have : 2 ^ n ≤ 2 ^ 32 := two_pow_le 32 hn
  have h0 := Nat.two_pow_pos n
  rw [u32_and_nat x _ hx (by omega), Nat.and_two_pow_sub_one_eq_mod]

end Go.Proofs.YtdalboofhckobaaDoor.FQBusPlays

namespace Go.Proofs.YtdalboofhckobaaDoor.FQBusPlays
open Go Go.RowKit Go.Proofs.YtdalboofhckobaaDoor.QBusPlays Go.Proofs.YtdalboofhckobaaDoor.Bit Go.Proofs.YtdalboofhckobaaDoorW.PrintWords Go.Proofs.YtdalboofhckobaaDoorW.PrintMore
set_option linter.unusedVariables false
set_option linter.unusedSimpArgs false

/-- Bytes' number, the lowest one first. -/
def num : List Nat → Nat
  | [] => 0
  | x :: r => x + 256 * num r
theorem num_append (a b : List Nat) : num (a ++ b) = num a + 2 ^ (8 * a.length) * num b := by
  induction a with
  | nil => simp [num]
  | cons x r ih =>
    simp only [List.cons_append, num, ih, List.length_cons, Nat.mul_add, Nat.mul_one, Nat.pow_add]
    have : 256 * (2 ^ (8 * r.length) * num b) = 2 ^ (8 * r.length) * 2 ^ 8 * num b := by rw [Nat.mul_comm 256, Nat.mul_right_comm]
    omega
theorem num_lt (l : List Nat) (h : ∀ x ∈ l, x < 256) : num l < 2 ^ (8 * l.length) := by
  induction l with
  | nil => simp [num]
  | cons x r ih =>
    have h1 := ih (fun y hy => h y (by simp [hy]))
    have h2 := h x (by simp)
    simp only [num, List.length_cons, Nat.mul_add, Nat.mul_one, Nat.pow_add]
    omega
theorem num_take (m : List Nat) (i : Nat) (h : i < m.length) : num (m.take (i + 1)) = num (m.take i) + m[i] * 2 ^ (8 * i) := by
  rw [List.take_succ_eq_append_getElem h, num_append, List.length_take, Nat.min_eq_left (by omega)]
  simp [num, Nat.mul_comm]
theorem num_take_lt (m : List Nat) (hm : ∀ x ∈ m, x < 256) (i : Nat) (h : i ≤ m.length) : num (m.take i) < 2 ^ (8 * i) := by
  have := num_lt (m.take i) (fun x hx => hm x (List.mem_of_mem_take hx))
  rwa [List.length_take, Nat.min_eq_left h] at this

def ints (m : List Nat) : List Int := m.map fun (x : Nat) => (x : Int)
theorem ints_length (m : List Nat) : (ints m).length = m.length := by simp [ints]
theorem rd_ints (m : List Nat) (i : Nat) (h : i < m.length) : rd (ints m) (i : Int) = ((m[i] : Nat) : Int) := by
  simp [rd, ints, List.getD_eq_getElem?_getD, h]
theorem of_u8 (l : List Int) (h : ∀ x ∈ l, (Lit.int .u8 x).wf = true) : ∃ m : List Nat, l = ints m ∧ ∀ x ∈ m, x < 256 := by
  refine ⟨l.map Int.toNat, ?_, ?_⟩
  · apply List.ext_getElem
    · simp [ints]
    · intro i h1 h2
      have := h _ (List.getElem_mem h1)
      simp [Lit.wf, IntKind.min, IntKind.max, IntKind.bits, IntKind.signed] at this
      simp [ints]
      omega
  · intro x hx
    simp only [List.mem_map] at hx
    obtain ⟨y, hy, rfl⟩ := hx
    have := h y hy
    simp [Lit.wf, IntKind.min, IntKind.max, IntKind.bits, IntKind.signed] at this
    omega

theorem number_l0 (m : List Nat) (hm : ∀ x ∈ m, x < 256) (h4 : m.length ≤ 4) (d : Nat) : ∀ (k i : Nat), i + d = m.length → d < k →
    word_Number.l0 k (ints m) ((num (m.take i) : Nat) : Int) (m.length : Int) (i : Int) = some (((num m : Nat) : Int), 0) := by
  induction d with
  | zero =>
    intro k i hi hk
    obtain ⟨k, rfl⟩ : ∃ m, k = m + 1 := ⟨k - 1, by omega⟩
    simp only [word_Number.l0]
    rw [if_neg (by omega), List.take_of_length_le (by omega)]
  | succ d ih =>
    intro k i hi hk
    obtain ⟨k, rfl⟩ : ∃ m, k = m + 1 := ⟨k - 1, by omega⟩
    simp only [word_Number.l0]
    have h8 : wrap64 (8 * (i : Int)) = ((8 * i : Nat) : Int) := by unfold wrap64; omega
    rw [if_pos (by omega), if_pos (by omega), if_pos (by rw [ints_length]; omega), h8, u64_in _ (by omega), if_pos (by omega), rd_ints m i (by omega)]
    have hb := hm _ (List.getElem_mem (show i < m.length by omega))
    have ht := num_take_lt m hm i (by omega)
    have hs := num_take m i (by omega)
    have hl := num_take_lt m hm (i + 1) (by omega)
    have hp : 2 ^ (8 * (i + 1)) ≤ 2 ^ 32 := two_pow_le 32 (by omega)
    have e1 : ((m[i] : Nat) : Int) % 4294967296 = ((m[i] : Nat) : Int) := by omega
    rw [e1, shl_u32 _ _ (by omega), Nat.mod_eq_of_lt (by omega), u32_or_nat _ _ (by omega) (by omega), or_field _ _ 8 (8 * i) (by rw [Nat.div_eq_of_lt ht]) (by omega), ← hs]
    rw [show wrap64 ((i : Int) + 1) = ((i + 1 : Nat) : Int) by unfold wrap64; omega]
    exact ih k (i + 1) (by omega) (by omega)
theorem width_yes {n : Int} (h : n = 1 ∨ n = 2 ∨ n = 4) : word_width.f n = some true ∧ mimesisref01_Width.f n = some true := by
  rcases h with rfl | rfl | rfl <;> exact ⟨rfl, rfl⟩
theorem width_no {n : Int} (h : ¬ (n = 1 ∨ n = 2 ∨ n = 4)) : word_width.f n = some false ∧ mimesisref01_Width.f n = some false := by
  have h1 : ¬ n = 1 := fun e => h (.inl e)
  have h2 : ¬ n = 2 := fun e => h (.inr (.inl e))
  have h3 : (n == 4) = false := beq_eq_false_iff_ne.2 fun e => h (.inr (.inr e))
  unfold word_width.f mimesisref01_Width.f
  rw [if_neg h1, if_neg h2, h3]
  exact ⟨rfl, rfl⟩
theorem number_yes (m : List Nat) (hm : ∀ x ∈ m, x < 256) (h : (m.length : Int) = 1 ∨ (m.length : Int) = 2 ∨ (m.length : Int) = 4) (k : Nat) (hk : 5 < k) :
    word_Number.f k (ints m) = some (((num m : Nat) : Int), 0) := by
  unfold word_Number.f
  rw [ints_length, (width_yes h).1]; simp only [Option.bind_some, if_true]
  have := number_l0 m hm (by omega) m.length k 0 (by omega) (by omega)
  simpa [num] using this
theorem number_no (l : List Int) (h : ¬ ((l.length : Int) = 1 ∨ (l.length : Int) = 2 ∨ (l.length : Int) = 4)) (k : Nat) : word_Number.f k l = some (0, 4) := by
  unfold word_Number.f
  rw [(width_no h).1]; simp

theorem refnum_l0 (m : List Nat) (hm : ∀ x ∈ m, x < 256) (h4 : m.length ≤ 4) (d : Nat) : ∀ (k i : Nat), i + d = m.length → d + 40 < k →
    mimesisref01_Number.l0 k (ints m) ((num (m.take i) : Nat) : Int) (i : Int) = some ((num m : Nat) : Int) := by
  induction d with
  | zero =>
    intro k i hi hk
    obtain ⟨k, rfl⟩ : ∃ m, k = m + 1 := ⟨k - 1, by omega⟩
    simp only [mimesisref01_Number.l0]
    have ht := num_take_lt m hm i (by omega)
    have hp : 2 ^ (8 * i) ≤ 2 ^ 32 := two_pow_le 32 (by omega)
    rw [if_neg (by rw [ints_length]; omega), List.take_of_length_le (by omega)]
    rw [List.take_of_length_le (by omega)] at ht
    rw [Option.some.injEq]; omega
  | succ d ih =>
    intro k i hi hk
    obtain ⟨k, rfl⟩ : ∃ m, k = m + 1 := ⟨k - 1, by omega⟩
    simp only [mimesisref01_Number.l0]
    have h8 : wrap64 (8 * (i : Int)) = ((8 * i : Nat) : Int) := by unfold wrap64; omega
    rw [if_pos (by rw [ints_length]; omega), if_pos (by omega), h8, power (8 * i) k (by omega) (by omega), rd_ints m i (by omega)]; simp only [Option.bind_some]
    have hb := hm _ (List.getElem_mem (show i < m.length by omega))
    have hs := num_take m i (by omega)
    have hl := num_take_lt m hm (i + 1) (by omega)
    have hp : 2 ^ (8 * (i + 1)) ≤ 2 ^ 32 := two_pow_le 32 (by omega)
    rw [u64_in m[i] (by omega), ← Int.natCast_mul, u64_in _ (by omega), ← Int.natCast_add, u64_in _ (by omega), ← hs]
    rw [show wrap64 ((i : Int) + 1) = ((i + 1 : Nat) : Int) by unfold wrap64; omega]
    exact ih k (i + 1) (by omega) (by omega)
theorem refnum (m : List Nat) (hm : ∀ x ∈ m, x < 256) (h4 : m.length ≤ 4) (k : Nat) (hk : 50 < k) : mimesisref01_Number.f k (ints m) = some ((num m : Nat) : Int) := by
  have := refnum_l0 m hm h4 m.length k 0 (by omega) (by omega)
  simpa [mimesisref01_Number.f, num] using this

/-- A word's lowest bytes. -/
def bytesL (w n : Nat) : List Nat := (List.range n).map fun i => w / 2 ^ (8 * i) % 256
theorem bytesL_length (w n : Nat) : (bytesL w n).length = n := by simp [bytesL]
theorem bytesL_succ (w n : Nat) : bytesL w (n + 1) = bytesL w n ++ [w / 2 ^ (8 * n) % 256] := by simp [bytesL, List.range_succ]
theorem bytesL_lt (w n : Nat) : ∀ x ∈ bytesL w n, x < 256 := by
  intro x hx
  simp only [bytesL, List.mem_map] at hx
  obtain ⟨i, _, rfl⟩ := hx
  exact Nat.mod_lt _ (by decide)
theorem num_bytesL (w n : Nat) : num (bytesL w n) = w % 2 ^ (8 * n) := by
  induction n with
  | zero => simp [bytesL, num, Nat.mod_one]
  | succ n ih =>
    rw [bytesL_succ, num_append, ih, bytesL_length]
    simp only [num, Nat.mul_zero, Nat.add_zero]
    rw [Nat.mul_add, Nat.mul_one, Nat.pow_add, Nat.mod_mul]
theorem ints_snoc (m : List Nat) (x : Nat) : ints (m ++ [x]) = ints m ++ [(x : Int)] := by simp [ints]
theorem bytes_l0 (w n : Nat) (hw : w < 4294967296) (h4 : n ≤ 4) (d : Nat) : ∀ (k i : Nat), i + d = n → d < k →
    word_Bytes.l0 k (w : Int) (ints (bytesL w i)) (n : Int) (i : Int) = some (ints (bytesL w n), 0) := by
  induction d with
  | zero =>
    intro k i hi hk
    obtain ⟨k, rfl⟩ : ∃ m, k = m + 1 := ⟨k - 1, by omega⟩
    simp only [word_Bytes.l0]
    rw [if_neg (by omega), show i = n by omega]
  | succ d ih =>
    intro k i hi hk
    obtain ⟨k, rfl⟩ : ∃ m, k = m + 1 := ⟨k - 1, by omega⟩
    simp only [word_Bytes.l0]
    have h8 : wrap64 (8 * (i : Int)) = ((8 * i : Nat) : Int) := by unfold wrap64; omega
    rw [if_pos (by omega), h8, u64_in _ (by omega), if_pos (by omega), if_pos (by rw [ints_length, bytesL_length]; omega), shr_u32 _ _ (by omega)]
    rw [show (((w / 2 ^ (8 * i) : Nat) : Int) % 256) = ((w / 2 ^ (8 * i) % 256 : Nat) : Int) from rfl, ← ints_snoc, ← bytesL_succ]
    rw [show wrap64 ((i : Int) + 1) = ((i + 1 : Nat) : Int) by unfold wrap64; omega]
    exact ih k (i + 1) (by omega) (by omega)
theorem bytes_yes (w n : Nat) (hw : w < 4294967296) (h : (n : Int) = 1 ∨ (n : Int) = 2 ∨ (n : Int) = 4) (k : Nat) (hk : 5 < k) : word_Bytes.f k (w : Int) (n : Int) = some (ints (bytesL w n), 0) := by
  unfold word_Bytes.f
  rw [(width_yes h).1]; simp only [Option.bind_some, if_true]
  have := bytes_l0 w n hw (by omega) n k 0 (by omega) (by omega)
  simpa [bytesL, ints] using this
theorem bytes_no (w n : Int) (h : ¬ (n = 1 ∨ n = 2 ∨ n = 4)) (k : Nat) : word_Bytes.f k w n = some ([], 4) := by
  unfold word_Bytes.f
  rw [(width_no h).1]; simp
theorem refbytes_l0 (w n : Nat) (hw : w < 4294967296) (h4 : n ≤ 4) (d : Nat) : ∀ (k i : Nat), i + d = n → d + 40 < k →
    mimesisref01_Bytes.l0 k (w : Int) (n : Int) (ints (bytesL w i)) (i : Int) = some (ints (bytesL w n)) := by
  induction d with
  | zero =>
    intro k i hi hk
    obtain ⟨k, rfl⟩ : ∃ m, k = m + 1 := ⟨k - 1, by omega⟩
    simp only [mimesisref01_Bytes.l0]
    rw [if_neg (by omega), show i = n by omega]
  | succ d ih =>
    intro k i hi hk
    obtain ⟨k, rfl⟩ : ∃ m, k = m + 1 := ⟨k - 1, by omega⟩
    simp only [mimesisref01_Bytes.l0]
    have h8 : wrap64 (8 * (i : Int)) = ((8 * i : Nat) : Int) := by unfold wrap64; omega
    rw [if_pos (by omega), h8, power (8 * i) k (by omega) (by omega)]; simp only [Option.bind_some]
    rw [if_neg (pow_pos_ne _), if_pos (by rw [ints_length, bytesL_length]; omega), u64_in w (by omega)]
    have hd : w / 2 ^ (8 * i) ≤ w := Nat.div_le_self _ _
    rw [show Int.tdiv (w : Int) ((2 ^ (8 * i) : Nat) : Int) = ((w / 2 ^ (8 * i) : Nat) : Int) from rfl, u64_in _ (by omega)]
    rw [show Int.tmod ((w / 2 ^ (8 * i) : Nat) : Int) 256 % 256 = ((w / 2 ^ (8 * i) % 256 : Nat) : Int) by
      rw [show Int.tmod ((w / 2 ^ (8 * i) : Nat) : Int) 256 = ((w / 2 ^ (8 * i) % 256 : Nat) : Int) from rfl]; omega, ← ints_snoc, ← bytesL_succ]
    rw [show wrap64 ((i : Int) + 1) = ((i + 1 : Nat) : Int) by unfold wrap64; omega]
    exact ih k (i + 1) (by omega) (by omega)
theorem refbytes (w n : Nat) (hw : w < 4294967296) (h4 : n ≤ 4) (k : Nat) (hk : 50 < k) : mimesisref01_Bytes.f k (w : Int) (n : Int) = some (ints (bytesL w n)) := by
  have := refbytes_l0 w n hw h4 n k 0 (by omega) (by omega)
  simpa [mimesisref01_Bytes.f, bytesL, ints] using this

theorem same_l0 (l : List Int) (hl : l.length ≤ 9223372036854775806) (d : Nat) : ∀ (k i : Nat), i + d = l.length → d < k → mimesisref01_SameBytes.l0 k l l (i : Int) = some true := by
  induction d with
  | zero =>
    intro k i hi hk
    obtain ⟨k, rfl⟩ : ∃ m, k = m + 1 := ⟨k - 1, by omega⟩
    simp only [mimesisref01_SameBytes.l0]
    rw [if_neg (by omega)]
  | succ d ih =>
    intro k i hi hk
    obtain ⟨k, rfl⟩ : ∃ m, k = m + 1 := ⟨k - 1, by omega⟩
    simp only [mimesisref01_SameBytes.l0]
    rw [if_pos (by omega), if_pos (by omega), if_pos (by omega), if_pos trivial]
    rw [show wrap64 ((i : Int) + 1) = ((i + 1 : Nat) : Int) by unfold wrap64; omega]
    exact ih k (i + 1) (by omega) (by omega)
theorem same_self (l : List Int) (hl : l.length ≤ 9223372036854775806) (k : Nat) (hk : l.length < k) : mimesisref01_SameBytes.f k l l = some true := by
  unfold mimesisref01_SameBytes.f
  rw [if_pos rfl]
  exact same_l0 l hl l.length k 0 (by omega) hk

end Go.Proofs.YtdalboofhckobaaDoor.FQBusPlays
