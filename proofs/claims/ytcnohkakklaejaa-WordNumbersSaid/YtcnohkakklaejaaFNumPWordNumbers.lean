/- What the program's and the reference's Number, Bytes, SameBytes answer, in plain lists (over the functions printed for PWordNumbers). -/
import Derived.Test.YtcnohkakklaejaaFPowerPWordNumbers
import Derived.Test.YtcnohkakklaejaaFBitsPWordNumbers
namespace Go.Proofs.Ytcnohkakklaejaa.FPWordNumbers
open Go Go.RowKit Go.Proofs.Ytcnohkakklaejaa.PWordNumbers Go.Proofs.Ytcnohkakklaejaa.Bit Go.Proofs.YtcnohkakklaejaaW.PrintWords Go.Proofs.YtcnohkakklaejaaW.PrintMore
set_option linter.unusedVariables false
set_option linter.unusedSimpArgs false

/-- Bytes' number, the lowest one first. -/
def num : List Nat → Nat
  | [] => 0
  | x :: r => x + 256 * num r
theorem num_append (a b : List Nat) : num (a ++ b) = num a + 2 ^ (8 * a.length) * num b := by
  induction a with
  | nil => simp [num]
  | cons x r ih =>
    simp only [List.cons_append, num, ih, List.length_cons, Nat.mul_add, Nat.mul_one, Nat.pow_add]
    have : 256 * (2 ^ (8 * r.length) * num b) = 2 ^ (8 * r.length) * 2 ^ 8 * num b := by rw [Nat.mul_comm 256, Nat.mul_right_comm]
    omega
theorem num_lt (l : List Nat) (h : ∀ x ∈ l, x < 256) : num l < 2 ^ (8 * l.length) := by
  induction l with
  | nil => simp [num]
  | cons x r ih =>
    have h1 := ih (fun y hy => h y (by simp [hy]))
    have h2 := h x (by simp)
    simp only [num, List.length_cons, Nat.mul_add, Nat.mul_one, Nat.pow_add]
    omega
theorem num_take (m : List Nat) (i : Nat) (h : i < m.length) : num (m.take (i + 1)) = num (m.take i) + m[i] * 2 ^ (8 * i) := by
  rw [List.take_succ_eq_append_getElem h, num_append, List.length_take, Nat.min_eq_left (by omega)]
  simp [num, Nat.mul_comm]
theorem num_take_lt (m : List Nat) (hm : ∀ x ∈ m, x < 256) (i : Nat) (h : i ≤ m.length) : num (m.take i) < 2 ^ (8 * i) := by
  have := num_lt (m.take i) (fun x hx => hm x (List.mem_of_mem_take hx))
  rwa [List.length_take, Nat.min_eq_left h] at this

def ints (m : List Nat) : List Int := m.map fun (x : Nat) => (x : Int)
theorem ints_length (m : List Nat) : (ints m).length = m.length := by simp [ints]
theorem rd_ints (m : List Nat) (i : Nat) (h : i < m.length) : rd (ints m) (i : Int) = ((m[i] : Nat) : Int) := by
  simp [rd, ints, List.getD_eq_getElem?_getD, h]
theorem of_u8 (l : List Int) (h : ∀ x ∈ l, (Lit.int .u8 x).wf = true) : ∃ m : List Nat, l = ints m ∧ ∀ x ∈ m, x < 256 := by
  refine ⟨l.map Int.toNat, ?_, ?_⟩
  · apply List.ext_getElem
    · simp [ints]
    · intro i h1 h2
      have := h _ (List.getElem_mem h1)
      simp [Lit.wf, IntKind.min, IntKind.max, IntKind.bits, IntKind.signed] at this
      simp [ints]
      omega
  · intro x hx
    simp only [List.mem_map] at hx
    obtain ⟨y, hy, rfl⟩ := hx
    have := h y hy
    simp [Lit.wf, IntKind.min, IntKind.max, IntKind.bits, IntKind.signed] at this
    omega

theorem number_l0 (m : List Nat) (hm : ∀ x ∈ m, x < 256) (h4 : m.length ≤ 4) (d : Nat) : ∀ (k i : Nat), i + d = m.length → d < k →
    word_Number.l0 k (ints m) ((num (m.take i) : Nat) : Int) (m.length : Int) (i : Int) = some (((num m : Nat) : Int), 0) := by
  induction d with
  | zero =>
    intro k i hi hk
    obtain ⟨k, rfl⟩ : ∃ m, k = m + 1 := ⟨k - 1, by omega⟩
    simp only [word_Number.l0]
    rw [if_neg (by omega), List.take_of_length_le (by omega)]
  | succ d ih =>
    intro k i hi hk
    obtain ⟨k, rfl⟩ : ∃ m, k = m + 1 := ⟨k - 1, by omega⟩
    simp only [word_Number.l0]
    have h8 : wrap64 (8 * (i : Int)) = ((8 * i : Nat) : Int) := by unfold wrap64; omega
    rw [if_pos (by omega), if_pos (by omega), if_pos (by rw [ints_length]; omega), h8, u64_in _ (by omega), if_pos (by omega), rd_ints m i (by omega)]
    have hb := hm _ (List.getElem_mem (show i < m.length by omega))
    have ht := num_take_lt m hm i (by omega)
    have hs := num_take m i (by omega)
    have hl := num_take_lt m hm (i + 1) (by omega)
    have hp : 2 ^ (8 * (i + 1)) ≤ 2 ^ 32 := two_pow_le 32 (by omega)
    have e1 : ((m[i] : Nat) : Int) % 4294967296 = ((m[i] : Nat) : Int) := by omega
    rw [e1, shl_u32 _ _ (by omega), Nat.mod_eq_of_lt (by omega), u32_or_nat _ _ (by omega) (by omega), or_field _ _ 8 (8 * i) (by rw [Nat.div_eq_of_lt ht]) (by omega), ← hs]
    rw [show wrap64 ((i : Int) + 1) = ((i + 1 : Nat) : Int) by unfold wrap64; omega]
    exact ih k (i + 1) (by omega) (by omega)
theorem width_yes {n : Int} (h : n = 1 ∨ n = 2 ∨ n = 4) : word_width.f n = some true ∧ mimesisref01_Width.f n = some true := by
  rcases h with rfl | rfl | rfl <;> exact ⟨rfl, rfl⟩
theorem width_no {n : Int} (h : ¬ (n = 1 ∨ n = 2 ∨ n = 4)) : word_width.f n = some false ∧ mimesisref01_Width.f n = some false := by
  have h1 : ¬ n = 1 := fun e => h (.inl e)
  have h2 : ¬ n = 2 := fun e => h (.inr (.inl e))
  have h3 : (n == 4) = false := beq_eq_false_iff_ne.2 fun e => h (.inr (.inr e))
  unfold word_width.f mimesisref01_Width.f
  rw [if_neg h1, if_neg h2, h3]
  exact ⟨rfl, rfl⟩
theorem number_yes (m : List Nat) (hm : ∀ x ∈ m, x < 256) (h : (m.length : Int) = 1 ∨ (m.length : Int) = 2 ∨ (m.length : Int) = 4) (k : Nat) (hk : 5 < k) :
    word_Number.f k (ints m) = some (((num m : Nat) : Int), 0) := by
  unfold word_Number.f
  rw [ints_length, (width_yes h).1]; simp only [Option.bind_some, if_true]
  have := number_l0 m hm (by omega) m.length k 0 (by omega) (by omega)
  simpa [num] using this
theorem number_no (l : List Int) (h : ¬ ((l.length : Int) = 1 ∨ (l.length : Int) = 2 ∨ (l.length : Int) = 4)) (k : Nat) : word_Number.f k l = some (0, 4) := by
  unfold word_Number.f
  rw [(width_no h).1]; simp

theorem refnum_l0 (m : List Nat) (hm : ∀ x ∈ m, x < 256) (h4 : m.length ≤ 4) (d : Nat) : ∀ (k i : Nat), i + d = m.length → d + 40 < k →
    mimesisref01_Number.l0 k (ints m) ((num (m.take i) : Nat) : Int) (i : Int) = some ((num m : Nat) : Int) := by
  induction d with
  | zero =>
    intro k i hi hk
    obtain ⟨k, rfl⟩ : ∃ m, k = m + 1 := ⟨k - 1, by omega⟩
    simp only [mimesisref01_Number.l0]
    have ht := num_take_lt m hm i (by omega)
    have hp : 2 ^ (8 * i) ≤ 2 ^ 32 := two_pow_le 32 (by omega)
    rw [if_neg (by rw [ints_length]; omega), List.take_of_length_le (by omega)]
    rw [List.take_of_length_le (by omega)] at ht
    rw [Option.some.injEq]; omega
  | succ d ih =>
    intro k i hi hk
    obtain ⟨k, rfl⟩ : ∃ m, k = m + 1 := ⟨k - 1, by omega⟩
    simp only [mimesisref01_Number.l0]
    have h8 : wrap64 (8 * (i : Int)) = ((8 * i : Nat) : Int) := by unfold wrap64; omega
    rw [if_pos (by rw [ints_length]; omega), if_pos (by omega), h8, power (8 * i) k (by omega) (by omega), rd_ints m i (by omega)]; simp only [Option.bind_some]
    have hb := hm _ (List.getElem_mem (show i < m.length by omega))
    have hs := num_take m i (by omega)
    have hl := num_take_lt m hm (i + 1) (by omega)
    have hp : 2 ^ (8 * (i + 1)) ≤ 2 ^ 32 := two_pow_le 32 (by omega)
    rw [u64_in m[i] (by omega), ← Int.natCast_mul, u64_in _ (by omega), ← Int.natCast_add, u64_in _ (by omega), ← hs]
    rw [show wrap64 ((i : Int) + 1) = ((i + 1 : Nat) : Int) by unfold wrap64; omega]
    exact ih k (i + 1) (by omega) (by omega)
theorem refnum (m : List Nat) (hm : ∀ x ∈ m, x < 256) (h4 : m.length ≤ 4) (k : Nat) (hk : 50 < k) : mimesisref01_Number.f k (ints m) = some ((num m : Nat) : Int) := by
  have := refnum_l0 m hm h4 m.length k 0 (by omega) (by omega)
  simpa [mimesisref01_Number.f, num] using this



end Go.Proofs.Ytcnohkakklaejaa.FPWordNumbers
