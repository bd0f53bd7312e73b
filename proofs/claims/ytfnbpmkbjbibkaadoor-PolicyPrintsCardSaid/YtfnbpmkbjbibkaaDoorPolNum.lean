/- A number of one to four digits, by the program and by the document. -/
import Derived.Test.YtfnbpmkbjbibkaaDoorPolWords
import Derived.Test.YtfnbpmkbjbibkaaDoorQPolicyParsesx4
namespace Go.Proofs.YtfnbpmkbjbibkaaDoor.PolPlain
open Go Go.RowKit Go.Lib Go.Proofs.YtfnbpmkbjbibkaaDoor.QPolicyParses Go.Proofs.YtfnbpmkbjbibkaaDoorW.PrintWords
set_option linter.unusedVariables false
set_option linter.unusedSimpArgs false

theorem num_l0 (k : Nat) (x0 : ByteArray) (x4 x7 x8 : Int) : policy_number.l0 (k + 1) x0 x4 x7 x8 = if x8 < x7 then (if 0 ≤ x8 then (if x8 < (x0.size : Int) then (if (bt x0 x8) < 48 then (some (0, false)) else (if (bt x0 x8) > 57 then (some (0, false)) else (if x8 > 3 then (some (0, false)) else (policy_number.l0 k x0 (wrap64 ((wrap64 (x4 * 10)) + (((bt x0 x8) - 48) % 256))) x7 (wrap64 (x8 + 1)))))) else (none)) else (none)) else (some (x4, (x0.toList != ([] : List UInt8)))) := rfl
theorem cho_l1 (k : Nat) (x0 : ByteArray) (x5 x7 x8 : Int) : mimesisref37_choice.l1 (k + 1) x0 x5 x7 x8 = if x8 < (x0.size : Int) then (if 0 ≤ x8 then (if (bt x0 x8) < 48 then (some (0, 0, false)) else (if (bt x0 x8) > 57 then (some (0, 0, false)) else (mimesisref37_choice.l1 k x0 x5 (wrap64 ((wrap64 ((wrap64 (x7 * 10)) + (wrap64 (bt x0 x8)))) - 48)) (wrap64 (x8 + 1))))) else (none)) else (some (x5, x7, true)) := rfl

/-- The digits' value, behind n. -/
def dv : List UInt8 → Int → Option Int
  | [], n => some n
  | b :: r, n => if (b.toNat : Int) < 48 ∨ (b.toNat : Int) > 57 then none else dv r (n * 10 + ((b.toNat : Int) - 48))
theorem dv_bad {b : UInt8} {r : List UInt8} {n : Int} (h : (b.toNat : Int) < 48 ∨ (b.toNat : Int) > 57) : dv (b :: r) n = none := by rw [dv, if_pos h]
theorem dv_good {b : UInt8} {r : List UInt8} {n : Int} (h1 : ¬ (b.toNat : Int) < 48) (h2 : ¬ (b.toNat : Int) > 57) : dv (b :: r) n = dv r (n * 10 + ((b.toNat : Int) - 48)) := by rw [dv, if_neg (by omega)]
def numV (l : List UInt8) : Int × Bool := if l.length ≤ 4 then (match dv l 0 with | some v => (v, l != []) | none => (0, false)) else (0, false)

theorem drop_cons {s : ByteArray} {i : Nat} {b : UInt8} {r : List UInt8} (h : s.toList.drop i = b :: r) : i < s.size ∧ bt s (i : Int) = (b.toNat : Int) ∧ s.toList.drop (i + 1) = r := by
  rw [ByteArray.toList_eq] at h ⊢
  have hlt : i < s.data.toList.length := by
    rcases Nat.lt_or_ge i s.data.toList.length with h' | h'
    · exact h'
    · rw [List.drop_of_length_le h'] at h; cases h
  rw [List.drop_eq_getElem_cons hlt] at h
  injection h with h1 h2
  refine ⟨by rw [size_eq]; exact hlt, ?_, h2⟩
  rw [bt_get s i hlt, h1]
theorem drop_nil {s : ByteArray} {i : Nat} (h : s.toList.drop i = []) : s.size ≤ i := by
  rw [ByteArray.toList_eq] at h
  rw [size_eq]
  exact List.drop_eq_nil_iff.1 h

theorem number_go (s : ByteArray) : ∀ (r : List UInt8) (i : Nat) (n : Int), s.toList.drop i = r → i + r.length = s.size → i ≤ 4 → 0 ≤ n → n < 10 ^ i →
    policy_number.l0 (r.length + 1) s n (s.size : Int) (i : Int) = some (if s.size ≤ 4 then (match dv r n with | some v => (v, s.toList != []) | none => (0, false)) else (0, false))
  | [], i, n, hr, hl, hi, h0, h1 => by
    simp only [List.length_nil] at hl ⊢
    rw [num_l0, if_neg (by omega), if_pos (by omega)]
    rfl
  | b :: r, i, n, hr, hl, hi, h0, h1 => by
    obtain ⟨hlt, hb, hr'⟩ := drop_cons hr
    simp only [List.length_cons] at hl ⊢
    have hn : n < 10 ^ 4 := Int.lt_of_lt_of_le h1 (by exact_mod_cast Nat.pow_le_pow_right (by decide) hi)
    rw [num_l0, if_pos (by omega), if_pos (by omega), if_pos (by omega), hb]
    have hb256 : (b.toNat : Int) < 256 := by have := b.toNat_lt; omega
    by_cases c1 : (b.toNat : Int) < 48
    · rw [if_pos c1, dv_bad (.inl c1)]; simp
    · rw [if_neg c1]
      by_cases c2 : (b.toNat : Int) > 57
      · rw [if_pos c2, dv_bad (.inr c2)]; simp
      · rw [if_neg c2]
        by_cases c3 : (i : Int) > 3
        · rw [if_pos c3, if_neg (show ¬ s.size ≤ 4 by omega)]
        · have e1 : wrap64 (wrap64 (n * 10) + ((b.toNat : Int) - 48) % 256) = n * 10 + ((b.toNat : Int) - 48) := by unfold wrap64; omega
          have e2 : wrap64 ((i : Int) + 1) = ((i + 1 : Nat) : Int) := by unfold wrap64; omega
          rw [if_neg c3, e1, e2, dv_good c1 c2]
          exact number_go s r (i + 1) _ hr' (by omega) (by omega) (by omega) (by rw [Int.pow_succ]; omega)

theorem number_val (s : ByteArray) : policy_number.f (s.size + 1) s = some ((numV s.toList).1, (numV s.toList).2) := by
  have hl : s.toList.length = s.size := by rw [ByteArray.toList_eq, size_eq]
  have := number_go s s.toList 0 0 rfl (by omega) (by omega) (by omega) (by decide)
  rw [hl] at this
  refine (show policy_number.f (s.size + 1) s = _ from this).trans ?_
  unfold numV
  rw [hl]

theorem l1_go (s : ByteArray) (k : Int) (K : Nat) (hs : s.size < 2 ^ 40) : ∀ (r : List UInt8) (i j : Nat) (n : Int), s.toList.drop i = r → i + r.length = s.size → j + r.length ≤ 4 → 0 ≤ n → n < 10 ^ j →
    mimesisref37_choice.l1 (r.length + 1 + K) s k n (i : Int) = some (match dv r n with | some v => (k, v, true) | none => (0, 0, false))
  | [], i, j, n, hr, hl, hj, h0, h1 => by
    simp only [List.length_nil] at hl ⊢
    rw [show 0 + 1 + K = K + 1 by omega, cho_l1, if_neg (by omega)]
    rfl
  | b :: r, i, j, n, hr, hl, hj, h0, h1 => by
    obtain ⟨hlt, hb, hr'⟩ := drop_cons hr
    simp only [List.length_cons] at hl hj ⊢
    have hn : n < 10 ^ 4 := Int.lt_of_lt_of_le h1 (by exact_mod_cast Nat.pow_le_pow_right (by decide) (by omega))
    rw [show r.length + 1 + 1 + K = (r.length + 1 + K) + 1 by omega, cho_l1, if_pos (by omega), if_pos (by omega), hb]
    have hb256 : (b.toNat : Int) < 256 := by have := b.toNat_lt; omega
    by_cases c1 : (b.toNat : Int) < 48
    · rw [if_pos c1, dv_bad (.inl c1)]
    · rw [if_neg c1]
      by_cases c2 : (b.toNat : Int) > 57
      · rw [if_pos c2, dv_bad (.inr c2)]
      · have e1 : wrap64 (wrap64 (wrap64 (n * 10) + wrap64 (b.toNat : Int)) - 48) = n * 10 + ((b.toNat : Int) - 48) := by unfold wrap64; omega
        have e2 : wrap64 ((i : Int) + 1) = ((i + 1 : Nat) : Int) := by unfold wrap64; omega
        rw [if_neg c2, e1, e2, dv_good c1 c2]
        exact l1_go s k K hs r (i + 1) (j + 1) _ hr' (by omega) (by omega) (by omega) (by rw [Int.pow_succ]; omega)
end Go.Proofs.YtfnbpmkbjbibkaaDoor.PolPlain
