/- What the memory's words answer, in plain lists. -/
import Derived.Test.YtdalboofhckobaaRefStore
import Derived.Test.YtdalboofhckobaaFNum
namespace Go.Proofs.Ytdalboofhckobaa
open Go Go.RowKit Go.Proofs.YtdalboofhckobaaW.PrintWords Go.Proofs.Ytdalboofhckobaa.QRamPlays Go.Proofs.Ytdalboofhckobaa.FQRamPlays
set_option linter.unusedVariables false
set_option linter.unusedSimpArgs false

/-- Bytes. -/
def U8 (l : List Int) : Prop := ∀ x ∈ l, 0 ≤ x ∧ x < 256
theorem U8.zero (n : Nat) : U8 (List.replicate n 0) := fun x hx => by rw [List.eq_of_mem_replicate hx]; omega
theorem U8.put {l bs : List Int} (h : U8 l) (hb : U8 bs) (j k : Nat) : U8 (l.take j ++ bs ++ l.drop k) := fun x hx => by
  rcases List.mem_append.1 hx with hx | hx
  · rcases List.mem_append.1 hx with hx | hx
    · exact h x (List.mem_of_mem_take hx)
    · exact hb x hx
  · exact h x (List.mem_of_mem_drop hx)
theorem u8_ints {m : List Nat} (h : ∀ x ∈ m, x < 256) : U8 (ints m) := fun x hx => by
  obtain ⟨y, hy, rfl⟩ := List.mem_map.1 hx
  have := h y hy
  omega
theorem of_U8 {l : List Int} (h : U8 l) : ∃ m : List Nat, l = ints m ∧ ∀ x ∈ m, x < 256 := of_u8 l (fun x hx => by
  have := h x hx
  simp [Lit.wf, IntKind.min, IntKind.max, IntKind.bits, IntKind.signed]; omega)

theorem has_f (l : List Int) (a m : Int) (hl : l.length ≤ 65536) (a0 : 0 ≤ a) (a1 : a < 4294967296) : mimesisref10_Has.f l a m = some (rhas l.length a m) := by
  unfold mimesisref10_Has.f rhas
  have e1 : wrap64 (wrap64 a - 2147483648) = a - 2147483648 := by unfold wrap64; omega
  rw [e1]
  by_cases h1 : 1 ≤ m
  · rw [if_pos h1]
    by_cases h2 : a - 2147483648 ≥ 0
    · rw [if_pos h2]
      by_cases h3 : m ≤ (l.length : Int)
      · have e2 : wrap64 ((l.length : Int) - m) = l.length - m := by unfold wrap64; omega
        rw [if_pos h3, e2]
        have h4 : (2147483648 : Int) ≤ a := by omega
        simp [h1, h3, h4]
      · rw [if_neg h3]; simp [h3]
    · have h4 : ¬ (2147483648 : Int) ≤ a := by omega
      rw [if_neg h2]; simp [h4]
  · rw [if_neg h1]; simp [h1]
theorem asked_f (l : List Int) (a m : Int) (hl : l.length ≤ 65536) (a0 : 0 ≤ a) (a1 : a < 4294967296) : mimesisref10_Asked.f l a m = some (rasked l.length a m) := by
  unfold mimesisref10_Asked.f rasked
  by_cases h : m = 1 ∨ m = 2 ∨ m = 4
  · have hw : mimesisref01_Width.f m = some true := (width_yes h).2
    have e1 : wrap64 a = a := by unfold wrap64; omega
    rw [hw, if_pos h, has_f l a m hl a0 a1, e1]
    simp only [Option.bind_some, if_true]
    rw [if_neg (by omega), Int.tmod_eq_emod_of_nonneg a0]
    by_cases h2 : a % m = 0
    · rw [if_pos h2, if_pos h2]
      cases rhas l.length a m <;> rfl
    · rw [if_neg h2, if_neg h2]
  · rw [(width_no h).2, if_neg h]
    rfl
/-- What can be loaded, and stored. -/
theorem ask0 {n : Nat} {a m : Int} (h : rasked n a m = 0) : ∃ j k : Nat, m = (k : Int) ∧ (k = 1 ∨ k = 2 ∨ k = 4) ∧ 2147483648 ≤ a ∧ a - 2147483648 = (j : Int) ∧ j + k ≤ n ∧ rhas n a m = true := by
  unfold rasked at h
  by_cases hm : m = 1 ∨ m = 2 ∨ m = 4
  · rw [if_pos hm] at h
    by_cases h2 : a % m = 0
    · rw [if_pos h2] at h
      cases hr : rhas n a m with
      | false => rw [hr] at h; simp at h
      | true =>
        have hr' := hr
        unfold rhas at hr'
        simp at hr'
        exact ⟨(a - 2147483648).toNat, m.toNat, by omega, by omega, by omega, by omega, by omega, rfl⟩
    · rw [if_neg h2] at h; simp at h
  · rw [if_neg hm] at h; simp at h
theorem rhas_at {n m : Nat} {a : Int} (h : rhas n a m = true) : ∃ j : Nat, 2147483648 ≤ a ∧ a - 2147483648 = (j : Int) ∧ j + m ≤ n ∧ 0 < m := by
  unfold rhas at h
  simp at h
  exact ⟨(a - 2147483648).toNat, by omega, by omega, by omega, by omega⟩
theorem load_f (l : List Int) (a : Int) (j k : Nat) (hk : k = 1 ∨ k = 2 ∨ k = 4) (a0 : 2147483648 ≤ a) (a1 : a < 4294967296) (hj : a - 2147483648 = (j : Int)) (hjk : j + k ≤ l.length) (hl : l.length ≤ 65536) (hu : U8 l) :
    ∃ r, word_Number.f 60 ((l.drop j).take k) = some (r, 0) ∧ mimesisref10_Load.f 60 l a (k : Int) = some r ∧ 0 ≤ r ∧ r < 4294967296 := by
  obtain ⟨m, hm, hlt⟩ := of_U8 (l := (l.drop j).take k) (fun x hx => hu x (List.mem_of_mem_drop (List.mem_of_mem_take hx)))
  have hlen : m.length = k := by
    have := congrArg List.length hm
    simp [ints] at this
    omega
  have hb := num_lt m hlt
  have hp : 2 ^ (8 * m.length) ≤ 2 ^ 32 := two_pow_le 32 (by omega)
  refine ⟨((num m : Nat) : Int), ?_, ?_, by omega, by omega⟩
  · rw [hm]; exact number_yes m hlt (by omega) 60 (by omega)
  · unfold mimesisref10_Load.f
    have e1 : wrap64 (wrap64 a - 2147483648) = (j : Int) := by unfold wrap64; omega
    have e2 : wrap64 ((j : Int) + (k : Int)) = ((j + k : Nat) : Int) := by unfold wrap64; omega
    rw [e1, e2, if_pos (by omega), if_pos (by omega), if_pos (by omega)]
    have e3 : (l.take (((j + k : Nat) : Int)).toNat).drop ((j : Int)).toNat = ints m := by
      rw [← hm, Int.toNat_natCast, Int.toNat_natCast, List.drop_take]
      congr 1
      omega
    rw [e3, refnum m hlt (by omega) 60 (by omega)]
    rfl
theorem bytes_f (x : Int) (k : Nat) (hk : k = 1 ∨ k = 2 ∨ k = 4) (x0 : 0 ≤ x) (x1 : x < 4294967296) :
    ∃ bs, word_Bytes.f 60 x (k : Int) = some (bs, 0) ∧ mimesisref01_Bytes.f 60 x (k : Int) = some bs ∧ bs.length = k ∧ U8 bs := by
  obtain ⟨w, rfl⟩ : ∃ w : Nat, x = w := ⟨x.toNat, by omega⟩
  exact ⟨ints (bytesL w k), bytes_yes w k (by omega) (by omega) 60 (by omega), refbytes w k (by omega) (by omega) 60 (by omega), by rw [ints_length, bytesL_length], u8_ints (bytesL_lt w k)⟩
theorem put_f (l bs : List Int) (a : Int) (j : Nat) (a0 : 2147483648 ≤ a) (a1 : a < 4294967296) (hj : a - 2147483648 = (j : Int)) (hjk : j + bs.length ≤ l.length) (hl : l.length ≤ 65536) :
    mimesisref10_Put.f l a bs = some (l.take j ++ bs ++ l.drop (j + bs.length)) := by
  unfold mimesisref10_Put.f
  have e1 : wrap64 (wrap64 a - 2147483648) = (j : Int) := by unfold wrap64; omega
  have e2 : wrap64 ((j : Int) + (bs.length : Int)) = ((j + bs.length : Nat) : Int) := by unfold wrap64; omega
  simp only [e1, e2, Option.bind_some, Int.toNat_natCast, List.nil_append, List.length_nil]
  rw [if_pos (by omega), if_pos (by omega), if_pos (by rw [List.length_take]; omega), if_pos (by rw [List.length_take]; omega), if_pos (by omega), if_pos (by omega), if_pos (by rw [List.length_append, List.length_take, List.length_drop]; omega)]
theorem put_length (l bs : List Int) (j : Nat) (h : j + bs.length ≤ l.length) : (l.take j ++ bs ++ l.drop (j + bs.length)).length = l.length := by
  simp; omega
end Go.Proofs.Ytdalboofhckobaa
