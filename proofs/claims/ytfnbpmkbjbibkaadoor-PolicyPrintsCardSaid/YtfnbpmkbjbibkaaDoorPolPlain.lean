/- The words of a text, in plain lists of bytes: the program's (replaced, split, empty ones passed by) are the document's. -/
import Derived.Test.YtfnbpmkbjbibkaaDoorPolParse
import Derived.Lib.Split
import Derived.Lib.Replace
namespace Go.Proofs.YtfnbpmkbjbibkaaDoor.PolPlain
open Go Go.Lib
set_option linter.unusedVariables false
set_option linter.unusedSimpArgs false

theorem index_one_cons (b c : UInt8) (l : List UInt8) : index (b :: l) [c] = if c = b then 0 else if index l [c] = -1 then -1 else index l [c] + 1 := by
  rw [index]
  by_cases h : c = b
  · subst h; simp
  · rw [if_neg h, if_neg (by simp [h])]
    by_cases h2 : index l [c] = -1 <;> simp [h2]
theorem index_one (c : UInt8) : ∀ (s : List UInt8), (index s [c] = -1 ∧ c ∉ s) ∨ ∃ a r, s = a ++ c :: r ∧ index s [c] = (a.length : Int) ∧ c ∉ a
  | [] => .inl ⟨rfl, by simp⟩
  | b :: l => by
    rw [index_one_cons]
    by_cases h : c = b
    · subst h
      exact .inr ⟨[], l, rfl, by simp, by simp⟩
    · rw [if_neg h]
      rcases index_one c l with ⟨h1, h2⟩ | ⟨a, r, h1, h2, h3⟩
      · exact .inl ⟨by rw [if_pos h1], by simp [h, h2]⟩
      · refine .inr ⟨b :: a, r, by rw [h1]; rfl, ?_, by simp [h, h3]⟩
        rw [if_neg (by rw [h2]; omega), h2]
        simp

/-- Line ends become spaces. -/
def rep (l : List UInt8) : List UInt8 := l.map fun b => if b = 10 then 32 else b
theorem rep_free {l : List UInt8} (h : (10 : UInt8) ∉ l) : rep l = l := by
  unfold rep
  rw [List.map_congr_left (g := id), List.map_id]
  intro b hb
  have : b ≠ 10 := fun e => h (e ▸ hb)
  simp [this]
theorem rep_no10 (l : List UInt8) : (10 : UInt8) ∉ rep l := by
  unfold rep
  intro h
  obtain ⟨b, _, hb⟩ := List.mem_map.1 h
  by_cases e : b = 10
  · rw [if_pos e] at hb; exact absurd hb (by decide)
  · rw [if_neg e] at hb; exact e hb

/-- The words of a text: cut at spaces and line ends; empty ones are none. -/
def pw : List UInt8 → List UInt8 → List (List UInt8)
  | [], cur => if cur = [] then [] else [cur]
  | c :: r, cur => if c = 32 ∨ c = 10 then (if cur = [] then pw r [] else cur :: pw r []) else pw r (cur ++ [c])
theorem pw_free : ∀ (a cur : List UInt8), (32 : UInt8) ∉ a → (10 : UInt8) ∉ a → pw a cur = if cur ++ a = [] then [] else [cur ++ a]
  | [], cur, _, _ => by simp [pw]
  | c :: a, cur, h1, h2 => by
    simp only [List.mem_cons, not_or] at h1 h2
    rw [pw, if_neg (by simp [Ne.symm h1.1, Ne.symm h2.1]), pw_free a (cur ++ [c]) h1.2 h2.2]
    simp
theorem pw_cut : ∀ (a r cur : List UInt8), (32 : UInt8) ∉ a → (10 : UInt8) ∉ a → pw (a ++ 32 :: r) cur = if cur ++ a = [] then pw r [] else (cur ++ a) :: pw r []
  | [], r, cur, _, _ => by simp [pw]
  | c :: a, r, cur, h1, h2 => by
    simp only [List.mem_cons, not_or] at h1 h2
    rw [List.cons_append, pw, if_neg (by simp [Ne.symm h1.1, Ne.symm h2.1]), pw_cut a r (cur ++ [c]) h1.2 h2.2]
    simp
theorem pw_rep : ∀ (l cur : List UInt8), pw (rep l) cur = pw l cur
  | [], cur => rfl
  | c :: r, cur => by
    show pw ((if c = 10 then 32 else c) :: rep r) cur = _
    rw [pw, pw]
    by_cases h : c = 10
    · subst h; simp [pw_rep r []]
    · rw [if_neg h, pw_rep r [], pw_rep r (cur ++ [c])]

theorem replace_rep (n : Nat) : ∀ (s : List UInt8), s.length ≤ n → replaceK [10] [32] (count s [10]) s = rep s := by
  induction n with
  | zero =>
    intro s hs
    have : s = [] := List.eq_nil_of_length_eq_zero (by omega)
    subst this; rfl
  | succ n ih =>
    intro s hs
    rcases index_one 10 s with ⟨h1, h2⟩ | ⟨a, r, h1, h2, h3⟩
    · rw [count_miss h1, rep_free h2]; rfl
    · rw [count_hit (by simp) h2, Nat.add_comm, replaceK_hit _ _ _ _ _ h2]
      have hd : s.drop (a.length + ([10] : List UInt8).length) = r := by rw [h1]; simp [← List.append_assoc, List.drop_append]
      have ht : s.take a.length = a := by rw [h1]; simp
      rw [hd, ht, ih r (by rw [h1] at hs; simp at hs; omega), h1]
      unfold rep
      rw [List.map_append, List.map_cons, if_pos rfl]
      have := rep_free h3
      unfold rep at this
      rw [this]; simp
theorem split_pw (n : Nat) : ∀ (s : List UInt8), s.length ≤ n → (10 : UInt8) ∉ s → (splitK [32] 0 (count s [32]) s).filter (fun w => !w.isEmpty) = pw s [] := by
  induction n with
  | zero =>
    intro s hs _
    have : s = [] := List.eq_nil_of_length_eq_zero (by omega)
    subst this; rfl
  | succ n ih =>
    intro s hs h10
    rcases index_one 32 s with ⟨h1, h2⟩ | ⟨a, r, h1, h2, h3⟩
    · rw [count_miss h1, pw_free s [] h2 h10]
      show ([s] : List (List UInt8)).filter _ = _
      cases s <;> simp
    · rw [count_hit (by simp) h2, Nat.add_comm]
      have hm : ¬ (index s [32] == -1) = true := fun e => by have := beq_iff_eq.1 e; omega
      have e : (index s [32]).toNat = a.length := by omega
      have ha10 : (10 : UInt8) ∉ a := fun h => h10 (by rw [h1]; simp [h])
      have hr10 : (10 : UInt8) ∉ r := fun h => h10 (by rw [h1]; simp [h])
      have hd : s.drop (a.length + ([32] : List UInt8).length) = r := by rw [h1]; simp [← List.append_assoc, List.drop_append]
      have ht : s.take (a.length + 0) = a := by rw [h1]; simp
      rw [splitK, if_neg hm, e, hd, ht, List.filter_cons, ih r (by rw [h1] at hs; simp at hs; omega) hr10, h1, pw_cut a r [] h3 ha10]
      cases a <;> simp
end Go.Proofs.YtfnbpmkbjbibkaaDoor.PolPlain
