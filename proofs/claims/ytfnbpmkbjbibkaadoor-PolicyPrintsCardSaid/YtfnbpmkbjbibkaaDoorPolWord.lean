/- The words that choices print as: plain facts. -/
import Derived.Test.YtfnbpmkbjbibkaaDoorPolSame
import Derived.Test.YtfnbpmkbjbibkaaDoorQPolicyPrintsx3
namespace Go.Proofs.YtfnbpmkbjbibkaaDoor.PolWord
open Go Go.RowKit Go.Lib Go.Proofs.YtfnbpmkbjbibkaaDoor Go.Proofs.YtfnbpmkbjbibkaaDoor.PolPlain Go.Proofs.YtfnbpmkbjbibkaaDoor.QPolicyPrints Go.Proofs.YtfnbpmkbjbibkaaDoorW.PrintWords
set_option linter.unusedVariables false
set_option linter.unusedSimpArgs false

theorem right_same (k a : Int) : ∃ b, policy_Right.f 20 k a = some b ∧ mimesisref37_Right.f k a = some b ∧ (b = true → 1 ≤ k ∧ k ≤ 9 ∧ 0 ≤ a ∧ a ≤ 1000) := by
  by_cases h : 1 ≤ k ∧ k ≤ 9
  · have hk : k = 1 ∨ k = 2 ∨ k = 3 ∨ k = 4 ∨ k = 5 ∨ k = 6 ∨ k = 7 ∨ k = 8 ∨ k = 9 := by omega
    have e : policy_Right.f 20 k a = mimesisref37_Right.f k a := by
      rcases hk with rfl | rfl | rfl | rfl | rfl | rfl | rfl | rfl | rfl <;> rfl
    have ex : ∃ lo hi, policy_span.f 20 k = some (lo, hi) ∧ 0 ≤ lo ∧ hi ≤ 1000 := by
      rcases hk with rfl | rfl | rfl | rfl | rfl | rfl | rfl | rfl | rfl <;> exact ⟨_, _, rfl, by decide, by decide⟩
    obtain ⟨lo, hi, hs, h0, h1⟩ := ex
    have hb : ∃ b, policy_Right.f 20 k a = some b ∧ (b = true → 0 ≤ a ∧ a ≤ 1000) := by
      unfold policy_Right.f
      rw [hs, Option.bind_some]
      by_cases h2 : a ≥ lo
      · exact ⟨_, if_pos h2, fun h => by have := of_decide_eq_true h; omega⟩
      · exact ⟨_, if_neg h2, fun h => by simp at h⟩
    obtain ⟨b, hb, hb2⟩ := hb
    exact ⟨b, hb, e ▸ hb, fun hh => ⟨h.1, h.2, hb2 hh⟩⟩
  · refine ⟨false, ?_, ?_, by simp⟩
    · have hs : policy_span.f 20 k = some (1, 0) := by
        unfold policy_span.f
        rw [if_neg (by omega), beq_eq_false_iff_ne.2 (by omega : k ≠ 6)]
        show policy_span.j0 20 k false = _
        have : policy_span.j0 20 k false = (if k = 2 then (some (1, 255)) else (if k = 3 then (some (0, 63)) else (if k = 4 then (some (0, 0)) else (if k = 5 then (some (0, 1000)) else (if k = 7 then (some (0, 15)) else (if k = 8 then (some (0, 1)) else (if k = 9 then (some (1, 1000)) else (some (1, 0)))))))) : Option (Int × Int)) := rfl
        rw [this, if_neg (by omega), if_neg (by omega), if_neg (by omega), if_neg (by omega), if_neg (by omega), if_neg (by omega), if_neg (by omega)]
      unfold policy_Right.f
      rw [hs, Option.bind_some]
      by_cases h2 : a ≥ 1
      · rw [if_pos h2]; simp; omega
      · rw [if_neg h2]
    · unfold mimesisref37_Right.f
      by_cases h1 : k < 1
      · rw [if_pos h1]
      · rw [if_neg h1, if_pos (by omega)]

/-- A number's digits. -/
def dg (n : Nat) : ByteArray := (policy_digits.f 6 (n : Int)).getD ByteArray.empty
def digOk (n : Nat) : Bool := (policy_digits.f 6 (n : Int)).isSome
  && (match mimesisref05_Number.f 30 (n : Int) with | some b => b.data.toList == (dg n).data.toList | none => false)
  && decide (1 ≤ (dg n).data.toList.length) && decide ((dg n).data.toList.length ≤ 4)
  && (dg n).data.toList.all (fun b => decide (b.toNat < 58) && decide (48 ≤ b.toNat)) && (dv (dg n).data.toList 0 == some (n : Int))
theorem dig_all : (List.range 1001).all digOk = true := by kernel_rfl
theorem number_more (a : Int) (r : ByteArray) (h : mimesisref05_Number.f 30 a = some r) : ∀ K, mimesisref05_Number.f (30 + K) a = some r
  | 0 => h
  | K + 1 => mimesisref05_Number.mono a _ _ (number_more a r h K)
theorem dig_facts (n : Nat) (hn : n ≤ 1000) : policy_digits.f 6 (n : Int) = some (dg n) ∧ (∀ K, mimesisref05_Number.f (30 + K) (n : Int) = some (dg n)) ∧ 1 ≤ (dg n).toList.length ∧ (dg n).toList.length ≤ 4 ∧ (∀ b ∈ (dg n).toList, b.toNat < 58 ∧ 48 ≤ b.toNat) ∧ dv (dg n).toList 0 = some (n : Int) := by
  have h := List.all_eq_true.1 dig_all n (List.mem_range.2 (by omega))
  unfold digOk at h
  simp only [Bool.and_eq_true] at h
  obtain ⟨⟨⟨⟨⟨h1, h2⟩, h3⟩, h4⟩, h5⟩, h6⟩ := h
  have e1 : policy_digits.f 6 (n : Int) = some (dg n) := by
    obtain ⟨r, hr⟩ := Option.isSome_iff_exists.1 h1
    unfold dg; rw [hr]; rfl
  have e2 : mimesisref05_Number.f 30 (n : Int) = some (dg n) := by
    cases hb : mimesisref05_Number.f 30 (n : Int) with
    | none => rw [hb] at h2; simp at h2
    | some b =>
      rw [hb] at h2
      have := eq_of_beq h2
      exact congrArg some (toList_inj (by rw [ByteArray.toList_eq, ByteArray.toList_eq]; exact this))
  rw [ByteArray.toList_eq]
  refine ⟨e1, number_more _ _ e2, of_decide_eq_true h3, of_decide_eq_true h4, fun b hb => ?_, eq_of_beq h6⟩
  have := List.all_eq_true.1 h5 b hb
  simp only [Bool.and_eq_true, decide_eq_true_eq] at this
  exact this

/-- Is the choice right? What it is parsed as; its word. -/
def rt (p : Int × Int) : Bool := (policy_Right.f 20 p.1 p.2).getD false
def X (p : Int × Int) : Int × Int := if rt p = true then p else (0, 0)
def W (p : Int × Int) : ByteArray := if rt p = true then (wordB p.1.toNat ++ ⟨#[61]⟩) ++ dg p.2.toNat else ⟨#[45]⟩
theorem rt_facts (p : Int × Int) : policy_Right.f 20 p.1 p.2 = some (rt p) ∧ mimesisref37_Right.f p.1 p.2 = some (rt p) ∧ (rt p = true → 1 ≤ p.1 ∧ p.1 ≤ 9 ∧ 0 ≤ p.2 ∧ p.2 ≤ 1000) := by
  obtain ⟨b, h1, h2, h3⟩ := right_same p.1 p.2
  have : rt p = b := by unfold rt; rw [h1]; rfl
  rw [this]
  exact ⟨h1, h2, h3⟩

theorem word_clean (k : Nat) (hk : k < 10) : (32 : UInt8) ∉ (wordB k).toList ∧ (10 : UInt8) ∉ (wordB k).toList ∧ (wordB k).toList ≠ [] := by
  rw [word_list]
  have := ten_at (p := fun k => !(pwords.getD k []).contains 32 && !(pwords.getD k []).contains 10 && !(pwords.getD k []).isEmpty) (by kernel_rfl) k hk
  simp only [Bool.and_eq_true, Bool.not_eq_true', List.contains_eq_mem, decide_eq_false_iff_not] at this
  exact ⟨this.1.1, this.1.2, by intro h; rw [h] at this; simp at this⟩
theorem W_right (p : Int × Int) (h : rt p = true) : (W p).toList = (wordB p.1.toNat).toList ++ 61 :: (dg p.2.toNat).toList := by
  unfold W
  rw [if_pos h]
  simp only [ByteArray.toList_eq, ByteArray.data_append, Array.toList_append, List.append_assoc]
  rfl
theorem W_else (p : Int × Int) (h : ¬ rt p = true) : (W p).toList = [45] := by
  unfold W; rw [if_neg h, ByteArray.toList_eq]
theorem W_facts (p : Int × Int) : (W p).toList ≠ [] ∧ (32 : UInt8) ∉ (W p).toList ∧ (10 : UInt8) ∉ (W p).toList ∧ (W p).toList.length ≤ 14 ∧ C (W p) = ((X p).1, (X p).2, true) := by
  by_cases h : rt p = true
  · obtain ⟨h1, h9, h0, hm⟩ := (rt_facts p).2.2 h
    have hk : p.1.toNat < 10 := by omega
    obtain ⟨c32, c10, cne⟩ := word_clean _ hk
    obtain ⟨_, _, d1, d4, db, dd⟩ := dig_facts p.2.toNat (by omega)
    have hw := word_size _ hk
    have hwl := word_length p.1.toNat
    have hd : ∀ b : UInt8, b ∈ (dg p.2.toNat).toList → b ≠ 32 ∧ b ≠ 10 := fun b hb => by
      have := db b hb
      constructor <;> (rintro rfl; simp at this)
    rw [W_right p h]
    refine ⟨by simp, ?_, ?_, by simp only [List.length_append, List.length_cons]; omega, ?_⟩
    · intro hm
      rcases List.mem_append.1 hm with hm | hm
      · exact c32 hm
      · rcases List.mem_cons.1 hm with hm | hm
        · simp at hm
        · exact (hd _ hm).1 rfl
    · intro hm
      rcases List.mem_append.1 hm with hm | hm
      · exact c10 hm
      · rcases List.mem_cons.1 hm with hm | hm
        · simp at hm
        · exact (hd _ hm).2 rfl
    · have hc : cut (W p).toList [61] = ((wordB p.1.toNat).toList, (dg p.2.toNat).toList, true) := by
        rcases cut_two (W p).toList with ⟨hn, _⟩ | ⟨a, r, hx, ha, hc⟩
        · exact absurd (by rw [W_right p h]; simp) hn
        · obtain ⟨rfl, rfl⟩ := eq_two (word_61 _ hk) ha ((W_right p h).symm.trans hx)
          exact hc
      have hne : ¬ (W p).toList = [45] := by
        intro he
        have := congrArg List.length (he.symm.trans (W_right p h))
        simp only [List.length_append, List.length_cons, List.length_nil] at this
        omega
      rw [C_hit hne p.1.toNat (by omega) hk (by rw [hc]), hc, numV_in _ d1 d4, dd]
      unfold X
      rw [if_pos h]
      simp only [Prod.mk.injEq, and_true]
      omega
  · rw [W_else p h, C_dash (W_else p h)]
    unfold X
    rw [if_neg h]
    exact ⟨by simp, by decide, by decide, by simp, rfl⟩

/-- The text. -/
def txtL (l : List (Int × Int)) : List UInt8 := join (l.map fun p => (W p).toList) [32]
theorem tail_pw : ∀ (r : List (Int × Int)) (x : Int × Int), pw ((W x).toList ++ joinTail [32] (r.map fun p => (W p).toList)) [] = (W x).toList :: r.map fun p => (W p).toList
  | [], x => by
    obtain ⟨h1, h2, h3, _⟩ := W_facts x
    rw [show joinTail [32] (([] : List (Int × Int)).map fun p => (W p).toList) = [] from rfl, List.append_nil, pw_free _ _ h2 h3, List.nil_append, if_neg h1]; rfl
  | y :: r, x => by
    obtain ⟨h1, h2, h3, _⟩ := W_facts x
    have e : joinTail [32] ((y :: r).map fun p => (W p).toList) = 32 :: ((W y).toList ++ joinTail [32] (r.map fun p => (W p).toList)) := by
      simp [joinTail]
    rw [e, pw_cut _ _ _ h2 h3, List.nil_append, if_neg h1, tail_pw r y]; rfl
theorem txt_pw (l : List (Int × Int)) : pw (txtL l) [] = l.map fun p => (W p).toList := by
  cases l with
  | nil => rfl
  | cons x r =>
    unfold txtL
    rw [List.map_cons, join_cons, tail_pw]
theorem lens_le : ∀ l : List (Int × Int), lens (l.map fun p => (W p).toList) ≤ 14 * l.length
  | [] => by simp [lens]
  | x :: r => by
    have h := (W_facts x).2.2.2.1
    have := lens_le r
    simp only [lens, List.map_cons, List.sum_cons, List.length_cons] at this ⊢
    omega
theorem tail_le (l : List (Int × Int)) : (joinTail [32] (l.map fun p => (W p).toList)).length ≤ 15 * l.length := by
  rw [joinTail_length]
  have := lens_le l
  simp only [List.length_map, List.length_singleton]
  omega
theorem txt_le (l : List (Int × Int)) : (txtL l).length ≤ 15 * l.length := by
  cases l with
  | nil => simp [txtL, join_nil]
  | cons x r =>
    unfold txtL
    rw [List.map_cons, join_cons, List.length_append]
    have h := (W_facts x).2.2.2.1
    have := tail_le r
    simp only [List.length_cons]
    omega
theorem pgo_map : ∀ (l acc : List (Int × Int)), pgo C (l.map W) acc = some (acc ++ l.map X)
  | [], acc => by simp [pgo]
  | x :: r, acc => by
    obtain ⟨h1, _, _, _, hc⟩ := W_facts x
    rw [List.map_cons, pgo, if_neg (by simpa using h1), hc, if_pos rfl]
    rw [pgo_map r]
    simp
end Go.Proofs.YtfnbpmkbjbibkaaDoor.PolWord
