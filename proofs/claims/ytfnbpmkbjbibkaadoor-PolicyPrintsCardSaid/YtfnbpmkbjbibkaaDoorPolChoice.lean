/- A word's choice, by the program and by the document. -/
import Derived.Test.YtfnbpmkbjbibkaaDoorPolNum
import Derived.Test.YtfnbpmkbjbibkaaDoorPol
namespace Go.Proofs.YtfnbpmkbjbibkaaDoor.PolPlain
open Go Go.RowKit Go.Lib Go.Proofs.YtfnbpmkbjbibkaaDoor Go.Proofs.YtfnbpmkbjbibkaaDoor.QPolicyParses Go.Proofs.YtfnbpmkbjbibkaaDoorW.PrintWords
set_option linter.unusedVariables false
set_option linter.unusedSimpArgs false

theorem cut_two (L : List UInt8) : ((61 : UInt8) ∉ L ∧ cut L [61] = (L, [], false)) ∨ ∃ a r, L = a ++ 61 :: r ∧ (61 : UInt8) ∉ a ∧ cut L [61] = (a, r, true) := by
  rcases PolPlain.index_one 61 L with ⟨h, hn⟩ | ⟨a, r, rfl, h, hn⟩
  · refine .inl ⟨hn, ?_⟩
    unfold cut
    rw [h]; rfl
  · refine .inr ⟨a, r, rfl, hn, ?_⟩
    unfold cut
    rw [h, if_pos (by omega), Int.toNat_natCast, List.take_left, List.length_singleton]
    rw [show a ++ 61 :: r = (a ++ [61]) ++ r by simp, show a.length + 1 = (a ++ [61]).length by simp, List.drop_left]
theorem eq_two : ∀ {a b r r' : List UInt8}, (61 : UInt8) ∉ a → (61 : UInt8) ∉ b → a ++ 61 :: r = b ++ 61 :: r' → a = b ∧ r = r'
  | [], [], r, r', _, _, h => ⟨rfl, by simpa using h⟩
  | [], c :: b, r, r', _, hb, h => by
    simp at h
    exact absurd (List.mem_cons.2 (.inl h.1)) hb
  | c :: a, [], r, r', ha, _, h => by
    simp at h
    exact absurd (List.mem_cons.2 (.inl h.1.symm)) ha
  | c :: a, d :: b, r, r', ha, hb, h => by
    simp only [List.cons_append, List.cons.injEq] at h
    obtain ⟨rfl, h⟩ := h
    obtain ⟨rfl, rfl⟩ := eq_two (fun q => ha (List.mem_cons_of_mem _ q)) (fun q => hb (List.mem_cons_of_mem _ q)) h
    exact ⟨rfl, rfl⟩

def nms : List ByteArray := (mimesisref37_names.f).getD []
theorem names_eq : mimesisref37_names.f = some nms := rfl
theorem nms_length : nms.length = 10 := rfl
def ten (p : Nat → Bool) : Bool := (List.range 10).all p
theorem ten_at {p : Nat → Bool} (h : ten p = true) (k : Nat) (hk : k < 10) : p k = true := List.all_eq_true.1 h k (List.mem_range.2 hk)
theorem rd_word : ∀ (k : Nat), k < 10 → rdOf ByteArray.empty nms (k : Int) = wordB k
  | 0, _ => rfl
  | 1, _ => rfl
  | 2, _ => rfl
  | 3, _ => rfl
  | 4, _ => rfl
  | 5, _ => rfl
  | 6, _ => rfl
  | 7, _ => rfl
  | 8, _ => rfl
  | 9, _ => rfl
  | n + 10, h => absurd h (by omega)
theorem word_list (k : Nat) : (wordB k).toList = pwords.getD k [] := by
  rw [ByteArray.toList_eq]; rfl
theorem word_size (k : Nat) (hk : k < 10) : (wordB k).size ≤ 9 := by
  have : (wordB k).size = (pwords.getD k []).length := rfl
  rw [this]
  exact of_decide_eq_true (ten_at (p := fun k => decide ((pwords.getD k []).length ≤ 9)) (by kernel_rfl) k hk)
theorem word_length (k : Nat) : (wordB k).toList.length = (wordB k).size := by rw [ByteArray.toList_eq, size_eq]
theorem word_61 (k : Nat) (hk : k < 10) : (61 : UInt8) ∉ (wordB k).toList := by
  rw [word_list]
  have := ten_at (p := fun k => !(pwords.getD k []).contains 61) (by kernel_rfl) k hk
  simpa using this
theorem word_inj (j k : Nat) (hj : j < 10) (hk : k < 10) (h : (wordB j).toList = (wordB k).toList) : j = k := by
  rw [word_list, word_list] at h
  have := ten_at (ten_at (p := fun j => ten fun k => !(pwords.getD j [] == pwords.getD k []) || j == k) (by kernel_rfl) j hj) k hk
  simp only [h, beq_self_eq_true, Bool.not_true, Bool.false_or] at this
  exact eq_of_beq this

theorem cho_l0 (k : Nat) (x0 : ByteArray) (x4 : List ByteArray) (x5 : Int) : mimesisref37_choice.l0 (k + 1) x0 x4 x5 = if x5 < (x4.length : Int) then (if 0 ≤ x5 then (if (x0.size : Int) < (wrap64 (((rdOf ByteArray.empty x4 x5).size : Int) + 2)) then (mimesisref37_choice.j1 k x0 x4 x5 ((rdOf ByteArray.empty x4 x5).size : Int) true) else (if (x0.size : Int) > (wrap64 (((rdOf ByteArray.empty x4 x5).size : Int) + 5)) then (mimesisref37_choice.j1 k x0 x4 x5 ((rdOf ByteArray.empty x4 x5).size : Int) true) else (if 0 ≤ ((rdOf ByteArray.empty x4 x5).size : Int) then (if ((rdOf ByteArray.empty x4 x5).size : Int) ≤ (x0.size : Int) then (if (x0.extract 0 (((rdOf ByteArray.empty x4 x5).size : Int) : Int).toNat).toList = (rdOf ByteArray.empty x4 x5).toList then (if ((rdOf ByteArray.empty x4 x5).size : Int) < (x0.size : Int) then (mimesisref37_choice.j1 k x0 x4 x5 ((rdOf ByteArray.empty x4 x5).size : Int) ((bt x0 ((rdOf ByteArray.empty x4 x5).size : Int)) != 61)) else (none)) else (mimesisref37_choice.j1 k x0 x4 x5 ((rdOf ByteArray.empty x4 x5).size : Int) true)) else (none)) else (none)))) else (none)) else (some (0, 0, false)) := rfl
theorem cho_j1 (k : Nat) (x0 : ByteArray) (x4 : List ByteArray) (x5 x6 : Int) (x51 : Bool) : mimesisref37_choice.j1 (k + 1) x0 x4 x5 x6 x51 = if x51 = true then (mimesisref37_choice.l0 k x0 x4 (wrap64 (x5 + 1))) else (mimesisref37_choice.l1 k x0 x5 0 (wrap64 (x6 + 1))) := rfl

/-- The word is of kind k, with one to four further bytes. -/
def Is (x : ByteArray) (k : Nat) (r : List UInt8) : Prop := x.toList = (wordB k).toList ++ 61 :: r ∧ 1 ≤ r.length ∧ r.length ≤ 4

theorem cho_step (x : ByteArray) (hs : x.size < 2 ^ 40) (k : Nat) (hk : k < 10) (K : Nat) :
    ((∀ r, ¬ Is x k r) → mimesisref37_choice.l0 (K + 2) x nms (k : Int) = mimesisref37_choice.l0 K x nms ((k + 1 : Nat) : Int)) ∧
    (∀ r, Is x k r → mimesisref37_choice.l0 (K + 2) x nms (k : Int) = mimesisref37_choice.l1 K x (k : Int) 0 (((wordB k).size + 1 : Nat) : Int)) := by
  have hw := word_size k hk
  have hwl := word_length k
  have hxl : x.toList.length = x.size := by rw [ByteArray.toList_eq, size_eq]
  rw [show K + 2 = (K + 1) + 1 by omega, cho_l0, rd_word k hk, nms_length, if_pos (by omega), if_pos (by omega)]
  unfold Is
  generalize wordB k = W at *
  have e1 : wrap64 ((W.size : Int) + 2) = W.size + 2 := by unfold wrap64; omega
  have e2 : wrap64 ((W.size : Int) + 5) = W.size + 5 := by unfold wrap64; omega
  have e3 : wrap64 ((k : Int) + 1) = ((k + 1 : Nat) : Int) := by unfold wrap64; omega
  have e4 : wrap64 ((W.size : Int) + 1) = ((W.size + 1 : Nat) : Int) := by unfold wrap64; omega
  have hex : (x.extract 0 W.size).toList = x.toList.take W.size := by rw [extract_toList, ByteArray.toList_eq]; simp
  have jt : mimesisref37_choice.j1 (K + 1) x nms (k : Int) (W.size : Int) true = mimesisref37_choice.l0 K x nms ((k + 1 : Nat) : Int) := by rw [cho_j1, if_pos rfl, e3]
  have jf : mimesisref37_choice.j1 (K + 1) x nms (k : Int) (W.size : Int) false = mimesisref37_choice.l1 K x (k : Int) 0 ((W.size + 1 : Nat) : Int) := by rw [cho_j1, if_neg (by simp), e4]
  rw [e1, e2, Int.toNat_natCast, hex]
  constructor
  · intro hno
    by_cases c1 : (x.size : Int) < W.size + 2
    · rw [if_pos c1, jt]
    · rw [if_neg c1]
      by_cases c2 : (x.size : Int) > W.size + 5
      · rw [if_pos c2, jt]
      · rw [if_neg c2, if_pos (by omega), if_pos (by omega)]
        by_cases c3 : x.toList.take W.size = W.toList
        · rw [if_pos c3, if_pos (by omega)]
          cases hd : x.toList.drop W.size with
          | nil => have := drop_nil hd; omega
          | cons b r =>
            obtain ⟨_, hb, hr⟩ := drop_cons hd
            rw [hb]
            have hne : ¬ ((b.toNat : Int) = 61) := by
              intro h
              have hb' : b = 61 := (byte_eq b 61 (by decide)).1 h
              have hx : x.toList = W.toList ++ 61 :: r := by rw [← c3, ← hb', ← hd, List.take_append_drop]
              have hl := congrArg List.length hx
              simp only [List.length_append, List.length_cons] at hl
              exact hno r ⟨hx, by omega, by omega⟩
            rw [show ((b.toNat : Int) != 61) = true by simp [hne], jt]
        · rw [if_neg c3, jt]
  · rintro r ⟨hx, h1, h2⟩
    have hl := congrArg List.length hx
    simp only [List.length_append, List.length_cons] at hl
    have hd : x.toList.drop W.size = 61 :: r := by rw [hx, ← hwl, List.drop_left]
    obtain ⟨_, hb, _⟩ := drop_cons hd
    rw [if_neg (by omega), if_neg (by omega), if_pos (by omega), if_pos (by omega), if_pos (by rw [hx, ← hwl, List.take_left]), if_pos (by omega), hb]
    exact jf

theorem cho_skip (x : ByteArray) (hs : x.size < 2 ^ 40) (K : Nat) : ∀ (d k : Nat), k + d ≤ 10 → (∀ j, k ≤ j → j < k + d → ∀ r, ¬ Is x j r) → mimesisref37_choice.l0 (2 * d + K) x nms (k : Int) = mimesisref37_choice.l0 K x nms ((k + d : Nat) : Int)
  | 0, k, _, _ => by rw [show 2 * 0 + K = K by omega]; rfl
  | d + 1, k, hk, hno => by
    rw [show 2 * (d + 1) + K = (2 * d + K) + 2 by omega, (cho_step x hs k (by omega) _).1 (hno k (by omega) (by omega)), cho_skip x hs K d (k + 1) (by omega) (fun j h1 h2 => hno j (by omega) (by omega))]
    rw [show k + 1 + d = k + (d + 1) by omega]

open Classical in
/-- A word's choice. -/
noncomputable def C (x : ByteArray) : Int × Int × Bool :=
  if x.toList = [45] then (0, 0, true)
  else if h : ∃ k, 1 ≤ k ∧ k < 10 ∧ (wordB k).toList = (cut x.toList [61]).1 then ((h.choose : Int), (numV (cut x.toList [61]).2.1).1, (numV (cut x.toList [61]).2.1).2)
  else (0, 0, false)

theorem C_dash {x : ByteArray} (h : x.toList = [45]) : C x = (0, 0, true) := by unfold C; rw [if_pos h]
theorem C_hit {x : ByteArray} (h : ¬ x.toList = [45]) (k : Nat) (h1 : 1 ≤ k) (h10 : k < 10) (hk : (wordB k).toList = (cut x.toList [61]).1) : C x = ((k : Int), (numV (cut x.toList [61]).2.1).1, (numV (cut x.toList [61]).2.1).2) := by
  unfold C
  have he : ∃ k, 1 ≤ k ∧ k < 10 ∧ (wordB k).toList = (cut x.toList [61]).1 := ⟨k, h1, h10, hk⟩
  rw [if_neg h, dif_pos he]
  have := word_inj he.choose k he.choose_spec.2.1 h10 (he.choose_spec.2.2.trans hk.symm)
  rw [this]
theorem C_miss {x : ByteArray} (h : ¬ x.toList = [45]) (hno : ¬ ∃ k, 1 ≤ k ∧ k < 10 ∧ (wordB k).toList = (cut x.toList [61]).1) : C x = (0, 0, false) := by
  unfold C; rw [if_neg h, dif_neg hno]

theorem numV_out (r : List UInt8) (h : ¬ (1 ≤ r.length ∧ r.length ≤ 4)) : (numV r).2 = false := by
  unfold numV
  by_cases h4 : r.length ≤ 4
  · have : r = [] := List.length_eq_zero_iff.1 (by omega)
    subst this; rfl
  · rw [if_neg h4]
theorem numV_in (r : List UInt8) (h1 : 1 ≤ r.length) (h4 : r.length ≤ 4) : numV r = match dv r 0 with | some v => (v, true) | none => (0, false) := by
  unfold numV
  rw [if_pos h4]
  have : (r != []) = true := by cases r with | nil => simp at h1 | cons b r => rfl
  rw [this]
  cases dv r 0 <;> rfl

theorem choice_ref (x : ByteArray) (hs : x.size < 2 ^ 40) (K : Nat) : ∃ p q ok, mimesisref37_choice.f (K + 40) x = some (p, q, ok) ∧ ok = (C x).2.2 ∧ (ok = true → p = (C x).1 ∧ q = (C x).2.1) := by
  unfold mimesisref37_choice.f
  by_cases hd : x.toList = [45]
  · rw [if_pos hd, C_dash hd]
    exact ⟨_, _, _, rfl, rfl, fun _ => ⟨rfl, rfl⟩⟩
  · rw [if_neg hd, names_eq, Option.bind_some]
    have hmiss : (∀ j, 1 ≤ j → j < 10 → ∀ r, ¬ Is x j r) → mimesisref37_choice.l0 (K + 40) x nms 1 = some (0, 0, false) := by
      intro hno
      have h := cho_skip x hs (K + 22) 9 1 (by omega) (fun j h1 h2 => hno j h1 (by omega))
      rw [show 2 * 9 + (K + 22) = K + 40 by omega] at h
      exact h.trans (by rw [show K + 22 = (K + 21) + 1 by omega, cho_l0, nms_length, if_neg (by omega)])
    rcases cut_two x.toList with ⟨hn, hc⟩ | ⟨a, r, hx, ha, hc⟩
    · refine ⟨_, _, _, hmiss (fun j h1 h2 r ⟨h, _⟩ => hn (by rw [h]; simp)), ?_, by simp⟩
      by_cases he : ∃ k, 1 ≤ k ∧ k < 10 ∧ (wordB k).toList = (cut x.toList [61]).1
      · obtain ⟨k, h1, h10, hk⟩ := he
        rw [C_hit hd k h1 h10 hk, hc]; rfl
      · rw [C_miss hd he]
    · by_cases he : ∃ k, 1 ≤ k ∧ k < 10 ∧ (wordB k).toList = (cut x.toList [61]).1
      · obtain ⟨k, h1, h10, hk⟩ := he
        rw [C_hit hd k h1 h10 hk, hc]
        rw [hc] at hk
        by_cases hr : 1 ≤ r.length ∧ r.length ≤ 4
        · have his : Is x k r := ⟨by rw [hk]; exact hx, hr.1, hr.2⟩
          have h := cho_skip x hs (K + 40 - 2 * (k - 1)) (k - 1) 1 (by omega) (fun j hj1 hj2 r' ⟨h, _⟩ => by
            have e := (eq_two (word_61 j (by omega)) ha (h.symm.trans hx)).1
            have := word_inj j k (by omega) h10 (e.trans hk.symm)
            omega)
          rw [show 2 * (k - 1) + (K + 40 - 2 * (k - 1)) = K + 40 by omega, show 1 + (k - 1) = k by omega, show K + 40 - 2 * (k - 1) = (K + 38 - 2 * (k - 1)) + 2 by omega, (cho_step x hs k h10 _).2 r his] at h
          have hxl : x.toList.length = x.size := by rw [ByteArray.toList_eq, size_eq]
          have hwl := word_length k
          have hw := word_size k h10
          have hl := congrArg List.length his.1
          simp only [List.length_append, List.length_cons] at hl
          have hdr : x.toList.drop ((wordB k).size + 1) = r := by
            rw [his.1, show (wordB k).toList ++ 61 :: r = ((wordB k).toList ++ [61]) ++ r by simp, show (wordB k).size + 1 = ((wordB k).toList ++ [61]).length by simp [hwl], List.drop_left]
          have h2 := l1_go x k (K + 38 - 2 * (k - 1) - (r.length + 1)) hs r ((wordB k).size + 1) 0 0 hdr (by omega) (by omega) (by omega) (by decide)
          rw [show r.length + 1 + (K + 38 - 2 * (k - 1) - (r.length + 1)) = K + 38 - 2 * (k - 1) by omega] at h2
          have h3 := h.trans h2
          have hv := numV_in r hr.1 hr.2
          cases hdv : dv r 0 with
          | none =>
            rw [hdv] at h3 hv
            exact ⟨_, _, _, h3, by rw [hv], by simp⟩
          | some v =>
            rw [hdv] at h3 hv
            exact ⟨_, _, _, h3, by rw [hv], fun _ => by rw [hv]; exact ⟨rfl, rfl⟩⟩
        · refine ⟨_, _, _, hmiss (fun j h1 h2 r' ⟨h, h3, h4⟩ => ?_), (numV_out r hr).symm, by simp⟩
          obtain ⟨_, rfl⟩ := eq_two (word_61 j (by omega)) ha (h.symm.trans hx)
          exact hr ⟨h3, h4⟩
      · rw [C_miss hd he]
        refine ⟨_, _, _, hmiss (fun j h1 h2 r' ⟨h, h3, h4⟩ => ?_), rfl, by simp⟩
        exact he ⟨j, h1, h2, by rw [hc]; exact (eq_two (word_61 j (by omega)) ha (h.symm.trans hx)).1⟩

/-- The program's choice. -/
theorem choice_calls (w : World) (x : ByteArray) (hx : x.size ≤ 100000) (hw : Words w) : Calls Tryd.prog 61 #[.string x] w fun e w' => e = .returned (.tuple #[.agg #[.int .i64 (C x).1, .int .i64 (C x).2.1], .bool (C x).2.2]) ∧ Below w.heap.size w w' := by
  by_cases hd : x.toList = [45]
  · rw [C_dash hd]
    exact choice_dash w x (by simp [hd]) hw
  · have hd' : (x.toList == [45]) = false := by simp [hd]
    have hC : ∀ w', Below w.heap.size w w' → Calls Tryd.prog 44 #[.string x, .string ⟨#[61]⟩] w' fun e w'' => e = .returned (.tuple #[.string ⟨(cut x.toList [61]).1.toArray⟩, .string ⟨(cut x.toList [61]).2.1.toArray⟩, .bool (cut x.toList [61]).2.2]) ∧ Drawn0 w' w'' := by
      intro w' hb
      obtain ⟨m, hm⟩ := (hw.below hb).2
      have h := Tryd.strings_Cut x ⟨#[61]⟩ m w' (by omega) hm
      rw [← ByteArray.toList_eq] at h
      exact h.mono fun e w'' ⟨h1, n, h2⟩ => ⟨h1, h2 ▸ ⟨⟨n, rfl⟩⟩⟩
    have hl1 : (⟨(cut x.toList [61]).1.toArray⟩ : ByteArray).toList = (cut x.toList [61]).1 := by rw [ByteArray.toList_eq]
    have hl2 : (⟨(cut x.toList [61]).2.1.toArray⟩ : ByteArray).toList = (cut x.toList [61]).2.1 := by rw [ByteArray.toList_eq]
    have hN := number_val ⟨(cut x.toList [61]).2.1.toArray⟩
    rw [hl2] at hN
    by_cases he : ∃ k, 1 ≤ k ∧ k < 10 ∧ (wordB k).toList = (cut x.toList [61]).1
    · obtain ⟨k, h1, h10, hk⟩ := he
      rw [C_hit hd k h1 h10 hk]
      refine choice_hit w x _ _ _ _ k _ _ hd' hw h1 h10 (fun j hj hjk => ?_) (by rw [hl1]; simp [hk]) hC hN
      rw [hl1, ← hk]
      have : ¬ (wordB j).toList = (wordB k).toList := fun h => by have := word_inj j k (by omega) h10 h; omega
      simpa using this
    · rw [C_miss hd he]
      refine choice_miss w x _ _ _ _ _ _ hd' hw (fun j hj hj10 => ?_) hC hN
      rw [hl1]
      have : ¬ (wordB j).toList = (cut x.toList [61]).1 := fun h => he ⟨j, hj, hj10, h⟩
      simpa using this
end Go.Proofs.YtfnbpmkbjbibkaaDoor.PolPlain
