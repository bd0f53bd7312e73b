/- The text of choices, parsed. -/
import Derived.Test.YtfnbpmkbjbibkaaDoorPolWord
import Derived.Test.YtfnbpmkbjbibkaaDoorPolParses
namespace Go.Proofs.YtfnbpmkbjbibkaaDoor
open Go Go.RowKit Go.Deep Go.Proofs.YtfnbpmkbjbibkaaDoorW.PrintWords Go.Proofs.YtfnbpmkbjbibkaaDoor.PolWord
set_option linter.unusedVariables false
set_option linter.unusedSimpArgs false

/-- The pieces of a text whose words are known. -/
theorem pieces (s s2 : ByteArray) (hs : s.size ≤ 70000) (h2 : s2 = ⟨(Lib.replaceAll s.data.toList (⟨#[10]⟩ : ByteArray).data.toList (⟨#[32]⟩ : ByteArray).data.toList).toArray⟩) (ws : List ByteArray) (hws : ws.map (·.toList) = PolPlain.pw s.toList []) :
    (∀ x ∈ Lib.splitB ⟨#[32]⟩ 0 (Lib.countB s2 ⟨#[32]⟩) s2, x.size ≤ 100000) ∧ pgo PolPlain.C (Lib.splitB ⟨#[32]⟩ 0 (Lib.countB s2 ⟨#[32]⟩) s2) [] = pgo PolPlain.C ws [] := by
  have hp := PolPlain.words_prog s s2 h2
  generalize Lib.splitB ⟨#[32]⟩ 0 (Lib.countB s2 ⟨#[32]⟩) s2 = xs at hp ⊢
  have hf : (xs.filter fun s => !s.toList.isEmpty).map (·.toList) = PolPlain.pw s.toList [] := by
    rw [← hp]
    clear hp
    induction xs with
    | nil => rfl
    | cons x xs ih =>
      simp only [List.filter_cons, List.map_cons, ByteArray.toList_eq] at ih ⊢
      split
      · rw [List.map_cons, ih]
      · exact ih
  have he : ws = xs.filter fun s => !s.toList.isEmpty := PolPlain.map_inj (hws.trans hf.symm)
  have hsl : s.toList.length = s.size := by rw [ByteArray.toList_eq, Lib.size_eq]
  have hx : ∀ x ∈ xs, x.size ≤ 100000 := by
    intro x hx
    have hxl : x.toList.length = x.size := by rw [ByteArray.toList_eq, Lib.size_eq]
    cases hem : x.toList.isEmpty with
    | true => have := List.isEmpty_iff.1 hem; rw [this] at hxl; simp at hxl; omega
    | false =>
      have hm : x.toList ∈ PolPlain.pw s.toList [] := by
        rw [← hf]
        exact List.mem_map.2 ⟨x, List.mem_filter.2 ⟨hx, by rw [hem]; rfl⟩, rfl⟩
      have := PolPlain.pw_len _ _ _ hm
      simp only [List.length_nil] at this
      omega
  exact ⟨hx, by rw [PolPlain.pgo_filter, ← he]⟩

theorem parse_txt (w : World) (l : List (Int × Int)) (hl : l.length ≤ 512) (hw : Words w) : Calls Tryd.prog 32 #[.string ⟨(txtL l).toArray⟩] w fun e w' => ∃ A c, e = .returned (.tuple #[.slice A l.length c, .int .i64 0]) ∧ l.length ≤ c ∧ Kd.C QPolicyParses.k66 w' A l.length ((l.map X).map PolPlain.mkS) ∧ Below w.heap.size w w' := by
  obtain ⟨s, hs⟩ : ∃ s : ByteArray, (⟨(txtL l).toArray⟩ : ByteArray) = s := ⟨_, rfl⟩
  have hsl : s.toList = txtL l := by rw [← hs, ByteArray.toList_eq]
  have hsz : s.size ≤ 8000 := by
    have h1 := txt_le l
    have h2 : s.toList.length = s.size := by rw [ByteArray.toList_eq, Lib.size_eq]
    rw [hsl] at h2
    omega
  rw [hs]
  obtain ⟨s2, h2⟩ : ∃ s2, s2 = (⟨(Lib.replaceAll s.data.toList (⟨#[10]⟩ : ByteArray).data.toList (⟨#[32]⟩ : ByteArray).data.toList).toArray⟩ : ByteArray) := ⟨_, rfl⟩
  obtain ⟨hx, hf⟩ := pieces s s2 (by omega) h2 (l.map PolWord.W) (by rw [hsl, txt_pw, List.map_map]; rfl)
  rw [pgo_map] at hf
  have hs2 : s2.size ≤ 8000 := by
    have h : s2.data.toList = PolPlain.rep s.data.toList := by
      rw [h2]
      show (Lib.replaceAll s.data.toList [10] [32]) = _
      unfold Lib.replaceAll Lib.replace Lib.replaceNum
      rw [if_neg (by decide), if_pos (.inl (by decide))]
      exact PolPlain.replace_rep _ _ (Nat.le_refl _)
    have h' := congrArg List.length h
    unfold PolPlain.rep at h'
    rw [List.length_map, ← Lib.size_eq, ← Lib.size_eq] at h'
    omega
  have hc1 := Lib.countB_le ⟨#[10]⟩ (by decide) _ s (Nat.le_refl _)
  have hc2 := Lib.countB_le ⟨#[32]⟩ (by decide) _ s2 (Nat.le_refl _)
  have hxl := Lib.splitB_length_le ⟨#[32]⟩ 0 (Lib.countB s2 ⟨#[32]⟩) s2
  have hlen : (Lib.splitB ⟨#[32]⟩ 0 (Lib.countB s2 ⟨#[32]⟩) s2).length = Lib.countB s2 ⟨#[32]⟩ + 1 := Lib.splitB_all ⟨#[32]⟩ (by decide) 0 _ s2 rfl
  have hP := parse_calls w s s2 _ PolPlain.C _ (by omega) (by omega : (Lib.splitB ⟨#[32]⟩ 0 (Lib.countB s2 ⟨#[32]⟩) s2).length ≤ 100000) (fun w' hb => by
      obtain ⟨m, hm⟩ := (hw.below hb).2
      have h := Tryd.strings_ReplaceAll s ⟨#[10]⟩ ⟨#[32]⟩ m w' (by omega) hm (by decide) (by have : (⟨#[32]⟩ : ByteArray).size = 1 := rfl; rw [this]; omega)
      rw [← h2] at h
      exact h) (fun w' hb => by
      obtain ⟨m, hm⟩ := (hw.below hb).2
      have h := Tryd.strings_Split s2 ⟨#[32]⟩ m w' (by omega) hm (by decide)
      rw [← hlen] at h
      exact h.mono fun e w'' ⟨h1, h2⟩ => ⟨w'.heap.size, h1, h2 ▸ blk_new w' _, h2 ▸ below_alloc (Below.refl _ _) _⟩) (fun x hxm w' hb => PolPlain.choice_calls w' x (hx x hxm) (hw.below hb)) hf
  refine hP.mono ?_
  rintro e w' ⟨hb, hr⟩
  have hll : ([] ++ l.map X).length = l.length := by simp
  have h5 : ¬ 512 < ([] ++ l.map X).length := by omega
  simp only [if_neg h5] at hr
  rw [List.nil_append] at hr
  obtain ⟨v, rfl, ho⟩ := hr
  obtain ⟨A, c, rfl, hc, hC⟩ := PolPlain.own_C ho (by rw [List.length_map]; omega)
  have e1 : ((l.map X).map PolPlain.mkS).length = l.length := by rw [List.length_map, List.length_map]
  rw [e1] at hc hC
  rw [e1]
  exact ⟨A, c, rfl, hc, hC, hb⟩
end Go.Proofs.YtfnbpmkbjbibkaaDoor
