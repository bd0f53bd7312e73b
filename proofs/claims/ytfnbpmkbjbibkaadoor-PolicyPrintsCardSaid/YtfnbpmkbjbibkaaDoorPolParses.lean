/- The statement that any text's choices are the document's. -/
import Derived.Test.YtfnbpmkbjbibkaaDoorPolSame
namespace Go.Proofs.YtfnbpmkbjbibkaaDoor
open Go Go.RowKit Go.Deep Go.Proofs.YtfnbpmkbjbibkaaDoor.QPolicyParses Go.Proofs.YtfnbpmkbjbibkaaDoorW.PrintWords
set_option linter.unusedVariables false
set_option linter.unusedSimpArgs false

set_option maxRecDepth 100000 in
theorem parse_long (w : World) (s : ByteArray) (hl : 65536 < s.size) : Calls Tryd.prog 32 #[.string s] w fun e w' => e = .returned (.tuple #[.slice none 0 0, .int .i64 3]) ∧ Below w.heap.size w w' := by
  have hl' : ((65536 : Int) < (s.size : Int)) = True := by simp; omega
  obtain ⟨P, hP⟩ : ∃ P : Ending → World → Prop, P = fun e w' => e = .returned (.tuple #[.slice none 0 0, .int .i64 3]) ∧ Below w.heap.size w w' := ⟨_, rfl⟩
  rw [← hP]
  have HP := Aside0.mk hP
  have HB := Aside0.mk (Below.refl w.heap.size w)
  clear hP
  go_enter Tryd.func32, Tryd.ntmps32
  go_wp2_with fail
  rw [HP.out]
  exact ⟨rfl, HB.out⟩

/-- The program's parse, as the document's. -/
theorem parse_both (w : World) (s : ByteArray) (hl : s.size ≤ 65536) (hw : Words w) : ∃ r1 r2, mimesisref37_Parse.f (2 * s.size + 42) s = some (r1, r2) ∧ r1.length ≤ 600 ∧ Calls Tryd.prog 32 #[.string s] w fun e w' => ∃ A c, e = .returned (.tuple #[.slice A r1.length c, .int .i64 r2]) ∧ r1.length ≤ c ∧ Kd.C k66 w' A r1.length r1 ∧ Below w.heap.size w w' := by
  obtain ⟨s2, h2⟩ : ∃ s2, s2 = (⟨(Lib.replaceAll s.data.toList (⟨#[10]⟩ : ByteArray).data.toList (⟨#[32]⟩ : ByteArray).data.toList).toArray⟩ : ByteArray) := ⟨_, rfl⟩
  obtain ⟨hx, hf⟩ := PolPlain.parse_same s s2 (by omega) h2
  have hs2 : s2.size ≤ 65536 := by
    have h : s2.data.toList = PolPlain.rep s.data.toList := by
      rw [h2]
      show (Lib.replaceAll s.data.toList [10] [32]) = _
      unfold Lib.replaceAll Lib.replace Lib.replaceNum
      rw [if_neg (by decide), if_pos (.inl (by decide))]
      exact PolPlain.replace_rep _ _ (Nat.le_refl _)
    have h' := congrArg List.length h
    unfold PolPlain.rep at h'
    rw [List.length_map, ← Lib.size_eq, ← Lib.size_eq] at h'
    omega
  have hc1 := Lib.countB_le ⟨#[10]⟩ (by decide) _ s (Nat.le_refl _)
  have hc2 := Lib.countB_le ⟨#[32]⟩ (by decide) _ s2 (Nat.le_refl _)
  have hxl := Lib.splitB_length_le ⟨#[32]⟩ 0 (Lib.countB s2 ⟨#[32]⟩) s2
  have hlen : (Lib.splitB ⟨#[32]⟩ 0 (Lib.countB s2 ⟨#[32]⟩) s2).length = Lib.countB s2 ⟨#[32]⟩ + 1 := Lib.splitB_all ⟨#[32]⟩ (by decide) 0 _ s2 rfl
  have hP := parse_calls w s s2 _ PolPlain.C _ hl (by omega : (Lib.splitB ⟨#[32]⟩ 0 (Lib.countB s2 ⟨#[32]⟩) s2).length ≤ 100000) (fun w' hb => by
      obtain ⟨m, hm⟩ := (hw.below hb).2
      have h := Tryd.strings_ReplaceAll s ⟨#[10]⟩ ⟨#[32]⟩ m w' (by omega) hm (by decide) (by have : (⟨#[32]⟩ : ByteArray).size = 1 := rfl; rw [this]; omega)
      rw [← h2] at h
      exact h) (fun w' hb => by
      obtain ⟨m, hm⟩ := (hw.below hb).2
      have h := Tryd.strings_Split s2 ⟨#[32]⟩ m w' (by omega) hm (by decide)
      rw [← hlen] at h
      exact h.mono fun e w'' ⟨h1, h2⟩ => ⟨w'.heap.size, h1, h2 ▸ blk_new w' _, h2 ▸ below_alloc (Below.refl _ _) _⟩) (fun x hxm w' hb => PolPlain.choice_calls w' x (hx x hxm) (hw.below hb)) rfl
  generalize pgo PolPlain.C (Lib.splitB ⟨#[32]⟩ 0 (Lib.countB s2 ⟨#[32]⟩) s2) [] = R at hP hf
  have nilC : ∀ w' : World, Kd.C k66 w' none ([] : List S66).length [] := fun w' => ⟨rfl, by simp, fun h => absurd h (by simp)⟩
  cases R with
  | none =>
    refine ⟨[], 1, hf, by simp, hP.mono ?_⟩
    rintro e w' ⟨hb, rfl⟩
    exact ⟨none, 0, rfl, by simp, nilC w', hb⟩
  | some l =>
    by_cases h5 : 512 < l.length
    · have he : PolPlain.endOf (some l) = ([], 3) := by rw [PolPlain.endOf, if_pos h5]
      rw [he] at hf
      refine ⟨[], 3, hf, by simp, hP.mono ?_⟩
      rintro e w' ⟨hb, hr⟩
      simp only [if_pos h5] at hr
      subst hr
      exact ⟨none, 0, rfl, by simp, nilC w', hb⟩
    · have he : PolPlain.endOf (some l) = (l.map PolPlain.mkS, 0) := by rw [PolPlain.endOf, if_neg h5]
      rw [he] at hf
      refine ⟨l.map PolPlain.mkS, 0, hf, by rw [List.length_map]; omega, hP.mono ?_⟩
      rintro e w' ⟨hb, hr⟩
      simp only [if_neg h5] at hr
      obtain ⟨v, rfl, ho⟩ := hr
      obtain ⟨A, c, rfl, hc, hC⟩ := PolPlain.own_C ho (by omega)
      exact ⟨A, c, rfl, hc, hC, hb⟩

set_option maxRecDepth 100000 in
set_option maxHeartbeats 1000000 in
theorem pol_parses (s : ByteArray) (W : World) (_h : s.size ≤ maxLen) (hw : Words W) : Calls Tryd.prog 8 #[.string s] W fun e w' => e = .returned (.bool true) ∧ Below W.heap.size W w' := by
  have HW := Aside0.mk hw
  have B0 := Aside0.mk (Below.refl W.heap.size W)
  by_cases h1 : 65536 < s.size
  · have c1 : ((6000 : Int) < (s.size : Int)) = True := by simp; omega
    have c2 : ((s.size : Int) ≤ 65536) = False := by simp; omega
    have c3 : ((65536 : Int) < (s.size : Int)) = True := by simp; omega
    have HP := Aside0.mk (parse_long W s h1)
    clear hw
    go_enter Tryd.func8, Tryd.ntmps8
    go_wp2_with fail
    refine HP.out.mono ?_
    rintro e w1 ⟨rfl, b1⟩
    have B1 := Aside0.mk b1
    clear b1 HP
    go_wp2_with fail
    refine (pol_awake_calls _ (HW.out.below B1.out)).mono ?_
    rintro e w5 ⟨rfl, b5⟩
    have B5 := Aside0.mk (below_on B1.out b5)
    clear b5
    go_wp2_with fail
    go_ret
    exact ⟨rfl, B5.out⟩
  · by_cases h2 : 6000 < s.size
    · have c1 : ((6000 : Int) < (s.size : Int)) = True := by simp; omega
      have c2 : ((s.size : Int) ≤ 65536) = True := by simp; omega
      clear hw
      go_enter Tryd.func8, Tryd.ntmps8
      go_wp2_with fail
      refine (pol_awake_calls _ HW.out).mono ?_
      rintro e w5 ⟨rfl, b5⟩
      have B5 := Aside0.mk b5
      clear b5
      go_wp2_with fail
      go_ret
      exact ⟨rfl, B5.out⟩
    · have c1 : ((6000 : Int) < (s.size : Int)) = False := by simp; omega
      have c3 : ((65536 : Int) < (s.size : Int)) = False := by simp; omega
      obtain ⟨r1, r2, hf, hl, hP⟩ := parse_both W s (by omega) hw
      have HP := Aside0.mk hP
      have HF := Aside0.mk hf
      have HS := Aside0.mk (PolPlain.same_self r1 hl)
      have hrr : (r2 = r2) = True := by simp
      clear hw hP hf
      go_enter Tryd.func8, Tryd.ntmps8
      go_wp2_with fail
      refine HP.out.mono ?_
      rintro e w1 ⟨A1, k1, rfl, hk1, hC1, b1⟩
      have B1 := Aside0.mk b1
      have K1 := Aside0.mk hC1
      have HK1 := Aside0.mk hk1
      clear b1 hC1 hk1 HP
      go_wp2_with fail
      refine (mimesisref37_Parse.calls _ s r1 r2 w1 HF.out).mono ?_
      rintro e w2 ⟨v2, rfl, hR2, b2⟩
      obtain ⟨A2, k2, rfl, hk2, hC2⟩ := Kd.R_reads hR2
      have B2 := Aside0.mk (below_on B1.out b2)
      have K1' := Aside0.mk (Kd.C_below K1.out b2)
      have K2 := Aside0.mk hC2
      have HK2 := Aside0.mk hk2
      clear hR2 hC2 b2 hk2 HF K1 B1
      go_wp2_with fail
      refine (mimesislaw37_same.calls _ A1 k1 r1 A2 k2 r1 true w2 K1'.out HK1.out K2.out HK2.out HS.out).mono ?_
      rintro e w3 ⟨rfl, d3⟩
      have B3 := Aside0.mk (drawn_below' B2.out d3)
      clear d3 B2
      go_wp2_with fail
      refine (pol_awake_calls _ (HW.out.below B3.out)).mono ?_
      rintro e w5 ⟨rfl, b5⟩
      have B5 := Aside0.mk (below_on B3.out b5)
      clear b5
      go_wp2_with fail
      go_ret
      exact ⟨rfl, B5.out⟩
end Go.Proofs.YtfnbpmkbjbibkaaDoor
