/- The statements' 'same': is a console the document's? -/
import Derived.Test.YtonfblfbmnepoaaRefConC
namespace Go.Proofs.Ytonfblfbmnepoaa
open Go Go.RowKit Go.Deep Go.Proofs.YtonfblfbmnepoaaW.PrintWords
set_option linter.unusedVariables false
set_option linter.unusedSimpArgs false

set_option maxRecDepth 100000 in
set_option maxHeartbeats 8000000 in
theorem csame_calls (W w : World) (X : Nat → Prop) (C : Nat) (A : Option Addr) (cap came : Nat) (al : List (Int × Int)) (q : List Int) (over : Bool) (out : List Int) (v : Value) (hK : KC W w X C al came q over out) (hA : AR w A al) (hll : al.length ≤ 256) (hol : out.length ≤ 65536) (h : VC w X A al.length cap v came q over out) :
    Calls Try.prog 39 #[.pointer (some ⟨C, 0, none⟩), v] w fun e w' => e = .returned (.bool true) ∧ Below w.heap.size w w' := by
  obtain ⟨Ar, cr, Ao, co, rfl, hr, ho⟩ := h
  have hq16 := hK.q16
  have HN := Aside0.mk (fun w' (hb : Below w.heap.size w w') => kc_next (hK.below hb))
  have HW := Aside0.mk (fun w' (hb : Below w.heap.size w w') => kc_waits (hK.below hb))
  have HO := Aside0.mk (fun w' (hb : Below w.heap.size w w') => kc_out (hK.below hb) hol)
  have HC := Aside0.mk (fun w' (hb : Below w.heap.size w w') => kc_came (hK.below hb))
  have HV := Aside0.mk (fun w' (hb : Below w.heap.size w w') => kc_over (hK.below hb))
  have HR := Aside0.mk (fun w' (hb : Below w.heap.size w w') => kc_ready (hK.below hb))
  have HS1 := Aside0.mk (fun w' A c (h1 : q.length ≤ c) (h2 : (Kd.int .u8).C w' A q.length q) (hb : Below w.heap.size w w') => PConsolePlays.mimesisref01_SameBytes.calls _ A c q Ar cr q true w' h2 h1 ((hr.below hb).C (by omega)) (hr.below hb).le (con_same_self _ (by omega)))
  have HS2 := Aside0.mk (fun w' A c (h1 : out.length ≤ c) (h2 : (Kd.int .u8).C w' A out.length out) (hb : Below w.heap.size w w') => PConsolePlays.mimesisref01_SameBytes.calls _ A c out Ao co out true w' h2 h1 ((ho.below hb).C (by omega)) (ho.below hb).le (con_same_self _ (by omega)))
  have HA := Aside0.mk hA
  have hcl := hK.lc
  clear hA hK hr ho
  obtain ⟨tk, bt, want, hN1, hN2⟩ : ∃ (tk : Int) (bt : Bool), (al.getD came (0, 0)).1 = tk ∧ decide (came < al.length) = bt ∧ (bt = true → ∃ x, A = some x ∧ ∀ w', Below w.heap.size w w' → w'.cell? (x.add (came * 2)) = some (.int .u64 tk)) ∧ (bt = false → tk = 0) := by
    refine ⟨_, _, rfl, rfl, fun h => ?_, fun h => ?_⟩
    · have hc := of_decide_eq_true h
      have hp := List.getElem?_eq_getElem hc
      obtain ⟨x, hx, h1, _⟩ := HA.out _ _ hp
      refine ⟨x, hx, fun w' hb => ?_⟩
      rw [List.getD_eq_getElem?_getD, hp]
      exact pw_cell_below hb h1
    · have hc := of_decide_eq_false h
      rw [List.getD_eq_getElem?_getD, List.getElem?_eq_none (by omega)]
      rfl
  obtain ⟨hN1, hN2⟩ : decide (came < al.length) = bt ∧ _ := ⟨hN1, hN2⟩
  rw [want, hN1] at HN
  obtain ⟨len, hal⟩ : ∃ n, al.length = n := ⟨_, rfl⟩
  rw [hal] at hll hcl hN1 ⊢
  obtain ⟨m, hm⟩ : ∃ m, q.length = m := ⟨_, rfl⟩
  obtain ⟨b, hb⟩ : ∃ b, decide (0 < m) = b := ⟨_, rfl⟩
  rw [hm, hb] at HR
  rw [hm] at HW HS1 hq16 ⊢
  obtain ⟨mo, hmo⟩ : ∃ m, out.length = m := ⟨_, rfl⟩
  rw [hmo] at HO HS2 hol ⊢
  have hb1 : decide ((0 : Int) < (m : Int)) = b := by rw [← hb]; congr 1; simp
  have hbt : decide ((came : Int) < (len : Int)) = bt := by rw [← hN1]; congr 1; simp
  have HB := Aside0.mk (below_alloc (Below.refl w.heap.size w) (.cells #[.slice A len cap, .int .i64 (came : Int), .slice Ar m cr, .bool over, .slice Ao mo co] 73))
  have HBK := Aside0.mk (blk_new w (.cells #[.slice A len cap, .int .i64 (came : Int), .slice Ar m cr, .bool over, .slice Ao mo co] 73))
  clear hm hmo hal hN1 HA want
  go_enter Try.func39, Try.ntmps39
  go_wp2_with fail
  refine (HN.out _ HB.out).mono ?_
  rintro e w1 ⟨rfl, d1⟩
  have B1 := Aside0.mk (drawn_below' HB.out d1)
  have K1 := Aside0.mk (blk_below HBK.out d1.below)
  obtain ⟨B, hB⟩ : ∃ B, w.heap.size = B := ⟨_, rfl⟩
  clear d1 HBK HB
  have HBS := Aside0.mk hB
  rw [hB] at K1
  have c0 : w1.cell? ⟨B, 0, none⟩ = some (.slice A len cap) := (blk_cell K1.out 0).trans rfl
  have c1 : w1.cell? ⟨B, 1, none⟩ = some (.int .i64 (came : Int)) := (blk_cell K1.out 1).trans rfl
  have c2 : w1.cell? ⟨B, 2, none⟩ = some (.slice Ar m cr) := (blk_cell K1.out 2).trans rfl
  have c3 : w1.cell? ⟨B, 3, none⟩ = some (.bool over) := (blk_cell K1.out 3).trans rfl
  have c4 : w1.cell? ⟨B, 4, none⟩ = some (.slice Ao mo co) := (blk_cell K1.out 4).trans rfl
  rw [hB]
  clear hB K1
  have KEEP : Aside0 (∀ w', Below w1.heap.size w1 w' → w'.cell? ⟨B, 0, none⟩ = some (.slice A len cap) ∧ w'.cell? ⟨B, 1, none⟩ = some (.int .i64 (came : Int)) ∧ w'.cell? ⟨B, 2, none⟩ = some (.slice Ar m cr) ∧ w'.cell? ⟨B, 3, none⟩ = some (.bool over) ∧ w'.cell? ⟨B, 4, none⟩ = some (.slice Ao mo co) ∧ Below w1.heap.size w1 w') := ⟨fun w' hb => ⟨pw_cell_below hb c0, pw_cell_below hb c1, pw_cell_below hb c2, pw_cell_below hb c3, pw_cell_below hb c4, hb⟩⟩
  cases bt with
  | true =>
    obtain ⟨x, hx, hcell⟩ := hN2.1 rfl
    subst hx
    have a0 := hcell w1 B1.out
    have hlt : ((came : Int) < (len : Int)) = True := by simpa using hbt
    clear hcell hN2 hbt
    go_wp2_with fail
    go_region_held3 (fun w' => w'.cell? ⟨B, 0, none⟩ = some (.slice (some x) len cap) ∧ w'.cell? ⟨B, 1, none⟩ = some (.int .i64 (came : Int)) ∧ w'.cell? ⟨B, 2, none⟩ = some (.slice Ar m cr) ∧ w'.cell? ⟨B, 3, none⟩ = some (.bool over) ∧ w'.cell? ⟨B, 4, none⟩ = some (.slice Ao mo co) ∧ Below w1.heap.size w1 w')
      (first | exact KEEP.out _ (Below.drew (Below.refl _ _)) | (exact KEEP.out _ (below_on (by assumption) hbn)))
      (first
        | (go_at_call 37; go_split_ands; (with_reducible refine (HW.out _ (below_on B1.out (by assumption))).mono ?_); rintro e w' ⟨⟨A1, c1', rfl, hc1, hC1⟩, hbn⟩)
        | (go_at_call 42; go_split_ands; (with_reducible refine (HO.out _ (below_on B1.out (by assumption))).mono ?_); rintro e w' ⟨⟨A2, c2', rfl, hc2, hC2⟩, hbn⟩)
        | (go_at_call 18; go_split_ands; (with_reducible refine (HS1.out _ A1 c1' hc1 hC1 (below_on B1.out (by assumption))).mono ?_); rintro e w' ⟨rfl, hd⟩; have hbn := hd.below; clear hd)
        | (go_at_call 18; go_split_ands; (with_reducible refine (HS2.out _ A2 c2' hc2 hC2 (below_on B1.out (by assumption))).mono ?_); rintro e w' ⟨rfl, hd⟩; have hbn := hd.below; clear hd)
        | (go_at_call 38; go_split_ands; (with_reducible refine (HC.out _ (below_on B1.out (by assumption))).mono ?_); rintro e w' ⟨rfl, hd⟩; have hbn := hd.below; clear hd)
        | (go_at_call 36; go_split_ands; (with_reducible refine (HV.out _ (below_on B1.out (by assumption))).mono ?_); rintro e w' ⟨rfl, hd⟩; have hbn := hd.below; clear hd)
        | (go_at_call 33; go_split_ands; (with_reducible refine (HR.out _ (below_on B1.out (by assumption))).mono ?_); rintro e w' ⟨rfl, hd⟩; have hbn := hd.below; clear hd))
    all_goals go_wp2
    all_goals go_ret
    all_goals (go_split_ands; exact ⟨by simp [*], below_on B1.out (by assumption)⟩)
  | false =>
    obtain rfl := hN2.2 rfl
    have hlt : ((came : Int) < (len : Int)) = False := by simpa using hbt
    clear hN2 hbt
    go_wp2_with fail
    go_region_held3 (fun w' => w'.cell? ⟨B, 0, none⟩ = some (.slice A len cap) ∧ w'.cell? ⟨B, 1, none⟩ = some (.int .i64 (came : Int)) ∧ w'.cell? ⟨B, 2, none⟩ = some (.slice Ar m cr) ∧ w'.cell? ⟨B, 3, none⟩ = some (.bool over) ∧ w'.cell? ⟨B, 4, none⟩ = some (.slice Ao mo co) ∧ Below w1.heap.size w1 w')
      (first | exact KEEP.out _ (Below.drew (Below.refl _ _)) | (exact KEEP.out _ (below_on (by assumption) hbn)))
      (first
        | (go_at_call 37; go_split_ands; (with_reducible refine (HW.out _ (below_on B1.out (by assumption))).mono ?_); rintro e w' ⟨⟨A1, c1', rfl, hc1, hC1⟩, hbn⟩)
        | (go_at_call 42; go_split_ands; (with_reducible refine (HO.out _ (below_on B1.out (by assumption))).mono ?_); rintro e w' ⟨⟨A2, c2', rfl, hc2, hC2⟩, hbn⟩)
        | (go_at_call 18; go_split_ands; (with_reducible refine (HS1.out _ A1 c1' hc1 hC1 (below_on B1.out (by assumption))).mono ?_); rintro e w' ⟨rfl, hd⟩; have hbn := hd.below; clear hd)
        | (go_at_call 18; go_split_ands; (with_reducible refine (HS2.out _ A2 c2' hc2 hC2 (below_on B1.out (by assumption))).mono ?_); rintro e w' ⟨rfl, hd⟩; have hbn := hd.below; clear hd)
        | (go_at_call 38; go_split_ands; (with_reducible refine (HC.out _ (below_on B1.out (by assumption))).mono ?_); rintro e w' ⟨rfl, hd⟩; have hbn := hd.below; clear hd)
        | (go_at_call 36; go_split_ands; (with_reducible refine (HV.out _ (below_on B1.out (by assumption))).mono ?_); rintro e w' ⟨rfl, hd⟩; have hbn := hd.below; clear hd)
        | (go_at_call 33; go_split_ands; (with_reducible refine (HR.out _ (below_on B1.out (by assumption))).mono ?_); rintro e w' ⟨rfl, hd⟩; have hbn := hd.below; clear hd))
    all_goals go_wp2
    all_goals go_ret
    all_goals (go_split_ands; exact ⟨by simp [*], below_on B1.out (by assumption)⟩)
end Go.Proofs.Ytonfblfbmnepoaa
