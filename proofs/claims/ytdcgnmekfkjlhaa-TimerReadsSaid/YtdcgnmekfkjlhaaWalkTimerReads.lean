/- The walk of TimerReads. -/
import Derived.Test.YtdcgnmekfkjlhaaTimerAwakePTimerReads
import Derived.Deep.RegionHeld3
namespace Go.Proofs.Ytdcgnmekfkjlhaa.TPTimerReads
open Go Go.RowKit Go.Proofs.Ytdcgnmekfkjlhaa Go.Proofs.Ytdcgnmekfkjlhaa.PTimerReads Go.Proofs.YtdcgnmekfkjlhaaW.PrintWords
set_option linter.unusedVariables false
set_option linter.unusedSimpArgs false

set_option maxHeartbeats 2000000 in
set_option maxRecDepth 100000 in
theorem walk_no (o m t a : Int) (s : Bool) (W : World) (hA : timer_Has.f a = some false) (hB : mimesisref13_Has.f a = some false)
    (hR : ∀ (w : World) (B : Nat), IsT w B o m s → Calls Try.prog 21 #[.pointer (some ⟨B, 0, none⟩), .int .u32 a, .int .u64 t] w fun e w' => e = .returned (.tuple #[.int .u32 0, .int .i64 6]) ∧ Drawn0 w w') :
    Calls Try.prog 4 #[.agg #[.int .u64 o, .int .u64 m, .bool s], .int .u32 a, .int .u64 t] W fun e w' => e = .returned (.bool true) ∧ Below W.heap.size W w' := by
  have HA := Aside0.mk hA; have HB := Aside0.mk hB; have HR := Aside0.mk hR
  have HN := Aside0.mk (show mimesisref13_Now.f o m s t = some (tnow t o) from rfl)
  have HU := Aside0.mk (show mimesisref13_Up.f o m s t = some (tup t o m) from rfl)
  have T0 := Aside0.mk (show IsT (W.alloc (.cells #[.int .u64 o, .int .u64 m, .bool s] 24)) W.heap.size o m s from blk_new W _)
  have C0 := Aside0.mk (below_alloc (Below.refl W.heap.size W) (.cells #[.int .u64 o, .int .u64 m, .bool s] 24))
  clear hA hB hR
  obtain ⟨tn, etn⟩ : ∃ x, tnow t o = x := ⟨_, rfl⟩
  obtain ⟨tu, etu⟩ : ∃ x, tup t o m = x := ⟨_, rfl⟩
  go_enter Try.func4, Try.ntmps4
  go_wp2_with fail
  refine (of_calls _ _ _ _ _ T0.out).mono ?_
  rintro e w1 ⟨rfl, hb1⟩
  have C1 := Aside0.mk (below_on C0.out hb1)
  have T1 := Aside0.mk (T0.out.below hb1)
  clear T0 C0 hb1
  have hl1 := T1.out.lt
  have C1' := Aside0.mk (below_alloc C1.out (.cells #[.int .u64 o, .int .u64 m, .bool s] 25))
  have T1' := Aside0.mk (T1.out.below (below_alloc (Below.refl _ w1) (.cells #[.int .u64 o, .int .u64 m, .bool s] 25)))
  have Q := Aside0.mk (blk_new w1 (.cells #[.int .u64 o, .int .u64 m, .bool s] 25))
  clear T1 C1
  go_wp2_with fail
  refine (HR.out _ _ T1'.out).mono ?_
  rintro e w2 ⟨rfl, d2⟩
  have CT := Aside0.mk (T1'.out.drawn d2)
  have CC := Aside0.mk (drawn_below C1'.out d2)
  have Q2 := Aside0.mk (blk_below Q.out d2.below)
  clear T1' C1' Q d2
  have x0 : w2.cell? ⟨w1.heap.size, 0, none⟩ = some (.int .u64 o) := (blk_cell Q2.out 0).trans rfl
  have x1 : w2.cell? ⟨w1.heap.size, 1, none⟩ = some (.int .u64 m) := (blk_cell Q2.out 1).trans rfl
  have x2 : w2.cell? ⟨w1.heap.size, 2, none⟩ = some (.bool s) := (blk_cell Q2.out 2).trans rfl
  rw [etn] at HN; rw [etu] at HU
  have ETN := Aside0.mk etn; have ETU := Aside0.mk etu
  clear etn etu
  go_wp2_with fail
  go_region_held3 (fun w' => w'.cell? ⟨w1.heap.size, 0, none⟩ = some (.int .u64 o) ∧ w'.cell? ⟨w1.heap.size, 1, none⟩ = some (.int .u64 m) ∧ w'.cell? ⟨w1.heap.size, 2, none⟩ = some (.bool s) ∧ IsT w' W.heap.size o m s ∧ Below W.heap.size W w') (first | (go_split_ands; (repeat' apply And.intro) <;> (first | exact pw_cell_below hb (by assumption) | exact IsT.below (by assumption) hb | exact below_on (by assumption) hb)) | ((repeat' apply And.intro) <;> (first | exact Below.drew CC.out | exact CT.out.drew | go_keep))) (first | (go_at_call 22; (with_reducible refine (timer_Has.calls _ _ _ HA.out).mono ?_); rintro e w' ⟨rfl, hbd⟩; have hb := hbd.below; clear hbd) | (go_at_call 23; (with_reducible refine (mimesisref13_Has.calls _ _ _ HB.out).mono ?_); rintro e w' ⟨rfl, hbd⟩; have hb := hbd.below; clear hbd) | (go_at_call 24; refine (now_calls _ W.heap.size o m t s (by go_split_ands; assumption)).mono ?_; rw [ETN.out]; rintro e w' ⟨rfl, hbd⟩; have hb := hbd.below; clear hbd) | (go_at_call 25; (with_reducible refine (mimesisref13_Now.calls _ _ _ _ _ _ HN.out).mono ?_); rintro e w' ⟨rfl, hb⟩) | (go_at_call 17; refine (up_calls _ W.heap.size o m t s (by go_split_ands; assumption)).mono ?_; rw [ETU.out]; rintro e w' ⟨rfl, hbd⟩; have hb := hbd.below; clear hbd) | (go_at_call 16; (with_reducible refine (mimesisref13_Up.calls _ _ _ _ _ _ HU.out).mono ?_); rintro e w' ⟨rfl, hb⟩))
  go_wp2_with fail
  go_split_ands
  have CB := Aside0.mk (show Below W.heap.size W w' by assumption)
  have CI := Aside0.mk (show IsT w' W.heap.size o m s by assumption)
  have y0 : w'.cell? ⟨w1.heap.size, 0, none⟩ = some (.int .u64 o) := by assumption
  have y1 : w'.cell? ⟨w1.heap.size, 1, none⟩ = some (.int .u64 m) := by assumption
  have y2 : w'.cell? ⟨w1.heap.size, 2, none⟩ = some (.bool s) := by assumption
  clear CC CT Q2 x0 x1 x2
  refine (mimesisref13_Has.calls _ _ _ HB.out).mono ?_
  rintro e w3 ⟨rfl, d3⟩
  have CC := Aside0.mk (drawn_below CB.out d3)
  have CT := Aside0.mk (CI.out.drawn d3)
  replace y0 := pw_cell_below d3.below y0; replace y1 := pw_cell_below d3.below y1; replace y2 := pw_cell_below d3.below y2
  clear CB CI d3
  go_wp2_with fail
  refine (awake_calls _).mono ?_
  rintro e w4 ⟨rfl, b4⟩
  have C4 := Aside0.mk (below_on CC.out b4)
  clear b4
  go_wp2_with fail
  go_ret
  exact ⟨by simp, C4.out⟩

set_option maxHeartbeats 2000000 in
set_option maxRecDepth 100000 in
theorem walk_yes (o m t a r : Int) (s : Bool) (W : World) (hA : timer_Has.f a = some true) (hB : mimesisref13_Has.f a = some true) (hD : mimesisref13_Read.f o m s a t = some r)
    (hR : ∀ (w : World) (B : Nat), IsT w B o m s → Calls Try.prog 21 #[.pointer (some ⟨B, 0, none⟩), .int .u32 a, .int .u64 t] w fun e w' => e = .returned (.tuple #[.int .u32 r, .int .i64 0]) ∧ Drawn0 w w') :
    Calls Try.prog 4 #[.agg #[.int .u64 o, .int .u64 m, .bool s], .int .u32 a, .int .u64 t] W fun e w' => e = .returned (.bool true) ∧ Below W.heap.size W w' := by
  have HA := Aside0.mk hA; have HB := Aside0.mk hB; have HR := Aside0.mk hR; have HD := Aside0.mk hD
  have HN := Aside0.mk (show mimesisref13_Now.f o m s t = some (tnow t o) from rfl)
  have HU := Aside0.mk (show mimesisref13_Up.f o m s t = some (tup t o m) from rfl)
  have T0 := Aside0.mk (show IsT (W.alloc (.cells #[.int .u64 o, .int .u64 m, .bool s] 24)) W.heap.size o m s from blk_new W _)
  have C0 := Aside0.mk (below_alloc (Below.refl W.heap.size W) (.cells #[.int .u64 o, .int .u64 m, .bool s] 24))
  clear hA hB hR hD
  obtain ⟨tn, etn⟩ : ∃ x, tnow t o = x := ⟨_, rfl⟩
  obtain ⟨tu, etu⟩ : ∃ x, tup t o m = x := ⟨_, rfl⟩
  go_enter Try.func4, Try.ntmps4
  go_wp2_with fail
  refine (of_calls _ _ _ _ _ T0.out).mono ?_
  rintro e w1 ⟨rfl, hb1⟩
  have C1 := Aside0.mk (below_on C0.out hb1)
  have T1 := Aside0.mk (T0.out.below hb1)
  clear T0 C0 hb1
  have hl1 := T1.out.lt
  have C1' := Aside0.mk (below_alloc C1.out (.cells #[.int .u64 o, .int .u64 m, .bool s] 25))
  have T1' := Aside0.mk (T1.out.below (below_alloc (Below.refl _ w1) (.cells #[.int .u64 o, .int .u64 m, .bool s] 25)))
  have Q := Aside0.mk (blk_new w1 (.cells #[.int .u64 o, .int .u64 m, .bool s] 25))
  clear T1 C1
  go_wp2_with fail
  refine (HR.out _ _ T1'.out).mono ?_
  rintro e w2 ⟨rfl, d2⟩
  have CT := Aside0.mk (T1'.out.drawn d2)
  have CC := Aside0.mk (drawn_below C1'.out d2)
  have Q2 := Aside0.mk (blk_below Q.out d2.below)
  clear T1' C1' Q d2
  have x0 : w2.cell? ⟨w1.heap.size, 0, none⟩ = some (.int .u64 o) := (blk_cell Q2.out 0).trans rfl
  have x1 : w2.cell? ⟨w1.heap.size, 1, none⟩ = some (.int .u64 m) := (blk_cell Q2.out 1).trans rfl
  have x2 : w2.cell? ⟨w1.heap.size, 2, none⟩ = some (.bool s) := (blk_cell Q2.out 2).trans rfl
  rw [etn] at HN; rw [etu] at HU
  have ETN := Aside0.mk etn; have ETU := Aside0.mk etu
  clear etn etu
  go_wp2_with fail
  go_region_held3 (fun w' => w'.cell? ⟨w1.heap.size, 0, none⟩ = some (.int .u64 o) ∧ w'.cell? ⟨w1.heap.size, 1, none⟩ = some (.int .u64 m) ∧ w'.cell? ⟨w1.heap.size, 2, none⟩ = some (.bool s) ∧ IsT w' W.heap.size o m s ∧ Below W.heap.size W w') (first | (go_split_ands; (repeat' apply And.intro) <;> (first | exact pw_cell_below hb (by assumption) | exact IsT.below (by assumption) hb | exact below_on (by assumption) hb)) | ((repeat' apply And.intro) <;> (first | exact Below.drew CC.out | exact CT.out.drew | go_keep))) (first | (go_at_call 22; (with_reducible refine (timer_Has.calls _ _ _ HA.out).mono ?_); rintro e w' ⟨rfl, hbd⟩; have hb := hbd.below; clear hbd) | (go_at_call 23; (with_reducible refine (mimesisref13_Has.calls _ _ _ HB.out).mono ?_); rintro e w' ⟨rfl, hbd⟩; have hb := hbd.below; clear hbd) | (go_at_call 24; refine (now_calls _ W.heap.size o m t s (by go_split_ands; assumption)).mono ?_; rw [ETN.out]; rintro e w' ⟨rfl, hbd⟩; have hb := hbd.below; clear hbd) | (go_at_call 25; (with_reducible refine (mimesisref13_Now.calls _ _ _ _ _ _ HN.out).mono ?_); rintro e w' ⟨rfl, hb⟩) | (go_at_call 17; refine (up_calls _ W.heap.size o m t s (by go_split_ands; assumption)).mono ?_; rw [ETU.out]; rintro e w' ⟨rfl, hbd⟩; have hb := hbd.below; clear hbd) | (go_at_call 16; (with_reducible refine (mimesisref13_Up.calls _ _ _ _ _ _ HU.out).mono ?_); rintro e w' ⟨rfl, hb⟩))
  go_wp2_with fail
  go_split_ands
  have CB := Aside0.mk (show Below W.heap.size W w' by assumption)
  have CI := Aside0.mk (show IsT w' W.heap.size o m s by assumption)
  have y0 : w'.cell? ⟨w1.heap.size, 0, none⟩ = some (.int .u64 o) := by assumption
  have y1 : w'.cell? ⟨w1.heap.size, 1, none⟩ = some (.int .u64 m) := by assumption
  have y2 : w'.cell? ⟨w1.heap.size, 2, none⟩ = some (.bool s) := by assumption
  clear CC CT Q2 x0 x1 x2
  refine (mimesisref13_Has.calls _ _ _ HB.out).mono ?_
  rintro e w3 ⟨rfl, d3⟩
  have CC := Aside0.mk (drawn_below CB.out d3)
  have CT := Aside0.mk (CI.out.drawn d3)
  replace y0 := pw_cell_below d3.below y0; replace y1 := pw_cell_below d3.below y1; replace y2 := pw_cell_below d3.below y2
  clear CB CI d3
  go_wp2_with fail
  go_region_held3 (fun w' => w'.cell? ⟨w1.heap.size, 0, none⟩ = some (.int .u64 o) ∧ w'.cell? ⟨w1.heap.size, 1, none⟩ = some (.int .u64 m) ∧ w'.cell? ⟨w1.heap.size, 2, none⟩ = some (.bool s) ∧ IsT w' W.heap.size o m s ∧ Below W.heap.size W w') (first | (go_split_ands; (repeat' apply And.intro) <;> (first | exact pw_cell_below hb (by assumption) | exact IsT.below (by assumption) hb | exact below_on (by assumption) hb)) | ((repeat' apply And.intro) <;> (first | exact Below.drew CC.out | exact CT.out.drew | go_keep))) (first | (go_at_call 26; (with_reducible refine (mimesisref13_Read.calls _ _ _ _ _ _ _ HD.out).mono ?_); rintro e w' ⟨rfl, hb⟩) | (go_at_call 14; refine (of_calls _ W.heap.size o m s (by go_split_ands; assumption)).mono ?_; rintro e w' ⟨rfl, hb⟩) | (go_at_call 20; (with_reducible refine (awake_calls _).mono ?_); rintro e w' ⟨rfl, hb⟩))
  all_goals go_wp2
  all_goals go_ret
  all_goals (go_split_ands; exact ⟨rfl, by assumption⟩)

end Go.Proofs.Ytdcgnmekfkjlhaa.TPTimerReads
