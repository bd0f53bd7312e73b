/- The walk of TimerSkips. -/
import Derived.Test.YtdcgnmekfkjlhaaTimerAwakePTimerSkips
import Derived.Deep.RegionHeld3
namespace Go.Proofs.Ytdcgnmekfkjlhaa.TPTimerSkips
open Go Go.RowKit Go.Proofs.Ytdcgnmekfkjlhaa Go.Proofs.Ytdcgnmekfkjlhaa.PTimerSkips Go.Proofs.YtdcgnmekfkjlhaaW.PrintWords
set_option linter.unusedVariables false
set_option linter.unusedSimpArgs false

set_option maxHeartbeats 2000000 in
set_option maxRecDepth 100000 in
theorem walk_yes (o m t k : Int) (n : Int) (s : Bool) (W : World) (hu1 : tup (IntKind.u64.wrap (t + n)) o m = true) (hn : tleft t o m = n) (hn0 : ¬ 0 < n) (hn1 : (n == 0) = true) (hr : mimesisref13_Up.f o m s t = some true) (hs : mimesisref13_Skip.f o m s t = some (k, m, s)) (hk : tskip t o m = k) (hk2 : tup t k m = true) :
    Calls Try.prog 3 #[.agg #[.int .u64 o, .int .u64 m, .bool s], .int .u64 t] W fun e w' => e = .returned (.bool true) ∧ Below W.heap.size W w' := by
  have R := Aside0.mk hr; have K := Aside0.mk hs
  have T0 := Aside0.mk (show IsT (W.alloc (.cells #[.int .u64 o, .int .u64 m, .bool s] 24)) W.heap.size o m s from blk_new W _)
  have C0 := Aside0.mk (below_alloc (Below.refl W.heap.size W) (.cells #[.int .u64 o, .int .u64 m, .bool s] 24))
  have E1 := Aside0.mk (hn)
  have E2 := Aside0.mk hu1; have E3 := Aside0.mk hk; have E4 := Aside0.mk hk2
  clear hr hs hu1 hk hk2 hn
  go_enter Try.func3, Try.ntmps3
  go_wp2_with fail
  refine (of_calls _ _ _ _ _ T0.out).mono ?_
  rintro e w1 ⟨rfl, hb1⟩
  have C1 := Aside0.mk (below_on C0.out hb1)
  have T1 := Aside0.mk (T0.out.below hb1)
  clear T0 C0 hb1
  have hl1 := T1.out.lt
  have C1' := Aside0.mk (below_alloc C1.out (.cells #[.int .u64 o, .int .u64 m, .bool s] 25))
  have T1' := Aside0.mk (T1.out.below (below_alloc (Below.refl _ w1) (.cells #[.int .u64 o, .int .u64 m, .bool s] 25)))
  have q1 : w1.heap.size < (w1.alloc (.cells #[.int .u64 o, .int .u64 m, .bool s] 25)).heap.size := by simp
  have Q := Aside0.mk (blk_new w1 (.cells #[.int .u64 o, .int .u64 m, .bool s] 25))
  clear T1 C1
  go_wp2_with fail
  refine (left_calls _ _ _ _ _ _ T1'.out).mono ?_
  rw [E1.out]
  rintro e w2 ⟨rfl, d2⟩
  have T2 := Aside0.mk (T1'.out.drawn d2)
  have C2 := Aside0.mk (drawn_below C1'.out d2)
  have Q2 := Aside0.mk (blk_below Q.out d2.below)
  clear T1' C1' Q d2 q1
  have x0 : w2.cell? ⟨w1.heap.size, 0, none⟩ = some (.int .u64 o) := (blk_cell Q2.out 0).trans rfl
  have x1 : w2.cell? ⟨w1.heap.size, 1, none⟩ = some (.int .u64 m) := (blk_cell Q2.out 1).trans rfl
  have x2 : w2.cell? ⟨w1.heap.size, 2, none⟩ = some (.bool s) := (blk_cell Q2.out 2).trans rfl
  go_wp2_with fail
  refine (mimesisref13_Up.calls _ _ _ _ _ _ R.out).mono ?_
  rintro e w3 ⟨rfl, b3⟩
  have T3 := Aside0.mk (T2.out.below b3)
  have C3 := Aside0.mk (below_on C2.out b3)
  have Q3 := Aside0.mk (blk_below Q2.out b3)
  clear T2 C2 Q2 b3 x0 x1 x2
  go_wp2_with fail
  refine (up_calls _ _ _ _ (IntKind.u64.wrap (t + n)) _ T3.out).mono ?_
  rw [E2.out]
  rintro e w4 ⟨rfl, d4⟩
  have T4 := Aside0.mk (T3.out.drawn d4)
  have C4 := Aside0.mk (drawn_below C3.out d4)
  have Q4 := Aside0.mk (blk_below Q3.out d4.below)
  clear T3 C3 Q3 d4
  go_wp2_with fail
  refine (skip_calls _ _ _ _ t _ T4.out).mono ?_
  rw [E3.out]
  rintro e w5 ⟨rfl, i5, o5⟩
  have T5 := Aside0.mk i5
  have C5 := Aside0.mk (o5.below (Nat.le_refl _) C4.out)
  have Q5 := Aside0.mk (blk_only Q4.out o5 (by omega))
  clear T4 C4 Q4 i5 o5
  have y0 : w5.cell? ⟨w1.heap.size, 0, none⟩ = some (.int .u64 o) := (blk_cell Q5.out 0).trans rfl
  have y1 : w5.cell? ⟨w1.heap.size, 1, none⟩ = some (.int .u64 m) := (blk_cell Q5.out 1).trans rfl
  have y2 : w5.cell? ⟨w1.heap.size, 2, none⟩ = some (.bool s) := (blk_cell Q5.out 2).trans rfl
  go_wp2_with fail
  go_region_held3 (fun w' => w'.cell? ⟨w1.heap.size, 0, none⟩ = some (.int .u64 o) ∧ w'.cell? ⟨w1.heap.size, 1, none⟩ = some (.int .u64 m) ∧ w'.cell? ⟨w1.heap.size, 2, none⟩ = some (.bool s) ∧ IsT w' W.heap.size k m s ∧ Below W.heap.size W w') (first | (go_split_ands; (repeat' apply And.intro) <;> (first | exact pw_cell_below hb (by assumption) | exact IsT.below (by assumption) hb | exact below_on (by assumption) hb)) | ((repeat' apply And.intro) <;> (first | exact Below.drew C5.out | exact T5.out.drew | go_keep))) (first | (go_at_call 14; refine (of_calls _ W.heap.size k m s (by go_split_ands; assumption)).mono ?_; rintro e w' ⟨rfl, hb⟩) | (go_at_call 19; (with_reducible refine (mimesisref13_Skip.calls _ _ _ _ _ _ _ _ K.out).mono ?_); rintro e w' ⟨rfl, hb⟩) | (go_at_call 17; refine (up_calls _ W.heap.size k m t s (by go_split_ands; assumption)).mono ?_; rw [E4.out]; rintro e w' ⟨rfl, hbd⟩; have hb := hbd.below; clear hbd) | (go_at_call 20; (with_reducible refine (awake_calls _).mono ?_); rintro e w' ⟨rfl, hb⟩))
  all_goals go_wp2
  all_goals go_ret
  all_goals (go_split_ands; exact ⟨rfl, by assumption⟩)

set_option maxHeartbeats 2000000 in
set_option maxRecDepth 100000 in
theorem walk_no (o m t k : Int) (n : Int) (s : Bool) (W : World) (hu1 : tup (IntKind.u64.wrap (t + n)) o m = true) (hn : tleft t o m = n) (hn0 : 0 < n) (hn1 : (n == 0) = false) (hu2 : tup (IntKind.u64.wrap (IntKind.u64.wrap (t + n) - 1)) o m = false) (hr : mimesisref13_Up.f o m s t = some false) (hs : mimesisref13_Skip.f o m s t = some (k, m, s)) (hk : tskip t o m = k) (hk2 : tup t k m = true) :
    Calls Try.prog 3 #[.agg #[.int .u64 o, .int .u64 m, .bool s], .int .u64 t] W fun e w' => e = .returned (.bool true) ∧ Below W.heap.size W w' := by
  have R := Aside0.mk hr; have K := Aside0.mk hs
  have T0 := Aside0.mk (show IsT (W.alloc (.cells #[.int .u64 o, .int .u64 m, .bool s] 24)) W.heap.size o m s from blk_new W _)
  have C0 := Aside0.mk (below_alloc (Below.refl W.heap.size W) (.cells #[.int .u64 o, .int .u64 m, .bool s] 24))
  have E1 := Aside0.mk (hn)
  have E2 := Aside0.mk hu1; have E3 := Aside0.mk hk; have E4 := Aside0.mk hk2; have E5 := Aside0.mk hu2
  clear hr hs hu1 hk hk2 hn hu2
  go_enter Try.func3, Try.ntmps3
  go_wp2_with fail
  refine (of_calls _ _ _ _ _ T0.out).mono ?_
  rintro e w1 ⟨rfl, hb1⟩
  have C1 := Aside0.mk (below_on C0.out hb1)
  have T1 := Aside0.mk (T0.out.below hb1)
  clear T0 C0 hb1
  have hl1 := T1.out.lt
  have C1' := Aside0.mk (below_alloc C1.out (.cells #[.int .u64 o, .int .u64 m, .bool s] 25))
  have T1' := Aside0.mk (T1.out.below (below_alloc (Below.refl _ w1) (.cells #[.int .u64 o, .int .u64 m, .bool s] 25)))
  have q1 : w1.heap.size < (w1.alloc (.cells #[.int .u64 o, .int .u64 m, .bool s] 25)).heap.size := by simp
  have Q := Aside0.mk (blk_new w1 (.cells #[.int .u64 o, .int .u64 m, .bool s] 25))
  clear T1 C1
  go_wp2_with fail
  refine (left_calls _ _ _ _ _ _ T1'.out).mono ?_
  rw [E1.out]
  rintro e w2 ⟨rfl, d2⟩
  have T2 := Aside0.mk (T1'.out.drawn d2)
  have C2 := Aside0.mk (drawn_below C1'.out d2)
  have Q2 := Aside0.mk (blk_below Q.out d2.below)
  clear T1' C1' Q d2 q1
  have x0 : w2.cell? ⟨w1.heap.size, 0, none⟩ = some (.int .u64 o) := (blk_cell Q2.out 0).trans rfl
  have x1 : w2.cell? ⟨w1.heap.size, 1, none⟩ = some (.int .u64 m) := (blk_cell Q2.out 1).trans rfl
  have x2 : w2.cell? ⟨w1.heap.size, 2, none⟩ = some (.bool s) := (blk_cell Q2.out 2).trans rfl
  go_wp2_with fail
  refine (mimesisref13_Up.calls _ _ _ _ _ _ R.out).mono ?_
  rintro e w3 ⟨rfl, b3⟩
  have T3 := Aside0.mk (T2.out.below b3)
  have C3 := Aside0.mk (below_on C2.out b3)
  have Q3 := Aside0.mk (blk_below Q2.out b3)
  clear T2 C2 Q2 b3 x0 x1 x2
  go_wp2_with fail
  refine (up_calls _ _ _ _ (IntKind.u64.wrap (t + n)) _ T3.out).mono ?_
  rw [E2.out]
  rintro e w4 ⟨rfl, d4⟩
  have T4 := Aside0.mk (T3.out.drawn d4)
  have C4 := Aside0.mk (drawn_below C3.out d4)
  have Q4 := Aside0.mk (blk_below Q3.out d4.below)
  clear T3 C3 Q3 d4
  go_wp2_with fail
  refine (up_calls _ _ _ _ (IntKind.u64.wrap (IntKind.u64.wrap (t + n) - 1)) _ T4.out).mono ?_
  rw [E5.out]
  rintro e w4' ⟨rfl, d4⟩
  replace T4 := Aside0.mk (T4.out.drawn d4)
  replace C4 := Aside0.mk (drawn_below C4.out d4)
  replace Q4 := Aside0.mk (blk_below Q4.out d4.below)
  clear d4
  go_wp2_with fail
  refine (skip_calls _ _ _ _ t _ T4.out).mono ?_
  rw [E3.out]
  rintro e w5 ⟨rfl, i5, o5⟩
  have T5 := Aside0.mk i5
  have C5 := Aside0.mk (o5.below (Nat.le_refl _) C4.out)
  have Q5 := Aside0.mk (blk_only Q4.out o5 (by omega))
  clear T4 C4 Q4 i5 o5
  have y0 : w5.cell? ⟨w1.heap.size, 0, none⟩ = some (.int .u64 o) := (blk_cell Q5.out 0).trans rfl
  have y1 : w5.cell? ⟨w1.heap.size, 1, none⟩ = some (.int .u64 m) := (blk_cell Q5.out 1).trans rfl
  have y2 : w5.cell? ⟨w1.heap.size, 2, none⟩ = some (.bool s) := (blk_cell Q5.out 2).trans rfl
  go_wp2_with fail
  go_region_held3 (fun w' => w'.cell? ⟨w1.heap.size, 0, none⟩ = some (.int .u64 o) ∧ w'.cell? ⟨w1.heap.size, 1, none⟩ = some (.int .u64 m) ∧ w'.cell? ⟨w1.heap.size, 2, none⟩ = some (.bool s) ∧ IsT w' W.heap.size k m s ∧ Below W.heap.size W w') (first | (go_split_ands; (repeat' apply And.intro) <;> (first | exact pw_cell_below hb (by assumption) | exact IsT.below (by assumption) hb | exact below_on (by assumption) hb)) | ((repeat' apply And.intro) <;> (first | exact Below.drew C5.out | exact T5.out.drew | go_keep))) (first | (go_at_call 14; refine (of_calls _ W.heap.size k m s (by go_split_ands; assumption)).mono ?_; rintro e w' ⟨rfl, hb⟩) | (go_at_call 19; (with_reducible refine (mimesisref13_Skip.calls _ _ _ _ _ _ _ _ K.out).mono ?_); rintro e w' ⟨rfl, hb⟩) | (go_at_call 17; refine (up_calls _ W.heap.size k m t s (by go_split_ands; assumption)).mono ?_; rw [E4.out]; rintro e w' ⟨rfl, hbd⟩; have hb := hbd.below; clear hbd) | (go_at_call 20; (with_reducible refine (awake_calls _).mono ?_); rintro e w' ⟨rfl, hb⟩))
  all_goals go_wp2
  all_goals go_ret
  all_goals (go_split_ands; exact ⟨rfl, by assumption⟩)

end Go.Proofs.Ytdcgnmekfkjlhaa.TPTimerSkips
