/- The timer's New, the statements' 'of' and 'awake' (over the functions printed for PTimerWrites). -/
import Derived.Test.YtdcgnmekfkjlhaaPTimerWritesx
import Derived.Test.YtdcgnmekfkjlhaaTimer
namespace Go.Proofs.Ytdcgnmekfkjlhaa.TPTimerWrites
open Go Go.RowKit Go.Proofs.Ytdcgnmekfkjlhaa Go.Proofs.Ytdcgnmekfkjlhaa.PTimerWrites Go.Proofs.YtdcgnmekfkjlhaaW.PrintWords
set_option linter.unusedVariables false
set_option linter.unusedSimpArgs false

set_option maxRecDepth 100000 in
theorem new_calls (w : World) : Calls Try.prog 41 #[] w fun e w' => e = .returned (.pointer (some ⟨w.heap.size, 0, none⟩)) ∧ IsT w' w.heap.size 0 18446744073709551615 false ∧ Below w.heap.size w w' := by
  have hF := Aside0.mk (show IsT (w.alloc (.cells #[.int .u64 0, .int .u64 18446744073709551615, .bool false] 24)) w.heap.size 0 18446744073709551615 false from blk_new w _)
  go_enter Try.func41, Try.ntmps41
  go_wp2
  go_ret
  exact ⟨rfl, hF.out, below_alloc (Below.refl _ _) _⟩

set_option maxRecDepth 100000 in
theorem of_calls (w : World) (B : Nat) (o m : Int) (s : Bool) (h : IsT w B o m s) : Calls Try.prog 14 #[.pointer (some ⟨B, 0, none⟩)] w fun e w' => e = .returned (.agg #[.int .u64 o, .int .u64 m, .bool s]) ∧ Below w.heap.size w w' := by
  have c0 := h.c0; have c1 := h.c1; have c2 := h.c2
  have hlt := h.lt
  have hne : ¬ B = w.heap.size := by omega
  clear h
  go_enter Try.func14, Try.ntmps14
  go_wp2
  go_region
  all_goals go_wp2
  all_goals exact bodyPost_ret (v := .agg #[.int .u64 o, .int .u64 m, .bool s]) (by simp [results, Try.results14, go_sem]) rfl ⟨rfl, Below.drew (below_alloc (Below.refl w.heap.size w) _)⟩

set_option maxRecDepth 100000 in
set_option maxHeartbeats 1000000 in
theorem awake_calls (w : World) : Calls Try.prog 20 #[] w fun e w' => e = .returned (.bool true) ∧ Below w.heap.size w w' := by
  have hF := Aside0.mk (show IsT (w.alloc (.cells #[.int .u64 0, .int .u64 10, .bool false] 24)) w.heap.size 0 10 false from blk_new w _)
  have hB := Aside0.mk (below_alloc (Below.refl w.heap.size w) (.cells #[.int .u64 0, .int .u64 10, .bool false] 24))
  go_enter Try.func20, Try.ntmps20
  go_wp2_with fail
  refine (left_calls _ _ _ _ 7 _ hF.out).mono ?_
  rintro e w1 ⟨rfl, d1⟩
  have H1 := Aside0.mk (hF.out.drawn d1)
  have B1 := Aside0.mk (drawn_below hB.out d1)
  clear d1 hF hB
  go_wp2_with fail
  refine (up_calls _ _ _ _ 7 _ H1.out).mono ?_
  rintro e w2 ⟨rfl, d2⟩
  have H2 := Aside0.mk (H1.out.drawn d2)
  have B2 := Aside0.mk (drawn_below B1.out d2)
  clear d2 H1 B1
  go_wp2_with fail
  refine (skip_calls _ _ _ _ 7 _ H2.out).mono ?_
  rintro e w3 ⟨rfl, i3, o3⟩
  have H3 := Aside0.mk (show IsT w3 w.heap.size 3 10 false from i3)
  have B3 := Aside0.mk (o3.below (Nat.le_refl _) B2.out)
  clear i3 o3 H2 B2
  have e1 : tleft 7 0 10 = 3 := by decide
  have e2 : tup 7 0 10 = false := by decide
  have e3 : tup 7 3 10 = true := by decide
  have e4 : tnow 7 3 = 10 := by decide
  rw [e1, e2]
  go_wp2_with fail
  refine (up_calls _ _ _ _ 7 _ H3.out).mono ?_
  rw [e3]
  rintro e w4 ⟨rfl, d4⟩
  have H4 := Aside0.mk (H3.out.drawn d4)
  have B4 := Aside0.mk (drawn_below B3.out d4)
  clear d4 H3 B3
  go_wp2_with fail
  refine (now_calls _ _ _ _ 7 _ H4.out).mono ?_
  rw [e4]
  rintro e w5 ⟨rfl, d5⟩
  have B5 := Aside0.mk (drawn_below B4.out d5)
  clear d5 H4 B4
  go_wp2_with fail
  refine (timer_Has.calls _ true _ (by rfl)).mono ?_
  rintro e w6 ⟨rfl, d6⟩
  have B6 := Aside0.mk (drawn_below B5.out d6)
  clear d6 B5
  go_wp2_with fail
  refine (new_calls _).mono ?_
  rintro e w7 ⟨rfl, i7, b7⟩
  have c1 := i7.c1
  have B7 := Aside0.mk (below_on B6.out b7)
  clear b7 i7 B6
  go_wp2_with fail
  go_ret
  exact ⟨by simp, B7.out⟩

end Go.Proofs.Ytdcgnmekfkjlhaa.TPTimerWrites
