/- TimerNils: a nil timer, and a new one: the walk, every input. -/
import Derived.Test.YtdcgnmekfkjlhaaTimerAwakePTimerNils
namespace Go.Proofs.Ytdcgnmekfkjlhaa.TPTimerNils
open Go Go.RowKit Go.Proofs.Ytdcgnmekfkjlhaa Go.Proofs.Ytdcgnmekfkjlhaa.PTimerNils Go.Proofs.YtdcgnmekfkjlhaaW.PrintWords
set_option linter.unusedVariables false
set_option linter.unusedSimpArgs false

set_option maxRecDepth 100000 in
theorem read_nil (w : World) (a t : Int) : Calls Try.prog 21 #[.pointer none, .int .u32 a, .int .u64 t] w fun e w' => e = .returned (.tuple #[.int .u32 0, .int .i64 6]) ∧ w = w' := by
  go_enter Try.func21, Try.ntmps21
  go_wp2
  go_ret2
  exact ⟨rfl, rfl⟩
set_option maxRecDepth 100000 in
theorem write_nil (w : World) (a x t : Int) : Calls Try.prog 39 #[.pointer none, .int .u32 a, .int .u32 x, .int .u64 t] w fun e w' => e = .returned (.int .i64 6) ∧ Below w.heap.size w w' := by
  go_enter Try.func39, Try.ntmps39
  go_wp2
  go_ret
  exact ⟨rfl, below_alloc (below_alloc (Below.refl _ _) _) _⟩

set_option maxHeartbeats 1000000 in
set_option maxRecDepth 100000 in
theorem timer_nils (a x t : Int) (W : World) (_w0 : (Lit.int .u32 a).wf = true) (_w1 : (Lit.int .u32 x).wf = true) (_w2 : (Lit.int .u64 t).wf = true) :
    Calls Try.prog 9 #[.int .u32 a, .int .u32 x, .int .u64 t] W fun e w' => e = .returned (.bool true) ∧ Below W.heap.size W w' := by
  clear _w0 _w1 _w2
  go_enter Try.func9, Try.ntmps9
  go_wp2_with fail
  refine (skip_nil _ _).mono ?_
  rintro e w1 ⟨rfl, d1⟩
  have C1 := Aside0.mk d1.below
  clear d1
  go_wp2_with fail
  refine (read_nil _ _ _).mono ?_
  rintro e w2 ⟨rfl, rfl⟩
  go_wp2_with fail
  refine (write_nil _ _ _ _).mono ?_
  rintro e w3 ⟨rfl, b3⟩
  have C3 := Aside0.mk (below_on C1.out b3)
  clear b3
  go_wp2_with fail
  refine (now_nil _ _).mono ?_
  rintro e w4 ⟨rfl, d4⟩
  have C4 := Aside0.mk (drawn_below C3.out d4)
  clear d4
  go_wp2_with fail
  refine (up_nil _ _).mono ?_
  rintro e w5 ⟨rfl, d5⟩
  have C5 := Aside0.mk (drawn_below C4.out d5)
  clear d5
  go_wp2_with fail
  refine (left_nil _ _).mono ?_
  rintro e w6 ⟨rfl, d6⟩
  have C6 := Aside0.mk (drawn_below C5.out d6)
  clear d6
  go_wp2_with fail
  refine (new_calls _).mono ?_
  rintro e w7 ⟨rfl, i7, b7⟩
  have C7 := Aside0.mk (below_on C6.out b7)
  have I7 := Aside0.mk i7
  clear b7 i7
  go_wp2_with fail
  refine (of_calls _ _ _ _ _ I7.out).mono ?_
  rintro e w8 ⟨rfl, b8⟩
  have C8 := Aside0.mk (below_on C7.out b8)
  clear b8
  go_wp2_with fail
  refine (mimesisref13_New.calls 0 18446744073709551615 false _ (by rfl)).mono ?_
  rintro e w9 ⟨rfl, b9⟩
  have C9 := Aside0.mk (below_on C8.out b9)
  clear b9
  go_wp2_with fail
  refine (awake_calls _).mono ?_
  rintro e w10 ⟨rfl, b10⟩
  have C10 := Aside0.mk (below_on C9.out b10)
  clear b10
  go_wp2_with fail
  go_ret
  exact ⟨by simp, C10.out⟩

end Go.Proofs.Ytdcgnmekfkjlhaa.TPTimerNils
