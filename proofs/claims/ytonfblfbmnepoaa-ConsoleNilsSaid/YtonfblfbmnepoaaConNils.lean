/- The statement ConsoleNils. -/
import Derived.Test.YtonfblfbmnepoaaConG
namespace Go.Proofs.Ytonfblfbmnepoaa
open Go Go.RowKit Go.Proofs.YtonfblfbmnepoaaW.PrintWords
set_option linter.unusedVariables false
set_option linter.unusedSimpArgs false
set_option maxRecDepth 100000 in
set_option maxHeartbeats 1000000 in
theorem con_nils (t r x : Int) (W : World) (_h0 : (Lit.int .u64 t).wf = true) (_h1 : (Lit.int .i64 r).wf = true) (_h2 : (Lit.int .u32 x).wf = true) : Calls Try.prog 10 #[.int .u64 t, .int .i64 r, .int .u32 x] W fun e w' => e = .returned (.bool true) ∧ Below W.heap.size W w' := by
  clear _h0 _h1 _h2
  go_enter Try.func10, Try.ntmps10
  have B0 := Aside0.mk ((Below.refl W.heap.size W))
  go_wp2_with fail
  refine (con_up_nil _ _).mono ?_
  rintro e w1 ⟨rfl, d⟩
  have B1 := Aside0.mk (drawn_below' B0.out d)
  clear d B0
  go_wp2_with fail
  refine (con_read_nil _ _).mono ?_
  rintro e w2 ⟨rfl, d⟩
  have B2 := Aside0.mk (drawn_below' B1.out d)
  clear d B1
  go_wp2_with fail
  refine (con_next_nil _).mono ?_
  rintro e w3 ⟨rfl, d⟩
  have B3 := Aside0.mk (drawn_below' B2.out d)
  clear d B2
  go_wp2_with fail
  refine (con_write_nil _ _ _).mono ?_
  rintro e w4 ⟨rfl, d⟩
  have B4 := Aside0.mk (drawn_below' B3.out d)
  clear d B3
  go_wp2_with fail
  refine (con_ready_nil _).mono ?_
  rintro e w5 ⟨rfl, d⟩
  have B5 := Aside0.mk (drawn_below' B4.out d)
  clear d B4
  go_wp2_with fail
  refine (con_out_nil _).mono ?_
  rintro e w6 ⟨rfl, d⟩
  have B6 := Aside0.mk (drawn_below' B5.out d)
  clear d B5
  go_wp2_with fail
  refine (con_waits_nil _).mono ?_
  rintro e w7 ⟨rfl, d⟩
  have B7 := Aside0.mk (drawn_below' B6.out d)
  clear d B6
  go_wp2_with fail
  refine (con_came_nil _).mono ?_
  rintro e w8 ⟨rfl, d⟩
  have B8 := Aside0.mk (drawn_below' B7.out d)
  clear d B7
  go_wp2_with fail
  refine (con_over_nil _).mono ?_
  rintro e w9 ⟨rfl, d⟩
  have B9 := Aside0.mk (drawn_below' B8.out d)
  clear d B8
  go_wp2_with fail
  refine (con_awake_calls _).mono ?_
  rintro e w10 ⟨rfl, d⟩
  have B10 := Aside0.mk (below_on B9.out d)
  clear d B9
  go_wp2_with fail
  go_ret
  exact ⟨by simp, B10.out⟩
end Go.Proofs.Ytonfblfbmnepoaa
