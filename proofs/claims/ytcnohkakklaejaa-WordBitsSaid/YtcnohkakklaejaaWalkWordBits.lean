/- The walk of WordBits: its Go text comes to true where the functions that it calls answer as they should. -/
import Derived.Test.YtcnohkakklaejaaQWordBitsx1
namespace Go.Proofs.Ytcnohkakklaejaa.WordBitsWalk
open Go Go.RowKit Go.Proofs.Ytcnohkakklaejaa.QWordBits Go.Proofs.YtcnohkakklaejaaW.PrintWords Go.Proofs.YtcnohkakklaejaaW.PrintLast Go.Proofs.YtcnohkakklaejaaW.PrintMore
set_option linter.unusedVariables false
set_option linter.unusedSimpArgs false

theorem below_on {w w1 w2 : World} (h : Below w.heap.size w w1) (k : Below w1.heap.size w1 w2) : Below w.heap.size w w2 := below_then h h.size k

set_option maxHeartbeats 4000000 in
set_option maxRecDepth 100000 in
theorem walk_yes (w a n x B P C : Int) (k : Nat) (W : World) (h1 : word_Bits.f w a n = some (B, 0)) (h2 : word_Put.f w a n x = some (P, 0)) (h3 : mimesisref01_Right.f a n = some true)
    (h4 : word_Bits.f P a n = some (C, 0)) (h5 : word_Put.f P a n B = some (w, 0)) (h6 : mimesisref01_Bits.f k w a n = some B) (h7 : mimesisref01_Put.f k w a n x = some P)
    (h8 : mimesisref01_Bits.f k x 0 n = some C) (h9 : mimesislaw01_awake.f k = some true) :
    Calls Try.prog 7 #[.int .u32 w, .agg #[.int .i64 a, .int .i64 n], .int .u32 x] W fun e w' => e = .returned (.bool true) ∧ Below W.heap.size W w' := by
  have A1 := Aside0.mk h1; have A2 := Aside0.mk h2; have A3 := Aside0.mk h3; have A4 := Aside0.mk h4; have A5 := Aside0.mk h5; have A6 := Aside0.mk h6; have A7 := Aside0.mk h7; have A8 := Aside0.mk h8; have A9 := Aside0.mk h9
  clear h1 h2 h3 h4 h5 h6 h7 h8 h9
  go_enter Try.func7, Try.ntmps7
  go_wp2_with fail
  refine (word_Bits.calls _ _ _ _ _ _ A1.out).mono ?_
  rintro e w' ⟨rfl, ⟨nd, rfl⟩⟩
  go_wp2_with fail
  refine (word_Put.calls _ _ _ _ _ _ _ A2.out).mono ?_
  rintro e w' ⟨rfl, ⟨nd, rfl⟩⟩
  go_wp2_with fail
  refine (mimesisref01_Right.calls _ _ _ _ A3.out).mono ?_
  rintro e w' ⟨rfl, ⟨nd, rfl⟩⟩
  go_wp2_with fail
  refine (word_Bits.calls _ _ _ _ _ _ A4.out).mono ?_
  rintro e w' ⟨rfl, ⟨nd, rfl⟩⟩
  go_wp2_with fail
  refine (word_Put.calls _ _ _ _ _ _ _ A5.out).mono ?_
  rintro e w' ⟨rfl, ⟨nd, rfl⟩⟩
  go_wp2_with fail
  refine (mimesisref01_Bits.calls _ _ _ _ _ _ A6.out).mono ?_
  rintro e w' ⟨rfl, ⟨nd, rfl⟩⟩
  go_wp2_with fail
  refine (mimesisref01_Put.calls _ _ _ _ _ _ _ A7.out).mono ?_
  rintro e w' ⟨rfl, ⟨nd, rfl⟩⟩
  go_wp2_with fail
  refine (mimesisref01_Bits.calls _ _ _ _ _ _ A8.out).mono ?_
  rintro e w' ⟨rfl, ⟨nd, rfl⟩⟩
  go_wp2_with fail
  refine (mimesislaw01_awake.calls _ _ _ A9.out).mono ?_
  rintro e w' ⟨rfl, hb⟩
  go_wp2_with fail
  go_ret
  exact ⟨rfl, below_on (by repeat (first | exact Below.refl _ _ | apply pw_below_drewN | apply below_alloc)) hb⟩

set_option maxHeartbeats 4000000 in
set_option maxRecDepth 100000 in
theorem walk_no (w a n x : Int) (k : Nat) (W : World) (h1 : word_Bits.f w a n = some (0, 4)) (h2 : word_Put.f w a n x = some (0, 4)) (h3 : mimesisref01_Right.f a n = some false) (h9 : mimesislaw01_awake.f k = some true) :
    Calls Try.prog 7 #[.int .u32 w, .agg #[.int .i64 a, .int .i64 n], .int .u32 x] W fun e w' => e = .returned (.bool true) ∧ Below W.heap.size W w' := by
  have A1 := Aside0.mk h1; have A2 := Aside0.mk h2; have A3 := Aside0.mk h3; have A9 := Aside0.mk h9
  clear h1 h2 h3 h9
  go_enter Try.func7, Try.ntmps7
  go_wp2_with fail
  refine (word_Bits.calls _ _ _ _ _ _ A1.out).mono ?_
  rintro e w' ⟨rfl, ⟨nd, rfl⟩⟩
  go_wp2_with fail
  refine (word_Put.calls _ _ _ _ _ _ _ A2.out).mono ?_
  rintro e w' ⟨rfl, ⟨nd, rfl⟩⟩
  go_wp2_with fail
  refine (mimesisref01_Right.calls _ _ _ _ A3.out).mono ?_
  rintro e w' ⟨rfl, ⟨nd, rfl⟩⟩
  go_wp2_with fail
  refine (mimesislaw01_awake.calls _ _ _ A9.out).mono ?_
  rintro e w' ⟨rfl, hb⟩
  go_wp2_with fail
  go_ret
  exact ⟨rfl, below_on (by repeat (first | exact Below.refl _ _ | apply pw_below_drewN | apply below_alloc)) hb⟩

end Go.Proofs.Ytcnohkakklaejaa.WordBitsWalk
