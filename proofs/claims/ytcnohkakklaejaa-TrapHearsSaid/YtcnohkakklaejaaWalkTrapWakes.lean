/- The contract of the reference's Wakes. -/
import Derived.Test.YtcnohkakklaejaaQTrapHearsx
import Derived.Deep.RegionHeld3
namespace Go.Proofs.Ytcnohkakklaejaa.TrapHearsWalk
open Go Go.RowKit Go.Proofs.Ytcnohkakklaejaa.QTrapHears Go.Proofs.YtcnohkakklaejaaW.PrintWords Go.Proofs.YtcnohkakklaejaaW.PrintLast Go.Proofs.YtcnohkakklaejaaW.PrintMore
set_option linter.unusedVariables false
set_option linter.unusedSimpArgs false

theorem below_on {w w1 w2 : World} (h : Below w.heap.size w w1) (k : Below w1.heap.size w1 w2) : Below w.heap.size w w2 := below_then h h.size k

set_option maxHeartbeats 2000000 in
set_option maxRecDepth 100000 in
theorem wakes_calls (k : Nat) (a0 a1 a2 a3 a4 a5 a6 n c3 e3 c7 e7 c11 e11 : Int) (b3 b7 b11 : Bool) (W : World)
    (f1 : mimesisref17_bit.f k n 3 = some c3) (f2 : mimesisref17_bit.f k a1 3 = some e3) (f3 : mimesisref17_bit.f k n 7 = some c7) (f4 : mimesisref17_bit.f k a1 7 = some e7) (f5 : mimesisref17_bit.f k n 11 = some c11) (f6 : mimesisref17_bit.f k a1 11 = some e11)
    (h3 : (IntKind.u32.wrap (c3 + e3) == 2) = b3) (h7 : (IntKind.u32.wrap (c7 + e7) == 2) = b7) (h11 : (IntKind.u32.wrap (c11 + e11) == 2) = b11) :
    Calls Try.prog 39 #[.agg #[.int .u32 a0, .int .u32 a1, .int .u32 a2, .int .u32 a3, .int .u32 a4, .int .u32 a5, .int .u32 a6], .int .u32 n] W fun e w' => e = .returned (.bool (b3 || b7 || b11)) ∧ Below W.heap.size W w' := by
  have F1 := Aside0.mk f1; have F2 := Aside0.mk f2; have F3 := Aside0.mk f3; have F4 := Aside0.mk f4; have F5 := Aside0.mk f5; have F6 := Aside0.mk f6
  clear f1 f2 f3 f4 f5 f6
  cases b3
  · cases b7
    · go_enter Try.func39, Try.ntmps39
      go_wp2_with fail
      go_quiet (first | (go_at_call 56; (with_reducible refine (mimesisref17_bit.calls _ _ _ _ _ F1.out).mono ?_); rintro e w' ⟨rfl, ⟨nd, rfl⟩⟩; (try first | exact ⟨rfl, _, World.drewN_drewN _ _ _⟩ | exact ⟨rfl, _, Eq.trans (World.drewN_drewN _ _ _) (congrArg (World.drewN _) (Nat.add_assoc _ _ _))⟩)) | (go_at_call 56; (with_reducible refine (mimesisref17_bit.calls _ _ _ _ _ F2.out).mono ?_); rintro e w' ⟨rfl, ⟨nd, rfl⟩⟩; (try first | exact ⟨rfl, _, World.drewN_drewN _ _ _⟩ | exact ⟨rfl, _, Eq.trans (World.drewN_drewN _ _ _) (congrArg (World.drewN _) (Nat.add_assoc _ _ _))⟩)) | (go_at_call 56; (with_reducible refine (mimesisref17_bit.calls _ _ _ _ _ F3.out).mono ?_); rintro e w' ⟨rfl, ⟨nd, rfl⟩⟩; (try first | exact ⟨rfl, _, World.drewN_drewN _ _ _⟩ | exact ⟨rfl, _, Eq.trans (World.drewN_drewN _ _ _) (congrArg (World.drewN _) (Nat.add_assoc _ _ _))⟩)) | (go_at_call 56; (with_reducible refine (mimesisref17_bit.calls _ _ _ _ _ F4.out).mono ?_); rintro e w' ⟨rfl, ⟨nd, rfl⟩⟩; (try first | exact ⟨rfl, _, World.drewN_drewN _ _ _⟩ | exact ⟨rfl, _, Eq.trans (World.drewN_drewN _ _ _) (congrArg (World.drewN _) (Nat.add_assoc _ _ _))⟩)) | (go_at_call 56; (with_reducible refine (mimesisref17_bit.calls _ _ _ _ _ F5.out).mono ?_); rintro e w' ⟨rfl, ⟨nd, rfl⟩⟩; (try first | exact ⟨rfl, _, World.drewN_drewN _ _ _⟩ | exact ⟨rfl, _, Eq.trans (World.drewN_drewN _ _ _) (congrArg (World.drewN _) (Nat.add_assoc _ _ _))⟩)) | (go_at_call 56; (with_reducible refine (mimesisref17_bit.calls _ _ _ _ _ F6.out).mono ?_); rintro e w' ⟨rfl, ⟨nd, rfl⟩⟩; (try first | exact ⟨rfl, _, World.drewN_drewN _ _ _⟩ | exact ⟨rfl, _, Eq.trans (World.drewN_drewN _ _ _) (congrArg (World.drewN _) (Nat.add_assoc _ _ _))⟩)))
      go_wp2_with fail
      go_ret
      exact ⟨by simp, by repeat (first | with_reducible exact Below.refl _ _ | apply pw_below_drewN | apply below_alloc)⟩
    · go_enter Try.func39, Try.ntmps39
      go_wp2_with fail
      go_quiet (first | (go_at_call 56; (with_reducible refine (mimesisref17_bit.calls _ _ _ _ _ F1.out).mono ?_); rintro e w' ⟨rfl, ⟨nd, rfl⟩⟩; (try first | exact ⟨rfl, _, World.drewN_drewN _ _ _⟩ | exact ⟨rfl, _, Eq.trans (World.drewN_drewN _ _ _) (congrArg (World.drewN _) (Nat.add_assoc _ _ _))⟩)) | (go_at_call 56; (with_reducible refine (mimesisref17_bit.calls _ _ _ _ _ F2.out).mono ?_); rintro e w' ⟨rfl, ⟨nd, rfl⟩⟩; (try first | exact ⟨rfl, _, World.drewN_drewN _ _ _⟩ | exact ⟨rfl, _, Eq.trans (World.drewN_drewN _ _ _) (congrArg (World.drewN _) (Nat.add_assoc _ _ _))⟩)) | (go_at_call 56; (with_reducible refine (mimesisref17_bit.calls _ _ _ _ _ F3.out).mono ?_); rintro e w' ⟨rfl, ⟨nd, rfl⟩⟩; (try first | exact ⟨rfl, _, World.drewN_drewN _ _ _⟩ | exact ⟨rfl, _, Eq.trans (World.drewN_drewN _ _ _) (congrArg (World.drewN _) (Nat.add_assoc _ _ _))⟩)) | (go_at_call 56; (with_reducible refine (mimesisref17_bit.calls _ _ _ _ _ F4.out).mono ?_); rintro e w' ⟨rfl, ⟨nd, rfl⟩⟩; (try first | exact ⟨rfl, _, World.drewN_drewN _ _ _⟩ | exact ⟨rfl, _, Eq.trans (World.drewN_drewN _ _ _) (congrArg (World.drewN _) (Nat.add_assoc _ _ _))⟩)) | (go_at_call 56; (with_reducible refine (mimesisref17_bit.calls _ _ _ _ _ F5.out).mono ?_); rintro e w' ⟨rfl, ⟨nd, rfl⟩⟩; (try first | exact ⟨rfl, _, World.drewN_drewN _ _ _⟩ | exact ⟨rfl, _, Eq.trans (World.drewN_drewN _ _ _) (congrArg (World.drewN _) (Nat.add_assoc _ _ _))⟩)) | (go_at_call 56; (with_reducible refine (mimesisref17_bit.calls _ _ _ _ _ F6.out).mono ?_); rintro e w' ⟨rfl, ⟨nd, rfl⟩⟩; (try first | exact ⟨rfl, _, World.drewN_drewN _ _ _⟩ | exact ⟨rfl, _, Eq.trans (World.drewN_drewN _ _ _) (congrArg (World.drewN _) (Nat.add_assoc _ _ _))⟩)))
      go_wp2_with fail
      go_ret
      exact ⟨by simp, by repeat (first | with_reducible exact Below.refl _ _ | apply pw_below_drewN | apply below_alloc)⟩
  · go_enter Try.func39, Try.ntmps39
    go_wp2_with fail
    go_quiet (first | (go_at_call 56; (with_reducible refine (mimesisref17_bit.calls _ _ _ _ _ F1.out).mono ?_); rintro e w' ⟨rfl, ⟨nd, rfl⟩⟩; (try first | exact ⟨rfl, _, World.drewN_drewN _ _ _⟩ | exact ⟨rfl, _, Eq.trans (World.drewN_drewN _ _ _) (congrArg (World.drewN _) (Nat.add_assoc _ _ _))⟩)) | (go_at_call 56; (with_reducible refine (mimesisref17_bit.calls _ _ _ _ _ F2.out).mono ?_); rintro e w' ⟨rfl, ⟨nd, rfl⟩⟩; (try first | exact ⟨rfl, _, World.drewN_drewN _ _ _⟩ | exact ⟨rfl, _, Eq.trans (World.drewN_drewN _ _ _) (congrArg (World.drewN _) (Nat.add_assoc _ _ _))⟩)) | (go_at_call 56; (with_reducible refine (mimesisref17_bit.calls _ _ _ _ _ F3.out).mono ?_); rintro e w' ⟨rfl, ⟨nd, rfl⟩⟩; (try first | exact ⟨rfl, _, World.drewN_drewN _ _ _⟩ | exact ⟨rfl, _, Eq.trans (World.drewN_drewN _ _ _) (congrArg (World.drewN _) (Nat.add_assoc _ _ _))⟩)) | (go_at_call 56; (with_reducible refine (mimesisref17_bit.calls _ _ _ _ _ F4.out).mono ?_); rintro e w' ⟨rfl, ⟨nd, rfl⟩⟩; (try first | exact ⟨rfl, _, World.drewN_drewN _ _ _⟩ | exact ⟨rfl, _, Eq.trans (World.drewN_drewN _ _ _) (congrArg (World.drewN _) (Nat.add_assoc _ _ _))⟩)) | (go_at_call 56; (with_reducible refine (mimesisref17_bit.calls _ _ _ _ _ F5.out).mono ?_); rintro e w' ⟨rfl, ⟨nd, rfl⟩⟩; (try first | exact ⟨rfl, _, World.drewN_drewN _ _ _⟩ | exact ⟨rfl, _, Eq.trans (World.drewN_drewN _ _ _) (congrArg (World.drewN _) (Nat.add_assoc _ _ _))⟩)) | (go_at_call 56; (with_reducible refine (mimesisref17_bit.calls _ _ _ _ _ F6.out).mono ?_); rintro e w' ⟨rfl, ⟨nd, rfl⟩⟩; (try first | exact ⟨rfl, _, World.drewN_drewN _ _ _⟩ | exact ⟨rfl, _, Eq.trans (World.drewN_drewN _ _ _) (congrArg (World.drewN _) (Nat.add_assoc _ _ _))⟩)))
    go_wp2_with fail
    go_ret
    exact ⟨by simp, by repeat (first | with_reducible exact Below.refl _ _ | apply pw_below_drewN | apply below_alloc)⟩

end Go.Proofs.Ytcnohkakklaejaa.TrapHearsWalk
