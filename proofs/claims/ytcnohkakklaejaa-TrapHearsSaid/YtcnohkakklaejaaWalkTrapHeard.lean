/- The contract of the reference's Heard. -/
import Derived.Test.YtcnohkakklaejaaWalkTrapWakes
namespace Go.Proofs.Ytcnohkakklaejaa.TrapHearsWalk
open Go Go.RowKit Go.Proofs.Ytcnohkakklaejaa.QTrapHears Go.Proofs.YtcnohkakklaejaaW.PrintWords Go.Proofs.YtcnohkakklaejaaW.PrintLast Go.Proofs.YtcnohkakklaejaaW.PrintMore
set_option linter.unusedVariables false
set_option linter.unusedSimpArgs false

set_option maxHeartbeats 4000000 in
set_option maxRecDepth 100000 in
theorem heard_0 (k : Nat) (a0 a1 a2 a3 a4 a5 a6 n c0 e0 t : Int) (W : World) (F0 : Aside0 (mimesisref17_bit.f k a0 3 = some t)) (F1 : Aside0 (mimesisref17_bit.f k n 11 = some c0)) (F2 : Aside0 (mimesisref17_bit.f k a1 11 = some e0)) (ht : (t == 0) = false) (h0 : ((c0 + e0) % 4294967296 == 2) = true) :
    Calls Try.prog 37 #[.agg #[.int .u32 a0, .int .u32 a1, .int .u32 a2, .int .u32 a3, .int .u32 a4, .int .u32 a5, .int .u32 a6], .int .u32 n] W fun e w' => e = .returned (.tuple #[.int .u32 2147483659, .bool true]) ∧ Below W.heap.size W w' := by
  go_enter Try.func37, Try.ntmps37
  go_wp2_with fail
  refine (mimesisref17_bit.calls _ _ _ _ _ F0.out).mono ?_
  rintro e w' ⟨rfl, ⟨nd0, rfl⟩⟩
  go_wp2_with fail
  go_loopw [7] (fun i wr => ∃ j : Nat, j ≤ 0 ∧ i = .int .i64 j ∧ wr.cell? ⟨W.heap.size, 1, none⟩ = some (.int .u32 a1) ∧ wr.cell? ⟨W.heap.size + 1, 0, none⟩ = some (.int .i64 11) ∧ wr.cell? ⟨W.heap.size + 1, 1, none⟩ = some (.int .i64 3) ∧ wr.cell? ⟨W.heap.size + 1, 2, none⟩ = some (.int .i64 7) ∧ Below W.heap.size W wr) (fun i _ => 4 - (intOf i).toNat)
  case atStart => exact ⟨0, by omega, rfl, by go_simp, by go_simp, by go_simp, by go_simp, by repeat (first | with_reducible exact Below.refl _ _ | apply pw_below_drewN | apply below_alloc)⟩
  case round =>
    obtain ⟨j, hj, rfl, d1, g0, g1, g2, hb⟩ := hrel
    have HB := Aside0.mk hb
    clear hb
    obtain rfl : j = 0 := by omega
    go_wp2_with fail
    go_quiet (first | (go_at_call 56; (with_reducible refine (mimesisref17_bit.calls _ _ _ _ _ F1.out).mono ?_); rintro e w' ⟨rfl, ⟨nd, rfl⟩⟩; (try first | exact ⟨rfl, _, World.drewN_drewN _ _ _⟩ | exact ⟨rfl, _, Eq.trans (World.drewN_drewN _ _ _) (congrArg (World.drewN _) (Nat.add_assoc _ _ _))⟩)) | (go_at_call 56; (with_reducible refine (mimesisref17_bit.calls _ _ _ _ _ F2.out).mono ?_); rintro e w' ⟨rfl, ⟨nd, rfl⟩⟩; (try first | exact ⟨rfl, _, World.drewN_drewN _ _ _⟩ | exact ⟨rfl, _, Eq.trans (World.drewN_drewN _ _ _) (congrArg (World.drewN _) (Nat.add_assoc _ _ _))⟩)))
    go_wp2_with fail
    go_ret2
    exact ⟨rfl, by repeat (first | exact HB.out | apply pw_below_drewN | apply Below.drew)⟩

set_option maxHeartbeats 4000000 in
set_option maxRecDepth 100000 in
theorem heard_1 (k : Nat) (a0 a1 a2 a3 a4 a5 a6 n c0 e0 c1 e1 t : Int) (W : World) (F0 : Aside0 (mimesisref17_bit.f k a0 3 = some t)) (F1 : Aside0 (mimesisref17_bit.f k n 11 = some c0)) (F2 : Aside0 (mimesisref17_bit.f k a1 11 = some e0)) (F3 : Aside0 (mimesisref17_bit.f k n 3 = some c1)) (F4 : Aside0 (mimesisref17_bit.f k a1 3 = some e1)) (ht : (t == 0) = false) (h0 : ((c0 + e0) % 4294967296 == 2) = false) (h1 : ((c1 + e1) % 4294967296 == 2) = true) :
    Calls Try.prog 37 #[.agg #[.int .u32 a0, .int .u32 a1, .int .u32 a2, .int .u32 a3, .int .u32 a4, .int .u32 a5, .int .u32 a6], .int .u32 n] W fun e w' => e = .returned (.tuple #[.int .u32 2147483651, .bool true]) ∧ Below W.heap.size W w' := by
  go_enter Try.func37, Try.ntmps37
  go_wp2_with fail
  refine (mimesisref17_bit.calls _ _ _ _ _ F0.out).mono ?_
  rintro e w' ⟨rfl, ⟨nd0, rfl⟩⟩
  go_wp2_with fail
  go_loopw [7] (fun i wr => ∃ j : Nat, j ≤ 1 ∧ i = .int .i64 j ∧ wr.cell? ⟨W.heap.size, 1, none⟩ = some (.int .u32 a1) ∧ wr.cell? ⟨W.heap.size + 1, 0, none⟩ = some (.int .i64 11) ∧ wr.cell? ⟨W.heap.size + 1, 1, none⟩ = some (.int .i64 3) ∧ wr.cell? ⟨W.heap.size + 1, 2, none⟩ = some (.int .i64 7) ∧ Below W.heap.size W wr) (fun i _ => 4 - (intOf i).toNat)
  case atStart => exact ⟨0, by omega, rfl, by go_simp, by go_simp, by go_simp, by go_simp, by repeat (first | with_reducible exact Below.refl _ _ | apply pw_below_drewN | apply below_alloc)⟩
  case round =>
    obtain ⟨j, hj, rfl, d1, g0, g1, g2, hb⟩ := hrel
    have HB := Aside0.mk hb
    clear hb
    obtain rfl | rfl : j = 0 ∨ j = 1 := by omega
    · go_wp2_with fail
      go_quiet (first | (go_at_call 56; (with_reducible refine (mimesisref17_bit.calls _ _ _ _ _ F1.out).mono ?_); rintro e w' ⟨rfl, ⟨nd, rfl⟩⟩; (try first | exact ⟨rfl, _, World.drewN_drewN _ _ _⟩ | exact ⟨rfl, _, Eq.trans (World.drewN_drewN _ _ _) (congrArg (World.drewN _) (Nat.add_assoc _ _ _))⟩)) | (go_at_call 56; (with_reducible refine (mimesisref17_bit.calls _ _ _ _ _ F2.out).mono ?_); rintro e w' ⟨rfl, ⟨nd, rfl⟩⟩; (try first | exact ⟨rfl, _, World.drewN_drewN _ _ _⟩ | exact ⟨rfl, _, Eq.trans (World.drewN_drewN _ _ _) (congrArg (World.drewN _) (Nat.add_assoc _ _ _))⟩)))
      go_wp2_with fail
      go_roundw
      case rel => exact ⟨1, by omega, rfl, by simpa using d1, by simpa using g0, by simpa using g1, by simpa using g2, by repeat (first | exact HB.out | apply pw_below_drewN | apply Below.drew)⟩
      case measure => simp [intOf]
    · go_wp2_with fail
      go_quiet (first | (go_at_call 56; (with_reducible refine (mimesisref17_bit.calls _ _ _ _ _ F3.out).mono ?_); rintro e w' ⟨rfl, ⟨nd, rfl⟩⟩; (try first | exact ⟨rfl, _, World.drewN_drewN _ _ _⟩ | exact ⟨rfl, _, Eq.trans (World.drewN_drewN _ _ _) (congrArg (World.drewN _) (Nat.add_assoc _ _ _))⟩)) | (go_at_call 56; (with_reducible refine (mimesisref17_bit.calls _ _ _ _ _ F4.out).mono ?_); rintro e w' ⟨rfl, ⟨nd, rfl⟩⟩; (try first | exact ⟨rfl, _, World.drewN_drewN _ _ _⟩ | exact ⟨rfl, _, Eq.trans (World.drewN_drewN _ _ _) (congrArg (World.drewN _) (Nat.add_assoc _ _ _))⟩)))
      go_wp2_with fail
      go_ret2
      exact ⟨rfl, by repeat (first | exact HB.out | apply pw_below_drewN | apply Below.drew)⟩

set_option maxHeartbeats 4000000 in
set_option maxRecDepth 100000 in
theorem heard_no (k : Nat) (a0 a1 a2 a3 a4 a5 a6 n t : Int) (W : World) (F0 : Aside0 (mimesisref17_bit.f k a0 3 = some t)) (ht : (t == 0) = true) :
    Calls Try.prog 37 #[.agg #[.int .u32 a0, .int .u32 a1, .int .u32 a2, .int .u32 a3, .int .u32 a4, .int .u32 a5, .int .u32 a6], .int .u32 n] W fun e w' => e = .returned (.tuple #[.int .u32 0, .bool false]) ∧ Below W.heap.size W w' := by
  go_enter Try.func37, Try.ntmps37
  go_wp2_with fail
  refine (mimesisref17_bit.calls _ _ _ _ _ F0.out).mono ?_
  rintro e w' ⟨rfl, ⟨nd0, rfl⟩⟩
  go_wp2_with fail
  go_ret2
  exact ⟨rfl, by repeat (first | with_reducible exact Below.refl _ _ | apply pw_below_drewN | apply below_alloc)⟩

set_option maxHeartbeats 4000000 in
set_option maxRecDepth 100000 in
theorem heard_2 (k : Nat) (a0 a1 a2 a3 a4 a5 a6 n c0 e0 c1 e1 c2 e2 t : Int) (W : World) (F0 : Aside0 (mimesisref17_bit.f k a0 3 = some t)) (F1 : Aside0 (mimesisref17_bit.f k n 11 = some c0)) (F2 : Aside0 (mimesisref17_bit.f k a1 11 = some e0)) (F3 : Aside0 (mimesisref17_bit.f k n 3 = some c1)) (F4 : Aside0 (mimesisref17_bit.f k a1 3 = some e1)) (F5 : Aside0 (mimesisref17_bit.f k n 7 = some c2)) (F6 : Aside0 (mimesisref17_bit.f k a1 7 = some e2)) (ht : (t == 0) = false) (h0 : ((c0 + e0) % 4294967296 == 2) = false) (h1 : ((c1 + e1) % 4294967296 == 2) = false) (h2 : ((c2 + e2) % 4294967296 == 2) = true) :
    Calls Try.prog 37 #[.agg #[.int .u32 a0, .int .u32 a1, .int .u32 a2, .int .u32 a3, .int .u32 a4, .int .u32 a5, .int .u32 a6], .int .u32 n] W fun e w' => e = .returned (.tuple #[.int .u32 2147483655, .bool true]) ∧ Below W.heap.size W w' := by
  go_enter Try.func37, Try.ntmps37
  go_wp2_with fail
  refine (mimesisref17_bit.calls _ _ _ _ _ F0.out).mono ?_
  rintro e w' ⟨rfl, ⟨nd0, rfl⟩⟩
  go_wp2_with fail
  go_loopw [7] (fun i wr => ∃ j : Nat, j ≤ 2 ∧ i = .int .i64 j ∧ wr.cell? ⟨W.heap.size, 1, none⟩ = some (.int .u32 a1) ∧ wr.cell? ⟨W.heap.size + 1, 0, none⟩ = some (.int .i64 11) ∧ wr.cell? ⟨W.heap.size + 1, 1, none⟩ = some (.int .i64 3) ∧ wr.cell? ⟨W.heap.size + 1, 2, none⟩ = some (.int .i64 7) ∧ Below W.heap.size W wr) (fun i _ => 4 - (intOf i).toNat)
  case atStart => exact ⟨0, by omega, rfl, by go_simp, by go_simp, by go_simp, by go_simp, by repeat (first | with_reducible exact Below.refl _ _ | apply pw_below_drewN | apply below_alloc)⟩
  case round =>
    obtain ⟨j, hj, rfl, d1, g0, g1, g2, hb⟩ := hrel
    have HB := Aside0.mk hb
    clear hb
    obtain rfl | rfl | rfl : j = 0 ∨ j = 1 ∨ j = 2 := by omega
    · go_wp2_with fail
      go_quiet (first | (go_at_call 56; (with_reducible refine (mimesisref17_bit.calls _ _ _ _ _ F1.out).mono ?_); rintro e w' ⟨rfl, ⟨nd, rfl⟩⟩; (try first | exact ⟨rfl, _, World.drewN_drewN _ _ _⟩ | exact ⟨rfl, _, Eq.trans (World.drewN_drewN _ _ _) (congrArg (World.drewN _) (Nat.add_assoc _ _ _))⟩)) | (go_at_call 56; (with_reducible refine (mimesisref17_bit.calls _ _ _ _ _ F2.out).mono ?_); rintro e w' ⟨rfl, ⟨nd, rfl⟩⟩; (try first | exact ⟨rfl, _, World.drewN_drewN _ _ _⟩ | exact ⟨rfl, _, Eq.trans (World.drewN_drewN _ _ _) (congrArg (World.drewN _) (Nat.add_assoc _ _ _))⟩)))
      go_wp2_with fail
      go_roundw
      case rel => exact ⟨1, by omega, rfl, by simpa using d1, by simpa using g0, by simpa using g1, by simpa using g2, by repeat (first | exact HB.out | apply pw_below_drewN | apply Below.drew)⟩
      case measure => simp [intOf]
    · go_wp2_with fail
      go_quiet (first | (go_at_call 56; (with_reducible refine (mimesisref17_bit.calls _ _ _ _ _ F3.out).mono ?_); rintro e w' ⟨rfl, ⟨nd, rfl⟩⟩; (try first | exact ⟨rfl, _, World.drewN_drewN _ _ _⟩ | exact ⟨rfl, _, Eq.trans (World.drewN_drewN _ _ _) (congrArg (World.drewN _) (Nat.add_assoc _ _ _))⟩)) | (go_at_call 56; (with_reducible refine (mimesisref17_bit.calls _ _ _ _ _ F4.out).mono ?_); rintro e w' ⟨rfl, ⟨nd, rfl⟩⟩; (try first | exact ⟨rfl, _, World.drewN_drewN _ _ _⟩ | exact ⟨rfl, _, Eq.trans (World.drewN_drewN _ _ _) (congrArg (World.drewN _) (Nat.add_assoc _ _ _))⟩)))
      go_wp2_with fail
      go_roundw
      case rel => exact ⟨2, by omega, rfl, by simpa using d1, by simpa using g0, by simpa using g1, by simpa using g2, by repeat (first | exact HB.out | apply pw_below_drewN | apply Below.drew)⟩
      case measure => simp [intOf]
    · go_wp2_with fail
      go_quiet (first | (go_at_call 56; (with_reducible refine (mimesisref17_bit.calls _ _ _ _ _ F5.out).mono ?_); rintro e w' ⟨rfl, ⟨nd, rfl⟩⟩; (try first | exact ⟨rfl, _, World.drewN_drewN _ _ _⟩ | exact ⟨rfl, _, Eq.trans (World.drewN_drewN _ _ _) (congrArg (World.drewN _) (Nat.add_assoc _ _ _))⟩)) | (go_at_call 56; (with_reducible refine (mimesisref17_bit.calls _ _ _ _ _ F6.out).mono ?_); rintro e w' ⟨rfl, ⟨nd, rfl⟩⟩; (try first | exact ⟨rfl, _, World.drewN_drewN _ _ _⟩ | exact ⟨rfl, _, Eq.trans (World.drewN_drewN _ _ _) (congrArg (World.drewN _) (Nat.add_assoc _ _ _))⟩)))
      go_wp2_with fail
      go_ret2
      exact ⟨rfl, by repeat (first | exact HB.out | apply pw_below_drewN | apply Below.drew)⟩

set_option maxHeartbeats 4000000 in
set_option maxRecDepth 100000 in
theorem heard_3 (k : Nat) (a0 a1 a2 a3 a4 a5 a6 n c0 e0 c1 e1 c2 e2 t : Int) (W : World) (F0 : Aside0 (mimesisref17_bit.f k a0 3 = some t)) (F1 : Aside0 (mimesisref17_bit.f k n 11 = some c0)) (F2 : Aside0 (mimesisref17_bit.f k a1 11 = some e0)) (F3 : Aside0 (mimesisref17_bit.f k n 3 = some c1)) (F4 : Aside0 (mimesisref17_bit.f k a1 3 = some e1)) (F5 : Aside0 (mimesisref17_bit.f k n 7 = some c2)) (F6 : Aside0 (mimesisref17_bit.f k a1 7 = some e2)) (ht : (t == 0) = false) (h0 : ((c0 + e0) % 4294967296 == 2) = false) (h1 : ((c1 + e1) % 4294967296 == 2) = false) (h2 : ((c2 + e2) % 4294967296 == 2) = false) :
    Calls Try.prog 37 #[.agg #[.int .u32 a0, .int .u32 a1, .int .u32 a2, .int .u32 a3, .int .u32 a4, .int .u32 a5, .int .u32 a6], .int .u32 n] W fun e w' => e = .returned (.tuple #[.int .u32 0, .bool false]) ∧ Below W.heap.size W w' := by
  go_enter Try.func37, Try.ntmps37
  go_wp2_with fail
  refine (mimesisref17_bit.calls _ _ _ _ _ F0.out).mono ?_
  rintro e w' ⟨rfl, ⟨nd0, rfl⟩⟩
  go_wp2_with fail
  go_loopw [7] (fun i wr => ∃ j : Nat, j ≤ 3 ∧ i = .int .i64 j ∧ wr.cell? ⟨W.heap.size, 1, none⟩ = some (.int .u32 a1) ∧ wr.cell? ⟨W.heap.size + 1, 0, none⟩ = some (.int .i64 11) ∧ wr.cell? ⟨W.heap.size + 1, 1, none⟩ = some (.int .i64 3) ∧ wr.cell? ⟨W.heap.size + 1, 2, none⟩ = some (.int .i64 7) ∧ Below W.heap.size W wr) (fun i _ => 4 - (intOf i).toNat)
  case atStart => exact ⟨0, by omega, rfl, by go_simp, by go_simp, by go_simp, by go_simp, by repeat (first | with_reducible exact Below.refl _ _ | apply pw_below_drewN | apply below_alloc)⟩
  case round =>
    obtain ⟨j, hj, rfl, d1, g0, g1, g2, hb⟩ := hrel
    have HB := Aside0.mk hb
    clear hb
    obtain rfl | rfl | rfl | rfl : j = 0 ∨ j = 1 ∨ j = 2 ∨ j = 3 := by omega
    · go_wp2_with fail
      go_quiet (first | (go_at_call 56; (with_reducible refine (mimesisref17_bit.calls _ _ _ _ _ F1.out).mono ?_); rintro e w' ⟨rfl, ⟨nd, rfl⟩⟩; (try first | exact ⟨rfl, _, World.drewN_drewN _ _ _⟩ | exact ⟨rfl, _, Eq.trans (World.drewN_drewN _ _ _) (congrArg (World.drewN _) (Nat.add_assoc _ _ _))⟩)) | (go_at_call 56; (with_reducible refine (mimesisref17_bit.calls _ _ _ _ _ F2.out).mono ?_); rintro e w' ⟨rfl, ⟨nd, rfl⟩⟩; (try first | exact ⟨rfl, _, World.drewN_drewN _ _ _⟩ | exact ⟨rfl, _, Eq.trans (World.drewN_drewN _ _ _) (congrArg (World.drewN _) (Nat.add_assoc _ _ _))⟩)))
      go_wp2_with fail
      go_roundw
      case rel => exact ⟨1, by omega, rfl, by simpa using d1, by simpa using g0, by simpa using g1, by simpa using g2, by repeat (first | exact HB.out | apply pw_below_drewN | apply Below.drew)⟩
      case measure => simp [intOf]
    · go_wp2_with fail
      go_quiet (first | (go_at_call 56; (with_reducible refine (mimesisref17_bit.calls _ _ _ _ _ F3.out).mono ?_); rintro e w' ⟨rfl, ⟨nd, rfl⟩⟩; (try first | exact ⟨rfl, _, World.drewN_drewN _ _ _⟩ | exact ⟨rfl, _, Eq.trans (World.drewN_drewN _ _ _) (congrArg (World.drewN _) (Nat.add_assoc _ _ _))⟩)) | (go_at_call 56; (with_reducible refine (mimesisref17_bit.calls _ _ _ _ _ F4.out).mono ?_); rintro e w' ⟨rfl, ⟨nd, rfl⟩⟩; (try first | exact ⟨rfl, _, World.drewN_drewN _ _ _⟩ | exact ⟨rfl, _, Eq.trans (World.drewN_drewN _ _ _) (congrArg (World.drewN _) (Nat.add_assoc _ _ _))⟩)))
      go_wp2_with fail
      go_roundw
      case rel => exact ⟨2, by omega, rfl, by simpa using d1, by simpa using g0, by simpa using g1, by simpa using g2, by repeat (first | exact HB.out | apply pw_below_drewN | apply Below.drew)⟩
      case measure => simp [intOf]
    · go_wp2_with fail
      go_quiet (first | (go_at_call 56; (with_reducible refine (mimesisref17_bit.calls _ _ _ _ _ F5.out).mono ?_); rintro e w' ⟨rfl, ⟨nd, rfl⟩⟩; (try first | exact ⟨rfl, _, World.drewN_drewN _ _ _⟩ | exact ⟨rfl, _, Eq.trans (World.drewN_drewN _ _ _) (congrArg (World.drewN _) (Nat.add_assoc _ _ _))⟩)) | (go_at_call 56; (with_reducible refine (mimesisref17_bit.calls _ _ _ _ _ F6.out).mono ?_); rintro e w' ⟨rfl, ⟨nd, rfl⟩⟩; (try first | exact ⟨rfl, _, World.drewN_drewN _ _ _⟩ | exact ⟨rfl, _, Eq.trans (World.drewN_drewN _ _ _) (congrArg (World.drewN _) (Nat.add_assoc _ _ _))⟩)))
      go_wp2_with fail
      go_roundw
      case rel => exact ⟨3, by omega, rfl, by simpa using d1, by simpa using g0, by simpa using g1, by simpa using g2, by repeat (first | exact HB.out | apply pw_below_drewN | apply Below.drew)⟩
      case measure => simp [intOf]
    · go_wp2_with fail
      go_ret2
      exact ⟨rfl, HB.out⟩

end Go.Proofs.Ytcnohkakklaejaa.TrapHearsWalk
