/- The walk of TrapReturns. -/
import Derived.Test.YtcnohkakklaejaaQTrapReturnsx
import Derived.Deep.RegionWith
namespace Go.Proofs.Ytcnohkakklaejaa.TrapReturnsWalk
open Go Go.RowKit Go.Proofs.Ytcnohkakklaejaa.QTrapReturns Go.Proofs.YtcnohkakklaejaaW.PrintWords Go.Proofs.YtcnohkakklaejaaW.PrintLast Go.Proofs.YtcnohkakklaejaaW.PrintMore
set_option linter.unusedVariables false
set_option linter.unusedSimpArgs false

theorem below_on {w w1 w2 : World} (h : Below w.heap.size w w1) (k : Below w1.heap.size w1 w2) : Below w.heap.size w w2 := below_then h h.size k

theorem below_ret (W : World) (o1 o2 : Obj) (n : Nat) (v q0 q1 q2 q3 q4 q5 q6 : Value) : Below W.heap.size W
    (((((((((((W.alloc o1).alloc o2).drewN n).setCell { block := W.heap.size, off := 0 } v).setCell { block := W.heap.size + 1, off := 0 } q0).setCell { block := W.heap.size + 1, off := 1 } q1).setCell { block := W.heap.size + 1, off := 2 } q2).setCell { block := W.heap.size + 1, off := 3 } q3).setCell { block := W.heap.size + 1, off := 4 } q4).setCell { block := W.heap.size + 1, off := 5 } q5).setCell { block := W.heap.size + 1, off := 6 } q6).drew := by
  have h0 := pw_below_drewN (((Below.refl W.heap.size W).alloc (Nat.le_refl _) o1).alloc (by simp) o2) n
  exact ((((((((h0.setCell (p := { block := W.heap.size, off := 0 }) (Nat.le_refl _) v).setCell (p := { block := W.heap.size + 1, off := 0 }) (Nat.le_succ _) q0).setCell (p := { block := W.heap.size + 1, off := 1 }) (Nat.le_succ _) q1).setCell (p := { block := W.heap.size + 1, off := 2 }) (Nat.le_succ _) q2).setCell (p := { block := W.heap.size + 1, off := 3 }) (Nat.le_succ _) q3).setCell (p := { block := W.heap.size + 1, off := 4 }) (Nat.le_succ _) q4).setCell (p := { block := W.heap.size + 1, off := 5 }) (Nat.le_succ _) q5).setCell (p := { block := W.heap.size + 1, off := 6 }) (Nat.le_succ _) q6).drew

set_option maxHeartbeats 1000000 in
set_option maxRecDepth 100000 in
theorem ret_calls (k : Nat) (a0 a1 a2 a3 a4 a5 a6 b p q : Int) (W : World) (h1 : mimesisref17_bit.f k a0 7 = some b) (h2 : mimesisref01_Put.f k a0 3 1 b = some p) (h3 : mimesisref01_Put.f k p 7 1 1 = some q) :
    Calls Try.prog 25 #[.agg #[.int .u32 a0, .int .u32 a1, .int .u32 a2, .int .u32 a3, .int .u32 a4, .int .u32 a5, .int .u32 a6]] W fun e w' =>
      e = .returned (.tuple #[.agg #[.int .u32 q, .int .u32 a1, .int .u32 a2, .int .u32 a3, .int .u32 a4, .int .u32 a5, .int .u32 a6], .int .u32 a4]) ∧ Below W.heap.size W w' := by
  have A1 := Aside0.mk h1; have A2 := Aside0.mk h2; have A3 := Aside0.mk h3
  clear h1 h2 h3
  go_enter Try.func25, Try.ntmps25
  go_wp2_with fail
  go_region_with (first | (go_at_call 56; (with_reducible refine (mimesisref17_bit.calls _ _ _ _ _ A1.out).mono ?_); rintro e w' ⟨rfl, ⟨nd, rfl⟩⟩) | (go_at_call 35; (with_reducible refine (mimesisref01_Put.calls _ _ _ _ _ _ _ A2.out).mono ?_); rintro e w' ⟨rfl, ⟨nd, rfl⟩⟩) | (go_at_call 35; (with_reducible refine (mimesisref01_Put.calls _ _ _ _ _ _ _ A3.out).mono ?_); rintro e w' ⟨rfl, ⟨nd, rfl⟩⟩))
  all_goals go_wp2_with fail
  all_goals go_region
  all_goals go_wp2
  all_goals
    refine bodyPost_ret (v := .tuple #[.agg #[.int .u32 q, .int .u32 a1, .int .u32 a2, .int .u32 a3, .int .u32 a4, .int .u32 a5, .int .u32 a6], .int .u32 a4]) (by simp [results, Try.results25, go_sem]) rfl ⟨rfl, ?_⟩
  all_goals exact below_ret W _ _ _ _ _ _ _ _ _ _ _

set_option maxHeartbeats 1000000 in
set_option maxRecDepth 100000 in
theorem walk (k : Nat) (a0 a1 a2 a3 a4 a5 a6 b p q : Int) (W : World) (h1 : mimesisref17_bit.f k a0 7 = some b) (h2 : mimesisref01_Put.f k a0 3 1 b = some p) (h3 : mimesisref01_Put.f k p 7 1 1 = some q)
    (h4 : trap_Return.f a0 a1 a2 a3 a4 a5 a6 = some (q, a1, a2, a3, a4, a5, a6, a4)) (h9 : mimesislaw17_awake.f k = some true) :
    Calls Try.prog 5 #[.agg #[.int .u32 a0, .int .u32 a1, .int .u32 a2, .int .u32 a3, .int .u32 a4, .int .u32 a5, .int .u32 a6]] W fun e w' => e = .returned (.bool true) ∧ Below W.heap.size W w' := by
  have A1 := Aside0.mk h1; have A2 := Aside0.mk h2; have A3 := Aside0.mk h3; have A4 := Aside0.mk h4; have A9 := Aside0.mk h9
  clear h1 h2 h3 h4 h9
  go_enter Try.func5, Try.ntmps5
  go_wp2_with fail
  refine (trap_Return.calls _ _ _ _ _ _ _ _ _ _ _ _ _ _ _ _ A4.out).mono ?_
  rintro e w1 ⟨rfl, hb1⟩
  have B1 := Aside0.mk (below_on (below_alloc (Below.refl W.heap.size W) _) hb1)
  have hc0 : ∀ j, j < 7 → w1.cell? ⟨W.heap.size, j, none⟩ = some (.int .u32 ([a0, a1, a2, a3, a4, a5, a6].getD j 0)) := by
    intro j hj
    rw [hb1.cell (p := ⟨W.heap.size, j, none⟩) (by simp)]
    match j, hj with
    | 0, _ | 1, _ | 2, _ | 3, _ | 4, _ | 5, _ | 6, _ => simp
  have d0 := hc0 0 (by omega); have d1 := hc0 1 (by omega); have d2 := hc0 2 (by omega); have d3 := hc0 3 (by omega); have d4 := hc0 4 (by omega); have d5 := hc0 5 (by omega); have d6 := hc0 6 (by omega)
  simp only [List.getD_cons_zero, List.getD_cons_succ] at d0 d1 d2 d3 d4 d5 d6
  clear hc0
  have hsz : W.heap.size < w1.heap.size := by have := hb1.size; simp at this; omega
  clear hb1
  have hne : ¬ W.heap.size = w1.heap.size := by omega
  go_wp2_with fail
  refine (ret_calls _ _ _ _ _ _ _ _ _ _ _ _ A1.out A2.out A3.out).mono ?_
  rintro e w2 ⟨rfl, hb2⟩
  have B2 := Aside0.mk hb2
  clear hb2
  have e0 : w2.cell? ⟨w1.heap.size, 0, none⟩ = some (.int .u32 q) := (B2.out.cell (p := ⟨w1.heap.size, 0, none⟩) (by simp)).trans (by simp)
  have e1 : w2.cell? ⟨w1.heap.size, 1, none⟩ = some (.int .u32 a1) := (B2.out.cell (p := ⟨w1.heap.size, 1, none⟩) (by simp)).trans (by simp)
  have e2 : w2.cell? ⟨w1.heap.size, 2, none⟩ = some (.int .u32 a2) := (B2.out.cell (p := ⟨w1.heap.size, 2, none⟩) (by simp)).trans (by simp)
  have e3 : w2.cell? ⟨w1.heap.size, 3, none⟩ = some (.int .u32 a3) := (B2.out.cell (p := ⟨w1.heap.size, 3, none⟩) (by simp)).trans (by simp)
  have e4 : w2.cell? ⟨w1.heap.size, 4, none⟩ = some (.int .u32 a4) := (B2.out.cell (p := ⟨w1.heap.size, 4, none⟩) (by simp)).trans (by simp)
  have e5 : w2.cell? ⟨w1.heap.size, 5, none⟩ = some (.int .u32 a5) := (B2.out.cell (p := ⟨w1.heap.size, 5, none⟩) (by simp)).trans (by simp)
  have e6 : w2.cell? ⟨w1.heap.size, 6, none⟩ = some (.int .u32 a6) := (B2.out.cell (p := ⟨w1.heap.size, 6, none⟩) (by simp)).trans (by simp)
  have hsz2 : w1.heap.size < w2.heap.size := by have := B2.out.size; simp at this; omega
  have hne2 : ¬ w1.heap.size = w2.heap.size := by omega
  go_wp2_with fail
  refine (mimesislaw17_awake.calls _ _ _ A9.out).mono ?_
  rintro e w3 ⟨rfl, hb3⟩
  have B3 := Aside0.mk (below_on (below_alloc (below_on (below_alloc B1.out _) B2.out) _) hb3)
  clear hb3
  go_wp2_with fail
  go_ret
  exact ⟨rfl, B3.out⟩

end Go.Proofs.Ytcnohkakklaejaa.TrapReturnsWalk
