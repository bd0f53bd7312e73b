/- The walk of TrapEnters. -/
import Derived.Test.YtcnohkakklaejaaQTrapEntersx
import Derived.Deep.RegionHeld3
namespace Go.Proofs.Ytcnohkakklaejaa.TrapEntersWalk
open Go Go.RowKit Go.Proofs.Ytcnohkakklaejaa.QTrapEnters Go.Proofs.YtcnohkakklaejaaW.PrintWords Go.Proofs.YtcnohkakklaejaaW.PrintLast Go.Proofs.YtcnohkakklaejaaW.PrintMore
set_option linter.unusedVariables false
set_option linter.unusedSimpArgs false

theorem below_on {w w1 w2 : World} (h : Below w.heap.size w w1) (k : Below w1.heap.size w1 w2) : Below w.heap.size w w2 := below_then h h.size k

set_option maxHeartbeats 2000000 in
set_option maxRecDepth 100000 in
theorem walk (k : Nat) (a0 a1 a2 a3 a4 a5 a6 pc c tv x0 at_ : Int) (nm : ByteArray) (W : World) (h1 : trap_Enter.f a0 a1 a2 a3 a4 a5 a6 pc c tv = some (x0, a1, a2, a3, pc, c, tv, at_)) (h2 : mimesisref17_Enter.f k a0 a1 a2 a3 a4 a5 a6 pc c tv = some (x0, a1, a2, a3, pc, c, tv, at_))
    (h3 : trap_Name.f k c = some nm) (h4 : mimesisref17_Name.f c = some nm) (h9 : mimesislaw17_awake.f k = some true) :
    Calls Try.prog 3 #[.agg #[.int .u32 a0, .int .u32 a1, .int .u32 a2, .int .u32 a3, .int .u32 a4, .int .u32 a5, .int .u32 a6], .int .u32 pc, .agg #[.int .u32 c, .int .u32 tv]] W fun e w' => e = .returned (.bool true) ∧ Below W.heap.size W w' := by
  have A1 := Aside0.mk h1; have A2 := Aside0.mk h2; have A3 := Aside0.mk h3; have A4 := Aside0.mk h4; have A9 := Aside0.mk h9
  clear h1 h2 h3 h4 h9
  go_enter Try.func3, Try.ntmps3
  go_wp2_with fail
  refine (trap_Enter.calls _ _ _ _ _ _ _ _ _ _ _ _ _ _ _ _ _ _ _ A1.out).mono ?_
  rintro e w1 ⟨rfl, hb1⟩
  have B1 := Aside0.mk hb1
  have C1 := Aside0.mk (below_on (below_alloc (below_alloc (Below.refl W.heap.size W) _) _) hb1)
  clear hb1
  have d0 : w1.cell? ⟨W.heap.size, 0, none⟩ = some (.int .u32 a0) := pw_cell_below B1.out (by simp)
  have d1 : w1.cell? ⟨W.heap.size, 1, none⟩ = some (.int .u32 a1) := pw_cell_below B1.out (by simp)
  have d2 : w1.cell? ⟨W.heap.size, 2, none⟩ = some (.int .u32 a2) := pw_cell_below B1.out (by simp)
  have d3 : w1.cell? ⟨W.heap.size, 3, none⟩ = some (.int .u32 a3) := pw_cell_below B1.out (by simp)
  have d4 : w1.cell? ⟨W.heap.size, 4, none⟩ = some (.int .u32 a4) := pw_cell_below B1.out (by simp)
  have d5 : w1.cell? ⟨W.heap.size, 5, none⟩ = some (.int .u32 a5) := pw_cell_below B1.out (by simp)
  have d6 : w1.cell? ⟨W.heap.size, 6, none⟩ = some (.int .u32 a6) := pw_cell_below B1.out (by simp)
  have dc : w1.cell? ⟨W.heap.size + 1, 0, none⟩ = some (.int .u32 c) := pw_cell_below B1.out (by simp)
  have dt : w1.cell? ⟨W.heap.size + 1, 1, none⟩ = some (.int .u32 tv) := pw_cell_below B1.out (by simp)
  have hsz : W.heap.size + 1 < w1.heap.size := by have := B1.out.size; simp at this; omega
  have hsz0 : W.heap.size < w1.heap.size := by omega
  have hne : ¬ W.heap.size = w1.heap.size := by omega
  have hne' : ¬ W.heap.size + 1 = w1.heap.size := by omega
  go_wp2_with fail
  refine (mimesisref17_Enter.calls _ _ _ _ _ _ _ _ _ _ _ _ _ _ _ _ _ _ _ _ A2.out).mono ?_
  rintro e w2 ⟨rfl, hb2⟩
  have B2 := Aside0.mk hb2
  have C2 := Aside0.mk (below_on (below_alloc C1.out _) hb2)
  clear hb2
  have e0 : w2.cell? ⟨w1.heap.size, 0, none⟩ = some (.int .u32 x0) := pw_cell_below B2.out (by simp)
  have e1 : w2.cell? ⟨w1.heap.size, 1, none⟩ = some (.int .u32 a1) := pw_cell_below B2.out (by simp)
  have e2 : w2.cell? ⟨w1.heap.size, 2, none⟩ = some (.int .u32 a2) := pw_cell_below B2.out (by simp)
  have e3 : w2.cell? ⟨w1.heap.size, 3, none⟩ = some (.int .u32 a3) := pw_cell_below B2.out (by simp)
  have e4 : w2.cell? ⟨w1.heap.size, 4, none⟩ = some (.int .u32 pc) := pw_cell_below B2.out (by simp)
  have e5 : w2.cell? ⟨w1.heap.size, 5, none⟩ = some (.int .u32 c) := pw_cell_below B2.out (by simp)
  have e6 : w2.cell? ⟨w1.heap.size, 6, none⟩ = some (.int .u32 tv) := pw_cell_below B2.out (by simp)
  have ec : w2.cell? ⟨W.heap.size + 1, 0, none⟩ = some (.int .u32 c) := pw_cell_below B2.out (pw_cell_below (below_alloc (Below.refl _ w1) _) dc)
  clear d0 d1 d2 d3 d4 d5 d6 dc dt
  have hsz2 : w1.heap.size < w2.heap.size := by have := B2.out.size; simp at this; omega
  have hne2 : ¬ w1.heap.size = w2.heap.size := by omega
  have hsz3 : W.heap.size + 1 < w2.heap.size := by omega
  have hne3 : ¬ W.heap.size + 1 = w2.heap.size := by omega
  go_wp2_with fail
  go_region_held3 (fun w' => w'.cell? ⟨w1.heap.size, 0, none⟩ = some (.int .u32 x0) ∧ w'.cell? ⟨w1.heap.size, 1, none⟩ = some (.int .u32 a1) ∧ w'.cell? ⟨w1.heap.size, 2, none⟩ = some (.int .u32 a2) ∧ w'.cell? ⟨w1.heap.size, 3, none⟩ = some (.int .u32 a3) ∧ w'.cell? ⟨w1.heap.size, 4, none⟩ = some (.int .u32 pc) ∧ w'.cell? ⟨w1.heap.size, 5, none⟩ = some (.int .u32 c) ∧ w'.cell? ⟨w1.heap.size, 6, none⟩ = some (.int .u32 tv) ∧ w'.cell? ⟨w2.heap.size, 0, none⟩ = some (.int .u32 x0) ∧ w'.cell? ⟨w2.heap.size, 1, none⟩ = some (.int .u32 a1) ∧ w'.cell? ⟨w2.heap.size, 2, none⟩ = some (.int .u32 a2) ∧ w'.cell? ⟨w2.heap.size, 3, none⟩ = some (.int .u32 a3) ∧ w'.cell? ⟨w2.heap.size, 4, none⟩ = some (.int .u32 pc) ∧ w'.cell? ⟨w2.heap.size, 5, none⟩ = some (.int .u32 c) ∧ w'.cell? ⟨w2.heap.size, 6, none⟩ = some (.int .u32 tv) ∧ w'.cell? ⟨W.heap.size + 1, 0, none⟩ = some (.int .u32 c) ∧ Below W.heap.size W w') (first | (go_split_ands; (repeat' apply And.intro) <;> (first | exact pw_cell_below hb (by assumption) | exact below_on (by assumption) hb)) | ((repeat' apply And.intro) <;> (first | exact Below.drew (below_alloc C2.out _) | go_keep))) (first | (go_at_call 17; (with_reducible refine (trap_Name.calls _ _ _ _ A3.out).mono ?_); rintro e w' ⟨rfl, hb⟩) | (go_at_call 18; (with_reducible refine (mimesisref17_Name.calls _ _ _ A4.out).mono ?_); rintro e w' ⟨rfl, hb⟩) | (go_at_call 19; (with_reducible refine (mimesislaw17_awake.calls _ _ _ A9.out).mono ?_); rintro e w' ⟨rfl, hb⟩))
  all_goals go_wp2
  all_goals go_ret
  all_goals (go_split_ands; exact ⟨rfl, by assumption⟩)

end Go.Proofs.Ytcnohkakklaejaa.TrapEntersWalk
