/- The walk of TrapHears. -/
import Derived.Test.YtcnohkakklaejaaWalkTrapNo
import Derived.Deep.RegionHeld3
import Derived.Deep.RegionWith
namespace Go.Proofs.Ytcnohkakklaejaa.TrapHearsWalk
open Go Go.RowKit Go.Proofs.Ytcnohkakklaejaa.QTrapHears Go.Proofs.YtcnohkakklaejaaW.PrintWords Go.Proofs.YtcnohkakklaejaaW.PrintLast Go.Proofs.YtcnohkakklaejaaW.PrintMore
set_option linter.unusedVariables false
set_option linter.unusedSimpArgs false

set_option maxHeartbeats 4000000 in
set_option maxRecDepth 100000 in
theorem walk_yes (k : Nat) (a0 a1 a2 a3 a4 a5 a6 n h : Int) (wk : Bool) (W : World) (h1 : trap_Heard.f a0 a1 a2 a3 a4 a5 a6 n = some (h, true)) (h2 : trap_Wakes.f a0 a1 a2 a3 a4 a5 a6 n = some true) (h9 : mimesislaw17_awake.f k = some true)
    (h3 : ∀ w : World, Calls Try.prog 37 #[.agg #[.int .u32 a0, .int .u32 a1, .int .u32 a2, .int .u32 a3, .int .u32 a4, .int .u32 a5, .int .u32 a6], .int .u32 n] w fun e w' => e = .returned (.tuple #[.int .u32 h, .bool true]) ∧ Below w.heap.size w w') (h4 : ∀ w : World, Calls Try.prog 39 #[.agg #[.int .u32 a0, .int .u32 a1, .int .u32 a2, .int .u32 a3, .int .u32 a4, .int .u32 a5, .int .u32 a6], .int .u32 n] w fun e w' => e = .returned (.bool true) ∧ Below w.heap.size w w') :
    Calls Try.prog 8 #[.agg #[.int .u32 a0, .int .u32 a1, .int .u32 a2, .int .u32 a3, .int .u32 a4, .int .u32 a5, .int .u32 a6], .int .u32 n] W fun e w' => e = .returned (.bool true) ∧ Below W.heap.size W w' := by
  have A1 := Aside0.mk h1; have A2 := Aside0.mk h2; have A3 := Aside0.mk h3; have A4 := Aside0.mk h4; have A9 := Aside0.mk h9
  clear h1 h2 h3 h4 h9
  go_enter Try.func8, Try.ntmps8
  go_wp2_with fail
  refine (trap_Heard.calls _ _ _ _ _ _ _ _ _ _ _ A1.out).mono ?_
  rintro e w1 ⟨rfl, hb1⟩
  have B1 := Aside0.mk hb1
  have C1 := Aside0.mk (below_on (below_alloc (Below.refl W.heap.size W) _) hb1)
  clear hb1
  have c0 : w1.cell? ⟨W.heap.size, 0, none⟩ = some (.int .u32 a0) := pw_cell_below B1.out (by simp)
  have c1 : w1.cell? ⟨W.heap.size, 1, none⟩ = some (.int .u32 a1) := pw_cell_below B1.out (by simp)
  have c2 : w1.cell? ⟨W.heap.size, 2, none⟩ = some (.int .u32 a2) := pw_cell_below B1.out (by simp)
  have c3 : w1.cell? ⟨W.heap.size, 3, none⟩ = some (.int .u32 a3) := pw_cell_below B1.out (by simp)
  have c4 : w1.cell? ⟨W.heap.size, 4, none⟩ = some (.int .u32 a4) := pw_cell_below B1.out (by simp)
  have c5 : w1.cell? ⟨W.heap.size, 5, none⟩ = some (.int .u32 a5) := pw_cell_below B1.out (by simp)
  have c6 : w1.cell? ⟨W.heap.size, 6, none⟩ = some (.int .u32 a6) := pw_cell_below B1.out (by simp)
  go_wp2_with fail
  refine (A3.out _).mono ?_
  rintro e w2 ⟨rfl, hb2⟩
  have B2 := Aside0.mk hb2
  have C2 := Aside0.mk (below_on C1.out hb2)
  clear hb2 c0 c1 c2 c3 c4 c5 c6
  have d0 : w2.cell? ⟨W.heap.size, 0, none⟩ = some (.int .u32 a0) := pw_cell_below B2.out (pw_cell_below B1.out (by simp))
  have d1 : w2.cell? ⟨W.heap.size, 1, none⟩ = some (.int .u32 a1) := pw_cell_below B2.out (pw_cell_below B1.out (by simp))
  have d2 : w2.cell? ⟨W.heap.size, 2, none⟩ = some (.int .u32 a2) := pw_cell_below B2.out (pw_cell_below B1.out (by simp))
  have d3 : w2.cell? ⟨W.heap.size, 3, none⟩ = some (.int .u32 a3) := pw_cell_below B2.out (pw_cell_below B1.out (by simp))
  have d4 : w2.cell? ⟨W.heap.size, 4, none⟩ = some (.int .u32 a4) := pw_cell_below B2.out (pw_cell_below B1.out (by simp))
  have d5 : w2.cell? ⟨W.heap.size, 5, none⟩ = some (.int .u32 a5) := pw_cell_below B2.out (pw_cell_below B1.out (by simp))
  have d6 : w2.cell? ⟨W.heap.size, 6, none⟩ = some (.int .u32 a6) := pw_cell_below B2.out (pw_cell_below B1.out (by simp))
  go_wp2_with fail
  go_region_held3 (fun w' => w'.cell? ⟨W.heap.size, 0, none⟩ = some (.int .u32 a0) ∧ w'.cell? ⟨W.heap.size, 1, none⟩ = some (.int .u32 a1) ∧ w'.cell? ⟨W.heap.size, 2, none⟩ = some (.int .u32 a2) ∧ w'.cell? ⟨W.heap.size, 3, none⟩ = some (.int .u32 a3) ∧ w'.cell? ⟨W.heap.size, 4, none⟩ = some (.int .u32 a4) ∧ w'.cell? ⟨W.heap.size, 5, none⟩ = some (.int .u32 a5) ∧ w'.cell? ⟨W.heap.size, 6, none⟩ = some (.int .u32 a6) ∧ Below W.heap.size W w') (first | (go_split_ands; (repeat' apply And.intro) <;> (first | exact pw_cell_below hb (by assumption) | exact below_on (by assumption) hb)) | ((repeat' apply And.intro) <;> (first | exact Below.drew C2.out | go_keep))) (first | (go_at_call 38; (with_reducible refine (trap_Wakes.calls _ _ _ _ _ _ _ _ _ _ A2.out).mono ?_); rintro e w' ⟨rfl, hb⟩) | (go_at_call 39; (with_reducible refine (A4.out _).mono ?_); rintro e w' ⟨rfl, hb⟩) | (go_at_call 19; (with_reducible refine (mimesislaw17_awake.calls _ _ _ A9.out).mono ?_); rintro e w' ⟨rfl, hb⟩))
  all_goals go_wp2
  all_goals go_ret
  all_goals (go_split_ands; exact ⟨rfl, by assumption⟩)

end Go.Proofs.Ytcnohkakklaejaa.TrapHearsWalk
