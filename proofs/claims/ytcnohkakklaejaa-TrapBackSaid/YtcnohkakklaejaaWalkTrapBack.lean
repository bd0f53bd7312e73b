/- The walk of TrapBack. -/
import Derived.Test.YtcnohkakklaejaaPTrapBackx
namespace Go.Proofs.Ytcnohkakklaejaa.TrapBackWalk
open Go Go.RowKit Go.Proofs.Ytcnohkakklaejaa.PTrapBack Go.Proofs.YtcnohkakklaejaaW.PrintWords Go.Proofs.YtcnohkakklaejaaW.PrintLast Go.Proofs.YtcnohkakklaejaaW.PrintMore
set_option linter.unusedVariables false
set_option linter.unusedSimpArgs false

theorem below_on {w w1 w2 : World} (h : Below w.heap.size w w1) (k : Below w1.heap.size w1 w2) : Below w.heap.size w w2 := below_then h h.size k

set_option maxHeartbeats 2000000 in
set_option maxRecDepth 100000 in
theorem walk (k : Nat) (a0 a1 a2 a3 a4 a5 a6 pc c tv n x0 y0 at_ hc h0 : Int) (hb : Bool) (W : World) (h1 : trap_Enter.f a0 a1 a2 a3 a4 a5 a6 pc c tv = some (x0, a1, a2, a3, pc, c, tv, at_))
    (h2 : trap_Heard.f x0 a1 a2 a3 pc c tv n = some (h0, false)) (h3 : trap_Return.f x0 a1 a2 a3 pc c tv = some (y0, a1, a2, a3, pc, c, tv, pc))
    (h4 : trap_Heard.f y0 a1 a2 a3 pc c tv n = some (hc, hb)) (h5 : trap_Heard.f a0 a1 a2 a3 a4 a5 a6 n = some (hc, hb)) (h9 : mimesislaw17_awake.f k = some true) :
    Calls Try.prog 10 #[.agg #[.int .u32 a0, .int .u32 a1, .int .u32 a2, .int .u32 a3, .int .u32 a4, .int .u32 a5, .int .u32 a6], .agg #[.int .u32 pc, .int .u32 c, .int .u32 tv], .int .u32 n] W fun e w' => e = .returned (.bool true) ∧ Below W.heap.size W w' := by
  have A1 := Aside0.mk h1; have A2 := Aside0.mk h2; have A3 := Aside0.mk h3; have A4 := Aside0.mk h4; have A5 := Aside0.mk h5; have A9 := Aside0.mk h9
  clear h1 h2 h3 h4 h5 h9
  go_enter Try.func10, Try.ntmps10
  go_wp2_with fail
  refine (trap_Enter.calls _ _ _ _ _ _ _ _ _ _ _ _ _ _ _ _ _ _ _ A1.out).mono ?_
  rintro e w1 ⟨rfl, hb1⟩
  have B1 := Aside0.mk hb1
  have C1 := Aside0.mk (below_on (below_alloc (below_alloc (Below.refl W.heap.size W) _) _) hb1)
  clear hb1
  have d0 : w1.cell? ⟨W.heap.size, 0, none⟩ = some (.int .u32 a0) := pw_cell_below B1.out (by simp)
  have d1 : w1.cell? ⟨W.heap.size, 1, none⟩ = some (.int .u32 a1) := pw_cell_below B1.out (by simp)
  have d2 : w1.cell? ⟨W.heap.size, 2, none⟩ = some (.int .u32 a2) := pw_cell_below B1.out (by simp)
  have d3 : w1.cell? ⟨W.heap.size, 3, none⟩ = some (.int .u32 a3) := pw_cell_below B1.out (by simp)
  have d4 : w1.cell? ⟨W.heap.size, 4, none⟩ = some (.int .u32 a4) := pw_cell_below B1.out (by simp)
  have d5 : w1.cell? ⟨W.heap.size, 5, none⟩ = some (.int .u32 a5) := pw_cell_below B1.out (by simp)
  have d6 : w1.cell? ⟨W.heap.size, 6, none⟩ = some (.int .u32 a6) := pw_cell_below B1.out (by simp)
  have dc : w1.cell? ⟨W.heap.size + 1, 0, none⟩ = some (.int .u32 pc) := pw_cell_below B1.out (by simp)
  have hsz : W.heap.size + 1 < w1.heap.size := by have := B1.out.size; simp at this; omega
  have hsz0 : W.heap.size < w1.heap.size := by omega
  go_wp2_with fail
  refine (trap_Heard.calls _ _ _ _ _ _ _ _ _ _ _ A2.out).mono ?_
  rintro e w2 ⟨rfl, hb2⟩
  have B2 := Aside0.mk hb2
  have C2 := Aside0.mk (below_on (below_alloc C1.out _) hb2)
  have K2 := Aside0.mk (below_on (below_alloc (Below.refl w1.heap.size w1) _) hb2)
  clear hb2
  have e0 : w2.cell? ⟨w1.heap.size, 0, none⟩ = some (.int .u32 x0) := pw_cell_below B2.out (by simp)
  have e1 : w2.cell? ⟨w1.heap.size, 1, none⟩ = some (.int .u32 a1) := pw_cell_below B2.out (by simp)
  have e2 : w2.cell? ⟨w1.heap.size, 2, none⟩ = some (.int .u32 a2) := pw_cell_below B2.out (by simp)
  have e3 : w2.cell? ⟨w1.heap.size, 3, none⟩ = some (.int .u32 a3) := pw_cell_below B2.out (by simp)
  have e4 : w2.cell? ⟨w1.heap.size, 4, none⟩ = some (.int .u32 pc) := pw_cell_below B2.out (by simp)
  have e5 : w2.cell? ⟨w1.heap.size, 5, none⟩ = some (.int .u32 c) := pw_cell_below B2.out (by simp)
  have e6 : w2.cell? ⟨w1.heap.size, 6, none⟩ = some (.int .u32 tv) := pw_cell_below B2.out (by simp)
  replace d0 := pw_cell_below K2.out d0; replace d1 := pw_cell_below K2.out d1; replace d2 := pw_cell_below K2.out d2; replace d3 := pw_cell_below K2.out d3; replace d4 := pw_cell_below K2.out d4; replace d5 := pw_cell_below K2.out d5; replace d6 := pw_cell_below K2.out d6; replace dc := pw_cell_below K2.out dc
  have hsz2 : w1.heap.size < w2.heap.size := by have := B2.out.size; simp at this; omega
  go_wp2_with fail
  refine (trap_Return.calls _ _ _ _ _ _ _ _ _ _ _ _ _ _ _ _ A3.out).mono ?_
  rintro e w3 ⟨rfl, hb3⟩
  have B3 := Aside0.mk hb3
  have C3 := Aside0.mk (below_on C2.out hb3)
  clear hb3 e0 e1 e2 e3 e4 e5 e6
  replace d0 := pw_cell_below B3.out d0; replace d1 := pw_cell_below B3.out d1; replace d2 := pw_cell_below B3.out d2; replace d3 := pw_cell_below B3.out d3; replace d4 := pw_cell_below B3.out d4; replace d5 := pw_cell_below B3.out d5; replace d6 := pw_cell_below B3.out d6; replace dc := pw_cell_below B3.out dc
  have hsz3 : W.heap.size + 1 < w3.heap.size := by have := B3.out.size; omega
  have hsz30 : W.heap.size < w3.heap.size := by omega
  clear hsz2
  go_wp2_with fail
  refine (trap_Heard.calls _ _ _ _ _ _ _ _ _ _ _ A4.out).mono ?_
  rintro e w4 ⟨rfl, hb4⟩
  have C4 := Aside0.mk (below_on (below_alloc C3.out _) hb4)
  have K4 := Aside0.mk (below_on (below_alloc (Below.refl w3.heap.size w3) _) hb4)
  clear hb4
  replace d0 := pw_cell_below K4.out d0; replace d1 := pw_cell_below K4.out d1; replace d2 := pw_cell_below K4.out d2; replace d3 := pw_cell_below K4.out d3; replace d4 := pw_cell_below K4.out d4; replace d5 := pw_cell_below K4.out d5; replace d6 := pw_cell_below K4.out d6; replace dc := pw_cell_below K4.out dc
  clear hsz hsz0 hsz3 hsz30
  go_wp2_with fail
  refine (trap_Heard.calls _ _ _ _ _ _ _ _ _ _ _ A5.out).mono ?_
  rintro e w5 ⟨rfl, hb5⟩
  have B5 := Aside0.mk hb5
  have C5 := Aside0.mk (below_on C4.out hb5)
  clear hb5 d0 d1 d2 d3 d4 d5 d6
  replace dc := pw_cell_below B5.out dc
  go_wp2_with fail
  refine (mimesislaw17_awake.calls _ _ _ A9.out).mono ?_
  rintro e w6 ⟨rfl, hb6⟩
  have C6 := Aside0.mk (below_on C5.out hb6)
  clear hb6
  go_wp2_with fail
  go_ret
  exact ⟨rfl, C6.out⟩

end Go.Proofs.Ytcnohkakklaejaa.TrapBackWalk
