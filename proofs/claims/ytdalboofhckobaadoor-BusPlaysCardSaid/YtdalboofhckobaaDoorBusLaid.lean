/- The ports' table out of the row's condition; a start that meets it. -/
import Derived.Test.YtdalboofhckobaaDoorRows
import Derived.Test.YtdalboofhckobaaDoorBusE
import Derived.ProofKit
import Derived.LaidMore
import Derived.OpenShut
import Derived.Lib.LaidTab
import Derived.Stop.Joined
namespace Go.Proofs.YtdalboofhckobaaDoor
open Go Go.ChangeShapes Go.WideShapes Go.ChangeAt Go.RowKit
abbrev laidPorts : List (String × DataW Unit) := [("mimesis/bus.ports", Rows.laid_mimesis_bus_ports)]
theorem gPorts : Tryd.prog.globalNamed "mimesis/bus.ports" = some 0 := by kernel_rfl
theorem tPorts : (Tryd.prog.globals[0]?).map (·.type) = some 108 := by kernel_rfl
theorem door_met (os : Os) (args : Array Value) : laidMetH Tryd.prog laidPorts ((World.doorLaid Tryd.prog 400 os).forCall (fun _ _ => 0) ⟨#[], args, []⟩).memory :=
  laidMetH_of_parts3 (fuel := 8) (laidMet_of_run' 8 (by kernel_rfl) (by kernel_rfl)) (by kernel_rfl) (by kernel_rfl)
theorem c_u32 : Tryd.prog.cellsOf 22 = 1 := by kernel_rfl
theorem c_pair : Tryd.prog.cellsOf 107 = 2 := by kernel_rfl
theorem c_ports : Tryd.prog.cellsOf 108 = 10 := by kernel_rfl
set_option maxRecDepth 100000 in
theorem ports_of_laid {W : World} (h : laidMetH Tryd.prog laidPorts W) : Ports W := by
  rw [MakeChecks.laidMetH_plain _ _ _ (by kernel_rfl)] at h
  obtain ⟨ps, ⟨g0, t0, cs0, f0, p0, q0, hg0, ht0, hv0, hd0, _, _⟩, _, _⟩ := h
  obtain rfl := Option.some.inj (gPorts.symm.trans hg0)
  obtain rfl := Option.some.inj (tPorts.symm.trans ht0)
  obtain ⟨xs, m1, rfl, hx1, hlen, hn5, hel⟩ := DataW.trod_array Tryd.underlying108 hd0
  rw [c_ports] at hlen
  rw [c_pair] at hel
  have hc : ∀ i, W.cell? ⟨0, i, none⟩ = cs0[i]? := fun i => World.var?_cell hg0 hv0 i
  obtain ⟨l⟩ := cs0
  match xs, hn5, hx1, hel with
  | [x0, x1, x2, x3, x4], _, hx1, hel =>
    match l, hlen with
    | [c0, c1, c2, c3, c4, c5, c6, c7, c8, c9], _ =>
      simp only [Prod.mk.injEq, DataW.agg.injEq, Rows.laid_mimesis_bus_ports, List.map_cons, List.map_nil, List.cons.injEq] at hx1
      obtain ⟨⟨e0, e1, e2, e3, e4, _⟩, _⟩ := hx1
      have f : ∀ (i : Nat) (cs : List Value) (x : DataW Unit × List MemPlace) (a b : Int), DataW.trod (fun _ => ()) Tryd.prog W 0 (fun _ => true) false m1 107 cs = some x → DataW.agg [.lit (.int .u32 a), .lit (.int .u32 b)] = x.1 → cs = [.int .u32 a, .int .u32 b] := by
        intro i cs x a b h e
        obtain ⟨d, p⟩ := x
        simp only at e
        subst e
        exact Lib.cells_of_tab (zs := [a, b]) Tryd.underlying107 Tryd.underlying22 c_u32 c_pair h
      have h0 := f 0 _ x0 _ _ (hel 0 (by decide)) e0
      have h1 := f 1 _ x1 _ _ (hel 1 (by decide)) e1
      have h2 := f 2 _ x2 _ _ (hel 2 (by decide)) e2
      have h3 := f 3 _ x3 _ _ (hel 3 (by decide)) e3
      have h4 := f 4 _ x4 _ _ (hel 4 (by decide)) e4
      simp at h0 h1 h2 h3 h4
      intro i v hv
      rw [hc i]
      simp only [h0, h1, h2, h3, h4]
      exact hv
end Go.Proofs.YtdalboofhckobaaDoor
