/- Below over draws; Drawn0 out of an equation. -/
import Derived.Test.YtfnbpmkbjbibkaaOnly
namespace Go.Proofs.Ytfnbpmkbjbibkaa
open Go Go.RowKit Go.Proofs.YtfnbpmkbjbibkaaW.PrintWords
theorem drawn_below' {W w w' : World} (h : Below W.heap.size W w) (d : Drawn0 w w') : Below W.heap.size W w' := by
  obtain ⟨⟨n, rfl⟩⟩ := d
  exact pw_below_drewN h n
theorem drawn_eq {w w' : World} (h : w = w') : Drawn0 w w' := h ▸ Drawn0.refl w
theorem eqD {P : Program} {f : FuncId} {args : Array Value} {w : World} {x : Ending} (h : Calls P f args w fun e w' => e = x ∧ w = w') : Calls P f args w fun e w' => e = x ∧ Drawn0 w w' := h.mono fun _ _ ⟨a, b⟩ => ⟨a, drawn_eq b⟩
end Go.Proofs.Ytfnbpmkbjbibkaa
