/- A struct of five one-cell fields that came in by value. -/
import Derived.Test.YtfnbpmkbjbibkaaDoorOpens
namespace Go.Proofs.YtfnbpmkbjbibkaaDoor
open Go Go.ChangeShapes Go.WideShapes Go.ChangeAt Go.RowKit Go.Joins Go.Deep
set_option linter.unusedVariables false
section
variable {H : Type} {enc : TypeId × Value → H} {P : Program} {w : World} {base : Nat} {spare : Nat → Bool} {held : Bool} {r : Reach} {b0 : Nat} {t e : TypeId} {k : IntKind} {v : Value} {d : DataW H} {p : List MemPlace}
theorem array5 {α : Type} {cs : Array α} (h : cs.size = 5) : ∃ c0 c1 c2 c3 c4, cs = #[c0, c1, c2, c3, c4] := by
  obtain ⟨l⟩ := cs
  match l, h with
  | [c0, c1, c2, c3, c4], _ => exact ⟨c0, c1, c2, c3, c4, rfl⟩
theorem struct_bool {fs : Array Field} {f : Field} {fuel i : Nat} {cs : List Value} {c : Value} {x : DataW H × List MemPlace} (hs : P.underlying t = some (.struct fs)) (hone : oneCellFields P fs = true)
    (h : DataW.trod enc P w base spare held fuel t cs = some x) (hf : fs[i]? = some f) (he : P.underlying f.type = some .bool) (hc : cs[i]? = some c) : ∃ a : Bool, c = .bool a := by
  obtain ⟨n, y, h1⟩ := struct_cell hs hone h hf hc
  obtain ⟨a, e0, _⟩ := DataW.trod_bool he h1
  simp at e0
  exact ⟨a, e0⟩
theorem open_set5 {f0 f1 f2 f3 f4 : Field} (hs : P.underlying t = some (.struct #[f0, f1, f2, f3, f4])) (hone : oneCellFields P #[f0, f1, f2, f3, f4] = true) (hC : P.cellsOf t = 5)
    (k0 : P.underlying f0.type = some (.int .u32)) (k1 : P.underlying f1.type = some (.int .i64)) (k2 : P.underlying f2.type = some (.int .i64)) (k3 : P.underlying f3.type = some .bool) (k4 : P.underlying f4.type = some (.int .i64))
    (hv : Value.okWide P w r b0 t v) (h : DataW.Trod enc P w base spare held t v d p) :
    ∃ (x0 x1 x2 : Int) (x3 : Bool) (x4 : Int), v = .agg #[.int .u32 x0, .int .i64 x1, .int .i64 x2, .bool x3, .int .i64 x4] ∧ (Lit.int .u32 x0).wf = true ∧ (Lit.int .i64 x1).wf = true ∧ (Lit.int .i64 x2).wf = true ∧ (Lit.int .i64 x4).wf = true := by
  obtain ⟨cs, rfl, hsz⟩ := okWide_struct hs hv
  obtain ⟨c0, c1, c2, c3, c4, rfl⟩ := array5 (hsz.trans hC)
  obtain ⟨fuel, hf⟩ := h
  obtain ⟨x0, rfl, w0⟩ := struct_int (i := 0) (c := c0) hs hone hf rfl k0 rfl
  obtain ⟨x1, rfl, w1⟩ := struct_int (i := 1) (c := c1) hs hone hf rfl k1 rfl
  obtain ⟨x2, rfl, w2⟩ := struct_int (i := 2) (c := c2) hs hone hf rfl k2 rfl
  obtain ⟨x3, rfl⟩ := struct_bool (i := 3) (c := c3) hs hone hf rfl k3 rfl
  obtain ⟨x4, rfl, w4⟩ := struct_int (i := 4) (c := c4) hs hone hf rfl k4 rfl
  exact ⟨x0, x1, x2, x3, x4, rfl, w0, w1, w2, w4⟩
end
end Go.Proofs.YtfnbpmkbjbibkaaDoor
