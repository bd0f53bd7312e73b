/- A value argument that is an array or a struct of whole numbers, laid open: its numbers, each fitting its kind. -/
import Derived.WalkKit
import Derived.ProofKit
import Derived.OpenShut
import Derived.Lib.SmallJoins
namespace Go.Proofs.Ytfnbpmkbjbibkaa
open Go Go.ChangeShapes Go.WideShapes Go.ChangeAt Go.RowKit Go.Joins Go.Deep
set_option linter.unusedVariables false

section
variable {H : Type} {enc : TypeId × Value → H} {P : Program} {w : World} {base : Nat} {spare : Nat → Bool} {held : Bool} {r : Reach} {b0 : Nat} {t e : TypeId} {k : IntKind} {v : Value} {d : DataW H} {p : List MemPlace}

theorem okWide_array {n : Nat} (ht : P.underlying t = some (.array n e)) (h : Value.okWide P w r b0 t v) : ∃ cs, v = .agg cs ∧ cs.size = P.cellsOf t := by
  unfold Value.okWide at h
  rw [ht] at h
  obtain ⟨cs, hv, hs, _⟩ := h
  exact ⟨cs, hv, hs⟩

theorem arr_cell {n fuel i : Nat} {cs : List Value} {c : Value} {x : DataW H × List MemPlace} (ht : P.underlying t = some (.array n e)) (he : P.underlying e = some (.int k)) (hce : P.cellsOf e = 1)
    (h : DataW.trod enc P w base spare held fuel t cs = some x) (hi : i < n) (hc : cs[i]? = some c) : ∃ a : Int, c = .int k a ∧ (Lit.int k a).wf = true := by
  obtain ⟨xs, m, _, _, hl, hn, hg⟩ := DataW.trod_array ht h
  have h1 := hg i hi
  rw [hce, Nat.mul_one] at h1
  have hlt : i < cs.length := (List.getElem?_eq_some_iff.1 hc).1
  have h2 : (cs.drop i).take 1 = [c] := by
    rw [List.drop_eq_getElem_cons hlt]
    simp only [List.take_succ_cons, List.take_zero, List.cons.injEq, and_true]
    exact (List.getElem?_eq_some_iff.1 hc).2
  rw [h2, List.getElem?_eq_getElem (by omega)] at h1
  obtain ⟨a, e0, _, wa⟩ := DataW.trod_int he h1
  simp at e0
  exact ⟨a, e0, wa⟩

theorem open_arr2 (ht : P.underlying t = some (.array 2 e)) (he : P.underlying e = some (.int k)) (hce : P.cellsOf e = 1) (hC : P.cellsOf t = 2)
    (hv : Value.okWide P w r b0 t v) (h : DataW.Trod enc P w base spare held t v d p) :
    ∃ a b : Int, v = .agg #[.int k a, .int k b] ∧ (Lit.int k a).wf = true ∧ (Lit.int k b).wf = true := by
  obtain ⟨cs, rfl, hsz⟩ := okWide_array ht hv
  obtain ⟨c0, c1, rfl⟩ := array2 (hsz.trans hC)
  obtain ⟨fuel, hf⟩ := h
  obtain ⟨a, rfl, wa⟩ := arr_cell (i := 0) (c := c0) ht he hce hf (by omega) rfl
  obtain ⟨b, rfl, wb⟩ := arr_cell (i := 1) (c := c1) ht he hce hf (by omega) rfl
  exact ⟨a, b, rfl, wa, wb⟩

theorem open_arr3 (ht : P.underlying t = some (.array 3 e)) (he : P.underlying e = some (.int k)) (hce : P.cellsOf e = 1) (hC : P.cellsOf t = 3)
    (hv : Value.okWide P w r b0 t v) (h : DataW.Trod enc P w base spare held t v d p) :
    ∃ a b c : Int, v = .agg #[.int k a, .int k b, .int k c] ∧ (Lit.int k a).wf = true ∧ (Lit.int k b).wf = true ∧ (Lit.int k c).wf = true := by
  obtain ⟨cs, rfl, hsz⟩ := okWide_array ht hv
  obtain ⟨c0, c1, c2, rfl⟩ := array3 (hsz.trans hC)
  obtain ⟨fuel, hf⟩ := h
  obtain ⟨a, rfl, wa⟩ := arr_cell (i := 0) (c := c0) ht he hce hf (by omega) rfl
  obtain ⟨b, rfl, wb⟩ := arr_cell (i := 1) (c := c1) ht he hce hf (by omega) rfl
  obtain ⟨c, rfl, wc⟩ := arr_cell (i := 2) (c := c2) ht he hce hf (by omega) rfl
  exact ⟨a, b, c, rfl, wa, wb, wc⟩

theorem array7 {α : Type} {cs : Array α} (h : cs.size = 7) : ∃ c0 c1 c2 c3 c4 c5 c6, cs = #[c0, c1, c2, c3, c4, c5, c6] := by
  obtain ⟨l⟩ := cs
  match l, h with
  | [c0, c1, c2, c3, c4, c5, c6], _ => exact ⟨c0, c1, c2, c3, c4, c5, c6, rfl⟩

/-- One cell of a struct of one-cell fields. -/
theorem struct_cell {fs : Array Field} {f : Field} {fuel i : Nat} {cs : List Value} {c : Value} {x : DataW H × List MemPlace} (hs : P.underlying t = some (.struct fs)) (hone : oneCellFields P fs = true)
    (h : DataW.trod enc P w base spare held fuel t cs = some x) (hf : fs[i]? = some f) (hc : cs[i]? = some c) : ∃ (n : Nat) (y : DataW H × List MemPlace), DataW.trod enc P w base spare held n f.type [c] = some y := by
  obtain ⟨xs, n, _, _, hl, hlen, hg⟩ := DataW.trod_struct hs h
  obtain ⟨o, q⟩ := hone_of hone i f hf
  have h1 := hg i f hf
  have hlt : i < cs.length := (List.getElem?_eq_some_iff.1 hc).1
  have hi : i < fs.size := (Array.getElem?_eq_some_iff.1 hf).1
  have h2 : (cs.drop i).take 1 = [c] := by
    rw [List.drop_eq_getElem_cons hlt]
    simp only [List.take_succ_cons, List.take_zero, List.cons.injEq, and_true]
    exact (List.getElem?_eq_some_iff.1 hc).2
  rw [o, q, h2, List.getElem?_eq_getElem (by omega)] at h1
  exact ⟨n, _, h1⟩
theorem struct_int {fs : Array Field} {f : Field} {fuel i : Nat} {cs : List Value} {c : Value} {x : DataW H × List MemPlace} (hs : P.underlying t = some (.struct fs)) (hone : oneCellFields P fs = true)
    (h : DataW.trod enc P w base spare held fuel t cs = some x) (hf : fs[i]? = some f) (he : P.underlying f.type = some (.int k)) (hc : cs[i]? = some c) : ∃ a : Int, c = .int k a ∧ (Lit.int k a).wf = true := by
  obtain ⟨n, y, h1⟩ := struct_cell hs hone h hf hc
  obtain ⟨a, e0, _, wa⟩ := DataW.trod_int he h1
  simp at e0
  exact ⟨a, e0, wa⟩

/-- Seven words. -/
theorem open_csrs {f0 f1 f2 f3 f4 f5 f6 : Field} (hs : P.underlying t = some (.struct #[f0, f1, f2, f3, f4, f5, f6])) (hone : oneCellFields P #[f0, f1, f2, f3, f4, f5, f6] = true) (hC : P.cellsOf t = 7)
    (k0 : P.underlying f0.type = some (.int k)) (k1 : P.underlying f1.type = some (.int k)) (k2 : P.underlying f2.type = some (.int k)) (k3 : P.underlying f3.type = some (.int k)) (k4 : P.underlying f4.type = some (.int k)) (k5 : P.underlying f5.type = some (.int k)) (k6 : P.underlying f6.type = some (.int k))
    (hv : Value.okWide P w r b0 t v) (h : DataW.Trod enc P w base spare held t v d p) :
    ∃ x0 x1 x2 x3 x4 x5 x6 : Int, v = .agg #[.int k x0, .int k x1, .int k x2, .int k x3, .int k x4, .int k x5, .int k x6] ∧ (Lit.int k x0).wf = true ∧ (Lit.int k x1).wf = true ∧ (Lit.int k x2).wf = true ∧ (Lit.int k x3).wf = true ∧ (Lit.int k x4).wf = true ∧ (Lit.int k x5).wf = true ∧ (Lit.int k x6).wf = true := by
  obtain ⟨cs, rfl, hsz⟩ := okWide_struct hs hv
  obtain ⟨c0, c1, c2, c3, c4, c5, c6, rfl⟩ := array7 (hsz.trans hC)
  obtain ⟨fuel, hf⟩ := h
  obtain ⟨x0, rfl, w0⟩ := struct_int (i := 0) (c := c0) hs hone hf rfl k0 rfl
  obtain ⟨x1, rfl, w1⟩ := struct_int (i := 1) (c := c1) hs hone hf rfl k1 rfl
  obtain ⟨x2, rfl, w2⟩ := struct_int (i := 2) (c := c2) hs hone hf rfl k2 rfl
  obtain ⟨x3, rfl, w3⟩ := struct_int (i := 3) (c := c3) hs hone hf rfl k3 rfl
  obtain ⟨x4, rfl, w4⟩ := struct_int (i := 4) (c := c4) hs hone hf rfl k4 rfl
  obtain ⟨x5, rfl, w5⟩ := struct_int (i := 5) (c := c5) hs hone hf rfl k5 rfl
  obtain ⟨x6, rfl, w6⟩ := struct_int (i := 6) (c := c6) hs hone hf rfl k6 rfl
  exact ⟨x0, x1, x2, x3, x4, x5, x6, rfl, w0, w1, w2, w3, w4, w5, w6⟩
end

/-- A slice of whole numbers that came in: it is nil; or it leads to a row of 'cap' cells, the numbers 'zs' (the first 'len' are its elements, the rest its spare room), each fitting its kind. -/
def IsRow (k : IntKind) (w : World) (a : Option Addr) (len cap : Nat) (zs : List Int) : Prop :=
  (a = none ∧ len = 0 ∧ cap = 0 ∧ zs = []) ∨
  ∃ x, a = some x ∧ len ≤ cap ∧ cap ≤ maxLen ∧ zs.length = cap ∧ (∀ i, i < zs.length → w.cell? (x.add i) = some (.int k (zs.getD i 0))) ∧ ∀ n ∈ zs, (Lit.int k n).wf = true

end Go.Proofs.Ytfnbpmkbjbibkaa
