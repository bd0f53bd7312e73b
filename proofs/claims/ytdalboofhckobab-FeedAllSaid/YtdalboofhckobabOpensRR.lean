/- A value argument that is a slice of slices of structs of whole numbers, laid open: its numbers, each fitting its kind. -/
import Derived.Test.YtdalboofhckobabOpensRows
namespace Go.Proofs.Ytdalboofhckobab
open Go Go.ChangeShapes Go.WideShapes Go.ChangeAt Go.RowKit Go.Deep Go.Proofs.YtdalboofhckobabW.PrintWords
set_option linter.unusedVariables false

/-- A slice of slices of structs of whole numbers, of the kinds ks. -/
def IsRR (ks : List IntKind) (w : World) (X : Option Addr) (len cap : Nat) (A : Nat → Option Addr) (n c : Nat → Nat) (f : Nat → Nat → Nat → Int) : Prop :=
  (X = none ∧ len = 0 ∧ cap = 0) ∨ ∃ x, X = some x ∧ len ≤ cap ∧ cap ≤ maxLen ∧ ∀ i, i < cap → w.cell? (x.add i) = some (.slice (A i) (n i) (c i)) ∧ IsRows ks w (A i) (n i) (c i) (f i)
section
variable {H : Type} {enc : TypeId × Value → H} {P : Program} {w : World} {base : Nat} {spare : Nat → Bool} {held : Bool}
theorem open_rr {t e1 e : TypeId} {fs : Array Field} {fuel : Nat} {X : Option Addr} {len cap : Nat} {x : DataW H × List MemPlace} (ks : List IntKind) (ht : P.underlying t = some (.slice e1)) (he1 : P.underlying e1 = some (.slice e)) (hC1 : P.cellsOf e1 = 1) (he : P.underlying e = some (.struct fs))
    (hone : oneCellFields P fs = true) (hC : P.cellsOf e = fs.size) (hfit : kindsFit P fs ks = true) (hsz : fs.size = ks.length) (h : DataW.trod enc P w base (fun _ => true) held fuel t [.slice X len cap] = some x) : ∃ A n c f, IsRR ks w X len cap A n c f := by
  rcases open_slice ht h with h0 | ⟨a, l, cc, m, nn, D, Pl, hcs, hb, hl, hm, hmm, hx, hi⟩
  · obtain ⟨hcs, _⟩ := h0
    simp at hcs
    exact ⟨fun _ => none, fun _ => 0, fun _ => 0, fun _ _ _ => 0, .inl hcs⟩
  · simp at hcs
    obtain ⟨rfl, rfl, rfl⟩ := hcs
    simp only [if_true] at hmm
    subst hmm
    have hex : ∀ i, ∃ q : Option Addr × Nat × Nat × (Nat → Nat → Int), i < m → w.cell? (a.add i) = some (.slice q.1 q.2.1 q.2.2.1) ∧ IsRows ks w q.1 q.2.1 q.2.2.1 q.2.2.2 := by
      intro i
      by_cases him : i < m
      · obtain ⟨cs', hc, ht'⟩ := hi i him
        rw [hC1] at hc
        obtain ⟨_, hcl, hat⟩ := World.cells?_some hc
        have h0 := hat 0 (by omega)
        obtain ⟨v, rfl⟩ : ∃ v, cs' = [v] := List.length_eq_one_iff.1 hcl
        have hcell : w.cell? (a.add i) = some v := by
          simp only [Nat.mul_one, List.getElem?_cons_zero] at h0
          rw [← h0]
          simp [Addr.add]
        rcases open_slice_fields he1 he hone hC ht' with ⟨hcs, _⟩ | ⟨x', l', c', m', hcs, _⟩
        · simp at hcs
          subst hcs
          exact ⟨(none, 0, 0, fun _ _ => 0), fun _ => ⟨hcell, .inl ⟨rfl, rfl, rfl⟩⟩⟩
        · simp at hcs
          subst hcs
          obtain ⟨f, hf⟩ := open_rows ks he1 he hone hC hfit hsz ht'
          exact ⟨(some x', l', c', f), fun _ => ⟨hcell, hf⟩⟩
      · exact ⟨(none, 0, 0, fun _ _ => 0), fun h => absurd h him⟩
    refine ⟨fun i => (Classical.choose (hex i)).1, fun i => (Classical.choose (hex i)).2.1, fun i => (Classical.choose (hex i)).2.2.1, fun i => (Classical.choose (hex i)).2.2.2, .inr ⟨a, rfl, hl, hm, fun i him => ?_⟩⟩
    exact Classical.choose_spec (hex i) him
end
section
variable {ks : List IntKind} {w w' : World} {X : Option Addr} {len cap : Nat} {A : Nat → Option Addr} {n c : Nat → Nat} {f : Nat → Nat → Nat → Int}
theorem IsRR.below (h : IsRR ks w X len cap A n c f) (hk : ks ≠ []) (hb : Below w.heap.size w w') : IsRR ks w' X len cap A n c f := by
  rcases h with h | ⟨x, rfl, hl, hm, hc⟩
  · exact .inl h
  · exact .inr ⟨x, rfl, hl, hm, fun i hi => ⟨pw_cell_below hb (hc i hi).1, (hc i hi).2.below hk hb⟩⟩
theorem IsRR.at_ (h : IsRR ks w X len cap A n c f) {i : Nat} (hi : i < len) : ∃ x, X = some x ∧ w.cell? (x.add i) = some (.slice (A i) (n i) (c i)) ∧ IsRows ks w (A i) (n i) (c i) (f i) := by
  rcases h with ⟨_, rfl, _⟩ | ⟨x, rfl, hl, hm, hc⟩
  · omega
  · exact ⟨x, rfl, hc i (by omega)⟩
theorem IsRR.le (h : IsRR ks w X len cap A n c f) : len ≤ cap ∧ cap ≤ maxLen := by
  rcases h with ⟨_, rfl, rfl⟩ | ⟨x, rfl, hl, hm, hc⟩
  · exact ⟨Nat.le_refl _, by decide⟩
  · exact ⟨hl, hm⟩
end
end Go.Proofs.Ytdalboofhckobab
