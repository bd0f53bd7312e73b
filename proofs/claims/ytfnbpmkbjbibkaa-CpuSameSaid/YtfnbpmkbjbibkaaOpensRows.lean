/- A value argument that is a slice of structs of whole numbers, laid open: its numbers, each fitting its kind. -/
import Derived.WalkKit
import Derived.ProofKit
import Derived.OpenShut
import Derived.Deep.Slices
import Derived.Deep.Fields
import Derived.ChangeSame
import Derived.Test.YtfnbpmkbjbibkaaWWords
namespace Go.Proofs.Ytfnbpmkbjbibkaa
open Go Go.ChangeShapes Go.WideShapes Go.ChangeAt Go.RowKit Go.Deep Go.Proofs.YtfnbpmkbjbibkaaW.PrintWords
set_option linter.unusedVariables false

section
variable {H : Type} {enc : TypeId × Value → H} {P : Program} {w : World} {base : Nat} {spare : Nat → Bool} {held : Bool}

theorem open_slice_fields {t e : TypeId} {fs : Array Field} {fuel : Nat} {cs : List Value} {x : DataW H × List MemPlace} (ht : P.underlying t = some (.slice e)) (he : P.underlying e = some (.struct fs))
    (hone : oneCellFields P fs = true) (hC : P.cellsOf e = fs.size) (h : DataW.trod enc P w base spare held fuel t cs = some x) :
    (cs = [.slice none 0 0] ∧ x = (.nil, [])) ∨
    ∃ (a : Addr) (len cap m : Nat), cs = [.slice (some a) len cap] ∧ base ≤ a.block ∧ len ≤ cap ∧ cap ≤ maxLen ∧ m = (if spare a.block then cap else len) ∧
      ∀ i, i < m → ∃ (n : Nat), ∀ (j : Nat) (f : Field), fs[j]? = some f → ∃ (v : Value) (y : DataW H × List MemPlace), w.cell? (a.add (i * fs.size + j)) = some v ∧ DataW.trod enc P w base spare held n f.type [v] = some y := by
  rcases open_slice ht h with h0 | ⟨a, len, cap, m, n, D, Pl, hcs, hb, hl, hm, hmm, hx, hi⟩
  · exact .inl h0
  · refine .inr ⟨a, len, cap, m, hcs, hb, hl, hm, hmm, fun i him => ?_⟩
    obtain ⟨cs', hc, ht'⟩ := hi i him
    rw [hC] at hc
    obtain ⟨ys, n', hn', hy, hlen, hyl, hf⟩ := DataW.trod_struct he ht'
    obtain ⟨_, hcl, hat⟩ := World.cells?_some hc
    refine ⟨n', fun j f hj => ?_⟩
    obtain ⟨ho, hk⟩ := hone_of hone j f hj
    have hjl : j < fs.size := (Array.getElem?_eq_some_iff.1 hj).1
    have hcell := hat j hjl
    have hv : cs'[j]? = some (cs'[j]'(by omega)) := List.getElem?_eq_getElem (by omega)
    have h1 := hf j f hj
    rw [ho, hk] at h1
    have hone' : (cs'.drop j).take 1 = [cs'[j]'(by omega)] := by
      rw [List.drop_eq_getElem_cons (by omega)]
      rfl
    rw [hone'] at h1
    have hys : ys[j]? = some (ys[j]'(by omega)) := List.getElem?_eq_getElem (by omega)
    refine ⟨_, _, ?_, h1.trans hys⟩
    rw [← Go.Deep.add_add, hcell, hv]

/-- A slice of structs of whole numbers, of the kinds ks. -/
def IsRows (ks : List IntKind) (w : World) (A : Option Addr) (len cap : Nat) (f : Nat → Nat → Int) : Prop :=
  (A = none ∧ len = 0 ∧ cap = 0) ∨ ∃ x, A = some x ∧ len ≤ cap ∧ cap ≤ maxLen ∧ ∀ i, i < cap → ∀ j k, ks[j]? = some k → w.cell? (x.add (i * ks.length + j)) = some (.int k (f i j)) ∧ (Lit.int k (f i j)).wf = true

/-- Are the fields whole numbers of these kinds? -/
def kindsFit (P : Program) (fs : Array Field) (ks : List IntKind) : Bool := (List.range ks.length).all fun j => match fs[j]?, ks[j]? with
  | some f, some k => match P.underlying f.type with
    | some (.int k') => decide (k' = k)
    | _ => false
  | _, _ => false
theorem kindsFit_of {fs : Array Field} {ks : List IntKind} (h : kindsFit P fs ks = true) (j : Nat) (k : IntKind) (hk : ks[j]? = some k) : ∃ f, fs[j]? = some f ∧ P.underlying f.type = some (.int k) := by
  unfold kindsFit at h
  rw [List.all_eq_true] at h
  have hj : j < ks.length := (List.getElem?_eq_some_iff.1 hk).1
  have := h j (List.mem_range.2 hj)
  rw [hk] at this
  cases hf : fs[j]? with
  | none => rw [hf] at this; cases this
  | some f =>
    rw [hf] at this
    simp only at this
    refine ⟨f, rfl, ?_⟩
    split at this
    · rename_i k' hu
      rw [hu, of_decide_eq_true this]
    · cases this

theorem open_rows {t e : TypeId} {fs : Array Field} {fuel : Nat} {A : Option Addr} {len cap : Nat} {x : DataW H × List MemPlace} (ks : List IntKind) (ht : P.underlying t = some (.slice e)) (he : P.underlying e = some (.struct fs))
    (hone : oneCellFields P fs = true) (hC : P.cellsOf e = fs.size) (hfit : kindsFit P fs ks = true) (hsz : fs.size = ks.length) (h : DataW.trod enc P w base (fun _ => true) held fuel t [.slice A len cap] = some x) : ∃ f, IsRows ks w A len cap f := by
  rcases open_slice_fields ht he hone hC h with ⟨hcs, _⟩ | ⟨a, l, c, m, hcs, _, hl, hm, hmm, hi⟩
  · simp at hcs
    exact ⟨fun _ _ => 0, .inl hcs⟩
  · simp at hcs
    obtain ⟨rfl, rfl, rfl⟩ := hcs
    simp only [if_true] at hmm
    subst hmm
    have hex : ∀ i j, ∃ z : Int, i < m → ∀ k, ks[j]? = some k → w.cell? (a.add (i * ks.length + j)) = some (.int k z) ∧ (Lit.int k z).wf = true := by
      intro i j
      by_cases him : i < m
      · cases hk : ks[j]? with
        | none => exact ⟨0, fun _ k hk' => by cases hk'⟩
        | some k =>
          obtain ⟨f, hf, hu⟩ := kindsFit_of hfit j k hk
          obtain ⟨n, hn⟩ := hi i him
          obtain ⟨v, y, hc, hy⟩ := hn j f hf
          obtain ⟨z, hz, _, hw⟩ := DataW.trod_int hu hy
          simp at hz
          subst hz
          refine ⟨z, fun _ k' hk' => ?_⟩
          cases hk'
          rw [hsz] at hc
          exact ⟨hc, hw⟩
      · exact ⟨0, fun h => absurd h him⟩
    refine ⟨fun i j => Classical.choose (hex i j), .inr ⟨a, rfl, hl, hm, fun i him j k hk => ?_⟩⟩
    exact Classical.choose_spec (hex i j) him k hk
end

theorem IsRows.below {ks : List IntKind} {w w' : World} {A : Option Addr} {len cap : Nat} {f : Nat → Nat → Int} (h : IsRows ks w A len cap f) (hk : ks ≠ []) (hb : Below w.heap.size w w') : IsRows ks w' A len cap f := by
  rcases h with h | ⟨x, rfl, hl, hm, hc⟩
  · exact .inl h
  · refine .inr ⟨x, rfl, hl, hm, fun i hi j k hj => ?_⟩
    obtain ⟨h1, h2⟩ := hc i hi j k hj
    exact ⟨pw_cell_below hb h1, h2⟩
theorem IsRows.at_ {ks : List IntKind} {w : World} {A : Option Addr} {len cap : Nat} {f : Nat → Nat → Int} (h : IsRows ks w A len cap f) {i : Nat} (hi : i < len) : ∃ x, A = some x ∧ ∀ j k, ks[j]? = some k → w.cell? (x.add (i * ks.length + j)) = some (.int k (f i j)) ∧ (Lit.int k (f i j)).wf = true := by
  rcases h with ⟨_, rfl, _⟩ | ⟨x, rfl, hl, hm, hc⟩
  · omega
  · exact ⟨x, rfl, fun j k hj => hc i (by omega) j k hj⟩
theorem IsRows.le {ks : List IntKind} {w : World} {A : Option Addr} {len cap : Nat} {f : Nat → Nat → Int} (h : IsRows ks w A len cap f) : len ≤ cap ∧ cap ≤ maxLen := by
  rcases h with ⟨_, rfl, rfl⟩ | ⟨x, rfl, hl, hm, hc⟩
  · exact ⟨Nat.le_refl _, by decide⟩
  · exact ⟨hl, hm⟩
end Go.Proofs.Ytfnbpmkbjbibkaa
