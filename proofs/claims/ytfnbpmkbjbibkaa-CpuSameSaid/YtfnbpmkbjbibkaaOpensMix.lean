/- A value argument that is a slice of structs: whole numbers, and behind them one slice of bytes: laid open. -/
import Derived.ChangeSlices
import Derived.Test.YtfnbpmkbjbibkaaOpensRows
import Derived.Test.YtfnbpmkbjbibkaaOpens
namespace Go.Proofs.Ytfnbpmkbjbibkaa
open Go Go.ChangeShapes Go.WideShapes Go.ChangeAt Go.RowKit Go.Deep Go.Proofs.YtfnbpmkbjbibkaaW.PrintWords
set_option linter.unusedVariables false

/-- A slice of structs of whole numbers, of the kinds ks, each with a slice of bytes behind. -/
def IsMix (ks : List IntKind) (w : World) (A : Option Addr) (len cap : Nat) (f : Nat → Nat → Int) (p : Nat → Option Addr) (n c : Nat → Nat) (b : Nat → List Int) : Prop :=
  (A = none ∧ len = 0 ∧ cap = 0) ∨ ∃ x, A = some x ∧ len ≤ cap ∧ cap ≤ maxLen ∧ ∀ i, i < cap →
    (∀ j k, ks[j]? = some k → w.cell? (x.add (i * (ks.length + 1) + j)) = some (.int k (f i j)) ∧ (Lit.int k (f i j)).wf = true) ∧
    w.cell? (x.add (i * (ks.length + 1) + ks.length)) = some (.slice (p i) (n i) (c i)) ∧ IsRow .u8 w (p i) (n i) (c i) (b i)

section
variable {H : Type} {enc : TypeId × Value → H} {P : Program} {w : World} {base : Nat} {spare : Nat → Bool} {held : Bool}
theorem open_mix {t e tb eb : TypeId} {fs : Array Field} {fl : Field} {fuel : Nat} {A : Option Addr} {len cap : Nat} {x : DataW H × List MemPlace} (ks : List IntKind) (ht : P.underlying t = some (.slice e)) (he : P.underlying e = some (.struct fs))
    (hone : oneCellFields P fs = true) (hC : P.cellsOf e = fs.size) (hfit : kindsFit P fs ks = true) (hsz : fs.size = ks.length + 1) (hl : fs[ks.length]? = some fl) (htb : P.underlying fl.type = some (.slice eb)) (heb : P.underlying eb = some (.int .u8)) (hceb : P.cellsOf eb = 1)
    (h : DataW.trod enc P w base (fun _ => true) held fuel t [.slice A len cap] = some x) : ∃ f p n c b, IsMix ks w A len cap f p n c b := by
  rcases open_slice_fields ht he hone hC h with ⟨hcs, _⟩ | ⟨a, l, cc, m, hcs, _, hl', hm, hmm, hi⟩
  · simp at hcs
    exact ⟨fun _ _ => 0, fun _ => none, fun _ => 0, fun _ => 0, fun _ => [], .inl hcs⟩
  · simp at hcs
    obtain ⟨rfl, rfl, rfl⟩ := hcs
    simp only [if_true] at hmm
    subst hmm
    have hex : ∀ i j, ∃ z : Int, i < m → ∀ k, ks[j]? = some k → w.cell? (a.add (i * (ks.length + 1) + j)) = some (.int k z) ∧ (Lit.int k z).wf = true := by
      intro i j
      by_cases him : i < m
      · cases hk : ks[j]? with
        | none => exact ⟨0, fun _ k hk' => by cases hk'⟩
        | some k =>
          obtain ⟨f, hf, hu⟩ := kindsFit_of hfit j k hk
          obtain ⟨n, hn⟩ := hi i him
          obtain ⟨v, y, hc, hy⟩ := hn j f hf
          obtain ⟨z, hz, _, hw⟩ := DataW.trod_int hu hy
          simp at hz
          subst hz
          refine ⟨z, fun _ k' hk' => ?_⟩
          cases hk'
          rw [hsz] at hc
          exact ⟨hc, hw⟩
      · exact ⟨0, fun h => absurd h him⟩
    have hey : ∀ i, ∃ q : Option Addr × Nat × Nat × List Int, i < m → w.cell? (a.add (i * (ks.length + 1) + ks.length)) = some (.slice q.1 q.2.1 q.2.2.1) ∧ IsRow .u8 w q.1 q.2.1 q.2.2.1 q.2.2.2 := by
      intro i
      by_cases him : i < m
      · obtain ⟨n, hn⟩ := hi i him
        obtain ⟨v, y, hc, hy⟩ := hn ks.length fl hl
        rw [hsz] at hc
        rcases open_ints htb heb hceb hy with ⟨hcs, _⟩ | ⟨x, l, c, zs, hcs, _, hl, hm, hz, _, hcell, hwz⟩
        · simp at hcs
          subst hcs
          exact ⟨(none, 0, 0, []), fun _ => ⟨hc, .inl ⟨rfl, rfl, rfl, rfl⟩⟩⟩
        · simp at hcs
          subst hcs
          exact ⟨(some x, l, c, zs), fun _ => ⟨hc, .inr ⟨_, rfl, hl, hm, by simpa using hz, hcell, hwz⟩⟩⟩
      · exact ⟨(none, 0, 0, []), fun h => absurd h him⟩
    refine ⟨fun i j => Classical.choose (hex i j), fun i => (Classical.choose (hey i)).1, fun i => (Classical.choose (hey i)).2.1, fun i => (Classical.choose (hey i)).2.2.1, fun i => (Classical.choose (hey i)).2.2.2, .inr ⟨a, rfl, hl', hm, fun i him => ⟨fun j k hk => ?_, ?_⟩⟩⟩
    · exact Classical.choose_spec (hex i j) him k hk
    · exact Classical.choose_spec (hey i) him
end

theorem IsRow.below {k : IntKind} {w w' : World} {a : Option Addr} {len cap : Nat} {zs : List Int} (h : IsRow k w a len cap zs) (hb : Below w.heap.size w w') : IsRow k w' a len cap zs := by
  rcases h with h | ⟨x, rfl, h1, h2, h3, h4, h5⟩
  · exact .inl h
  · exact .inr ⟨x, rfl, h1, h2, h3, fun i hi => pw_cell_below hb (h4 i hi), h5⟩
theorem IsMix.at_ {ks : List IntKind} {w : World} {A : Option Addr} {len cap : Nat} {f : Nat → Nat → Int} {p : Nat → Option Addr} {n c : Nat → Nat} {b : Nat → List Int} (h : IsMix ks w A len cap f p n c b) {i : Nat} (hi : i < len) :
    ∃ x, A = some x ∧ (∀ j k, ks[j]? = some k → w.cell? (x.add (i * (ks.length + 1) + j)) = some (.int k (f i j)) ∧ (Lit.int k (f i j)).wf = true) ∧ w.cell? (x.add (i * (ks.length + 1) + ks.length)) = some (.slice (p i) (n i) (c i)) ∧ IsRow .u8 w (p i) (n i) (c i) (b i) := by
  rcases h with ⟨_, rfl, _⟩ | ⟨x, rfl, hl, hm, hc⟩
  · omega
  · exact ⟨x, rfl, hc i (by omega)⟩
theorem IsMix.le {ks : List IntKind} {w : World} {A : Option Addr} {len cap : Nat} {f : Nat → Nat → Int} {p : Nat → Option Addr} {n c : Nat → Nat} {b : Nat → List Int} (h : IsMix ks w A len cap f p n c b) : len ≤ cap ∧ cap ≤ maxLen := by
  rcases h with ⟨_, rfl, rfl⟩ | ⟨x, rfl, hl, hm, hc⟩
  · exact ⟨Nat.le_refl _, by decide⟩
  · exact ⟨hl, hm⟩
theorem IsMix.nil_ {ks : List IntKind} {w : World} {len cap : Nat} {f : Nat → Nat → Int} {p : Nat → Option Addr} {n c : Nat → Nat} {b : Nat → List Int} (h : IsMix ks w none len cap f p n c b) : len = 0 ∧ cap = 0 := by
  rcases h with ⟨_, rfl, rfl⟩ | ⟨x, hx, _⟩
  · exact ⟨rfl, rfl⟩
  · cases hx
theorem IsMix.below {ks : List IntKind} {w w' : World} {A : Option Addr} {len cap : Nat} {f : Nat → Nat → Int} {p : Nat → Option Addr} {n c : Nat → Nat} {b : Nat → List Int} (h : IsMix ks w A len cap f p n c b) (hb : Below w.heap.size w w') : IsMix ks w' A len cap f p n c b := by
  rcases h with h | ⟨x, rfl, h1, h2, h3⟩
  · exact .inl h
  · exact .inr ⟨x, rfl, h1, h2, fun i hi => ⟨fun j k hk => ⟨pw_cell_below hb ((h3 i hi).1 j k hk).1, ((h3 i hi).1 j k hk).2⟩, pw_cell_below hb (h3 i hi).2.1, (h3 i hi).2.2.below hb⟩⟩
end Go.Proofs.Ytfnbpmkbjbibkaa
