/- Rows of scalars that are read and lie apart from some blocks. -/
import Derived.Test.YtdalboofhckobaaRamF
namespace Go.Proofs.Ytdalboofhckobaa
open Go Go.RowKit Go.Proofs.YtdalboofhckobaaW.PrintWords
set_option linter.unusedVariables false
set_option linter.unusedSimpArgs false

theorem vs_block_add (a : Addr) (n : Nat) : (a.add n).block = a.block := by unfold Addr.add; split <;> rfl
/-- The slice at A, of capacity c, reads as the scalars q (each written enc), and lies in no block that X holds of. -/
def VS {α : Type} (enc : α → Value) (w : World) (X : Nat → Prop) (A : Option Addr) (c : Nat) (q : List α) : Prop :=
  q.length ≤ c ∧ q.length ≤ 9223372036854775807 ∧ (q ≠ [] → ∃ ad, A = some ad ∧ ¬ X ad.block ∧ ∀ i p, q[i]? = some p → w.cell? (ad.add i) = some (enc p))
section
variable {α : Type} {enc : α → Value} {w w' : World} {X Y : Nat → Prop} {A : Option Addr} {c : Nat} {q : List α}
theorem VS.le (h : VS enc w X A c q) : q.length ≤ c := h.1
theorem VS.move (h : VS enc w X A c q) (hm : ∀ k, k < w.heap.size → ¬ X k → w'.heap[k]? = w.heap[k]?) : VS enc w' X A c q := by
  refine ⟨h.1, h.2.1, fun hq => ?_⟩
  obtain ⟨ad, rfl, hX, hc⟩ := h.2.2 hq
  refine ⟨ad, rfl, hX, fun i p hp => ?_⟩
  have h1 := hc i p hp
  have h2 := World.block_lt_of_cell? w _ h1
  rw [← h1]
  exact World.cell?_of_block (hm _ h2 (by rw [vs_block_add]; exact hX))
theorem VS.below (h : VS enc w X A c q) (k : Below w.heap.size w w') : VS enc w' X A c q := h.move fun i hi _ => k.block i hi
theorem VS.drawn (h : VS enc w X A c q) (k : Drawn0 w w') : VS enc w' X A c q := h.below k.below
theorem VS.onlyP (h : VS enc w X A c q) (k : OnlyP X w w') : VS enc w' X A c q := h.move fun i hi hn => k.block i hi hn
theorem VS.only {B : Nat} (h : VS enc w X A c q) (k : Only B w w') (hB : X B) : VS enc w' X A c q := h.onlyP (.of_only k hB)
theorem VS.wide (h : VS enc w X A c q) (hY : ∀ k, Y k → X k ∨ w.heap.size ≤ k) : VS enc w Y A c q := by
  refine ⟨h.1, h.2.1, fun hq => ?_⟩
  obtain ⟨ad, rfl, hX, hc⟩ := h.2.2 hq
  refine ⟨ad, rfl, fun hy => ?_, hc⟩
  obtain ⟨x, q', rfl⟩ := List.exists_cons_of_ne_nil hq
  have h2 := World.block_lt_of_cell? w _ (hc 0 x rfl)
  rw [vs_block_add] at h2
  rcases hY _ hy with h | h
  · exact hX h
  · omega
theorem VS.C {h1 : ∀ x, (enc x).oneCell' = true} (h : VS enc w X A c q) : (Kd.scalar enc h1).C w A q.length q := by
  refine ⟨rfl, h.2.1, fun hq => ?_⟩
  obtain ⟨ad, rfl, hX, hc⟩ := h.2.2 (by rintro rfl; simp at hq)
  refine ⟨ad, rfl, fun i p hp => ⟨[enc p], rfl, rfl, fun j u hu => ?_⟩⟩
  have hi : j = 0 ∧ u = enc p := by
    cases j with
    | zero => simp at hu; exact ⟨rfl, hu.symm⟩
    | succ m => simp at hu
  obtain ⟨rfl, rfl⟩ := hi
  show w.cell? (ad.add (i * 1 + 0)) = _
  rw [show i * 1 + 0 = i by omega]
  exact hc i p hp
theorem VS.of_C {h1 : ∀ x, (enc x).oneCell' = true} (h : (Kd.scalar enc h1).C w A q.length q) (hc : q.length ≤ c) (hX : ∀ ad, A = some ad → q ≠ [] → ¬ X ad.block) : VS enc w X A c q := by
  obtain ⟨_, hm, hr⟩ := h
  refine ⟨hc, hm, fun hq => ?_⟩
  obtain ⟨ad, rfl, hcs⟩ := hr (by cases q with | nil => exact absurd rfl hq | cons a b => simp)
  refine ⟨ad, rfl, hX _ rfl hq, fun i p hp => ?_⟩
  obtain ⟨cs, hlen, hK, hcc⟩ := hcs i p hp
  have hK' : cs = [enc p] := hK
  subst hK'
  have := hcc 0 _ rfl
  have e : i * (Kd.scalar enc h1).sz + 0 = i := by show i * 1 + 0 = i; omega
  rwa [e] at this
/-- What was made anew lies apart from all that was there. -/
theorem VS.of_R {h1 : ∀ x, (enc x).oneCell' = true} {e base : Nat} {ok : Nat → Prop} {v : Value} (h : (Kd.scalar enc h1).R e w base ok v q) (hX : ∀ k, X k → k < base) : ∃ A c, v = .slice A q.length c ∧ VS enc w X A c q := by
  obtain ⟨A, c, rfl, hl, hC⟩ := Kd.R_reads h
  refine ⟨A, c, rfl, VS.of_C hC hl fun ad ha hq hx => ?_⟩
  subst ha
  have hb := (Kd.R_bound h).1 ad.block (by simp [Value.ownBlock])
  have := hX _ hx
  omega
theorem VS.get (h : VS enc w X A c q) {i : Nat} {p : α} (hp : q[i]? = some p) : ∃ ad, A = some ad ∧ w.cell? (ad.add i) = some (enc p) := by
  obtain ⟨ad, rfl, _, hc⟩ := h.2.2 (by rintro rfl; simp at hp)
  exact ⟨ad, rfl, hc i p hp⟩
end
/-- A whole block of scalars, as a row that is read. -/
theorem VS.of_block {α : Type} {enc : α → Value} {w : World} {X : Nat → Prop} {g t : Nat} {q : List α} (h : w.heap[g]? = some (.cells (q.map enc).toArray t (0, 0))) (hX : ¬ X g) (hm : q.length ≤ 9223372036854775807) : VS enc w X (some ⟨g, 0, none⟩) q.length q := by
  refine ⟨Nat.le_refl _, hm, fun hq => ⟨_, rfl, hX, fun i p hp => ?_⟩⟩
  rw [show (⟨g, 0, none⟩ : Addr).add i = ⟨g, i, none⟩ from add_plain g i, blk_cell h i]
  simp [hp]
end Go.Proofs.Ytdalboofhckobaa
