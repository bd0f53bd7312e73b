/- The statements' own memory (mimesisref10): Store. -/
import Derived.Test.YtdalboofhckobaaRamG
import Derived.Test.YtdalboofhckobaaRegInv
import Derived.Deep.MidRow
import Derived.Test.YtdalboofhckobaaResRow
import Derived.Deep.RegionLawGrows
namespace Go.Proofs.Ytdalboofhckobaa
open Go Go.RowKit Go.Deep Go.Proofs.YtdalboofhckobaaW.PrintWords
set_option linter.unusedVariables false
set_option linter.unusedSimpArgs false

theorem VS.of_cur {α : Type} {enc : α → Value} {w : World} {X : Nat → Prop} {g t c : Nat} {cur : Array Value} {fr : Nat × Nat} {q : List α} (h : w.heap[g]? = some (.cells cur t fr)) (hX : ¬ X g) (hc : q.length ≤ c) (hm : q.length ≤ 9223372036854775807) (hcur : ∀ (i : Nat) p, q[i]? = some p → cur[i]? = some (enc p)) : VS enc w X (some ⟨g, 0, none⟩) c q := by
  refine ⟨hc, hm, fun hq => ⟨_, rfl, hX, fun i p hp => ?_⟩⟩
  rw [show (⟨g, 0, none⟩ : Addr).add i = ⟨g, i, none⟩ from add_plain g i, cell_of_row w g i cur t fr h]
  exact hcur i p hp
/-- A row of one's own, its block known. -/
structure OB {α : Type} (enc : α → Value) (e : TypeId) (w : World) (base g c : Nat) (q : List α) (cur : Array Value) : Prop where
  hb : base ≤ g
  hh : w.heap[g]? = some (.cells cur e (0, 0))
  hc : q.length ≤ c
  hm : q.length ≤ 9223372036854775807
  hcur : ∀ (i : Nat) p, q[i]? = some p → cur[i]? = some (enc p)
theorem OB.of_own {α : Type} {enc : α → Value} {e base n : Nat} {w : World} {v : Value} {q : List α} (h : w.ownsRow base e 1 v n (q.map enc)) (hn : 0 < n) : ∃ g c cur, v = .slice (some ⟨g, 0, none⟩) n c ∧ q.length = n ∧ OB enc e w base g c q cur := by
  obtain ⟨hl, h2⟩ := h
  rcases h2 with ⟨_, rfl⟩ | ⟨g, cap, cur, rfl, hb, hh, h3, h4, h5, h6⟩
  · omega
  · have hql : q.length = n := by simpa using hl
    refine ⟨g, cap, cur, rfl, hql, hb, hh, by omega, by simp only [maxLen] at h4; omega, fun i p hp => ?_⟩
    have hi : i < q.length := (List.getElem?_eq_some_iff.1 hp).1
    have h7 : (cur.toList.take (n * 1))[i]? = some (enc p) := by rw [h6]; simp [hp]
    rw [List.getElem?_take] at h7
    rw [if_pos (by omega)] at h7
    simpa using h7
theorem OB.below {α : Type} {enc : α → Value} {e base g c : Nat} {w w' : World} {q : List α} {cur : Array Value} (h : OB enc e w base g c q cur) (k : Below w.heap.size w w') : OB enc e w' base g c q cur := ⟨h.hb, blk_below h.hh k, h.hc, h.hm, h.hcur⟩
theorem OB.only {α : Type} {enc : α → Value} {e base g c B : Nat} {w w' : World} {q : List α} {cur : Array Value} (h : OB enc e w base g c q cur) (k : Only B w w') (hn : g ≠ B) : OB enc e w' base g c q cur := ⟨h.hb, blk_only h.hh k hn, h.hc, h.hm, h.hcur⟩
theorem OB.set {α : Type} {enc : α → Value} {e base g c : Nat} {w : World} {q : List α} {cur : Array Value} (h : OB enc e w base g c q cur) (p : Nat) (y : α) : OB enc e (w.setCell ⟨g, p, none⟩ (enc y)) base g c (q.set p y) (cur.setIfInBounds p (enc y)) := by
  refine ⟨h.hb, blk_set h.hh p (enc y), by rw [List.length_set]; exact h.hc, by rw [List.length_set]; exact h.hm, fun i z hz => ?_⟩
  by_cases hip : p = i
  · subst hip
    have hlt : p < q.length := by
      have := (List.getElem?_eq_some_iff.1 hz).1
      rwa [List.length_set] at this
    rw [List.getElem?_set_self hlt] at hz
    cases hz
    have hcl : p < cur.size := (Array.getElem?_eq_some_iff.1 (h.hcur p _ (List.getElem?_eq_getElem hlt))).1
    simp [hcl]
  · rw [List.getElem?_set_ne hip] at hz
    rw [Array.getElem?_setIfInBounds_ne hip]
    exact h.hcur i z hz
theorem OB.cell {α : Type} {enc : α → Value} {e base g c : Nat} {w : World} {q : List α} {cur : Array Value} (h : OB enc e w base g c q cur) {i : Nat} {p : α} (hp : q[i]? = some p) : w.cell? ⟨g, i, none⟩ = some (enc p) := by
  rw [cell_of_row w g i cur e _ h.hh]; exact h.hcur i p hp
theorem OB.vs {α : Type} {enc : α → Value} {e base g c : Nat} {w : World} {q : List α} {cur : Array Value} {X : Nat → Prop} (h : OB enc e w base g c q cur) (hX : ∀ k, X k → k < base) : VS enc w X (some ⟨g, 0, none⟩) c q :=
  VS.of_cur h.hh (fun hx => by have := hX _ hx; have := h.hb; omega) h.hc h.hm h.hcur
theorem OB.ne {α β : Type} {enc : α → Value} {enc' : β → Value} {e e' base base' g g' c c' : Nat} {w : World} {q : List α} {q' : List β} {cur cur' : Array Value} (h : OB enc e w base g c q cur) (h' : OB enc' e' w base' g' c' q' cur') (hne : e ≠ e') : g ≠ g' := by
  rintro rfl
  have := h.hh.symm.trans h'.hh
  injection this with this
  injection this with _ h2
  exact hne h2

/-- The document's memory as a value: it reads as the bytes l, the marks ws, the generations gs, and lies in no block that X holds of. -/
def VRam (w : World) (X : Nat → Prop) (v : Value) (l : List Int) (ws : List Bool) (gs : List Int) : Prop :=
  ∃ A1 c1 A2 c2 A3 c3, v = .agg #[.slice A1 l.length c1, .slice A2 ws.length c2, .slice A3 gs.length c3] ∧ VS (Value.int .u8) w X A1 c1 l ∧ VS Value.bool w X A2 c2 ws ∧ VS (Value.int .u64) w X A3 c3 gs
theorem VRam.below {w w' : World} {X : Nat → Prop} {v : Value} {l : List Int} {ws : List Bool} {gs : List Int} (h : VRam w X v l ws gs) (k : Below w.heap.size w w') : VRam w' X v l ws gs := by
  obtain ⟨A1, c1, A2, c2, A3, c3, rfl, h1, h2, h3⟩ := h
  exact ⟨A1, c1, A2, c2, A3, c3, rfl, h1.below k, h2.below k, h3.below k⟩
theorem VRam.onlyP {w w' : World} {X : Nat → Prop} {v : Value} {l : List Int} {ws : List Bool} {gs : List Int} (h : VRam w X v l ws gs) (k : OnlyP X w w') : VRam w' X v l ws gs := by
  obtain ⟨A1, c1, A2, c2, A3, c3, rfl, h1, h2, h3⟩ := h
  exact ⟨A1, c1, A2, c2, A3, c3, rfl, h1.onlyP k, h2.onlyP k, h3.onlyP k⟩

theorem vs_news {α : Type} {enc : α → Value} {w : World} {X : Nat → Prop} {A : Option Addr} {c : Nat} {q : List α} (h : VS enc w X A c q) (hq : 0 < q.length) : ∃ ad, A = some ad ∧ ∀ j u, (q.map enc)[j]? = some u → w.cell? (ad.add j) = some u := by
  obtain ⟨ad, rfl, _, hc⟩ := h.2.2 (by rintro rfl; simp at hq)
  refine ⟨ad, rfl, fun j u hu => ?_⟩
  rw [List.getElem?_map] at hu
  obtain ⟨p, hp, rfl⟩ := Option.map_eq_some_iff.1 hu
  exact hc j p hp
theorem below_of_grown {w w' : World} (h : w.grownBy w' none) : Below w.heap.size w w' := ⟨h.os, h.tape, h.output, h.size, fun k hk => h.block k hk (by simp)⟩
end Go.Proofs.Ytdalboofhckobaa
