/- The queue's methods, each by its contract: New, Push, Pop, Len. -/
import Derived.Test.YtfnbpmkbjbibkaaOnly
import Derived.Test.YtfnbpmkbjbibkaaFifoPlain
import Derived.WalkKit
import Derived.Test.YtfnbpmkbjbibkaaProg
import Derived.RegionTactic
namespace Go.Proofs.Ytfnbpmkbjbibkaa
open Go Go.RowKit Go.Proofs.YtfnbpmkbjbibkaaW.PrintWords Go.Proofs.Ytfnbpmkbjbibkaa.FifoPlain
set_option linter.unusedVariables false
set_option linter.unusedSimpArgs false

/-- The cells of a queue: sixteen bytes, the first one's place, how many. -/
def fcells (b : List Int) (first n : Nat) : Array Value := ((b.map (Value.int .u8)) ++ [Value.int .i64 first, Value.int .i64 n]).toArray
theorem fcells_b {b : List Int} {first n i : Nat} (hb : b.length = 16) (hi : i < 16) : (fcells b first n)[i]? = some (.int .u8 (b.getD i 0)) := by
  simp [fcells, List.getElem?_append, hb, hi, List.getElem?_map, List.getD_eq_getElem?_getD, show i < b.length by omega]
theorem fcells_first {b : List Int} {first n : Nat} (hb : b.length = 16) : (fcells b first n)[16]? = some (.int .i64 first) := by
  simp [fcells, List.getElem?_append, hb]
theorem fcells_n {b : List Int} {first n : Nat} (hb : b.length = 16) : (fcells b first n)[17]? = some (.int .i64 n) := by
  simp [fcells, List.getElem?_append, hb]
theorem fcells_set_b {b : List Int} {first n i : Nat} {x : Int} (hb : b.length = 16) (hi : i < 16) : (fcells b first n).setIfInBounds i (.int .u8 x) = fcells (b.set i x) first n := by
  simp [fcells, List.set_append, hb, hi, List.map_set]
theorem fcells_set_first {b : List Int} {first n : Nat} {x : Nat} (hb : b.length = 16) : (fcells b first n).setIfInBounds 16 (.int .i64 (x : Int)) = fcells b x n := by
  simp [fcells, List.set_append, hb]
theorem fcells_set_n {b : List Int} {first n : Nat} {x : Nat} (hb : b.length = 16) : (fcells b first n).setIfInBounds 17 (.int .i64 (x : Int)) = fcells b first x := by
  simp [fcells, List.set_append, hb]

/-- Block B of the world is a queue of these bytes. -/
def IsF (w : World) (B : Nat) (q : List Int) : Prop :=
  ∃ b first n, b.length = 16 ∧ first < 16 ∧ n ≤ 16 ∧ w.heap[B]? = some (.cells (fcells b first n) 162 (0, 0)) ∧ q = view b first n
theorem IsF.length {w : World} {B : Nat} {q : List Int} (h : IsF w B q) : q.length ≤ 16 := by
  obtain ⟨b, f, n, _, _, hn, _, rfl⟩ := h
  rw [view_length]; exact hn
theorem IsF.lt {w : World} {B : Nat} {q : List Int} (h : IsF w B q) : B < w.heap.size := by
  obtain ⟨b, f, n, _, _, _, hh, _⟩ := h
  exact blk_lt hh
theorem IsF.below {w w' : World} {B : Nat} {q : List Int} (h : IsF w B q) (k : Below w.heap.size w w') : IsF w' B q := by
  obtain ⟨b, f, n, h1, h2, h3, hh, h4⟩ := h
  exact ⟨b, f, n, h1, h2, h3, blk_below hh k, h4⟩
theorem IsF.only {w w' : World} {B B' : Nat} {q : List Int} (h : IsF w B q) (k : Only B' w w') (hn : B ≠ B') : IsF w' B q := by
  obtain ⟨b, f, n, h1, h2, h3, hh, h4⟩ := h
  exact ⟨b, f, n, h1, h2, h3, blk_only hh k hn, h4⟩
theorem IsF.drew {w : World} {B : Nat} {q : List Int} (h : IsF w B q) : IsF w.drew B q := h

theorem IsF.drawn {w w' : World} {B : Nat} {q : List Int} (h : IsF w B q) (d : Drawn0 w w') : IsF w' B q := h.below d.below

theorem newF (w : World) : IsF (w.alloc (.cells #[.int .u8 0, .int .u8 0, .int .u8 0, .int .u8 0, .int .u8 0, .int .u8 0, .int .u8 0, .int .u8 0, .int .u8 0, .int .u8 0, .int .u8 0, .int .u8 0, .int .u8 0, .int .u8 0, .int .u8 0, .int .u8 0, .int .i64 0, .int .i64 0] 162)) w.heap.size [] :=
  ⟨List.replicate 16 0, 0, 0, rfl, by decide, by decide, blk_new w _, rfl⟩

set_option maxRecDepth 100000 in
theorem new_calls (w : World) : Calls Try.prog 76 #[] w fun e w' => e = .returned (.pointer (some ⟨w.heap.size, 0, none⟩)) ∧ IsF w' w.heap.size [] ∧ Below w.heap.size w w' := by
  have hF := Aside0.mk (newF w)
  go_enter Try.func76, Try.ntmps76
  go_wp2
  go_ret
  exact ⟨rfl, hF.out, below_alloc (Below.refl _ _) _⟩

set_option maxRecDepth 100000 in
theorem len_calls (w : World) (B : Nat) (q : List Int) (h : IsF w B q) : Calls Try.prog 90 #[.pointer (some ⟨B, 0, none⟩)] w fun e w' => e = .returned (.int .i64 (q.length : Int)) ∧ w = w' := by
  obtain ⟨b, f, n, h1, h2, h3, hh, rfl⟩ := h
  have hn : w.cell? ⟨B, 17, none⟩ = some (.int .i64 (n : Int)) := (blk_cell hh 17).trans (fcells_n h1)
  rw [view_length]
  clear hh h1
  go_enter Try.func90, Try.ntmps90
  go_wp2
  go_ret
  exact ⟨rfl, rfl⟩

end Go.Proofs.Ytfnbpmkbjbibkaa
