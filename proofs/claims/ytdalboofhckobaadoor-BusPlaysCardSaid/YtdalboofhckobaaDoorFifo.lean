/- The queue's methods, each by its contract: New, Push, Pop, Len. -/
import Derived.Test.YtdalboofhckobaaDoorOnly
import Derived.Test.YtdalboofhckobaaDoorFifoPlain
import Derived.WalkKit
import Derived.Test.YtdalboofhckobaaDoorProg
import Derived.RegionTactic
namespace Go.Proofs.YtdalboofhckobaaDoor
open Go Go.RowKit Go.Proofs.YtdalboofhckobaaDoorW.PrintWords Go.Proofs.YtdalboofhckobaaDoor.FifoPlain
set_option linter.unusedVariables false
set_option linter.unusedSimpArgs false

/-- The cells of a queue: sixteen bytes, the first one's place, how many. -/
def fcells (b : List Int) (first n : Nat) : Array Value := ((b.map (Value.int .u8)) ++ [Value.int .i64 first, Value.int .i64 n]).toArray
theorem fcells_b {b : List Int} {first n i : Nat} (hb : b.length = 16) (hi : i < 16) : (fcells b first n)[i]? = some (.int .u8 (b.getD i 0)) := by
  simp [fcells, List.getElem?_append, hb, hi, List.getElem?_map, List.getD_eq_getElem?_getD, show i < b.length by omega]
theorem fcells_first {b : List Int} {first n : Nat} (hb : b.length = 16) : (fcells b first n)[16]? = some (.int .i64 first) := by
  simp [fcells, List.getElem?_append, hb]
theorem fcells_n {b : List Int} {first n : Nat} (hb : b.length = 16) : (fcells b first n)[17]? = some (.int .i64 n) := by
  simp [fcells, List.getElem?_append, hb]
theorem fcells_set_b {b : List Int} {first n i : Nat} {x : Int} (hb : b.length = 16) (hi : i < 16) : (fcells b first n).setIfInBounds i (.int .u8 x) = fcells (b.set i x) first n := by
  simp [fcells, List.set_append, hb, hi, List.map_set]
theorem fcells_set_first {b : List Int} {first n : Nat} {x : Nat} (hb : b.length = 16) : (fcells b first n).setIfInBounds 16 (.int .i64 (x : Int)) = fcells b x n := by
  simp [fcells, List.set_append, hb]
theorem fcells_set_n {b : List Int} {first n : Nat} {x : Nat} (hb : b.length = 16) : (fcells b first n).setIfInBounds 17 (.int .i64 (x : Int)) = fcells b first x := by
  simp [fcells, List.set_append, hb]

/-- Block B of the world is a queue of these bytes. -/
def IsF (w : World) (B : Nat) (q : List Int) : Prop :=
  ∃ b first n, b.length = 16 ∧ first < 16 ∧ n ≤ 16 ∧ w.heap[B]? = some (.cells (fcells b first n) 120 (0, 0)) ∧ q = view b first n
theorem IsF.length {w : World} {B : Nat} {q : List Int} (h : IsF w B q) : q.length ≤ 16 := by
  obtain ⟨b, f, n, _, _, hn, _, rfl⟩ := h
  rw [view_length]; exact hn
theorem IsF.lt {w : World} {B : Nat} {q : List Int} (h : IsF w B q) : B < w.heap.size := by
  obtain ⟨b, f, n, _, _, _, hh, _⟩ := h
  exact blk_lt hh
theorem IsF.below {w w' : World} {B : Nat} {q : List Int} (h : IsF w B q) (k : Below w.heap.size w w') : IsF w' B q := by
  obtain ⟨b, f, n, h1, h2, h3, hh, h4⟩ := h
  exact ⟨b, f, n, h1, h2, h3, blk_below hh k, h4⟩
theorem IsF.only {w w' : World} {B B' : Nat} {q : List Int} (h : IsF w B q) (k : Only B' w w') (hn : B ≠ B') : IsF w' B q := by
  obtain ⟨b, f, n, h1, h2, h3, hh, h4⟩ := h
  exact ⟨b, f, n, h1, h2, h3, blk_only hh k hn, h4⟩
theorem IsF.drew {w : World} {B : Nat} {q : List Int} (h : IsF w B q) : IsF w.drew B q := h

theorem IsF.drawn {w w' : World} {B : Nat} {q : List Int} (h : IsF w B q) (d : Drawn0 w w') : IsF w' B q := h.below d.below

theorem newF (w : World) : IsF (w.alloc (.cells #[.int .u8 0, .int .u8 0, .int .u8 0, .int .u8 0, .int .u8 0, .int .u8 0, .int .u8 0, .int .u8 0, .int .u8 0, .int .u8 0, .int .u8 0, .int .u8 0, .int .u8 0, .int .u8 0, .int .u8 0, .int .u8 0, .int .i64 0, .int .i64 0] 120)) w.heap.size [] :=
  ⟨List.replicate 16 0, 0, 0, rfl, by decide, by decide, blk_new w _, rfl⟩

set_option maxRecDepth 100000 in
theorem new_calls (w : World) : Calls Tryd.prog 45 #[] w fun e w' => e = .returned (.pointer (some ⟨w.heap.size, 0, none⟩)) ∧ IsF w' w.heap.size [] ∧ Below w.heap.size w w' := by
  have hF := Aside0.mk (newF w)
  go_enter Tryd.func45, Tryd.ntmps45
  go_wp2
  go_ret
  exact ⟨rfl, hF.out, below_alloc (Below.refl _ _) _⟩

set_option maxRecDepth 100000 in
theorem len_calls (w : World) (B : Nat) (q : List Int) (h : IsF w B q) : Calls Tryd.prog 70 #[.pointer (some ⟨B, 0, none⟩)] w fun e w' => e = .returned (.int .i64 (q.length : Int)) ∧ w = w' := by
  obtain ⟨b, f, n, h1, h2, h3, hh, rfl⟩ := h
  have hn : w.cell? ⟨B, 17, none⟩ = some (.int .i64 (n : Int)) := (blk_cell hh 17).trans (fcells_n h1)
  rw [view_length]
  clear hh h1
  go_enter Tryd.func70, Tryd.ntmps70
  go_wp2
  go_ret
  exact ⟨rfl, rfl⟩

set_option maxRecDepth 100000 in
set_option maxHeartbeats 1000000 in
theorem push_yes (w : World) (B : Nat) (q : List Int) (x : Int) (h : IsF w B q) (hq : q.length < 16) :
    Calls Tryd.prog 78 #[.pointer (some ⟨B, 0, none⟩), .int .u8 x] w fun e w' => e = .returned (.bool true) ∧ IsF w' B (q ++ [x]) ∧ Only B w w' := by
  obtain ⟨b, f, n, h1, h2, h3, hh, rfl⟩ := h
  rw [view_length] at hq
  have hf : w.cell? ⟨B, 16, none⟩ = some (.int .i64 (f : Int)) := (blk_cell hh 16).trans (fcells_first h1)
  have hn : w.cell? ⟨B, 17, none⟩ = some (.int .i64 (n : Int)) := (blk_cell hh 17).trans (fcells_n h1)
  have hi : w.cell? ⟨B, (f + n) % 16, none⟩ = some (.int .u8 (b.getD ((f + n) % 16) 0)) := (blk_cell hh _).trans (fcells_b h1 (Nat.mod_lt _ (by decide)))
  have zi : w.frozen? ⟨B, (f + n) % 16, none⟩ = false := blk_frozen hh _
  have zn : w.frozen? ⟨B, 17, none⟩ = false := blk_frozen hh _
  have ne : ((n : Int) == 16) = false := beq_eq_false_iff_ne.2 (by omega)
  have hne : ¬ (f + n) % 16 = 17 := by omega
  have HI := Aside0.mk (show IsF ((w.setCell ⟨B, (f + n) % 16, none⟩ (.int .u8 x)).setCell ⟨B, 17, none⟩ (.int .i64 ((n : Int) + 1))) B (view b f n ++ [x]) from by
    refine ⟨b.set ((f + n) % 16) x, f, n + 1, by simp [h1], h2, by omega, ?_, (view_push b f n x h1 hq).symm⟩
    have e1 := blk_set hh ((f + n) % 16) (.int .u8 x)
    rw [fcells_set_b h1 (Nat.mod_lt _ (by decide))] at e1
    have e2 := blk_set e1 17 (.int .i64 ((n + 1 : Nat) : Int))
    rw [fcells_set_n (by simp [h1])] at e2
    exact e2)
  have HO := Aside0.mk (((Only.refl B w).setCell ((f + n) % 16) (.int .u8 x)).setCell 17 (.int .i64 ((n : Int) + 1)))
  clear hh h1
  go_enter Tryd.func78, Tryd.ntmps78
  go_wp2
  go_region
  all_goals go_wp2
  all_goals go_ret
  all_goals exact ⟨rfl, HI.out, HO.out.drew⟩

set_option maxRecDepth 100000 in
theorem push_no (w : World) (B : Nat) (q : List Int) (x : Int) (h : IsF w B q) (hq : q.length = 16) :
    Calls Tryd.prog 78 #[.pointer (some ⟨B, 0, none⟩), .int .u8 x] w fun e w' => e = .returned (.bool false) ∧ w = w' := by
  obtain ⟨b, f, n, h1, h2, h3, hh, rfl⟩ := h
  rw [view_length] at hq
  subst hq
  have hn : w.cell? ⟨B, 17, none⟩ = some (.int .i64 16) := (blk_cell hh 17).trans (fcells_n h1)
  clear hh h1
  go_enter Tryd.func78, Tryd.ntmps78
  go_wp2
  go_ret
  exact ⟨rfl, rfl⟩

set_option maxRecDepth 100000 in
theorem pop_no (w : World) (B : Nat) (h : IsF w B []) :
    Calls Tryd.prog 83 #[.pointer (some ⟨B, 0, none⟩)] w fun e w' => e = .returned (.tuple #[.int .u8 0, .bool false]) ∧ w = w' := by
  obtain ⟨b, f, n, h1, h2, h3, hh, hq⟩ := h
  obtain rfl : n = 0 := by have := congrArg List.length hq; rw [view_length] at this; simpa using this.symm
  have hn : w.cell? ⟨B, 17, none⟩ = some (.int .i64 0) := (blk_cell hh 17).trans (fcells_n h1)
  clear hh h1 hq
  go_enter Tryd.func83, Tryd.ntmps83
  go_wp2
  go_ret2
  exact ⟨rfl, rfl⟩

set_option maxRecDepth 100000 in
set_option maxHeartbeats 1000000 in
theorem pop_yes (w : World) (B : Nat) (q : List Int) (x : Int) (h : IsF w B (x :: q)) :
    Calls Tryd.prog 83 #[.pointer (some ⟨B, 0, none⟩)] w fun e w' => e = .returned (.tuple #[.int .u8 x, .bool true]) ∧ IsF w' B q ∧ Only B w w' := by
  obtain ⟨b, f, n, h1, h2, h3, hh, hq⟩ := h
  have hn0 : 0 < n := by have := congrArg List.length hq; rw [view_length] at this; simp at this; omega
  have hp := view_pop b f n hn0
  rw [← hq, Nat.mod_eq_of_lt h2] at hp
  obtain ⟨hx, rfl⟩ := List.cons.inj hp
  have hf : w.cell? ⟨B, 16, none⟩ = some (.int .i64 (f : Int)) := (blk_cell hh 16).trans (fcells_first h1)
  have hn : w.cell? ⟨B, 17, none⟩ = some (.int .i64 (n : Int)) := (blk_cell hh 17).trans (fcells_n h1)
  have hi : w.cell? ⟨B, f, none⟩ = some (.int .u8 x) := (blk_cell hh _).trans ((fcells_b h1 h2).trans (by rw [hx]))
  have zf : w.frozen? ⟨B, 16, none⟩ = false := blk_frozen hh _
  have zn : w.frozen? ⟨B, 17, none⟩ = false := blk_frozen hh _
  have ne : ((n : Int) == 0) = false := beq_eq_false_iff_ne.2 (by omega)
  have hfi : (f : Int) < 16 := by omega
  have hni : (0 : Int) < (n : Int) := by omega
  have HI := Aside0.mk (show IsF ((w.setCell ⟨B, 16, none⟩ (.int .i64 (((f : Int) + 1) % 16))).setCell ⟨B, 17, none⟩ (.int .i64 ((n : Int) - 1))) B (view b ((f + 1) % 16) (n - 1)) from by
    refine ⟨b, (f + 1) % 16, n - 1, h1, Nat.mod_lt _ (by decide), by omega, ?_, rfl⟩
    have e1 := blk_set hh 16 (.int .i64 (((f + 1) % 16 : Nat) : Int))
    rw [fcells_set_first h1] at e1
    have e2 := blk_set e1 17 (.int .i64 ((n - 1 : Nat) : Int))
    rw [fcells_set_n h1] at e2
    rw [show ((n : Int) - 1) = ((n - 1 : Nat) : Int) by omega]
    exact e2)
  have HO := Aside0.mk (((Only.refl B w).setCell 16 (.int .i64 (((f : Int) + 1) % 16))).setCell 17 (.int .i64 ((n : Int) - 1)))
  clear hh h1 hq hp hx
  go_enter Tryd.func83, Tryd.ntmps83
  go_wp2
  go_region
  all_goals go_wp2
  all_goals go_ret2
  all_goals exact ⟨rfl, HI.out, HO.out.drew⟩

end Go.Proofs.YtdalboofhckobaaDoor
