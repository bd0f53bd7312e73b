/- A feed's hand: 'look'. -/
import Derived.Test.YtdalboofhckobabFeed
import Derived.BigRegion
namespace Go.Proofs.Ytdalboofhckobab
open Go Go.RowKit Go.Conc Go.Proofs.YtdalboofhckobabW.PrintWords
set_option linter.unusedVariables false
set_option linter.unusedSimpArgs false

/-- A hand: its channel holds buf; what was taken out and not used yet. -/
structure IsHand (w : World) (H C : Nat) (t b : Int) (has : Bool) (buf : List (Int × Int)) : Prop where
  h : w.heap[H]? = some (.cells #[.chan (some C), .int .u64 t, .int .u8 b, .bool has] 47 (0, 0))
  c : ∃ cap s r, w.heap[C]? = some (.chan cap (cbuf buf) false s r false)
theorem IsHand.below {w w' : World} {H C : Nat} {t b : Int} {has : Bool} {buf : List (Int × Int)} (h : IsHand w H C t b has buf) (d : Below w.heap.size w w') : IsHand w' H C t b has buf := ⟨blk_below h.h d, by obtain ⟨cap, s, r, hc⟩ := h.c; exact ⟨cap, s, r, blk_below hc d⟩⟩
/-- Writes to two blocks alone. -/
structure Only2 (H C : Nat) (w w' : World) : Prop where
  os : w'.os = w.os
  tape : w'.tape = w.tape
  output : w'.output = w.output
  size : w.heap.size ≤ w'.heap.size
  block : ∀ k, k < w.heap.size → k ≠ H → k ≠ C → w'.heap[k]? = w.heap[k]?
theorem Only2.of_below {H C : Nat} {w w' : World} (h : Below w.heap.size w w') : Only2 H C w w' := ⟨h.os, h.tape, h.output, h.size, fun k hk _ _ => h.block k hk⟩
theorem Only2.trans {H C : Nat} {a b c : World} (h : Only2 H C a b) (k : Only2 H C b c) : Only2 H C a c :=
  ⟨k.os.trans h.os, k.tape.trans h.tape, k.output.trans h.output, Nat.le_trans h.size k.size, fun i hi h1 h2 => (k.block i (Nat.lt_of_lt_of_le hi h.size) h1 h2).trans (h.block i hi h1 h2)⟩
theorem Only2.set {H C : Nat} {a w : World} (h : Only2 H C a w) (i : Nat) (u : Value) : Only2 H C a (w.setCell ⟨H, i, none⟩ u) :=
  h.trans ⟨rfl, rfl, rfl, by simp [World.setCell], fun k _ hk _ => Below.heap_setCell _ _ _ _ hk⟩
theorem Only2.fresh {H C : Nat} {a w : World} (h : Only2 H C a w) {g : Nat} (hg : a.heap.size ≤ g) (i : Nat) (u : Value) : Only2 H C a (w.setCell ⟨g, i, none⟩ u) :=
  ⟨h.os, h.tape, h.output, by simpa [World.setCell] using h.size, fun k hk h1 h2 => (Below.heap_setCell _ _ _ _ (show k ≠ g by omega)).trans (h.block k hk h1 h2)⟩
theorem Only2.drew {H C : Nat} {a w : World} (h : Only2 H C a w) : Only2 H C a w.drew := ⟨h.os, h.tape, h.output, h.size, h.block⟩
theorem Only2.chan {H C : Nat} {a w : World} (h : Only2 H C a w) (cap : Nat) (buf : Array Value) (cl : Bool) (s r : Nat) (tm : Bool) : Only2 H C a (w.setChan C cap buf cl s r tm) :=
  h.trans ⟨rfl, rfl, rfl, by simp [World.setChan], fun k hk _ hC => by simp only [World.setChan]; rw [Array.getElem?_setIfInBounds_ne (Ne.symm hC)]⟩
theorem Only2.below {H C : Nat} {W w w' : World} (h : Only2 H C w w') (h1 : W.heap.size ≤ H) (h2 : W.heap.size ≤ C) (hb : Below W.heap.size W w) : Below W.heap.size W w' :=
  hb.trans ⟨h.os, h.tape, h.output, h.size, fun k hk => h.block k (Nat.lt_of_lt_of_le hk hb.size) (by omega) (by omega)⟩
theorem IsHand.only2 {w w' : World} {H C H' C' : Nat} {t b : Int} {has : Bool} {buf : List (Int × Int)} (h : IsHand w H C t b has buf) (d : Only2 H' C' w w') (h1 : H ≠ H' ∧ H ≠ C' ∧ C ≠ H' ∧ C ≠ C') : IsHand w' H C t b has buf := by
  obtain ⟨cap, s, r, hc⟩ := h.c
  exact ⟨(d.block H (blk_lt h.h) h1.1 h1.2.1).trans h.h, cap, s, r, (d.block C (blk_lt hc) h1.2.2.1 h1.2.2.2).trans hc⟩
theorem cbuf_tail (t b : Int) (l : List (Int × Int)) : (cbuf ((t, b) :: l)).extract 1 (cbuf ((t, b) :: l)).size = cbuf l := by
  simp [cbuf]
  exact List.take_of_length_le (by simp)
theorem heap_setChan_ne {k : Nat} (w : World) (c cap : Nat) (buf : Array Value) (cl : Bool) (s r : Nat) (tm : Bool) (h : k ≠ c) : (w.setChan c cap buf cl s r tm).heap[k]? = w.heap[k]? := by simp only [World.setChan]; rw [Array.getElem?_setIfInBounds_ne (Ne.symm h)]
theorem set2_blk {w : World} {g t : Nat} {z0 z1 : Value} (h : w.heap[g]? = some (.cells #[z0, z1] t (0, 0))) (a b : Value) : ((w.setCell ⟨g, 0, none⟩ a).setCell ⟨g, 1, none⟩ b).heap[g]? = some (.cells #[a, b] t (0, 0)) := blk_set (blk_set h 0 a) 1 b

set_option maxRecDepth 100000 in
set_option maxHeartbeats 2000000 in
theorem look_has (w : World) (H C : Nat) (t b : Int) (buf : List (Int × Int)) (h : IsHand w H C t b true buf) :
    Calls Try.prog 18 #[.pointer (some ⟨H, 0, none⟩)] w fun e w' => e = .returned (.tuple #[.agg #[.int .u64 t, .int .u8 b], .bool true]) ∧ Below w.heap.size w w' := by
  have c1 : w.cell? ⟨H, 1, none⟩ = some (.int .u64 t) := (blk_cell h.h 1).trans rfl
  have c2 : w.cell? ⟨H, 2, none⟩ = some (.int .u8 b) := (blk_cell h.h 2).trans rfl
  have c3 : w.cell? ⟨H, 3, none⟩ = some (.bool true) := (blk_cell h.h 3).trans rfl
  have hlt : H < w.heap.size := blk_lt h.h
  have hne : ¬ H = w.heap.size := by omega
  have hne' : ¬ w.heap.size = H := by omega
  clear h
  go_enter Try.func18, Try.ntmps18
  go_wp2_with fail
  refine bodyPost_ret (results_cell_row_tmp rfl _ _ w.heap.size 40 _ (0, 0) _ rfl (blk_new w _) Try.underlying40 rfl (by kernel_rfl)) rfl ?_
  exact ⟨rfl, below_alloc (Below.refl _ _) _⟩
set_option maxRecDepth 100000 in
set_option maxHeartbeats 2000000 in
theorem look_recv (w : World) (H C : Nat) (t b t' b' : Int) (buf : List (Int × Int)) (h : IsHand w H C t b false ((t', b') :: buf)) :
    Calls Try.prog 18 #[.pointer (some ⟨H, 0, none⟩)] w fun e w' => e = .returned (.tuple #[.agg #[.int .u64 t', .int .u8 b'], .bool true]) ∧ IsHand w' H C t' b' true buf ∧ Only2 H C w w' := by
  have HH := Aside0.mk h
  have c0 : w.cell? ⟨H, 0, none⟩ = some (.chan (some C)) := (blk_cell h.h 0).trans rfl
  have c3 : w.cell? ⟨H, 3, none⟩ = some (.bool false) := (blk_cell h.h 3).trans rfl
  obtain ⟨cap, s, r, hc⟩ := h.c
  have HC := Aside0.mk hc
  have hlt : H < w.heap.size := blk_lt h.h
  have hne : ¬ H = w.heap.size := by omega
  have hne' : ¬ w.heap.size = H := by omega
  have hCH : C ≠ H := by rintro rfl; have := h.h.symm.trans hc; cases this
  have HCH := Aside0.mk hCH
  have hz : ∀ w : World, (zeroValue 40).run Try.prog w = .ok (.agg #[.int .u64 0, .int .u8 0]) w := fun w => by kernel_rfl
  obtain ⟨R, hR⟩ : ∃ R, w.heap.size = R := ⟨_, rfl⟩
  have HR := Aside0.mk hR
  clear h hc hCH hR
  go_enter Try.func18, Try.ntmps18
  go_upto_region 4 with fail
  have hx : (cbuf ((t', b') :: buf)).extract 1 (cbuf ((t', b') :: buf)).size = cbuf buf := cbuf_tail t' b' buf
  have hg0 : (cbuf ((t', b') :: buf)).getD 0 undef = .agg #[.int .u64 t', .int .u8 b'] := rfl
  have HA : (w.alloc (.cells #[.int .u64 0, .int .u8 0] 40)).heap[C]? = some (.chan cap (cbuf ((t', b') :: buf)) false s r false) := blk_below HC.out (below_alloc (Below.refl _ _) _)
  refine wp_region_select (c := C) (u := .tuple #[goInt 0, .bool true, .agg #[.int .u64 t', .int .u8 b']]) (v1 := goInt 0) (v2 := .bool true) (z := .agg #[.int .u64 0, .int .u8 0]) (w' := (w.alloc (.cells #[.int .u64 0, .int .u8 0] 40)).setChan C cap (cbuf buf) false s (r + 1) false) rfl rfl rfl ?_ ?_ ?_ ?_ ?_
  · simp [execOp, hz, Act.eval, rcase]
  · intro b k cs es he
    have := step_lone_select_recv he HA (by rw [cbuf_size]; exact Nat.succ_pos _)
    rw [hx, hg0] at this
    exact this
  · simp [execOp, Act.eval, Act.put]; rfl
  · simp [execOp, Act.eval, Act.put]; rfl
  have hlC : C < w.heap.size := blk_lt HC.out
  have h1 := Aside0.mk ((heap_setChan_ne (w.alloc (.cells #[.int .u64 0, .int .u8 0] 40)) C cap (cbuf buf) false s (r + 1) false (Ne.symm HCH.out)).trans (blk_below HH.out.h (below_alloc (Below.refl _ _) (.cells #[.int .u64 0, .int .u8 0] 40))))
  have g1 := Aside0.mk ((heap_setChan_ne (w.alloc (.cells #[.int .u64 0, .int .u8 0] 40)) C cap (cbuf buf) false s (r + 1) false (show w.heap.size ≠ C by omega)).trans (blk_new w _))
  have k1 := Aside0.mk (heap_setChan (w.alloc (.cells #[.int .u64 0, .int .u8 0] 40)) C cap (cbuf buf) false s (r + 1) false (blk_lt HA))
  have o1 : Aside0 (Only2 H C w _) := ⟨(Only2.of_below (below_alloc (Below.refl _ _) (.cells #[.int .u64 0, .int .u8 0] 40))).chan cap (cbuf buf) false s (r + 1) false⟩
  have s1 : w.heap.size < ((w.alloc (.cells #[.int .u64 0, .int .u8 0] 40)).setChan C cap (cbuf buf) false s (r + 1) false).heap.size := blk_lt g1.out
  generalize (w.alloc (.cells #[.int .u64 0, .int .u8 0] 40)).setChan C cap (cbuf buf) false s (r + 1) false = w1 at h1 g1 k1 o1 s1 ⊢
  have d0 : w1.cell? ⟨H, 0, none⟩ = some (.chan (some C)) := (blk_cell h1.out 0).trans rfl
  have d1 : w1.cell? ⟨H, 1, none⟩ = some (.int .u64 t) := (blk_cell h1.out 1).trans rfl
  have d2 : w1.cell? ⟨H, 2, none⟩ = some (.int .u8 b) := (blk_cell h1.out 2).trans rfl
  have d3 : w1.cell? ⟨H, 3, none⟩ = some (.bool false) := (blk_cell h1.out 3).trans rfl
  have z0 : ∀ i, w1.frozen? ⟨H, i, none⟩ = false := fun i => blk_frozen h1.out i
  clear c0 c3 HA
  go_upto_region 7 with fail
  have h2 := Aside0.mk (blk_set (blk_set (blk_set h1.out 1 (.int .u64 t')) 2 (.int .u8 b')) 3 (.bool true))
  have g2 := Aside0.mk ((((Below.heap_setCell _ _ _ _ hne').trans (Below.heap_setCell _ _ _ _ hne')).trans (Below.heap_setCell _ _ _ _ hne')).trans g1.out : (((w1.setCell ⟨H, 1, none⟩ (.int .u64 t')).setCell ⟨H, 2, none⟩ (.int .u8 b')).setCell ⟨H, 3, none⟩ (.bool true)).heap[w.heap.size]? = _)
  have k2 := Aside0.mk ((((Below.heap_setCell _ _ _ _ HCH.out).trans (Below.heap_setCell _ _ _ _ HCH.out)).trans (Below.heap_setCell _ _ _ _ HCH.out)).trans k1.out : (((w1.setCell ⟨H, 1, none⟩ (.int .u64 t')).setCell ⟨H, 2, none⟩ (.int .u8 b')).setCell ⟨H, 3, none⟩ (.bool true)).heap[C]? = _)
  have o2 := Aside0.mk (((o1.out.set 1 (.int .u64 t')).set 2 (.int .u8 b')).set 3 (.bool true))
  clear d0 d1 d2 d3 z0 h1 g1 k1 o1 s1
  generalize ((w1.setCell ⟨H, 1, none⟩ (.int .u64 t')).setCell ⟨H, 2, none⟩ (.int .u8 b')).setCell ⟨H, 3, none⟩ (.bool true) = w2 at h2 g2 k2 o2 ⊢
  have d1 : w2.cell? ⟨H, 1, none⟩ = some (.int .u64 t') := (blk_cell h2.out 1).trans rfl
  have d2 : w2.cell? ⟨H, 2, none⟩ = some (.int .u8 b') := (blk_cell h2.out 2).trans rfl
  have d3 : w2.cell? ⟨H, 3, none⟩ = some (.bool true) := (blk_cell h2.out 3).trans rfl
  have e0 : w2.cell? ⟨w.heap.size, 0, none⟩ = some (.int .u64 0) := (blk_cell g2.out 0).trans rfl
  have e1 : w2.cell? ⟨w.heap.size, 1, none⟩ = some (.int .u8 0) := (blk_cell g2.out 1).trans rfl
  have z0 : ∀ i, w2.frozen? ⟨w.heap.size, i, none⟩ = false := fun i => blk_frozen g2.out i
  have hne3 : w.heap.size ≠ C := by have := blk_lt HC.out; omega
  generalize hG : w.heap.size = G at *
  have HG := Aside0.mk hG
  clear hG
  go_wp2_with go_region
  refine bodyPost_ret (results_cell_row_tmp rfl _ _ G 40 _ (0, 0) _ rfl (set2_blk g2.out _ _) Try.underlying40 rfl (by kernel_rfl)) rfl ?_
  exact ⟨rfl, ⟨((Below.heap_setCell _ _ _ _ hne).trans (Below.heap_setCell _ _ _ _ hne)).trans h2.out, cap, s, r + 1, ((Below.heap_setCell _ _ _ _ (Ne.symm hne3)).trans (Below.heap_setCell _ _ _ _ (Ne.symm hne3))).trans k2.out⟩, ((o2.out.fresh (Nat.le_of_eq HG.out) 0 (.int .u64 t')).fresh (Nat.le_of_eq HG.out) 1 (.int .u8 b')).drew⟩
set_option maxRecDepth 100000 in
set_option maxHeartbeats 2000000 in
theorem look_none (w : World) (H C : Nat) (t b : Int) (h : IsHand w H C t b false []) :
    Calls Try.prog 18 #[.pointer (some ⟨H, 0, none⟩)] w fun e w' => e = .returned (.tuple #[.agg #[.int .u64 t, .int .u8 b], .bool false]) ∧ Below w.heap.size w w' := by
  have HH := Aside0.mk h
  have c0 : w.cell? ⟨H, 0, none⟩ = some (.chan (some C)) := (blk_cell h.h 0).trans rfl
  have c3 : w.cell? ⟨H, 3, none⟩ = some (.bool false) := (blk_cell h.h 3).trans rfl
  obtain ⟨cap, s, r, hc⟩ := h.c
  have HC := Aside0.mk hc
  have hlt : H < w.heap.size := blk_lt h.h
  have hne : ¬ H = w.heap.size := by omega
  have hne' : ¬ w.heap.size = H := by omega
  have hz : ∀ w : World, (zeroValue 40).run Try.prog w = .ok (.agg #[.int .u64 0, .int .u8 0]) w := fun w => by kernel_rfl
  clear h hc
  go_enter Try.func18, Try.ntmps18
  go_upto_region 4 with fail
  have HA : (w.alloc (.cells #[.int .u64 0, .int .u8 0] 40)).heap[C]? = some (.chan cap #[] false s r false) := blk_below HC.out (below_alloc (Below.refl _ _) _)
  refine wp_region_select (c := C) (u := .tuple #[goInt (-1), .bool false, .agg #[.int .u64 0, .int .u8 0]]) (v1 := goInt (-1)) (v2 := .bool false) (z := .agg #[.int .u64 0, .int .u8 0]) (w' := w.alloc (.cells #[.int .u64 0, .int .u8 0] 40)) rfl rfl rfl ?_ ?_ ?_ ?_ ?_
  · simp [execOp, hz, Act.eval, rcase]
  · intro b k cs es he
    exact step_lone_select_default he HA
  · simp [execOp, Act.eval, Act.put]; rfl
  · simp [execOp, Act.eval, Act.put]; rfl
  have h1 := Aside0.mk (blk_below HH.out.h (below_alloc (Below.refl _ _) (.cells #[.int .u64 0, .int .u8 0] 40)))
  have g1 := Aside0.mk (blk_new w (.cells #[.int .u64 0, .int .u8 0] 40))
  have o1 := Aside0.mk (below_alloc (Below.refl w.heap.size w) (.cells #[.int .u64 0, .int .u8 0] 40))
  generalize w.alloc (.cells #[.int .u64 0, .int .u8 0] 40) = w2 at h1 g1 o1 ⊢
  have d1 : w2.cell? ⟨H, 1, none⟩ = some (.int .u64 t) := (blk_cell h1.out 1).trans rfl
  have d2 : w2.cell? ⟨H, 2, none⟩ = some (.int .u8 b) := (blk_cell h1.out 2).trans rfl
  have d3 : w2.cell? ⟨H, 3, none⟩ = some (.bool false) := (blk_cell h1.out 3).trans rfl
  have e0 : w2.cell? ⟨w.heap.size, 0, none⟩ = some (.int .u64 0) := (blk_cell g1.out 0).trans rfl
  have e1 : w2.cell? ⟨w.heap.size, 1, none⟩ = some (.int .u8 0) := (blk_cell g1.out 1).trans rfl
  have z0 : ∀ i, w2.frozen? ⟨w.heap.size, i, none⟩ = false := fun i => blk_frozen g1.out i
  clear c0 c3 HA
  have hO : Aside0 (Below w.heap.size w ((w2.setCell ⟨w.heap.size, 0, none⟩ (.int .u64 t)).setCell ⟨w.heap.size, 1, none⟩ (.int .u8 b)).drew) := ⟨Below.drew ((o1.out.setCell (p := ⟨w.heap.size, 0, none⟩) (Nat.le_refl _) _).setCell (p := ⟨w.heap.size, 1, none⟩) (Nat.le_refl _) _)⟩
  generalize hG : w.heap.size = G at *
  have HG := Aside0.mk hG
  clear hG
  go_wp2_with go_region
  all_goals refine bodyPost_ret (results_cell_row_tmp rfl _ _ G 40 _ (0, 0) _ rfl (set2_blk g1.out _ _) Try.underlying40 rfl (by kernel_rfl)) rfl ?_
  all_goals exact ⟨rfl, by rw [HG.out]; exact hO.out⟩
end Go.Proofs.Ytdalboofhckobab
