/- The memory's bytes: at, Bytes. -/
import Derived.Test.YtonfblfbmnepoaaRamB
import Derived.Laws.IdiomCopy
namespace Go.Proofs.Ytonfblfbmnepoaa
open Go Go.RowKit Go.Proofs.YtonfblfbmnepoaaW.PrintWords
set_option linter.unusedVariables false
set_option linter.unusedSimpArgs false

/-- A row put into a block: the block's cells behind it. -/
def putAt (a : Array Value) : Nat → List Value → Array Value
  | _, [] => a
  | o, v :: vs => putAt (a.setIfInBounds o v) (o + 1) vs
theorem blk_setCells {B : Nat} {t : TypeId} : ∀ (vs : List Value) (o : Nat) (w : World) (a : Array Value), w.heap[B]? = some (.cells a t) → (w.setCells B o vs).heap[B]? = some (.cells (putAt a o vs) t)
  | [], _, _, _, h => h
  | v :: vs, o, w, a, h => blk_setCells vs (o + 1) _ _ (blk_set h o v)
theorem only_setCells {B : Nat} : ∀ (vs : List Value) (o : Nat) (w : World), Only B w (w.setCells B o vs)
  | [], _, w => Only.refl B w
  | v :: vs, o, w => ((Only.refl B w).setCell o v).trans (only_setCells vs (o + 1) _)
theorem putAt_list : ∀ (vs : List Value) (o : Nat) (a : Array Value), o + vs.length ≤ a.size → (putAt a o vs).toList = a.toList.take o ++ vs ++ a.toList.drop (o + vs.length)
  | [], o, a, h => by simp [putAt]
  | v :: vs, o, a, h => by
    have h' : o < a.size := by simp at h; omega
    rw [putAt, putAt_list vs (o + 1) _ (by simp at h ⊢; omega)]
    simp only [Array.toList_setIfInBounds, List.length_cons]
    have hl : a.toList.length = a.size := Array.length_toList
    rw [List.set_eq_take_append_cons_drop, if_pos (by rw [hl]; exact h')]
    have e1 : (a.toList.take o).length = o := by rw [List.length_take, hl]; omega
    have e2 : (a.toList.take o ++ v :: a.toList.drop (o + 1)).take (o + 1) = a.toList.take o ++ [v] := by
      rw [List.take_append, e1, List.take_of_length_le (by omega), show o + 1 - o = 1 by omega]; rfl
    have e3 : (a.toList.take o ++ v :: a.toList.drop (o + 1)).drop (o + 1 + vs.length) = a.toList.drop (o + (vs.length + 1)) := by
      rw [List.drop_append, e1, List.drop_of_length_le (by omega), show o + 1 + vs.length - o = vs.length + 1 by omega, List.drop_succ_cons, List.drop_drop, List.nil_append]
      congr 1
      omega
    rw [e2, e3]
    simp
/-- Bytes put over bytes. -/
theorem brow_put (l bs : List Int) (j : Nat) (h : j + bs.length ≤ l.length) : putAt (brow l) j (bs.map (Value.int .u8)) = brow (l.take j ++ bs ++ l.drop (j + bs.length)) := by
  apply Array.toList_inj.1
  rw [putAt_list _ _ _ (by simp [brow]; exact h)]
  simp [brow, List.map_take, List.map_drop]
theorem brow_size (l : List Int) : (brow l).size = l.length := by simp [brow]
theorem brow_get (l : List Int) (j : Nat) : (brow l)[j]? = (l.map (Value.int .u8))[j]? := by simp [brow]
theorem brow_some (l : List Int) (j : Nat) (h : j < l.length) : ((brow l)[j]?).isSome = true := by simp [brow, h]

set_option maxRecDepth 100000 in
theorem bytes_calls (w : World) {R BB BW BG n k : Nat} {l : List Int} {ws : List Bool} {gs : List Int} (h : IsRam w R BB BW BG n k l ws gs) (hn : n ≤ 65536) : Calls Try.prog 19 #[.pointer (some ⟨R, 0, none⟩)] w fun e w' => e = .returned (.slice (some ⟨w.heap.size, 0, none⟩) n n) ∧ w'.heap[w.heap.size]? = some (.cells (brow l) 5) ∧ Below w.heap.size w w' := by
  have c0 := h.c0
  have m1 : ∀ w : World, (Instr.makeSlice 29 (.int .i64 (n : Int)) (.int .i64 (n : Int))).run Try.prog w = .ok (.slice (some ⟨w.heap.size, 0, none⟩) n n) (w.alloc (.cells (brow (List.replicate n 0)) 5)) := by
    intro w
    obtain ⟨i, hi, hz⟩ := Option.map_eq_some_iff.1 (show (Try.prog.info? 5).map (fun i => (i.zero, i.size, i.bytes)) = some (some (.int .u8 0), 1, 1) by kernel_rfl)
    simp only [Prod.mk.injEq] at hz
    obtain ⟨hz0, hz1, hz2⟩ := hz
    have h := run_make (P := Try.prog) w 29 5 i (.int .u8 0) Try.underlying29 hi hz0 .i64 .i64 (n : Int) (n : Int) (by omega) (by omega) (by rw [hz2]; omega) (by omega)
    rw [hz1] at h
    rw [show (Value.int .u8 0).cells = #[Value.int .u8 0] from rfl, made1, brow_made] at h
    simpa using h
  have hB := below_alloc (Below.refl w.heap.size w) (.cells (brow (List.replicate n 0)) 5)
  have c1 := (h.below hB).c0
  have hb := blk_below h.b hB
  have hnw := blk_new w (.cells (brow (List.replicate n 0)) 5)
  have cp : ∀ ty, (Builtin.copy_ #[29, 29] ty #[.slice (some ⟨w.heap.size, 0, none⟩) n n, .slice (some ⟨BB, 0, none⟩) n n]).run Try.prog (w.alloc (.cells (brow (List.replicate n 0)) 5)) = .ok (goInt n) ((w.alloc (.cells (brow (List.replicate n 0)) 5)).setCells w.heap.size 0 (l.map (Value.int .u8))) := by
    intro ty
    have := run_copy_cells (P := Try.prog) (w.alloc (.cells (brow (List.replicate n 0)) 5)) 29 29 ty 5 w.heap.size 0 n n ⟨BB, 0, none⟩ n n (l.map (Value.int .u8)) Try.underlying29 (by kernel_rfl) (by simp [h.nl]) (fun j v hj => ?_) (fun j hj => ?_) (fun j hj => ?_) (fun v hv => ?_)
    · simpa [h.nl] using this
    · rw [show (⟨BB, 0, none⟩ : Addr).add j = ⟨BB, j, none⟩ by simp [Addr.add]; omega, blk_cell hb j, brow_get]
      exact hj
    · rw [blk_cell hnw (0 + j)]
      exact brow_some _ _ (by simp [h.nl] at hj ⊢; omega)
    · exact blk_frozen hnw _
    · obtain ⟨x, _, rfl⟩ := List.mem_map.1 hv
      rfl
  go_enter Try.func19, Try.ntmps19
  go_wp2
  go_ret
  refine ⟨rfl, ?_, ?_⟩
  · have := blk_setCells (l.map (Value.int .u8)) 0 _ _ hnw
    rw [brow_put _ _ _ (by simp [h.nl])] at this
    simpa [h.nl] using this
  · exact (only_setCells _ _ _).below (Nat.le_refl _) hB

end Go.Proofs.Ytonfblfbmnepoaa
