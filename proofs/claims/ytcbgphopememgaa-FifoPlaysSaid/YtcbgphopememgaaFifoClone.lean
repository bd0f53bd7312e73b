/- The queue's Clone, by contract. -/
import Derived.Test.YtcbgphopememgaaFifo
import Derived.Laws.Rows
import Derived.Laws.Tables
import Derived.Deep.WholeRow
namespace Go.Proofs.Ytcbgphopememgaa
open Go Go.RowKit Go.Deep Go.Proofs.YtcbgphopememgaaW.PrintWords Go.Proofs.Ytcbgphopememgaa.FifoPlain
set_option linter.unusedVariables false
set_option linter.unusedSimpArgs false

set_option maxRecDepth 100000 in
theorem fclone_nil (w : World) : Calls Try.prog 36 #[.pointer none] w fun e w' => e = .returned (.pointer none) ∧ w = w' := by
  go_enter Try.func36, Try.ntmps36
  go_wp2
  go_ret
  exact ⟨rfl, rfl⟩
set_option maxRecDepth 100000 in
set_option maxHeartbeats 1000000 in
theorem fclone_calls (w : World) (B : Nat) (q : List Int) (h : IsF w B q) : Calls Try.prog 36 #[.pointer (some ⟨B, 0, none⟩)] w fun e w' => e = .returned (.pointer (some ⟨w.heap.size, 0, none⟩)) ∧ IsF w' w.heap.size q ∧ Below w.heap.size w w' := by
  obtain ⟨b, f, n, h1, h2, h3, hh, rfl⟩ := h
  have hsz : (fcells b f n).size = 18 := by simp [fcells, h1]
  have hi : (Try.prog.info? 85).map (·.size) = some (fcells b f n).size := by rw [hsz]; kernel_rfl
  have H := Aside0.mk hh
  have HI := Aside0.mk hi
  have HF := Aside0.mk (show IsF (w.alloc (.cells (fcells b f n) 85)) w.heap.size (view b f n) from ⟨b, f, n, h1, h2, h3, blk_new w _, rfl⟩)
  have h1c : ∀ v ∈ (fcells b f n).toList, v.oneCell' = true := by
    intro v hv
    simp [fcells] at hv
    rcases hv with ⟨_, _, rfl⟩ | rfl | rfl <;> rfl
  have hst : (storeCells ⟨w.heap.size, 0, none⟩ (fcells b f n).toList).run Try.prog (w.alloc (.cells #[.int .u8 0, .int .u8 0, .int .u8 0, .int .u8 0, .int .u8 0, .int .u8 0, .int .u8 0, .int .u8 0, .int .u8 0, .int .u8 0, .int .u8 0, .int .u8 0, .int .u8 0, .int .u8 0, .int .u8 0, .int .u8 0, .int .i64 0, .int .i64 0] 85)) = .ok () (w.alloc (.cells (fcells b f n) 85)) := by
    have := run_storeCells_from (P := Try.prog) w.heap.size 85 (fcells b f n).toList 0 #[.int .u8 0, .int .u8 0, .int .u8 0, .int .u8 0, .int .u8 0, .int .u8 0, .int .u8 0, .int .u8 0, .int .u8 0, .int .u8 0, .int .u8 0, .int .u8 0, .int .u8 0, .int .u8 0, .int .u8 0, .int .u8 0, .int .i64 0, .int .i64 0] (w.alloc (.cells #[.int .u8 0, .int .u8 0, .int .u8 0, .int .u8 0, .int .u8 0, .int .u8 0, .int .u8 0, .int .u8 0, .int .u8 0, .int .u8 0, .int .u8 0, .int .u8 0, .int .u8 0, .int .u8 0, .int .u8 0, .int .u8 0, .int .i64 0, .int .i64 0] 85)) (blk_new w _) (by rw [Array.length_toList, hsz]; rfl) h1c
    rw [this, List.take_zero, List.nil_append, Array.toArray_toList, World.setRow_alloc_new]
  clear hh hi h1 h1c
  go_enter Try.func36, Try.ntmps36
  go_wp2_with (refine wpList_load_row rfl 85 (.tmp 7) rfl B rfl 85 (fcells b f n) (0, 0) _ H.out Try.underlying85 rfl HI.out ?_)
  go_wp2
  go_ret
  exact ⟨rfl, HF.out, below_alloc (Below.refl _ _) _⟩

end Go.Proofs.Ytcbgphopememgaa
