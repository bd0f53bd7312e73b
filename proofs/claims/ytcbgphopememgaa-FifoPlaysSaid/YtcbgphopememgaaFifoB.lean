/- The queue's Clear, Clone, and all its methods on a nil queue, by contract. -/
import Derived.Test.YtcbgphopememgaaFifoAll
namespace Go.Proofs.Ytcbgphopememgaa
open Go Go.RowKit Go.Shelf Go.Proofs.YtcbgphopememgaaW.PrintWords Go.Proofs.Ytcbgphopememgaa.FifoPlain
attribute [local go_sem] Oper.semAt_some
set_option linter.unusedVariables false
set_option linter.unusedSimpArgs false

set_option maxRecDepth 100000 in
theorem fclear_calls (w : World) (B : Nat) (q : List Int) (h : IsF w B q) : Calls Try.prog 32 #[.pointer (some ⟨B, 0, none⟩)] w fun e w' => e = .returned (.tuple #[]) ∧ IsF w' B [] ∧ Only B w w' := by
  obtain ⟨b, f, n, h1, h2, h3, hh, rfl⟩ := h
  have hn : w.cell? ⟨B, 17, none⟩ = some (.int .i64 (n : Int)) := (blk_cell hh 17).trans (fcells_n h1)
  have zn : w.frozen? ⟨B, 17, none⟩ = false := blk_frozen hh _
  have HI := Aside0.mk (show IsF (w.setCell ⟨B, 17, none⟩ (.int .i64 0)) B [] from by
    refine ⟨b, f, 0, h1, h2, by omega, ?_, rfl⟩
    have e2 := blk_set hh 17 (.int .i64 ((0 : Nat) : Int))
    rw [fcells_set_n h1] at e2
    exact e2)
  have HO := Aside0.mk ((Only.refl B w).setCell 17 (.int .i64 0))
  clear hh h1
  go_enter Try.func32, Try.ntmps32
  go_wp2
  go_end0
  exact ⟨rfl, HI.out, HO.out⟩
set_option maxRecDepth 100000 in
theorem fclear_nil (w : World) : Calls Try.prog 32 #[.pointer none] w fun e w' => e = .returned (.tuple #[]) ∧ w = w' := by
  go_enter Try.func32, Try.ntmps32
  go_wp2
  go_end0
  exact ⟨rfl, rfl⟩
set_option maxRecDepth 100000 in
theorem flen_nil (w : World) : Calls Try.prog 33 #[.pointer none] w fun e w' => e = .returned (.int .i64 0) ∧ w = w' := by
  go_enter Try.func33, Try.ntmps33
  go_wp2
  go_ret
  exact ⟨rfl, rfl⟩
set_option maxRecDepth 100000 in
theorem fpush_nil (w : World) (x : Int) : Calls Try.prog 28 #[.pointer none, .int .u8 x] w fun e w' => e = .returned (.bool false) ∧ w = w' := by
  go_enter Try.func28, Try.ntmps28
  go_wp2
  go_ret
  exact ⟨rfl, rfl⟩
set_option maxRecDepth 100000 in
theorem fpop_nil (w : World) : Calls Try.prog 29 #[.pointer none] w fun e w' => e = .returned (.tuple #[.int .u8 0, .bool false]) ∧ w = w' := by
  go_enter Try.func29, Try.ntmps29
  go_wp2
  go_ret2
  exact ⟨rfl, rfl⟩

set_option maxRecDepth 100000 in
set_option maxHeartbeats 1000000 in
theorem each_nil (w : World) (l : Nat) (J : List Int → World → Prop) (h0 : J [] w) :
    CallsIn Fence.wide 0 Try.prog 57 #[.pointer none, .func (.yield l) #[] #[]] w fun e W' => (∃ v, e = .returned v) ∧ J [] W' := by
  have HJ := Aside0.mk h0
  clear h0
  refine callsIn_of_wp Try.func57 rfl trivial ?_ rfl
  simp only [Try.ntmps57, List.size_toArray, List.length_cons, List.length_nil, Nat.reduceAdd, Nat.reduceSub, Array.replicate_succ, Array.replicate_zero, List.push_toArray, List.append_toArray, List.nil_append, List.cons_append]
  gi_wp2_with fail
  refine ⟨trivial, rfl, ?_⟩
  refine (callsIn_wide.2 (flen_nil _)).mono ?_
  rintro e w' ⟨rfl, rfl⟩
  gi_wp2_with fail
  gi_loopw [7] (fun i wr => i = .int .i64 0 ∧ wr = w) (fun i _ => 0)
  case atStart => exact ⟨rfl, rfl⟩
  case round =>
    obtain ⟨rfl, rfl⟩ := hrel
    gi_wp2
    refine bodyPost_end (results_none rfl _ _ _) rfl ?_
    exact ⟨⟨_, rfl⟩, HJ.out⟩

set_option maxRecDepth 100000 in
set_option maxHeartbeats 2000000 in
theorem all_nil_in (w : World) :
    CallsIn Fence.wide 0 Try.prog 35 #[.pointer none] w fun e W' => e = .returned (.slice none 0 0) ∧ Below w.heap.size w W' := by
  refine callsIn_of_wp_marks Try.func35 rfl trivial ?_ rfl
  simp only [Try.ntmps35, List.size_toArray, List.length_cons, List.length_nil, Nat.reduceAdd, Nat.reduceSub, Array.replicate_succ, Array.replicate_zero, List.push_toArray, List.append_toArray, List.nil_append, List.cons_append]
  gi_wp2_with fail
  have bO := Boxed.new w 38 (.slice none 0 0)
  have hB0 : Below w.heap.size w (w.alloc (.cells #[.slice none 0 0] 38)) := (Below.refl _ w).alloc (Nat.le_refl _) _
  refine range_bound (gf := 57) (fb := #[.pointer none]) rfl (enters_of Try.func57 (by kernel_rfl) rfl) (encs := fun x : Int => #[Value.int .u8 x]) [] (fun _ => rfl) w.heap.size (by simp)
    (fun pre W => Boxed W w.heap.size 38 (.slice none 0 0) ∧ Below w.heap.size w W)
    (OwnFrom.and (Own.from (boxed_own w.heap.size 38 (fun _ => .slice none 0 0)) _) (ownFrom_below (Nat.le_refl _) (by simp)))
    ⟨bO, hB0⟩
    (fun x => { tmps := #[.pointer none, undef, .slice none 0 0, .pointer (some ⟨w.heap.size, 0, none⟩), .int .u8 x, .pointer none, .func (.func 57) #[.pointer none] #[], .int .u8 x, undef, undef, undef, undef, undef], defers := [] }) ?assign ?body ?iter ?done
  case assign =>
    intro l x W K hK
    gi_wp2
    exact hK
  case body =>
    rintro l pre x W _ hlt hle
    simp at hlt
  case iter =>
    intro l J W1 hb hJ hY h0
    exact each_nil _ l J h0
  case done =>
    rintro D W hD ⟨hv, hB⟩ hK
    have hc := hv.cell
    gi_wp2
    refine ⟨by simp, .inl ⟨_, _, rfl, run_takeDeferred hK, ?_⟩⟩
    exact ⟨_, results_tmp rfl _ _ _, rfl, hB.trans (belowK_b (w := w) (Nat.le_refl _) W D _ _ (by simp at hD; omega) hK rfl rfl)⟩
theorem fall_nil (w : World) : Calls Try.prog 35 #[.pointer none] w fun e W' => e = .returned (.slice none 0 0) ∧ Below w.heap.size w W' := callsIn_wide.1 (all_nil_in w)

end Go.Proofs.Ytcbgphopememgaa
