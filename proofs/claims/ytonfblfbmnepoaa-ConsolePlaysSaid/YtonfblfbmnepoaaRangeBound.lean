/- A range over a method value (its receiver comes first, the round's function behind it) whose body is never left early: what the body keeps, round by round, holds behind the loop. -/
import Derived.RangeFuncWrites
import Derived.RangeFuncBox
import Derived.RangeFuncBound
import Derived.RangeFuncLeaves
import Derived.Test.YtonfblfbmnepoaaProg
namespace Go.Proofs.Ytonfblfbmnepoaa
open Go Go.RowKit
set_option linter.unusedVariables false

theorem range_bound {P : Program} {α : Type} {g : Operand} {ps : Array Tmp} {assign body : Code} {Q : Exit → Act → World → Prop} {a : Act} {w : World} {gf : Nat} {fb : Array Value}
    (hg : a.eval g = .func (.func gf) fb #[]) (eg : ∀ args w, (callFunc gf args).run P w = .ok (.enter gf args) w)
    {encs : α → Array Value} (xs : List α) (hps : ∀ x, (encs x).size = ps.size) (n0 : Nat) (hn0 : n0 ≤ w.heap.size)
    (I : List α → World → Prop) (hI : OwnFrom w.heap.size I) (h0 : I [] w) (a₁ : α → Act)
    (hassign : ∀ (l : Nat) (x : α) (W : World) (K : Act → World → Prop), K (a₁ x) W →
      assign.wpIn (Fence.wide.inRound l) 0 P (Exit.then K (fun _ _ _ => False)) { tmps := (ps.zip (encs x)).foldl (fun t (p, v) => t.setIfInBounds p v) a.tmps, defers := [] } W)
    (hbody : ∀ (l : Nat) (pre : List α) (x : α) (W : World), I pre W → pre.length < xs.length → w.heap.size ≤ W.heap.size →
      body.wpIn (Fence.wide.inRound l) 0 P (fun e _ W' => e = .normal ∧ KeepsFrom w.heap.size W W' ∧ Below n0 W W' ∧ I (pre ++ [x]) W') (a₁ x) W)
    (hiter : ∀ (l : Nat) (J : List α → World → Prop) (W1 : World), Below n0 w W1 → AbidesFrom W1.heap.size J →
      (∀ pre x W, J pre W → pre.length < xs.length → YieldAt Fence.wide 0 P l (encs x) W fun e W' => e = .returned (.bool true) ∧ J (pre ++ [x]) W' ∧ Below n0 W W') →
      J [] W1 → CallsIn Fence.wide 0 P gf (fb ++ #[.func (.yield l) #[] #[]]) W1 fun e W' => (∃ v, e = .returned v) ∧ J xs W')
    (hdone : ∀ (D : Nat) (W : World), w.heap.size ≤ D → I xs W → W.heap[D]? = some (.deferred (some [])) → Q .normal { a with defers := { target := .collected D, args := #[] } :: a.defers } W) :
    (Code.rangeFunc g ps assign body).wpIn Fence.wide 0 P Q a w := by
  refine wpIn_rangeFunc fun fn hfn => ?_
  have hrd : Fence.wide.round = none := rfl
  rw [hrd]
  -- the loop's record, and the block of its rounds' deferred calls
  let rec0 : LoopState → Option Code → Loop := fun st pe => { state := st, pending := pe, fn, tmps := a.tmps, params := ps, assign, body, defers := w.heap.size }
  have hput : ∀ (W : World) (st : LoopState) (pe : Option Code), W.putObj (w.heap.size + 1) (.loop { rec0 .ready none with state := st, pending := pe }) = W.putObj (w.heap.size + 1) (.loop (rec0 st pe)) := fun _ _ _ => rfl
  obtain ⟨W1, hW1⟩ : ∃ W1, (w.alloc (.deferred (some []))).alloc (.loop (rec0 .ready none)) = W1 := ⟨_, rfl⟩
  have s1 : W1.heap.size = w.heap.size + 1 + 1 := by rw [← hW1]; simp
  have hrec1 : W1.heap[w.heap.size + 1]? = some (.loop (rec0 .ready none)) := by
    rw [← hW1]
    have := World.alloc_heap_new (w.alloc (.deferred (some []))) (.loop (rec0 .ready none))
    rwa [World.size_alloc] at this
  have hdef1 : W1.heap[w.heap.size]? = some (.deferred (some [])) := by
    rw [← hW1]
    exact (Below.heap_alloc _ _ _ (by simp)).trans (World.alloc_heap_new w _)
  have hI1 : I [] W1 := by rw [← hW1]; exact hI.alloc _ (hI.alloc _ h0)
  have hb1 : Below n0 w W1 := by
    rw [← hW1]
    exact ((Below.refl n0 w).alloc hn0 _).alloc (by simp; omega) _
  refine ⟨w.heap.size + 1, [{ target := .collected w.heap.size, args := #[] }], W1, { target := .fn (.func gf) #[], args := fb ++ #[.func (.yield (w.heap.size + 1)) #[] #[]] }, W1, gf,
    fb ++ #[.func (.yield (w.heap.size + 1)) #[] #[]], W1, ?_, ?_, ?_, ?_, ?_, ?_⟩
  · rw [← hW1]; exact run_enterLoop_outer _ _ _ _ _
  · simp only [resolve, hg]
    simp [go_sem]
  · intro f' hf'
    trivial
  · simp [invoke, go_sem, eg]
  · intro h; cases h
  · -- what is kept between two rounds
    have hput2 : ∀ {W : World} {o : Obj} {st : LoopState} {pe : Option Code} {pre : List α}, I pre W → W.heap[w.heap.size + 1]? = some o → o.isCells = false → I pre (W.putObj (w.heap.size + 1) (.loop (rec0 st pe))) :=
      fun hi hl ho => hI.putObj _ hi (by omega) hl ho
    have kb : ∀ {W : World} (o' : Obj), w.heap.size + 1 < W.heap.size → Below n0 W (W.putObj (w.heap.size + 1) o') := fun {W} o' hlt =>
      ⟨rfl, rfl, rfl, by simp, fun k hk => World.putObj_heap_other (by omega)⟩
    refine (hiter (w.heap.size + 1) (fun pre W => I pre W ∧ W.heap[w.heap.size + 1]? = some (.loop (rec0 .ready none)) ∧ W.heap[w.heap.size]? = some (.deferred (some []))) W1 hb1 ?_ ?_ ⟨hI1, hrec1, hdef1⟩).mono ?_
    · rintro s A B row ⟨hi, hl, hk⟩ hgr hr
      have hw : ∀ (k : Nat) (o : Obj), A.heap[k]? = some o → o.isWalk = false → B.heap[k]? = some o := fun k o hk ho => (grownBy_keeps hgr (fun r e => (hr r e).2) hk ho).trans hk
      exact ⟨hI s A B row hi hgr (fun r e => by
        obtain ⟨hB, o, ho, hwk⟩ := hr r e
        exact ⟨by omega, o, ho, Obj.not_cells_of_walk hwk⟩), hw _ _ hl rfl, hw _ _ hk rfl⟩
    · rintro pre x W ⟨hi, hl, hk⟩ hlen
      have hlt : w.heap.size + 1 < W.heap.size := (Array.getElem?_eq_some_iff.1 hl).1
      refine ⟨fn, _, assign, body, run_yield (P := P) (args := encs x) hl (hps x), roundIn_of_wpIn hfn (hassign _ x W _ ⟨_, run_beginRound hl rfl, ?_⟩)⟩
      have hl2 : (W.putObj (w.heap.size + 1) (.loop (rec0 .busy none))).heap[w.heap.size + 1]? = some (.loop (rec0 .busy none)) := World.putObj_heap_same hlt
      have hk2 : (W.putObj (w.heap.size + 1) (.loop (rec0 .busy none))).heap[w.heap.size]? = some (.deferred (some [])) := (World.putObj_heap_other (by omega)).trans hk
      refine wpIn_mono (hbody _ pre x _ (hput2 hi hl rfl) hlen (by simp; omega)) ?_
      rintro e a3 W3 ⟨rfl, hk3, hb3, hi3⟩
      have hl3 : W3.heap[w.heap.size + 1]? = some (.loop (rec0 .busy none)) := hk3.same _ _ (by omega) hl2 rfl
      have hk4 : W3.heap[w.heap.size]? = some (.deferred (some [])) := hk3.same _ _ (Nat.le_refl _) hk2 rfl
      have hlt3 : w.heap.size + 1 < W3.heap.size := (Array.getElem?_eq_some_iff.1 hl3).1
      exact ⟨_, _, run_endRound (P := P) none hl3, rfl, ⟨hput2 hi3 hl3 rfl, World.putObj_heap_same hlt3, (World.putObj_heap_other (by omega)).trans hk4⟩, ((kb _ hlt).trans hb3).trans (kb _ hlt3)⟩
    · rintro e W2 ⟨⟨v, rfl⟩, hi, hl, hk⟩
      exact ⟨none, _, run_endLoop (P := P) hl (by intro h; cases h), hdone _ _ (Nat.le_refl _) (hput2 hi hl rfl) ((World.putObj_heap_other (by omega)).trans hk)⟩

end Go.Proofs.Ytonfblfbmnepoaa
