/- Channels in one goroutine, inside the walk; a feed's 'wait' and 'look'. -/
import Derived.Test.YtdalboofhckobabOnly
import Derived.Test.YtdalboofhckobabDrawn
import Derived.Test.YtdalboofhckobabProg
import Derived.Test.YtdalboofhckobabResRow
import Derived.WalkKit
import Derived.RegionTactic
import Derived.Deep.LoopGhost
import Derived.Deep.CutBlock
import Derived.Deep.Slices
import Derived.Deep.DeepCutAuto
import Derived.Conc.LoneCalls
namespace Go.Proofs.Ytdalboofhckobab
open Go Go.RowKit Go.Conc Go.Proofs.YtdalboofhckobabW.PrintWords
set_option linter.unusedVariables false
set_option linter.unusedSimpArgs false

section
variable {P : Program} {Q : Exit → Act → World → Prop} {b : Frame} {a : Act} {k : List Item} {cs : List Frame} {w w' : World} {ops : Array Oper} {i : Nat} {rest : List Nat} {o : Oper}
/-- An operation that yields a value: one step, whatever frame. -/
theorem step_op_value {v : Value} (ho : ops[i]? = some o) (hg : o.guard = none) (hr : (execOp a.eval o).run P w = .ok (.value v) w') :
    step P (lone (b.at a (.inRegion ops (i :: rest) :: k)) cs w) = .next (lone (b.at (a.put o.dst v) (.inRegion ops rest :: k)) cs w') := by
  have hw : Region.wanted o (yielded ops a.tmps) = true := by unfold Region.wanted; rw [hg]
  have hfin : (b.at a (.inRegion ops (i :: rest) :: k)).finish v = b.at (a.put o.dst v) (.inRegion ops rest :: k) := by rw [Frame.finish_at, ho]; rfl
  refine step_lone_go ?_
  rw [stepG_op ho hw, ← hfin]; simp [stepG.apply, hr]
/-- A communication is handed up, whatever frame. -/
theorem stepG_comm_any {cases : Array CommCase} {blocking : Bool} {shape : CommShape} (ho : ops[i]? = some o) (hg : o.guard = none) (hr : (execOp a.eval o).run P w = .ok (.comm cases blocking shape) w') :
    ∃ es, stepG P true (G (b.at a (.inRegion ops (i :: rest) :: k)) cs) w = .comm (G (b.at a (.inRegion ops (i :: rest) :: k)) cs) cases blocking shape w' es := by
  have hw : Region.wanted o (yielded ops a.tmps) = true := by unfold Region.wanted; rw [hg]
  rw [stepG_oper ho hw]
  simp only [stepG.apply, Sem.runT_eq, hr, if_true]
  exact ⟨_, rfl⟩
end
/-- A select of ONE receive, with a default; the buffer holds something: it is received: index 0. -/
theorem step_lone_select_recv {P : Program} {fr : Frame} {cs : List Frame} {w w₁ : World} {es : Array Event} {c cap s r : Nat} {buf : Array Value} {z : Value} {tm closed : Bool} (h : stepG P true (G fr cs) w = .comm (G fr cs) #[rcase c z] false .select w₁ es) (hc : w₁.heap[c]? = some (.chan cap buf closed s r tm)) (hsome : 0 < buf.size) :
    step P (solo (G fr cs) w) = .next (solo (G (fr.finish (.tuple #[goInt 0, .bool true, buf.getD 0 undef])) cs) (w₁.setChan c cap (buf.extract 1 buf.size) closed s (r + 1) tm)) := by
  have hp := partners_alone (c := c) true
  rw [step, stepT_solo rfl]
  simp [runT, solo, G, Array.swapAt!, Array.swapAt, h, GStep.es, communicate, ways, rcase, hc, hp, hsome, choose, Sem.run, Question.forced, bind, Sem.bind, pure, Goroutine.finishComm, commResult, World.setChan] at h ⊢

section
variable {P : Program} {Q : Exit → Act → World → Prop} {a : Act} {w : World}
/-- Two values, and a send into a buffer with room. -/
theorem wp_region_send {id : Nat} {o0 o1 o2 : Oper} {v0 v1 v z : Value} {c cap s r : Nat} {buf : Array Value} {tm : Bool} (g0 : o0.guard = none) (g1 : o1.guard = none) (g2 : o2.guard = none)
    (h0 : (execOp a.eval o0).run P w = .ok (.value v0) w) (h1 : (execOp (a.put o0.dst v0).eval o1).run P w = .ok (.value v1) w)
    (h2 : (execOp ((a.put o0.dst v0).put o1.dst v1).eval o2).run P w = .ok (.comm #[scase c v z] true .send) w)
    (hc : w.heap[c]? = some (.chan cap buf false s r tm)) (hroom : buf.size < cap)
    (hQ : Q .normal (((a.put o0.dst v0).put o1.dst v1).put o2.dst undef) (w.setChan c cap (buf.push v) false (s + 1) r tm)) : (Code.region id #[o0, o1, o2] false).wp P Q a w := by
  intro b k cs
  obtain ⟨es, he⟩ := stepG_comm_any (b := b) (k := k) (cs := cs) (ops := #[o0, o1, o2]) (i := 2) (rest := []) rfl g2 h2
  have h3 := step_lone_send_room he hc hroom
  rw [Frame.finish_at] at h3
  refine ⟨.normal, _, _, hQ, ?_⟩
  exact .head step_region (.head (step_op_value (i := 0) (rest := [1, 2]) rfl g0 h0) (.head (step_op_value (i := 1) (rest := [2]) rfl g1 h1) (.head h3 (.one step_region_end))))
/-- A select of one receive with a default, and two values out of what it yields. -/
theorem wp_region_select {id : Nat} {o0 o1 o2 : Oper} {u v1 v2 z : Value} {c : Nat} {w' : World} (g0 : o0.guard = none) (g1 : o1.guard = none) (g2 : o2.guard = none)
    (h0 : (execOp a.eval o0).run P w = .ok (.comm #[rcase c z] false .select) w)
    (hst : ∀ (b : Frame) (k : List Item) (cs : List Frame) (es : Array Event), stepG P true (G (b.at a (.inRegion #[o0, o1, o2] [0, 1, 2] :: k)) cs) w = .comm (G (b.at a (.inRegion #[o0, o1, o2] [0, 1, 2] :: k)) cs) #[rcase c z] false .select w es → step P (solo (G (b.at a (.inRegion #[o0, o1, o2] [0, 1, 2] :: k)) cs) w) = .next (solo (G ((b.at a (.inRegion #[o0, o1, o2] [0, 1, 2] :: k)).finish u) cs) w'))
    (h1 : (execOp (a.put o0.dst u).eval o1).run P w' = .ok (.value v1) w') (h2 : (execOp ((a.put o0.dst u).put o1.dst v1).eval o2).run P w' = .ok (.value v2) w')
    (hQ : Q .normal (((a.put o0.dst u).put o1.dst v1).put o2.dst v2) w') : (Code.region id #[o0, o1, o2] false).wp P Q a w := by
  intro b k cs
  obtain ⟨es, he⟩ := stepG_comm_any (b := b) (k := k) (cs := cs) (ops := #[o0, o1, o2]) (i := 0) (rest := [1, 2]) rfl g0 h0
  have h3 := hst b k cs es he
  rw [Frame.finish_at] at h3
  refine ⟨.normal, _, _, hQ, ?_⟩
  exact .head step_region (.head h3 (.head (step_op_value (i := 1) (rest := [2]) rfl g1 h1) (.head (step_op_value (i := 2) (rest := []) rfl g2 h2) (.one step_region_end))))
end

/-- The slice at A reads as the arrivals al. -/
def AR (w : World) (A : Option Addr) (al : List (Int × Int)) : Prop := ∀ (i : Nat) p, al[i]? = some p → ∃ x, A = some x ∧ w.cell? (x.add (i * 2)) = some (.int .u64 p.1) ∧ w.cell? (x.add (i * 2 + 1)) = some (.int .u8 p.2)
theorem AR.below {w w' : World} {A : Option Addr} {al : List (Int × Int)} (h : AR w A al) (k : Below w.heap.size w w') : AR w' A al := fun i p hp => by
  obtain ⟨x, hx, h1, h2⟩ := h i p hp
  exact ⟨x, hx, pw_cell_below k h1, pw_cell_below k h2⟩
/-- What lies in a channel. -/
def cbuf (al : List (Int × Int)) : Array Value := (al.map fun p => Value.agg #[.int .u64 p.1, .int .u8 p.2]).toArray
theorem cbuf_push (al : List (Int × Int)) (p : Int × Int) : (cbuf al).push (.agg #[.int .u64 p.1, .int .u8 p.2]) = cbuf (al ++ [p]) := by simp [cbuf]
theorem cbuf_size (al : List (Int × Int)) : (cbuf al).size = al.length := by simp [cbuf]

theorem add_field2 (a : Addr) (i j : Nat) (h : 0 < j) : a.add (i + j) = ⟨(a.add i).block, (a.add i).off + j, none⟩ := by
  rw [← Go.Deep.add_add]
  obtain ⟨bk, off, z⟩ := a.add i
  unfold Addr.add
  rw [if_neg (by omega)]

set_option maxRecDepth 100000 in
set_option maxHeartbeats 2000000 in
theorem wait_calls (w : World) (A : Option Addr) (n cap : Nat) (al : List (Int × Int)) (hA : AR w A al) (hn : al.length = n) (hm : n ≤ 1000000) :
    Calls Try.prog 17 #[.slice A n cap] w fun e w' => ∃ c s r, e = .returned (.chan (some c)) ∧ w.heap.size ≤ c ∧ w'.heap[c]? = some (.chan (n + 1) (cbuf al) false s r false) ∧ Below w.heap.size w w' := by
  have HA := Aside0.mk hA
  have HN := Aside0.mk hn
  have hmc : ∀ w : World, (Instr.makeChan 44 (.int .i64 ((n : Int) + 1))).run Try.prog w = .ok (.chan (some w.heap.size)) (w.alloc (.chan (n + 1) #[] false 0 0 false)) := by
    intro w
    obtain ⟨i, hi, hb⟩ := Option.map_eq_some_iff.1 (show (Try.prog.info? 40).map (·.bytes) = some 16 by kernel_rfl)
    have := run_makeChan (P := Try.prog) (w := w) Try.underlying44 hi .i64 (n + 1) (by omega) (by rw [hb]; omega)
    simpa using this
  clear hA hn
  go_enter Try.func17, Try.ntmps17
  go_wp2_with fail
  obtain ⟨C, hC⟩ : ∃ C, w.heap.size = C := ⟨_, rfl⟩
  have X1 : Aside0 ((w.alloc (.chan (n + 1) #[] false 0 0 false)).heap[C]? = some (.chan (n + 1) (cbuf []) false 0 0 false)) := ⟨by rw [← hC]; exact blk_new _ _⟩
  have B1 := Aside0.mk (below_alloc (Below.refl w.heap.size w) (.chan (n + 1) #[] false 0 0 false))
  rw [hC]
  have HC := Aside0.mk hC
  clear hC hmc
  obtain ⟨w0, hw0⟩ : ∃ w0, w.alloc (.chan (n + 1) #[] false 0 0 false) = w0 := ⟨_, rfl⟩
  rw [hw0] at X1 B1 ⊢
  clear hw0
  go_loopg [12] (n + 1) (fun g i wr => ∃ (k s r : Nat), g + k = n + 1 ∧ k ≤ n ∧ i = .int .i64 (k : Int) ∧ Aside0 (wr.heap[C]? = some (.chan (n + 1) (cbuf (al.take k)) false s r false)) ∧ Aside0 (Below w.heap.size w wr))
  case atStart => exact ⟨0, 0, 0, by omega, by omega, rfl, X1, B1⟩
  case round =>
    obtain ⟨k, s, r, hgk, hkn, rfl, XR, BR⟩ := hrel
    obtain ⟨wo, rfl⟩ : ∃ wo : World, wo = wr := ⟨_, rfl⟩
    clear X1 B1
    by_cases hlt : k < n
    · have hlt' : ((k : Int) < (n : Int)) = True := by simp; omega
      have hp := List.getElem?_eq_getElem (show k < al.length by rw [HN.out]; exact hlt)
      have hsn : al.take (k + 1) = al.take k ++ [al[k]'(by rw [HN.out]; exact hlt)] := List.take_succ_eq_append_getElem _
      generalize al[k]'_ = q at hp hsn
      obtain ⟨x, hx, a0, a1⟩ := HA.out k q hp
      subst hx
      have c0 := pw_cell_below BR.out a0
      have c1 := pw_cell_below BR.out a1
      rw [add_field2 _ _ _ (by omega)] at c1
      obtain ⟨tk, bk⟩ := q
      simp only at c0 c1
      have HSN := Aside0.mk hsn
      clear hp a0 a1 hsn
      go_upto_region 5 with fail
      have X5 := Aside0.mk (blk_below XR.out (below_alloc (Below.refl _ _) (.cells #[.int .u64 tk, .int .u8 bk] 40)))
      have B5 := Aside0.mk (below_alloc BR.out (.cells #[.int .u64 tk, .int .u8 bk] 40))
      have N0 : (wo.alloc (.cells #[.int .u64 tk, .int .u8 bk] 40)).cell? ⟨wo.heap.size, 0, none⟩ = some (.int .u64 tk) := (blk_cell (blk_new _ _) 0).trans rfl
      have N1 : (wo.alloc (.cells #[.int .u64 tk, .int .u8 bk] 40)).cell? ⟨wo.heap.size, 1, none⟩ = some (.int .u8 bk) := (blk_cell (blk_new _ _) 1).trans rfl
      clear c0 c1 XR BR
      generalize wo.alloc (.cells #[.int .u64 tk, .int .u8 bk] 40) = w5 at X5 B5 N0 N1 ⊢
      generalize wo.heap.size = D at N0 N1 ⊢
      refine wp_region_send (c := C) (cap := n + 1) (buf := cbuf (al.take k)) (s := s) (r := r) (tm := false) (v0 := .chan (some C)) (v1 := .agg #[.int .u64 tk, .int .u8 bk]) (v := .agg #[.int .u64 tk, .int .u8 bk]) (z := .tuple #[]) rfl rfl rfl (by go_simp) (by go_simp) (by simp [execOp, scase, Act.eval, Act.put]) X5.out (by rw [cbuf_size, List.length_take]; omega) ?_
      have X6 := Aside0.mk (heap_setChan w5 C (n + 1) ((cbuf (al.take k)).push (.agg #[.int .u64 tk, .int .u8 bk])) false (s + 1) r false (blk_lt X5.out))
      have B6 := Aside0.mk (below_setChan B5.out (show w.heap.size ≤ C by have := HC.out; omega) (n + 1) ((cbuf (al.take k)).push (.agg #[.int .u64 tk, .int .u8 bk])) false (s + 1) r false)
      generalize w5.setChan C (n + 1) _ false (s + 1) r false = w6 at X6 B6 ⊢
      have e6 : (cbuf (al.take k)).push (.agg #[.int .u64 tk, .int .u8 bk]) = cbuf (al.take (k + 1)) := by rw [HSN.out]; exact cbuf_push _ (tk, bk)
      rw [e6] at X6
      clear e6 X5 B5 N0 N1
      go_wp2_with fail
      go_roundg (gk - 1)
      case measure => omega
      case rel => exact ⟨k + 1, s + 1, r, by omega, by omega, by congr 1, X6, B6⟩
    · obtain rfl : k = n := by omega
      have hlt' : ((k : Int) < (k : Int)) = False := by simp
      go_wp2_with fail
      go_ret
      refine ⟨C, s, r, rfl, by have := HC.out; omega, ?_, BR.out⟩
      have := XR.out
      rwa [List.take_of_length_le (by rw [HN.out]; exact Nat.le_refl _)] at this
end Go.Proofs.Ytdalboofhckobab
