/- The queue's methods, one contract each for whatever queue; a row argument, as it is read. -/
import Derived.RangeFuncWrites
import Derived.RangeFuncBox
import Derived.RangeFuncBound
import Derived.RangeFuncLeaves
import Derived.Test.YtfnbpmkbjbibkaaProg
import Derived.Test.YtfnbpmkbjbibkaaFifo
import Derived.RangeFuncNested
import Derived.RangeFuncCalls
import Derived.Shelf.Abstract
import Derived.WalkKit
import Derived.OwnWalkIn
import Derived.TacticsInMore
import Derived.LoopNIn
import Derived.LoopIn
import Derived.Maps.AppendAt
import Derived.Stop.RegionWithIn
import Derived.Test.YtfnbpmkbjbibkaaDrawn
import Derived.Test.YtfnbpmkbjbibkaaOpens
namespace Go.Proofs.Ytfnbpmkbjbibkaa
open Go Go.RowKit
set_option linter.unusedVariables false

theorem range_bound {P : Program} {α : Type} {g : Operand} {ps : Array Tmp} {assign body : Code} {Q : Exit → Act → World → Prop} {a : Act} {w : World} {gf : Nat} {fb : Array Value}
    (hg : a.eval g = .func (.func gf) fb #[]) (eg : ∀ args w, (callFunc gf args).run P w = .ok (.enter gf args) w)
    {encs : α → Array Value} (xs : List α) (hps : ∀ x, (encs x).size = ps.size) (n0 : Nat) (hn0 : n0 ≤ w.heap.size)
    (I : List α → World → Prop) (hI : OwnFrom w.heap.size I) (h0 : I [] w) (a₁ : α → Act)
    (hassign : ∀ (l : Nat) (x : α) (W : World) (K : Act → World → Prop), K (a₁ x) W →
      assign.wpIn (Fence.wide.inRound l) 0 P (Exit.then K (fun _ _ _ => False)) { tmps := (ps.zip (encs x)).foldl (fun t (p, v) => t.setIfInBounds p v) a.tmps, defers := [] } W)
    (hbody : ∀ (l : Nat) (pre : List α) (x : α) (W : World), I pre W → pre.length < xs.length → w.heap.size ≤ W.heap.size →
      body.wpIn (Fence.wide.inRound l) 0 P (fun e _ W' => e = .normal ∧ KeepsFrom w.heap.size W W' ∧ Below n0 W W' ∧ I (pre ++ [x]) W') (a₁ x) W)
    (hiter : ∀ (l : Nat) (J : List α → World → Prop) (W1 : World), Below n0 w W1 → AbidesFrom W1.heap.size J →
      (∀ pre x W, J pre W → pre.length < xs.length → YieldAt Fence.wide 0 P l (encs x) W fun e W' => e = .returned (.bool true) ∧ J (pre ++ [x]) W' ∧ Below n0 W W') →
      J [] W1 → CallsIn Fence.wide 0 P gf (fb ++ #[.func (.yield l) #[] #[]]) W1 fun e W' => (∃ v, e = .returned v) ∧ J xs W')
    (hdone : ∀ (D : Nat) (W : World), w.heap.size ≤ D → I xs W → W.heap[D]? = some (.deferred (some [])) → Q .normal { a with defers := { target := .collected D, args := #[] } :: a.defers } W) :
    (Code.rangeFunc g ps assign body).wpIn Fence.wide 0 P Q a w := by
  refine wpIn_rangeFunc fun fn hfn => ?_
  have hrd : Fence.wide.round = none := rfl
  rw [hrd]
  -- the loop's record, and the block of its rounds' deferred calls
  let rec0 : LoopState → Option Code → Loop := fun st pe => { state := st, pending := pe, fn, tmps := a.tmps, params := ps, assign, body, defers := w.heap.size }
  have hput : ∀ (W : World) (st : LoopState) (pe : Option Code), W.putObj (w.heap.size + 1) (.loop { rec0 .ready none with state := st, pending := pe }) = W.putObj (w.heap.size + 1) (.loop (rec0 st pe)) := fun _ _ _ => rfl
  obtain ⟨W1, hW1⟩ : ∃ W1, (w.alloc (.deferred (some []))).alloc (.loop (rec0 .ready none)) = W1 := ⟨_, rfl⟩
  have s1 : W1.heap.size = w.heap.size + 1 + 1 := by rw [← hW1]; simp
  have hrec1 : W1.heap[w.heap.size + 1]? = some (.loop (rec0 .ready none)) := by
    rw [← hW1]
    have := World.alloc_heap_new (w.alloc (.deferred (some []))) (.loop (rec0 .ready none))
    rwa [World.size_alloc] at this
  have hdef1 : W1.heap[w.heap.size]? = some (.deferred (some [])) := by
    rw [← hW1]
    exact (Below.heap_alloc _ _ _ (by simp)).trans (World.alloc_heap_new w _)
  have hI1 : I [] W1 := by rw [← hW1]; exact hI.alloc _ (hI.alloc _ h0)
  have hb1 : Below n0 w W1 := by
    rw [← hW1]
    exact ((Below.refl n0 w).alloc hn0 _).alloc (by simp; omega) _
  refine ⟨w.heap.size + 1, [{ target := .collected w.heap.size, args := #[] }], W1, { target := .fn (.func gf) #[], args := fb ++ #[.func (.yield (w.heap.size + 1)) #[] #[]] }, W1, gf,
    fb ++ #[.func (.yield (w.heap.size + 1)) #[] #[]], W1, ?_, ?_, ?_, ?_, ?_, ?_⟩
  · rw [← hW1]; exact run_enterLoop_outer _ _ _ _ _
  · simp only [resolve, hg]
    simp [go_sem]
  · intro f' hf'
    trivial
  · simp [invoke, go_sem, eg]
  · intro h; cases h
  · -- what is kept between two rounds
    have hput2 : ∀ {W : World} {o : Obj} {st : LoopState} {pe : Option Code} {pre : List α}, I pre W → W.heap[w.heap.size + 1]? = some o → o.isCells = false → I pre (W.putObj (w.heap.size + 1) (.loop (rec0 st pe))) :=
      fun hi hl ho => hI.putObj _ hi (by omega) hl ho
    have kb : ∀ {W : World} (o' : Obj), w.heap.size + 1 < W.heap.size → Below n0 W (W.putObj (w.heap.size + 1) o') := fun {W} o' hlt =>
      ⟨rfl, rfl, rfl, by simp, fun k hk => World.putObj_heap_other (by omega)⟩
    refine (hiter (w.heap.size + 1) (fun pre W => I pre W ∧ W.heap[w.heap.size + 1]? = some (.loop (rec0 .ready none)) ∧ W.heap[w.heap.size]? = some (.deferred (some []))) W1 hb1 ?_ ?_ ⟨hI1, hrec1, hdef1⟩).mono ?_
    · rintro s A B row ⟨hi, hl, hk⟩ hgr hr
      have hw : ∀ (k : Nat) (o : Obj), A.heap[k]? = some o → o.isWalk = false → B.heap[k]? = some o := fun k o hk ho => (grownBy_keeps hgr (fun r e => (hr r e).2) hk ho).trans hk
      exact ⟨hI s A B row hi hgr (fun r e => by
        obtain ⟨hB, o, ho, hwk⟩ := hr r e
        exact ⟨by omega, o, ho, Obj.not_cells_of_walk hwk⟩), hw _ _ hl rfl, hw _ _ hk rfl⟩
    · rintro pre x W ⟨hi, hl, hk⟩ hlen
      have hlt : w.heap.size + 1 < W.heap.size := (Array.getElem?_eq_some_iff.1 hl).1
      refine ⟨fn, _, assign, body, run_yield (P := P) (args := encs x) hl (hps x), roundIn_of_wpIn hfn (hassign _ x W _ ⟨_, run_beginRound hl rfl, ?_⟩)⟩
      have hl2 : (W.putObj (w.heap.size + 1) (.loop (rec0 .busy none))).heap[w.heap.size + 1]? = some (.loop (rec0 .busy none)) := World.putObj_heap_same hlt
      have hk2 : (W.putObj (w.heap.size + 1) (.loop (rec0 .busy none))).heap[w.heap.size]? = some (.deferred (some [])) := (World.putObj_heap_other (by omega)).trans hk
      refine wpIn_mono (hbody _ pre x _ (hput2 hi hl rfl) hlen (by simp; omega)) ?_
      rintro e a3 W3 ⟨rfl, hk3, hb3, hi3⟩
      have hl3 : W3.heap[w.heap.size + 1]? = some (.loop (rec0 .busy none)) := hk3.same _ _ (by omega) hl2 rfl
      have hk4 : W3.heap[w.heap.size]? = some (.deferred (some [])) := hk3.same _ _ (Nat.le_refl _) hk2 rfl
      have hlt3 : w.heap.size + 1 < W3.heap.size := (Array.getElem?_eq_some_iff.1 hl3).1
      exact ⟨_, _, run_endRound (P := P) none hl3, rfl, ⟨hput2 hi3 hl3 rfl, World.putObj_heap_same hlt3, (World.putObj_heap_other (by omega)).trans hk4⟩, ((kb _ hlt).trans hb3).trans (kb _ hlt3)⟩
    · rintro e W2 ⟨⟨v, rfl⟩, hi, hl, hk⟩
      exact ⟨none, _, run_endLoop (P := P) hl (by intro h; cases h), hdone _ _ (Nat.le_refl _) (hput2 hi hl rfl) ((World.putObj_heap_other (by omega)).trans hk)⟩

end Go.Proofs.Ytfnbpmkbjbibkaa

namespace Go.Proofs.Ytfnbpmkbjbibkaa
open Go Go.RowKit Go.Shelf Go.Proofs.YtfnbpmkbjbibkaaW.PrintWords Go.Proofs.Ytfnbpmkbjbibkaa.FifoPlain
attribute [local go_sem] Oper.semAt_some
set_option linter.unusedVariables false
set_option linter.unusedSimpArgs false

theorem IsF.below' {w w' : World} {B n0 : Nat} {q : List Int} (h : IsF w B q) (k : Below n0 w w') (hB : B < n0) : IsF w' B q := by
  obtain ⟨b, f, n, h1, h2, h3, hh, h4⟩ := h
  exact ⟨b, f, n, h1, h2, h3, (k.block B hB).trans hh, h4⟩

set_option maxRecDepth 100000 in
set_option maxHeartbeats 1000000 in
theorem each_in (w : World) (B : Nat) (q : List Int) (n0 l : Nat) (h : IsF w B q) (hB : B < n0) (J : List Int → World → Prop) (W1 : World) (hb : Below n0 w W1) (hJ : AbidesFrom W1.heap.size J)
    (hY : ∀ pre x W, J pre W → pre.length < q.length → YieldAt Fence.wide 0 Try.prog l #[.int .u8 x] W fun e W' => e = .returned (.bool true) ∧ J (pre ++ [x]) W' ∧ Below n0 W W') (h0 : J [] W1) :
    CallsIn Fence.wide 0 Try.prog 85 #[.pointer (some ⟨B, 0, none⟩), .func (.yield l) #[] #[]] W1 fun e W' => (∃ v, e = .returned v) ∧ J q W' := by
  refine callsIn_of_wp Try.func85 rfl trivial ?_ rfl
  simp only [Try.ntmps85, List.size_toArray, List.length_cons, List.length_nil, Nat.reduceAdd, Nat.reduceSub, Array.replicate_succ, Array.replicate_zero, List.push_toArray, List.append_toArray, List.nil_append, List.cons_append]
  have hlen : (q.length : Int) ≤ 16 := by have := h.length; omega
  gi_wp2_with fail
  refine ⟨trivial, rfl, ?_⟩
  refine (callsIn_wide.2 (len_calls _ B q (h.below' hb hB))).mono ?_
  rintro e w' ⟨rfl, rfl⟩
  gi_wp2_with fail
  gi_loopw [7] (fun i wr => ∃ k : Nat, k ≤ q.length ∧ i = .int .i64 (k : Int) ∧ Aside0 (J (q.take k) wr) ∧ Aside0 (Below n0 w wr)) (fun i _ => q.length - (intOf i).toNat)
  case atStart => exact ⟨0, Nat.zero_le _, rfl, ⟨by simpa using h0⟩, ⟨hb⟩⟩
  case round =>
    obtain ⟨k, hk, rfl, hj, hw⟩ := hrel
    by_cases hlt : k < q.length
    · have hF := h.below' hw.out hB
      obtain ⟨b, fi, n, h1, h2, h3, hh, hq⟩ := hF
      have hkn : k < n := by rw [hq, view_length] at hlt; exact hlt
      obtain ⟨x, hx⟩ : ∃ x, b.getD ((fi + k) % 16) 0 = x := ⟨_, rfl⟩
      have hqk : q[k]? = some x := by rw [hq, view_get b fi n k hkn, hx]
      have hq1 : q.take (k + 1) = q.take k ++ [x] := by
        rw [List.take_succ_eq_append_getElem hlt]
        rw [List.getElem?_eq_getElem hlt] at hqk
        rw [Option.some.inj hqk]
      have hf : wr.cell? ⟨B, 16, none⟩ = some (.int .i64 (fi : Int)) := (blk_cell hh 16).trans (fcells_first h1)
      have hi : wr.cell? ⟨B, (fi + k) % 16, none⟩ = some (.int .u8 x) := by rw [← hx]; exact (blk_cell hh _).trans (fcells_b h1 (Nat.mod_lt _ (by decide)))
      have Q1 := Aside0.mk hq1
      have hJ' := hj.out
      have g1 : AbidesFrom W1.heap.size J := hJ
      have hsz : W1.heap.size ≤ W1.heap.size := Nat.le_refl _
      have hjd : J (q.take k) wr.drew := hJ _ wr _ none hj.out ⟨rfl, rfl, rfl, Nat.le_refl _, fun _ _ _ => rfl⟩ (fun r e => by cases e)
      obtain ⟨fn, tmps, assign, body, hy, hR⟩ := hY (q.take k) x wr.drew hjd (by simp; omega)
      obtain ⟨m, hm⟩ : ∃ m, (fi + k) % 16 = m := ⟨_, rfl⟩
      rw [hm] at hi
      have hm16 : m < 16 := by omega
      have m0 : (0 : Int) ≤ (m : Int) := by omega
      have m1 : (m : Int) < 16 := by omega
      have e1 : (IntKind.i64.wrap ((fi : Int) + (k : Int))).tmod 16 = (m : Int) := by
        have : IntKind.i64.wrap ((fi : Int) + (k : Int)) = ((fi + k : Nat) : Int) := by simp [IntKind.wrap, IntKind.bits, IntKind.signed]; omega
        rw [this, Int.tmod_eq_emod_of_nonneg (by omega)]
        omega
      clear hm
      clear hh hq hqk hq1 hx hJ' hkn
      gi_wp2_with fail
      gi_region_with (refine ⟨rfl, ?_⟩; refine hR.mono ?_; rintro e W' ⟨rfl, hj', hb'⟩)
      have HJ2 := Aside0.mk hj'
      rw [← Q1.out] at HJ2
      have HB2 := Aside0.mk (hw.out.trans (Below.drew (Below.refl n0 wr) |>.trans hb'))
      clear hj' hb' hR hy hj hw hf hi
      gi_wp2
      go_roundw
      case rel => exact ⟨k + 1, by omega, by go_num, HJ2, HB2⟩
      case measure => simp [intOf]; omega
    · obtain rfl : k = q.length := by omega
      have HJ2 := hj.out
      rw [List.take_length] at HJ2
      have HJ2 := Aside0.mk HJ2
      clear hj
      gi_wp2
      refine bodyPost_end (results_none rfl _ _ _) rfl ?_
      exact ⟨⟨_, rfl⟩, HJ2.out⟩

theorem infoU8 : (Try.prog.info? 5).map (fun i => (i.zero, i.size, i.bytes)) = some (some (.int .u8 0), 1, 1) := by kernel_rfl

set_option maxRecDepth 100000 in
set_option maxHeartbeats 2000000 in
theorem all_in (w : World) (B : Nat) (q : List Int) (h : IsF w B q) :
    CallsIn Fence.wide 0 Try.prog 70 #[.pointer (some ⟨B, 0, none⟩)] w fun e W' => ∃ v, e = .returned v ∧ W'.ownsRow w.heap.size 5 1 v q.length (q.map (Value.int .u8)) ∧ Below w.heap.size w W' := by
  obtain ⟨i0, hi, hz0, hz1, hz2⟩ := info_parts infoU8
  have hq16 := h.length
  have hBlt := h.lt
  have H := Aside0.mk h
  clear h
  refine callsIn_of_wp_marks Try.func70 rfl trivial ?_ rfl
  simp only [Try.ntmps70, List.size_toArray, List.length_cons, List.length_nil, Nat.reduceAdd, Nat.reduceSub, Array.replicate_succ, Array.replicate_zero, List.push_toArray, List.append_toArray, List.nil_append, List.cons_append]
  gi_wp2_with fail
  have bO := Boxed.new w 40 (.slice none 0 0)
  have hB0 : Below w.heap.size w (w.alloc (.cells #[.slice none 0 0] 40)) := (Below.refl _ w).alloc (Nat.le_refl _) _
  refine range_bound (gf := 85) (fb := #[.pointer (some ⟨B, 0, none⟩)]) rfl (enters_of Try.func85 (by kernel_rfl) rfl) (encs := fun x : Int => #[Value.int .u8 x]) q (fun _ => rfl) w.heap.size (by simp)
    (fun pre W => (∃ v, Boxed W w.heap.size 40 v ∧ W.ownsRow w.heap.size 5 1 v pre.length (pre.map (Value.int .u8)) ∧ (v = .slice none 0 0 ↔ pre = [])) ∧ Below w.heap.size w W)
    (OwnFrom.and (Own.from (holdsRow_own w.heap.size w.heap.size 40 5 1 (fun pre => pre.length) (fun pre => pre.map (Value.int .u8)) (fun pre v => v = .slice none 0 0 ↔ pre = [])) _) (ownFrom_below (Nat.le_refl _) (by simp)))
    ⟨⟨_, bO, World.ownsRow_nil _ _ _ _, by simp⟩, hB0⟩
    (fun x => { tmps := #[.pointer (some ⟨B, 0, none⟩), undef, .slice none 0 0, .pointer (some ⟨w.heap.size, 0, none⟩), .int .u8 x, .pointer (some ⟨B, 0, none⟩), .func (.func 85) #[.pointer (some ⟨B, 0, none⟩)] #[], .int .u8 x, undef, undef, undef, undef, undef], defers := [] }) ?assign ?body ?iter ?done
  case assign =>
    intro l x W K hK
    gi_wp2
    exact hK
  case body =>
    rintro l pre x W ⟨⟨v, hv, hrow, hnil⟩, hB⟩ hlt hle
    have hc := hv.cell
    gi_wp2_with (gi_at_builtin; refine wpListIn_append_own _ rfl _ _ 40 rfl w.heap.size 5 i0 (.int .u8 0) 1 1 Try.underlying40 hi hz0 hz1 hz2 rfl (by decide) _ _ _ rfl (hrow.alloc _) ⟨W.heap.size, 0, none⟩ 1 1 [.int .u8 x] rfl rfl (cell_one_new _ _ _) (by simp [Value.oneCell']) (by simp only [maxLen]; omega) (by omega) (by have := hB.size; simp; omega) ?_; intro v' w1 hown' hgrow _; obtain ⟨g', cap', rfl⟩ := ownsRow_succ hown'; obtain ⟨hv1, hv2, hr2, hk2, hb2⟩ := hv.appended (by decide) hrow hB.size (Nat.le_refl _) hown' hgrow; have hc1 := hv1.cell; have hf1 := hv1.frozen)
    exact ⟨hk2.from _, ⟨_, hv2, by simpa using hr2, by simp⟩, hB.trans hb2⟩
  case iter =>
    intro l J W1 hb hJ hY h0
    exact each_in _ B q w.heap.size l (H.out.below hB0) hBlt J W1 hb hJ hY h0
  case done =>
    rintro D W hD ⟨⟨v, hv, hrow, hnil⟩, hB⟩ hK
    have hc := hv.cell
    gi_wp2
    refine ⟨by simp, .inl ⟨_, _, rfl, run_takeDeferred hK, ?_⟩⟩
    exact ⟨_, results_tmp rfl _ _ _, v, rfl, ownsRow_putObj hrow _ hK rfl, hB.trans (belowK_b (w := w) (Nat.le_refl _) W D _ _ (by simp at hD; omega) hK rfl rfl)⟩

/-- An own row of bytes, as it is read. -/
theorem own_reads {w : World} {base : Nat} {v : Value} {q : List Int} (h : w.ownsRow base 5 1 v q.length (q.map (Value.int .u8))) : ∃ A c, v = .slice A q.length c ∧ q.length ≤ c ∧ (Kd.int .u8).C w A q.length q := by
  rcases h.2 with ⟨rfl, h0⟩ | ⟨g, cap, cur, rfl, hg, hh, hn, hm, hs, ht⟩
  · have : q = [] := List.eq_nil_of_length_eq_zero h0
    subst this
    exact ⟨none, 0, rfl, Nat.le_refl _, rfl, by simp, fun h => absurd h (by simp)⟩
  · refine ⟨_, cap, rfl, hn, rfl, by unfold maxLen at hm; omega, fun _ => ⟨_, rfl, fun j p hp => ⟨[.int .u8 p], rfl, rfl, fun i u hu => ?_⟩⟩⟩
    have hi : i = 0 ∧ u = .int .u8 p := by
      cases i with
      | zero => simp at hu; exact ⟨rfl, hu.symm⟩
      | succ i => simp at hu
    obtain ⟨rfl, rfl⟩ := hi
    have e1 : (⟨g, 0, none⟩ : Addr).add (j * (Kd.int .u8).sz + 0) = ⟨g, j, none⟩ := by
      show (⟨g, 0, none⟩ : Addr).add (j * 1 + 0) = _
      simp [Addr.add]; try omega
    rw [e1, blk_cell hh]
    have hj : j < q.length := (List.getElem?_eq_some_iff.1 hp).1
    have h2 : (q.map (Value.int .u8))[j]? = some (.int .u8 p) := by simp [hp]
    rw [← ht, List.getElem?_take, if_pos (by omega)] at h2
    simpa using h2

theorem all_calls (w : World) (B : Nat) (q : List Int) (h : IsF w B q) :
    Calls Try.prog 70 #[.pointer (some ⟨B, 0, none⟩)] w fun e w' => (∃ A c, e = .returned (.slice A q.length c) ∧ q.length ≤ c ∧ (Kd.int .u8).C w' A q.length q) ∧ Below w.heap.size w w' :=
  (callsIn_wide.1 (all_in w B q h)).mono fun e w' ⟨v, he, ho, hb⟩ => by
    obtain ⟨A, c, rfl, hc, hC⟩ := own_reads ho
    exact ⟨⟨A, c, he, hc, hC⟩, hb⟩

end Go.Proofs.Ytfnbpmkbjbibkaa

namespace Go.Proofs.Ytfnbpmkbjbibkaa
open Go Go.RowKit Go.Proofs.YtfnbpmkbjbibkaaW.PrintWords Go.Proofs.Ytfnbpmkbjbibkaa.FifoPlain
set_option linter.unusedVariables false

/-- What a push leaves. -/
def qpush (q : List Int) (x : Int) : List Int := if q.length < 16 then q ++ [x] else q
theorem qpush_len (q : List Int) (x : Int) (h : q.length ≤ 16) : (qpush q x).length ≤ 16 := by
  unfold qpush; split
  · simp; omega
  · exact h
theorem flen_calls (w : World) (B : Nat) (q : List Int) (h : IsF w B q) : Calls Try.prog 90 #[.pointer (some ⟨B, 0, none⟩)] w fun e w' => e = .returned (.int .i64 (q.length : Int)) ∧ Drawn0 w w' :=
  (len_calls w B q h).mono fun e w' ⟨a, b⟩ => ⟨a, drawn_eq b⟩

/-- A row argument of bytes, as it is read. -/
theorem row_C {w : World} {A : Option Addr} {len cap : Nat} {zs : List Int} (h : IsRow .u8 w A len cap zs) : (Kd.int .u8).C w A (zs.take len).length (zs.take len) ∧ (zs.take len).length = len ∧ len ≤ cap := by
  rcases h with ⟨rfl, rfl, rfl, rfl⟩ | ⟨x, rfl, hl, hm, hz, hc, hw⟩
  · exact ⟨⟨rfl, by simp, fun h => absurd h (by simp)⟩, rfl, Nat.le_refl _⟩
  · have hlen : (zs.take len).length = len := by rw [List.length_take]; omega
    refine ⟨⟨rfl, by rw [hlen]; unfold maxLen at hm; omega, fun _ => ⟨x, rfl, fun j p hp => ⟨[.int .u8 p], rfl, rfl, fun i u hu => ?_⟩⟩⟩, hlen, hl⟩
    have hi : i = 0 ∧ u = .int .u8 p := by
      cases i with
      | zero => simp at hu; exact ⟨rfl, hu.symm⟩
      | succ i => simp at hu
    obtain ⟨rfl, rfl⟩ := hi
    have e1 : x.add (j * (Kd.int .u8).sz + 0) = x.add j := by
      show x.add (j * 1 + 0) = _
      rw [Nat.mul_one, Nat.add_zero]
    have hj : j < len := by have := (List.getElem?_eq_some_iff.1 hp).1; omega
    rw [e1, hc j (by omega)]
    rw [List.getElem?_take, if_pos hj] at hp
    rw [List.getD_eq_getElem?_getD, hp]
    rfl

end Go.Proofs.Ytfnbpmkbjbibkaa
