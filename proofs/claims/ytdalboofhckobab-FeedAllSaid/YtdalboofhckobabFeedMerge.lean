/- A feed's 'Merge'. -/
import Derived.Test.YtdalboofhckobabFeedLook
import Derived.BigRegion
import Derived.Maps.AppendAt
import Derived.RangeFuncBox
import Derived.Deep.DeepMust
namespace Go.Proofs.Ytdalboofhckobab
open Go Go.RowKit Go.Conc Go.Proofs.YtdalboofhckobabW.PrintWords
set_option linter.unusedVariables false
set_option linter.unusedSimpArgs false

/-- A hand, and what is left in it. -/
def Hd (w : World) (H C : Nat) (rem : List (Int × Int)) : Prop := ∃ t b has buf, IsHand w H C t b has buf ∧ rem = if has then (t, b) :: buf else buf
theorem Hd.only2 {w w' : World} {H C H' C' : Nat} {rem : List (Int × Int)} (h : Hd w H C rem) (d : Only2 H' C' w w') (h1 : H ≠ H' ∧ H ≠ C' ∧ C ≠ H' ∧ C ≠ C') : Hd w' H C rem := by
  obtain ⟨t, b, has, buf, hh, he⟩ := h
  exact ⟨t, b, has, buf, hh.only2 d h1, he⟩
theorem Hd.below {w w' : World} {H C : Nat} {rem : List (Int × Int)} (h : Hd w H C rem) (d : Below w.heap.size w w') : Hd w' H C rem := by
  obtain ⟨t, b, has, buf, hh, he⟩ := h
  exact ⟨t, b, has, buf, hh.below d, he⟩
theorem look_any (w : World) (H C : Nat) (rem : List (Int × Int)) (h : Hd w H C rem) :
    Calls Try.prog 18 #[.pointer (some ⟨H, 0, none⟩)] w fun e w' => Only2 H C w w' ∧ ∃ t b is buf, e = .returned (.tuple #[.agg #[.int .u64 t, .int .u8 b], .bool is]) ∧ IsHand w' H C t b is buf ∧ rem = (if is then (t, b) :: buf else buf) ∧ (is = false → buf = []) := by
  obtain ⟨t, b, has, buf, hh, rfl⟩ := h
  cases has with
  | true =>
    refine (look_has w H C t b buf hh).mono ?_
    rintro e w' ⟨rfl, hb⟩
    exact ⟨Only2.of_below hb, t, b, true, buf, rfl, hh.below hb, rfl, by simp⟩
  | false =>
    cases buf with
    | nil =>
      refine (look_none w H C t b hh).mono ?_
      rintro e w' ⟨rfl, hb⟩
      exact ⟨Only2.of_below hb, t, b, false, [], rfl, hh.below hb, rfl, by simp⟩
    | cons p buf =>
      obtain ⟨t', b'⟩ := p
      refine (look_recv w H C t b t' b' buf hh).mono ?_
      rintro e w' ⟨rfl, hh', ho⟩
      exact ⟨ho, t', b', true, buf, rfl, hh', rfl, by simp⟩
/-- The cells of arrivals. -/
def cells2 (al : List (Int × Int)) : List Value := al.flatMap fun p => [.int .u64 p.1, .int .u8 p.2]
theorem cells2_app (al : List (Int × Int)) (p : Int × Int) : cells2 (al ++ [p]) = cells2 al ++ [.int .u64 p.1, .int .u8 p.2] := by simp [cells2]
/-- Two lists, merged: of equal ticks the first list's go first. -/
def mrg (a b : List (Int × Int)) : List (Int × Int) := List.merge a b fun p q => decide (p.1 ≤ q.1)
theorem mrg_nil (a : List (Int × Int)) : mrg a [] = a := by cases a <;> simp [mrg, List.merge]
theorem nil_mrg (a : List (Int × Int)) : mrg [] a = a := by cases a <;> simp [mrg, List.merge]
theorem mrg_le {p q : Int × Int} (a b : List (Int × Int)) (h : p.1 ≤ q.1) : mrg (p :: a) (q :: b) = p :: mrg a (q :: b) := by simp [mrg, List.merge, h]
theorem mrg_gt {p q : Int × Int} (a b : List (Int × Int)) (h : ¬ p.1 ≤ q.1) : mrg (p :: a) (q :: b) = q :: mrg (p :: a) b := by simp [mrg, List.merge, h]
theorem mrg_len (a b : List (Int × Int)) : (mrg a b).length = a.length + b.length := by simp [mrg, List.length_merge]
/-- A row that lies in no block of the hand's. -/
theorem ownsRow_only2 {w w' : World} {base H C : Nat} {v : Value} {n : Nat} {xs : List Value} (h : w.ownsRow base 40 2 v n xs) (d : Only2 H C w w') (h1 : H < base) (h2 : C < base) : w'.ownsRow base 40 2 v n xs := by
  refine ⟨h.1, ?_⟩
  rcases h.2 with h | ⟨g, cap, cur, hv, hg, hh, r⟩
  · exact .inl h
  · exact .inr ⟨g, cap, cur, hv, hg, (d.block g (blk_lt hh) (by omega) (by omega)).trans hh, r⟩
/-- What a merge answers. -/
def Merged (w w' : World) (e : Ending) (r0 r1 : Bool) (a b : List (Int × Int)) : Prop :=
  Below w.heap.size w w' ∧ if (!r0 || !r1) = true then e = .returned (.tuple #[.slice none 0 0, .int .i64 1])
    else if a.length + b.length > 256 then e = .returned (.tuple #[.slice none 0 0, .int .i64 3])
    else ∃ v, e = .returned (.tuple #[v, .int .i64 0]) ∧ w'.ownsRow w.heap.size 40 2 v (a.length + b.length) (cells2 (mrg a b))

theorem IsHand.belowB {w w' : World} {B H C : Nat} {t b : Int} {has : Bool} {buf : List (Int × Int)} (h : IsHand w H C t b has buf) (d : Below B w w') (h1 : H < B) (h2 : C < B) : IsHand w' H C t b has buf := by
  obtain ⟨cap, s, r, hc⟩ := h.c
  exact ⟨(d.block H h1).trans h.h, cap, s, r, (d.block C h2).trans hc⟩
theorem Hd.belowB {w w' : World} {B H C : Nat} {rem : List (Int × Int)} (h : Hd w H C rem) (d : Below B w w') (h1 : H < B) (h2 : C < B) : Hd w' H C rem := by
  obtain ⟨t, b, has, buf, hh, he⟩ := h
  exact ⟨t, b, has, buf, hh.belowB d h1 h2, he⟩
theorem IsHand.hd {w : World} {H C : Nat} {t b : Int} {is : Bool} {buf : List (Int × Int)} (h : IsHand w H C t b is buf) : Hd w H C (if is then (t, b) :: buf else buf) := ⟨t, b, is, buf, h, rfl⟩
theorem IsHand.unset {w : World} {H C : Nat} {t b : Int} {is : Bool} {buf : List (Int × Int)} (h : IsHand w H C t b is buf) : Hd (w.setCell ⟨H, 3, none⟩ (.bool false)) H C buf := by
  obtain ⟨cap, s, r, hc⟩ := h.c
  refine ⟨t, b, false, buf, ⟨blk_set h.h 3 (.bool false), cap, s, r, (Below.heap_setCell _ _ _ _ ?_).trans hc⟩, rfl⟩
  rintro rfl
  have := h.h.symm.trans hc
  cases this
theorem infoArr : (Try.prog.info? 40).map (fun i => (i.zero, i.size, i.bytes)) = some (some (.agg #[.int .u64 0, .int .u8 0]), 2, 16) := by kernel_rfl
theorem row2_new (w : World) (a b : Value) (t : TypeId) : ∀ j u, [a, b][j]? = some u → (w.alloc (.cells #[a, b] t)).cell? ((⟨w.heap.size, 0, none⟩ : Addr).add j) = some u := by
  intro j u h
  rcases j with _ | _ | j
  · simp only [List.getElem?_cons_zero, Option.some.injEq] at h; subst h; exact (blk_cell (blk_new w _) 0).trans rfl
  · simp only [List.getElem?_cons_succ, List.getElem?_cons_zero, Option.some.injEq] at h; subst h; exact (blk_cell (blk_new w _) 1).trans rfl
  · simp at h
/-- Where the hands lie. -/
structure Lie (w0 : World) (base H1 C1 H2 C2 : Nat) : Prop where
  a : w0.heap.size ≤ C1
  b : C1 < H1
  c : H1 < C2
  d : C2 < H2
  e : H2 < base
/-- The merge's state: out is done, r1 and r2 are left. -/
structure MS (w0 wr : World) (base H1 C1 H2 C2 : Nat) (a b out r1 r2 : List (Int × Int)) (v : Value) : Prop where
  bl : Below w0.heap.size w0 wr
  sz : base ≤ wr.heap.size
  h1 : Hd wr H1 C1 r1
  h2 : Hd wr H2 C2 r2
  row : wr.ownsRow base 40 2 v out.length (cells2 out)
  eq : mrg a b = out ++ mrg r1 r2
section
variable {w0 w w' : World} {base H1 C1 H2 C2 : Nat} {a b out r1 r2 : List (Int × Int)} {v : Value}
theorem MS.left (h : MS w0 w base H1 C1 H2 C2 a b out r1 r2 v) (l : Lie w0 base H1 C1 H2 C2) (d : Only2 H1 C1 w w') (k : Hd w' H1 C1 r1) : MS w0 w' base H1 C1 H2 C2 a b out r1 r2 v := by
  obtain ⟨la, lb, lc, ld, le⟩ := l
  exact ⟨d.below (by omega) la h.bl, Nat.le_trans h.sz d.size, k, h.h2.only2 d (by omega), ownsRow_only2 h.row d (by omega) (by omega), h.eq⟩
theorem MS.right (h : MS w0 w base H1 C1 H2 C2 a b out r1 r2 v) (l : Lie w0 base H1 C1 H2 C2) (d : Only2 H2 C2 w w') (k : Hd w' H2 C2 r2) : MS w0 w' base H1 C1 H2 C2 a b out r1 r2 v := by
  obtain ⟨la, lb, lc, ld, le⟩ := l
  exact ⟨d.below (by omega) (by omega) h.bl, Nat.le_trans h.sz d.size, h.h1.only2 d (by omega), k, ownsRow_only2 h.row d (by omega) (by omega), h.eq⟩
theorem MS.alloc (h : MS w0 w base H1 C1 H2 C2 a b out r1 r2 v) (o : Obj) : MS w0 (w.alloc o) base H1 C1 H2 C2 a b out r1 r2 v :=
  ⟨below_alloc h.bl o, Nat.le_trans h.sz (by simp), h.h1.below (below_alloc (Below.refl _ _) o), h.h2.below (below_alloc (Below.refl _ _) o), h.row.alloc o, h.eq⟩
theorem MS.lt1 (h : MS w0 w base H1 C1 H2 C2 a b out r1 r2 v) (l : Lie w0 base H1 C1 H2 C2) (o : Obj) (v' : Value) (hg : (w.alloc o).grownBy w' v.ownBlock) : Below base w w' :=
  Below.grown (below_alloc (Below.refl _ _) o |>.mono h.sz) hg (Nat.le_trans h.sz (by simp)) fun k hk => (h.row.lt k hk).1
theorem MS.done (h : MS w0 w base H1 C1 H2 C2 a b out [] [] v) (l : Lie w0 base H1 C1 H2 C2) : w.ownsRow w0.heap.size 40 2 v (a.length + b.length) (cells2 (mrg a b)) := by
  have he := h.eq
  rw [mrg_nil, List.append_nil] at he
  have hl := congrArg List.length he
  rw [mrg_len] at hl
  obtain ⟨la, lb, lc, ld, le⟩ := l
  rw [hl, he]
  refine ⟨h.row.1, ?_⟩
  rcases h.row.2 with k | ⟨g, cap, cur, hv, hg, r⟩
  · exact .inl k
  · exact .inr ⟨g, cap, cur, hv, by omega, r⟩
/-- One arrival of the first hand's is put behind. -/
theorem MS.app1 {t1 b1 : Int} {is : Bool} {buf1 : List (Int × Int)} {v' : Value} (h : MS w0 w base H1 C1 H2 C2 a b out r1 r2 v) (l : Lie w0 base H1 C1 H2 C2) (o : Obj) (hI : IsHand w H1 C1 t1 b1 is buf1) (hg : (w.alloc o).grownBy w' v.ownBlock)
    (hr : w'.ownsRow base 40 2 v' (out.length + 1) (cells2 out ++ [.int .u64 t1, .int .u8 b1])) (he : mrg r1 r2 = (t1, b1) :: mrg buf1 r2) :
    MS w0 (w'.setCell ⟨H1, 3, none⟩ (.bool false)) base H1 C1 H2 C2 a b (out ++ [(t1, b1)]) buf1 r2 v' := by
  have hb := h.lt1 l o v' hg
  obtain ⟨la, lb, lc, ld, le⟩ := l
  have hI' := hI.belowB hb (by omega) (by omega)
  have k2 := h.h2.belowB hb le (by omega)
  refine ⟨(h.bl.trans (hb.mono (by omega))).setCell (p := ⟨H1, 3, none⟩) (show w0.heap.size ≤ H1 by omega) _, by simpa [World.setCell] using Nat.le_trans h.sz hb.size, hI'.unset, k2.only2 (Only2.set (H := H1) (C := C1) (Only2.of_below (Below.refl _ _)) 3 (.bool false)) (by omega), ?_, by rw [h.eq, he]; simp⟩
  rw [List.length_append, cells2_app]
  exact ownsRow_setCell_below hr (show H1 < base by omega) _
theorem MS.app2 {t1 b1 : Int} {is : Bool} {buf1 : List (Int × Int)} {v' : Value} (h : MS w0 w base H1 C1 H2 C2 a b out r1 r2 v) (l : Lie w0 base H1 C1 H2 C2) (o : Obj) (hI : IsHand w H2 C2 t1 b1 is buf1) (hg : (w.alloc o).grownBy w' v.ownBlock)
    (hr : w'.ownsRow base 40 2 v' (out.length + 1) (cells2 out ++ [.int .u64 t1, .int .u8 b1])) (he : mrg r1 r2 = (t1, b1) :: mrg r1 buf1) :
    MS w0 (w'.setCell ⟨H2, 3, none⟩ (.bool false)) base H1 C1 H2 C2 a b (out ++ [(t1, b1)]) r1 buf1 v' := by
  have hb := h.lt1 l o v' hg
  obtain ⟨la, lb, lc, ld, le⟩ := l
  have hI' := hI.belowB hb (by omega) (by omega)
  have k2 := h.h1.belowB hb (by omega) (by omega)
  refine ⟨(h.bl.trans (hb.mono (by omega))).setCell (p := ⟨H2, 3, none⟩) (show w0.heap.size ≤ H2 by omega) _, by simpa [World.setCell] using Nat.le_trans h.sz hb.size, k2.only2 (Only2.set (H := H2) (C := C2) (Only2.of_below (Below.refl _ _)) 3 (.bool false)) (by omega), hI'.unset, ?_, by rw [h.eq, he]; simp⟩
  rw [List.length_append, cells2_app]
  exact ownsRow_setCell_below hr (show H2 < base by omega) _
end

set_option maxRecDepth 100000 in
set_option maxHeartbeats 4000000 in
theorem merge_calls (w : World) (A B : Option Addr) (n m ca cb : Nat) (a b : List (Int × Int)) (r0 r1 : Bool) (hA : AR w A a) (hB : AR w B b) (hn : a.length = n) (hm : b.length = m) (hn4 : n ≤ 400) (hm4 : m ≤ 400)
    (ho0 : ∀ w', Below w.heap.size w w' → Calls Try.prog 16 #[.slice A n ca] w' fun e w2 => e = .returned (.bool r0) ∧ Drawn0 w' w2)
    (ho1 : ∀ w', Below w.heap.size w w' → Calls Try.prog 16 #[.slice B m cb] w' fun e w2 => e = .returned (.bool r1) ∧ Drawn0 w' w2) :
    Calls Try.prog 12 #[.slice A n ca, .slice B m cb] w fun e w' => Merged w w' e r0 r1 a b := by
  have HA := Aside0.mk hA
  have HBB := Aside0.mk hB
  have HN := Aside0.mk hn
  have HM := Aside0.mk hm
  have O0 := Aside0.mk ho0
  have O1 := Aside0.mk ho1
  have B0 := Aside0.mk (Below.refl w.heap.size w)
  clear hA hB hn hm ho0 ho1
  obtain ⟨w0, hw0⟩ : ∃ w0, w0 = w := ⟨_, rfl⟩
  rw [← hw0] at HA HBB O0 O1 B0
  have B1 : Aside0 (Below w0.heap.size w0 w) := ⟨by rw [hw0]; exact Below.refl _ _⟩
  have W0 := Aside0.mk hw0
  clear hw0 B0
  have M : ∀ (e : Ending) (w' : World), Merged w0 w' e r0 r1 a b → Merged w w' e r0 r1 a b := by rw [W0.out]; exact fun _ _ h => h
  refine Calls.mono ?_ M
  clear W0 M
  cases r0 with
  | false =>
    go_enter Try.func12, Try.ntmps12
    go_wp2
    go_step3
    go_wp2_with fail
    refine (O0.out _ B1.out).mono ?_
    rintro e w1 ⟨rfl, d1⟩
    have B2 := Aside0.mk (B1.out.trans (Below.mono d1.below B1.out.size))
    clear d1
    go_wp2_with fail
    try rw [Exit.noGoto_ret]
    refine bodyPost_ret (results_tmp2 rfl _ _ _) rfl ?_
    exact ⟨B2.out, by simp⟩
  | true =>
  cases r1 with
  | false =>
    go_enter Try.func12, Try.ntmps12
    go_wp2
    go_step3
    go_wp2_with fail
    refine (O0.out _ B1.out).mono ?_
    rintro e w1 ⟨rfl, d1⟩
    have B2 := Aside0.mk (B1.out.trans (Below.mono d1.below B1.out.size))
    clear d1
    go_wp2_with fail
    refine (O1.out _ B2.out).mono ?_
    rintro e w2 ⟨rfl, d1⟩
    have B3 := Aside0.mk (B2.out.trans (Below.mono d1.below B2.out.size))
    clear d1
    go_wp2_with fail
    try rw [Exit.noGoto_ret]
    refine bodyPost_ret (results_tmp2 rfl _ _ _) rfl ?_
    exact ⟨B3.out, by simp⟩
  | true =>
  go_enter Try.func12, Try.ntmps12
  go_wp2
  go_step3
  go_wp2_with fail
  refine (O0.out _ B1.out).mono ?_
  rintro e w1 ⟨rfl, d1⟩
  have B2 := Aside0.mk (B1.out.trans (Below.mono d1.below B1.out.size))
  clear d1
  go_wp2_with fail
  refine (O1.out _ B2.out).mono ?_
  rintro e w2 ⟨rfl, d1⟩
  have B3 := Aside0.mk (B2.out.trans (Below.mono d1.below B2.out.size))
  clear d1 B1 B2 O0 O1
  by_cases hl : n + m ≤ 256
  · have q1 : ((n : Int) > 256) = False := by simp; omega
    have q2 : ((m : Int) > 256 - (n : Int)) = False := by simp; omega
    have wa := wait_calls w2 A n ca a (HA.out.below B3.out) HN.out (by omega)
    have WA := Aside0.mk wa
    clear wa
    go_wp2_with fail
    refine WA.out.mono ?_
    rintro e w3 ⟨C1, s1, t1, rfl, hc1, X1, b3⟩
    have HC1 : Aside0 (w0.heap.size ≤ C1) := ⟨Nat.le_trans B3.out.size hc1⟩
    have B4 := Aside0.mk (B3.out.trans (Below.mono b3 B3.out.size))
    have K1 := Aside0.mk X1
    clear b3 X1 B3 WA
    have B5 := Aside0.mk (below_alloc B4.out (.cells #[.chan (some C1), .int .u64 0, .int .u8 0, .bool false] 47))
    have I1 := Aside0.mk (IsHand.mk (blk_new w3 (.cells #[.chan (some C1), .int .u64 0, .int .u8 0, .bool false] 47)) ⟨_, _, _, blk_below K1.out (below_alloc (Below.refl _ _) _)⟩)
    have LC : Aside0 (C1 < w3.heap.size) := ⟨blk_lt K1.out⟩
    have L3 : Aside0 (w3.heap.size < (w3.alloc (.cells #[.chan (some C1), .int .u64 0, .int .u8 0, .bool false] 47)).heap.size) := ⟨by simp⟩
    have wa := wait_calls (w3.alloc (.cells #[.chan (some C1), .int .u64 0, .int .u8 0, .bool false] 47)) B m cb b (HBB.out.below B5.out) HM.out (by omega)
    have WA := Aside0.mk wa
    clear wa hc1 K1 B4 q1 q2
    go_wp2_with fail
    refine WA.out.mono ?_
    rintro e w4 ⟨C2, s2, t2, rfl, hc2, X2, b4⟩
    have B6 := Aside0.mk (B5.out.trans (Below.mono b4 B5.out.size))
    have I2 := Aside0.mk (I1.out.below b4)
    have LD : Aside0 (w3.heap.size < C2) := ⟨Nat.lt_of_lt_of_le L3.out hc2⟩
    have LE : Aside0 (C2 < w4.heap.size) := ⟨blk_lt X2⟩
    have K2 := Aside0.mk X2
    clear b4 X2 B5 I1 WA L3 hc2
    generalize hH1 : w3.heap.size = H1 at *
    clear hH1
    go_upto_region 7 with fail
    have S0 : Aside0 (MS w0 (w4.alloc (.cells #[.chan (some C2), .int .u64 0, .int .u8 0, .bool false] 47)) (w4.alloc (.cells #[.chan (some C2), .int .u64 0, .int .u8 0, .bool false] 47)).heap.size H1 C1 w4.heap.size C2 a b [] a b (.slice none 0 0)) :=
      ⟨⟨below_alloc B6.out _, Nat.le_refl _, ⟨_, _, _, _, I2.out.below (below_alloc (Below.refl _ _) _), rfl⟩, ⟨_, _, _, _, IsHand.mk (blk_new w4 _) ⟨_, _, _, blk_below K2.out (below_alloc (Below.refl _ _) _)⟩, rfl⟩, World.ownsRow_nil _ _ _ _, rfl⟩⟩
    have LY : Aside0 (Lie w0 (w4.alloc (.cells #[.chan (some C2), .int .u64 0, .int .u8 0, .bool false] 47)).heap.size H1 C1 w4.heap.size C2) := ⟨⟨HC1.out, LC.out, LD.out, LE.out, by simp⟩⟩
    have HS : Aside0 (a.length + b.length ≤ 256) := ⟨by rw [HN.out, HM.out]; exact hl⟩
    have LN : Aside0 (a.length + b.length + 1 = n + m + 1) := ⟨by rw [HN.out, HM.out]⟩
    clear HC1 LC LD LE B6 I2 K2 HA HBB HN HM hl hn4 hm4
    generalize w4.alloc (.cells #[.chan (some C2), .int .u64 0, .int .u8 0, .bool false] 47) = w5 at *
    generalize hH2 : w4.heap.size = H2 at *
    clear hH2
    generalize hbase : w5.heap.size = base at *
    clear hbase
    go_step3
    go_wp2_with fail
    go_loopg [8] (n + m + 1) (fun g v wr => ∃ out r1 r2 : List (Int × Int), g = r1.length + r2.length + 1 ∧ Aside0 (MS w0 wr base H1 C1 H2 C2 a b out r1 r2 v))
    case atStart => exact ⟨[], a, b, LN.out.symm, S0⟩
    case round =>
      obtain ⟨out, r1, r2, hgk, SR⟩ := hrel
      have HG := Aside0.mk hgk
      clear hgk
      obtain ⟨wo, rfl⟩ : ∃ wo : World, wo = wr := ⟨_, rfl⟩
      clear S0
      go_wp2_with fail
      refine (look_any wo H1 C1 r1 SR.out.h1).mono ?_
      rintro e w1' ⟨o1, t1, b1, is1, buf1, rfl, k1, e1, n1⟩
      have S1 := Aside0.mk ((SR.out.left LY.out o1 (by rw [e1]; exact k1.hd)).alloc (.cells #[.int .u64 t1, .int .u8 b1] 40))
      have K1 := Aside0.mk (k1.below (below_alloc (Below.refl _ _) (.cells #[.int .u64 t1, .int .u8 b1] 40)))
      have E1 := Aside0.mk e1
      have N1 := Aside0.mk n1
      have X9 := Aside0.mk (blk_new w1' (.cells #[.int .u64 t1, .int .u8 b1] 40))
      have G9 : Aside0 (base ≤ w1'.heap.size) := ⟨Nat.le_trans SR.out.sz o1.size⟩
      clear o1 k1 e1 n1 SR
      go_wp2_with fail
      refine (look_any _ H2 C2 r2 S1.out.h2).mono ?_
      rintro e w2' ⟨o2, t2, b2, is2, buf2, rfl, k2, e2, n2⟩
      have S2 := Aside0.mk ((S1.out.right LY.out o2 (by rw [e2]; exact k2.hd)).alloc (.cells #[.int .u64 t2, .int .u8 b2] 40))
      have K2 := Aside0.mk (k2.below (below_alloc (Below.refl _ _) (.cells #[.int .u64 t2, .int .u8 b2] 40)))
      have K1' := Aside0.mk ((K1.out.only2 o2 (by obtain ⟨la, lb, lc, ld, le⟩ := LY.out; omega)).below (below_alloc (Below.refl _ _) (.cells #[.int .u64 t2, .int .u8 b2] 40)))
      have E2 := Aside0.mk e2
      have N2 := Aside0.mk n2
      have X11 := Aside0.mk (blk_new w2' (.cells #[.int .u64 t2, .int .u8 b2] 40))
      have X9' := Aside0.mk (blk_below ((o2.block _ (by simp) (by obtain ⟨la, lb, lc, ld, le⟩ := LY.out; have := G9.out; omega) (by obtain ⟨la, lb, lc, ld, le⟩ := LY.out; have := G9.out; omega)).trans X9.out) (below_alloc (Below.refl _ _) (.cells #[.int .u64 t2, .int .u8 b2] 40)))
      clear o2 k2 e2 n2 S1 K1 X9
      generalize hG : w1'.heap.size = Ga at *
      clear hG
      go_upto_region 9 with fail
      generalize hG : w2'.heap.size = Gb at *
      clear hG
      generalize w2'.alloc (.cells #[.int .u64 t2, .int .u8 b2] 40) = w8 at *
      have d0 : w8.cell? ⟨Ga, 0, none⟩ = some (.int .u64 t1) := (blk_cell X9'.out 0).trans rfl
      have d1 : w8.cell? ⟨Ga, 1, none⟩ = some (.int .u8 b1) := (blk_cell X9'.out 1).trans rfl
      have f0 : w8.cell? ⟨Gb, 0, none⟩ = some (.int .u64 t2) := (blk_cell X11.out 0).trans rfl
      have f1 : w8.cell? ⟨Gb, 1, none⟩ = some (.int .u8 b2) := (blk_cell X11.out 1).trans rfl
      have hout : out.length ≤ 256 := by
        have := congrArg List.length S2.out.eq
        rw [List.length_append, mrg_len, mrg_len] at this
        have := HS.out
        omega
      obtain ⟨i0, hi, hz0, hz1, hz2⟩ := info_parts infoArr
      have S3 := S2
      clear S2 X9' X11 G9
      cases is1 with
      | true =>
        have hr1 : r1 = (t1, b1) :: buf1 := E1.out
        subst hr1
        cases is2 with
        | false =>
          have hr2 : r2 = [] := by have := E2.out; have := N2.out rfl; simp_all
          subst hr2
          go_wp2_with (at_builtin; refine Aside0.out (?_ : Aside0 _))
          refine ⟨?_⟩
          refine wpList_append_own_at _ rfl (.tmp 63) (.tmp 65) 24 rfl base 40 i0 (.agg #[.int .u64 0, .int .u8 0]) 2 16 Try.underlying24 hi hz0 hz1 hz2 rfl (by decide) _ out.length (cells2 out) rfl (S3.out.row.alloc _) ⟨w8.heap.size, 0, none⟩ 1 1 [.int .u64 t1, .int .u8 b1] rfl rfl (row2_new _ _ _ _) (by simp [Value.oneCell']) (by simp only [maxLen]; omega) (by omega) (by have := S3.out.sz; simp; omega) ?_
          intro v1 w9 hown1 hgrow1 _ hblk1
          obtain ⟨g1, cap1, rfl⟩ := ownsRow_succ hown1
          have hb9 := S3.out.lt1 LY.out _ (.bool true) hgrow1
          have k9 := K1'.out.belowB hb9 (by obtain ⟨la, lb, lc, ld, le⟩ := LY.out; omega) (by obtain ⟨la, lb, lc, ld, le⟩ := LY.out; omega)
          have c9 : w9.cell? ⟨H1, 3, none⟩ = some (.bool true) := (blk_cell k9.h 3).trans rfl
          have z9 : w9.frozen? ⟨H1, 3, none⟩ = false := blk_frozen k9.h 3
          have HM := Aside0.mk (S3.out.app1 LY.out _ K1'.out hgrow1 hown1 (by rw [mrg_nil, mrg_nil]))
          clear hown1 hgrow1 hblk1 hb9 k9 d0 d1 f0 f1 S3
          go_wp2_with fail
          go_roundg (gk - 1)
          case measure => have := HG.out; omega
          case rel => exact ⟨_, _, _, by have := HG.out; simp only [List.length_cons, List.length_nil] at this ⊢; omega, HM⟩
        | true =>
          have hr2 : r2 = (t2, b2) :: buf2 := E2.out
          subst hr2
          by_cases hle : t1 ≤ t2
          · have HLE := Aside0.mk hle
            have hle' : (t1 ≤ t2) = True := by simp [hle]
            clear hle
            go_wp2_with (at_builtin; refine Aside0.out (?_ : Aside0 _))
            refine ⟨?_⟩
            refine wpList_append_own_at _ rfl (.tmp 63) (.tmp 65) 24 rfl base 40 i0 (.agg #[.int .u64 0, .int .u8 0]) 2 16 Try.underlying24 hi hz0 hz1 hz2 rfl (by decide) _ out.length (cells2 out) rfl (S3.out.row.alloc _) ⟨w8.heap.size, 0, none⟩ 1 1 [.int .u64 t1, .int .u8 b1] rfl rfl (row2_new _ _ _ _) (by simp [Value.oneCell']) (by simp only [maxLen]; omega) (by omega) (by have := S3.out.sz; simp; omega) ?_
            intro v1 w9 hown1 hgrow1 _ hblk1
            obtain ⟨g1, cap1, rfl⟩ := ownsRow_succ hown1
            have hb9 := S3.out.lt1 LY.out _ (.bool true) hgrow1
            have k9 := K1'.out.belowB hb9 (by obtain ⟨la, lb, lc, ld, le⟩ := LY.out; omega) (by obtain ⟨la, lb, lc, ld, le⟩ := LY.out; omega)
            have c9 : w9.cell? ⟨H1, 3, none⟩ = some (.bool true) := (blk_cell k9.h 3).trans rfl
            have z9 : w9.frozen? ⟨H1, 3, none⟩ = false := blk_frozen k9.h 3
            have HM := Aside0.mk (S3.out.app1 LY.out _ K1'.out hgrow1 hown1 (mrg_le _ _ HLE.out))
            clear hown1 hgrow1 hblk1 hb9 k9 d0 d1 f0 f1 S3
            go_wp2_with fail
            go_roundg (gk - 1)
            case measure => have := HG.out; omega
            case rel => exact ⟨_, _, _, by have := HG.out; simp only [List.length_cons, List.length_nil] at this ⊢; omega, HM⟩
          · have HLE := Aside0.mk hle
            have hle' : (t1 ≤ t2) = False := by simp [hle]
            clear hle
            go_wp2_with (at_builtin; refine Aside0.out (?_ : Aside0 _))
            refine ⟨?_⟩
            refine wpList_append_own_at _ rfl (.tmp 72) (.tmp 74) 24 rfl base 40 i0 (.agg #[.int .u64 0, .int .u8 0]) 2 16 Try.underlying24 hi hz0 hz1 hz2 rfl (by decide) _ out.length (cells2 out) rfl (S3.out.row.alloc _) ⟨w8.heap.size, 0, none⟩ 1 1 [.int .u64 t2, .int .u8 b2] rfl rfl (row2_new _ _ _ _) (by simp [Value.oneCell']) (by simp only [maxLen]; omega) (by omega) (by have := S3.out.sz; simp; omega) ?_
            intro v1 w9 hown1 hgrow1 _ hblk1
            obtain ⟨g1, cap1, rfl⟩ := ownsRow_succ hown1
            have hb9 := S3.out.lt1 LY.out _ (.bool true) hgrow1
            have k9 := K2.out.belowB hb9 (by obtain ⟨la, lb, lc, ld, le⟩ := LY.out; omega) (by obtain ⟨la, lb, lc, ld, le⟩ := LY.out; omega)
            have c9 : w9.cell? ⟨H2, 3, none⟩ = some (.bool true) := (blk_cell k9.h 3).trans rfl
            have z9 : w9.frozen? ⟨H2, 3, none⟩ = false := blk_frozen k9.h 3
            have HM := Aside0.mk (S3.out.app2 LY.out _ K2.out hgrow1 hown1 (mrg_gt _ _ (by have := HLE.out; simp only; omega)))
            clear hown1 hgrow1 hblk1 hb9 k9 d0 d1 f0 f1 S3
            go_wp2_with fail
            go_roundg (gk - 1)
            case measure => have := HG.out; omega
            case rel => exact ⟨_, _, _, by have := HG.out; simp only [List.length_cons, List.length_nil] at this ⊢; omega, HM⟩
      | false =>
        have hr1 : r1 = [] := by have := E1.out; have := N1.out rfl; simp_all
        subst hr1
        cases is2 with
        | true =>
          have hr2 : r2 = (t2, b2) :: buf2 := E2.out
          subst hr2
          go_wp2_with (at_builtin; refine Aside0.out (?_ : Aside0 _))
          refine ⟨?_⟩
          refine wpList_append_own_at _ rfl (.tmp 72) (.tmp 74) 24 rfl base 40 i0 (.agg #[.int .u64 0, .int .u8 0]) 2 16 Try.underlying24 hi hz0 hz1 hz2 rfl (by decide) _ out.length (cells2 out) rfl (S3.out.row.alloc _) ⟨w8.heap.size, 0, none⟩ 1 1 [.int .u64 t2, .int .u8 b2] rfl rfl (row2_new _ _ _ _) (by simp [Value.oneCell']) (by simp only [maxLen]; omega) (by omega) (by have := S3.out.sz; simp; omega) ?_
          intro v1 w9 hown1 hgrow1 _ hblk1
          obtain ⟨g1, cap1, rfl⟩ := ownsRow_succ hown1
          have hb9 := S3.out.lt1 LY.out _ (.bool true) hgrow1
          have k9 := K2.out.belowB hb9 (by obtain ⟨la, lb, lc, ld, le⟩ := LY.out; omega) (by obtain ⟨la, lb, lc, ld, le⟩ := LY.out; omega)
          have c9 : w9.cell? ⟨H2, 3, none⟩ = some (.bool true) := (blk_cell k9.h 3).trans rfl
          have z9 : w9.frozen? ⟨H2, 3, none⟩ = false := blk_frozen k9.h 3
          have HM := Aside0.mk (S3.out.app2 LY.out _ K2.out hgrow1 hown1 (by rw [nil_mrg, nil_mrg]))
          clear hown1 hgrow1 hblk1 hb9 k9 d0 d1 f0 f1 S3
          go_wp2_with fail
          go_roundg (gk - 1)
          case measure => have := HG.out; omega
          case rel => exact ⟨_, _, _, by have := HG.out; simp only [List.length_cons, List.length_nil] at this ⊢; omega, HM⟩
        | false =>
          have hr2 : r2 = [] := by have := E2.out; have := N2.out rfl; simp_all
          subst hr2
          go_wp2_with fail
          try rw [Exit.noGoto_ret]
          refine bodyPost_ret (results_tmp2 rfl _ _ _) rfl ?_
          exact ⟨S3.out.bl, by rw [if_neg (by simp), if_neg (by have := HS.out; omega)]; exact ⟨_, rfl, S3.out.done LY.out⟩⟩
  · have HL : Aside0 (a.length + b.length > 256) := ⟨by have := HN.out; have := HM.out; omega⟩
    by_cases hn2 : (n : Int) > 256
    · go_wp2_with fail
      try rw [Exit.noGoto_ret]
      refine bodyPost_ret (results_tmp2 rfl _ _ _) rfl ?_
      exact ⟨B3.out, by simp [HL.out]⟩
    · have q2 : ((m : Int) > 256 - (n : Int)) = True := by simp; omega
      have q1 : ((n : Int) > 256) = False := by simp; omega
      clear hn2
      go_wp2_with fail
      try rw [Exit.noGoto_ret]
      refine bodyPost_ret (results_tmp2 rfl _ _ _) rfl ?_
      exact ⟨B3.out, by simp [HL.out]⟩
end Go.Proofs.Ytdalboofhckobab
