/- The walk of the table's statements' 'step'. -/
import Derived.Test.YtbphciahojjnpaaHotAwake
import Derived.Test.YtbphciahojjnpaaHotRef
namespace Go.Proofs.Ytbphciahojjnpaa
open Go Go.RowKit Go.Deep Go.Proofs.YtbphciahojjnpaaW.PrintWords Go.Proofs.YtbphciahojjnpaaW.PrintLast Go.Proofs.YtbphciahojjnpaaW.PrintMore Go.Proofs.Ytbphciahojjnpaa.HotPlain Go.Proofs.Ytbphciahojjnpaa.QHotPlays
set_option linter.unusedVariables false
set_option linter.unusedSimpArgs false

theorem kept_only {B : Nat} {w w' : World} (h : Only B w w') : Kept w w' (fun k => k = B) := ⟨h.size, fun i hi hn => h.block i hi hn⟩
theorem TB.kept {w w' : World} {B : Nat} {W : List (Int × Int)} {S : Nat → Prop} (h : TB w B W) (k : Kept w w' S) (hn : ¬ S B) : TB w' B W := by
  obtain ⟨g, l, h, r⟩ := h
  exact ⟨g, l, ⟨blk_kept h.1 k hn, h.2⟩, r⟩

/-- What both hold: the table at B and the row v of places. -/
structure HS (W w : World) (B : Nat) (v : Value) (l : List S83) : Prop where
  bel : Below W.heap.size W w
  ge : W.heap.size ≤ B
  r : Kd.R k83 83 w W.heap.size (fun k => k ≠ B) v l
  t : TB w B (prs l)
theorem HS.below {W w w' : World} {B : Nat} {v : Value} {l : List S83} (h : HS W w B v l) (k : Below w.heap.size w w') : HS W w' B v l :=
  ⟨below_on h.bel k, h.ge, Kd.R_below h.r k, h.t.below k⟩
theorem HS.drawn {W w w' : World} {B : Nat} {v : Value} {l : List S83} (h : HS W w B v l) (d : Drawn0 w w') : HS W w' B v l := h.below d.below

/-- What a step does to the places. -/
def hstep (W : List (Int × Int)) (k pc n : Int) : List (Int × Int) :=
  if k = 1 then (hadd W pc 1).1 else if k = 2 then (hadd W pc n).1 else if k = 3 then (hforget W pc).1 else if k = 4 then [] else W

/-- Where a step ends: what both hold behind it. -/
def StepPost (W : World) (B : Nat) (W' : List (Int × Int)) (e : Ending) (w' : World) : Prop := ∃ v' l', e = .returned (.tuple #[v', .bool true]) ∧ HS W w' B v' l' ∧ prs l' = W'

set_option maxRecDepth 100000 in
set_option maxHeartbeats 1000000 in
theorem step_add1 (W w : World) (B : Nat) (v : Value) (l : List S83) (pc n : Int) (h : HS W w B v l) (h0 : 0 ≤ pc) (h1 : pc < 4294967296) (n0 : 0 ≤ n) (n1 : n < 4294967296) :
    Calls Try.prog 48 #[.pointer (some ⟨B, 0, none⟩), v, .agg #[.int .i64 1, .int .u32 pc, .int .u32 n]] w (StepPost W B (hadd (prs l) pc 1).1) := by
  obtain ⟨l', hA, hl'⟩ := ref_add l pc 1 h.t.good (by omega) (by omega)
  rw [← hl']
  have HC := Aside0.mk (fun w1 (t : TB w1 B (prs l)) => tcount_calls w1 B (prs l) pc t h0 h1)
  rw [← hl'] at HC
  obtain ⟨x, hx⟩ : ∃ x, (hadd (prs l) pc 1).2 = x := ⟨_, rfl⟩
  rw [hx] at hA HC
  have HA := Aside0.mk hA
  have hb1 := below_alloc (Below.refl w.heap.size w) (.cells #[.int .i64 1, .int .u32 pc, .int .u32 n] 79)
  have HR := Aside0.mk (Kd.R_below (Kd.R_mono (Kd.R_bound h.r) (ok' := fun k => k ≠ B ∧ k < w.heap.size) (fun k hk => ⟨hk.1, hk.2.2.1⟩)) hb1)
  have HS0 := Aside0.mk (blk_new w (.cells #[.int .i64 1, .int .u32 pc, .int .u32 n] 79))
  have H := Aside0.mk (h.below hb1)
  have hBlt := h.t.lt
  clear h hA hl' hx hb1
  obtain ⟨Q, hQ⟩ : ∃ Q, StepPost W B (prs l') = Q := ⟨_, rfl⟩
  rw [hQ]
  have HQ := Aside0.mk hQ
  clear hQ
  go_enter Try.func48, Try.ntmps48
  go_wp2_with fail
  refine (mimesisref21_Add.calls 66 (fun k => k ≠ B ∧ k < w.heap.size) v l pc 1 l' x W _ H.out.bel HR.out HA.out).mono ?_
  rintro e w1 ⟨v1, rfl, r1, b1, k1⟩
  have T1 := Aside0.mk (H.out.t.kept k1 (fun hh => hh.1 rfl))
  have R1 := Aside0.mk (Kd.R_mono r1 (ok' := fun k => k ≠ B) (fun k hk => by
    rcases hk with hk | hk
    · exact hk.1
    · rintro rfl
      have e : (w.alloc (.cells #[.int .i64 1, .int .u32 pc, .int .u32 n] 79)).heap.size = w.heap.size + 1 := Array.size_push _
      omega))
  have B1 := Aside0.mk b1
  have S1 := Aside0.mk (blk_kept HS0.out k1 (fun hh => by omega))
  have c1 : w1.cell? ⟨w.heap.size, 1, none⟩ = some (.int .u32 pc) := (blk_cell S1.out 1).trans rfl
  have c2 : w1.cell? ⟨w.heap.size, 2, none⟩ = some (.int .u32 n) := (blk_cell S1.out 2).trans rfl
  have hge := H.out.ge
  clear r1 b1 k1 HR HA HS0 H
  go_wp2_with fail
  refine (HC.out _ T1.out).mono ?_
  rintro e w2 ⟨rfl, t, o⟩
  have H2 := Aside0.mk (show HS W w2 B v1 l' from ⟨o.below hge B1.out, hge, Kd.R_kept R1.out (kept_only o) (fun k hk => hk), t⟩)
  clear t o T1 R1 B1 S1 c1 c2 HC
  go_wp2_with fail
  rw [← HQ.out]
  exact ⟨_, _, by simp, H2.out, rfl⟩

set_option maxRecDepth 100000 in
set_option maxHeartbeats 1000000 in
theorem step_addn (W w : World) (B : Nat) (v : Value) (l : List S83) (pc n : Int) (h : HS W w B v l) (h0 : 0 ≤ pc) (h1 : pc < 4294967296) (n0 : 0 ≤ n) (n1 : n < 4294967296) :
    Calls Try.prog 48 #[.pointer (some ⟨B, 0, none⟩), v, .agg #[.int .i64 2, .int .u32 pc, .int .u32 n]] w (StepPost W B (hadd (prs l) pc n).1) := by
  obtain ⟨l', hA, hl'⟩ := ref_add l pc n h.t.good (by omega) (by omega)
  rw [← hl']
  have HC := Aside0.mk (fun w1 (t : TB w1 B (prs l)) => tadd_calls w1 B (prs l) pc n t h0 h1 n0 n1)
  rw [← hl'] at HC
  obtain ⟨x, hx⟩ : ∃ x, (hadd (prs l) pc n).2 = x := ⟨_, rfl⟩
  rw [hx] at hA HC
  have HA := Aside0.mk hA
  have hb1 := below_alloc (Below.refl w.heap.size w) (.cells #[.int .i64 2, .int .u32 pc, .int .u32 n] 79)
  have HR := Aside0.mk (Kd.R_below (Kd.R_mono (Kd.R_bound h.r) (ok' := fun k => k ≠ B ∧ k < w.heap.size) (fun k hk => ⟨hk.1, hk.2.2.1⟩)) hb1)
  have HS0 := Aside0.mk (blk_new w (.cells #[.int .i64 2, .int .u32 pc, .int .u32 n] 79))
  have H := Aside0.mk (h.below hb1)
  have hBlt := h.t.lt
  clear h hA hl' hx hb1
  obtain ⟨Q, hQ⟩ : ∃ Q, StepPost W B (prs l') = Q := ⟨_, rfl⟩
  rw [hQ]
  have HQ := Aside0.mk hQ
  clear hQ
  go_enter Try.func48, Try.ntmps48
  go_wp2_with fail
  refine (mimesisref21_Add.calls 66 (fun k => k ≠ B ∧ k < w.heap.size) v l pc n l' x W _ H.out.bel HR.out HA.out).mono ?_
  rintro e w1 ⟨v1, rfl, r1, b1, k1⟩
  have T1 := Aside0.mk (H.out.t.kept k1 (fun hh => hh.1 rfl))
  have R1 := Aside0.mk (Kd.R_mono r1 (ok' := fun k => k ≠ B) (fun k hk => by
    rcases hk with hk | hk
    · exact hk.1
    · rintro rfl
      have e : (w.alloc (.cells #[.int .i64 2, .int .u32 pc, .int .u32 n] 79)).heap.size = w.heap.size + 1 := Array.size_push _
      omega))
  have B1 := Aside0.mk b1
  have S1 := Aside0.mk (blk_kept HS0.out k1 (fun hh => by omega))
  have c1 : w1.cell? ⟨w.heap.size, 1, none⟩ = some (.int .u32 pc) := (blk_cell S1.out 1).trans rfl
  have c2 : w1.cell? ⟨w.heap.size, 2, none⟩ = some (.int .u32 n) := (blk_cell S1.out 2).trans rfl
  have hge := H.out.ge
  clear r1 b1 k1 HR HA HS0 H
  go_wp2_with fail
  refine (HC.out _ T1.out).mono ?_
  rintro e w2 ⟨rfl, t, o⟩
  have H2 := Aside0.mk (show HS W w2 B v1 l' from ⟨o.below hge B1.out, hge, Kd.R_kept R1.out (kept_only o) (fun k hk => hk), t⟩)
  clear t o T1 R1 B1 S1 c1 c2 HC
  go_wp2_with fail
  rw [← HQ.out]
  exact ⟨_, _, by simp, H2.out, rfl⟩

set_option maxRecDepth 100000 in
set_option maxHeartbeats 1000000 in
theorem step_forget (W w : World) (B : Nat) (v : Value) (l : List S83) (pc n : Int) (h : HS W w B v l) (h0 : 0 ≤ pc) (h1 : pc < 4294967296) (n0 : 0 ≤ n) (n1 : n < 4294967296) :
    Calls Try.prog 48 #[.pointer (some ⟨B, 0, none⟩), v, .agg #[.int .i64 3, .int .u32 pc, .int .u32 n]] w (StepPost W B (hforget (prs l) pc).1) := by
  obtain ⟨l', hA, hl'⟩ := ref_forget l pc h.t.good
  rw [← hl']
  have HC := Aside0.mk (fun w1 (t : TB w1 B (prs l)) => tforget_calls w1 B (prs l) pc t h0 h1)
  rw [← hl'] at HC
  obtain ⟨x, hx⟩ : ∃ x, (hforget (prs l) pc).2 = x := ⟨_, rfl⟩
  rw [hx] at hA HC
  have HA := Aside0.mk hA
  have hb1 := below_alloc (Below.refl w.heap.size w) (.cells #[.int .i64 3, .int .u32 pc, .int .u32 n] 79)
  have HR := Aside0.mk (Kd.R_below (Kd.R_mono (Kd.R_bound h.r) (ok' := fun k => k ≠ B ∧ k < w.heap.size) (fun k hk => ⟨hk.1, hk.2.2.1⟩)) hb1)
  have HS0 := Aside0.mk (blk_new w (.cells #[.int .i64 3, .int .u32 pc, .int .u32 n] 79))
  have H := Aside0.mk (h.below hb1)
  have hBlt := h.t.lt
  clear h hA hl' hx hb1
  obtain ⟨Q, hQ⟩ : ∃ Q, StepPost W B (prs l') = Q := ⟨_, rfl⟩
  rw [hQ]
  have HQ := Aside0.mk hQ
  clear hQ
  go_enter Try.func48, Try.ntmps48
  go_wp2_with fail
  refine (mimesisref21_Forget.calls 66 (fun k => k ≠ B ∧ k < w.heap.size) v l pc l' x W _ H.out.bel HR.out HA.out).mono ?_
  rintro e w1 ⟨v1, rfl, r1, b1, k1⟩
  have T1 := Aside0.mk (H.out.t.kept k1 (fun hh => hh.1 rfl))
  have R1 := Aside0.mk (Kd.R_mono r1 (ok' := fun k => k ≠ B) (fun k hk => by
    rcases hk with hk | hk
    · exact hk.1
    · rintro rfl
      have e : (w.alloc (.cells #[.int .i64 3, .int .u32 pc, .int .u32 n] 79)).heap.size = w.heap.size + 1 := Array.size_push _
      omega))
  have B1 := Aside0.mk b1
  have S1 := Aside0.mk (blk_kept HS0.out k1 (fun hh => by omega))
  have c1 : w1.cell? ⟨w.heap.size, 1, none⟩ = some (.int .u32 pc) := (blk_cell S1.out 1).trans rfl
  have c2 : w1.cell? ⟨w.heap.size, 2, none⟩ = some (.int .u32 n) := (blk_cell S1.out 2).trans rfl
  have hge := H.out.ge
  clear r1 b1 k1 HR HA HS0 H
  go_wp2_with fail
  refine (HC.out _ T1.out).mono ?_
  rintro e w2 ⟨rfl, t, o⟩
  have H2 := Aside0.mk (show HS W w2 B v1 l' from ⟨o.below hge B1.out, hge, Kd.R_kept R1.out (kept_only o) (fun k hk => hk), t⟩)
  clear t o T1 R1 B1 S1 c1 c2 HC
  go_wp2_with fail
  rw [← HQ.out]
  exact ⟨_, _, by simp, H2.out, rfl⟩

set_option maxRecDepth 100000 in
set_option maxHeartbeats 1000000 in
theorem step_clear (W w : World) (B : Nat) (v : Value) (l : List S83) (pc n : Int) (h : HS W w B v l) :
    Calls Try.prog 48 #[.pointer (some ⟨B, 0, none⟩), v, .agg #[.int .i64 4, .int .u32 pc, .int .u32 n]] w (StepPost W B []) := by
  have H := Aside0.mk (h.below (below_alloc (Below.refl w.heap.size w) (.cells #[.int .i64 4, .int .u32 pc, .int .u32 n] 79)))
  clear h
  obtain ⟨Q, hQ⟩ : ∃ Q, StepPost W B [] = Q := ⟨_, rfl⟩
  rw [hQ]
  have HQ := Aside0.mk hQ
  clear hQ
  go_enter Try.func48, Try.ntmps48
  go_wp2_with fail
  refine (tclear_calls _ B _ H.out.t).mono ?_
  rintro e w2 ⟨rfl, t, o⟩
  have H2 := Aside0.mk (show HS W w2 B (.slice none 0 0) [] from ⟨o.below H.out.ge H.out.bel, H.out.ge, Kd.R_nil _ _ _ _ _, t⟩)
  clear t o H
  go_wp2_with fail
  rw [← HQ.out]
  exact ⟨_, _, by simp, H2.out, rfl⟩

set_option maxRecDepth 100000 in
set_option maxHeartbeats 1000000 in
theorem step_none (W w : World) (B : Nat) (v : Value) (l : List S83) (k pc n : Int) (h : HS W w B v l) (k1 : (k == 1) = false) (k2 : (k == 2) = false) (k3 : (k == 3) = false) (k4 : (k == 4) = false) :
    Calls Try.prog 48 #[.pointer (some ⟨B, 0, none⟩), v, .agg #[.int .i64 k, .int .u32 pc, .int .u32 n]] w (StepPost W B (prs l)) := by
  have H := Aside0.mk (h.below (below_alloc (Below.refl w.heap.size w) (.cells #[.int .i64 k, .int .u32 pc, .int .u32 n] 79)))
  clear h
  obtain ⟨Q, hQ⟩ : ∃ Q, StepPost W B (prs l) = Q := ⟨_, rfl⟩
  rw [hQ]
  have HQ := Aside0.mk hQ
  clear hQ
  go_enter Try.func48, Try.ntmps48
  go_wp2_with fail
  rw [← HQ.out]
  exact ⟨_, _, rfl, H.out, rfl⟩

theorem hstep_calls (W w : World) (B : Nat) (v : Value) (l : List S83) (k pc n : Int) (h : HS W w B v l) (h0 : 0 ≤ pc) (h1 : pc < 4294967296) (n0 : 0 ≤ n) (n1 : n < 4294967296) :
    Calls Try.prog 48 #[.pointer (some ⟨B, 0, none⟩), v, .agg #[.int .i64 k, .int .u32 pc, .int .u32 n]] w (StepPost W B (hstep (prs l) k pc n)) := by
  unfold hstep
  by_cases k1 : k = 1
  · subst k1; rw [if_pos rfl]; exact step_add1 W w B v l pc n h h0 h1 n0 n1
  · rw [if_neg k1]
    by_cases k2 : k = 2
    · subst k2; rw [if_pos rfl]; exact step_addn W w B v l pc n h h0 h1 n0 n1
    · rw [if_neg k2]
      by_cases k3 : k = 3
      · subst k3; rw [if_pos rfl]; exact step_forget W w B v l pc n h h0 h1 n0 n1
      · rw [if_neg k3]
        by_cases k4 : k = 4
        · subst k4; rw [if_pos rfl]; exact step_clear W w B v l pc n h
        · rw [if_neg k4]
          exact step_none W w B v l k pc n h (beq_eq_false_iff_ne.2 k1) (beq_eq_false_iff_ne.2 k2) (beq_eq_false_iff_ne.2 k3) (beq_eq_false_iff_ne.2 k4)

end Go.Proofs.Ytbphciahojjnpaa
