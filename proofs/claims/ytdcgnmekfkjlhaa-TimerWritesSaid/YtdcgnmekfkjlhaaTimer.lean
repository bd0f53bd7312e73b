/- The timer's methods, each by its contract: Now, Up, Left, Skip. -/
import Derived.Test.YtdcgnmekfkjlhaaOnly
import Derived.Test.YtdcgnmekfkjlhaaProg
import Derived.WalkKit
import Derived.RegionTactic
import Derived.Deep.QuietTactic
import Derived.BigQuiet
import Derived.Deep.RegionWith
namespace Go.Proofs.Ytdcgnmekfkjlhaa
open Go Go.RowKit Go.Proofs.YtdcgnmekfkjlhaaW.PrintWords
set_option linter.unusedVariables false
set_option linter.unusedSimpArgs false

/-- Block B of the world is a timer. -/
def IsT (w : World) (B : Nat) (o m : Int) (s : Bool) : Prop := w.heap[B]? = some (.cells #[.int .u64 o, .int .u64 m, .bool s] 24 (0, 0))
theorem IsT.lt {w : World} {B : Nat} {o m : Int} {s : Bool} (h : IsT w B o m s) : B < w.heap.size := blk_lt h
theorem IsT.below {w w' : World} {B : Nat} {o m : Int} {s : Bool} (h : IsT w B o m s) (k : Below w.heap.size w w') : IsT w' B o m s := blk_below h k
theorem IsT.only {w w' : World} {B B' : Nat} {o m : Int} {s : Bool} (h : IsT w B o m s) (k : Only B' w w') (hn : B ≠ B') : IsT w' B o m s := blk_only h k hn
theorem IsT.drawn {w w' : World} {B : Nat} {o m : Int} {s : Bool} (h : IsT w B o m s) (k : Drawn0 w w') : IsT w' B o m s := by
  obtain ⟨⟨n, rfl⟩⟩ := k; exact h
theorem IsT.drewN {w : World} {B : Nat} {o m : Int} {s : Bool} (n : Nat) (h : IsT w B o m s) : IsT (w.drewN n) B o m s := h
theorem IsT.drew {w : World} {B : Nat} {o m : Int} {s : Bool} (h : IsT w B o m s) : IsT w.drew B o m s := h
theorem IsT.c0 {w : World} {B : Nat} {o m : Int} {s : Bool} (h : IsT w B o m s) : w.cell? ⟨B, 0, none⟩ = some (.int .u64 o) := (blk_cell h 0).trans rfl
theorem IsT.c1 {w : World} {B : Nat} {o m : Int} {s : Bool} (h : IsT w B o m s) : w.cell? ⟨B, 1, none⟩ = some (.int .u64 m) := (blk_cell h 1).trans rfl
theorem IsT.c2 {w : World} {B : Nat} {o m : Int} {s : Bool} (h : IsT w B o m s) : w.cell? ⟨B, 2, none⟩ = some (.bool s) := (blk_cell h 2).trans rfl
theorem IsT.fz {w : World} {B : Nat} {o m : Int} {s : Bool} (h : IsT w B o m s) (i : Nat) : w.frozen? ⟨B, i, none⟩ = false := blk_frozen h i
theorem IsT.set0 {w : World} {B : Nat} {o m : Int} {s : Bool} (h : IsT w B o m s) (x : Int) : IsT (w.setCell ⟨B, 0, none⟩ (.int .u64 x)) B x m s := blk_set h 0 _
theorem IsT.set1 {w : World} {B : Nat} {o m : Int} {s : Bool} (h : IsT w B o m s) (x : Int) : IsT (w.setCell ⟨B, 1, none⟩ (.int .u64 x)) B o x s := blk_set h 1 _
theorem IsT.set2 {w : World} {B : Nat} {o m : Int} {s : Bool} (h : IsT w B o m s) (x : Bool) : IsT (w.setCell ⟨B, 2, none⟩ (.bool x)) B o m x := blk_set h 2 _

/-- The time at a tick. -/
def tnow (t o : Int) : Int := IntKind.u64.wrap (t + o)
/-- Is it up? -/
def tup (t o m : Int) : Bool := decide (m ≤ tnow t o)

theorem drawn_below {W w w' : World} (h : Below W.heap.size W w) (d : Drawn0 w w') : Below W.heap.size W w' := by
  obtain ⟨⟨n, rfl⟩⟩ := d
  exact pw_below_drewN h n

set_option maxRecDepth 100000 in
theorem now_calls (w : World) (B : Nat) (o m t : Int) (s : Bool) (h : IsT w B o m s) : Calls Try.prog 24 #[.pointer (some ⟨B, 0, none⟩), .int .u64 t] w fun e w' => e = .returned (.int .u64 (tnow t o)) ∧ Drawn0 w w' := by
  have c0 := h.c0
  clear h
  obtain ⟨r, hr⟩ : ∃ r, tnow t o = r := ⟨_, rfl⟩
  rw [hr]
  unfold tnow at hr
  go_enter Try.func24, Try.ntmps24
  go_wp2
  go_ret
  exact ⟨by first | rfl | simp [← hr], Drawn0.refl _⟩

set_option maxRecDepth 100000 in
theorem up_calls (w : World) (B : Nat) (o m t : Int) (s : Bool) (h : IsT w B o m s) : Calls Try.prog 17 #[.pointer (some ⟨B, 0, none⟩), .int .u64 t] w fun e w' => e = .returned (.bool (tup t o m)) ∧ Drawn0 w w' := by
  have H := Aside0.mk h
  have c1 := h.c1
  clear h
  unfold tup
  go_enter Try.func17, Try.ntmps17
  go_wp2_with fail
  go_quiet (first | (go_at_call 24; (with_reducible refine (now_calls _ B o m t s (by first | exact H.out | exact IsT.drewN _ H.out)).mono ?_); rintro e w' ⟨rfl, ⟨nd, rfl⟩⟩; (try first | exact ⟨rfl, _, World.drewN_drewN _ _ _⟩ | exact ⟨rfl, _, Eq.trans (World.drewN_drewN _ _ _) (congrArg (World.drewN _) (Nat.add_assoc _ _ _))⟩)))
  go_wp2_with fail
  go_ret
  exact ⟨rfl, by repeat (first | exact Drawn0.refl _ | apply Drawn0.step)⟩

/-- How many ticks are left. -/
def tleft (t o m : Int) : Int := if tup t o m = true then 0 else IntKind.u64.wrap (m - tnow t o)
theorem tleft_yes {t o m : Int} (h : tup t o m = true) : tleft t o m = 0 := by unfold tleft; rw [if_pos h]
theorem tleft_no {t o m : Int} (h : tup t o m = false) : tleft t o m = IntKind.u64.wrap (m - tnow t o) := by unfold tleft; rw [if_neg (by simp [h])]

set_option maxRecDepth 100000 in
theorem left_calls (w : World) (B : Nat) (o m t : Int) (s : Bool) (h : IsT w B o m s) : Calls Try.prog 15 #[.pointer (some ⟨B, 0, none⟩), .int .u64 t] w fun e w' => e = .returned (.int .u64 (tleft t o m)) ∧ Drawn0 w w' := by
  have H := Aside0.mk h
  have c1 := h.c1
  have U := Aside0.mk (up_calls w B o m t s h)
  clear h
  cases hu : tup t o m
  · obtain ⟨r, hr⟩ : ∃ r, tleft t o m = r := ⟨_, rfl⟩
    rw [hr]
    rw [tleft_no hu] at hr
    rw [hu] at U
    clear hu
    have R := Aside0.mk hr
    clear hr
    go_enter Try.func15, Try.ntmps15
    go_wp2_with fail
    refine U.out.mono ?_
    rintro e w' ⟨rfl, ⟨nd, rfl⟩⟩
    go_wp2_with fail
    go_quiet (first | (go_at_call 24; (with_reducible refine (now_calls _ B o m t s (by first | exact H.out | exact IsT.drewN _ H.out)).mono ?_); rintro e w' ⟨rfl, ⟨nd, rfl⟩⟩; (try first | exact ⟨rfl, _, World.drewN_drewN _ _ _⟩ | exact ⟨rfl, _, Eq.trans (World.drewN_drewN _ _ _) (congrArg (World.drewN _) (Nat.add_assoc _ _ _))⟩)))
    go_wp2_with fail
    go_ret
    exact ⟨by rw [← R.out]; first | rfl | simp, by repeat (first | exact Drawn0.refl _ | apply Drawn0.step)⟩
  · rw [tleft_yes hu]
    rw [hu] at U
    clear hu
    go_enter Try.func15, Try.ntmps15
    go_wp2_with fail
    refine U.out.mono ?_
    rintro e w' ⟨rfl, ⟨nd, rfl⟩⟩
    go_wp2_with fail
    go_ret
    exact ⟨rfl, by repeat (first | exact Drawn0.refl _ | apply Drawn0.step)⟩

/-- The offset behind a skip. -/
def tskip (t o m : Int) : Int := if tup t o m = true then o else IntKind.u64.wrap (m - t)

theorem only_drawn {B : Nat} {a w w' : World} (h : Only B a w) (d : Drawn0 w w') : Only B a w' := by
  obtain ⟨⟨n, rfl⟩⟩ := d
  exact h.drewN n

set_option maxRecDepth 100000 in
theorem skip_calls (w : World) (B : Nat) (o m t : Int) (s : Bool) (h : IsT w B o m s) : Calls Try.prog 18 #[.pointer (some ⟨B, 0, none⟩), .int .u64 t] w fun e w' => e = .returned (.tuple #[]) ∧ IsT w' B (tskip t o m) m s ∧ Only B w w' := by
  have H := Aside0.mk h
  have c1 := h.c1
  have z0 := h.fz 0
  have c0 := h.c0
  have U := Aside0.mk (up_calls w B o m t s h)
  cases hu : tup t o m
  · have hs : tskip t o m = IntKind.u64.wrap (m - t) := by unfold tskip; rw [if_neg (by simp [hu])]
    rw [hs]
    rw [hu] at U
    have HI := Aside0.mk (fun n : Nat => show IsT ((w.drewN n).setCell ⟨B, 0, none⟩ (.int .u64 (IntKind.u64.wrap (m - t)))) B (IntKind.u64.wrap (m - t)) m s from (H.out.drewN n).set0 _)
    have HO := Aside0.mk (fun n : Nat => ((Only.refl B w).drewN n).setCell 0 (.int .u64 (IntKind.u64.wrap (m - t))))
    obtain ⟨r, hr⟩ : ∃ r, IntKind.u64.wrap (m - t) = r := ⟨_, rfl⟩
    rw [hr] at HI HO ⊢
    have R := Aside0.mk hr
    clear hr hu hs h
    go_enter Try.func18, Try.ntmps18
    go_wp2_with fail
    refine U.out.mono ?_
    rintro e w' ⟨rfl, ⟨nd, rfl⟩⟩
    have hr := R.out
    go_wp2_with fail
    go_end0
    exact ⟨rfl, HI.out nd, HO.out nd⟩
  · have hs : tskip t o m = o := by unfold tskip; rw [if_pos hu]
    rw [hs]
    rw [hu] at U
    clear hu hs h
    go_enter Try.func18, Try.ntmps18
    go_wp2_with fail
    refine U.out.mono ?_
    rintro e w' ⟨rfl, ⟨nd, rfl⟩⟩
    go_wp2_with fail
    go_end0
    exact ⟨rfl, H.out.drewN nd, (Only.refl B w).drewN nd⟩

set_option maxRecDepth 100000 in
theorem now_nil (w : World) (t : Int) : Calls Try.prog 24 #[.pointer none, .int .u64 t] w fun e w' => e = .returned (.int .u64 0) ∧ Drawn0 w w' := by
  go_enter Try.func24, Try.ntmps24
  go_wp2
  go_ret
  exact ⟨rfl, Drawn0.refl _⟩
set_option maxRecDepth 100000 in
theorem up_nil (w : World) (t : Int) : Calls Try.prog 17 #[.pointer none, .int .u64 t] w fun e w' => e = .returned (.bool false) ∧ Drawn0 w w' := by
  go_enter Try.func17, Try.ntmps17
  go_wp2
  go_quiet (fail)
  go_wp2
  go_ret
  exact ⟨rfl, by repeat (first | exact Drawn0.refl _ | apply Drawn0.step)⟩
set_option maxRecDepth 100000 in
theorem left_nil (w : World) (t : Int) : Calls Try.prog 15 #[.pointer none, .int .u64 t] w fun e w' => e = .returned (.int .u64 18446744073709551615) ∧ Drawn0 w w' := by
  go_enter Try.func15, Try.ntmps15
  go_wp2
  go_ret
  exact ⟨rfl, Drawn0.refl _⟩
set_option maxRecDepth 100000 in
theorem skip_nil (w : World) (t : Int) : Calls Try.prog 18 #[.pointer none, .int .u64 t] w fun e w' => e = .returned (.tuple #[]) ∧ Drawn0 w w' := by
  go_enter Try.func18, Try.ntmps18
  go_wp2
  go_end0
  exact ⟨rfl, Drawn0.refl _⟩

end Go.Proofs.Ytdcgnmekfkjlhaa
