/- The timer's methods, each by its contract: Now, Up, Left, Skip. -/
import Derived.Test.YtdalboofhckobaaDoorOnly
import Derived.Test.YtdalboofhckobaaDoorProg
import Derived.WalkKit
import Derived.RegionTactic
import Derived.Deep.QuietTactic
import Derived.BigQuiet
import Derived.Deep.RegionWith
namespace Go.Proofs.YtdalboofhckobaaDoor
open Go Go.RowKit Go.Proofs.YtdalboofhckobaaDoorW.PrintWords
set_option linter.unusedVariables false
set_option linter.unusedSimpArgs false

/-- Block B of the world is a timer. -/
def IsT (w : World) (B : Nat) (o m : Int) (s : Bool) : Prop := w.heap[B]? = some (.cells #[.int .u64 o, .int .u64 m, .bool s] 96 (0, 0))
theorem IsT.lt {w : World} {B : Nat} {o m : Int} {s : Bool} (h : IsT w B o m s) : B < w.heap.size := blk_lt h
theorem IsT.below {w w' : World} {B : Nat} {o m : Int} {s : Bool} (h : IsT w B o m s) (k : Below w.heap.size w w') : IsT w' B o m s := blk_below h k
theorem IsT.only {w w' : World} {B B' : Nat} {o m : Int} {s : Bool} (h : IsT w B o m s) (k : Only B' w w') (hn : B ≠ B') : IsT w' B o m s := blk_only h k hn
theorem IsT.drawn {w w' : World} {B : Nat} {o m : Int} {s : Bool} (h : IsT w B o m s) (k : Drawn0 w w') : IsT w' B o m s := by
  obtain ⟨⟨n, rfl⟩⟩ := k; exact h
theorem IsT.drewN {w : World} {B : Nat} {o m : Int} {s : Bool} (n : Nat) (h : IsT w B o m s) : IsT (w.drewN n) B o m s := h
theorem IsT.drew {w : World} {B : Nat} {o m : Int} {s : Bool} (h : IsT w B o m s) : IsT w.drew B o m s := h
theorem IsT.c0 {w : World} {B : Nat} {o m : Int} {s : Bool} (h : IsT w B o m s) : w.cell? ⟨B, 0, none⟩ = some (.int .u64 o) := (blk_cell h 0).trans rfl
theorem IsT.c1 {w : World} {B : Nat} {o m : Int} {s : Bool} (h : IsT w B o m s) : w.cell? ⟨B, 1, none⟩ = some (.int .u64 m) := (blk_cell h 1).trans rfl
theorem IsT.c2 {w : World} {B : Nat} {o m : Int} {s : Bool} (h : IsT w B o m s) : w.cell? ⟨B, 2, none⟩ = some (.bool s) := (blk_cell h 2).trans rfl
theorem IsT.fz {w : World} {B : Nat} {o m : Int} {s : Bool} (h : IsT w B o m s) (i : Nat) : w.frozen? ⟨B, i, none⟩ = false := blk_frozen h i
theorem IsT.set0 {w : World} {B : Nat} {o m : Int} {s : Bool} (h : IsT w B o m s) (x : Int) : IsT (w.setCell ⟨B, 0, none⟩ (.int .u64 x)) B x m s := blk_set h 0 _
theorem IsT.set1 {w : World} {B : Nat} {o m : Int} {s : Bool} (h : IsT w B o m s) (x : Int) : IsT (w.setCell ⟨B, 1, none⟩ (.int .u64 x)) B o x s := blk_set h 1 _
theorem IsT.set2 {w : World} {B : Nat} {o m : Int} {s : Bool} (h : IsT w B o m s) (x : Bool) : IsT (w.setCell ⟨B, 2, none⟩ (.bool x)) B o m x := blk_set h 2 _

/-- The time at a tick. -/
def tnow (t o : Int) : Int := IntKind.u64.wrap (t + o)
/-- Is it up? -/
def tup (t o m : Int) : Bool := decide (m ≤ tnow t o)

theorem drawn_below {W w w' : World} (h : Below W.heap.size W w) (d : Drawn0 w w') : Below W.heap.size W w' := by
  obtain ⟨⟨n, rfl⟩⟩ := d
  exact pw_below_drewN h n

set_option maxRecDepth 100000 in
theorem now_calls (w : World) (B : Nat) (o m t : Int) (s : Bool) (h : IsT w B o m s) : Calls Tryd.prog 65 #[.pointer (some ⟨B, 0, none⟩), .int .u64 t] w fun e w' => e = .returned (.int .u64 (tnow t o)) ∧ Drawn0 w w' := by
  have c0 := h.c0
  clear h
  obtain ⟨r, hr⟩ : ∃ r, tnow t o = r := ⟨_, rfl⟩
  rw [hr]
  unfold tnow at hr
  go_enter Tryd.func65, Tryd.ntmps65
  go_wp2
  go_ret
  exact ⟨by first | rfl | simp [← hr], Drawn0.refl _⟩

set_option maxRecDepth 100000 in
theorem tup_calls (w : World) (B : Nat) (o m t : Int) (s : Bool) (h : IsT w B o m s) : Calls Tryd.prog 46 #[.pointer (some ⟨B, 0, none⟩), .int .u64 t] w fun e w' => e = .returned (.bool (tup t o m)) ∧ Drawn0 w w' := by
  have H := Aside0.mk h
  have c1 := h.c1
  clear h
  unfold tup
  go_enter Tryd.func46, Tryd.ntmps46
  go_wp2_with fail
  go_quiet (first | (go_at_call 65; (with_reducible refine (now_calls _ B o m t s (by first | exact H.out | exact IsT.drewN _ H.out)).mono ?_); rintro e w' ⟨rfl, ⟨nd, rfl⟩⟩; (try first | exact ⟨rfl, _, World.drewN_drewN _ _ _⟩ | exact ⟨rfl, _, Eq.trans (World.drewN_drewN _ _ _) (congrArg (World.drewN _) (Nat.add_assoc _ _ _))⟩)))
  go_wp2_with fail
  go_ret
  exact ⟨rfl, by repeat (first | exact Drawn0.refl _ | apply Drawn0.step)⟩

/-- How many ticks are left. -/
def tleft (t o m : Int) : Int := if tup t o m = true then 0 else IntKind.u64.wrap (m - tnow t o)
theorem tleft_yes {t o m : Int} (h : tup t o m = true) : tleft t o m = 0 := by unfold tleft; rw [if_pos h]
theorem tleft_no {t o m : Int} (h : tup t o m = false) : tleft t o m = IntKind.u64.wrap (m - tnow t o) := by unfold tleft; rw [if_neg (by simp [h])]

/-- The offset behind a skip. -/
def tskip (t o m : Int) : Int := if tup t o m = true then o else IntKind.u64.wrap (m - t)

theorem only_drawn {B : Nat} {a w w' : World} (h : Only B a w) (d : Drawn0 w w') : Only B a w' := by
  obtain ⟨⟨n, rfl⟩⟩ := d
  exact h.drewN n

set_option maxRecDepth 100000 in
theorem now_nil (w : World) (t : Int) : Calls Tryd.prog 65 #[.pointer none, .int .u64 t] w fun e w' => e = .returned (.int .u64 0) ∧ Drawn0 w w' := by
  go_enter Tryd.func65, Tryd.ntmps65
  go_wp2
  go_ret
  exact ⟨rfl, Drawn0.refl _⟩
set_option maxRecDepth 100000 in
theorem up_nil (w : World) (t : Int) : Calls Tryd.prog 46 #[.pointer none, .int .u64 t] w fun e w' => e = .returned (.bool false) ∧ Drawn0 w w' := by
  go_enter Tryd.func46, Tryd.ntmps46
  go_wp2
  go_quiet (fail)
  go_wp2
  go_ret
  exact ⟨rfl, by repeat (first | exact Drawn0.refl _ | apply Drawn0.step)⟩
end Go.Proofs.YtdalboofhckobaaDoor
