/- The timer's Write, by its contract . -/
import Derived.Test.YtfnbpmkbjbibkaaOnly
import Derived.Test.YtfnbpmkbjbibkaaProg
import Derived.WalkKit
import Derived.RegionTactic
import Derived.Deep.QuietTactic
import Derived.BigQuiet
import Derived.Deep.RegionWith
import Derived.Test.YtfnbpmkbjbibkaaQCpuSamex
import Derived.Test.YtfnbpmkbjbibkaaRamE
import Derived.Test.YtfnbpmkbjbibkaaDrawn
import Derived.Laws.EntriesVeiled
import Derived.Test.YtfnbpmkbjbibkaaBit
import Derived.Laws.BitsLemmas
namespace Go.Proofs.Ytfnbpmkbjbibkaa
open Go Go.RowKit Go.Proofs.YtfnbpmkbjbibkaaW.PrintWords
set_option linter.unusedVariables false
set_option linter.unusedSimpArgs false

/-- Block B of the world is a timer. -/
def IsT (w : World) (B : Nat) (o m : Int) (s : Bool) : Prop := w.heap[B]? = some (.cells #[.int .u64 o, .int .u64 m, .bool s] 41 (0, 0))
theorem IsT.lt {w : World} {B : Nat} {o m : Int} {s : Bool} (h : IsT w B o m s) : B < w.heap.size := blk_lt h
theorem IsT.below {w w' : World} {B : Nat} {o m : Int} {s : Bool} (h : IsT w B o m s) (k : Below w.heap.size w w') : IsT w' B o m s := blk_below h k
theorem IsT.only {w w' : World} {B B' : Nat} {o m : Int} {s : Bool} (h : IsT w B o m s) (k : Only B' w w') (hn : B ≠ B') : IsT w' B o m s := blk_only h k hn
theorem IsT.drawn {w w' : World} {B : Nat} {o m : Int} {s : Bool} (h : IsT w B o m s) (k : Drawn0 w w') : IsT w' B o m s := by
  obtain ⟨⟨n, rfl⟩⟩ := k; exact h
theorem IsT.drewN {w : World} {B : Nat} {o m : Int} {s : Bool} (n : Nat) (h : IsT w B o m s) : IsT (w.drewN n) B o m s := h
theorem IsT.drew {w : World} {B : Nat} {o m : Int} {s : Bool} (h : IsT w B o m s) : IsT w.drew B o m s := h
theorem IsT.c0 {w : World} {B : Nat} {o m : Int} {s : Bool} (h : IsT w B o m s) : w.cell? ⟨B, 0, none⟩ = some (.int .u64 o) := (blk_cell h 0).trans rfl
theorem IsT.c1 {w : World} {B : Nat} {o m : Int} {s : Bool} (h : IsT w B o m s) : w.cell? ⟨B, 1, none⟩ = some (.int .u64 m) := (blk_cell h 1).trans rfl
theorem IsT.c2 {w : World} {B : Nat} {o m : Int} {s : Bool} (h : IsT w B o m s) : w.cell? ⟨B, 2, none⟩ = some (.bool s) := (blk_cell h 2).trans rfl
theorem IsT.fz {w : World} {B : Nat} {o m : Int} {s : Bool} (h : IsT w B o m s) (i : Nat) : w.frozen? ⟨B, i, none⟩ = false := blk_frozen h i
theorem IsT.set0 {w : World} {B : Nat} {o m : Int} {s : Bool} (h : IsT w B o m s) (x : Int) : IsT (w.setCell ⟨B, 0, none⟩ (.int .u64 x)) B x m s := blk_set h 0 _
theorem IsT.set1 {w : World} {B : Nat} {o m : Int} {s : Bool} (h : IsT w B o m s) (x : Int) : IsT (w.setCell ⟨B, 1, none⟩ (.int .u64 x)) B o x s := blk_set h 1 _
theorem IsT.set2 {w : World} {B : Nat} {o m : Int} {s : Bool} (h : IsT w B o m s) (x : Bool) : IsT (w.setCell ⟨B, 2, none⟩ (.bool x)) B o m x := blk_set h 2 _

/-- The time at a tick. -/
def tnow (t o : Int) : Int := IntKind.u64.wrap (t + o)
/-- Is it up? -/
def tup (t o m : Int) : Bool := decide (m ≤ tnow t o)

theorem drawn_below {W w w' : World} (h : Below W.heap.size W w) (d : Drawn0 w w') : Below W.heap.size W w' := by
  obtain ⟨⟨n, rfl⟩⟩ := d
  exact pw_below_drewN h n

set_option maxRecDepth 100000 in
theorem now_calls (w : World) (B : Nat) (o m t : Int) (s : Bool) (h : IsT w B o m s) : Calls Try.prog 56 #[.pointer (some ⟨B, 0, none⟩), .int .u64 t] w fun e w' => e = .returned (.int .u64 (tnow t o)) ∧ Drawn0 w w' := by
  have c0 := h.c0
  clear h
  obtain ⟨r, hr⟩ : ∃ r, tnow t o = r := ⟨_, rfl⟩
  rw [hr]
  unfold tnow at hr
  go_enter Try.func56, Try.ntmps56
  go_wp2
  go_ret
  exact ⟨by first | rfl | simp [← hr], Drawn0.refl _⟩

set_option maxRecDepth 100000 in
theorem tup_calls (w : World) (B : Nat) (o m t : Int) (s : Bool) (h : IsT w B o m s) : Calls Try.prog 80 #[.pointer (some ⟨B, 0, none⟩), .int .u64 t] w fun e w' => e = .returned (.bool (tup t o m)) ∧ Drawn0 w w' := by
  have H := Aside0.mk h
  have c1 := h.c1
  clear h
  unfold tup
  go_enter Try.func80, Try.ntmps80
  go_wp2_with fail
  go_quiet (first | (go_at_call 56; (with_reducible refine (now_calls _ B o m t s (by first | exact H.out | exact IsT.drewN _ H.out)).mono ?_); rintro e w' ⟨rfl, ⟨nd, rfl⟩⟩; (try first | exact ⟨rfl, _, World.drewN_drewN _ _ _⟩ | exact ⟨rfl, _, Eq.trans (World.drewN_drewN _ _ _) (congrArg (World.drewN _) (Nat.add_assoc _ _ _))⟩)))
  go_wp2_with fail
  go_ret
  exact ⟨rfl, by repeat (first | exact Drawn0.refl _ | apply Drawn0.step)⟩

/-- How many ticks are left. -/
def tleft (t o m : Int) : Int := if tup t o m = true then 0 else IntKind.u64.wrap (m - tnow t o)
theorem tleft_yes {t o m : Int} (h : tup t o m = true) : tleft t o m = 0 := by unfold tleft; rw [if_pos h]
theorem tleft_no {t o m : Int} (h : tup t o m = false) : tleft t o m = IntKind.u64.wrap (m - tnow t o) := by unfold tleft; rw [if_neg (by simp [h])]

/-- The offset behind a skip. -/
def tskip (t o m : Int) : Int := if tup t o m = true then o else IntKind.u64.wrap (m - t)

theorem only_drawn {B : Nat} {a w w' : World} (h : Only B a w) (d : Drawn0 w w') : Only B a w' := by
  obtain ⟨⟨n, rfl⟩⟩ := d
  exact h.drewN n

set_option maxRecDepth 100000 in
theorem now_nil (w : World) (t : Int) : Calls Try.prog 56 #[.pointer none, .int .u64 t] w fun e w' => e = .returned (.int .u64 0) ∧ Drawn0 w w' := by
  go_enter Try.func56, Try.ntmps56
  go_wp2
  go_ret
  exact ⟨rfl, Drawn0.refl _⟩
set_option maxRecDepth 100000 in
theorem up_nil (w : World) (t : Int) : Calls Try.prog 80 #[.pointer none, .int .u64 t] w fun e w' => e = .returned (.bool false) ∧ Drawn0 w w' := by
  go_enter Try.func80, Try.ntmps80
  go_wp2
  go_quiet (fail)
  go_wp2
  go_ret
  exact ⟨rfl, by repeat (first | exact Drawn0.refl _ | apply Drawn0.step)⟩
end Go.Proofs.Ytfnbpmkbjbibkaa

namespace Go.Proofs.Ytfnbpmkbjbibkaa
open Go Go.RowKit Go.Proofs.YtfnbpmkbjbibkaaW.PrintWords
set_option linter.unusedVariables false
set_option linter.unusedSimpArgs false

set_option maxRecDepth 100000 in
theorem tnew_calls (w : World) : Calls Try.prog 48 #[] w fun e w' => e = .returned (.pointer (some ⟨w.heap.size, 0, none⟩)) ∧ IsT w' w.heap.size 0 18446744073709551615 false ∧ Below w.heap.size w w' := by
  have hF := Aside0.mk (show IsT (w.alloc (.cells #[.int .u64 0, .int .u64 18446744073709551615, .bool false] 41)) w.heap.size 0 18446744073709551615 false from blk_new w _)
  go_enter Try.func48, Try.ntmps48
  go_wp2
  go_ret
  exact ⟨rfl, hF.out, below_alloc (Below.refl _ _) _⟩
end Go.Proofs.Ytfnbpmkbjbibkaa

namespace Go.Proofs.Ytfnbpmkbjbibkaa
open Go Go.RowKit Go.Proofs.Ytfnbpmkbjbibkaa.QCpuSame Go.Proofs.YtfnbpmkbjbibkaaW.PrintWords
set_option linter.unusedVariables false
set_option linter.unusedSimpArgs false

/-- The registers. -/
def regs : List Int := [33554432, 33570816, 33570820, 33603576, 33603580]
/-- What a register says. -/
def rval (o m a t : Int) (s : Bool) : Int :=
  if a = 33570816 then m % 4294967296 else if a = 33570820 then m / 4294967296 else if a = 33603576 then tnow t o % 4294967296 else if a = 33603580 then tnow t o / 4294967296 else if s = true then 1 else 0
theorem tnow_lt (t o : Int) : 0 ≤ tnow t o ∧ tnow t o < 18446744073709551616 := by
  unfold tnow
  rw [show IntKind.u64.wrap (t + o) = (t + o) % 18446744073709551616 by simp [IntKind.wrap, IntKind.bits, IntKind.signed]]
  omega
end Go.Proofs.Ytfnbpmkbjbibkaa

namespace Go.Proofs.Ytfnbpmkbjbibkaa
open Go Go.RowKit Go.Proofs.Ytfnbpmkbjbibkaa.QCpuSame Go.Proofs.YtfnbpmkbjbibkaaW.PrintWords
set_option linter.unusedVariables false
set_option linter.unusedSimpArgs false

/-- What the closure makes of a number. -/
def wput (up : Bool) (n x : Int) : Int := if up = true then Go.bits .or .u64 (Go.bits .and .u64 n 4294967295) (IntKind.u64.wrap (IntKind.u64.wrap x * 4294967296)) else Go.bits .or .u64 (Go.bits .andNot .u64 n 4294967295) (IntKind.u64.wrap x)
/-- A world with the two boxes. -/
@[reducible] def wboxes (w : World) (a x : Int) : World := (w.alloc (.cells #[.int .u32 a] 24)).alloc (.cells #[.int .u32 x] 24)
theorem wboxes_below (w : World) (a x : Int) : Below w.heap.size w (wboxes w a x) := below_alloc (below_alloc (Below.refl w.heap.size w) _) _
theorem wboxes_a (w : World) (a x : Int) (n : Nat) : ((wboxes w a x).drewN n).cell? ⟨w.heap.size, 0, none⟩ = some (.int .u32 a) :=
  (blk_cell (w := (wboxes w a x).drewN n) (show ((wboxes w a x).drewN n).heap[w.heap.size]? = _ from blk_below (w := w.alloc (.cells #[.int .u32 a] 24)) (w' := wboxes w a x) (blk_new w (.cells #[.int .u32 a] 24)) (below_alloc (Below.refl (w.alloc (.cells #[.int .u32 a] 24)).heap.size (w.alloc (.cells #[.int .u32 a] 24))) (.cells #[.int .u32 x] 24))) 0).trans rfl
theorem wboxes_x (w : World) (a x : Int) (n : Nat) : ((wboxes w a x).drewN n).cell? ⟨w.heap.size + 1, 0, none⟩ = some (.int .u32 x) :=
  (blk_cell (w := (wboxes w a x).drewN n) (show ((wboxes w a x).drewN n).heap[w.heap.size + 1]? = _ by
    have := blk_new (w.alloc (.cells #[.int .u32 a] 24)) (.cells #[.int .u32 x] 24)
    rw [show (w.alloc (.cells #[.int .u32 a] 24)).heap.size = w.heap.size + 1 from Array.size_push _] at this
    exact this) 0).trans rfl

theorem wrap_u64 (n : Int) : IntKind.u64.wrap n = n % 18446744073709551616 := by simp [IntKind.wrap, IntKind.bits, IntKind.signed]
theorem wraps_u64 (n : Int) (h₀ : 0 ≤ n) (h₁ : n < 2 ^ 64) : IntKind.u64.wrap n = n := by rw [wrap_u64]; omega
theorem and_low (n : Int) (h0 : 0 ≤ n) (h1 : n < 18446744073709551616) : Go.bits .and .u64 n 4294967295 = n % 4294967296 := bits_mask .u64 64 (by decide) wraps_u64 32 (by decide) n h0 h1
theorem andNot_low (n : Int) (h0 : 0 ≤ n) (h1 : n < 18446744073709551616) : Go.bits .andNot .u64 n 4294967295 = n / 4294967296 * 4294967296 := by
  obtain ⟨k, rfl⟩ := Int.eq_ofNat_of_zero_le h0
  have hk : k < 18446744073709551616 := by omega
  rw [show (4294967295 : Int) = ((4294967295 : Nat) : Int) from rfl, u64_andNot_nat k 4294967295 hk (by decide)]
  rw [show 18446744073709551615 - 4294967295 = (2 ^ 32 - 1) * 2 ^ 32 from rfl, Bit.and_field]
  have : k / 2 ^ 32 % 2 ^ 32 = k / 4294967296 := by omega
  rw [this]
  omega
theorem or_join (x y : Int) (hx : 0 ≤ x) (hx' : x < 4294967296) (hy : 0 ≤ y) (hy' : y < 4294967296) : Go.bits .or .u64 (x * 4294967296) y = x * 4294967296 + y :=
  bits_join .u64 64 (by decide) wraps_u64 32 (x * 4294967296) y (by omega) (by omega) (by omega) hy (by omega) (by omega)
theorem or_comm64 (x y : Int) (h1 : 0 ≤ x) (h2 : x < 18446744073709551616) (h3 : 0 ≤ y) (h4 : y < 18446744073709551616) : Go.bits .or .u64 x y = Go.bits .or .u64 y x := by
  rw [u64_or x y h1 h2 h3 h4, u64_or y x h3 h4 h1 h2, Nat.or_comm]
/-- In plain numbers. -/
theorem wput_eq (up : Bool) (n x : Int) (h0 : 0 ≤ n) (h1 : n < 18446744073709551616) (x0 : 0 ≤ x) (x1 : x < 4294967296) : wput up n x = if up = true then x * 4294967296 + n % 4294967296 else n / 4294967296 * 4294967296 + x := by
  have e1 : IntKind.u64.wrap x = x := wraps_u64 x x0 (by omega)
  have e2 : IntKind.u64.wrap (x * 4294967296) = x * 4294967296 := wraps_u64 _ (by omega) (by omega)
  unfold wput
  rw [e1, e2, and_low n h0 h1, andNot_low n h0 h1]
  cases up
  · rw [if_neg (by simp), if_neg (by simp), or_join _ _ (by omega) (by omega) x0 x1]
  · rw [if_pos rfl, if_pos rfl, or_comm64 _ _ (by omega) (by omega) (by omega) (by omega), or_join _ _ x0 x1 (by omega) (by omega)]

/-- What a write to a register leaves. -/
def twO (o m a x t : Int) : Int := if a = 33603576 then IntKind.u64.wrap (wput false (tnow t o) x - t) else if a = 33603580 then IntKind.u64.wrap (wput true (tnow t o) x - t) else o
def twM (m a x : Int) : Int := if a = 33570816 then wput false m x else if a = 33570820 then wput true m x else m
def twS (s : Bool) (a x : Int) : Bool := if a = 33554432 then x % 2 == 1 else s
end Go.Proofs.Ytfnbpmkbjbibkaa
