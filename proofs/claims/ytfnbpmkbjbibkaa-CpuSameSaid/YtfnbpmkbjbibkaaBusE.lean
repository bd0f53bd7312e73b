/- The bus, made since W, behind each write; the statements' 'awake'. -/
import Derived.Test.YtfnbpmkbjbibkaaDrawn
import Derived.Test.YtfnbpmkbjbibkaaRamE
import Derived.Deep.LoopGhost
import Derived.BigQuiet
import Derived.Test.YtfnbpmkbjbibkaaTimerWrite
import Derived.Test.YtfnbpmkbjbibkaaConG
namespace Go.Proofs.Ytfnbpmkbjbibkaa
open Go Go.RowKit Go.Proofs.YtfnbpmkbjbibkaaW.PrintWords
set_option linter.unusedVariables false
set_option linter.unusedSimpArgs false

/-- The place of an address's device. -/
def rdev (a : Int) : Int :=
  if 1048576 ≤ a ∧ a < 1048580 then 0 else if 268435456 ≤ a ∧ a < 268435464 then 1 else if 33554432 ≤ a ∧ a < 33554436 then 2 else if 33570816 ≤ a ∧ a < 33570824 then 3 else if 33603576 ≤ a ∧ a < 33603584 then 4 else -1

theorem rdev_0 {a : Int} (h : 1048576 ≤ a ∧ a < 1048580) : rdev a = 0 := by unfold rdev; repeat (first | (rw [if_pos h]) | (rw [if_neg (by omega)]))
theorem rdev_n0 {a : Int} (h : ¬ (1048576 ≤ a ∧ a < 1048580)) (k : rdev a = -1 ∨ (0 : Int) ≤ rdev a) : rdev a = -1 ∨ (1 : Int) ≤ rdev a := by
  rcases k with k | k
  · exact .inl k
  · by_cases e : rdev a = 0
    · exfalso; unfold rdev at e; split at e <;> (try split at e) <;> (try split at e) <;> (try split at e) <;> (try split at e) <;> omega
    · omega
theorem rdev_1 {a : Int} (h : 268435456 ≤ a ∧ a < 268435464) : rdev a = 1 := by unfold rdev; repeat (first | (rw [if_pos h]) | (rw [if_neg (by omega)]))
theorem rdev_n1 {a : Int} (h : ¬ (268435456 ≤ a ∧ a < 268435464)) (k : rdev a = -1 ∨ (1 : Int) ≤ rdev a) : rdev a = -1 ∨ (2 : Int) ≤ rdev a := by
  rcases k with k | k
  · exact .inl k
  · by_cases e : rdev a = 1
    · exfalso; unfold rdev at e; split at e <;> (try split at e) <;> (try split at e) <;> (try split at e) <;> (try split at e) <;> omega
    · omega
theorem rdev_2 {a : Int} (h : 33554432 ≤ a ∧ a < 33554436) : rdev a = 2 := by unfold rdev; repeat (first | (rw [if_pos h]) | (rw [if_neg (by omega)]))
theorem rdev_n2 {a : Int} (h : ¬ (33554432 ≤ a ∧ a < 33554436)) (k : rdev a = -1 ∨ (2 : Int) ≤ rdev a) : rdev a = -1 ∨ (3 : Int) ≤ rdev a := by
  rcases k with k | k
  · exact .inl k
  · by_cases e : rdev a = 2
    · exfalso; unfold rdev at e; split at e <;> (try split at e) <;> (try split at e) <;> (try split at e) <;> (try split at e) <;> omega
    · omega
theorem rdev_3 {a : Int} (h : 33570816 ≤ a ∧ a < 33570824) : rdev a = 3 := by unfold rdev; repeat (first | (rw [if_pos h]) | (rw [if_neg (by omega)]))
theorem rdev_n3 {a : Int} (h : ¬ (33570816 ≤ a ∧ a < 33570824)) (k : rdev a = -1 ∨ (3 : Int) ≤ rdev a) : rdev a = -1 ∨ (4 : Int) ≤ rdev a := by
  rcases k with k | k
  · exact .inl k
  · by_cases e : rdev a = 3
    · exfalso; unfold rdev at e; split at e <;> (try split at e) <;> (try split at e) <;> (try split at e) <;> (try split at e) <;> omega
    · omega
theorem rdev_4 {a : Int} (h : 33603576 ≤ a ∧ a < 33603584) : rdev a = 4 := by unfold rdev; repeat (first | (rw [if_pos h]) | (rw [if_neg (by omega)]))
theorem rdev_n4 {a : Int} (h : ¬ (33603576 ≤ a ∧ a < 33603584)) (k : rdev a = -1 ∨ (4 : Int) ≤ rdev a) : rdev a = -1 ∨ (5 : Int) ≤ rdev a := by
  rcases k with k | k
  · exact .inl k
  · by_cases e : rdev a = 4
    · exfalso; unfold rdev at e; split at e <;> (try split at e) <;> (try split at e) <;> (try split at e) <;> (try split at e) <;> omega
    · omega
/-- One test of a port: below it; behind it; of it. -/
theorem port_test (a p n : Int) (a0 : 0 ≤ a) (a1 : a < 4294967296) (p0 : 0 ≤ p) (p1 : p < 4294967296) (n0 : 0 < n) :
    (decide (a < p) = true ∧ ¬ (p ≤ a ∧ a < p + n)) ∨ (decide (a < p) = false ∧ decide (n ≤ (a - p) % 4294967296) = true ∧ ¬ (p ≤ a ∧ a < p + n)) ∨ (decide (a < p) = false ∧ decide (n ≤ (a - p) % 4294967296) = false ∧ p ≤ a ∧ a < p + n) := by
  by_cases h : a < p
  · exact .inl ⟨decide_eq_true h, by omega⟩
  · have e : (a - p) % 4294967296 = a - p := by omega
    rw [e]
    by_cases h2 : n ≤ a - p
    · exact .inr (.inl ⟨decide_eq_false h, decide_eq_true h2, by omega⟩)
    · exact .inr (.inr ⟨decide_eq_false h, decide_eq_false h2, by omega, by omega⟩)

end Go.Proofs.Ytfnbpmkbjbibkaa

namespace Go.Proofs.Ytfnbpmkbjbibkaa
open Go Go.RowKit Go.Proofs.YtfnbpmkbjbibkaaW.PrintWords
set_option linter.unusedVariables false
set_option linter.unusedSimpArgs false

/-- Block B of the world is a bus: its memory at R, console at C, timer at T. -/
def IsBus (w : World) (B R C T : Nat) (off : Bool) (code : Int) : Prop := w.heap[B]? = some (.cells #[.pointer (some ⟨R, 0, none⟩), .pointer (some ⟨C, 0, none⟩), .pointer (some ⟨T, 0, none⟩), .bool off, .int .u32 code] 133 (0, 0))
section
variable {w w' : World} {B R C T : Nat} {off : Bool} {code : Int}
theorem IsBus.below (h : IsBus w B R C T off code) (k : Below w.heap.size w w') : IsBus w' B R C T off code := blk_below h k
theorem IsBus.drawn (h : IsBus w B R C T off code) (k : Drawn0 w w') : IsBus w' B R C T off code := h.below k.below
theorem IsBus.drewN (n : Nat) (h : IsBus w B R C T off code) : IsBus (w.drewN n) B R C T off code := h
theorem IsBus.c0 (h : IsBus w B R C T off code) : w.cell? ⟨B, 0, none⟩ = some (.pointer (some ⟨R, 0, none⟩)) := (blk_cell h 0).trans rfl
theorem IsBus.c1 (h : IsBus w B R C T off code) : w.cell? ⟨B, 1, none⟩ = some (.pointer (some ⟨C, 0, none⟩)) := (blk_cell h 1).trans rfl
theorem IsBus.c2 (h : IsBus w B R C T off code) : w.cell? ⟨B, 2, none⟩ = some (.pointer (some ⟨T, 0, none⟩)) := (blk_cell h 2).trans rfl
theorem IsBus.c3 (h : IsBus w B R C T off code) : w.cell? ⟨B, 3, none⟩ = some (.bool off) := (blk_cell h 3).trans rfl
theorem IsBus.c4 (h : IsBus w B R C T off code) : w.cell? ⟨B, 4, none⟩ = some (.int .u32 code) := (blk_cell h 4).trans rfl
end

/-- What an access is of. -/
def bclass (n : Nat) (a m : Int) : Int := if m = 1 ∨ m = 2 ∨ m = 4 then (if a % m = 0 then (if rhas n a m = true then 1 else if m = 4 ∧ 0 ≤ rdev a then 2 else 0) else 0) else 0
/-- Why there is no access. -/
def basked (n : Nat) (a m : Int) : Int := if m = 1 ∨ m = 2 ∨ m = 4 then (if a % m = 0 then (if bclass n a m = 0 then 6 else 0) else 5) else 2

section
variable {w : World} {B R C T BB BW BG n k : Nat} {l : List Int} {ws : List Bool} {gs : List Int} {off : Bool} {code : Int}
end
end Go.Proofs.Ytfnbpmkbjbibkaa

namespace Go.Proofs.Ytfnbpmkbjbibkaa
open Go Go.RowKit Go.Proofs.YtfnbpmkbjbibkaaW.PrintWords
set_option linter.unusedVariables false
set_option linter.unusedSimpArgs false

section
variable {w : World} {B R C T BB BW BG n k : Nat} {l : List Int} {ws : List Bool} {gs : List Int} {off : Bool} {code : Int}
end

end Go.Proofs.Ytfnbpmkbjbibkaa

namespace Go.Proofs.Ytfnbpmkbjbibkaa
open Go Go.RowKit Go.Proofs.YtfnbpmkbjbibkaaW.PrintWords
set_option linter.unusedVariables false
set_option linter.unusedSimpArgs false

set_option maxRecDepth 100000 in
theorem busnew_no (w : World) (a b c : Option Addr) (h : a = none ∨ b = none ∨ c = none) (ha : ∀ x, a = some x → True) : Calls Try.prog 47 #[.pointer a, .pointer b, .pointer c] w fun e w' => e = .returned (.tuple #[.pointer none, .int .i64 2]) ∧ Drawn0 w w' := by
  rcases h with rfl | rfl | rfl
  · go_enter Try.func47, Try.ntmps47
    go_wp2_with fail
    go_ret2
    exact ⟨rfl, Drawn0.refl _⟩
  · cases a
    all_goals
      go_enter Try.func47, Try.ntmps47
      go_wp2_with fail
      go_ret2
      exact ⟨rfl, Drawn0.refl _⟩
  · cases a <;> cases b
    all_goals
      go_enter Try.func47, Try.ntmps47
      go_wp2_with fail
      go_ret2
      exact ⟨rfl, Drawn0.refl _⟩
set_option maxRecDepth 100000 in
theorem busnew_yes (w : World) (R C T : Nat) : Calls Try.prog 47 #[.pointer (some ⟨R, 0, none⟩), .pointer (some ⟨C, 0, none⟩), .pointer (some ⟨T, 0, none⟩)] w fun e w' => e = .returned (.tuple #[.pointer (some ⟨w.heap.size, 0, none⟩), .int .i64 0]) ∧ IsBus w' w.heap.size R C T false 0 ∧ Below w.heap.size w w' := by
  have HB := Aside0.mk (show IsBus (w.alloc (.cells #[.pointer (some ⟨R, 0, none⟩), .pointer (some ⟨C, 0, none⟩), .pointer (some ⟨T, 0, none⟩), .bool false, .int .u32 0] 133)) w.heap.size R C T false 0 from blk_new w _)
  go_enter Try.func47, Try.ntmps47
  go_wp2_with fail
  go_ret2
  exact ⟨rfl, HB.out, below_alloc (Below.refl _ _) _⟩

/- No bus. -/
set_option maxRecDepth 100000 in
theorem boff_nil (w : World) : Calls Try.prog 40 #[.pointer none] w fun e w' => e = .returned (.tuple #[.int .u32 0, .bool false]) ∧ Drawn0 w w' := by
  go_enter Try.func40, Try.ntmps40
  go_wp2
  go_ret2
  exact ⟨rfl, Drawn0.refl _⟩
set_option maxRecDepth 100000 in
theorem bram_nil (w : World) : Calls Try.prog 32 #[.pointer none] w fun e w' => e = .returned (.pointer none) ∧ Drawn0 w w' := by
  go_enter Try.func32, Try.ntmps32
  go_wp2
  go_ret
  exact ⟨rfl, Drawn0.refl _⟩
set_option maxRecDepth 100000 in
theorem bcon_nil (w : World) : Calls Try.prog 35 #[.pointer none] w fun e w' => e = .returned (.pointer none) ∧ Drawn0 w w' := by
  go_enter Try.func35, Try.ntmps35
  go_wp2
  go_ret
  exact ⟨rfl, Drawn0.refl _⟩
set_option maxRecDepth 100000 in
theorem btim_nil (w : World) : Calls Try.prog 31 #[.pointer none] w fun e w' => e = .returned (.pointer none) ∧ Drawn0 w w' := by
  go_enter Try.func31, Try.ntmps31
  go_wp2
  go_ret
  exact ⟨rfl, Drawn0.refl _⟩
set_option maxRecDepth 100000 in
theorem bcalls_nil (w : World) (t : Int) : Calls Try.prog 57 #[.pointer none, .int .u64 t] w fun e w' => e = .returned (.int .u32 0) ∧ Drawn0 w w' := by
  go_enter Try.func57, Try.ntmps57
  go_wp2
  go_ret
  exact ⟨rfl, Drawn0.refl _⟩

/- What can be asked of a bus. -/
set_option maxRecDepth 100000 in
theorem boff_calls (w : World) {B R C T : Nat} {off : Bool} {code : Int} (h : IsBus w B R C T off code) : Calls Try.prog 40 #[.pointer (some ⟨B, 0, none⟩)] w fun e w' => e = .returned (.tuple #[.int .u32 code, .bool off]) ∧ Drawn0 w w' := by
  have c3 := h.c3
  have c4 := h.c4
  clear h
  go_enter Try.func40, Try.ntmps40
  go_wp2
  go_region
  all_goals go_wp2
  all_goals go_ret2
  all_goals exact ⟨rfl, ⟨⟨_, rfl⟩⟩⟩
set_option maxRecDepth 100000 in
theorem bram_calls (w : World) {B R C T : Nat} {off : Bool} {code : Int} (h : IsBus w B R C T off code) : Calls Try.prog 32 #[.pointer (some ⟨B, 0, none⟩)] w fun e w' => e = .returned (.pointer (some ⟨R, 0, none⟩)) ∧ Drawn0 w w' := by
  have c0 := h.c0
  clear h
  go_enter Try.func32, Try.ntmps32
  go_wp2
  go_ret
  exact ⟨rfl, Drawn0.refl _⟩
set_option maxRecDepth 100000 in
theorem bcon_calls (w : World) {B R C T : Nat} {off : Bool} {code : Int} (h : IsBus w B R C T off code) : Calls Try.prog 35 #[.pointer (some ⟨B, 0, none⟩)] w fun e w' => e = .returned (.pointer (some ⟨C, 0, none⟩)) ∧ Drawn0 w w' := by
  have c0 := h.c1
  clear h
  go_enter Try.func35, Try.ntmps35
  go_wp2
  go_ret
  exact ⟨rfl, Drawn0.refl _⟩
set_option maxRecDepth 100000 in
theorem btim_calls (w : World) {B R C T : Nat} {off : Bool} {code : Int} (h : IsBus w B R C T off code) : Calls Try.prog 31 #[.pointer (some ⟨B, 0, none⟩)] w fun e w' => e = .returned (.pointer (some ⟨T, 0, none⟩)) ∧ Drawn0 w w' := by
  have c0 := h.c2
  clear h
  go_enter Try.func31, Try.ntmps31
  go_wp2
  go_ret
  exact ⟨rfl, Drawn0.refl _⟩

/-- A bus that was made since W: its memory, console, timer; what each has. -/
structure MB (W w : World) (B R C T BB BW BG n k : Nat) (X : Nat → Prop) (l : List Int) (ws : List Bool) (gs : List Int) (al : List (Int × Int)) (came : Nat) (q : List Int) (over : Bool) (out : List Int) (o m : Int) (s : Bool) (off : Bool) (code : Int) : Prop where
  b : IsBus w B R C T off code
  r : IsRam w R BB BW BG n k l ws gs
  c : KC W w X C al came q over out
  t : IsT w T o m s
  ap : (W.heap.size ≤ B ∧ W.heap.size ≤ R ∧ W.heap.size ≤ BB ∧ W.heap.size ≤ BW ∧ W.heap.size ≤ BG ∧ W.heap.size ≤ T)
  dis : ∀ i, X i → i ≠ B ∧ i ≠ R ∧ i ≠ BB ∧ i ≠ BW ∧ i ≠ BG ∧ i ≠ T
  tb : T ≠ B ∧ T ≠ R ∧ T ≠ BB ∧ T ≠ BW ∧ T ≠ BG
  bb : B ≠ R ∧ B ≠ BB ∧ B ≠ BW ∧ B ≠ BG
  n0 : n ≤ 65536
theorem MB.bel {W w : World} {B R C T BB BW BG n k : Nat} {X : Nat → Prop} {l : List Int} {ws : List Bool} {gs : List Int} {al : List (Int × Int)} {came : Nat} {q : List Int} {over : Bool} {out : List Int} {o m : Int} {s : Bool} {off : Bool} {code : Int} (h : MB W w B R C T BB BW BG n k X l ws gs al came q over out o m s off code) : Below W.heap.size W w := h.c.bel
theorem MB.below {W w w' : World} {B R C T BB BW BG n k : Nat} {X : Nat → Prop} {l : List Int} {ws : List Bool} {gs : List Int} {al : List (Int × Int)} {came : Nat} {q : List Int} {over : Bool} {out : List Int} {o m : Int} {s : Bool} {off : Bool} {code : Int} (h : MB W w B R C T BB BW BG n k X l ws gs al came q over out o m s off code) (d : Below w.heap.size w w') : MB W w' B R C T BB BW BG n k X l ws gs al came q over out o m s off code :=
  ⟨h.b.below d, h.r.below d, h.c.below d, h.t.below d, h.ap, h.dis, h.tb, h.bb, h.n0⟩

end Go.Proofs.Ytfnbpmkbjbibkaa

namespace Go.Proofs.Ytfnbpmkbjbibkaa
open Go Go.RowKit Go.Proofs.YtfnbpmkbjbibkaaW.PrintWords
set_option linter.unusedVariables false
set_option linter.unusedSimpArgs false

section
variable {W w w' : World} {B R C T BB BW BG n k : Nat} {X X' : Nat → Prop} {l l' : List Int} {ws ws' : List Bool} {gs gs' : List Int} {al : List (Int × Int)} {came came' : Nat} {q q' : List Int} {over over' : Bool} {out out' : List Int} {o m o' m' : Int} {s s' : Bool} {off : Bool} {code : Int}
theorem ram_move (h : IsRam w R BB BW BG n k l ws gs) (hm : ∀ i, i = R ∨ i = BB ∨ i = BW ∨ i = BG → w'.heap[i]? = w.heap[i]?) : IsRam w' R BB BW BG n k l ws gs :=
  ⟨(hm R (.inl rfl)).trans h.r, (hm BB (.inr (.inl rfl))).trans h.b, (hm BW (.inr (.inr (.inl rfl)))).trans h.f, (hm BG (.inr (.inr (.inr rfl)))).trans h.g, h.nl, h.nw, h.ng, h.rb, h.rf, h.rg, h.bf, h.bg, h.fg⟩
theorem ram_lt (h : IsRam w R BB BW BG n k l ws gs) : ∀ i, i = R ∨ i = BB ∨ i = BW ∨ i = BG → i < w.heap.size := by
  rintro i (rfl | rfl | rfl | rfl)
  · exact blk_lt h.r
  · exact blk_lt h.b
  · exact blk_lt h.f
  · exact blk_lt h.g
theorem MB.con (h : MB W w B R C T BB BW BG n k X l ws gs al came q over out o m s off code) (hk : KC W w' X' C al came' q' over' out') (ho : OnlyP X w w') (hx : ∀ i, X' i → X i ∨ w.heap.size ≤ i) : MB W w' B R C T BB BW BG n k X' l ws gs al came' q' over' out' o m s off code := by
  have hl := ram_lt h.r
  have lB := blk_lt h.b
  have lT := h.t.lt
  have nB : ¬ X B := fun e => (h.dis B e).1 rfl
  have nT : ¬ X T := fun e => (h.dis T e).2.2.2.2.2 rfl
  have nR : ∀ i, i = R ∨ i = BB ∨ i = BW ∨ i = BG → ¬ X i := by
    rintro i hi e
    have := h.dis i e
    rcases hi with rfl | rfl | rfl | rfl <;> simp_all
  refine ⟨(ho.block B lB nB).trans h.b, ram_move h.r fun i hi => ho.block i (hl i hi) (nR i hi), hk, (ho.block T lT nT).trans h.t, h.ap, fun i hi => ?_, h.tb, h.bb, h.n0⟩
  rcases hx i hi with e | e
  · exact h.dis i e
  · have h1 := hl R (.inl rfl)
    have h2 := hl BB (.inr (.inl rfl))
    have h3 := hl BW (.inr (.inr (.inl rfl)))
    have h4 := hl BG (.inr (.inr (.inr rfl)))
    exact ⟨by omega, by omega, by omega, by omega, by omega, by omega⟩
theorem MB.offed (h : MB W w B R C T BB BW BG n k X l ws gs al came q over out o m s off code) {off' : Bool} {code' : Int} (hb : IsBus w' B R C T off' code') (ho : Only B w w') : MB W w' B R C T BB BW BG n k X l ws gs al came q over out o m s off' code' := by
  have hl := ram_lt h.r
  have a := h.bb
  exact ⟨hb, ram_move h.r fun i hi => ho.block i (hl i hi) (by rcases hi with rfl | rfl | rfl | rfl <;> omega), h.c.move (Y := fun i => i = B) (.of_only ho rfl) (fun i hi => (h.dis i hi).1) (fun i hi => hi ▸ h.ap.1), h.t.only ho h.tb.1, h.ap, h.dis, h.tb, h.bb, h.n0⟩
theorem MB.tim (h : MB W w B R C T BB BW BG n k X l ws gs al came q over out o m s off code) (ht : IsT w' T o' m' s') (ho : Only T w w') : MB W w' B R C T BB BW BG n k X l ws gs al came q over out o' m' s' off code := by
  have hl := ram_lt h.r
  have a := h.tb
  exact ⟨(ho.block B (blk_lt h.b) (by omega)).trans h.b, ram_move h.r fun i hi => ho.block i (hl i hi) (by rcases hi with rfl | rfl | rfl | rfl <;> omega), h.c.move (Y := fun i => i = T) (.of_only ho rfl) (fun i hi => (h.dis i hi).2.2.2.2.2) (fun i hi => hi ▸ h.ap.2.2.2.2.2), ht, h.ap, h.dis, h.tb, h.bb, h.n0⟩
theorem MB.ram (h : MB W w B R C T BB BW BG n k X l ws gs al came q over out o m s off code) (hr : IsRam w' R BB BW BG n k l' ws' gs') (ho : OnlyP (fun b => b = BB ∨ b = BW ∨ b = BG) w w') : MB W w' B R C T BB BW BG n k X l' ws' gs' al came q over out o m s off code := by
  have a := h.bb
  have b := h.tb
  have c := h.ap
  refine ⟨(ho.block B (blk_lt h.b) (by omega)).trans h.b, hr, h.c.move ho (fun i hi => ?_) (fun i hi => by omega), (ho.block T h.t.lt (by omega)).trans h.t, h.ap, h.dis, h.tb, h.bb, h.n0⟩
  have := h.dis i hi
  omega
end

end Go.Proofs.Ytfnbpmkbjbibkaa
