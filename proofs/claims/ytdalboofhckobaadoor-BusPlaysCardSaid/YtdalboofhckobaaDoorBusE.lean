/- The bus, made since W, behind each write; the statements' 'awake'. -/
import Derived.Test.YtdalboofhckobaaDoorDrawn
import Derived.Test.YtdalboofhckobaaDoorRamE
import Derived.Deep.LoopGhost
import Derived.BigQuiet
import Derived.Test.YtdalboofhckobaaDoorTimerWrite
import Derived.Test.YtdalboofhckobaaDoorConG
namespace Go.Proofs.YtdalboofhckobaaDoor
open Go Go.RowKit Go.Proofs.YtdalboofhckobaaDoorW.PrintWords
set_option linter.unusedVariables false
set_option linter.unusedSimpArgs false

/-- The ports' table, as the program's text lays it. -/
def Ports (w : World) : Prop := ∀ i v, (#[.int .u32 1048576, .int .u32 4, .int .u32 268435456, .int .u32 8, .int .u32 33554432, .int .u32 4, .int .u32 33570816, .int .u32 8, .int .u32 33603576, .int .u32 8] : Array Value)[i]? = some v → w.cell? ⟨0, i, none⟩ = some v
theorem Ports.below {w w' : World} (h : Ports w) (b : Below w.heap.size w w') : Ports w' := fun i v hi => pw_cell_below b (h i v hi)
theorem Ports.on {W w w' : World} (h : Ports w) (b : Below w.heap.size w w') : Ports w' := h.below b

/-- The place of an address's device. -/
def rdev (a : Int) : Int :=
  if 1048576 ≤ a ∧ a < 1048580 then 0 else if 268435456 ≤ a ∧ a < 268435464 then 1 else if 33554432 ≤ a ∧ a < 33554436 then 2 else if 33570816 ≤ a ∧ a < 33570824 then 3 else if 33603576 ≤ a ∧ a < 33603584 then 4 else -1

theorem rdev_0 {a : Int} (h : 1048576 ≤ a ∧ a < 1048580) : rdev a = 0 := by unfold rdev; repeat (first | (rw [if_pos h]) | (rw [if_neg (by omega)]))
theorem rdev_n0 {a : Int} (h : ¬ (1048576 ≤ a ∧ a < 1048580)) (k : rdev a = -1 ∨ (0 : Int) ≤ rdev a) : rdev a = -1 ∨ (1 : Int) ≤ rdev a := by
  rcases k with k | k
  · exact .inl k
  · by_cases e : rdev a = 0
    · exfalso; unfold rdev at e; split at e <;> (try split at e) <;> (try split at e) <;> (try split at e) <;> (try split at e) <;> omega
    · omega
theorem rdev_1 {a : Int} (h : 268435456 ≤ a ∧ a < 268435464) : rdev a = 1 := by unfold rdev; repeat (first | (rw [if_pos h]) | (rw [if_neg (by omega)]))
theorem rdev_n1 {a : Int} (h : ¬ (268435456 ≤ a ∧ a < 268435464)) (k : rdev a = -1 ∨ (1 : Int) ≤ rdev a) : rdev a = -1 ∨ (2 : Int) ≤ rdev a := by
  rcases k with k | k
  · exact .inl k
  · by_cases e : rdev a = 1
    · exfalso; unfold rdev at e; split at e <;> (try split at e) <;> (try split at e) <;> (try split at e) <;> (try split at e) <;> omega
    · omega
theorem rdev_2 {a : Int} (h : 33554432 ≤ a ∧ a < 33554436) : rdev a = 2 := by unfold rdev; repeat (first | (rw [if_pos h]) | (rw [if_neg (by omega)]))
theorem rdev_n2 {a : Int} (h : ¬ (33554432 ≤ a ∧ a < 33554436)) (k : rdev a = -1 ∨ (2 : Int) ≤ rdev a) : rdev a = -1 ∨ (3 : Int) ≤ rdev a := by
  rcases k with k | k
  · exact .inl k
  · by_cases e : rdev a = 2
    · exfalso; unfold rdev at e; split at e <;> (try split at e) <;> (try split at e) <;> (try split at e) <;> (try split at e) <;> omega
    · omega
theorem rdev_3 {a : Int} (h : 33570816 ≤ a ∧ a < 33570824) : rdev a = 3 := by unfold rdev; repeat (first | (rw [if_pos h]) | (rw [if_neg (by omega)]))
theorem rdev_n3 {a : Int} (h : ¬ (33570816 ≤ a ∧ a < 33570824)) (k : rdev a = -1 ∨ (3 : Int) ≤ rdev a) : rdev a = -1 ∨ (4 : Int) ≤ rdev a := by
  rcases k with k | k
  · exact .inl k
  · by_cases e : rdev a = 3
    · exfalso; unfold rdev at e; split at e <;> (try split at e) <;> (try split at e) <;> (try split at e) <;> (try split at e) <;> omega
    · omega
theorem rdev_4 {a : Int} (h : 33603576 ≤ a ∧ a < 33603584) : rdev a = 4 := by unfold rdev; repeat (first | (rw [if_pos h]) | (rw [if_neg (by omega)]))
theorem rdev_n4 {a : Int} (h : ¬ (33603576 ≤ a ∧ a < 33603584)) (k : rdev a = -1 ∨ (4 : Int) ≤ rdev a) : rdev a = -1 ∨ (5 : Int) ≤ rdev a := by
  rcases k with k | k
  · exact .inl k
  · by_cases e : rdev a = 4
    · exfalso; unfold rdev at e; split at e <;> (try split at e) <;> (try split at e) <;> (try split at e) <;> (try split at e) <;> omega
    · omega
/-- One test of a port: below it; behind it; of it. -/
theorem port_test (a p n : Int) (a0 : 0 ≤ a) (a1 : a < 4294967296) (p0 : 0 ≤ p) (p1 : p < 4294967296) (n0 : 0 < n) :
    (decide (a < p) = true ∧ ¬ (p ≤ a ∧ a < p + n)) ∨ (decide (a < p) = false ∧ decide (n ≤ (a - p) % 4294967296) = true ∧ ¬ (p ≤ a ∧ a < p + n)) ∨ (decide (a < p) = false ∧ decide (n ≤ (a - p) % 4294967296) = false ∧ p ≤ a ∧ a < p + n) := by
  by_cases h : a < p
  · exact .inl ⟨decide_eq_true h, by omega⟩
  · have e : (a - p) % 4294967296 = a - p := by omega
    rw [e]
    by_cases h2 : n ≤ a - p
    · exact .inr (.inl ⟨decide_eq_false h, decide_eq_true h2, by omega⟩)
    · exact .inr (.inr ⟨decide_eq_false h, decide_eq_false h2, by omega, by omega⟩)

set_option maxRecDepth 100000 in
set_option maxHeartbeats 1000000 in
theorem device_calls (W : World) (a : Int) (a0 : 0 ≤ a) (a1 : a < 4294967296) (hp : Ports W) : Calls Tryd.prog 32 #[.int .u32 a] W fun e w' => e = .returned (.int .i64 (rdev a)) ∧ Below W.heap.size W w' := by
  have g0 : W.cell? ⟨0, 0, none⟩ = some (.int .u32 1048576) := hp 0 _ rfl
  have g1 : W.cell? ⟨0, 1, none⟩ = some (.int .u32 4) := hp 1 _ rfl
  have g2 : W.cell? ⟨0, 2, none⟩ = some (.int .u32 268435456) := hp 2 _ rfl
  have g3 : W.cell? ⟨0, 3, none⟩ = some (.int .u32 8) := hp 3 _ rfl
  have g4 : W.cell? ⟨0, 4, none⟩ = some (.int .u32 33554432) := hp 4 _ rfl
  have g5 : W.cell? ⟨0, 5, none⟩ = some (.int .u32 4) := hp 5 _ rfl
  have g6 : W.cell? ⟨0, 6, none⟩ = some (.int .u32 33570816) := hp 6 _ rfl
  have g7 : W.cell? ⟨0, 7, none⟩ = some (.int .u32 8) := hp 7 _ rfl
  have g8 : W.cell? ⟨0, 8, none⟩ = some (.int .u32 33603576) := hp 8 _ rfl
  have g9 : W.cell? ⟨0, 9, none⟩ = some (.int .u32 8) := hp 9 _ rfl
  clear hp
  go_enter Tryd.func32, Tryd.ntmps32
  go_wp2_with fail
  go_step3
  go_wp2_with fail
  go_step3
  go_wp2_with fail
  go_loopg [3, 7] 6 (fun g o i wr => ∃ k : Nat, g + k = 6 ∧ k ≤ 5 ∧ o = .int .i64 (-1) ∧ i = .int .i64 (k : Int) ∧ Aside0 (Below W.heap.size W wr) ∧ Aside0 (rdev a = -1 ∨ (k : Int) ≤ rdev a))
  case atStart => exact ⟨0, rfl, by omega, rfl, rfl, ⟨Below.refl _ _⟩, ⟨by unfold rdev; split <;> (try split) <;> (try split) <;> (try split) <;> (try split) <;> simp⟩⟩
  case round =>
    obtain ⟨k, hk, hk5, rfl, rfl, hB, hR⟩ := hrel
    obtain ⟨wo, rfl⟩ : ∃ wo : World, wo = wr := ⟨_, rfl⟩
    clear g0 g1 g2 g3 g4 g5 g6 g7 g8 g9
    obtain rfl | rfl | rfl | rfl | rfl | rfl : k = 0 ∨ k = 1 ∨ k = 2 ∨ k = 3 ∨ k = 4 ∨ k = 5 := by omega
    · have ix : ∀ w, (Instr.index 108 (.agg #[.int .u32 1048576, .int .u32 4, .int .u32 268435456, .int .u32 8, .int .u32 33554432, .int .u32 4, .int .u32 33570816, .int .u32 8, .int .u32 33603576, .int .u32 8]) (.int .i64 0)).run Tryd.prog w = .ok (.agg #[.int .u32 1048576, .int .u32 4]) w := fun _ => by kernel_rfl
      rcases port_test a 1048576 4 a0 a1 (by omega) (by omega) (by omega) with ⟨h1, h2⟩ | ⟨h1, h3, h2⟩ | ⟨h1, h3, h2⟩
      · have HN := Aside0.mk (rdev_n0 h2 hR.out)
        have HB := Aside0.mk (fun o => below_alloc hB.out o)
        clear h2 hR hB
        go_wp2_with fail
        go_roundg (gk - 1)
        case measure => omega
        case rel => exact ⟨1, by omega, by omega, rfl, rfl, ⟨HB.out _⟩, HN⟩
      · have HN := Aside0.mk (rdev_n0 h2 hR.out)
        have HB := Aside0.mk (fun o => below_alloc hB.out o)
        clear h2 hR hB
        go_wp2_with fail
        go_roundg (gk - 1)
        case measure => omega
        case rel => exact ⟨1, by omega, by omega, rfl, rfl, ⟨HB.out _⟩, HN⟩
      · have HN := Aside0.mk (rdev_0 h2)
        have HB := Aside0.mk (fun o => below_alloc hB.out o)
        clear h2 hR hB
        go_wp2_with fail
        try rw [Exit.noGoto_ret]
        go_ret
        exact ⟨by rw [HN.out]; rfl, HB.out _⟩
    · have ix : ∀ w, (Instr.index 108 (.agg #[.int .u32 1048576, .int .u32 4, .int .u32 268435456, .int .u32 8, .int .u32 33554432, .int .u32 4, .int .u32 33570816, .int .u32 8, .int .u32 33603576, .int .u32 8]) (.int .i64 1)).run Tryd.prog w = .ok (.agg #[.int .u32 268435456, .int .u32 8]) w := fun _ => by kernel_rfl
      rcases port_test a 268435456 8 a0 a1 (by omega) (by omega) (by omega) with ⟨h1, h2⟩ | ⟨h1, h3, h2⟩ | ⟨h1, h3, h2⟩
      · have HN := Aside0.mk (rdev_n1 h2 hR.out)
        have HB := Aside0.mk (fun o => below_alloc hB.out o)
        clear h2 hR hB
        go_wp2_with fail
        go_roundg (gk - 1)
        case measure => omega
        case rel => exact ⟨2, by omega, by omega, rfl, rfl, ⟨HB.out _⟩, HN⟩
      · have HN := Aside0.mk (rdev_n1 h2 hR.out)
        have HB := Aside0.mk (fun o => below_alloc hB.out o)
        clear h2 hR hB
        go_wp2_with fail
        go_roundg (gk - 1)
        case measure => omega
        case rel => exact ⟨2, by omega, by omega, rfl, rfl, ⟨HB.out _⟩, HN⟩
      · have HN := Aside0.mk (rdev_1 h2)
        have HB := Aside0.mk (fun o => below_alloc hB.out o)
        clear h2 hR hB
        go_wp2_with fail
        try rw [Exit.noGoto_ret]
        go_ret
        exact ⟨by rw [HN.out]; rfl, HB.out _⟩
    · have ix : ∀ w, (Instr.index 108 (.agg #[.int .u32 1048576, .int .u32 4, .int .u32 268435456, .int .u32 8, .int .u32 33554432, .int .u32 4, .int .u32 33570816, .int .u32 8, .int .u32 33603576, .int .u32 8]) (.int .i64 2)).run Tryd.prog w = .ok (.agg #[.int .u32 33554432, .int .u32 4]) w := fun _ => by kernel_rfl
      rcases port_test a 33554432 4 a0 a1 (by omega) (by omega) (by omega) with ⟨h1, h2⟩ | ⟨h1, h3, h2⟩ | ⟨h1, h3, h2⟩
      · have HN := Aside0.mk (rdev_n2 h2 hR.out)
        have HB := Aside0.mk (fun o => below_alloc hB.out o)
        clear h2 hR hB
        go_wp2_with fail
        go_roundg (gk - 1)
        case measure => omega
        case rel => exact ⟨3, by omega, by omega, rfl, rfl, ⟨HB.out _⟩, HN⟩
      · have HN := Aside0.mk (rdev_n2 h2 hR.out)
        have HB := Aside0.mk (fun o => below_alloc hB.out o)
        clear h2 hR hB
        go_wp2_with fail
        go_roundg (gk - 1)
        case measure => omega
        case rel => exact ⟨3, by omega, by omega, rfl, rfl, ⟨HB.out _⟩, HN⟩
      · have HN := Aside0.mk (rdev_2 h2)
        have HB := Aside0.mk (fun o => below_alloc hB.out o)
        clear h2 hR hB
        go_wp2_with fail
        try rw [Exit.noGoto_ret]
        go_ret
        exact ⟨by rw [HN.out]; rfl, HB.out _⟩
    · have ix : ∀ w, (Instr.index 108 (.agg #[.int .u32 1048576, .int .u32 4, .int .u32 268435456, .int .u32 8, .int .u32 33554432, .int .u32 4, .int .u32 33570816, .int .u32 8, .int .u32 33603576, .int .u32 8]) (.int .i64 3)).run Tryd.prog w = .ok (.agg #[.int .u32 33570816, .int .u32 8]) w := fun _ => by kernel_rfl
      rcases port_test a 33570816 8 a0 a1 (by omega) (by omega) (by omega) with ⟨h1, h2⟩ | ⟨h1, h3, h2⟩ | ⟨h1, h3, h2⟩
      · have HN := Aside0.mk (rdev_n3 h2 hR.out)
        have HB := Aside0.mk (fun o => below_alloc hB.out o)
        clear h2 hR hB
        go_wp2_with fail
        go_roundg (gk - 1)
        case measure => omega
        case rel => exact ⟨4, by omega, by omega, rfl, rfl, ⟨HB.out _⟩, HN⟩
      · have HN := Aside0.mk (rdev_n3 h2 hR.out)
        have HB := Aside0.mk (fun o => below_alloc hB.out o)
        clear h2 hR hB
        go_wp2_with fail
        go_roundg (gk - 1)
        case measure => omega
        case rel => exact ⟨4, by omega, by omega, rfl, rfl, ⟨HB.out _⟩, HN⟩
      · have HN := Aside0.mk (rdev_3 h2)
        have HB := Aside0.mk (fun o => below_alloc hB.out o)
        clear h2 hR hB
        go_wp2_with fail
        try rw [Exit.noGoto_ret]
        go_ret
        exact ⟨by rw [HN.out]; rfl, HB.out _⟩
    · have ix : ∀ w, (Instr.index 108 (.agg #[.int .u32 1048576, .int .u32 4, .int .u32 268435456, .int .u32 8, .int .u32 33554432, .int .u32 4, .int .u32 33570816, .int .u32 8, .int .u32 33603576, .int .u32 8]) (.int .i64 4)).run Tryd.prog w = .ok (.agg #[.int .u32 33603576, .int .u32 8]) w := fun _ => by kernel_rfl
      rcases port_test a 33603576 8 a0 a1 (by omega) (by omega) (by omega) with ⟨h1, h2⟩ | ⟨h1, h3, h2⟩ | ⟨h1, h3, h2⟩
      · have HN := Aside0.mk (rdev_n4 h2 hR.out)
        have HB := Aside0.mk (fun o => below_alloc hB.out o)
        clear h2 hR hB
        go_wp2_with fail
        go_roundg (gk - 1)
        case measure => omega
        case rel => exact ⟨5, by omega, by omega, rfl, rfl, ⟨HB.out _⟩, HN⟩
      · have HN := Aside0.mk (rdev_n4 h2 hR.out)
        have HB := Aside0.mk (fun o => below_alloc hB.out o)
        clear h2 hR hB
        go_wp2_with fail
        go_roundg (gk - 1)
        case measure => omega
        case rel => exact ⟨5, by omega, by omega, rfl, rfl, ⟨HB.out _⟩, HN⟩
      · have HN := Aside0.mk (rdev_4 h2)
        have HB := Aside0.mk (fun o => below_alloc hB.out o)
        clear h2 hR hB
        go_wp2_with fail
        try rw [Exit.noGoto_ret]
        go_ret
        exact ⟨by rw [HN.out]; rfl, HB.out _⟩
    · have HN : Aside0 (rdev a = -1) := ⟨by
        rcases hR.out with h | h
        · exact h
        · exfalso; unfold rdev at h; split at h <;> (try split at h) <;> (try split at h) <;> (try split at h) <;> (try split at h) <;> omega⟩
      clear hR
      go_wp2_with fail
      try rw [Exit.noGoto_ret]
      go_ret
      exact ⟨by rw [HN.out]; rfl, hB.out⟩
end Go.Proofs.YtdalboofhckobaaDoor

namespace Go.Proofs.YtdalboofhckobaaDoor
open Go Go.RowKit Go.Proofs.YtdalboofhckobaaDoorW.PrintWords
set_option linter.unusedVariables false
set_option linter.unusedSimpArgs false

/-- Block B of the world is a bus: its memory at R, console at C, timer at T. -/
def IsBus (w : World) (B R C T : Nat) (off : Bool) (code : Int) : Prop := w.heap[B]? = some (.cells #[.pointer (some ⟨R, 0, none⟩), .pointer (some ⟨C, 0, none⟩), .pointer (some ⟨T, 0, none⟩), .bool off, .int .u32 code] 74 (0, 0))
section
variable {w w' : World} {B R C T : Nat} {off : Bool} {code : Int}
theorem IsBus.below (h : IsBus w B R C T off code) (k : Below w.heap.size w w') : IsBus w' B R C T off code := blk_below h k
theorem IsBus.drawn (h : IsBus w B R C T off code) (k : Drawn0 w w') : IsBus w' B R C T off code := h.below k.below
theorem IsBus.drewN (n : Nat) (h : IsBus w B R C T off code) : IsBus (w.drewN n) B R C T off code := h
theorem IsBus.c0 (h : IsBus w B R C T off code) : w.cell? ⟨B, 0, none⟩ = some (.pointer (some ⟨R, 0, none⟩)) := (blk_cell h 0).trans rfl
theorem IsBus.c1 (h : IsBus w B R C T off code) : w.cell? ⟨B, 1, none⟩ = some (.pointer (some ⟨C, 0, none⟩)) := (blk_cell h 1).trans rfl
theorem IsBus.c2 (h : IsBus w B R C T off code) : w.cell? ⟨B, 2, none⟩ = some (.pointer (some ⟨T, 0, none⟩)) := (blk_cell h 2).trans rfl
theorem IsBus.c3 (h : IsBus w B R C T off code) : w.cell? ⟨B, 3, none⟩ = some (.bool off) := (blk_cell h 3).trans rfl
theorem IsBus.c4 (h : IsBus w B R C T off code) : w.cell? ⟨B, 4, none⟩ = some (.int .u32 code) := (blk_cell h 4).trans rfl
end

/-- What an access is of. -/
def bclass (n : Nat) (a m : Int) : Int := if m = 1 ∨ m = 2 ∨ m = 4 then (if a % m = 0 then (if rhas n a m = true then 1 else if m = 4 ∧ 0 ≤ rdev a then 2 else 0) else 0) else 0
/-- Why there is no access. -/
def basked (n : Nat) (a m : Int) : Int := if m = 1 ∨ m = 2 ∨ m = 4 then (if a % m = 0 then (if bclass n a m = 0 then 6 else 0) else 5) else 2

set_option maxRecDepth 100000 in
theorem class_shape (w : World) (B : Nat) (a m : Int) (hm : ((m != 1) && (m != 2) && (m != 4)) = true) : Calls Tryd.prog 10 #[.pointer (some ⟨B, 0, none⟩), .int .u32 a, .int .i64 m] w fun e w' => e = .returned (.int .i64 0) ∧ Drawn0 w w' := by
  go_enter Tryd.func10, Tryd.ntmps10
  go_wp2_with fail
  all_goals first | (go_ret; exact ⟨rfl, Drawn0.refl _⟩) | (exfalso; simp_all; done)
set_option maxRecDepth 100000 in
theorem class_odd (w : World) (B : Nat) (a m : Int) (a0 : 0 ≤ a) (hm : m = 1 ∨ m = 2 ∨ m = 4) (ho : ¬ a % m = 0) : Calls Tryd.prog 10 #[.pointer (some ⟨B, 0, none⟩), .int .u32 a, .int .i64 m] w fun e w' => e = .returned (.int .i64 0) ∧ Drawn0 w w' := by
  rcases hm with rfl | rfl | rfl
  · exfalso; omega
  · have ho' : (a % 2 != 0) = true := by simpa using ho
    clear ho
    go_enter Tryd.func10, Tryd.ntmps10
    go_wp2_with fail
    go_ret
    exact ⟨rfl, Drawn0.refl _⟩
  · have ho' : (a % 4 != 0) = true := by simpa using ho
    clear ho
    go_enter Tryd.func10, Tryd.ntmps10
    go_wp2_with fail
    go_ret
    exact ⟨rfl, Drawn0.refl _⟩
set_option maxRecDepth 100000 in
theorem class_has (w : World) (B R C T : Nat) (off : Bool) (code : Int) (n : Nat) (r : Bool) (a m : Int) (a0 : 0 ≤ a) (hB : IsBus w B R C T off code) (hm : m = 1 ∨ m = 2 ∨ m = 4) (ho : a % m = 0) (HH : Calls Tryd.prog 31 #[.pointer (some ⟨R, 0, none⟩), .int .u32 a, .int .i64 m] w fun e w' => e = .returned (.bool r) ∧ Drawn0 w w') (hr : r = true ∨ m = 1 ∨ m = 2) : Calls Tryd.prog 10 #[.pointer (some ⟨B, 0, none⟩), .int .u32 a, .int .i64 m] w fun e w' => e = .returned (.int .i64 (if r = true then 1 else 0)) ∧ Below w.heap.size w w' := by
  have HH := Aside0.mk HH
  have c0 := hB.c0
  clear hB
  rcases hm with rfl | rfl | rfl
  all_goals
    cases r
    all_goals
      first
      | (exfalso; rcases hr with h | h | h <;> simp at h; done)
      | (clear hr
         go_enter Tryd.func10, Tryd.ntmps10
         go_wp2_with fail
         refine HH.out.mono ?_
         rintro e w1 ⟨rfl, d1⟩
         go_wp2_with fail
         go_ret
         exact ⟨rfl, d1.below⟩)
set_option maxRecDepth 100000 in
theorem class_dev (w : World) (B R C T : Nat) (off : Bool) (code : Int) (n : Nat) (a v : Int) (a0 : 0 ≤ a) (hB : IsBus w B R C T off code) (ho : a % 4 = 0) (HH : Calls Tryd.prog 31 #[.pointer (some ⟨R, 0, none⟩), .int .u32 a, .int .i64 4] w fun e w' => e = .returned (.bool false) ∧ Drawn0 w w') (HD : ∀ w', Below w.heap.size w w' → Calls Tryd.prog 32 #[.int .u32 a] w' fun e w'' => e = .returned (.int .i64 v) ∧ Below w'.heap.size w' w'') : Calls Tryd.prog 10 #[.pointer (some ⟨B, 0, none⟩), .int .u32 a, .int .i64 4] w fun e w' => e = .returned (.int .i64 (if 0 ≤ v then 2 else 0)) ∧ Below w.heap.size w w' := by
  have HH := Aside0.mk HH
  have HD := Aside0.mk HD
  have c0 := hB.c0
  clear hB
  by_cases h0 : 0 ≤ v
  · have h1 : decide (0 ≤ v) = true := decide_eq_true h0
    rw [if_pos h0]
    clear h0
    go_enter Tryd.func10, Tryd.ntmps10
    go_wp2_with fail
    refine HH.out.mono ?_
    rintro e w1 ⟨rfl, d1⟩
    have B1 := Aside0.mk d1.below
    clear d1
    go_wp2_with fail
    refine (HD.out _ B1.out).mono ?_
    rintro e w2 ⟨rfl, b2⟩
    have B2 := Aside0.mk (below_on B1.out b2)
    clear b2
    go_wp2_with fail
    go_ret
    exact ⟨rfl, B2.out⟩
  · have h1 : decide (0 ≤ v) = false := decide_eq_false h0
    rw [if_neg h0]
    clear h0
    go_enter Tryd.func10, Tryd.ntmps10
    go_wp2_with fail
    refine HH.out.mono ?_
    rintro e w1 ⟨rfl, d1⟩
    have B1 := Aside0.mk d1.below
    clear d1
    go_wp2_with fail
    refine (HD.out _ B1.out).mono ?_
    rintro e w2 ⟨rfl, b2⟩
    have B2 := Aside0.mk (below_on B1.out b2)
    clear b2
    go_wp2_with fail
    go_ret
    exact ⟨rfl, B2.out⟩

section
variable {w : World} {B R C T BB BW BG n k : Nat} {l : List Int} {ws : List Bool} {gs : List Int} {off : Bool} {code : Int}
theorem class_calls (a m : Int) (hB : IsBus w B R C T off code) (hr : IsRam w R BB BW BG n k l ws gs) (hn : n ≤ 65536) (hp : Ports w) (a0 : 0 ≤ a) (a1 : a < 4294967296) : Calls Tryd.prog 10 #[.pointer (some ⟨B, 0, none⟩), .int .u32 a, .int .i64 m] w fun e w' => e = .returned (.int .i64 (bclass n a m)) ∧ Below w.heap.size w w' := by
  by_cases hm : m = 1 ∨ m = 2 ∨ m = 4
  · by_cases ho : a % m = 0
    · have HH := has_calls w a m hr hn a0 a1
      by_cases h1 : rhas n a m = true
      · rw [h1] at HH
        have := class_has w B R C T off code n true a m a0 hB hm ho HH (.inl rfl)
        rw [show bclass n a m = 1 by unfold bclass; rw [if_pos hm, if_pos ho, if_pos h1]]
        exact this
      · have h1' : rhas n a m = false := by simpa using h1
        rw [h1'] at HH
        by_cases h4 : m = 4
        · subst h4
          rw [show bclass n a 4 = if 0 ≤ rdev a then 2 else 0 by unfold bclass; rw [if_pos hm, if_pos ho, if_neg h1]; simp]
          exact class_dev w B R C T off code n a _ a0 hB ho HH (fun w' hb => device_calls w' a a0 a1 (hp.below hb))
        · have := class_has w B R C T off code n false a m a0 hB hm ho HH (by omega)
          rw [show bclass n a m = 0 by unfold bclass; rw [if_pos hm, if_pos ho, if_neg h1, if_neg (by omega)]]
          exact this
    · rw [show bclass n a m = 0 by unfold bclass; rw [if_pos hm, if_neg ho]]
      exact (class_odd w B a m a0 hm ho).mono fun e w' ⟨he, hd⟩ => ⟨he, hd.below⟩
  · rw [show bclass n a m = 0 by unfold bclass; rw [if_neg hm]]
    exact (class_shape w B a m (by simp; omega)).mono fun e w' ⟨he, hd⟩ => ⟨he, hd.below⟩
end
end Go.Proofs.YtdalboofhckobaaDoor

namespace Go.Proofs.YtdalboofhckobaaDoor
open Go Go.RowKit Go.Proofs.YtdalboofhckobaaDoorW.PrintWords
set_option linter.unusedVariables false
set_option linter.unusedSimpArgs false

set_option maxRecDepth 100000 in
theorem basked_shape (w : World) (B : Nat) (a m : Int) (hm : ((m != 1) && (m != 2) && (m != 4)) = true) : Calls Tryd.prog 37 #[.pointer (some ⟨B, 0, none⟩), .int .u32 a, .int .i64 m] w fun e w' => e = .returned (.int .i64 2) ∧ Drawn0 w w' := by
  go_enter Tryd.func37, Tryd.ntmps37
  go_wp2_with fail
  all_goals first | (go_ret; exact ⟨rfl, Drawn0.refl _⟩) | (exfalso; simp_all; done)
set_option maxRecDepth 100000 in
theorem basked_odd (w : World) (B : Nat) (a m : Int) (a0 : 0 ≤ a) (hm : m = 1 ∨ m = 2 ∨ m = 4) (ho : ¬ a % m = 0) : Calls Tryd.prog 37 #[.pointer (some ⟨B, 0, none⟩), .int .u32 a, .int .i64 m] w fun e w' => e = .returned (.int .i64 5) ∧ Drawn0 w w' := by
  rcases hm with rfl | rfl | rfl
  · exfalso; omega
  · have ho' : (a % 2 != 0) = true := by simpa using ho
    clear ho
    go_enter Tryd.func37, Tryd.ntmps37
    go_wp2_with fail
    go_ret
    exact ⟨rfl, Drawn0.refl _⟩
  · have ho' : (a % 4 != 0) = true := by simpa using ho
    clear ho
    go_enter Tryd.func37, Tryd.ntmps37
    go_wp2_with fail
    go_ret
    exact ⟨rfl, Drawn0.refl _⟩
set_option maxRecDepth 100000 in
theorem basked_has (w : World) (B : Nat) (a m v : Int) (a0 : 0 ≤ a) (hm : m = 1 ∨ m = 2 ∨ m = 4) (ho : a % m = 0) (HC : Calls Tryd.prog 10 #[.pointer (some ⟨B, 0, none⟩), .int .u32 a, .int .i64 m] w fun e w' => e = .returned (.int .i64 v) ∧ Below w.heap.size w w') : Calls Tryd.prog 37 #[.pointer (some ⟨B, 0, none⟩), .int .u32 a, .int .i64 m] w fun e w' => e = .returned (.int .i64 (if v = 0 then 6 else 0)) ∧ Below w.heap.size w w' := by
  have HC := Aside0.mk HC
  by_cases hv : v = 0
  · subst hv
    rcases hm with rfl | rfl | rfl
    all_goals
      go_enter Tryd.func37, Tryd.ntmps37
      go_wp2_with fail
      refine HC.out.mono ?_
      rintro e w1 ⟨rfl, d1⟩
      go_wp2_with fail
      go_ret
      exact ⟨rfl, d1⟩
  · have hv' : (v == 0) = false := beq_eq_false_iff_ne.2 hv
    rw [if_neg hv]
    clear hv
    rcases hm with rfl | rfl | rfl
    all_goals
      go_enter Tryd.func37, Tryd.ntmps37
      go_wp2_with fail
      refine HC.out.mono ?_
      rintro e w1 ⟨rfl, d1⟩
      go_wp2_with fail
      go_ret
      exact ⟨rfl, d1⟩
section
variable {w : World} {B R C T BB BW BG n k : Nat} {l : List Int} {ws : List Bool} {gs : List Int} {off : Bool} {code : Int}
theorem basked_calls (a m : Int) (hB : IsBus w B R C T off code) (hr : IsRam w R BB BW BG n k l ws gs) (hn : n ≤ 65536) (hp : Ports w) (a0 : 0 ≤ a) (a1 : a < 4294967296) : Calls Tryd.prog 37 #[.pointer (some ⟨B, 0, none⟩), .int .u32 a, .int .i64 m] w fun e w' => e = .returned (.int .i64 (basked n a m)) ∧ Below w.heap.size w w' := by
  by_cases hm : m = 1 ∨ m = 2 ∨ m = 4
  · by_cases ho : a % m = 0
    · rw [show basked n a m = if bclass n a m = 0 then 6 else 0 by unfold basked; rw [if_pos hm, if_pos ho]]
      exact basked_has w B a m _ a0 hm ho (class_calls a m hB hr hn hp a0 a1)
    · rw [show basked n a m = 5 by unfold basked; rw [if_pos hm, if_neg ho]]
      exact (basked_odd w B a m a0 hm ho).mono fun e w' ⟨he, hd⟩ => ⟨he, hd.below⟩
  · rw [show basked n a m = 2 by unfold basked; rw [if_neg hm]]
    exact (basked_shape w B a m (by simp; omega)).mono fun e w' ⟨he, hd⟩ => ⟨he, hd.below⟩
end

/-- What Load and Store ask first. -/
structure BAsk (w : World) (B : Nat) (a m e0 c d : Int) : Prop where
  ask : ∀ w', Below w.heap.size w w' → Calls Tryd.prog 37 #[.pointer (some ⟨B, 0, none⟩), .int .u32 a, .int .i64 m] w' fun e w'' => e = .returned (.int .i64 e0) ∧ Below w'.heap.size w' w''
  cls : ∀ w', Below w.heap.size w w' → Calls Tryd.prog 10 #[.pointer (some ⟨B, 0, none⟩), .int .u32 a, .int .i64 m] w' fun e w'' => e = .returned (.int .i64 c) ∧ Below w'.heap.size w' w''
  dev : ∀ w', Below w.heap.size w w' → Calls Tryd.prog 32 #[.int .u32 a] w' fun e w'' => e = .returned (.int .i64 d) ∧ Below w'.heap.size w' w''
theorem bask {w : World} {B R C T BB BW BG n k : Nat} {l : List Int} {ws : List Bool} {gs : List Int} {off : Bool} {code : Int} (a m : Int) (hB : IsBus w B R C T off code) (hr : IsRam w R BB BW BG n k l ws gs) (hn : n ≤ 65536) (hp : Ports w) (a0 : 0 ≤ a) (a1 : a < 4294967296) : BAsk w B a m (basked n a m) (bclass n a m) (rdev a) :=
  ⟨fun w' hb => basked_calls a m (hB.below hb) (hr.below hb) hn (hp.below hb) a0 a1, fun w' hb => class_calls a m (hB.below hb) (hr.below hb) hn (hp.below hb) a0 a1, fun w' hb => device_calls w' a a0 a1 (hp.below hb)⟩

set_option maxRecDepth 100000 in
theorem bstore_no (W : World) (B : Nat) (a m x t e0 c d : Int) (H : BAsk W B a m e0 c d) (hz : (e0 != 0) = true) : Calls Tryd.prog 14 #[.pointer (some ⟨B, 0, none⟩), .int .u32 a, .int .i64 m, .int .u32 x, .int .u64 t] W fun e w' => e = .returned (.tuple #[.bool false, .int .i64 e0]) ∧ Below W.heap.size W w' := by
  have H := Aside0.mk H
  go_enter Tryd.func14, Tryd.ntmps14
  have B0 := Aside0.mk ((Below.refl W.heap.size W))
  go_wp2_with fail
  refine (H.out.ask _ B0.out).mono ?_
  rintro e w1 ⟨rfl, d⟩
  have B1 := Aside0.mk (below_on B0.out d)
  clear d B0
  go_wp2_with fail
  go_ret2
  exact ⟨rfl, B1.out⟩
set_option maxRecDepth 100000 in
theorem bload_no (W : World) (B : Nat) (a m t e0 c d : Int) (H : BAsk W B a m e0 c d) (hz : (e0 != 0) = true) : Calls Tryd.prog 17 #[.pointer (some ⟨B, 0, none⟩), .int .u32 a, .int .i64 m, .int .u64 t] W fun e w' => e = .returned (.tuple #[.int .u32 0, .int .i64 e0]) ∧ Below W.heap.size W w' := by
  have H := Aside0.mk H
  go_enter Tryd.func17, Tryd.ntmps17
  have B0 := Aside0.mk ((Below.refl W.heap.size W))
  go_wp2_with fail
  refine (H.out.ask _ B0.out).mono ?_
  rintro e w1 ⟨rfl, d⟩
  have B1 := Aside0.mk (below_on B0.out d)
  clear d B0
  go_wp2_with fail
  go_ret2
  exact ⟨rfl, B1.out⟩
set_option maxRecDepth 100000 in
theorem bstore_mem (W : World) (B R C T : Nat) (off : Bool) (code : Int) (a m x t d e1 : Int) (b : Bool) (Q : World → Prop) (hB : IsBus W B R C T off code) (H : BAsk W B a m 0 1 d) (HS : ∀ w', Below W.heap.size W w' → Calls Tryd.prog 38 #[.pointer (some ⟨R, 0, none⟩), .int .u32 a, .int .i64 m, .int .u32 x] w' fun e w'' => e = .returned (.tuple #[.bool b, .int .i64 e1]) ∧ Q w'') : Calls Tryd.prog 14 #[.pointer (some ⟨B, 0, none⟩), .int .u32 a, .int .i64 m, .int .u32 x, .int .u64 t] W fun e w' => e = .returned (.tuple #[.bool b, .int .i64 e1]) ∧ Q w' := by
  have H := Aside0.mk H
  have HS := Aside0.mk HS
  have HB := Aside0.mk (fun w' (b : Below W.heap.size W w') => (hB.below b).c0)
  clear hB
  go_enter Tryd.func14, Tryd.ntmps14
  have B0 := Aside0.mk ((Below.refl W.heap.size W))
  go_wp2_with fail
  refine (H.out.ask _ B0.out).mono ?_
  rintro e w1 ⟨rfl, d⟩
  have B1 := Aside0.mk (below_on B0.out d)
  clear d B0
  go_wp2_with fail
  refine (H.out.cls _ B1.out).mono ?_
  rintro e v ⟨rfl, bv⟩
  have BV := Aside0.mk (below_on B1.out bv)
  have c0 := HB.out _ BV.out
  clear bv
  go_wp2_with fail
  refine (HS.out _ BV.out).mono ?_
  rintro e v2 ⟨rfl, hq⟩
  have HQ := Aside0.mk hq
  clear hq
  go_wp2_with fail
  go_ret2
  exact ⟨rfl, HQ.out⟩
set_option maxRecDepth 100000 in
theorem bload_mem (W : World) (B R C T : Nat) (off : Bool) (code : Int) (a m t d e1 r : Int) (Q : World → Prop) (hB : IsBus W B R C T off code) (H : BAsk W B a m 0 1 d) (HS : ∀ w', Below W.heap.size W w' → Calls Tryd.prog 41 #[.pointer (some ⟨R, 0, none⟩), .int .u32 a, .int .i64 m] w' fun e w'' => e = .returned (.tuple #[.int .u32 r, .int .i64 e1]) ∧ Q w'') : Calls Tryd.prog 17 #[.pointer (some ⟨B, 0, none⟩), .int .u32 a, .int .i64 m, .int .u64 t] W fun e w' => e = .returned (.tuple #[.int .u32 r, .int .i64 e1]) ∧ Q w' := by
  have H := Aside0.mk H
  have HS := Aside0.mk HS
  have HB := Aside0.mk (fun w' (b : Below W.heap.size W w') => (hB.below b).c0)
  clear hB
  go_enter Tryd.func17, Tryd.ntmps17
  have B0 := Aside0.mk ((Below.refl W.heap.size W))
  go_wp2_with fail
  refine (H.out.ask _ B0.out).mono ?_
  rintro e w1 ⟨rfl, d⟩
  have B1 := Aside0.mk (below_on B0.out d)
  clear d B0
  go_wp2_with fail
  refine (H.out.cls _ B1.out).mono ?_
  rintro e v ⟨rfl, bv⟩
  have BV := Aside0.mk (below_on B1.out bv)
  have c0 := HB.out _ BV.out
  clear bv
  go_wp2_with fail
  refine (HS.out _ BV.out).mono ?_
  rintro e v2 ⟨rfl, hq⟩
  have HQ := Aside0.mk hq
  clear hq
  go_wp2_with fail
  go_ret2
  exact ⟨rfl, HQ.out⟩
set_option maxRecDepth 100000 in
theorem bstore_off (W : World) (B R C T : Nat) (off : Bool) (code : Int) (a m x t : Int) (hB : IsBus W B R C T off code) (H : BAsk W B a m 0 2 0) : Calls Tryd.prog 14 #[.pointer (some ⟨B, 0, none⟩), .int .u32 a, .int .i64 m, .int .u32 x, .int .u64 t] W fun e w' => e = .returned (.tuple #[.bool false, .int .i64 0]) ∧ IsBus w' B R C T true x ∧ Only B W w' := by
  have H := Aside0.mk H
  have HB := Aside0.mk (fun w' (b : Below W.heap.size W w') => hB.below b)
  clear hB
  go_enter Tryd.func14, Tryd.ntmps14
  have B0 := Aside0.mk ((Below.refl W.heap.size W))
  go_wp2_with fail
  refine (H.out.ask _ B0.out).mono ?_
  rintro e w1 ⟨rfl, d⟩
  have B1 := Aside0.mk (below_on B0.out d)
  clear d B0
  go_wp2_with fail
  refine (H.out.cls _ B1.out).mono ?_
  rintro e w2 ⟨rfl, d⟩
  have B2 := Aside0.mk (below_on B1.out d)
  clear d B1
  go_wp2_with fail
  refine (H.out.dev _ B2.out).mono ?_
  rintro e v ⟨rfl, bv⟩
  have BV := Aside0.mk (below_on B2.out bv)
  have HI := Aside0.mk (HB.out _ BV.out)
  have c3 := HI.out.c3
  have c4 := HI.out.c4
  have zf : ∀ i, v.frozen? ⟨B, i, none⟩ = false := blk_frozen HI.out
  have HE := Aside0.mk (blk_set (blk_set HI.out 3 (.bool true)) 4 (.int .u32 x))
  have HO := Aside0.mk (((Only.of_below (B := B) BV.out).setCell 3 (.bool true)).setCell 4 (.int .u32 x))
  clear bv HB H
  go_wp2_with fail
  go_ret2
  exact ⟨rfl, HE.out, HO.out⟩
set_option maxRecDepth 100000 in
theorem bload_off (W : World) (B R C T : Nat) (off : Bool) (code : Int) (a m t : Int) (H : BAsk W B a m 0 2 0) : Calls Tryd.prog 17 #[.pointer (some ⟨B, 0, none⟩), .int .u32 a, .int .i64 m, .int .u64 t] W fun e w' => e = .returned (.tuple #[.int .u32 0, .int .i64 0]) ∧ Below W.heap.size W w' := by
  have H := Aside0.mk H
  go_enter Tryd.func17, Tryd.ntmps17
  have B0 := Aside0.mk ((Below.refl W.heap.size W))
  go_wp2_with fail
  refine (H.out.ask _ B0.out).mono ?_
  rintro e w1 ⟨rfl, d⟩
  have B1 := Aside0.mk (below_on B0.out d)
  clear d B0
  go_wp2_with fail
  refine (H.out.cls _ B1.out).mono ?_
  rintro e w2 ⟨rfl, d⟩
  have B2 := Aside0.mk (below_on B1.out d)
  clear d B1
  go_wp2_with fail
  refine (H.out.dev _ B2.out).mono ?_
  rintro e w3 ⟨rfl, d⟩
  have B3 := Aside0.mk (below_on B2.out d)
  clear d B2
  go_wp2_with fail
  go_ret2
  exact ⟨rfl, B3.out⟩
set_option maxRecDepth 100000 in
theorem bstore_con (W : World) (B R C T : Nat) (off : Bool) (code : Int) (a m x t r e1 : Int) (Q : World → Prop) (hB : IsBus W B R C T off code) (H : BAsk W B a m 0 2 1) (ha : (a = 268435456 ∧ r = 0) ∨ (a = 268435460 ∧ r = 4)) (HS : ∀ w', Below W.heap.size W w' → Calls Tryd.prog 39 #[.pointer (some ⟨C, 0, none⟩), .int .i64 r, .int .u32 x] w' fun e w'' => e = .returned (.int .i64 e1) ∧ Q w'') : Calls Tryd.prog 14 #[.pointer (some ⟨B, 0, none⟩), .int .u32 a, .int .i64 m, .int .u32 x, .int .u64 t] W fun e w' => e = .returned (.tuple #[.bool false, .int .i64 e1]) ∧ Q w' := by
  have H := Aside0.mk H
  have HS := Aside0.mk HS
  have HB := Aside0.mk (fun w' (b : Below W.heap.size W w') => (hB.below b).c1)
  clear hB
  rcases ha with ⟨rfl, rfl⟩ | ⟨rfl, rfl⟩
  all_goals
    go_enter Tryd.func14, Tryd.ntmps14
    have B0 := Aside0.mk ((Below.refl W.heap.size W))
    go_wp2_with fail
    refine (H.out.ask _ B0.out).mono ?_
    rintro e w1 ⟨rfl, d⟩
    have B1 := Aside0.mk (below_on B0.out d)
    clear d B0
    go_wp2_with fail
    refine (H.out.cls _ B1.out).mono ?_
    rintro e w2 ⟨rfl, d⟩
    have B2 := Aside0.mk (below_on B1.out d)
    clear d B1
    go_wp2_with fail
    refine (H.out.dev _ B2.out).mono ?_
    rintro e v ⟨rfl, bv⟩
    have BV := Aside0.mk (below_on B2.out bv)
    have c1 := HB.out _ BV.out
    clear bv
    go_wp2_with fail
    refine (HS.out _ BV.out).mono ?_
    rintro e v2 ⟨rfl, hq⟩
    have HQ := Aside0.mk hq
    clear hq
    go_wp2_with fail
    go_ret2
    exact ⟨rfl, HQ.out⟩
set_option maxRecDepth 100000 in
theorem bload_con (W : World) (B R C T : Nat) (off : Bool) (code : Int) (a m t r y e1 : Int) (Q : World → Prop) (hB : IsBus W B R C T off code) (H : BAsk W B a m 0 2 1) (ha : (a = 268435456 ∧ r = 0) ∨ (a = 268435460 ∧ r = 4)) (HS : ∀ w', Below W.heap.size W w' → Calls Tryd.prog 42 #[.pointer (some ⟨C, 0, none⟩), .int .i64 r] w' fun e w'' => e = .returned (.tuple #[.int .u32 y, .int .i64 e1]) ∧ Q w'') : Calls Tryd.prog 17 #[.pointer (some ⟨B, 0, none⟩), .int .u32 a, .int .i64 m, .int .u64 t] W fun e w' => e = .returned (.tuple #[.int .u32 y, .int .i64 e1]) ∧ Q w' := by
  have H := Aside0.mk H
  have HS := Aside0.mk HS
  have HB := Aside0.mk (fun w' (b : Below W.heap.size W w') => (hB.below b).c1)
  clear hB
  rcases ha with ⟨rfl, rfl⟩ | ⟨rfl, rfl⟩
  all_goals
    go_enter Tryd.func17, Tryd.ntmps17
    have B0 := Aside0.mk ((Below.refl W.heap.size W))
    go_wp2_with fail
    refine (H.out.ask _ B0.out).mono ?_
    rintro e w1 ⟨rfl, d⟩
    have B1 := Aside0.mk (below_on B0.out d)
    clear d B0
    go_wp2_with fail
    refine (H.out.cls _ B1.out).mono ?_
    rintro e w2 ⟨rfl, d⟩
    have B2 := Aside0.mk (below_on B1.out d)
    clear d B1
    go_wp2_with fail
    refine (H.out.dev _ B2.out).mono ?_
    rintro e v ⟨rfl, bv⟩
    have BV := Aside0.mk (below_on B2.out bv)
    have c1 := HB.out _ BV.out
    clear bv
    go_wp2_with fail
    refine (HS.out _ BV.out).mono ?_
    rintro e v2 ⟨rfl, hq⟩
    have HQ := Aside0.mk hq
    clear hq
    go_wp2_with fail
    go_ret2
    exact ⟨rfl, HQ.out⟩
set_option maxRecDepth 100000 in
theorem bstore_tim (W : World) (B R C T : Nat) (off : Bool) (code : Int) (a m x t d e1 : Int) (Q : World → Prop) (hB : IsBus W B R C T off code) (H : BAsk W B a m 0 2 d) (h0 : (d == 0) = false) (h1 : (d == 1) = false) (HS : ∀ w', Below W.heap.size W w' → Calls Tryd.prog 40 #[.pointer (some ⟨T, 0, none⟩), .int .u32 a, .int .u32 x, .int .u64 t] w' fun e w'' => e = .returned (.int .i64 e1) ∧ Q w'') : Calls Tryd.prog 14 #[.pointer (some ⟨B, 0, none⟩), .int .u32 a, .int .i64 m, .int .u32 x, .int .u64 t] W fun e w' => e = .returned (.tuple #[.bool false, .int .i64 e1]) ∧ Q w' := by
  have H := Aside0.mk H
  have HS := Aside0.mk HS
  have HB := Aside0.mk (fun w' (b : Below W.heap.size W w') => (hB.below b).c2)
  clear hB
  go_enter Tryd.func14, Tryd.ntmps14
  have B0 := Aside0.mk ((Below.refl W.heap.size W))
  go_wp2_with fail
  refine (H.out.ask _ B0.out).mono ?_
  rintro e w1 ⟨rfl, d⟩
  have B1 := Aside0.mk (below_on B0.out d)
  clear d B0
  go_wp2_with fail
  refine (H.out.cls _ B1.out).mono ?_
  rintro e w2 ⟨rfl, d⟩
  have B2 := Aside0.mk (below_on B1.out d)
  clear d B1
  go_wp2_with fail
  refine (H.out.dev _ B2.out).mono ?_
  rintro e v ⟨rfl, bv⟩
  have BV := Aside0.mk (below_on B2.out bv)
  have c2 := HB.out _ BV.out
  clear bv
  go_wp2_with fail
  refine (HS.out _ BV.out).mono ?_
  rintro e v2 ⟨rfl, hq⟩
  have HQ := Aside0.mk hq
  clear hq
  go_wp2_with fail
  go_ret2
  exact ⟨rfl, HQ.out⟩
set_option maxRecDepth 100000 in
theorem bload_tim (W : World) (B R C T : Nat) (off : Bool) (code : Int) (a m t d e1 y : Int) (Q : World → Prop) (hB : IsBus W B R C T off code) (H : BAsk W B a m 0 2 d) (h0 : (d == 0) = false) (h1 : (d == 1) = false) (HS : ∀ w', Below W.heap.size W w' → Calls Tryd.prog 43 #[.pointer (some ⟨T, 0, none⟩), .int .u32 a, .int .u64 t] w' fun e w'' => e = .returned (.tuple #[.int .u32 y, .int .i64 e1]) ∧ Q w'') : Calls Tryd.prog 17 #[.pointer (some ⟨B, 0, none⟩), .int .u32 a, .int .i64 m, .int .u64 t] W fun e w' => e = .returned (.tuple #[.int .u32 y, .int .i64 e1]) ∧ Q w' := by
  have H := Aside0.mk H
  have HS := Aside0.mk HS
  have HB := Aside0.mk (fun w' (b : Below W.heap.size W w') => (hB.below b).c2)
  clear hB
  go_enter Tryd.func17, Tryd.ntmps17
  have B0 := Aside0.mk ((Below.refl W.heap.size W))
  go_wp2_with fail
  refine (H.out.ask _ B0.out).mono ?_
  rintro e w1 ⟨rfl, d⟩
  have B1 := Aside0.mk (below_on B0.out d)
  clear d B0
  go_wp2_with fail
  refine (H.out.cls _ B1.out).mono ?_
  rintro e w2 ⟨rfl, d⟩
  have B2 := Aside0.mk (below_on B1.out d)
  clear d B1
  go_wp2_with fail
  refine (H.out.dev _ B2.out).mono ?_
  rintro e v ⟨rfl, bv⟩
  have BV := Aside0.mk (below_on B2.out bv)
  have c2 := HB.out _ BV.out
  clear bv
  go_wp2_with fail
  refine (HS.out _ BV.out).mono ?_
  rintro e v2 ⟨rfl, hq⟩
  have HQ := Aside0.mk hq
  clear hq
  go_wp2_with fail
  go_ret2
  exact ⟨rfl, HQ.out⟩
end Go.Proofs.YtdalboofhckobaaDoor

namespace Go.Proofs.YtdalboofhckobaaDoor
open Go Go.RowKit Go.Proofs.YtdalboofhckobaaDoorW.PrintWords
set_option linter.unusedVariables false
set_option linter.unusedSimpArgs false

set_option maxRecDepth 100000 in
theorem busnew_no (w : World) (a b c : Option Addr) (h : a = none ∨ b = none ∨ c = none) (ha : ∀ x, a = some x → True) : Calls Tryd.prog 21 #[.pointer a, .pointer b, .pointer c] w fun e w' => e = .returned (.tuple #[.pointer none, .int .i64 2]) ∧ Drawn0 w w' := by
  rcases h with rfl | rfl | rfl
  · go_enter Tryd.func21, Tryd.ntmps21
    go_wp2_with fail
    go_ret2
    exact ⟨rfl, Drawn0.refl _⟩
  · cases a
    all_goals
      go_enter Tryd.func21, Tryd.ntmps21
      go_wp2_with fail
      go_ret2
      exact ⟨rfl, Drawn0.refl _⟩
  · cases a <;> cases b
    all_goals
      go_enter Tryd.func21, Tryd.ntmps21
      go_wp2_with fail
      go_ret2
      exact ⟨rfl, Drawn0.refl _⟩
set_option maxRecDepth 100000 in
theorem busnew_yes (w : World) (R C T : Nat) : Calls Tryd.prog 21 #[.pointer (some ⟨R, 0, none⟩), .pointer (some ⟨C, 0, none⟩), .pointer (some ⟨T, 0, none⟩)] w fun e w' => e = .returned (.tuple #[.pointer (some ⟨w.heap.size, 0, none⟩), .int .i64 0]) ∧ IsBus w' w.heap.size R C T false 0 ∧ Below w.heap.size w w' := by
  have HB := Aside0.mk (show IsBus (w.alloc (.cells #[.pointer (some ⟨R, 0, none⟩), .pointer (some ⟨C, 0, none⟩), .pointer (some ⟨T, 0, none⟩), .bool false, .int .u32 0] 74)) w.heap.size R C T false 0 from blk_new w _)
  go_enter Tryd.func21, Tryd.ntmps21
  go_wp2_with fail
  go_ret2
  exact ⟨rfl, HB.out, below_alloc (Below.refl _ _) _⟩

/- No bus. -/
set_option maxRecDepth 100000 in
theorem bclass_nil (w : World) (a m : Int) : Calls Tryd.prog 10 #[.pointer none, .int .u32 a, .int .i64 m] w fun e w' => e = .returned (.int .i64 0) ∧ Drawn0 w w' := by
  go_enter Tryd.func10, Tryd.ntmps10
  go_wp2
  go_ret
  exact ⟨rfl, Drawn0.refl _⟩
set_option maxRecDepth 100000 in
theorem basked_nil (w : World) (a m : Int) : Calls Tryd.prog 37 #[.pointer none, .int .u32 a, .int .i64 m] w fun e w' => e = .returned (.int .i64 2) ∧ Drawn0 w w' := by
  go_enter Tryd.func37, Tryd.ntmps37
  go_wp2
  go_ret
  exact ⟨rfl, Drawn0.refl _⟩
set_option maxRecDepth 100000 in
theorem bload_nil (w : World) (a m t : Int) : Calls Tryd.prog 17 #[.pointer none, .int .u32 a, .int .i64 m, .int .u64 t] w fun e w' => e = .returned (.tuple #[.int .u32 0, .int .i64 2]) ∧ Drawn0 w w' := by
  go_enter Tryd.func17, Tryd.ntmps17
  go_wp2_with fail
  refine (basked_nil _ _ _).mono ?_
  rintro e w1 ⟨rfl, d1⟩
  go_wp2_with fail
  go_ret2
  exact ⟨rfl, d1⟩
set_option maxRecDepth 100000 in
theorem bstore_nil (w : World) (a m x t : Int) : Calls Tryd.prog 14 #[.pointer none, .int .u32 a, .int .i64 m, .int .u32 x, .int .u64 t] w fun e w' => e = .returned (.tuple #[.bool false, .int .i64 2]) ∧ Drawn0 w w' := by
  go_enter Tryd.func14, Tryd.ntmps14
  go_wp2_with fail
  refine (basked_nil _ _ _).mono ?_
  rintro e w1 ⟨rfl, d1⟩
  go_wp2_with fail
  go_ret2
  exact ⟨rfl, d1⟩
set_option maxRecDepth 100000 in
theorem boff_nil (w : World) : Calls Tryd.prog 18 #[.pointer none] w fun e w' => e = .returned (.tuple #[.int .u32 0, .bool false]) ∧ Drawn0 w w' := by
  go_enter Tryd.func18, Tryd.ntmps18
  go_wp2
  go_ret2
  exact ⟨rfl, Drawn0.refl _⟩
set_option maxRecDepth 100000 in
theorem bram_nil (w : World) : Calls Tryd.prog 12 #[.pointer none] w fun e w' => e = .returned (.pointer none) ∧ Drawn0 w w' := by
  go_enter Tryd.func12, Tryd.ntmps12
  go_wp2
  go_ret
  exact ⟨rfl, Drawn0.refl _⟩
set_option maxRecDepth 100000 in
theorem bcon_nil (w : World) : Calls Tryd.prog 24 #[.pointer none] w fun e w' => e = .returned (.pointer none) ∧ Drawn0 w w' := by
  go_enter Tryd.func24, Tryd.ntmps24
  go_wp2
  go_ret
  exact ⟨rfl, Drawn0.refl _⟩
set_option maxRecDepth 100000 in
theorem btim_nil (w : World) : Calls Tryd.prog 25 #[.pointer none] w fun e w' => e = .returned (.pointer none) ∧ Drawn0 w w' := by
  go_enter Tryd.func25, Tryd.ntmps25
  go_wp2
  go_ret
  exact ⟨rfl, Drawn0.refl _⟩
set_option maxRecDepth 100000 in
theorem bcalls_nil (w : World) (t : Int) : Calls Tryd.prog 23 #[.pointer none, .int .u64 t] w fun e w' => e = .returned (.int .u32 0) ∧ Drawn0 w w' := by
  go_enter Tryd.func23, Tryd.ntmps23
  go_wp2
  go_ret
  exact ⟨rfl, Drawn0.refl _⟩

/- What can be asked of a bus. -/
set_option maxRecDepth 100000 in
theorem boff_calls (w : World) {B R C T : Nat} {off : Bool} {code : Int} (h : IsBus w B R C T off code) : Calls Tryd.prog 18 #[.pointer (some ⟨B, 0, none⟩)] w fun e w' => e = .returned (.tuple #[.int .u32 code, .bool off]) ∧ Drawn0 w w' := by
  have c3 := h.c3
  have c4 := h.c4
  clear h
  go_enter Tryd.func18, Tryd.ntmps18
  go_wp2
  go_region
  all_goals go_wp2
  all_goals go_ret2
  all_goals exact ⟨rfl, ⟨⟨_, rfl⟩⟩⟩
set_option maxRecDepth 100000 in
theorem bram_calls (w : World) {B R C T : Nat} {off : Bool} {code : Int} (h : IsBus w B R C T off code) : Calls Tryd.prog 12 #[.pointer (some ⟨B, 0, none⟩)] w fun e w' => e = .returned (.pointer (some ⟨R, 0, none⟩)) ∧ Drawn0 w w' := by
  have c0 := h.c0
  clear h
  go_enter Tryd.func12, Tryd.ntmps12
  go_wp2
  go_ret
  exact ⟨rfl, Drawn0.refl _⟩
set_option maxRecDepth 100000 in
theorem bcon_calls (w : World) {B R C T : Nat} {off : Bool} {code : Int} (h : IsBus w B R C T off code) : Calls Tryd.prog 24 #[.pointer (some ⟨B, 0, none⟩)] w fun e w' => e = .returned (.pointer (some ⟨C, 0, none⟩)) ∧ Drawn0 w w' := by
  have c0 := h.c1
  clear h
  go_enter Tryd.func24, Tryd.ntmps24
  go_wp2
  go_ret
  exact ⟨rfl, Drawn0.refl _⟩
set_option maxRecDepth 100000 in
theorem btim_calls (w : World) {B R C T : Nat} {off : Bool} {code : Int} (h : IsBus w B R C T off code) : Calls Tryd.prog 25 #[.pointer (some ⟨B, 0, none⟩)] w fun e w' => e = .returned (.pointer (some ⟨T, 0, none⟩)) ∧ Drawn0 w w' := by
  have c0 := h.c2
  clear h
  go_enter Tryd.func25, Tryd.ntmps25
  go_wp2
  go_ret
  exact ⟨rfl, Drawn0.refl _⟩

/-- A bus that was made since W: its memory, console, timer; what each has. -/
structure MB (W w : World) (B R C T BB BW BG n k : Nat) (X : Nat → Prop) (l : List Int) (ws : List Bool) (gs : List Int) (al : List (Int × Int)) (came : Nat) (q : List Int) (over : Bool) (out : List Int) (o m : Int) (s : Bool) (off : Bool) (code : Int) : Prop where
  b : IsBus w B R C T off code
  r : IsRam w R BB BW BG n k l ws gs
  c : KC W w X C al came q over out
  t : IsT w T o m s
  ap : (W.heap.size ≤ B ∧ W.heap.size ≤ R ∧ W.heap.size ≤ BB ∧ W.heap.size ≤ BW ∧ W.heap.size ≤ BG ∧ W.heap.size ≤ T)
  dis : ∀ i, X i → i ≠ B ∧ i ≠ R ∧ i ≠ BB ∧ i ≠ BW ∧ i ≠ BG ∧ i ≠ T
  tb : T ≠ B ∧ T ≠ R ∧ T ≠ BB ∧ T ≠ BW ∧ T ≠ BG
  bb : B ≠ R ∧ B ≠ BB ∧ B ≠ BW ∧ B ≠ BG
  n0 : n ≤ 65536
theorem MB.bel {W w : World} {B R C T BB BW BG n k : Nat} {X : Nat → Prop} {l : List Int} {ws : List Bool} {gs : List Int} {al : List (Int × Int)} {came : Nat} {q : List Int} {over : Bool} {out : List Int} {o m : Int} {s : Bool} {off : Bool} {code : Int} (h : MB W w B R C T BB BW BG n k X l ws gs al came q over out o m s off code) : Below W.heap.size W w := h.c.bel
theorem MB.below {W w w' : World} {B R C T BB BW BG n k : Nat} {X : Nat → Prop} {l : List Int} {ws : List Bool} {gs : List Int} {al : List (Int × Int)} {came : Nat} {q : List Int} {over : Bool} {out : List Int} {o m : Int} {s : Bool} {off : Bool} {code : Int} (h : MB W w B R C T BB BW BG n k X l ws gs al came q over out o m s off code) (d : Below w.heap.size w w') : MB W w' B R C T BB BW BG n k X l ws gs al came q over out o m s off code :=
  ⟨h.b.below d, h.r.below d, h.c.below d, h.t.below d, h.ap, h.dis, h.tb, h.bb, h.n0⟩

set_option maxRecDepth 100000 in
set_option maxHeartbeats 1000000 in
theorem made_calls (W w : World) (hW : Below W.heap.size W w) (n : Nat) (h0 : 64 ≤ n) (h1 : n ≤ 65536) (h2 : n % 64 = 0) (A : Option Addr) (cl : Nat) (al : List (Int × Int)) (hA : AR w A al) (hn : A = none → al = [] ∧ cl = 0) (wa : ∀ p ∈ al, (0 ≤ p.1 ∧ p.1 < 18446744073709551616) ∧ 0 ≤ p.2 ∧ p.2 < 256) (ll : al.length ≤ 256) (hs : aord al al.length) :
    Calls Tryd.prog 9 #[.int .i64 (n : Int), .slice A al.length cl] w fun e w' => ∃ B R C T BB BW BG X, e = .returned (.pointer (some ⟨B, 0, none⟩)) ∧ MB W w' B R C T BB BW BG n (n / 64) X (List.replicate n 0) (List.replicate (n / 64) false) (List.replicate (n / 64) 0) al 0 [] false [] 0 18446744073709551615 false false 0 ∧ Below w.heap.size w w' := by
  have HR := Aside0.mk (new_yes w n h0 h1 h2)
  have HC := Aside0.mk (fun w' (hb : Below w.heap.size w w') => kc_new W w' (below_on hW hb) A cl al (hA.below hb) hn wa ll hs)
  have hWs := hW.size
  clear hA hn wa hs hW
  go_enter Tryd.func9, Tryd.ntmps9
  go_wp2_with fail
  refine HR.out.mono ?_
  rintro e w1 ⟨rfl, ⟨BB, BW, BG, p1, p2, p3, ir⟩, b1⟩
  have IR := Aside0.mk ir
  have HP := Aside0.mk (And.intro p1 (And.intro p2 p3))
  have B1 := Aside0.mk b1
  obtain ⟨R, hR⟩ : ∃ R, w.heap.size + 1 + 1 + 1 = R := ⟨_, rfl⟩
  rw [hR] at IR ⊢
  have HRS : Aside0 (W.heap.size ≤ R) := ⟨by omega⟩
  clear ir b1 p1 p2 p3 hR HR
  go_wp2_with fail
  refine (HC.out _ B1.out).mono ?_
  rintro e w2 ⟨C, X, rfl, kc, hx, b2⟩
  have KC2 := Aside0.mk kc
  have HX := Aside0.mk hx
  have IR2 := Aside0.mk (IR.out.below b2)
  have B2 := Aside0.mk (below_on B1.out b2)
  have S12 := Aside0.mk b2.size
  have HD : Aside0 (∀ i, X i → i ≠ R ∧ i ≠ BB ∧ i ≠ BW ∧ i ≠ BG) := ⟨fun i hi => by
    have h := hx i hi
    have h1 := blk_lt IR.out.r
    have h2 := blk_lt IR.out.b
    have h3 := blk_lt IR.out.f
    have h4 := blk_lt IR.out.g
    exact ⟨by omega, by omega, by omega, by omega⟩⟩
  clear kc hx b2 HC IR B1
  go_wp2_with fail
  refine (tnew_calls _).mono ?_
  rintro e w3 ⟨rfl, it, b3⟩
  have KC3 := Aside0.mk (KC2.out.below b3)
  have IR3 := Aside0.mk (IR2.out.below b3)
  have IT3 := Aside0.mk it
  have B3 := Aside0.mk (below_on B2.out b3)
  have HT : Aside0 (W.heap.size ≤ w2.heap.size ∧ (∀ i, X i → i ≠ w2.heap.size) ∧ w2.heap.size ≠ R ∧ w2.heap.size ≠ BB ∧ w2.heap.size ≠ BW ∧ w2.heap.size ≠ BG) := ⟨by
    have h1 := blk_lt IR2.out.r
    have h2 := blk_lt IR2.out.b
    have h3 := blk_lt IR2.out.f
    have h4 := blk_lt IR2.out.g
    have h5 := KC2.out.bel.size
    exact ⟨h5, fun i hi => Nat.ne_of_lt (KC2.out.xlt i hi), by omega, by omega, by omega, by omega⟩⟩
  clear it b3 KC2 IR2 B2
  generalize w2.heap.size = T at IT3 HT ⊢
  go_wp2_with fail
  refine (busnew_yes _ R C T).mono ?_
  rintro e w4 ⟨rfl, ib, b4⟩
  have FIN : Aside0 (MB W w4 w3.heap.size R C T BB BW BG n (n / 64) X (List.replicate n 0) (List.replicate (n / 64) false) (List.replicate (n / 64) 0) al 0 [] false [] 0 18446744073709551615 false false 0 ∧ Below w.heap.size w w4) := ⟨by
    have g1 := blk_lt IR3.out.r
    have g2 := blk_lt IR3.out.b
    have g3 := blk_lt IR3.out.f
    have g4 := blk_lt IR3.out.g
    have g5 := IT3.out.lt
    have g6 := KC3.out.bel.size
    have g7 := HP.out
    have g8 := HRS.out
    have g9 := HT.out
    refine ⟨⟨ib, IR3.out.below b4, KC3.out.below b4, IT3.out.below b4, by omega, fun i hi => ?_, by omega, by omega, h1⟩, below_on B3.out b4⟩
    have := KC3.out.xlt i hi
    have h1 := HD.out i hi
    have h2 := HT.out.2.1 i hi
    exact ⟨by omega, h1.1, h1.2.1, h1.2.2.1, h1.2.2.2, h2⟩⟩
  clear ib b4 KC3 IR3 IT3 B3 HD HT HP HRS
  generalize w3.heap.size = B at FIN ⊢
  go_wp2_with fail
  go_ret
  exact ⟨B, R, C, T, BB, BW, BG, X, rfl, FIN.out.1, FIN.out.2⟩
end Go.Proofs.YtdalboofhckobaaDoor

namespace Go.Proofs.YtdalboofhckobaaDoor
open Go Go.RowKit Go.Proofs.YtdalboofhckobaaDoorW.PrintWords
set_option linter.unusedVariables false
set_option linter.unusedSimpArgs false

section
variable {W w w' : World} {B R C T BB BW BG n k : Nat} {X X' : Nat → Prop} {l l' : List Int} {ws ws' : List Bool} {gs gs' : List Int} {al : List (Int × Int)} {came came' : Nat} {q q' : List Int} {over over' : Bool} {out out' : List Int} {o m o' m' : Int} {s s' : Bool} {off : Bool} {code : Int}
theorem ram_move (h : IsRam w R BB BW BG n k l ws gs) (hm : ∀ i, i = R ∨ i = BB ∨ i = BW ∨ i = BG → w'.heap[i]? = w.heap[i]?) : IsRam w' R BB BW BG n k l ws gs :=
  ⟨(hm R (.inl rfl)).trans h.r, (hm BB (.inr (.inl rfl))).trans h.b, (hm BW (.inr (.inr (.inl rfl)))).trans h.f, (hm BG (.inr (.inr (.inr rfl)))).trans h.g, h.nl, h.nw, h.ng, h.rb, h.rf, h.rg, h.bf, h.bg, h.fg⟩
theorem ram_lt (h : IsRam w R BB BW BG n k l ws gs) : ∀ i, i = R ∨ i = BB ∨ i = BW ∨ i = BG → i < w.heap.size := by
  rintro i (rfl | rfl | rfl | rfl)
  · exact blk_lt h.r
  · exact blk_lt h.b
  · exact blk_lt h.f
  · exact blk_lt h.g
theorem MB.con (h : MB W w B R C T BB BW BG n k X l ws gs al came q over out o m s off code) (hk : KC W w' X' C al came' q' over' out') (ho : OnlyP X w w') (hx : ∀ i, X' i → X i ∨ w.heap.size ≤ i) : MB W w' B R C T BB BW BG n k X' l ws gs al came' q' over' out' o m s off code := by
  have hl := ram_lt h.r
  have lB := blk_lt h.b
  have lT := h.t.lt
  have nB : ¬ X B := fun e => (h.dis B e).1 rfl
  have nT : ¬ X T := fun e => (h.dis T e).2.2.2.2.2 rfl
  have nR : ∀ i, i = R ∨ i = BB ∨ i = BW ∨ i = BG → ¬ X i := by
    rintro i hi e
    have := h.dis i e
    rcases hi with rfl | rfl | rfl | rfl <;> simp_all
  refine ⟨(ho.block B lB nB).trans h.b, ram_move h.r fun i hi => ho.block i (hl i hi) (nR i hi), hk, (ho.block T lT nT).trans h.t, h.ap, fun i hi => ?_, h.tb, h.bb, h.n0⟩
  rcases hx i hi with e | e
  · exact h.dis i e
  · have h1 := hl R (.inl rfl)
    have h2 := hl BB (.inr (.inl rfl))
    have h3 := hl BW (.inr (.inr (.inl rfl)))
    have h4 := hl BG (.inr (.inr (.inr rfl)))
    exact ⟨by omega, by omega, by omega, by omega, by omega, by omega⟩
theorem MB.offed (h : MB W w B R C T BB BW BG n k X l ws gs al came q over out o m s off code) {off' : Bool} {code' : Int} (hb : IsBus w' B R C T off' code') (ho : Only B w w') : MB W w' B R C T BB BW BG n k X l ws gs al came q over out o m s off' code' := by
  have hl := ram_lt h.r
  have a := h.bb
  exact ⟨hb, ram_move h.r fun i hi => ho.block i (hl i hi) (by rcases hi with rfl | rfl | rfl | rfl <;> omega), h.c.move (Y := fun i => i = B) (.of_only ho rfl) (fun i hi => (h.dis i hi).1) (fun i hi => hi ▸ h.ap.1), h.t.only ho h.tb.1, h.ap, h.dis, h.tb, h.bb, h.n0⟩
theorem MB.tim (h : MB W w B R C T BB BW BG n k X l ws gs al came q over out o m s off code) (ht : IsT w' T o' m' s') (ho : Only T w w') : MB W w' B R C T BB BW BG n k X l ws gs al came q over out o' m' s' off code := by
  have hl := ram_lt h.r
  have a := h.tb
  exact ⟨(ho.block B (blk_lt h.b) (by omega)).trans h.b, ram_move h.r fun i hi => ho.block i (hl i hi) (by rcases hi with rfl | rfl | rfl | rfl <;> omega), h.c.move (Y := fun i => i = T) (.of_only ho rfl) (fun i hi => (h.dis i hi).2.2.2.2.2) (fun i hi => hi ▸ h.ap.2.2.2.2.2), ht, h.ap, h.dis, h.tb, h.bb, h.n0⟩
theorem MB.ram (h : MB W w B R C T BB BW BG n k X l ws gs al came q over out o m s off code) (hr : IsRam w' R BB BW BG n k l' ws' gs') (ho : OnlyP (fun b => b = BB ∨ b = BW ∨ b = BG) w w') : MB W w' B R C T BB BW BG n k X l' ws' gs' al came q over out o m s off code := by
  have a := h.bb
  have b := h.tb
  have c := h.ap
  refine ⟨(ho.block B (blk_lt h.b) (by omega)).trans h.b, hr, h.c.move ho (fun i hi => ?_) (fun i hi => by omega), (ho.block T h.t.lt (by omega)).trans h.t, h.ap, h.dis, h.tb, h.bb, h.n0⟩
  have := h.dis i hi
  omega
theorem MB.ask (h : MB W w B R C T BB BW BG n k X l ws gs al came q over out o m s off code) (hp : Ports w) (a j : Int) (a0 : 0 ≤ a) (a1 : a < 4294967296) : BAsk w B a j (basked n a j) (bclass n a j) (rdev a) := bask a j h.b h.r h.n0 hp a0 a1
end

set_option maxRecDepth 100000 in
set_option maxHeartbeats 1000000 in
theorem bus_awake_calls (W : World) (hp : Ports W) : Calls Tryd.prog 8 #[] W fun e w' => e = .returned (.bool true) ∧ Below W.heap.size W w' := by
  have HP := Aside0.mk hp
  have HM := Aside0.mk (made_calls W W (Below.refl _ _) 64 (by omega) (by omega) (by omega) none 0 [] (by intro i p h; simp at h) (by simp) (by simp) (by simp) (by intro i p p' h; simp at h))
  clear hp
  go_enter Tryd.func8, Tryd.ntmps8
  go_wp2_with fail
  refine HM.out.mono ?_
  rintro e w1 ⟨B, R, C, T, BB, BW, BG, X, rfl, m1, _⟩
  have M1 := Aside0.mk m1
  have HA := Aside0.mk (m1.ask (HP.out.below m1.bel) 268435456 4 (by omega) (by omega))
  rw [show basked 64 268435456 4 = 0 by kernel_rfl, show bclass 64 268435456 4 = 2 by kernel_rfl, show rdev 268435456 = 1 by kernel_rfl] at HA
  have HS := Aside0.mk (bstore_con w1 B R C T false 0 268435456 4 321 0 0 0 (fun w'' => ∃ X', KC W w'' X' C [] 0 [] false [65] ∧ (∀ i, X' i → X i ∨ w1.heap.size ≤ i) ∧ OnlyP X w1 w'') m1.b HA.out (.inl ⟨rfl, rfl⟩) (fun w' hb => (kc_write0 321 (m1.c.below hb) (by omega) (by omega) (by simp)).mono fun e w'' ⟨he, ⟨X', h1, h2, h3⟩, ho⟩ => ⟨he, X', h1, fun i hi => (h3 i hi).imp id (fun h => Nat.le_trans hb.size h), (OnlyP.of_below hb).trans ho⟩))
  clear m1 HA
  go_wp2_with fail
  refine HS.out.mono ?_
  rintro e w2 ⟨rfl, X', k2, x2, o2⟩
  have m2 := M1.out.con k2 o2 x2
  have M2 := Aside0.mk m2
  have HA := Aside0.mk (m2.ask (HP.out.below m2.bel) 1048576 4 (by omega) (by omega))
  rw [show basked 64 1048576 4 = 0 by kernel_rfl, show bclass 64 1048576 4 = 2 by kernel_rfl, show rdev 1048576 = 0 by kernel_rfl] at HA
  have HS := Aside0.mk (bstore_off w2 B R C T false 0 1048576 4 7 0 m2.b HA.out)
  clear m2 HA k2 o2 x2 M1
  go_wp2_with fail
  refine HS.out.mono ?_
  rintro e w3 ⟨rfl, i3, o3⟩
  have M3 := Aside0.mk (M2.out.offed i3 o3)
  clear i3 o3 M2 HS
  go_wp2_with fail
  refine (boff_calls _ M3.out.b).mono ?_
  rintro e w4 ⟨rfl, d4⟩
  have M4 := Aside0.mk (M3.out.below d4.below)
  clear d4 M3
  go_wp2_with fail
  refine (bcon_calls _ M4.out.b).mono ?_
  rintro e w5 ⟨rfl, d5⟩
  have M5 := Aside0.mk (M4.out.below d5.below)
  clear d5 M4
  go_wp2_with fail
  refine (kc_out M5.out.c (by simp)).mono ?_
  rintro e w6 ⟨⟨A, c, rfl, hc, hC⟩, b6⟩
  have B6 := Aside0.mk (below_on M5.out.bel b6)
  obtain ⟨ad, rfl, hcell⟩ := Kd.at_int hC 0 (by omega) (by simp)
  have h0 : w6.cell? (ad.add 0) = some (.int .u8 65) := by simpa [rd] using hcell
  have h1 : w6.cell? ad = some (.int .u8 65) := h0
  clear hC hcell b6 M5
  go_wp2_with fail
  go_ret
  exact ⟨by simp, B6.out⟩
end Go.Proofs.YtdalboofhckobaaDoor
