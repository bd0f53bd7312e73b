/- The bus: its ports' table; which device an address is of. -/
import Derived.Test.YtonfblfbmnepoaaDoorDrawn
import Derived.Test.YtonfblfbmnepoaaDoorRamE
import Derived.Deep.LoopGhost
import Derived.BigQuiet
namespace Go.Proofs.YtonfblfbmnepoaaDoor
open Go Go.RowKit Go.Proofs.YtonfblfbmnepoaaDoorW.PrintWords
set_option linter.unusedVariables false
set_option linter.unusedSimpArgs false

/-- The ports' table, as the program's text lays it. -/
def Ports (w : World) : Prop := ∀ i v, (#[.int .u32 1048576, .int .u32 4, .int .u32 268435456, .int .u32 8, .int .u32 33554432, .int .u32 4, .int .u32 33570816, .int .u32 8, .int .u32 33603576, .int .u32 8] : Array Value)[i]? = some v → w.cell? ⟨0, i, none⟩ = some v
theorem Ports.below {w w' : World} (h : Ports w) (b : Below w.heap.size w w') : Ports w' := fun i v hi => pw_cell_below b (h i v hi)
theorem Ports.on {W w w' : World} (h : Ports w) (b : Below w.heap.size w w') : Ports w' := h.below b

/-- The place of an address's device. -/
def rdev (a : Int) : Int :=
  if 1048576 ≤ a ∧ a < 1048580 then 0 else if 268435456 ≤ a ∧ a < 268435464 then 1 else if 33554432 ≤ a ∧ a < 33554436 then 2 else if 33570816 ≤ a ∧ a < 33570824 then 3 else if 33603576 ≤ a ∧ a < 33603584 then 4 else -1

theorem rdev_0 {a : Int} (h : 1048576 ≤ a ∧ a < 1048580) : rdev a = 0 := by unfold rdev; repeat (first | (rw [if_pos h]) | (rw [if_neg (by omega)]))
theorem rdev_n0 {a : Int} (h : ¬ (1048576 ≤ a ∧ a < 1048580)) (k : rdev a = -1 ∨ (0 : Int) ≤ rdev a) : rdev a = -1 ∨ (1 : Int) ≤ rdev a := by
  rcases k with k | k
  · exact .inl k
  · by_cases e : rdev a = 0
    · exfalso; unfold rdev at e; split at e <;> (try split at e) <;> (try split at e) <;> (try split at e) <;> (try split at e) <;> omega
    · omega
theorem rdev_1 {a : Int} (h : 268435456 ≤ a ∧ a < 268435464) : rdev a = 1 := by unfold rdev; repeat (first | (rw [if_pos h]) | (rw [if_neg (by omega)]))
theorem rdev_n1 {a : Int} (h : ¬ (268435456 ≤ a ∧ a < 268435464)) (k : rdev a = -1 ∨ (1 : Int) ≤ rdev a) : rdev a = -1 ∨ (2 : Int) ≤ rdev a := by
  rcases k with k | k
  · exact .inl k
  · by_cases e : rdev a = 1
    · exfalso; unfold rdev at e; split at e <;> (try split at e) <;> (try split at e) <;> (try split at e) <;> (try split at e) <;> omega
    · omega
theorem rdev_2 {a : Int} (h : 33554432 ≤ a ∧ a < 33554436) : rdev a = 2 := by unfold rdev; repeat (first | (rw [if_pos h]) | (rw [if_neg (by omega)]))
theorem rdev_n2 {a : Int} (h : ¬ (33554432 ≤ a ∧ a < 33554436)) (k : rdev a = -1 ∨ (2 : Int) ≤ rdev a) : rdev a = -1 ∨ (3 : Int) ≤ rdev a := by
  rcases k with k | k
  · exact .inl k
  · by_cases e : rdev a = 2
    · exfalso; unfold rdev at e; split at e <;> (try split at e) <;> (try split at e) <;> (try split at e) <;> (try split at e) <;> omega
    · omega
theorem rdev_3 {a : Int} (h : 33570816 ≤ a ∧ a < 33570824) : rdev a = 3 := by unfold rdev; repeat (first | (rw [if_pos h]) | (rw [if_neg (by omega)]))
theorem rdev_n3 {a : Int} (h : ¬ (33570816 ≤ a ∧ a < 33570824)) (k : rdev a = -1 ∨ (3 : Int) ≤ rdev a) : rdev a = -1 ∨ (4 : Int) ≤ rdev a := by
  rcases k with k | k
  · exact .inl k
  · by_cases e : rdev a = 3
    · exfalso; unfold rdev at e; split at e <;> (try split at e) <;> (try split at e) <;> (try split at e) <;> (try split at e) <;> omega
    · omega
theorem rdev_4 {a : Int} (h : 33603576 ≤ a ∧ a < 33603584) : rdev a = 4 := by unfold rdev; repeat (first | (rw [if_pos h]) | (rw [if_neg (by omega)]))
theorem rdev_n4 {a : Int} (h : ¬ (33603576 ≤ a ∧ a < 33603584)) (k : rdev a = -1 ∨ (4 : Int) ≤ rdev a) : rdev a = -1 ∨ (5 : Int) ≤ rdev a := by
  rcases k with k | k
  · exact .inl k
  · by_cases e : rdev a = 4
    · exfalso; unfold rdev at e; split at e <;> (try split at e) <;> (try split at e) <;> (try split at e) <;> (try split at e) <;> omega
    · omega
/-- One test of a port: below it; behind it; of it. -/
theorem port_test (a p n : Int) (a0 : 0 ≤ a) (a1 : a < 4294967296) (p0 : 0 ≤ p) (p1 : p < 4294967296) (n0 : 0 < n) :
    (decide (a < p) = true ∧ ¬ (p ≤ a ∧ a < p + n)) ∨ (decide (a < p) = false ∧ decide (n ≤ (a - p) % 4294967296) = true ∧ ¬ (p ≤ a ∧ a < p + n)) ∨ (decide (a < p) = false ∧ decide (n ≤ (a - p) % 4294967296) = false ∧ p ≤ a ∧ a < p + n) := by
  by_cases h : a < p
  · exact .inl ⟨decide_eq_true h, by omega⟩
  · have e : (a - p) % 4294967296 = a - p := by omega
    rw [e]
    by_cases h2 : n ≤ a - p
    · exact .inr (.inl ⟨decide_eq_false h, decide_eq_true h2, by omega⟩)
    · exact .inr (.inr ⟨decide_eq_false h, decide_eq_false h2, by omega, by omega⟩)

set_option maxRecDepth 100000 in
set_option maxHeartbeats 1000000 in
theorem device_calls (W : World) (a : Int) (a0 : 0 ≤ a) (a1 : a < 4294967296) (hp : Ports W) : Calls Tryd.prog 32 #[.int .u32 a] W fun e w' => e = .returned (.int .i64 (rdev a)) ∧ Below W.heap.size W w' := by
  have g0 : W.cell? ⟨0, 0, none⟩ = some (.int .u32 1048576) := hp 0 _ rfl
  have g1 : W.cell? ⟨0, 1, none⟩ = some (.int .u32 4) := hp 1 _ rfl
  have g2 : W.cell? ⟨0, 2, none⟩ = some (.int .u32 268435456) := hp 2 _ rfl
  have g3 : W.cell? ⟨0, 3, none⟩ = some (.int .u32 8) := hp 3 _ rfl
  have g4 : W.cell? ⟨0, 4, none⟩ = some (.int .u32 33554432) := hp 4 _ rfl
  have g5 : W.cell? ⟨0, 5, none⟩ = some (.int .u32 4) := hp 5 _ rfl
  have g6 : W.cell? ⟨0, 6, none⟩ = some (.int .u32 33570816) := hp 6 _ rfl
  have g7 : W.cell? ⟨0, 7, none⟩ = some (.int .u32 8) := hp 7 _ rfl
  have g8 : W.cell? ⟨0, 8, none⟩ = some (.int .u32 33603576) := hp 8 _ rfl
  have g9 : W.cell? ⟨0, 9, none⟩ = some (.int .u32 8) := hp 9 _ rfl
  clear hp
  go_enter Tryd.func32, Tryd.ntmps32
  go_wp2_with fail
  go_step3
  go_wp2_with fail
  go_step3
  go_wp2_with fail
  go_loopg [3, 7] 6 (fun g o i wr => ∃ k : Nat, g + k = 6 ∧ k ≤ 5 ∧ o = .int .i64 (-1) ∧ i = .int .i64 (k : Int) ∧ Aside0 (Below W.heap.size W wr) ∧ Aside0 (rdev a = -1 ∨ (k : Int) ≤ rdev a))
  case atStart => exact ⟨0, rfl, by omega, rfl, rfl, ⟨Below.refl _ _⟩, ⟨by unfold rdev; split <;> (try split) <;> (try split) <;> (try split) <;> (try split) <;> simp⟩⟩
  case round =>
    obtain ⟨k, hk, hk5, rfl, rfl, hB, hR⟩ := hrel
    obtain ⟨wo, rfl⟩ : ∃ wo : World, wo = wr := ⟨_, rfl⟩
    clear g0 g1 g2 g3 g4 g5 g6 g7 g8 g9
    obtain rfl | rfl | rfl | rfl | rfl | rfl : k = 0 ∨ k = 1 ∨ k = 2 ∨ k = 3 ∨ k = 4 ∨ k = 5 := by omega
    · have ix : ∀ w, (Instr.index 108 (.agg #[.int .u32 1048576, .int .u32 4, .int .u32 268435456, .int .u32 8, .int .u32 33554432, .int .u32 4, .int .u32 33570816, .int .u32 8, .int .u32 33603576, .int .u32 8]) (.int .i64 0)).run Tryd.prog w = .ok (.agg #[.int .u32 1048576, .int .u32 4]) w := fun _ => by kernel_rfl
      rcases port_test a 1048576 4 a0 a1 (by omega) (by omega) (by omega) with ⟨h1, h2⟩ | ⟨h1, h3, h2⟩ | ⟨h1, h3, h2⟩
      · have HN := Aside0.mk (rdev_n0 h2 hR.out)
        have HB := Aside0.mk (fun o => below_alloc hB.out o)
        clear h2 hR hB
        go_wp2_with fail
        go_roundg (gk - 1)
        case measure => omega
        case rel => exact ⟨1, by omega, by omega, rfl, rfl, ⟨HB.out _⟩, HN⟩
      · have HN := Aside0.mk (rdev_n0 h2 hR.out)
        have HB := Aside0.mk (fun o => below_alloc hB.out o)
        clear h2 hR hB
        go_wp2_with fail
        go_roundg (gk - 1)
        case measure => omega
        case rel => exact ⟨1, by omega, by omega, rfl, rfl, ⟨HB.out _⟩, HN⟩
      · have HN := Aside0.mk (rdev_0 h2)
        have HB := Aside0.mk (fun o => below_alloc hB.out o)
        clear h2 hR hB
        go_wp2_with fail
        try rw [Exit.noGoto_ret]
        go_ret
        exact ⟨by rw [HN.out]; rfl, HB.out _⟩
    · have ix : ∀ w, (Instr.index 108 (.agg #[.int .u32 1048576, .int .u32 4, .int .u32 268435456, .int .u32 8, .int .u32 33554432, .int .u32 4, .int .u32 33570816, .int .u32 8, .int .u32 33603576, .int .u32 8]) (.int .i64 1)).run Tryd.prog w = .ok (.agg #[.int .u32 268435456, .int .u32 8]) w := fun _ => by kernel_rfl
      rcases port_test a 268435456 8 a0 a1 (by omega) (by omega) (by omega) with ⟨h1, h2⟩ | ⟨h1, h3, h2⟩ | ⟨h1, h3, h2⟩
      · have HN := Aside0.mk (rdev_n1 h2 hR.out)
        have HB := Aside0.mk (fun o => below_alloc hB.out o)
        clear h2 hR hB
        go_wp2_with fail
        go_roundg (gk - 1)
        case measure => omega
        case rel => exact ⟨2, by omega, by omega, rfl, rfl, ⟨HB.out _⟩, HN⟩
      · have HN := Aside0.mk (rdev_n1 h2 hR.out)
        have HB := Aside0.mk (fun o => below_alloc hB.out o)
        clear h2 hR hB
        go_wp2_with fail
        go_roundg (gk - 1)
        case measure => omega
        case rel => exact ⟨2, by omega, by omega, rfl, rfl, ⟨HB.out _⟩, HN⟩
      · have HN := Aside0.mk (rdev_1 h2)
        have HB := Aside0.mk (fun o => below_alloc hB.out o)
        clear h2 hR hB
        go_wp2_with fail
        try rw [Exit.noGoto_ret]
        go_ret
        exact ⟨by rw [HN.out]; rfl, HB.out _⟩
    · have ix : ∀ w, (Instr.index 108 (.agg #[.int .u32 1048576, .int .u32 4, .int .u32 268435456, .int .u32 8, .int .u32 33554432, .int .u32 4, .int .u32 33570816, .int .u32 8, .int .u32 33603576, .int .u32 8]) (.int .i64 2)).run Tryd.prog w = .ok (.agg #[.int .u32 33554432, .int .u32 4]) w := fun _ => by kernel_rfl
      rcases port_test a 33554432 4 a0 a1 (by omega) (by omega) (by omega) with ⟨h1, h2⟩ | ⟨h1, h3, h2⟩ | ⟨h1, h3, h2⟩
      · have HN := Aside0.mk (rdev_n2 h2 hR.out)
        have HB := Aside0.mk (fun o => below_alloc hB.out o)
        clear h2 hR hB
        go_wp2_with fail
        go_roundg (gk - 1)
        case measure => omega
        case rel => exact ⟨3, by omega, by omega, rfl, rfl, ⟨HB.out _⟩, HN⟩
      · have HN := Aside0.mk (rdev_n2 h2 hR.out)
        have HB := Aside0.mk (fun o => below_alloc hB.out o)
        clear h2 hR hB
        go_wp2_with fail
        go_roundg (gk - 1)
        case measure => omega
        case rel => exact ⟨3, by omega, by omega, rfl, rfl, ⟨HB.out _⟩, HN⟩
      · have HN := Aside0.mk (rdev_2 h2)
        have HB := Aside0.mk (fun o => below_alloc hB.out o)
        clear h2 hR hB
        go_wp2_with fail
        try rw [Exit.noGoto_ret]
        go_ret
        exact ⟨by rw [HN.out]; rfl, HB.out _⟩
    · have ix : ∀ w, (Instr.index 108 (.agg #[.int .u32 1048576, .int .u32 4, .int .u32 268435456, .int .u32 8, .int .u32 33554432, .int .u32 4, .int .u32 33570816, .int .u32 8, .int .u32 33603576, .int .u32 8]) (.int .i64 3)).run Tryd.prog w = .ok (.agg #[.int .u32 33570816, .int .u32 8]) w := fun _ => by kernel_rfl
      rcases port_test a 33570816 8 a0 a1 (by omega) (by omega) (by omega) with ⟨h1, h2⟩ | ⟨h1, h3, h2⟩ | ⟨h1, h3, h2⟩
      · have HN := Aside0.mk (rdev_n3 h2 hR.out)
        have HB := Aside0.mk (fun o => below_alloc hB.out o)
        clear h2 hR hB
        go_wp2_with fail
        go_roundg (gk - 1)
        case measure => omega
        case rel => exact ⟨4, by omega, by omega, rfl, rfl, ⟨HB.out _⟩, HN⟩
      · have HN := Aside0.mk (rdev_n3 h2 hR.out)
        have HB := Aside0.mk (fun o => below_alloc hB.out o)
        clear h2 hR hB
        go_wp2_with fail
        go_roundg (gk - 1)
        case measure => omega
        case rel => exact ⟨4, by omega, by omega, rfl, rfl, ⟨HB.out _⟩, HN⟩
      · have HN := Aside0.mk (rdev_3 h2)
        have HB := Aside0.mk (fun o => below_alloc hB.out o)
        clear h2 hR hB
        go_wp2_with fail
        try rw [Exit.noGoto_ret]
        go_ret
        exact ⟨by rw [HN.out]; rfl, HB.out _⟩
    · have ix : ∀ w, (Instr.index 108 (.agg #[.int .u32 1048576, .int .u32 4, .int .u32 268435456, .int .u32 8, .int .u32 33554432, .int .u32 4, .int .u32 33570816, .int .u32 8, .int .u32 33603576, .int .u32 8]) (.int .i64 4)).run Tryd.prog w = .ok (.agg #[.int .u32 33603576, .int .u32 8]) w := fun _ => by kernel_rfl
      rcases port_test a 33603576 8 a0 a1 (by omega) (by omega) (by omega) with ⟨h1, h2⟩ | ⟨h1, h3, h2⟩ | ⟨h1, h3, h2⟩
      · have HN := Aside0.mk (rdev_n4 h2 hR.out)
        have HB := Aside0.mk (fun o => below_alloc hB.out o)
        clear h2 hR hB
        go_wp2_with fail
        go_roundg (gk - 1)
        case measure => omega
        case rel => exact ⟨5, by omega, by omega, rfl, rfl, ⟨HB.out _⟩, HN⟩
      · have HN := Aside0.mk (rdev_n4 h2 hR.out)
        have HB := Aside0.mk (fun o => below_alloc hB.out o)
        clear h2 hR hB
        go_wp2_with fail
        go_roundg (gk - 1)
        case measure => omega
        case rel => exact ⟨5, by omega, by omega, rfl, rfl, ⟨HB.out _⟩, HN⟩
      · have HN := Aside0.mk (rdev_4 h2)
        have HB := Aside0.mk (fun o => below_alloc hB.out o)
        clear h2 hR hB
        go_wp2_with fail
        try rw [Exit.noGoto_ret]
        go_ret
        exact ⟨by rw [HN.out]; rfl, HB.out _⟩
    · have HN : Aside0 (rdev a = -1) := ⟨by
        rcases hR.out with h | h
        · exact h
        · exfalso; unfold rdev at h; split at h <;> (try split at h) <;> (try split at h) <;> (try split at h) <;> (try split at h) <;> omega⟩
      clear hR
      go_wp2_with fail
      try rw [Exit.noGoto_ret]
      go_ret
      exact ⟨by rw [HN.out]; rfl, hB.out⟩
end Go.Proofs.YtonfblfbmnepoaaDoor
