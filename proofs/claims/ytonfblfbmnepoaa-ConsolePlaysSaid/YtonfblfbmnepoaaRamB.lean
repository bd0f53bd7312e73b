/- The memory's methods on a nil memory; why bytes may not be loaded. -/
import Derived.Test.YtonfblfbmnepoaaRam
namespace Go.Proofs.Ytonfblfbmnepoaa
open Go Go.RowKit Go.Proofs.YtonfblfbmnepoaaW.PrintWords
set_option linter.unusedVariables false
set_option linter.unusedSimpArgs false

set_option maxRecDepth 100000 in
theorem asked_nil (w : World) (a m : Int) : Calls Try.prog 47 #[.pointer none, .int .u32 a, .int .i64 m] w fun e w' => e = .returned (.int .i64 2) ∧ Drawn0 w w' := by
  go_enter Try.func47, Try.ntmps47
  go_wp2
  go_ret
  exact ⟨rfl, Drawn0.refl _⟩

set_option maxRecDepth 100000 in
theorem load_nil (w : World) (a m : Int) : Calls Try.prog 23 #[.pointer none, .int .u32 a, .int .i64 m] w fun e w' => e = .returned (.tuple #[.int .u32 0, .int .i64 2]) ∧ Drawn0 w w' := by
  go_enter Try.func23, Try.ntmps23
  go_wp2_with fail
  refine (asked_nil _ _ _).mono ?_
  rintro e w1 ⟨rfl, d1⟩
  go_wp2_with fail
  go_ret2
  exact ⟨rfl, d1⟩

set_option maxRecDepth 100000 in
theorem store_nil (w : World) (a m x : Int) : Calls Try.prog 24 #[.pointer none, .int .u32 a, .int .i64 m, .int .u32 x] w fun e w' => e = .returned (.tuple #[.bool false, .int .i64 2]) ∧ Drawn0 w w' := by
  go_enter Try.func24, Try.ntmps24
  go_wp2_with fail
  refine (asked_nil _ _ _).mono ?_
  rintro e w1 ⟨rfl, d1⟩
  go_wp2_with fail
  go_ret2
  exact ⟨rfl, d1⟩

set_option maxRecDepth 100000 in
theorem fill_nil (w : World) (a : Int) (p : Option Addr) (n c : Nat) : Calls Try.prog 25 #[.pointer none, .int .u32 a, .slice p n c] w fun e w' => e = .returned (.int .i64 2) ∧ Drawn0 w w' := by
  go_enter Try.func25, Try.ntmps25
  go_wp2
  go_ret
  exact ⟨rfl, Drawn0.refl _⟩

set_option maxRecDepth 100000 in
theorem watch_nil (w : World) (p : Int) : Calls Try.prog 26 #[.pointer none, .int .i64 p] w fun e w' => e = .returned (.int .i64 2) ∧ Drawn0 w w' := by
  go_enter Try.func26, Try.ntmps26
  go_wp2
  go_ret
  exact ⟨rfl, Drawn0.refl _⟩

set_option maxRecDepth 100000 in
theorem size_nil (w : World) : Calls Try.prog 17 #[.pointer none] w fun e w' => e = .returned (.int .i64 0) ∧ Drawn0 w w' := by
  go_enter Try.func17, Try.ntmps17
  go_wp2
  go_ret
  exact ⟨rfl, Drawn0.refl _⟩

set_option maxRecDepth 100000 in
theorem bytes_nil (w : World) : Calls Try.prog 19 #[.pointer none] w fun e w' => e = .returned (.slice none 0 0) ∧ Drawn0 w w' := by
  go_enter Try.func19, Try.ntmps19
  go_wp2
  go_ret
  exact ⟨rfl, Drawn0.refl _⟩

set_option maxRecDepth 100000 in
theorem rhasp_nil (w : World) (p : Int) : Calls Try.prog 51 #[.pointer none, .int .i64 p] w fun e w' => e = .returned (.bool false) ∧ Drawn0 w w' := by
  go_enter Try.func51, Try.ntmps51
  go_wp2
  go_ret
  exact ⟨rfl, Drawn0.refl _⟩

set_option maxRecDepth 100000 in
theorem watched_nil (w : World) (p : Int) : Calls Try.prog 27 #[.pointer none, .int .i64 p] w fun e w' => e = .returned (.bool false) ∧ Drawn0 w w' := by
  go_enter Try.func27, Try.ntmps27
  go_wp2_with fail
  refine (rhasp_nil _ _).mono ?_
  rintro e w1 ⟨rfl, d1⟩
  go_wp2_with fail
  go_ret
  exact ⟨rfl, d1⟩

set_option maxRecDepth 100000 in
theorem gen_nil (w : World) (p : Int) : Calls Try.prog 28 #[.pointer none, .int .i64 p] w fun e w' => e = .returned (.int .u64 0) ∧ Drawn0 w w' := by
  go_enter Try.func28, Try.ntmps28
  go_wp2_with fail
  refine (rhasp_nil _ _).mono ?_
  rintro e w1 ⟨rfl, d1⟩
  go_wp2_with fail
  go_ret
  exact ⟨rfl, d1⟩

/-- Why bytes may not be loaded, or stored. -/
def rasked (n : Nat) (a m : Int) : Int := if m = 1 ∨ m = 2 ∨ m = 4 then (if a % m = 0 then (if rhas n a m = true then 0 else 6) else 5) else 2

set_option maxRecDepth 100000 in
theorem asked_shape (w : World) (R : Nat) (a m : Int) (hm : ((m != 1) && (m != 2) && (m != 4)) = true) : Calls Try.prog 47 #[.pointer (some ⟨R, 0, none⟩), .int .u32 a, .int .i64 m] w fun e w' => e = .returned (.int .i64 2) ∧ Drawn0 w w' := by
  go_enter Try.func47, Try.ntmps47
  go_wp2_with fail
  all_goals first | (go_ret; exact ⟨rfl, Drawn0.refl _⟩) | (exfalso; simp_all; done)

set_option maxRecDepth 100000 in
theorem asked_has (w : World) {R BB BW BG n k : Nat} {l : List Int} {ws : List Bool} {gs : List Int} (a m : Int) (h : IsRam w R BB BW BG n k l ws gs) (hn : n ≤ 65536) (a0 : 0 ≤ a) (a1 : a < 4294967296) (hm : m = 1 ∨ m = 2 ∨ m = 4) : Calls Try.prog 47 #[.pointer (some ⟨R, 0, none⟩), .int .u32 a, .int .i64 m] w fun e w' => e = .returned (.int .i64 (rasked n a m)) ∧ Drawn0 w w' := by
  have HH := Aside0.mk (has_calls w a m h hn a0 a1)
  obtain ⟨r, hr⟩ : ∃ r, rhas n a m = r := ⟨_, rfl⟩
  obtain ⟨q, hq⟩ : ∃ q, rasked n a m = q := ⟨_, rfl⟩
  rw [hr] at HH
  rw [hq]
  have hq' := hq
  unfold rasked at hq'
  rw [if_pos hm, hr] at hq'
  clear h hr hq
  by_cases ho : a % m = 0
  · rw [if_pos ho] at hq'
    rcases hm with rfl | rfl | rfl
    all_goals
      cases r
      all_goals
        simp at hq'
        subst hq'
        go_enter Try.func47, Try.ntmps47
        go_wp2_with fail
        refine HH.out.mono ?_
        rintro e w1 ⟨rfl, d1⟩
        go_wp2_with fail
        go_ret
        exact ⟨rfl, d1⟩
  · rw [if_neg ho] at hq'
    subst hq'
    rcases hm with rfl | rfl | rfl
    · exfalso; omega
    · have ho' : (a % 2 != 0) = true := by simpa using ho
      clear ho
      go_enter Try.func47, Try.ntmps47
      go_wp2_with fail
      go_ret
      exact ⟨rfl, Drawn0.refl _⟩
    · have ho' : (a % 4 != 0) = true := by simpa using ho
      clear ho
      go_enter Try.func47, Try.ntmps47
      go_wp2_with fail
      go_ret
      exact ⟨rfl, Drawn0.refl _⟩

theorem asked_calls (w : World) {R BB BW BG n k : Nat} {l : List Int} {ws : List Bool} {gs : List Int} (a m : Int) (h : IsRam w R BB BW BG n k l ws gs) (hn : n ≤ 65536) (a0 : 0 ≤ a) (a1 : a < 4294967296) : Calls Try.prog 47 #[.pointer (some ⟨R, 0, none⟩), .int .u32 a, .int .i64 m] w fun e w' => e = .returned (.int .i64 (rasked n a m)) ∧ Drawn0 w w' := by
  by_cases hm : m = 1 ∨ m = 2 ∨ m = 4
  · exact asked_has w a m h hn a0 a1 hm
  · rw [show rasked n a m = 2 by unfold rasked; rw [if_neg hm]]
    exact asked_shape w R a m (by simp; omega)

end Go.Proofs.Ytonfblfbmnepoaa
