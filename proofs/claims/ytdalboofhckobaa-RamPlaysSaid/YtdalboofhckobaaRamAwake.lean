/- The memory's statements' 'awake'. -/
import Derived.Test.YtdalboofhckobaaDrawn
import Derived.Test.YtdalboofhckobaaRamE
namespace Go.Proofs.Ytdalboofhckobaa
open Go Go.RowKit Go.Proofs.YtdalboofhckobaaW.PrintWords Go.Proofs.Ytdalboofhckobaa.QRamPlays
set_option linter.unusedVariables false
set_option linter.unusedSimpArgs false

theorem ram_put_fact : word_Bytes.f 9 305419896 ((4 : Nat) : Int) = some ([120, 86, 52, 18], 0) := by kernel_rfl
theorem ram_get_fact : word_Number.f 9 (((List.take 64 (List.replicate 128 (0 : Int)) ++ [120, 86, 52, 18] ++ List.drop (64 + 4) (List.replicate 128 (0 : Int))).drop 66).take 2) = some (4660, 0) := by kernel_rfl
theorem ram_asked_4 : rasked 128 2147483712 ((4 : Nat) : Int) = 0 := by kernel_rfl
theorem ram_asked_2 : rasked 128 2147483714 ((2 : Nat) : Int) = 0 := by kernel_rfl
theorem ram_page_1 : rpage 128 2147483712 = ((1 : Nat) : Int) := by kernel_rfl

theorem page_awake (w : World) {R BB BW BG k : Nat} {l : List Int} {ws : List Bool} {gs : List Int} (h : IsRam w R BB BW BG 128 k l ws gs) : Calls Try.prog 16 #[.pointer (some ⟨R, 0, none⟩), .int .u32 2147483712] w fun e w' => e = .returned (.int .i64 1) ∧ Drawn0 w w' := by
  have := page_calls w 2147483712 h (by omega) (by omega) (by omega)
  rwa [ram_page_1] at this

set_option maxRecDepth 100000 in
set_option maxHeartbeats 1000000 in
theorem ram_awake_calls (w : World) : Calls Try.prog 12 #[] w fun e w' => e = .returned (.bool true) ∧ Below w.heap.size w w' := by
  go_enter Try.func12, Try.ntmps12
  go_wp2_with fail
  refine (new_yes _ 128 (by omega) (by omega) (by omega)).mono ?_
  rintro e w1 ⟨rfl, ⟨BB, BW, BG, b1, b2, b3, h1⟩, hb1⟩
  have H1 := Aside0.mk h1
  have B1 := Aside0.mk hb1
  clear h1 hb1
  go_wp2_with fail
  refine (store_yes (K := 9) w1 2147483712 305419896 64 4 1 [120, 86, 52, 18] 0 0 false H1.out (by omega) (by omega) (by omega) ram_asked_4 (by omega) (by omega) (by omega) ram_page_1 (by omega) (by simp) (by simp) (by simp) ram_put_fact).mono ?_
  rintro e w2 ⟨rfl, h2, o2⟩
  have H2 := Aside0.mk h2
  have B2 := Aside0.mk (o2.below (fun k hk => by rcases hk with rfl | rfl | rfl <;> assumption) B1.out)
  clear h2 o2 H1 B1
  go_wp2_with fail
  refine (load_yes (K := 9) w2 2147483714 66 2 4660 0 H2.out (by omega) (by omega) (by omega) ram_asked_2 (by omega) (by omega) (by omega) ram_get_fact).mono ?_
  rintro e w3 ⟨rfl, d3⟩
  have H3 := Aside0.mk (H2.out.drawn d3)
  have B3 := Aside0.mk (drawn_below' B2.out d3)
  clear d3 H2 B2
  go_wp2_with fail
  refine (page_awake _ H3.out).mono ?_
  rintro e w4 ⟨rfl, d4⟩
  have B4 := Aside0.mk (drawn_below' B3.out d4)
  clear d4
  go_wp2_with fail
  go_ret
  exact ⟨by simp, B4.out⟩

end Go.Proofs.Ytdalboofhckobaa
