/- The walk of RamNils. -/
import Derived.Test.YtgooloekalhkkaaRamAwake
import Derived.Test.YtgooloekalhkkaaOpens
import Derived.Deep.RegionHeld3
namespace Go.Proofs.Ytgooloekalhkkaa
open Go Go.RowKit Go.Proofs.YtgooloekalhkkaaW.PrintWords
set_option linter.unusedVariables false
set_option linter.unusedSimpArgs false

set_option maxHeartbeats 4000000 in
set_option maxRecDepth 100000 in
theorem ram_nils (a n : Int) (A : Option Addr) (len cap : Nat) (zs : List Int) (W : World) (_w0 : (Lit.int .u32 a).wf = true) (_w1 : (Lit.int .i64 n).wf = true) (_h : IsRow .u8 W A len cap zs) :
    Calls Try.prog 8 #[.int .u32 a, .int .i64 n, .slice A len cap] W fun e w' => e = .returned (.bool true) ∧ Below W.heap.size W w' := by
  have B0 := Aside0.mk (Below.refl W.heap.size W)
  go_enter Try.func8, Try.ntmps8
  go_wp2_with fail
  refine (load_nil _ _ _).mono ?_
  rintro e w1 ⟨rfl, d1⟩
  have B1 := Aside0.mk (drawn_below' B0.out d1)
  clear d1 B0
  go_wp2_with fail
  refine (store_nil _ _ _ _).mono ?_
  rintro e w2 ⟨rfl, d2⟩
  have B2 := Aside0.mk (drawn_below' B1.out d2)
  clear d2 B1
  go_wp2_with fail
  refine (fill_nil _ _ _ _ _).mono ?_
  rintro e w3 ⟨rfl, d⟩
  have B3 := Aside0.mk (drawn_below' B2.out d)
  clear d B2
  go_wp2_with fail
  refine (watch_nil _ _).mono ?_
  rintro e w4 ⟨rfl, d⟩
  have B4 := Aside0.mk (drawn_below' B3.out d)
  clear d B3
  go_wp2_with fail
  refine (size_nil _).mono ?_
  rintro e w5 ⟨rfl, d⟩
  have B5 := Aside0.mk (drawn_below' B4.out d)
  clear d B4
  go_wp2_with fail
  refine (has_nil _ _ _).mono ?_
  rintro e w6 ⟨rfl, d⟩
  have B6 := Aside0.mk (drawn_below' B5.out d)
  clear d B5
  go_wp2_with fail
  refine (bytes_nil _).mono ?_
  rintro e w7 ⟨rfl, d⟩
  have B7 := Aside0.mk (drawn_below' B6.out d)
  clear d B6
  go_wp2_with fail
  refine (page_nil _ _).mono ?_
  rintro e w8 ⟨rfl, d⟩
  have B8 := Aside0.mk (drawn_below' B7.out d)
  clear d B7
  go_wp2_with fail
  refine (watched_nil _ _).mono ?_
  rintro e w9 ⟨rfl, d⟩
  have B9 := Aside0.mk (drawn_below' B8.out d)
  clear d B8
  go_wp2_with fail
  refine (gen_nil _ _).mono ?_
  rintro e w10 ⟨rfl, d⟩
  have B10 := Aside0.mk (drawn_below' B9.out d)
  clear d B9
  go_wp2_with fail
  refine (ram_awake_calls _).mono ?_
  rintro e w' ⟨rfl, hb⟩
  have BB := Aside0.mk (below_on B10.out hb)
  clear hb
  go_wp2_with fail
  go_ret
  exact ⟨by simp, BB.out⟩

end Go.Proofs.Ytgooloekalhkkaa
