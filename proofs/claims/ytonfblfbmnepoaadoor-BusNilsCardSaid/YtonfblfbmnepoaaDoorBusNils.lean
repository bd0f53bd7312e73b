/- The statement BusNils. -/
import Derived.Test.YtonfblfbmnepoaaDoorBusE
namespace Go.Proofs.YtonfblfbmnepoaaDoor
open Go Go.RowKit Go.Proofs.YtonfblfbmnepoaaDoorW.PrintWords
set_option linter.unusedVariables false
set_option linter.unusedSimpArgs false

set_option maxRecDepth 100000 in
set_option maxHeartbeats 2000000 in
theorem bus_nils (a m x : Int) (W : World) (_ : (Lit.int .u32 a).wf = true) (_ : (Lit.int .i64 m).wf = true) (_ : (Lit.int .u32 x).wf = true) (hp : Ports W) : Calls Tryd.prog 5 #[.int .u32 a, .int .i64 m, .int .u32 x] W fun e w' => e = .returned (.bool true) ∧ Below W.heap.size W w' := by
  have HP := Aside0.mk hp
  clear hp
  go_enter Tryd.func5, Tryd.ntmps5
  have B0 := Aside0.mk ((Below.refl W.heap.size W))
  go_wp2_with fail
  refine (bload_nil _ _ _ _).mono ?_
  rintro e w1 ⟨rfl, d⟩
  have B1 := Aside0.mk (drawn_below' B0.out d)
  clear d B0
  go_wp2_with fail
  refine (bstore_nil _ _ _ _ _).mono ?_
  rintro e w2 ⟨rfl, d⟩
  have B2 := Aside0.mk (drawn_below' B1.out d)
  clear d B1
  go_wp2_with fail
  refine (boff_nil _).mono ?_
  rintro e w3 ⟨rfl, d⟩
  have B3 := Aside0.mk (drawn_below' B2.out d)
  clear d B2
  go_wp2_with fail
  refine (new_yes _ 64 (by omega) (by omega) (by omega)).mono ?_
  rintro e v1 ⟨rfl, _, b1⟩
  have B1 := Aside0.mk (below_on B3.out b1)
  clear b1
  go_wp2_with fail
  refine (kc_new W _ B1.out none 0 [] (by intro i p h; simp at h) (by simp) (by simp) (by simp) (by intro i p p' h; simp at h)).mono ?_
  rintro e v2 ⟨C, X, rfl, k2, _, _⟩
  have B2 := Aside0.mk k2.bel
  clear k2 B1
  go_wp2_with fail
  refine (tnew_calls _).mono ?_
  rintro e v3 ⟨rfl, _, b3⟩
  have B3 := Aside0.mk (below_on B2.out b3)
  clear b3 B2
  go_wp2_with fail
  refine (busnew_no _ _ _ _ (.inl rfl) (fun _ _ => trivial)).mono ?_
  rintro e v4 ⟨rfl, d4⟩
  have B4 := Aside0.mk (drawn_below' B3.out d4)
  clear d4 B3
  go_wp2_with fail
  refine (tnew_calls _).mono ?_
  rintro e v5 ⟨rfl, _, b5⟩
  have B5 := Aside0.mk (below_on B4.out b5)
  clear b5 B4
  go_wp2_with fail
  refine (busnew_no _ _ _ _ (.inr (.inl rfl)) (fun _ _ => trivial)).mono ?_
  rintro e v6 ⟨rfl, d6⟩
  have B6 := Aside0.mk (drawn_below' B5.out d6)
  clear d6 B5
  go_wp2_with fail
  refine (busnew_no _ _ _ _ (.inr (.inr rfl)) (fun _ _ => trivial)).mono ?_
  rintro e v7 ⟨rfl, d7⟩
  have B7 := Aside0.mk (drawn_below' B6.out d7)
  clear d7 B6
  go_wp2_with fail
  refine (bcalls_nil _ _).mono ?_
  rintro e v8 ⟨rfl, d8⟩
  have B8 := Aside0.mk (drawn_below' B7.out d8)
  clear d8 B7
  go_wp2_with fail
  refine (bclass_nil _ _ _).mono ?_
  rintro e v9 ⟨rfl, d9⟩
  have B9 := Aside0.mk (drawn_below' B8.out d9)
  clear d9 B8
  go_wp2_with fail
  refine (bram_nil _).mono ?_
  rintro e va ⟨rfl, da⟩
  have BA := Aside0.mk (drawn_below' B9.out da)
  clear da B9
  go_wp2_with fail
  refine (bcon_nil _).mono ?_
  rintro e vb ⟨rfl, db⟩
  have BB := Aside0.mk (drawn_below' BA.out db)
  clear db BA
  go_wp2_with fail
  refine (btim_nil _).mono ?_
  rintro e vc ⟨rfl, dc⟩
  have BC := Aside0.mk (drawn_below' BB.out dc)
  clear dc BB
  go_wp2_with fail
  refine (bus_awake_calls _ (HP.out.below BC.out)).mono ?_
  rintro e vd ⟨rfl, bd⟩
  have BD := Aside0.mk (below_on BC.out bd)
  clear bd BC
  go_wp2_with fail
  go_ret
  exact ⟨by simp, BD.out⟩
end Go.Proofs.YtonfblfbmnepoaaDoor
