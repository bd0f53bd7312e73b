/- The table's statements' 'awake'; a nil table. -/
import Derived.Test.YtbphciahojjnpaaHotD
import Derived.Test.YtbphciahojjnpaaHotE
namespace Go.Proofs.Ytbphciahojjnpaa
open Go Go.RowKit Go.Deep Go.Proofs.YtbphciahojjnpaaW.PrintWords Go.Proofs.Ytbphciahojjnpaa.HotPlain
set_option linter.unusedVariables false
set_option linter.unusedSimpArgs false

theorem drawn_below' {W w w' : World} (h : Below W.heap.size W w) (d : Drawn0 w w') : Below W.heap.size W w' := by
  obtain ⟨⟨n, rfl⟩⟩ := d
  exact pw_below_drewN h n

set_option maxRecDepth 100000 in
theorem hot_awake (w : World) : Calls Try.prog 40 #[] w fun e w' => e = .returned (.bool true) ∧ Below w.heap.size w w' := by
  have hc1 : hadd [] 5 1 = ([(5, 1)], 1) := by decide
  have hc2 : hadd [(5, 1)] 5 1 = ([(5, 2)], 2) := by decide
  have ho : hof [(5, 2)] 5 = 2 := by decide
  have A1 := Aside0.mk (fun w B (h : TB w B []) => hc1 ▸ tcount_calls w B [] 5 h (by omega) (by omega))
  have A2 := Aside0.mk (fun w B (h : TB w B [(5, 1)]) => hc2 ▸ tcount_calls w B [(5, 1)] 5 h (by omega) (by omega))
  have A3 := Aside0.mk (fun w B (h : TB w B [(5, 2)]) => ho ▸ tof_calls w B [(5, 2)] 5 h (by omega) (by omega))
  clear hc1 hc2 ho
  have B0 := Aside0.mk (Below.refl w.heap.size w)
  go_enter Try.func40, Try.ntmps40
  go_wp2_with fail
  refine (tnew_calls _).mono ?_
  rintro e w1 ⟨rfl, t, d⟩
  have B1 := Aside0.mk (below_on B0.out d)
  have T0 := Aside0.mk t
  clear t d B0
  go_wp2_with fail
  refine (A1.out _ _ T0.out).mono ?_
  rintro e w2 ⟨rfl, t, o⟩
  have B2 := Aside0.mk (o.below (Nat.le_refl _) B1.out)
  have T1 := Aside0.mk t
  clear t o B1 T0
  go_wp2_with fail
  refine (A2.out _ _ T1.out).mono ?_
  rintro e w3 ⟨rfl, t, o⟩
  have B3 := Aside0.mk (o.below (Nat.le_refl _) B2.out)
  have T2 := Aside0.mk t
  clear t o B2 T1
  go_wp2_with fail
  refine (A3.out _ _ T2.out).mono ?_
  rintro e w4 ⟨rfl, d⟩
  have T3 := Aside0.mk (T2.out.drawn d)
  have B4 := Aside0.mk (drawn_below' B3.out d)
  clear d B3 T2
  go_wp2_with fail
  refine (tlen_calls _ _ _ T3.out).mono ?_
  rintro e w5 ⟨rfl, d⟩
  have T4 := Aside0.mk (T3.out.drawn d)
  have B5 := Aside0.mk (drawn_below' B4.out d)
  clear d B4 T3
  go_wp2_with fail
  go_ret
  exact ⟨by simp, B5.out⟩

set_option maxRecDepth 100000 in
set_option maxHeartbeats 1000000 in
theorem hot_nils (pc n : Int) (W : World) (_h0 : (Lit.int .u32 pc).wf = true) (_h1 : (Lit.int .u32 n).wf = true) : Calls Try.prog 13 #[.int .u32 pc, .int .u32 n] W fun e w' => e = .returned (.bool true) ∧ Below W.heap.size W w' := by
  have B0 := Aside0.mk (Below.refl W.heap.size W)
  go_enter Try.func13, Try.ntmps13
  go_wp2_with fail
  refine (clear_nil _).mono ?_
  rintro e w1 ⟨rfl, d⟩
  have B1 := Aside0.mk (drawn_below' B0.out d)
  clear d B0
  go_wp2_with fail
  refine (top_nil _).mono ?_
  rintro e w2 ⟨rfl, d⟩
  have B2 := Aside0.mk (drawn_below' B1.out d)
  clear d B1
  go_wp2_with fail
  refine (count_nil _ _).mono ?_
  rintro e w3 ⟨rfl, d⟩
  have B3 := Aside0.mk (drawn_below' B2.out d)
  clear d B2
  go_wp2_with fail
  refine (add_nil _ _ _).mono ?_
  rintro e w4 ⟨rfl, d⟩
  have B4 := Aside0.mk (drawn_below' B3.out d)
  clear d B3
  go_wp2_with fail
  refine (of_nil _ _).mono ?_
  rintro e w5 ⟨rfl, d⟩
  have B5 := Aside0.mk (drawn_below' B4.out d)
  clear d B4
  go_wp2_with fail
  refine (forget_nil _ _).mono ?_
  rintro e w6 ⟨rfl, d⟩
  have B6 := Aside0.mk (drawn_below' B5.out d)
  clear d B5
  go_wp2_with fail
  refine (len_nil _).mono ?_
  rintro e w7 ⟨rfl, d⟩
  have B7 := Aside0.mk (drawn_below' B6.out d)
  clear d B6
  go_wp2_with fail
  refine (hot_awake _).mono ?_
  rintro e w8 ⟨rfl, d⟩
  have B8 := Aside0.mk (below_on B7.out d)
  clear d B7
  go_wp2_with fail
  go_ret
  exact ⟨by simp, B8.out⟩

end Go.Proofs.Ytbphciahojjnpaa
