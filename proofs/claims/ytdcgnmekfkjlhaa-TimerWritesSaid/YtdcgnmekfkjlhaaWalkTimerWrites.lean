/- The walk of TimerWrites. -/
import Derived.Test.YtdcgnmekfkjlhaaTimerAwakePTimerWrites
import Derived.Deep.RegionHeld3
namespace Go.Proofs.Ytdcgnmekfkjlhaa.TPTimerWrites
open Go Go.RowKit Go.Proofs.Ytdcgnmekfkjlhaa Go.Proofs.Ytdcgnmekfkjlhaa.PTimerWrites Go.Proofs.YtdcgnmekfkjlhaaW.PrintWords
set_option linter.unusedVariables false
set_option linter.unusedSimpArgs false

set_option maxHeartbeats 4000000 in
set_option maxRecDepth 100000 in
theorem walk_no (o m t a x : Int) (s : Bool) (W : World) (hB : mimesisref13_Has.f a = some false)
    (hR : ∀ (w : World) (B : Nat), IsT w B o m s → Calls Try.prog 39 #[.pointer (some ⟨B, 0, none⟩), .int .u32 a, .int .u32 x, .int .u64 t] w fun e w' => e = .returned (.int .i64 6) ∧ Below w.heap.size w w') :
    Calls Try.prog 8 #[.agg #[.int .u64 o, .int .u64 m, .bool s], .agg #[.int .u32 a, .int .u32 x], .int .u64 t] W fun e w' => e = .returned (.bool true) ∧ Below W.heap.size W w' := by
  have HB := Aside0.mk hB; have HR := Aside0.mk hR
  have T0 := Aside0.mk ((show IsT (W.alloc (.cells #[.int .u64 o, .int .u64 m, .bool s] 24)) W.heap.size o m s from blk_new W _).below (below_alloc (Below.refl _ _) (.cells #[.int .u32 a, .int .u32 x] 60)))
  have A0 := Aside0.mk (show ((W.alloc (.cells #[.int .u64 o, .int .u64 m, .bool s] 24)).alloc (.cells #[.int .u32 a, .int .u32 x] 60)).heap[W.heap.size + 1]? = some (.cells #[.int .u32 a, .int .u32 x] 60) by
    have h := blk_new (W.alloc (.cells #[.int .u64 o, .int .u64 m, .bool s] 24)) (.cells #[.int .u32 a, .int .u32 x] 60)
    rw [show (W.alloc (.cells #[.int .u64 o, .int .u64 m, .bool s] 24)).heap.size = W.heap.size + 1 from Array.size_push _] at h
    exact h)
  have C0 := Aside0.mk (below_alloc (below_alloc (Below.refl W.heap.size W) (.cells #[.int .u64 o, .int .u64 m, .bool s] 24)) (.cells #[.int .u32 a, .int .u32 x] 60))
  clear hB hR
  go_enter Try.func8, Try.ntmps8
  go_wp2_with fail
  refine (of_calls _ _ _ _ _ T0.out).mono ?_
  rintro e w1 ⟨rfl, hb1⟩
  have C1 := Aside0.mk (below_on C0.out hb1)
  have T1 := Aside0.mk (T0.out.below hb1)
  have A1 := Aside0.mk (blk_below A0.out hb1)
  clear T0 C0 A0 hb1
  have hl1 := blk_lt A1.out
  have C1' := Aside0.mk (below_alloc C1.out (.cells #[.int .u64 o, .int .u64 m, .bool s] 25))
  have T1' := Aside0.mk (T1.out.below (below_alloc (Below.refl _ w1) (.cells #[.int .u64 o, .int .u64 m, .bool s] 25)))
  have A1' := Aside0.mk (blk_below A1.out (below_alloc (Below.refl _ w1) (.cells #[.int .u64 o, .int .u64 m, .bool s] 25)))
  have Q := Aside0.mk (blk_new w1 (.cells #[.int .u64 o, .int .u64 m, .bool s] 25))
  have xa : (w1.alloc (.cells #[.int .u64 o, .int .u64 m, .bool s] 25)).cell? ⟨W.heap.size + 1, 1, none⟩ = some (.int .u32 x) := (blk_cell A1'.out 1).trans rfl
  clear T1 C1 A1
  go_wp2_with fail
  refine (HR.out _ _ T1'.out).mono ?_
  rintro e w2 ⟨rfl, d2⟩
  have CT := Aside0.mk (T1'.out.below d2)
  have CC := Aside0.mk (below_on C1'.out d2)
  have Q2 := Aside0.mk (blk_below Q.out d2)
  clear T1' C1' Q d2 xa A1'
  go_wp2_with fail
  refine (mimesisref13_Has.calls _ _ _ HB.out).mono ?_
  rintro e w3 ⟨rfl, d3⟩
  have DT := Aside0.mk (CT.out.drawn d3)
  have DC := Aside0.mk (drawn_below CC.out d3)
  have D2 := Aside0.mk (blk_below Q2.out d3.below)
  have x0 : w3.cell? ⟨w1.heap.size, 0, none⟩ = some (.int .u64 o) := (blk_cell D2.out 0).trans rfl
  have x1 : w3.cell? ⟨w1.heap.size, 1, none⟩ = some (.int .u64 m) := (blk_cell D2.out 1).trans rfl
  have x2 : w3.cell? ⟨w1.heap.size, 2, none⟩ = some (.bool s) := (blk_cell D2.out 2).trans rfl
  clear CT CC Q2 d3 D2
  go_wp2_with fail
  go_region_held3 (fun w' => w'.cell? ⟨w1.heap.size, 0, none⟩ = some (.int .u64 o) ∧ w'.cell? ⟨w1.heap.size, 1, none⟩ = some (.int .u64 m) ∧ w'.cell? ⟨w1.heap.size, 2, none⟩ = some (.bool s) ∧ IsT w' W.heap.size o m s ∧ Below W.heap.size W w') (first | (go_split_ands; (repeat' apply And.intro) <;> (first | exact pw_cell_below hb (by assumption) | exact IsT.below (by assumption) hb | exact below_on (by assumption) hb)) | ((repeat' apply And.intro) <;> (first | exact Below.drew DC.out | exact DT.out.drew | go_keep))) (first | (go_at_call 14; refine (of_calls _ W.heap.size o m s (by go_split_ands; assumption)).mono ?_; rintro e w' ⟨rfl, hb⟩) | (go_at_call 20; (with_reducible refine (awake_calls _).mono ?_); rintro e w' ⟨rfl, hb⟩))
  all_goals go_wp2
  all_goals go_ret
  all_goals (go_split_ands; exact ⟨rfl, by assumption⟩)

set_option maxHeartbeats 4000000 in
set_option maxRecDepth 100000 in
theorem walk_soft (o m t a x : Int) (s : Bool) (W : World) (hB : mimesisref13_Has.f a = some true) (o' m' v : Int) (s' : Bool) (hW : mimesisref13_Write.f o m s a x t = some (o', m', s')) (hq : (a == 33554432) = true) (hv : Int.tmod x 2 = v)
    (hX : ∀ (w : World) (B : Nat), IsT w B o' m' s' → Calls Try.prog 21 #[.pointer (some ⟨B, 0, none⟩), .int .u32 a, .int .u64 t] w fun e w' => e = .returned (.tuple #[.int .u32 v, .int .i64 0]) ∧ Drawn0 w w')
    (hR : ∀ (w : World) (B : Nat), IsT w B o m s → Calls Try.prog 39 #[.pointer (some ⟨B, 0, none⟩), .int .u32 a, .int .u32 x, .int .u64 t] w fun e w' => e = .returned (.int .i64 0) ∧ IsT w' B o' m' s' ∧ Only B w w') :
    Calls Try.prog 8 #[.agg #[.int .u64 o, .int .u64 m, .bool s], .agg #[.int .u32 a, .int .u32 x], .int .u64 t] W fun e w' => e = .returned (.bool true) ∧ Below W.heap.size W w' := by
  have HB := Aside0.mk hB; have HR := Aside0.mk hR
  have HX := Aside0.mk hX; have HW := Aside0.mk hW
  clear hX hW
  have T0 := Aside0.mk ((show IsT (W.alloc (.cells #[.int .u64 o, .int .u64 m, .bool s] 24)) W.heap.size o m s from blk_new W _).below (below_alloc (Below.refl _ _) (.cells #[.int .u32 a, .int .u32 x] 60)))
  have A0 := Aside0.mk (show ((W.alloc (.cells #[.int .u64 o, .int .u64 m, .bool s] 24)).alloc (.cells #[.int .u32 a, .int .u32 x] 60)).heap[W.heap.size + 1]? = some (.cells #[.int .u32 a, .int .u32 x] 60) by
    have h := blk_new (W.alloc (.cells #[.int .u64 o, .int .u64 m, .bool s] 24)) (.cells #[.int .u32 a, .int .u32 x] 60)
    rw [show (W.alloc (.cells #[.int .u64 o, .int .u64 m, .bool s] 24)).heap.size = W.heap.size + 1 from Array.size_push _] at h
    exact h)
  have C0 := Aside0.mk (below_alloc (below_alloc (Below.refl W.heap.size W) (.cells #[.int .u64 o, .int .u64 m, .bool s] 24)) (.cells #[.int .u32 a, .int .u32 x] 60))
  clear hB hR
  go_enter Try.func8, Try.ntmps8
  go_wp2_with fail
  refine (of_calls _ _ _ _ _ T0.out).mono ?_
  rintro e w1 ⟨rfl, hb1⟩
  have C1 := Aside0.mk (below_on C0.out hb1)
  have T1 := Aside0.mk (T0.out.below hb1)
  have A1 := Aside0.mk (blk_below A0.out hb1)
  clear T0 C0 A0 hb1
  have hl1 := blk_lt A1.out
  have C1' := Aside0.mk (below_alloc C1.out (.cells #[.int .u64 o, .int .u64 m, .bool s] 25))
  have T1' := Aside0.mk (T1.out.below (below_alloc (Below.refl _ w1) (.cells #[.int .u64 o, .int .u64 m, .bool s] 25)))
  have A1' := Aside0.mk (blk_below A1.out (below_alloc (Below.refl _ w1) (.cells #[.int .u64 o, .int .u64 m, .bool s] 25)))
  have Q := Aside0.mk (blk_new w1 (.cells #[.int .u64 o, .int .u64 m, .bool s] 25))
  have xa : (w1.alloc (.cells #[.int .u64 o, .int .u64 m, .bool s] 25)).cell? ⟨W.heap.size + 1, 1, none⟩ = some (.int .u32 x) := (blk_cell A1'.out 1).trans rfl
  clear T1 C1 A1
  go_wp2_with fail
  refine (HR.out _ _ T1'.out).mono ?_
  rintro e w2 ⟨rfl, i2, o2⟩
  have CT := Aside0.mk i2
  have CC := Aside0.mk (o2.below (Nat.le_refl _) C1'.out)
  have Q2 := Aside0.mk (blk_only Q.out o2 (by omega))
  have A2 := Aside0.mk (blk_only A1'.out o2 (by omega))
  clear T1' C1' Q i2 o2 xa A1'
  go_wp2_with fail
  refine (mimesisref13_Has.calls _ _ _ HB.out).mono ?_
  rintro e w3 ⟨rfl, d3⟩
  have DT := Aside0.mk (CT.out.drawn d3)
  have DC := Aside0.mk (drawn_below CC.out d3)
  have D2 := Aside0.mk (blk_below Q2.out d3.below)
  have E2 := Aside0.mk (blk_below A2.out d3.below)
  clear CT CC Q2 A2 d3
  go_wp2_with fail
  refine (HX.out _ _ DT.out).mono ?_
  rintro e w4 ⟨rfl, d4⟩
  have CT := Aside0.mk (DT.out.drawn d4)
  have CC := Aside0.mk (drawn_below DC.out d4)
  have Q2 := Aside0.mk (blk_below D2.out d4.below)
  have A2 := Aside0.mk (blk_below E2.out d4.below)
  have x0 : w4.cell? ⟨w1.heap.size, 0, none⟩ = some (.int .u64 o) := (blk_cell Q2.out 0).trans rfl
  have x1 : w4.cell? ⟨w1.heap.size, 1, none⟩ = some (.int .u64 m) := (blk_cell Q2.out 1).trans rfl
  have x2 : w4.cell? ⟨w1.heap.size, 2, none⟩ = some (.bool s) := (blk_cell Q2.out 2).trans rfl
  have xa : w4.cell? ⟨W.heap.size + 1, 1, none⟩ = some (.int .u32 x) := (blk_cell A2.out 1).trans rfl
  clear DT DC D2 E2 d4 Q2 A2
  go_wp2_with fail
  go_region_held3 (fun w' => w'.cell? ⟨w1.heap.size, 0, none⟩ = some (.int .u64 o) ∧ w'.cell? ⟨w1.heap.size, 1, none⟩ = some (.int .u64 m) ∧ w'.cell? ⟨w1.heap.size, 2, none⟩ = some (.bool s) ∧ w'.cell? ⟨W.heap.size + 1, 1, none⟩ = some (.int .u32 x) ∧ IsT w' W.heap.size o' m' s' ∧ Below W.heap.size W w') (first | (go_split_ands; (repeat' apply And.intro) <;> (first | exact pw_cell_below hb (by assumption) | exact IsT.below (by assumption) hb | exact below_on (by assumption) hb)) | ((repeat' apply And.intro) <;> (first | exact Below.drew CC.out | exact CT.out.drew | go_keep))) (first | (go_at_call 14; refine (of_calls _ W.heap.size o' m' s' (by go_split_ands; assumption)).mono ?_; rintro e w' ⟨rfl, hb⟩) | (go_at_call 40; (with_reducible refine (mimesisref13_Write.calls _ _ _ _ _ _ _ _ _ _ HW.out).mono ?_); rintro e w' ⟨rfl, hb⟩) | (go_at_call 20; (with_reducible refine (awake_calls _).mono ?_); rintro e w' ⟨rfl, hb⟩))
  all_goals go_wp2
  all_goals go_ret
  all_goals (go_split_ands; exact ⟨by simp, by assumption⟩)

set_option maxHeartbeats 4000000 in
set_option maxRecDepth 100000 in
theorem walk_other (o m t a x : Int) (s : Bool) (W : World) (hB : mimesisref13_Has.f a = some true) (o' m' v : Int) (s' : Bool) (hW : mimesisref13_Write.f o m s a x t = some (o', m', s')) (hq : (a == 33554432) = false) (hv : x = v)
    (hX : ∀ (w : World) (B : Nat), IsT w B o' m' s' → Calls Try.prog 21 #[.pointer (some ⟨B, 0, none⟩), .int .u32 a, .int .u64 t] w fun e w' => e = .returned (.tuple #[.int .u32 v, .int .i64 0]) ∧ Drawn0 w w')
    (hR : ∀ (w : World) (B : Nat), IsT w B o m s → Calls Try.prog 39 #[.pointer (some ⟨B, 0, none⟩), .int .u32 a, .int .u32 x, .int .u64 t] w fun e w' => e = .returned (.int .i64 0) ∧ IsT w' B o' m' s' ∧ Only B w w') :
    Calls Try.prog 8 #[.agg #[.int .u64 o, .int .u64 m, .bool s], .agg #[.int .u32 a, .int .u32 x], .int .u64 t] W fun e w' => e = .returned (.bool true) ∧ Below W.heap.size W w' := by
  have HB := Aside0.mk hB; have HR := Aside0.mk hR
  have HX := Aside0.mk hX; have HW := Aside0.mk hW
  clear hX hW
  subst hv
  have T0 := Aside0.mk ((show IsT (W.alloc (.cells #[.int .u64 o, .int .u64 m, .bool s] 24)) W.heap.size o m s from blk_new W _).below (below_alloc (Below.refl _ _) (.cells #[.int .u32 a, .int .u32 x] 60)))
  have A0 := Aside0.mk (show ((W.alloc (.cells #[.int .u64 o, .int .u64 m, .bool s] 24)).alloc (.cells #[.int .u32 a, .int .u32 x] 60)).heap[W.heap.size + 1]? = some (.cells #[.int .u32 a, .int .u32 x] 60) by
    have h := blk_new (W.alloc (.cells #[.int .u64 o, .int .u64 m, .bool s] 24)) (.cells #[.int .u32 a, .int .u32 x] 60)
    rw [show (W.alloc (.cells #[.int .u64 o, .int .u64 m, .bool s] 24)).heap.size = W.heap.size + 1 from Array.size_push _] at h
    exact h)
  have C0 := Aside0.mk (below_alloc (below_alloc (Below.refl W.heap.size W) (.cells #[.int .u64 o, .int .u64 m, .bool s] 24)) (.cells #[.int .u32 a, .int .u32 x] 60))
  clear hB hR
  go_enter Try.func8, Try.ntmps8
  go_wp2_with fail
  refine (of_calls _ _ _ _ _ T0.out).mono ?_
  rintro e w1 ⟨rfl, hb1⟩
  have C1 := Aside0.mk (below_on C0.out hb1)
  have T1 := Aside0.mk (T0.out.below hb1)
  have A1 := Aside0.mk (blk_below A0.out hb1)
  clear T0 C0 A0 hb1
  have hl1 := blk_lt A1.out
  have C1' := Aside0.mk (below_alloc C1.out (.cells #[.int .u64 o, .int .u64 m, .bool s] 25))
  have T1' := Aside0.mk (T1.out.below (below_alloc (Below.refl _ w1) (.cells #[.int .u64 o, .int .u64 m, .bool s] 25)))
  have A1' := Aside0.mk (blk_below A1.out (below_alloc (Below.refl _ w1) (.cells #[.int .u64 o, .int .u64 m, .bool s] 25)))
  have Q := Aside0.mk (blk_new w1 (.cells #[.int .u64 o, .int .u64 m, .bool s] 25))
  have xa : (w1.alloc (.cells #[.int .u64 o, .int .u64 m, .bool s] 25)).cell? ⟨W.heap.size + 1, 1, none⟩ = some (.int .u32 x) := (blk_cell A1'.out 1).trans rfl
  clear T1 C1 A1
  go_wp2_with fail
  refine (HR.out _ _ T1'.out).mono ?_
  rintro e w2 ⟨rfl, i2, o2⟩
  have CT := Aside0.mk i2
  have CC := Aside0.mk (o2.below (Nat.le_refl _) C1'.out)
  have Q2 := Aside0.mk (blk_only Q.out o2 (by omega))
  have A2 := Aside0.mk (blk_only A1'.out o2 (by omega))
  clear T1' C1' Q i2 o2 xa A1'
  go_wp2_with fail
  refine (mimesisref13_Has.calls _ _ _ HB.out).mono ?_
  rintro e w3 ⟨rfl, d3⟩
  have DT := Aside0.mk (CT.out.drawn d3)
  have DC := Aside0.mk (drawn_below CC.out d3)
  have D2 := Aside0.mk (blk_below Q2.out d3.below)
  have E2 := Aside0.mk (blk_below A2.out d3.below)
  clear CT CC Q2 A2 d3
  go_wp2_with fail
  refine (HX.out _ _ DT.out).mono ?_
  rintro e w4 ⟨rfl, d4⟩
  have CT := Aside0.mk (DT.out.drawn d4)
  have CC := Aside0.mk (drawn_below DC.out d4)
  have Q2 := Aside0.mk (blk_below D2.out d4.below)
  have A2 := Aside0.mk (blk_below E2.out d4.below)
  have x0 : w4.cell? ⟨w1.heap.size, 0, none⟩ = some (.int .u64 o) := (blk_cell Q2.out 0).trans rfl
  have x1 : w4.cell? ⟨w1.heap.size, 1, none⟩ = some (.int .u64 m) := (blk_cell Q2.out 1).trans rfl
  have x2 : w4.cell? ⟨w1.heap.size, 2, none⟩ = some (.bool s) := (blk_cell Q2.out 2).trans rfl
  have xa : w4.cell? ⟨W.heap.size + 1, 1, none⟩ = some (.int .u32 x) := (blk_cell A2.out 1).trans rfl
  clear DT DC D2 E2 d4 Q2 A2
  go_wp2_with fail
  go_region_held3 (fun w' => w'.cell? ⟨w1.heap.size, 0, none⟩ = some (.int .u64 o) ∧ w'.cell? ⟨w1.heap.size, 1, none⟩ = some (.int .u64 m) ∧ w'.cell? ⟨w1.heap.size, 2, none⟩ = some (.bool s) ∧ w'.cell? ⟨W.heap.size + 1, 1, none⟩ = some (.int .u32 x) ∧ IsT w' W.heap.size o' m' s' ∧ Below W.heap.size W w') (first | (go_split_ands; (repeat' apply And.intro) <;> (first | exact pw_cell_below hb (by assumption) | exact IsT.below (by assumption) hb | exact below_on (by assumption) hb)) | ((repeat' apply And.intro) <;> (first | exact Below.drew CC.out | exact CT.out.drew | go_keep))) (first | (go_at_call 14; refine (of_calls _ W.heap.size o' m' s' (by go_split_ands; assumption)).mono ?_; rintro e w' ⟨rfl, hb⟩) | (go_at_call 40; (with_reducible refine (mimesisref13_Write.calls _ _ _ _ _ _ _ _ _ _ HW.out).mono ?_); rintro e w' ⟨rfl, hb⟩) | (go_at_call 20; (with_reducible refine (awake_calls _).mono ?_); rintro e w' ⟨rfl, hb⟩))
  all_goals go_wp2
  all_goals go_ret
  all_goals (go_split_ands; exact ⟨by simp, by assumption⟩)

end Go.Proofs.Ytdcgnmekfkjlhaa.TPTimerWrites
