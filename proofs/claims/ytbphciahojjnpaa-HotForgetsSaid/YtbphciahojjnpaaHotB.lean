/- The table's Add, Count, Len, by contract. -/
import Derived.Test.YtbphciahojjnpaaHot
import Derived.BigRegion
import Derived.Test.YtbphciahojjnpaaWMore
import Derived.Test.YtbphciahojjnpaaWLast
namespace Go.Proofs.Ytbphciahojjnpaa
open Go Go.RowKit Go.Deep Go.Proofs.YtbphciahojjnpaaW.PrintWords Go.Proofs.YtbphciahojjnpaaW.PrintLast Go.Proofs.YtbphciahojjnpaaW.PrintMore Go.Proofs.Ytbphciahojjnpaa.HotPlain
attribute [local go_sem] max2_int min2_int max_two min_two max_three min_three max_four min_four
set_option linter.unusedVariables false
set_option linter.unusedSimpArgs false

set_option maxRecDepth 100000 in
theorem len_calls (w : World) (B : Nat) (l : Tab) (m : Int) (h : IsH w B l m) : Calls Try.prog 47 #[.pointer (some ⟨B, 0, none⟩)] w fun e w' => e = .returned (.int .i64 m) ∧ Drawn0 w w' := by
  have c := h.many
  clear h
  go_enter Try.func47, Try.ntmps47
  go_wp2
  go_ret
  exact ⟨by simp, Drawn0.refl _⟩
set_option maxRecDepth 100000 in
theorem len_nil (w : World) : Calls Try.prog 47 #[.pointer none] w fun e w' => e = .returned (.int .i64 0) ∧ Drawn0 w w' := by
  go_enter Try.func47, Try.ntmps47
  go_wp2
  go_ret
  exact ⟨rfl, Drawn0.refl _⟩

set_option maxRecDepth 100000 in
theorem add_nil (w : World) (pc n : Int) : Calls Try.prog 52 #[.pointer none, .int .u32 pc, .int .u32 n] w fun e w' => e = .returned (.int .u32 0) ∧ Drawn0 w w' := by
  go_enter Try.func52, Try.ntmps52
  go_wp2_with fail
  refine (of_nil _ _).mono ?_
  rintro e w1 ⟨rfl, d1⟩
  go_wp2_with fail
  go_ret
  exact ⟨rfl, d1⟩

set_option maxRecDepth 100000 in
theorem add_zero (w : World) (B : Nat) (l : Tab) (m pc x : Int) (s : Nat) (h : IsH w B l m) (h0 : 0 ≤ pc) (h1 : pc < 4294967296) (e : Nat) (he : e < 128) (hz : nA l e = 0) (hf : HFound l pc s) (hx : nA l s = x) : Calls Try.prog 52 #[.pointer (some ⟨B, 0, none⟩), .int .u32 pc, .int .u32 0] w fun e w' => e = .returned (.int .u32 x) ∧ Drawn0 w w' := by
  have HF := Aside0.mk (of_some w B l m pc x s h h0 h1 e he hz hf hx)
  clear h hf hx he hz
  go_enter Try.func52, Try.ntmps52
  go_wp2_with fail
  refine HF.out.mono ?_
  rintro e w1 ⟨rfl, d1⟩
  go_wp2_with fail
  go_ret
  exact ⟨rfl, d1⟩

set_option maxRecDepth 100000 in
set_option maxHeartbeats 1000000 in
theorem add_full (w : World) (B : Nat) (l : Tab) (pc n : Int) (s : Nat) (h : IsH w B l 64) (h0 : 0 ≤ pc) (h1 : pc < 4294967296) (e : Nat) (he : e < 128) (hz : nA l e = 0) (hf : HFound l pc s) (hx : nA l s = 0) (hn : (n == 0) = false) : Calls Try.prog 52 #[.pointer (some ⟨B, 0, none⟩), .int .u32 pc, .int .u32 n] w fun e w' => e = .returned (.int .u32 0) ∧ Drawn0 w w' := by
  have H := Aside0.mk h
  have hs := hf.lt
  have HF := Aside0.mk (fun w (h : IsH w B l 64) => find_calls w B l 64 pc s h h0 h1 e he hz hf)
  have c1 : ∀ n, (w.drewN n).cell? ⟨B, s * 2 + 1, none⟩ = some (.int .u32 0) := fun n => by rw [← hx]; exact h.n s hs
  have cm : ∀ n, (w.drewN n).cell? ⟨B, 256, none⟩ = some (.int .i64 64) := fun n => h.many
  have c10 : w.cell? ⟨B, s * 2 + 1, none⟩ = some (.int .u32 0) := c1 0
  have cm0 : w.cell? ⟨B, 256, none⟩ = some (.int .i64 64) := cm 0
  clear h hf hx he hz
  go_enter Try.func52, Try.ntmps52
  go_wp2_with fail
  go_quiet (first | (go_at_call 63; (with_reducible refine (HF.out _ (by first | exact H.out | exact IsH.drewN _ H.out)).mono ?_); rintro e w' ⟨rfl, ⟨nd, rfl⟩⟩; (try first | exact ⟨rfl, _, World.drewN_drewN _ _ _⟩ | exact ⟨rfl, _, Eq.trans (World.drewN_drewN _ _ _) (congrArg (World.drewN _) (Nat.add_assoc _ _ _))⟩)))
  all_goals go_wp2
  all_goals go_ret
  all_goals exact ⟨by first | rfl | simp, ⟨⟨_, rfl⟩⟩⟩

set_option maxRecDepth 100000 in
set_option maxHeartbeats 1000000 in
theorem add_new (w : World) (B : Nat) (l : Tab) (m pc n : Int) (s : Nat) (h : IsH w B l m) (h0 : 0 ≤ pc) (h1 : pc < 4294967296) (e : Nat) (he : e < 128) (hz : nA l e = 0) (hf : HFound l pc s) (hx : nA l s = 0) (hn : (n == 0) = false) (n0 : 0 ≤ n) (n1 : n < 4294967296) (m0 : 0 ≤ m) (m1 : m < 64) : Calls Try.prog 52 #[.pointer (some ⟨B, 0, none⟩), .int .u32 pc, .int .u32 n] w fun e w' => e = .returned (.int .u32 n) ∧ IsH w' B (l.set s (pc, n)) (m + 1) ∧ Only B w w' := by
  have H := Aside0.mk h
  have hs := hf.lt
  have HF := Aside0.mk (fun w (h : IsH w B l m) => find_calls w B l m pc s h h0 h1 e he hz hf)
  have c1 : ∀ n, (w.drewN n).cell? ⟨B, s * 2 + 1, none⟩ = some (.int .u32 0) := fun n => by rw [← hx]; exact h.n s hs
  have c0 : ∀ n, (w.drewN n).cell? ⟨B, s * 2, none⟩ = some (.int .u32 (pcA l s)) := fun n => h.pc s hs
  have cm : ∀ n, (w.drewN n).cell? ⟨B, 256, none⟩ = some (.int .i64 m) := fun n => h.many
  have fz : ∀ i n, (w.drewN n).frozen? ⟨B, i, none⟩ = false := fun i n => h.fz i
  have mn : (m == 64) = false := beq_eq_false_iff_ne.2 (by omega)
  clear h hf he hz
  go_enter Try.func52, Try.ntmps52
  go_wp2_with fail
  go_quiet (first | (go_at_call 63; (with_reducible refine (HF.out _ (by first | exact H.out | exact IsH.drewN _ H.out)).mono ?_); rintro e w' ⟨rfl, ⟨nd, rfl⟩⟩; (try first | exact ⟨rfl, _, World.drewN_drewN _ _ _⟩ | exact ⟨rfl, _, Eq.trans (World.drewN_drewN _ _ _) (congrArg (World.drewN _) (Nat.add_assoc _ _ _))⟩)))
  go_wp2_with fail
  have H2 := Aside0.mk (((IsH.drewN nq H.out).setMany (m + 1)).setPc s hs pc)
  have O2 := Aside0.mk ((((Only.refl B w).drewN nq).setCell 256 (.int .i64 (m + 1))).setCell (s * 2) (.int .u32 pc))
  obtain ⟨W2, hW2⟩ : ∃ W2, (((w.drewN nq).setCell ⟨B, 256, none⟩ (.int .i64 (m + 1))).setCell ⟨B, s * 2, none⟩ (.int .u32 pc)) = W2 := ⟨_, rfl⟩
  rw [hW2] at H2 O2 ⊢
  rw [hx] at H2
  have hl : s < l.length := by rw [H.out.2]; exact hs
  have d1 : W2.cell? ⟨B, s * 2 + 1, none⟩ = some (.int .u32 0) := by have := H2.out.n s hs; rwa [nA_set _ _ _ _ hl, if_pos rfl] at this
  have fz2 : ∀ i, W2.frozen? ⟨B, i, none⟩ = false := fun i => H2.out.fz i
  have H3 := Aside0.mk (H2.out.setN s hs n)
  rw [pcA_set _ _ _ _ hl, if_pos rfl, List.set_set] at H3
  have O3 := Aside0.mk (O2.out.setCell (s * 2 + 1) (.int .u32 n))
  clear hW2 c1 c0 cm fz H HF hx
  go_region
  all_goals go_wp2
  all_goals go_ret
  all_goals exact ⟨rfl, H3.out, O3.out.drew⟩

set_option maxRecDepth 100000 in
set_option maxHeartbeats 1000000 in
theorem add_more (w : World) (B : Nat) (l : Tab) (m pc n x v : Int) (s : Nat) (h : IsH w B l m) (h0 : 0 ≤ pc) (h1 : pc < 4294967296) (e : Nat) (he : e < 128) (hz : nA l e = 0) (hf : HFound l pc s) (hx : nA l s = x) (hn : (n == 0) = false) (n0 : 0 ≤ n) (n1 : n < 4294967296) (x0 : 0 < x) (x1 : x < 4294967296) (hv : x + (if 4294967295 - x < n then 4294967295 - x else n) = v) : Calls Try.prog 52 #[.pointer (some ⟨B, 0, none⟩), .int .u32 pc, .int .u32 n] w fun e w' => e = .returned (.int .u32 v) ∧ IsH w' B (l.set s (pcA l s, v)) m ∧ Only B w w' := by
  have H := Aside0.mk h
  have HV := Aside0.mk hv
  have hs := hf.lt
  have HF := Aside0.mk (fun w (h : IsH w B l m) => find_calls w B l m pc s h h0 h1 e he hz hf)
  have c1 : ∀ n, (w.drewN n).cell? ⟨B, s * 2 + 1, none⟩ = some (.int .u32 x) := fun n => by rw [← hx]; exact h.n s hs
  have c0 : ∀ n, (w.drewN n).cell? ⟨B, s * 2, none⟩ = some (.int .u32 (pcA l s)) := fun n => h.pc s hs
  have fz : ∀ i n, (w.drewN n).frozen? ⟨B, i, none⟩ = false := fun i n => h.fz i
  have xn : (x == 0) = false := beq_eq_false_iff_ne.2 (by omega)
  clear h hf he hz hv hx
  go_enter Try.func52, Try.ntmps52
  go_wp2_with fail
  go_quiet (first | (go_at_call 63; (with_reducible refine (HF.out _ (by first | exact H.out | exact IsH.drewN _ H.out)).mono ?_); rintro e w' ⟨rfl, ⟨nd, rfl⟩⟩; (try first | exact ⟨rfl, _, World.drewN_drewN _ _ _⟩ | exact ⟨rfl, _, Eq.trans (World.drewN_drewN _ _ _) (congrArg (World.drewN _) (Nat.add_assoc _ _ _))⟩)))
  go_wp2_with fail
  have H2 := Aside0.mk (IsH.drewN nq H.out)
  have O2 := Aside0.mk ((Only.refl B w).drewN nq)
  obtain ⟨W2, hW2⟩ : ∃ W2, w.drewN nq = W2 := ⟨_, rfl⟩
  rw [hW2] at H2 O2 ⊢
  have d1 : W2.cell? ⟨B, s * 2 + 1, none⟩ = some (.int .u32 x) := by rw [← hW2]; exact c1 nq
  have fz2 : ∀ i, W2.frozen? ⟨B, i, none⟩ = false := fun i => H2.out.fz i
  have H3 := Aside0.mk (H2.out.setN s hs v)
  have O3 := Aside0.mk (O2.out.setCell (s * 2 + 1) (.int .u32 v))
  clear hW2 c1 c0 fz H HF
  by_cases hc : 4294967295 - x < n
  · have HV2 := Aside0.mk (show x + (4294967295 - x) = v by rw [← HV.out, if_pos hc])
    clear HV
    go_region
    all_goals go_wp2
    all_goals go_ret
    all_goals rw [HV2.out]
    all_goals exact ⟨rfl, H3.out, O3.out.drew⟩
  · have HV2 := Aside0.mk (show x + n = v by rw [← HV.out, if_neg hc])
    clear HV
    go_region
    all_goals go_wp2
    all_goals go_ret
    all_goals rw [HV2.out]
    all_goals exact ⟨rfl, H3.out, O3.out.drew⟩

end Go.Proofs.Ytbphciahojjnpaa
