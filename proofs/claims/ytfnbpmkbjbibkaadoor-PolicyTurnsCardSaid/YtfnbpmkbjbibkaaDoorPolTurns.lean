/- The statement PolicyTurns. -/
import Derived.Test.YtfnbpmkbjbibkaaDoorPolAwake
namespace Go.Proofs.YtfnbpmkbjbibkaaDoor
open Go Go.RowKit Go.Deep Go.Proofs.YtfnbpmkbjbibkaaDoor.QPolicyTurns Go.Proofs.YtfnbpmkbjbibkaaDoorW.PrintWords
set_option linter.unusedVariables false
set_option linter.unusedSimpArgs false

theorem drawn_trans' {a b : World} (h : Drawn0 a b) (m : Nat) : Drawn0 a (b.drewN m) := by
  obtain ⟨⟨n, rfl⟩⟩ := h
  exact ⟨⟨n + m, by rw [World.drewN_drewN]⟩⟩
theorem turns_all : (List.range 255).all (fun n => decide (policy_Turns.f 20 ((n + 1 : Nat) : Int) = mimesisref37_Turns.f 20 ((n + 1 : Nat) : Int)) && (policy_Turns.f 20 ((n + 1 : Nat) : Int)).isSome && decide (((policy_Turns.f 20 ((n + 1 : Nat) : Int)).getD []).length ≤ 100)) = true := by kernel_rfl
theorem turns_same (a : Int) : ∃ r, policy_Turns.f 20 a = some r ∧ mimesisref37_Turns.f 20 a = some r ∧ r.length ≤ 100 := by
  by_cases h : 1 ≤ a ∧ a ≤ 255
  · obtain ⟨n, rfl⟩ : ∃ n : Nat, a = ((n + 1 : Nat) : Int) := ⟨(a - 1).toNat, by omega⟩
    have := List.all_eq_true.1 turns_all n (List.mem_range.2 (by omega))
    simp only [Bool.and_eq_true, decide_eq_true_eq] at this
    obtain ⟨⟨h1, h2⟩, h3⟩ := this
    obtain ⟨r, hr⟩ := Option.isSome_iff_exists.1 h2
    rw [hr] at h1 h3
    exact ⟨r, hr, h1.symm, h3⟩
  · refine ⟨[], ?_, ?_, by simp⟩
    · have h1 : policy_Right.f 20 2 a = some false := by
        unfold policy_Right.f
        rw [show policy_span.f 20 2 = some (1, 255) from rfl, Option.bind_some]
        by_cases h2 : a ≥ 1
        · rw [if_pos h2]
          have : ¬ a ≤ 255 := by omega
          simp [this]
        · rw [if_neg h2]
      unfold policy_Turns.f
      rw [h1, Option.bind_some, if_neg (by simp)]
    · unfold mimesisref37_Turns.f
      rw [Option.bind_some]
      have hj : mimesisref37_Turns.j0 20 a [] true = some [] := rfl
      by_cases h2 : a < 1
      · rw [if_pos h2]; exact hj
      · rw [if_neg h2, decide_eq_true (by omega)]; exact hj

set_option maxRecDepth 100000 in
set_option maxHeartbeats 1000000 in
theorem pol_turns (a : Int) (W : World) (_h : (Lit.int .i64 a).wf = true) (hw : Words W) : Calls Tryd.prog 7 #[.int .i64 a] W fun e w' => e = .returned (.bool true) ∧ Below W.heap.size W w' := by
  obtain ⟨r, h1, h2, h3⟩ := turns_same a
  have HW := Aside0.mk hw
  have H1 := Aside0.mk h1
  have H2 := Aside0.mk h2
  clear h1 h2 hw
  go_enter Tryd.func7, Tryd.ntmps7
  go_wp2_with fail
  refine (policy_Turns.calls 20 a r W H1.out).mono ?_
  rintro e w1 ⟨v1, rfl, hR1, b1⟩
  obtain ⟨A1, c1, rfl, hc1, hC1⟩ := Kd.R_reads hR1
  have B1 := Aside0.mk b1
  have K1 := Aside0.mk hC1
  clear hR1 hC1 b1 H1
  go_wp2_with fail
  refine (mimesisref37_Turns.calls 20 a r w1 H2.out).mono ?_
  rintro e w2 ⟨v2, rfl, hR2, b2⟩
  obtain ⟨A2, c2, rfl, hc2, hC2⟩ := Kd.R_reads hR2
  have B2 := Aside0.mk (below_on B1.out b2)
  have K1' := Aside0.mk (Kd.C_below K1.out b2)
  have K2 := Aside0.mk hC2
  clear hR2 hC2 b2 H2 K1 B1
  obtain ⟨n, hn⟩ : ∃ n, r.length = n := ⟨_, rfl⟩
  rw [hn] at K1' K2 hc1 hc2 h3 ⊢
  go_wp2_with fail
  go_loopg [5] (n + 1) (fun g i wr => ∃ k : Nat, g + k = n + 1 ∧ k ≤ n ∧ i = .int .i64 (k : Int) ∧ Aside0 (Drawn0 w2 wr))
  case atStart => exact ⟨0, rfl, by omega, rfl, ⟨Drawn0.refl _⟩⟩
  case round =>
    obtain ⟨k, hk, hkn, rfl, hD⟩ := hrel
    obtain ⟨wo, rfl⟩ : ∃ wo : World, wo = wr := ⟨_, rfl⟩
    by_cases hlt : k < n
    · have hlt' : ((k : Int) < (n : Int)) = True := by simp; omega
      obtain ⟨a1, e1, q1⟩ := Kd.at_bool K1'.out (k : Int) (by omega) (by omega)
      obtain ⟨a2, e2, q2⟩ := Kd.at_bool K2.out (k : Int) (by omega) (by omega)
      subst e1 e2
      rw [Int.toNat_natCast] at q1 q2
      have p1 : ∀ m, (wo.drewN m).cell? (a1.add k) = some (.bool (rdOf false r (k : Int))) := fun m => pw_cell_below (drawn_trans' hD.out m).below q1
      have p2 : ∀ m, (wo.drewN m).cell? (a2.add k) = some (.bool (rdOf false r (k : Int))) := fun m => pw_cell_below (drawn_trans' hD.out m).below q2
      have s1 : wo.cell? (a1.add k) = some (.bool (rdOf false r (k : Int))) := p1 0
      have s2 : wo.cell? (a2.add k) = some (.bool (rdOf false r (k : Int))) := p2 0
      clear q1 q2
      generalize rdOf false r (k : Int) = b at p1 p2 s1 s2
      have hbb : (b != b) = false := by simp
      go_wp2_with fail
      go_quiet (fail)
      have D1 := Aside0.mk (drawn_trans' hD.out nq)
      go_wp2_with fail
      go_roundg (gk - 1)
      case measure => omega
      case rel => exact ⟨k + 1, by omega, by omega, by congr 1, D1⟩
    · have hlt' : ((k : Int) < (n : Int)) = False := by simp; omega
      have BB := Aside0.mk (drawn_below' B2.out hD.out)
      go_wp2_with fail
      refine (pol_awake_calls _ (HW.out.below BB.out)).mono ?_
      rintro e w5 ⟨rfl, b5⟩
      have B5 := Aside0.mk (below_on BB.out b5)
      clear b5
      go_wp2_with fail
      go_ret
      exact ⟨rfl, B5.out⟩
end Go.Proofs.YtfnbpmkbjbibkaaDoor
