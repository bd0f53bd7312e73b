/- The statement ConsoleAtOnce. -/
import Derived.Test.YtonfblfbmnepoaaConRight
import Derived.Deep.RegionWith
namespace Go.Proofs.Ytonfblfbmnepoaa
open Go Go.RowKit Go.Proofs.YtonfblfbmnepoaaW.PrintWords
set_option linter.unusedVariables false
set_option linter.unusedSimpArgs false

theorem upL_twice {a b : Int} (h : a ≤ b) : ∀ (l : List (Int × Int)) (c : Nat) (q : List Int) (o : Bool), c ≤ (upL a l (c, q, o)).1 ∧ upL b (l.drop ((upL a l (c, q, o)).1 - c)) (upL a l (c, q, o)) = upL b l (c, q, o) := by
  intro l
  induction l with
  | nil => intro c q o; exact ⟨Nat.le_refl _, by simp [upL]⟩
  | cons p r ih =>
    intro c q o
    by_cases hp : p.1 ≤ a
    · have hb : p.1 ≤ b := by omega
      simp only [upL, if_pos hp, if_pos hb]
      obtain ⟨h1, h2⟩ := ih (c + 1) (qpush q p.2) (o || !decide (q.length < 16))
      refine ⟨by omega, ?_⟩
      rw [show (upL a r (c + 1, qpush q p.2, o || !decide (q.length < 16))).1 - c = (upL a r (c + 1, qpush q p.2, o || !decide (q.length < 16))).1 - (c + 1) + 1 by omega, List.drop_succ_cons]
      exact h2
    · simp only [upL, if_neg hp]
      exact ⟨Nat.le_refl _, by simp [upL]⟩

set_option maxHeartbeats 4000000 in
set_option maxRecDepth 100000 in
theorem con_at_once (A : Option Addr) (len cap : Nat) (f : Nat → Nat → Int) (a b : Int) (W : World) (hf : IsRows [.u64, .u8] W A len cap f) (ha : (Lit.int .u64 a).wf = true) (hb : (Lit.int .u64 b).wf = true) :
    Calls Try.prog 8 #[.slice A len cap, .int .u64 a, .int .u64 b] W fun e w' => e = .returned (.bool true) ∧ Below W.heap.size W w' := by
  have a0 : 0 ≤ a ∧ a < 18446744073709551616 := by simp [Lit.wf, IntKind.min, IntKind.max, IntKind.bits, IntKind.signed] at ha; omega
  have b0 : 0 ≤ b ∧ b < 18446744073709551616 := by simp [Lit.wf, IntKind.min, IntKind.max, IntKind.bits, IntKind.signed] at hb; omega
  have hcap := hf.le
  obtain ⟨r, hr, hR⟩ := rright_calls W hf
  have HR := Aside0.mk hR
  have HF := Aside0.mk hf
  clear hR hf ha hb
  by_cases hl : 300 < len
  · have hl' : ((300 : Int) < (len : Int)) = True := by simp; omega
    go_enter Try.func8, Try.ntmps8
    have B0 := Aside0.mk ((Below.refl W.heap.size W))
    go_wp2_with fail
    refine (con_awake_calls _).mono ?_
    rintro e w1 ⟨rfl, d⟩
    have B1 := Aside0.mk (below_on B0.out d)
    clear d B0
    go_wp2_with fail
    go_ret
    exact ⟨rfl, B1.out⟩
  have hl' : ((300 : Int) < (len : Int)) = False := by simp; omega
  by_cases hr0 : r = 0
  · subst hr0
    obtain ⟨hl2, hs⟩ : len ≤ 256 ∧ aord (arrs len f) len := by
      rcases hr with ⟨_, h⟩ | ⟨h, _⟩ | ⟨h, _⟩
      · exact h
      · omega
      · omega
    by_cases hab : b < a
    · have hab' : (b < a) = True := by simp [hab]
      go_enter Try.func8, Try.ntmps8
      have B2 := Aside0.mk ((Below.refl W.heap.size W))
      go_wp2_with fail
      refine (HR.out).mono ?_
      rintro e w2 ⟨rfl, d⟩
      have B3 := Aside0.mk (drawn_below' B2.out d)
      clear d B2
      go_wp2_with fail
      refine (con_awake_calls _).mono ?_
      rintro e w3 ⟨rfl, d⟩
      have B4 := Aside0.mk (below_on B3.out d)
      clear d B3
      go_wp2_with fail
      go_ret
      exact ⟨rfl, B4.out⟩
    · have hab' : (b < a) = False := by simp [hab]
      have al := arrs_length len f
      have hnew : ∀ w, Below W.heap.size W w → Aside0 (Calls _ _ #[.slice A len cap] w _) := fun w hw => ⟨by
        have := kc_new W w hw A cap (arrs len f) (fun i p hp => ((rows_AR HF.out).below hw) i p hp) (rows_nil HF.out) (rows_wa HF.out) (by rw [al]; exact hl2) (by rw [al]; exact hs)
        rw [al] at this
        exact this⟩
      obtain ⟨l, hL⟩ : ∃ l, arrs len f = l := ⟨_, rfl⟩
      rw [hL] at hnew
      have HU := Aside0.mk ((upL_twice (a := a) (b := b) (by omega) l 0 [] false).2)
      clear hs hL al hr
      go_enter Try.func8, Try.ntmps8
      have B5 := Aside0.mk ((Below.refl W.heap.size W))
      go_wp2_with fail
      refine (HR.out).mono ?_
      rintro e w4 ⟨rfl, d⟩
      have B6 := Aside0.mk (drawn_below' B5.out d)
      clear d B5
      go_wp2_with fail
      refine (hnew _ B6.out).out.mono ?_
      rintro e v1 ⟨C1, X1, rfl, k1, x1, b1⟩
      have K1 := Aside0.mk k1
      clear k1 b1
      go_wp2_with fail
      refine (hnew _ K1.out.bel).out.mono ?_
      rintro e v2 ⟨C2, X2, rfl, k2, x2, b2⟩
      have HX := Aside0.mk (show ∀ i, X2 i → ¬ X1 i from fun i h2 h1 => by have := x2 i h2; have := K1.out.xlt i h1; omega)
      have K1b := Aside0.mk (K1.out.below b2)
      have K2 := Aside0.mk k2
      clear k2 b2 x1 x2 K1 hnew
      go_wp2_with fail
      refine (kc_up a a0.1 a0.2 K1b.out).mono ?_
      rintro e v3 ⟨rfl, k1, o1⟩
      have K1 := Aside0.mk k1
      have K2b := Aside0.mk (K2.out.move o1 HX.out K1b.out.2.1)
      clear k1 o1 K1b K2
      go_wp2_with fail
      refine (kc_up b b0.1 b0.2 K1.out).mono ?_
      rintro e v4 ⟨rfl, k1, o1⟩
      have K1b := Aside0.mk k1
      have K2 := Aside0.mk (K2b.out.move o1 HX.out K1.out.2.1)
      clear k1 o1 K1 K2b
      go_wp2_with fail
      refine (kc_up b b0.1 b0.2 K2.out).mono ?_
      rintro e v5 ⟨rfl, k2, o2⟩
      have K2b := Aside0.mk k2
      have K1 := Aside0.mk (K1b.out.move o2 (fun i h1 h2 => HX.out i h2 h1) K2.out.2.1)
      clear k2 o2 K1b K2
      have hu := HU.out
      have k1 := K1.out
      have k2 := K2b.out
      simp only [List.drop_zero, Nat.sub_zero] at k1 k2 hu
      have e3 : ((upL a l (0, [], false)).1, (upL a l (0, [], false)).2.1, (upL a l (0, [], false)).2.2) = upL a l (0, [], false) := rfl
      rw [e3, hu] at k1
      obtain ⟨R, hRR⟩ : ∃ R, upL b l (0, [], false) = R := ⟨_, rfl⟩
      rw [hRR] at k1 k2
      obtain ⟨n0, q0, o0⟩ := R
      have K3 : Aside0 (KC W v5 X1 C1 l n0 q0 o0 []) := ⟨k1⟩
      have K4 : Aside0 (KC W v5 X2 C2 l n0 q0 o0 []) := ⟨k2⟩
      have hq := K3.out.q16
      clear k1 k2 hu e3 hRR K1 K2b HU
      go_wp2_with fail
      refine (kc_waits K3.out).mono ?_
      rintro e v6 ⟨⟨A1, c1, rfl, hc1, hC1⟩, b6⟩
      have K5 := Aside0.mk (K3.out.below b6)
      have K6 := Aside0.mk (K4.out.below b6)
      have HC1 := Aside0.mk hC1
      clear b6 hC1 K3 K4
      go_wp2_with fail
      refine (kc_waits K6.out).mono ?_
      rintro e v7 ⟨⟨A2, c2, rfl, hc2, hC2⟩, b7⟩
      have K7 := Aside0.mk (K5.out.below b7)
      have K8 := Aside0.mk (K6.out.below b7)
      have HS := Aside0.mk (PConsolePlays.mimesisref01_SameBytes.calls _ A1 c1 q0 A2 c2 q0 true v7 (Kd.C_below HC1.out b7) hc1 hC2 hc2 (con_same_self _ (by omega)))
      clear b7 hC2 HC1 K5 K6
      go_wp2_with fail
      refine HS.out.mono ?_
      rintro e v8 ⟨rfl, d8⟩
      have K9 := Aside0.mk (K7.out.drawn d8)
      have K10 := Aside0.mk (K8.out.drawn d8)
      clear d8 K7 K8 HS
      go_wp2_with fail
      refine (kc_over K9.out).mono ?_
      rintro e v9 ⟨rfl, d9⟩
      have K11 := Aside0.mk (K9.out.drawn d9)
      have K12 := Aside0.mk (K10.out.drawn d9)
      clear d9 K9 K10
      go_wp2_with fail
      refine (kc_over K12.out).mono ?_
      rintro e v10 ⟨rfl, d9⟩
      have K13 := Aside0.mk (K11.out.drawn d9)
      have K14 := Aside0.mk (K12.out.drawn d9)
      clear d9 K11 K12
      go_wp2_with fail
      refine (kc_came K13.out).mono ?_
      rintro e v11 ⟨rfl, d9⟩
      have K15 := Aside0.mk (K13.out.drawn d9)
      have K16 := Aside0.mk (K14.out.drawn d9)
      clear d9 K13 K14
      go_wp2_with fail
      refine (kc_came K16.out).mono ?_
      rintro e v12 ⟨rfl, d9⟩
      have K17 := Aside0.mk (K15.out.drawn d9)
      clear d9 K15 K16
      go_wp2_with fail
      refine (con_awake_calls _).mono ?_
      rintro e v13 ⟨rfl, b13⟩
      have B13 := Aside0.mk (below_on K17.out.bel b13)
      clear b13 K17
      go_wp2_with fail
      go_ret
      exact ⟨by simp, B13.out⟩
  · have hr1 : (r == 0) = false := beq_eq_false_iff_ne.2 hr0
    have hr2 : (r != 0) = true := by simp [hr0]
    have hr3 : (r = 0) = False := by simp [hr0]
    clear hr hr0
    go_enter Try.func8, Try.ntmps8
    have B7 := Aside0.mk ((Below.refl W.heap.size W))
    go_wp2_with fail
    refine (HR.out).mono ?_
    rintro e w5 ⟨rfl, d⟩
    have B8 := Aside0.mk (drawn_below' B7.out d)
    clear d B7
    go_wp2_with fail
    refine (con_awake_calls _).mono ?_
    rintro e w6 ⟨rfl, d⟩
    have B9 := Aside0.mk (below_on B8.out d)
    clear d B8
    go_wp2_with fail
    go_ret
    exact ⟨rfl, B9.out⟩
end Go.Proofs.Ytonfblfbmnepoaa
