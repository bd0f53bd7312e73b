/- The statement ConsoleReads. -/
import Derived.Test.YtonfblfbmnepoaaConRight
import Derived.Deep.RegionWith
namespace Go.Proofs.Ytonfblfbmnepoaa
open Go Go.RowKit Go.Proofs.YtonfblfbmnepoaaW.PrintWords
set_option linter.unusedVariables false
set_option linter.unusedSimpArgs false

theorem upL_run (len : Nat) (f : Nat → Nat → Int) (t : Int) : ∀ (d c : Nat) (q : List Int), len - c = d → c ≤ len → ∃ m, c + m ≤ len ∧ (∀ j, c ≤ j → j < c + m → f j 0 ≤ t) ∧ (c + m < len → t < f (c + m) 0) ∧ (q.length + m ≤ 16 → upL t ((arrs len f).drop c) (c, q, false) = (c + m, q ++ (List.range' c m).map (fun j => f j 1), false)) := by
  intro d
  induction d with
  | zero =>
    intro c q hd hc
    refine ⟨0, by omega, fun j h1 h2 => by omega, fun h => by omega, fun _ => ?_⟩
    rw [List.drop_of_length_le (by rw [arrs_length]; omega)]
    simp [upL]
  | succ d ih =>
    intro c q hd hc
    have hlt : c < (arrs len f).length := by rw [arrs_length]; omega
    have hg : (arrs len f)[c] = (f c 0, f c 1) := by
      have := arrs_at (len := len) (f := f) (i := c) (by omega)
      rw [List.getElem?_eq_getElem hlt] at this
      exact Option.some.inj this
    have hdr : (arrs len f).drop c = (f c 0, f c 1) :: (arrs len f).drop (c + 1) := by rw [List.drop_eq_getElem_cons hlt, hg]
    by_cases ht : f c 0 ≤ t
    · obtain ⟨m, h1, h2, h3, h4⟩ := ih (c + 1) (q ++ [f c 1]) (by omega) (by omega)
      refine ⟨m + 1, by omega, fun j h5 h6 => ?_, fun h => ?_, fun hq => ?_⟩
      · rcases Nat.lt_or_eq_of_le h5 with h | h
        · exact h2 j h (by omega)
        · subst h; exact ht
      · rw [show c + (m + 1) = c + 1 + m by omega] at h ⊢; exact h3 h
      · have hq16 : q.length < 16 := by omega
        rw [hdr]
        simp only [upL, if_pos ht, qpush, if_pos hq16, decide_eq_true hq16, Bool.not_true, Bool.or_false]
        rw [h4 (by simp; omega)]
        rw [List.range'_succ, List.map_cons, List.append_assoc, List.singleton_append, show c + 1 + m = c + (m + 1) by omega]
    · refine ⟨0, by omega, fun j h1 h2 => by omega, fun _ => by simpa using ht, fun _ => ?_⟩
      rw [hdr]
      simp [upL, ht]

theorem aord_le {len : Nat} {f : Nat → Nat → Int} (h : aord (arrs len f) len) : ∀ d i, i + d < len → f i 0 ≤ f (i + d) 0 := by
  intro d
  induction d with
  | zero => intro i _; exact Int.le_refl _
  | succ d ih =>
    intro i hi
    have h1 := h (i + d) _ _ (by omega) (arrs_at (len := len) (f := f) (i := i + d) (by omega)) (arrs_at (len := len) (f := f) (i := i + d + 1) (by omega))
    have := ih i (by omega)
    rw [show i + (d + 1) = i + d + 1 by omega]
    simp at h1
    omega

set_option maxHeartbeats 4000000 in
set_option maxRecDepth 100000 in
theorem con_reads (A : Option Addr) (len cap : Nat) (f : Nat → Nat → Int) (W : World) (hf : IsRows [.u64, .u8] W A len cap f) :
    Calls Try.prog 7 #[.slice A len cap] W fun e w' => e = .returned (.bool true) ∧ Below W.heap.size W w' := by
  have hcap := hf.le
  obtain ⟨r, hr, hR⟩ := rright_calls W hf
  have HR := Aside0.mk hR
  have HF := Aside0.mk hf
  clear hR hf
  by_cases hl : 256 < len
  · have hl' : ((256 : Int) < (len : Int)) = True := by simp; omega
    go_enter Try.func7, Try.ntmps7
    have B0 := Aside0.mk ((Below.refl W.heap.size W))
    go_wp2_with fail
    refine (con_awake_calls _).mono ?_
    rintro e w1 ⟨rfl, d⟩
    have B1 := Aside0.mk (below_on B0.out d)
    clear d B0
    go_wp2_with fail
    go_ret
    exact ⟨rfl, B1.out⟩
  have hl' : ((256 : Int) < (len : Int)) = False := by simp; omega
  by_cases hr0 : r = 0
  · subst hr0
    obtain ⟨hl2, hs⟩ : len ≤ 256 ∧ aord (arrs len f) len := by
      rcases hr with ⟨_, h⟩ | ⟨h, _⟩ | ⟨h, _⟩
      · exact h
      · omega
      · omega
    have al := arrs_length len f
    have HNEW : Aside0 (∀ w, Below W.heap.size W w → Calls _ _ #[.slice A len cap] w _) := ⟨fun w hw => by
        have := kc_new W w hw A cap (arrs len f) (fun i p hp => ((rows_AR HF.out).below hw) i p hp) (rows_nil HF.out) (rows_wa HF.out) (by rw [al]; exact hl2) (by rw [al]; exact hs)
        rw [al] at this
        exact this⟩
    have HS := Aside0.mk (aord_le hs)
    clear hs hr
    go_enter Try.func7, Try.ntmps7
    have B2 := Aside0.mk ((Below.refl W.heap.size W))
    go_wp2_with fail
    refine (HR.out).mono ?_
    rintro e w2 ⟨rfl, d⟩
    have B3 := Aside0.mk (drawn_below' B2.out d)
    clear d B2
    go_wp2_with fail
    go_loopg [3] (len + 1) (fun g i wr => ∃ k : Nat, g + k = len + 17 ∧ 16 ≤ k ∧ i = .int .i64 (k : Int) ∧ Aside0 (Below W.heap.size W wr) ∧ Aside0 (∀ j : Nat, j + 16 < k → j + 16 < len → f j 0 ≠ f (j + 16) 0))
    case atStart => exact ⟨16, by omega, by omega, rfl, ⟨B3.out⟩, ⟨fun j h => by omega⟩⟩
    case round =>
      obtain ⟨k, hk, hk16, rfl, hb, hgap⟩ := hrel
      obtain ⟨wo, rfl⟩ : ∃ wo : World, wo = wr := ⟨_, rfl⟩
      by_cases hlt : k < len
      · have hlt' : ((k : Int) < (len : Int)) = True := by simp; omega
        obtain ⟨j, rfl⟩ : ∃ j, k = j + 16 := ⟨k - 16, by omega⟩
        obtain ⟨x, hx, hc⟩ := HF.out.at_ hlt
        obtain ⟨x', hx', hc'⟩ := HF.out.at_ (show j < len by omega)
        subst hx
        cases hx'
        have q1 : ∀ n, (wo.drewN n).cell? (x.add ((j + 16) * 2)) = some (.int .u64 (f (j + 16) 0)) := fun n => pw_cell_below (pw_below_drewN hb.out n) (hc 0 .u64 rfl).1
        have q0 : ∀ n, (wo.drewN n).cell? (x.add (j * 2)) = some (.int .u64 (f j 0)) := fun n => pw_cell_below (pw_below_drewN hb.out n) (hc' 0 .u64 rfl).1
        have p1 := q1 0
        have p0 := q0 0
        change wo.cell? _ = _ at p1
        change wo.cell? _ = _ at p0
        clear hc hc'
        by_cases he : f (j + 16) 0 = f j 0
        · have he' : (f (j + 16) 0 == f j 0) = true := beq_iff_eq.2 he
          clear he
          go_wp2_with fail
          go_quiet (fail)
          have B1 := Aside0.mk (pw_below_drewN hb.out nq)
          go_wp2_with fail
          refine (con_awake_calls _).mono ?_
          rintro e v1 ⟨rfl, b1⟩
          have B2 := Aside0.mk (below_on B1.out b1)
          clear b1
          go_wp2_with fail
          go_ret
          exact ⟨rfl, B2.out⟩
        · have he' : (f (j + 16) 0 == f j 0) = false := beq_eq_false_iff_ne.2 he
          have HG : Aside0 (∀ i : Nat, i + 16 < j + 17 → i + 16 < len → f i 0 ≠ f (i + 16) 0) := ⟨fun i h1 h2 => by
            rcases Nat.lt_or_eq_of_le (Nat.le_of_lt_succ h1) with h | h
            · exact hgap.out i h h2
            · have : i = j := by omega
              subst this; exact fun h => he h.symm⟩
          clear he
          go_wp2_with fail
          go_quiet (fail)
          have B1 := Aside0.mk (pw_below_drewN hb.out nq)
          go_wp2_with fail
          go_roundg (gk - 1)
          case measure => omega
          case rel => exact ⟨j + 17, by omega, by omega, by congr 1, B1, HG⟩
      · have hlt' : ((k : Int) < (len : Int)) = False := by simp; omega
        have HG : Aside0 (∀ j : Nat, j + 16 < len → f j 0 ≠ f (j + 16) 0) := ⟨fun j h => hgap.out j (by omega) h⟩
        clear hgap
        go_wp2_with fail
        refine (HNEW.out _ hb.out).mono ?_
        rintro e v1 ⟨C, X, rfl, k1, _, _⟩
        have K1 := Aside0.mk k1
        clear k1 hb HNEW
        go_wp2_with fail
        go_loopg [6, 7] (len + 1) (fun g nn i wr => ∃ k c : Nat, g + k = len + 1 ∧ k ≤ c ∧ c ≤ len ∧ nn = .int .i64 (c : Int) ∧ i = .int .i64 (k : Int) ∧ Aside0 (KC W wr X C (arrs len f) c [] false []))
        case atStart => exact ⟨0, 0, by omega, by omega, by omega, rfl, rfl, K1⟩
        case round =>
          obtain ⟨k2, c, hk2, hkc, hcl, rfl, rfl, hK⟩ := hrel
          obtain ⟨wp, rfl⟩ : ∃ wp : World, wp = wr := ⟨_, rfl⟩
          obtain ⟨g2, hg2⟩ : ∃ g2 : Nat, g2 = gk := ⟨gk, rfl⟩
          by_cases hlt2 : k2 < len
          · have hlt2' : ((k2 : Int) < (len : Int)) = True := by simp; omega
            obtain ⟨x, hx, hc⟩ := HF.out.at_ hlt2
            subst hx
            have p1 : wp.cell? (x.add (k2 * 2)) = some (.int .u64 (f k2 0)) := pw_cell_below hK.out.bel (hc 0 .u64 rfl).1
            have ht := (rows_wf HF.out hlt2).1
            obtain ⟨m, h1, h2, h3, h4⟩ := upL_run len f (f k2 0) (len - c) c [] rfl hcl
            have hm : m ≤ 16 := by
              rcases Nat.lt_or_ge 16 m with h | h
              · have g1 := h2 (c + 16) (by omega) (by omega)
                have g2 := HS.out (c - k2) k2 (by omega)
                have g3 := HS.out 16 c (by omega)
                have g4 := HG.out c (by omega)
                rw [show k2 + (c - k2) = c by omega] at g2
                omega
              · exact h
            have hpr : k2 < c + m := by
              rcases Nat.lt_or_eq_of_le hkc with h | h
              · omega
              · subst h
                rcases Nat.eq_zero_or_pos m with hm0 | hm0
                · subst hm0
                  have := h3 (by omega)
                  simp at this
                · omega
            have hU := h4 (by simp; omega)
            rw [List.nil_append] at hU
            have HUP := Aside0.mk (kc_up (f k2 0) ht.1 ht.2 hK.out)
            rw [hU] at HUP
            obtain ⟨e, hce⟩ : ∃ e, c + m = e := ⟨_, rfl⟩
            rw [hce] at HUP hpr h1
            clear hc h2 h3 h4 hU hK
            generalize f k2 0 = tk at p1 HUP
            go_wp2_with fail
            refine HUP.out.mono ?_
            rintro e' v2 ⟨rfl, k2', _⟩
            have K2 := Aside0.mk k2'
            clear k2' HUP p1 ht
            go_wp2_with fail
            go_loopg [6, 8] 21 (fun g nn kk wr => ∃ a p d : Nat, g + a = 21 ∧ c + a = p ∧ p + d = e ∧ nn = .int .i64 (p : Int) ∧ kk = .int .i64 (a : Int) ∧ Aside0 (KC W wr X C (arrs len f) e ((List.range' p d).map (fun j => f j 1)) false []))
            case atStart => exact ⟨0, c, m, by omega, by omega, by omega, rfl, rfl, K2⟩
            case round =>
              obtain ⟨a, p, d, hga, hcp, hpd, rfl, rfl, hK3⟩ := hrel
              obtain ⟨wq, rfl⟩ : ∃ wq : World, wq = wr := ⟨_, rfl⟩
              have ha20 : ((a : Int) < 20) = True := by simp; omega
              cases d with
              | zero =>
                have HRD := Aside0.mk (kc_ready hK3.out)
                rw [show decide (0 < ((List.range' p 0).map (fun j => f j 1)).length) = false from rfl] at HRD
                go_wp2_with fail
                refine HRD.out.mono ?_
                rintro e' v3 ⟨rfl, d3⟩
                obtain rfl : p = e := by omega
                have K3 : Aside0 (KC W v3 X C (arrs len f) p [] false []) := ⟨hK3.out.drawn d3⟩
                clear d3 HRD hK3
                go_wp2_with fail
                go_roundg (g2 - 1)
                case measure => omega
                case rel => exact ⟨k2 + 1, p, by omega, by omega, by omega, rfl, by congr 1, K3⟩
              | succ d =>
                have hpl : p < len := by omega
                have HRD := Aside0.mk (kc_ready hK3.out)
                rw [show decide (0 < ((List.range' p (d + 1)).map (fun j => f j 1)).length) = true from by simp] at HRD
                obtain ⟨y, hy, hcy⟩ := HF.out.at_ hpl
                cases hy
                have hw := (rows_wf HF.out hpl).2
                go_wp2_with fail
                refine HRD.out.mono ?_
                rintro e' v3 ⟨rfl, d3⟩
                have K3 := Aside0.mk (hK3.out.drawn d3)
                clear d3 HRD hK3
                have HRR := Aside0.mk (kc_read0 K3.out)
                rw [show ((List.range' p (d + 1)).map (fun j => f j 1)).headD 0 = f p 1 from by simp [List.range'_succ], show ((List.range' p (d + 1)).map (fun j => f j 1)).tail = (List.range' (p + 1) d).map (fun j => f j 1) from by simp [List.range'_succ]] at HRR
                clear K3
                go_wp2_with fail
                refine HRR.out.mono ?_
                rintro e' v4 ⟨rfl, k4, _⟩
                have K4 := Aside0.mk k4
                have c1 : v4.cell? ⟨(x.add (p * 2)).block, (x.add (p * 2)).off + 1, none⟩ = some (.int .u8 (f p 1)) := by rw [← add_field _ _ 1 (by omega)]; exact pw_cell_below K4.out.bel (hcy 1 .u8 rfl).1
                have hpl' : ((len : Int) ≤ (p : Int)) = False := by simp; omega
                clear k4 HRR hcy
                generalize f p 1 = z at hw c1
                go_wp2_with fail
                go_roundg (gk - 1)
                case measure => omega
                case rel => exact ⟨a + 1, p + 1, d, by omega, by omega, by omega, by congr 1, by congr 1, K4⟩
          · have hlt2' : ((k2 : Int) < (len : Int)) = False := by simp; omega
            obtain rfl : c = len := by omega
            have HN := Aside0.mk (kc_next hK.out)
            rw [show decide (c < (arrs c f).length) = false from by rw [al]; simp, List.getD_eq_getElem?_getD, List.getElem?_eq_none (by rw [al]; exact Nat.le_refl _)] at HN
            go_wp2_with fail
            refine HN.out.mono ?_
            rintro e v2 ⟨rfl, d2⟩
            have K2 := Aside0.mk (hK.out.drawn d2)
            clear d2 HN hK
            go_wp2_with fail
            refine (kc_over K2.out).mono ?_
            rintro e v3 ⟨rfl, d3⟩
            have B3 := Aside0.mk (drawn_below' K2.out.bel d3)
            clear d3 K2
            go_wp2_with fail
            refine (con_awake_calls _).mono ?_
            rintro e v4 ⟨rfl, b4⟩
            have B4 := Aside0.mk (below_on B3.out b4)
            clear b4
            go_wp2_with fail
            go_ret
            exact ⟨by simp, B4.out⟩
  · have hr1 : (r == 0) = false := beq_eq_false_iff_ne.2 hr0
    have hr2 : (r != 0) = true := by simp [hr0]
    have hr3 : (r = 0) = False := by simp [hr0]
    clear hr hr0
    go_enter Try.func7, Try.ntmps7
    have B4 := Aside0.mk ((Below.refl W.heap.size W))
    go_wp2_with fail
    refine (HR.out).mono ?_
    rintro e w3 ⟨rfl, d⟩
    have B5 := Aside0.mk (drawn_below' B4.out d)
    clear d B4
    go_wp2_with fail
    refine (con_awake_calls _).mono ?_
    rintro e w4 ⟨rfl, d⟩
    have B6 := Aside0.mk (below_on B5.out d)
    clear d B5
    go_wp2_with fail
    go_ret
    exact ⟨rfl, B6.out⟩
end Go.Proofs.Ytonfblfbmnepoaa
