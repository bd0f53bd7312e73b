/- The walk of FifoPlays. -/
import Derived.Test.YtcbgphopememgaaFifoClones
import Derived.Test.YtcbgphopememgaaRefFifo
namespace Go.Proofs.Ytcbgphopememgaa
open Go Go.RowKit Go.Deep Go.Proofs.YtcbgphopememgaaW.PrintWords Go.Proofs.Ytcbgphopememgaa.FifoPlain Go.Proofs.Ytcbgphopememgaa.PFifoClones
set_option linter.unusedVariables false
set_option linter.unusedSimpArgs false

set_option maxHeartbeats 1000000 in
set_option maxRecDepth 100000 in
theorem fplays_long (A : Option Addr) (len cap : Nat) (W : World) (h : 500 < len) : Calls Try.prog 8 #[.slice A len cap] W fun e w' => e = .returned (.bool true) ∧ Below W.heap.size W w' := by
  have B0 := Aside0.mk (Below.refl W.heap.size W)
  go_enter Try.func8, Try.ntmps8
  go_wp2_with fail
  refine (fifo_awake _).mono ?_
  rintro e w1 ⟨rfl, d⟩
  have B1 := Aside0.mk (below_on B0.out d)
  clear d B0
  go_wp2_with fail
  go_ret
  exact ⟨rfl, B1.out⟩

set_option maxHeartbeats 1000000 in
set_option maxRecDepth 100000 in
theorem fplays_short (A0 : Option Addr) (len cap : Nat) (zs : List Int) (W : World) (h : len ≤ 500) (hr : IsRow .u16 W A0 len cap zs) : Calls Try.prog 8 #[.slice A0 len cap] W fun e w' => e = .returned (.bool true) ∧ Below W.heap.size W w' := by
  have hcells : ∀ i, i < len → ∃ x, A0 = some x ∧ W.cell? (x.add i) = some (.int .u16 (zs.getD i 0)) ∧ 0 ≤ zs.getD i 0 ∧ zs.getD i 0 < 65536 := by
    intro i hi
    rcases hr with ⟨_, rfl, _⟩ | ⟨x, rfl, hl, hm, hz, hc, hw⟩
    · omega
    · refine ⟨x, rfl, hc i (by omega), ?_⟩
      rw [List.getD_eq_getElem?_getD, List.getElem?_eq_getElem (by omega)]
      have := hw _ (List.getElem_mem (show i < zs.length by omega))
      simp [Lit.wf, IntKind.min, IntKind.max, IntKind.bits, IntKind.signed] at this
      simp only [Option.getD_some]
      omega
  have HCL := Aside0.mk hcells
  clear hr hcells
  have B0 := Aside0.mk (Below.refl W.heap.size W)
  go_enter Try.func8, Try.ntmps8
  go_wp2_with fail
  refine (new_calls _).mono ?_
  rintro e w1 ⟨rfl, t, d⟩
  have B1 := Aside0.mk (below_on B0.out d)
  have F0 := Aside0.mk t
  clear t d B0
  go_wp2_with fail
  have hFlt := (F0.out).lt
  have F0 : Aside0 (IsF (w1.alloc (.cells #[] 5)) W.heap.size []) := ⟨(F0.out).below (below_alloc (Below.refl _ _) _)⟩
  have V0 : Aside0 (VR (w1.alloc (.cells #[] 5)) (fun k => k = W.heap.size) (some ⟨w1.heap.size, 0, none⟩) 0 []) := ⟨.inr ⟨_, rfl, Nat.le_refl _, fun e => by have : w1.heap.size = W.heap.size := e; omega, fun i p hp => by simp at hp⟩⟩
  have B0' : Aside0 (Below W.heap.size W (w1.alloc (.cells #[] 5))) := ⟨below_alloc B1.out _⟩
  go_loopg [4, 5] len (fun g v i wr => ∃ (k : Nat) (A : Option Addr) (c : Nat) (q : List Int), g + k = len ∧ v = .slice A q.length c ∧ i = .int .i64 (k : Int) ∧ Aside0 (IsF wr W.heap.size q) ∧ Aside0 (VR wr (fun k => k = W.heap.size) A c q) ∧ Aside0 (Below W.heap.size W wr))
  case atStart => exact ⟨0, _, 0, [], rfl, rfl, rfl, F0, V0, B0'⟩
  case round =>
    obtain ⟨k, A, c, q, hk, rfl, rfl, hf, hv, hb⟩ := hrel
    obtain ⟨wo, rfl⟩ : ∃ wo : World, wo = wr := ⟨_, rfl⟩
    by_cases hlt : k < len
    · obtain ⟨x, rfl, hx, z0, z1⟩ := HCL.out k hlt
      have HX := Aside0.mk hx
      have c0 : wo.cell? (x.add k) = some (.int .u16 (zs.getD k 0)) := pw_cell_below hb.out hx
      obtain ⟨z, hz⟩ : ∃ z, zs.getD k 0 = z := ⟨_, rfl⟩
      rw [hz] at c0 z0 z1 HX
      have hltF := hf.out.lt
      clear hz hx
      by_cases h1 : z < 256
      · have n1 : (z == 256) = false := beq_eq_false_iff_ne.2 (by omega)
        have n2 : (z == 257) = false := beq_eq_false_iff_ne.2 (by omega)
        have HP := Aside0.mk (rpush_calls wo (fun k => k = W.heap.size) A c q z hv.out (fun k e => by rw [e]; exact hltF))
        rw [show (if q.length < 16 then q ++ [z] else q) = qpush q z from rfl] at HP
        have HQ := Aside0.mk (fun w (t : IsF w W.heap.size q) => push_calls w W.heap.size q z t)
        obtain ⟨b, hbq⟩ : ∃ b, decide (q.length < 16) = b := ⟨_, rfl⟩
        obtain ⟨q', hq'⟩ : ∃ q', qpush q z = q' := ⟨_, rfl⟩
        rw [hbq, hq'] at HP HQ
        clear hbq hq'
        go_wp2_with fail
        refine HP.out.mono ?_
        rintro e wp ⟨A', c', rfl, hv', d⟩
        have F1 := Aside0.mk (hf.out.below d)
        have V1 := Aside0.mk hv'
        have B1 := Aside0.mk (below_on hb.out d)
        have c1 : wp.cell? (x.add k) = some (.int .u16 z) := pw_cell_below B1.out HX.out
        clear hv' d hf hv hb c0 HP
        go_wp2_with fail
        refine (HQ.out _ F1.out).mono ?_
        rintro e wq ⟨rfl, t, o⟩
        have FF := Aside0.mk t
        have VV := Aside0.mk (V1.out.only o rfl)
        have BB := Aside0.mk (o.below (Nat.le_refl _) B1.out)
        have c2 : wq.cell? (x.add k) = some (.int .u16 z) := pw_cell_below BB.out HX.out
        clear t o F1 V1 B1 c1 HQ
        go_wp2_with fail
        refine (flen_calls _ _ _ FF.out).mono ?_
        rintro e wl ⟨rfl, d⟩
        have FL := Aside0.mk (FF.out.drawn d)
        have VL := Aside0.mk (VV.out.drawn d)
        have BL := Aside0.mk (drawn_below' BB.out d)
        clear d FF VV BB
        go_wp2_with fail
        refine (all_calls _ _ _ FL.out).mono ?_
        rintro e wa ⟨⟨A2, c2, rfl, hc2, hC2⟩, d⟩
        have FA := Aside0.mk (FL.out.below d)
        have VA := Aside0.mk (VL.out.below d)
        have BA := Aside0.mk (below_on BL.out d)
        have hq16 := FA.out.length
        have HS := Aside0.mk (mimesisref01_SameBytes.calls _ A2 c2 q' A' c' q' true wa hC2 hc2 (VA.out.C (by omega)) VA.out.le (same_self _ (by omega)))
        clear d FL VL BL hC2 hc2
        go_wp2_with fail
        refine HS.out.mono ?_
        rintro e ws ⟨rfl, d⟩
        have FS := Aside0.mk (FA.out.drawn d)
        have VS := Aside0.mk (VA.out.drawn d)
        have BS := Aside0.mk (drawn_below' BA.out d)
        clear d FA VA BA HS
        go_wp2_with fail
        go_roundg (gk - 1)
        case measure => omega
        case rel => exact ⟨k + 1, A', c', q', by omega, rfl, by congr 1, FS, VS, BS⟩
      · by_cases h2 : z = 256
        · subst h2
          have HQ := Aside0.mk (pop_calls wo W.heap.size q hf.out)
          have HP := Aside0.mk (fun w (t : VR w (fun k => k = W.heap.size) A c q) => rpop_calls w (fun k => k = W.heap.size) A c q t (by have := hf.out.length; omega))
          obtain ⟨y, hy⟩ : ∃ y, q.headD 0 = y := ⟨_, rfl⟩
          obtain ⟨b, hbq⟩ : ∃ b, (!q.isEmpty) = b := ⟨_, rfl⟩
          obtain ⟨q', hq'⟩ : ∃ q', q.tail = q' := ⟨_, rfl⟩
          rw [hy, hbq, hq'] at HP HQ
          clear hy hbq hq'
          go_wp2_with fail
          refine HQ.out.mono ?_
          rintro e wp ⟨rfl, t, o⟩
          have F1 := Aside0.mk t
          have V1 := Aside0.mk (hv.out.only o rfl)
          have B1 := Aside0.mk (o.below (Nat.le_refl _) hb.out)
          have c1 : wp.cell? (x.add k) = some (.int .u16 256) := pw_cell_below B1.out HX.out
          clear t o hf hv hb c0 HQ
          go_wp2_with fail
          refine (HP.out _ V1.out).mono ?_
          rintro e wq ⟨A', c', rfl, hv', d⟩
          have FF := Aside0.mk (F1.out.drawn d)
          have VV := Aside0.mk hv'
          have BB := Aside0.mk (drawn_below' B1.out d)
          have c2 : wq.cell? (x.add k) = some (.int .u16 256) := pw_cell_below BB.out HX.out
          clear hv' d F1 V1 B1 c1 HP
          go_wp2_with fail
          refine (flen_calls _ _ _ FF.out).mono ?_
          rintro e wl ⟨rfl, d⟩
          have FL := Aside0.mk (FF.out.drawn d)
          have VL := Aside0.mk (VV.out.drawn d)
          have BL := Aside0.mk (drawn_below' BB.out d)
          clear d FF VV BB
          go_wp2_with fail
          refine (all_calls _ _ _ FL.out).mono ?_
          rintro e wa ⟨⟨A2, c2, rfl, hc2, hC2⟩, d⟩
          have FA := Aside0.mk (FL.out.below d)
          have VA := Aside0.mk (VL.out.below d)
          have BA := Aside0.mk (below_on BL.out d)
          have hq16 := FA.out.length
          have HS := Aside0.mk (mimesisref01_SameBytes.calls _ A2 c2 q' A' c' q' true wa hC2 hc2 (VA.out.C (by omega)) VA.out.le (same_self _ (by omega)))
          clear d FL VL BL hC2 hc2
          go_wp2_with fail
          refine HS.out.mono ?_
          rintro e ws ⟨rfl, d⟩
          have FS := Aside0.mk (FA.out.drawn d)
          have VS := Aside0.mk (VA.out.drawn d)
          have BS := Aside0.mk (drawn_below' BA.out d)
          clear d FA VA BA HS
          go_wp2_with fail
          go_roundg (gk - 1)
          case measure => omega
          case rel => exact ⟨k + 1, A', c', q', by omega, rfl, by congr 1, FS, VS, BS⟩
        · by_cases h3 : z = 257
          · subst h3
            go_wp2_with fail
            refine (fclear_calls _ _ _ hf.out).mono ?_
            rintro e wq ⟨rfl, t, o⟩
            have FF := Aside0.mk (t.below (below_alloc (Below.refl _ _) (.cells #[] 5)))
            have VV := Aside0.mk (show VR (wq.alloc (.cells #[] 5)) (fun k => k = W.heap.size) (some ⟨wq.heap.size, 0, none⟩) 0 [] from .inr ⟨_, rfl, Nat.le_refl _, fun e => by have : wq.heap.size = W.heap.size := e; have := o.size; omega, fun i p hp => by simp at hp⟩)
            have BB := Aside0.mk (below_alloc (o.below (Nat.le_refl _) hb.out) (.cells #[] 5))
            clear t o hf hv hb
            go_wp2_with fail
            refine (flen_calls _ _ _ FF.out).mono ?_
            rintro e wl ⟨rfl, d⟩
            have FL := Aside0.mk (FF.out.drawn d)
            have VL := Aside0.mk (VV.out.drawn d)
            have BL := Aside0.mk (drawn_below' BB.out d)
            clear d FF VV BB
            go_wp2_with fail
            refine (all_calls _ _ _ FL.out).mono ?_
            rintro e wa ⟨⟨A2, c2, rfl, hc2, hC2⟩, d⟩
            have FA := Aside0.mk (FL.out.below d)
            have VA := Aside0.mk (VL.out.below d)
            have BA := Aside0.mk (below_on BL.out d)
            have hq16 := FA.out.length
            have HS := Aside0.mk (mimesisref01_SameBytes.calls _ A2 c2 [] (some ⟨wq.heap.size, 0, none⟩) 0 [] true wa hC2 hc2 (VA.out.C (by omega)) VA.out.le (same_self _ (by omega)))
            clear d FL VL BL hC2 hc2
            go_wp2_with fail
            simp only [List.length_nil] at HS
            refine HS.out.mono ?_
            rintro e ws ⟨rfl, d⟩
            have FS := Aside0.mk (FA.out.drawn d)
            have VS := Aside0.mk (VA.out.drawn d)
            have BS := Aside0.mk (drawn_below' BA.out d)
            clear d FA VA BA HS
            go_wp2_with fail
            go_roundg (gk - 1)
            case measure => omega
            case rel => exact ⟨k + 1, (some ⟨wq.heap.size, 0, none⟩), 0, [], by omega, rfl, by congr 1, FS, VS, BS⟩
          · have n1 : (z == 256) = false := beq_eq_false_iff_ne.2 h2
            have n2 : (z == 257) = false := beq_eq_false_iff_ne.2 h3
            have FF := hf
            have VV := hv
            have BB := hb
            clear hf hv hb h2 h3
            go_wp2_with fail
            refine (flen_calls _ _ _ FF.out).mono ?_
            rintro e wl ⟨rfl, d⟩
            have FL := Aside0.mk (FF.out.drawn d)
            have VL := Aside0.mk (VV.out.drawn d)
            have BL := Aside0.mk (drawn_below' BB.out d)
            clear d FF VV BB
            go_wp2_with fail
            refine (all_calls _ _ _ FL.out).mono ?_
            rintro e wa ⟨⟨A2, c2, rfl, hc2, hC2⟩, d⟩
            have FA := Aside0.mk (FL.out.below d)
            have VA := Aside0.mk (VL.out.below d)
            have BA := Aside0.mk (below_on BL.out d)
            have hq16 := FA.out.length
            have HS := Aside0.mk (mimesisref01_SameBytes.calls _ A2 c2 q A c q true wa hC2 hc2 (VA.out.C (by omega)) VA.out.le (same_self _ (by omega)))
            clear d FL VL BL hC2 hc2
            go_wp2_with fail
            refine HS.out.mono ?_
            rintro e ws ⟨rfl, d⟩
            have FS := Aside0.mk (FA.out.drawn d)
            have VS := Aside0.mk (VA.out.drawn d)
            have BS := Aside0.mk (drawn_below' BA.out d)
            clear d FA VA BA HS
            go_wp2_with fail
            go_roundg (gk - 1)
            case measure => omega
            case rel => exact ⟨k + 1, A, c, q, by omega, rfl, by congr 1, FS, VS, BS⟩
    · go_wp2_with fail
      refine (fifo_awake _).mono ?_
      rintro e wz ⟨rfl, d⟩
      have BZ := Aside0.mk (below_on hb.out d)
      clear d
      go_wp2_with fail
      go_ret
      exact ⟨rfl, BZ.out⟩

theorem fifo_plays (A0 : Option Addr) (len cap : Nat) (zs : List Int) (W : World) (hr : IsRow .u16 W A0 len cap zs) : Calls Try.prog 8 #[.slice A0 len cap] W fun e w' => e = .returned (.bool true) ∧ Below W.heap.size W w' := by
  by_cases h : 500 < len
  · exact fplays_long A0 len cap W h
  · exact fplays_short A0 len cap zs W (by omega) hr

end Go.Proofs.Ytcbgphopememgaa
