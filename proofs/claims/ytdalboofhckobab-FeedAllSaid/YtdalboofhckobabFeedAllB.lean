/- The document's All, and the walk of FeedAll. (PK=PFeedMerges) -/
import Derived.Test.YtdalboofhckobabFeedAll
namespace Go.Proofs.Ytdalboofhckobab
open Go Go.RowKit Go.Deep Go.Proofs.YtdalboofhckobabW.PrintWords Go.Proofs.Ytdalboofhckobab.PFeedMerges
set_option linter.unusedVariables false
set_option linter.unusedSimpArgs false

set_option maxRecDepth 100000 in
set_option maxHeartbeats 4000000 in
/-- What is in order, and not too long, is right. -/
theorem right_ok (w : World) (A : Option Addr) (n c : Nat) (al : List (Int × Int)) (hA : AR w A al) (hal : al.length = n) (ll : n ≤ 256) (hs : aord al al.length) :
    Calls Try.prog 15 #[.slice A n c] w fun e w' => e = .returned (.int .i64 0) ∧ Drawn0 w w' := by
  have HS := Aside0.mk hs
  have HL := Aside0.mk hal
  obtain ⟨W0, hW0⟩ : ∃ W0, w = W0 := ⟨_, rfl⟩
  have hl : ((256 : Int) < (n : Int)) = False := by simp; omega
  have HD : Aside0 (Drawn0 W0 w) := ⟨hW0 ▸ Drawn0.refl _⟩
  have HA : Aside0 (AR W0 A al) := ⟨hW0 ▸ hA⟩
  rw [hW0]
  rw [hW0] at HD
  clear hW0 hs hal hA
  go_enter Try.func15, Try.ntmps15
  go_wp2_with fail
  go_loopg [3] n (fun g i wr => ∃ k : Nat, g = n - k ∧ i = .int .i64 ((k + 1 : Nat) : Int) ∧ Aside0 (Drawn0 W0 wr))
  case atStart => exact ⟨0, by omega, rfl, HD⟩
  case round =>
    obtain ⟨k, hk, rfl, hd⟩ := hrel
    obtain ⟨wo, rfl⟩ : ∃ wo : World, wo = wr := ⟨_, rfl⟩
    by_cases hlt : k + 1 < n
    · have hlt' : (((k + 1 : Nat) : Int) < (n : Int)) = True := by simp; omega
      have hlt2 : ((k : Int) + 1 < (n : Int)) = True := by simp; omega
      have hk1 : k + 1 < al.length := by rw [HL.out]; exact hlt
      have hp := List.getElem?_eq_getElem hk1
      have hp' := List.getElem?_eq_getElem (show k < al.length by omega)
      obtain ⟨x, hx, r1, _⟩ := HA.out _ _ hp
      obtain ⟨x', hx', r2, _⟩ := HA.out _ _ hp'
      rw [hx] at hx'
      cases hx'
      subst hx
      have hle := HS.out k _ _ hk1 hp' hp
      generalize al[k + 1].1 = t1 at r1 hle
      generalize al[k].1 = t0 at r2 hle
      have hd1 : decide (t1 < t0) = false := decide_eq_false (by omega)
      have c1 : ∀ n, (wo.drewN n).cell? (x.add ((k + 1) * 2)) = some (.int .u64 t1) := fun n => pw_cell_below (drawn_on hd.out n).below r1
      have c0 : ∀ n, (wo.drewN n).cell? (x.add (k * 2)) = some (.int .u64 t0) := fun n => pw_cell_below (drawn_on hd.out n).below r2
      have q1 : wo.cell? (x.add ((k + 1) * 2)) = some (.int .u64 t1) := c1 0
      have q0 : wo.cell? (x.add (k * 2)) = some (.int .u64 t0) := c0 0
      clear hle hp hp' r1 r2
      go_wp2_with fail
      go_quiet (fail)
      have D1 := Aside0.mk (drawn_on hd.out nq)
      go_wp2_with fail
      go_roundg (gk - 1)
      case measure => omega
      case rel => exact ⟨k + 1, by omega, by congr 1, D1⟩
    · have hlt' : (((k + 1 : Nat) : Int) < (n : Int)) = False := by simp; omega
      have hlt2 : ((k : Int) + 1 < (n : Int)) = False := by simp; omega
      go_wp2_with fail
      go_ret
      exact ⟨rfl, hd.out⟩
set_option maxRecDepth 100000 in
set_option maxHeartbeats 4000000 in
theorem rall_calls (W : World) (X : Option Addr) (len cap : Nat) (A : Nat → Option Addr) (n c : Nat → Nat) (f : Nat → Nat → Nat → Int) (hX : IsRR [.u64, .u8] W X len cap A n c f) (hn : ∀ i, i < len → n i ≤ 300) (hl : len ≤ 10) :
    Calls Try.prog 11 #[.slice X len cap] W fun e w' => AllEnd W w' e (allM [] (rowsL len n f)) := by
  have HX := Aside0.mk hX
  have HN := Aside0.mk hn
  have HL := Aside0.mk hl
  obtain ⟨r, hr⟩ : ∃ r, allM [] (rowsL len n f) = r := ⟨_, rfl⟩
  have HR : Aside0 (allM [] ((rowsL len n f).drop 0) = r) := ⟨hr⟩
  rw [hr]
  clear hX hn hr hl
  go_enter Try.func11, Try.ntmps11
  go_wp2_with fail
  go_loopg [4, 5] (len + 1) (fun g v i wr => ∃ (k : Nat) (out : List (Int × Int)), g + k = len + 1 ∧ k ≤ len ∧ i = .int .i64 (k : Int) ∧ Aside0 (RV wr v out) ∧ Aside0 (allM out ((rowsL len n f).drop k) = r) ∧ Aside0 (Ord out) ∧ Aside0 (out.length ≤ 256) ∧ Aside0 (Below W.heap.size W wr))
  case atStart => exact ⟨0, [], by omega, by omega, rfl, ⟨RV.of_own (al := []) (World.ownsRow_made W #[] 0 (Nat.le_refl _) (by decide) rfl)⟩, HR, ⟨List.Pairwise.nil⟩, ⟨by simp⟩, ⟨below_alloc (Below.refl _ _) _⟩⟩
  case round =>
    obtain ⟨k, out, hgk, hkl, rfl, HV, HA, HO, HM, HB⟩ := hrel
    obtain ⟨wo, rfl⟩ : ∃ wo : World, wo = wr := ⟨_, rfl⟩
    have HG := Aside0.mk hgk
    clear hgk HR
    obtain ⟨A', c', rfl, hc', hAR, hnone⟩ := HV.out
    obtain ⟨N, hN⟩ : ∃ N, out.length = N := ⟨_, rfl⟩
    rw [hN] at hc' ⊢
    have HNL := Aside0.mk hN
    have HAR := Aside0.mk hAR
    have HNO := Aside0.mk hnone
    have HC := Aside0.mk hc'
    clear hN hAR hnone hc'
    by_cases hlt : k < len
    · have hlt' : ((k : Int) < (len : Int)) = True := by simp; omega
      obtain ⟨x, hx, hcell, hrow⟩ := (HX.out.below (by simp) HB.out).at_ hlt
      subst hx
      have HA2 := HA.out
      rw [rowsL_drop hlt, allM] at HA2
      have hb := rows_AR hrow
      have hlb := arrs_length (n k) (f k)
      have hcb := hrow.le.1
      have hnk := HN.out k hlt
      generalize arrs (n k) (f k) = b at hb hlb HA2
      generalize A k = Ak at *
      generalize n k = nk at *
      generalize c k = ck at *
      have HMG := Aside0.mk (rmerge_calls wo A' Ak N nk c' ck out b HAR.out hb HNL.out hlb (by have := HM.out; have := HNL.out; omega) (by omega) HC.out hcb HNO.out)
      have HLB := Aside0.mk hlb
      have HKL := Aside0.mk hlt
      clear hb hlb hcb hnk hrow
      go_wp2_with fail
      refine HMG.out.mono ?_
      rintro e w1 ⟨hb1, hM⟩
      have B1 := Aside0.mk (below_on HB.out hb1)
      clear hb1 HMG
      by_cases hbad : (!okL out || !okL b) = true
      · rw [if_pos hbad] at hM HA2
        subst hM
        have HRR := Aside0.mk HA2
        clear hbad HA2
        go_wp2_with fail
        try rw [Exit.noGoto_ret]
        refine bodyPost_ret (results_tmp2 rfl _ _ _) rfl ?_
        refine ⟨B1.out, ?_⟩
        rw [← HRR.out]
        exact rfl
      · rw [if_neg hbad] at hM HA2
        by_cases hlg : out.length + b.length > 256
        · rw [if_pos hlg] at hM HA2
          subst hM
          have HRR := Aside0.mk HA2
          clear hbad HA2 hlg
          go_wp2_with fail
          try rw [Exit.noGoto_ret]
          refine bodyPost_ret (results_tmp2 rfl _ _ _) rfl ?_
          refine ⟨B1.out, ?_⟩
          rw [← HRR.out]
          exact rfl
        · rw [if_neg hlg] at hM HA2
          obtain ⟨v, rfl, hrow⟩ := hM
          have h0 : okL out = true ∧ okL b = true := by simpa using hbad
          rw [← mrg_length] at hrow
          have HRR := Aside0.mk HA2
          have HV2 := Aside0.mk (RV.of_own hrow)
          have HO2 := Aside0.mk (ord_mrg out b (ord_okL h0.1) (ord_okL h0.2))
          have HM2 : Aside0 ((mrg out b).length ≤ 256) := ⟨by rw [mrg_length]; omega⟩
          have e2 : wrap64 ((k : Int) + 1) = ((k + 1 : Nat) : Int) := by have := HL.out; unfold wrap64; omega
          clear hbad HA2 hlg h0 hrow
          go_wp2_with fail
          have HG2 := HG.out
          have E2 := Aside0.mk e2
          clear e2
          go_roundg (gk - 1)
          case measure => omega
          case rel => exact ⟨k + 1, _, by omega, by omega, by first | exact congrArg (Value.int .i64) E2.out | (congr 1; done), HV2, HRR, HO2, HM2, B1⟩
    · obtain rfl : k = len := by omega
      have hlt' : ((k : Int) < (k : Int)) = False := by simp
      have HRR := HA.out
      rw [rowsL_end] at HRR
      have HRR := Aside0.mk HRR
      have HRT := Aside0.mk (right_ok wo A' N c' out HAR.out HNL.out (by have := HM.out; have := HNL.out; omega) (aord_of HO.out))
      go_wp2_with fail
      refine HRT.out.mono ?_
      rintro e w1 ⟨rfl, hd⟩
      have B1 := Aside0.mk (below_on HB.out hd.below)
      have HV1 := Aside0.mk (HV.out.below hd.below)
      clear hd HRT
      go_wp2_with fail
      try rw [Exit.noGoto_ret]
      refine bodyPost_ret (results_tmp2 rfl _ _ _) rfl ?_
      refine ⟨B1.out, ?_⟩
      rw [← HRR.out]
      exact ⟨_, rfl, by rw [← HNL.out]; exact HV1.out, HM.out⟩

set_option maxRecDepth 100000 in
set_option maxHeartbeats 4000000 in
/-- Some list is too long, or there are too many. -/
theorem fall_many (W : World) (X : Option Addr) (len cap : Nat) (hl : ¬ len ≤ 10) :
    Calls Try.prog 4 #[.slice X len cap] W fun e w' => e = .returned (.bool true) ∧ Below W.heap.size W w' := by
  have q1 : ((10 : Int) < (len : Int)) = True := by simp; omega
  clear hl
  go_enter Try.func4, Try.ntmps4
  go_wp2_with fail
  refine (awake_calls _).mono ?_
  rintro e w1 ⟨rfl, hb⟩
  have B1 := Aside0.mk hb
  clear hb
  go_wp2_with fail
  go_ret
  exact ⟨rfl, B1.out⟩
set_option maxRecDepth 100000 in
set_option maxHeartbeats 4000000 in
theorem fall_few (W : World) (X : Option Addr) (len cap : Nat) (A : Nat → Option Addr) (n c : Nat → Nat) (f : Nat → Nat → Nat → Int) (hX : IsRR [.u64, .u8] W X len cap A n c f) (hl : len ≤ 10) :
    Calls Try.prog 4 #[.slice X len cap] W fun e w' => e = .returned (.bool true) ∧ Below W.heap.size W w' := by
  have HX := Aside0.mk hX
  have HL := Aside0.mk hl
  have q1 : ((10 : Int) < (len : Int)) = False := by simp; omega
  have HB0 : Aside0 (Below W.heap.size W W) := ⟨Below.refl _ _⟩
  clear hX hl
  go_enter Try.func4, Try.ntmps4
  go_wp2_with fail
  go_loopg [3] (len + 1) (fun g i wr => ∃ k : Nat, g + k = len + 1 ∧ k ≤ len ∧ i = .int .i64 (k : Int) ∧ Aside0 (∀ i, i < k → n i ≤ 300) ∧ Aside0 (W = wr))
  case atStart => exact ⟨0, by omega, by omega, rfl, ⟨fun i hi => by omega⟩, ⟨rfl⟩⟩
  case round =>
    obtain ⟨k, hgk, hkl, rfl, HS, HW⟩ := hrel
    have HG := Aside0.mk hgk
    clear hgk
    have hw := HW.out
    subst hw
    by_cases hlt : k < len
    · have hlt' : ((k : Int) < (len : Int)) = True := by simp; omega
      obtain ⟨x, hx, hcell, hrow⟩ := HX.out.at_ hlt
      subst hx
      have HKL := Aside0.mk hlt
      obtain ⟨Ak, hAk⟩ : ∃ y, A k = y := ⟨_, rfl⟩
      obtain ⟨nk, hnk⟩ : ∃ y, n k = y := ⟨_, rfl⟩
      obtain ⟨ck, hck⟩ : ∃ y, c k = y := ⟨_, rfl⟩
      rw [hAk, hnk, hck] at hcell
      have HNK := Aside0.mk hnk
      clear hrow hAk hnk hck
      by_cases hbig : 300 < nk
      · have q3 : ((300 : Int) < (nk : Int)) = True := by simp; omega
        clear hbig hlt
        go_wp2_with fail
        refine (awake_calls _).mono ?_
        rintro e w1 ⟨rfl, hb⟩
        have B1 := Aside0.mk hb
        clear hb
        go_wp2_with fail
        try rw [Exit.noGoto_ret]
        go_ret
        exact ⟨rfl, B1.out⟩
      · have q3 : ((300 : Int) < (nk : Int)) = False := by simp; omega
        have HS2 : Aside0 (∀ i, i < k + 1 → n i ≤ 300) := ⟨fun i hi => by
          by_cases h : i = k
          · rw [h, HNK.out]; omega
          · exact HS.out i (by omega)⟩
        have e2 : wrap64 ((k : Int) + 1) = ((k + 1 : Nat) : Int) := by have := HL.out; unfold wrap64; omega
        clear hbig hlt
        go_wp2_with fail
        have HG2 := HG.out
        have HKL2 := HKL.out
        have E2 := Aside0.mk e2
        clear e2
        go_roundg (gk - 1)
        case measure => omega
        case rel => exact ⟨k + 1, by omega, by omega, by first | exact congrArg (Value.int .i64) E2.out | (congr 1; done), HS2, ⟨rfl⟩⟩
    · obtain rfl : k = len := by omega
      have hlt' : ((k : Int) < (k : Int)) = False := by simp
      clear hlt
      obtain ⟨r, hr⟩ : ∃ r, allM [] (rowsL k n f) = r := ⟨_, rfl⟩
      have H1 : Aside0 (∀ w, Below W.heap.size W w → Calls Try.prog 10 #[.slice X k cap] w fun e w' => AllEnd w w' e r) := ⟨fun w hw => by
        have := all_calls w X k cap A n c f (HX.out.below (by simp) hw) HS.out HL.out
        rwa [hr] at this⟩
      have H2 : Aside0 (∀ w, Below W.heap.size W w → Calls Try.prog 11 #[.slice X k cap] w fun e w' => AllEnd w w' e r) := ⟨fun w hw => by
        have := rall_calls w X k cap A n c f (HX.out.below (by simp) hw) HS.out HL.out
        rwa [hr] at this⟩
      clear hr
      go_wp2_with fail
      refine (H1.out _ HB0.out).mono ?_
      rintro e w1 ⟨hb1, hE1⟩
      have B1 := Aside0.mk hb1
      clear hb1
      by_cases hr0 : r.1 = 0
      · rw [if_pos hr0] at hE1
        obtain ⟨v, rfl, hV1, hlen⟩ := hE1
        obtain ⟨A1, c1, rfl, hc1, hAR1, _⟩ := hV1
        obtain ⟨N, hN⟩ : ∃ N, r.2.length = N := ⟨_, rfl⟩
        have HN := Aside0.mk hN
        have HC1 := Aside0.mk hc1
        have HAR1 := Aside0.mk hAR1
        have HLN := Aside0.mk hlen
        have HR0 := Aside0.mk hr0
        rw [hN]
        clear hN hc1 hAR1 hlen hr0
        go_wp2_with fail
        refine (H2.out _ B1.out).mono ?_
        rintro e w2 ⟨hb2, hE2⟩
        rw [if_pos HR0.out] at hE2
        obtain ⟨v2, rfl, hV2, _⟩ := hE2
        obtain ⟨A2, c2, rfl, hc2, hAR2, _⟩ := hV2
        have B2 := Aside0.mk (below_on B1.out hb2)
        have HAR3 := Aside0.mk (HAR1.out.below hb2)
        have HAR4 := Aside0.mk hAR2
        have HC2 := Aside0.mk hc2
        rw [HN.out]
        clear hb2 hc2 hAR2
        have HSM : Aside0 (∀ w', Drawn0 w2 w' → Calls Try.prog _ #[.slice A1 N c1, .slice A2 N c2] w' _) := ⟨fun w' hd => by
          have := mimesisref41_Same.calls 1001 A1 c1 (sof r.2) A2 c2 (sof r.2) true w' (AR.C (HAR3.out.below hd.below) (by have := HLN.out; omega)) (by rw [sof_length]; exact HC1.out) (AR.C (HAR4.out.below hd.below) (by have := HLN.out; omega)) (by rw [sof_length]; exact HC2.out) (same_f (sof r.2) (by rw [sof_length]; have := HLN.out; omega))
          rw [sof_length, HN.out] at this
          exact this⟩
        go_wp2_with fail
        refine (HSM.out _ (by first | exact Drawn0.refl _ | exact ⟨_, rfl⟩)).mono ?_
        rintro e w4 ⟨rfl, hd⟩
        have B4 := Aside0.mk (below_on B2.out hd.below)
        clear hd HSM
        go_wp2_with fail
        refine (awake_calls _).mono ?_
        rintro e w5 ⟨rfl, hb⟩
        have B5 := Aside0.mk (below_on B4.out hb)
        clear hb
        go_wp2_with fail
        go_ret
        exact ⟨rfl, B5.out⟩
      · rw [if_neg hr0] at hE1
        subst hE1
        obtain ⟨z, hz⟩ : ∃ z, r.1 = z := ⟨_, rfl⟩
        have HZ := Aside0.mk hz
        have HR0 := Aside0.mk hr0
        have q5 : (z = 0) = False := by rw [← hz]; simpa using hr0
        have q6 : (z == 0) = false := by rw [← hz]; simpa using hr0
        rw [hz]
        clear hz hr0
        go_wp2_with fail
        refine (H2.out _ B1.out).mono ?_
        rintro e w2 ⟨hb2, hE2⟩
        rw [if_neg HR0.out, HZ.out] at hE2
        subst hE2
        have B2 := Aside0.mk (below_on B1.out hb2)
        clear hb2
        go_wp2_with fail
        refine (awake_calls _).mono ?_
        rintro e w3 ⟨rfl, hb⟩
        have B3 := Aside0.mk (below_on B2.out hb)
        clear hb
        go_wp2_with fail
        go_ret
        exact ⟨rfl, B3.out⟩
theorem feed_all (X : Option Addr) (len cap : Nat) (A : Nat → Option Addr) (n c : Nat → Nat) (f : Nat → Nat → Nat → Int) (W : World) (hX : IsRR [.u64, .u8] W X len cap A n c f) :
    Calls Try.prog 4 #[.slice X len cap] W fun e w' => e = .returned (.bool true) ∧ Below W.heap.size W w' := by
  by_cases h : len ≤ 10
  · exact fall_few W X len cap A n c f hX h
  · exact fall_many W X len cap h
end Go.Proofs.Ytdalboofhckobab
