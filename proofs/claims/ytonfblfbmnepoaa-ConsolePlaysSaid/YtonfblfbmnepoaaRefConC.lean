/- The statements' own console (mimesisref12): Up. -/
import Derived.Test.YtonfblfbmnepoaaRefConB
import Derived.Deep.LoopGhost
import Derived.Deep.RegionHeld3
namespace Go.Proofs.Ytonfblfbmnepoaa
open Go Go.RowKit Go.Deep Go.Proofs.YtonfblfbmnepoaaW.PrintWords
set_option linter.unusedVariables false
set_option linter.unusedSimpArgs false

set_option maxRecDepth 100000 in
set_option maxHeartbeats 4000000 in
theorem rup_calls (w : World) (X : Nat → Prop) (hX : ∀ k, X k → k < w.heap.size) (A : Option Addr) (cap came : Nat) (al : List (Int × Int)) (q : List Int) (over : Bool) (out : List Int) (v : Value) (t : Int) (hll : al.length ≤ 256) (hlc : came ≤ al.length) (hA : AR w A al) (h : VC w X A al.length cap v came q over out) (hq : q.length ≤ 16) :
    Calls Try.prog 59 #[v, .int .u64 t] w fun e w' => ∃ v', e = .returned v' ∧ VC w' X A al.length cap v' (upL t (al.drop came) (came, q, over)).1 (upL t (al.drop came) (came, q, over)).2.1 (upL t (al.drop came) (came, q, over)).2.2 out ∧ Below w.heap.size w w' := by
  obtain ⟨R, hR⟩ : ∃ R, upL t (al.drop came) (came, q, over) = R := ⟨_, rfl⟩
  rw [hR]
  have HRR := Aside0.mk hR
  obtain ⟨Ar, cr, Ao, co, rfl, hr, ho⟩ := h
  obtain ⟨len, hal⟩ : ∃ n, al.length = n := ⟨_, rfl⟩
  rw [hal] at hll hlc ⊢
  have HL := Aside0.mk hal
  have HS := Aside0.mk (two_start w X A len cap came q over out hr ho)
  have HA := Aside0.mk hA
  clear hr ho hR hal hA
  obtain ⟨B, hB⟩ : ∃ B, w.heap.size = B := ⟨_, rfl⟩
  have HBS := Aside0.mk hB
  rw [hB] at hX
  have HXX := Aside0.mk hX
  clear hB hX
  go_enter Try.func59, Try.ntmps59
  go_upto_region 1 with fail
  generalize hW : World.alloc (World.alloc w _) _ = w1
  obtain ⟨⟨v1, v2⟩, b1, t1⟩ := HS.out w1 hW.symm
  have V1 := Aside0.mk v1
  have V2 := Aside0.mk v2
  have B1 := Aside0.mk b1
  have T1 := Aside0.mk t1
  clear v1 v2 b1 t1 hW HS
  have hBS := HBS.out
  rw [hBS] at T1 V1 V2 ⊢
  clear hBS
  have hc1 := T1.out.cells.1.2.1
  go_wp2_with fail
  go_loopg [5] (len + 1 - came) (fun g i wr => ∃ (k : Nat) (q' : List Int) (o' : Bool) (Ar' : Option Addr) (cr' : Nat), g + k = len + 1 ∧ k ≤ len ∧ q'.length ≤ 16 ∧ i = .int .i64 (k : Int) ∧ Aside0 (Two wr B (.slice A len cap) (.int .i64 (k : Int)) (.slice Ar' q'.length cr') (.bool o') (.slice Ao out.length co) (.slice none 0 0) (.int .i64 0) (.slice none 0 0) (.bool false) (.slice none 0 0)) ∧ Aside0 (VR wr (XB X B) Ar' cr' q') ∧ Aside0 (VR wr (XB X B) Ao co out) ∧ Aside0 (Below w.heap.size w wr) ∧ Aside0 (upL t (al.drop k) (k, q', o') = R))
  case atStart => exact ⟨came, q, over, Ar, cr, by omega, by omega, hq, rfl, T1, V1, V2, B1, HRR⟩
  case round =>
    obtain ⟨k, q', o', Ar', cr', hk, hkn, hq', rfl, ht, hv, ho, hb, hu⟩ := hrel
    obtain ⟨wo, rfl⟩ : ∃ wo : World, wo = wr := ⟨_, rfl⟩
    clear V1 V2 B1 T1 hc1
    obtain ⟨⟨c0, c1, c2, c3, c4⟩, r0, r1, r2, r3, r4⟩ := ht.out.cells
    obtain ⟨zb, zr⟩ := ht.out.frozen
    by_cases hlt : k < len
    · have hlt' : ((k : Int) < (len : Int)) = True := by simp; omega
      have hkl : k < al.length := by rw [HL.out]; exact hlt
      have hp := List.getElem?_eq_getElem hkl
      have hdrop : al.drop k = al[k] :: al.drop (k + 1) := List.drop_eq_getElem_cons hkl
      obtain ⟨x, hx, a0, a1⟩ := (show AR wo A al from fun i p hp => by obtain ⟨x, hx, h1, h2⟩ := HA.out i p hp; exact ⟨x, hx, pw_cell_below hb.out h1, pw_cell_below hb.out h2⟩) k _ hp
      subst hx
      rw [add_field _ _ 1 (by omega)] at a1
      generalize al[k] = p at hp hdrop a0 a1
      obtain ⟨tk, bk⟩ := p
      simp only at a0 a1
      have hu1 := hu.out
      rw [hdrop] at hu1
      simp only [upL] at hu1
      clear hdrop hp hu
      by_cases hle : tk ≤ t
      · rw [if_pos hle] at hu1
        have hgt : (t < tk) = False := by simp; omega
        have HU := Aside0.mk hu1
        have hbig : B + 2 ≤ wo.heap.size := by have := blk_lt ht.out.r; omega
        have HBO : Aside0 (∀ w', Below wo.heap.size wo w' → ∀ k, XB X B k → k < w'.heap.size) := ⟨fun w' h k hk => by have := h.size; rcases hk with h | h | h; have := HXX.out k h; omega; omega; omega⟩
        have hP : ∀ w', Below wo.heap.size wo w' → Calls Try.prog 71 #[.slice Ar' q'.length cr', .int .u8 bk] w' fun e w'' => ∃ A' c', e = .returned (.tuple #[.slice A' (qpush q' bk).length c', .bool (decide (q'.length < 16))]) ∧ VR w'' (XB X B) A' c' (qpush q' bk) ∧ Below w'.heap.size w' w'' := fun w' hw' => rpush_calls w' (XB X B) Ar' cr' q' bk (hv.out.below hw') (HBO.out w' hw')
        have hq2l := qpush_len q' bk hq'
        obtain ⟨q2, hq2⟩ : ∃ q2, qpush q' bk = q2 := ⟨_, rfl⟩
        obtain ⟨b, hb16⟩ : ∃ b, decide (q'.length < 16) = b := ⟨_, rfl⟩
        rw [hq2, hb16] at hP HU
        rw [hq2] at hq2l
        have HP := Aside0.mk hP
        clear hP hq2 hb16
        obtain ⟨m, hm⟩ : ∃ m, q'.length = m := ⟨_, rfl⟩
        rw [hm] at HP c2
        clear hm
        clear hu1 hle zb zr r0 r1 r2 r3 r4 c1 c3 c4
        go_wp2_with fail
        go_region_held3 (fun w' => w'.cell? ⟨B, 2, none⟩ = some (.slice Ar' m cr') ∧ w'.cell? ⟨B, 0, none⟩ = some (.slice (some x) len cap) ∧ w'.cell? ⟨(x.add (k * 2)).block, (x.add (k * 2)).off + 1, none⟩ = some (.int .u8 bk) ∧ Below wo.heap.size wo w')
          (first | exact ⟨c2, c0, a1, Below.drew (Below.refl _ _)⟩ | (have hbb := below_on hbo hbn; exact ⟨pw_cell_below hbb c2, pw_cell_below hbb c0, pw_cell_below hbb a1, hbb⟩))
          (first
            | (go_at_call 71; go_split_ands; rename Below _ _ _ => hbo; refine (HP.out _ hbo).mono ?_; rintro e w' ⟨A2, cc2, rfl, hv2, hbn⟩))
        have hbw : Below wo.heap.size wo w' := by go_split_ands; assumption
        have T2 := Aside0.mk (ht.out.below hbw)
        have V2 := Aside0.mk hv2
        have O2 := Aside0.mk (ho.out.below hbw)
        have B2 := Aside0.mk (below_on hb.out hbw)
        obtain ⟨w2, hw2⟩ : ∃ w2, w' = w2 := ⟨_, rfl⟩
        rw [hw2] at T2 V2 O2 B2 ⊢
        clear hbw hw2
        (repeat (first | clear hv2 | clear hbn | clear hbo))
        obtain ⟨⟨c0, c1, c2, c3, c4⟩, r0, r1, r2, r3, r4⟩ := T2.out.cells
        obtain ⟨zb, zr⟩ := T2.out.frozen
        clear r0 r1 r2 r3 r4 zr hv ho hb ht
        have T3 := Aside0.mk (((T2.out.set2 (.slice A2 q2.length cc2)).set3 (.bool (o' || !b))).set1 (.int .i64 ((k + 1 : Nat) : Int)))
        have HX := Aside0.mk (tx_b (tx_b (tx_b (OnlyP.refl (TX B) w2) 2 (.slice A2 q2.length cc2)) 3 (.bool (o' || !b))) 1 (.int .i64 ((k + 1 : Nat) : Int)))
        have V3 := Aside0.mk (V2.out.tx HX.out)
        have O3 := Aside0.mk (O2.out.tx HX.out)
        have B3 := Aside0.mk (HX.out.below (fun k hk => by have := HBS.out; rcases hk with rfl | rfl <;> omega) B2.out)
        rw [show ((k + 1 : Nat) : Int) = (k : Int) + 1 by omega] at T3 V3 O3 B3
        clear V2 O2 B2 HX T2
        cases o' <;> cases b <;> (
          go_wp2_with fail
          go_roundg (gk - 1)
          (case measure => omega)
          (case rel => exact ⟨k + 1, q2, _, A2, cc2, by omega, by omega, hq2l, by congr 1, ⟨by simpa using T3.out⟩, ⟨by simpa using V3.out⟩, ⟨by simpa using O3.out⟩, ⟨by simpa using B3.out⟩, ⟨by simpa using HU.out⟩⟩))
      · rw [if_neg hle] at hu1
        have hgt : (t < tk) = True := by simp; omega
        have HC := Aside0.mk ht.out.copy
        have HX := Aside0.mk (tx_copy (OnlyP.refl (TX B) wo) (.slice (some x) len cap) (.int .i64 (k : Int)) (.slice Ar' q'.length cr') (.bool o') (.slice Ao out.length co))
        have HU := Aside0.mk hu1
        clear hu1
        go_wp2_with fail
        refine bodyPost_ret (results_cell_row rfl _ _ (B + 1) 73 _ (0, 0) _ rfl HC.out Try.underlying73 rfl (by kernel_rfl)) rfl ?_
        rw [← HU.out]
        refine ⟨_, rfl, ⟨Ar', cr', Ao, co, rfl, (hv.out.tx HX.out).unxb, (ho.out.tx HX.out).unxb⟩, ?_⟩
        exact HX.out.below (fun k hk => by have := HBS.out; rcases hk with rfl | rfl <;> omega) hb.out
    · obtain rfl : k = len := by omega
      have hlt' : ((k : Int) < (k : Int)) = False := by simp
      have hu1 := hu.out
      rw [List.drop_of_length_le (by rw [HL.out]; exact Nat.le_refl _)] at hu1
      simp only [upL] at hu1
      have HC := Aside0.mk ht.out.copy
      have HX := Aside0.mk (tx_copy (OnlyP.refl (TX B) wo) (.slice A k cap) (.int .i64 (k : Int)) (.slice Ar' q'.length cr') (.bool o') (.slice Ao out.length co))
      have HU := Aside0.mk hu1
      clear hu1 hu
      go_wp2_with fail
      refine bodyPost_ret (results_cell_row rfl _ _ (B + 1) 73 _ (0, 0) _ rfl HC.out Try.underlying73 rfl (by kernel_rfl)) rfl ?_
      rw [← HU.out]
      refine ⟨_, rfl, ⟨Ar', cr', Ao, co, rfl, (hv.out.tx HX.out).unxb, (ho.out.tx HX.out).unxb⟩, ?_⟩
      exact HX.out.below (fun k hk => by have := HBS.out; rcases hk with rfl | rfl <;> omega) hb.out
end Go.Proofs.Ytonfblfbmnepoaa
