/- The statements' 'step' on a memory: a step, done by both. -/
import Derived.Test.YtdalboofhckobaaRamStep
namespace Go.Proofs.Ytdalboofhckobaa
open Go Go.RowKit Go.Deep Go.Proofs.YtdalboofhckobaaW.PrintWords Go.Proofs.Ytdalboofhckobaa.QRamPlays
set_option linter.unusedVariables false
set_option linter.unusedSimpArgs false

set_option maxRecDepth 100000 in
set_option maxHeartbeats 4000000 in
theorem rstep2_yes (w : World) {R BB BW BG n k : Nat} {l : List Int} {ws : List Bool} {gs : List Int} {v : Value} (kd a x : Int) (ps : Option Addr) (ns cs : Nat) (H : RSame w R BB BW BG n k l ws gs v) (a0 : 0 ≤ a) (a1 : a < 4294967296) (x0 : 0 ≤ x) (x1 : x < 4294967296) (j mk : Nat) (r : Int) (he : rasked n a mk = 0) (a0' : 2147483648 ≤ a) (hj : a - 2147483648 = (j : Int)) (hjk : j + mk ≤ n) (mk0 : 0 < mk) (p : Nat) (bs : List Int) (hit : Bool) (g0 : Int) (hr0 : rhas n a mk = true) (hp : (a - 2147483648) / 64 = (p : Int)) (hpk : p < k) (hh : ws[p]? = some hit) (hg : gs[p]? = some g0) (hb1 : word_Bytes.f 60 x (mk : Int) = some (bs, 0)) (hb2 : mimesisref01_Bytes.f 60 x (mk : Int) = some bs) (hbl : bs.length = mk) (hbu : U8 bs) :
    Calls Try.prog 21 #[.pointer (some ⟨R, 0, none⟩), v, .agg #[.int .i64 2, .int .u32 a, .int .i64 (mk : Int), .int .u32 x, .slice ps ns cs]] w (RStepEnd w R BB BW BG n k) := by
  obtain ⟨P, hP⟩ : ∃ P, P = RStepEnd w R BB BW BG n k := ⟨_, rfl⟩
  rw [← hP]
  have HP := Aside0.mk hP
  clear hP
  obtain ⟨hr, hv, hu, hn⟩ := H
  have HN := Aside0.mk hn
  have hn1 := hn.2.1
  have hlen := hr.nl
  obtain ⟨A1, c1, A2, c2, A3, c3, rfl, v1, v2, v3⟩ := hv
  have HV0 : VRam w (XR BB BW BG) (.agg #[.slice A1 l.length c1, .slice A2 ws.length c2, .slice A3 gs.length c3]) l ws gs := ⟨A1, c1, A2, c2, A3, c3, rfl, v1, v2, v3⟩
  have HBX := Aside0.mk (rbox_new w (.slice A1 l.length c1) (.slice A2 ws.length c2) (.slice A3 gs.length c3) (.int .i64 2) (.int .u32 a) (.int .i64 (mk : Int)) (.int .u32 x) (.slice ps ns cs))
  obtain ⟨B, h0⟩ : ∃ B, w.heap.size = B := ⟨_, rfl⟩
  obtain ⟨D, h1⟩ : ∃ D, w.heap.size + 1 = D := ⟨_, rfl⟩
  obtain ⟨G, h2⟩ : ∃ G, w.heap.size + 1 + 1 = G := ⟨_, rfl⟩
  have HLT := Aside0.mk hr.lt
  have HR := Aside0.mk hr
  have HU := Aside0.mk hu
  have HV1 := Aside0.mk (HV0.wide (Y := XRG BB BW BG G) (fun k hk => hk.imp id (fun e => by omega)))
  have HS := Aside0.mk (And.intro h0 (And.intro h1 h2))
  have HLN := Aside0.mk hlen
  have HE := Aside0.mk he
  have HB1 := Aside0.mk hb1
  have HB2 := Aside0.mk hb2
  have HH := Aside0.mk hh
  have HG := Aside0.mk hg
  have HBU := Aside0.mk hbu
  have HBL := Aside0.mk hbl
  have HPP := Aside0.mk hp
  have HPG : Aside0 (rpage n a = (p : Int)) := ⟨by
    unfold rpage
    have h1 := hr0
    unfold rhas at h1
    simp at h1
    rw [if_pos (by unfold rhas; simp; omega), hp]⟩
  have HPUT : Aside0 (mimesisref10_Put.f l a bs = some (l.take j ++ bs ++ l.drop (j + mk))) := ⟨by
    rw [← hbl]
    exact put_f l bs a j a0' a1 hj (by rw [hbl, hlen]; omega) (by omega)⟩
  have HL2 : Aside0 ((l.take j ++ bs ++ l.drop (j + mk)).length = n) := ⟨by
    have := put_length l bs j (by rw [hbl, hlen]; omega)
    rw [hbl] at this
    omega⟩
  have HWS : Aside0 (ws.length = k ∧ gs.length = k) := ⟨⟨hr.nw, hr.ng⟩⟩
  clear he hb1 hb2 hh hg hbu hbl hp hr0
  clear hn hr HV0 hu h0 h1 h2 v1 v2 v3 hlen
  go_enter Try.func21, Try.ntmps21
  go_upto_region 1 with fail
  generalize hW : World.alloc (World.alloc (World.alloc w _) _) _ = w1
  obtain ⟨t1', b1⟩ := HBX.out w1 hW.symm
  rw [HS.out.2.2, HS.out.2.1, HS.out.1] at t1'
  have T1 := Aside0.mk t1'
  have R1 := Aside0.mk (HR.out.below b1)
  have O1 := Aside0.mk (OnlyP.of_below (P := XR BB BW BG) b1)
  have V1 := Aside0.mk (HV1.out.below b1)
  rw [HS.out.2.2, HS.out.2.1, HS.out.1]
  have HGE : Aside0 (w.heap.size ≤ B ∧ w.heap.size ≤ D ∧ w.heap.size ≤ G ∧ B ≠ G ∧ D ≠ G ∧ B ≠ D) := ⟨by have := HS.out; omega⟩
  have HXB : Aside0 (¬ XR BB BW BG B ∧ ¬ XR BB BW BG D ∧ ¬ XR BB BW BG G) := ⟨by
    have h1 := HS.out; have h2 := HLT.out
    refine ⟨?_, ?_, ?_⟩ <;> (rintro (h | h | h) <;> omega)⟩
  clear hW HBX HR HV1 b1 t1'
  obtain ⟨q0, q1, q2⟩ := T1.out.cb
  obtain ⟨s0, s1, s2, s3, s4⟩ := T1.out.cs
  obtain ⟨⟨r0, r1, r2⟩, zr⟩ := T1.out.cr
  go_wp2_with fail
  refine (store_yes (K := 60) _ a x j mk p bs 0 g0 hit R1.out hn1 a0' a1 HE.out hj hjk mk0 HPG.out hpk HH.out HBL.out HG.out HB1.out).mono ?_
  rintro e w2 ⟨rfl, r2', o2⟩
  obtain ⟨L2, hL2⟩ : ∃ L2, l.take j ++ bs ++ l.drop (j + mk) = L2 := ⟨_, rfl⟩
  rw [hL2] at r2' HPUT HL2
  have HU2 : Aside0 (U8 L2) := ⟨hL2 ▸ HU.out.put HBU.out j (j + mk)⟩
  have R2 := Aside0.mk r2'
  have T2 := Aside0.mk (T1.out.move o2 HXB.out.1 HXB.out.2.1 HXB.out.2.2)
  have O2 := Aside0.mk (O1.out.trans o2)
  have V2 := Aside0.mk (V1.out.onlyP ⟨o2.os, o2.tape, o2.output, o2.size, fun k hk hn => o2.block k hk (fun hx => hn (.inl hx))⟩)
  clear o2 r2' T1 R1 O1 V1 hL2
  clear q0 q1 q2 s0 s1 s2 s3 s4 r0 r1 r2 zr
  obtain ⟨q0, q1, q2⟩ := T2.out.cb
  obtain ⟨s0, s1, s2, s3, s4⟩ := T2.out.cs
  obtain ⟨⟨r0, r1, r2⟩, zr⟩ := T2.out.cr
  go_wp2_with fail
  refine (mimesisref10_Asked.calls A1 c1 l a (mk : Int) 0 _ (vram_rows V2.out).1.C (vram_rows V2.out).1.le (by rw [asked_f l a (mk : Int) (by have := HLN.out; omega) a0 a1, HLN.out, HE.out])).mono ?_
  rintro e w3 ⟨rfl, d⟩
  have T3 := Aside0.mk (T2.out.below d.below)
  have R3 := Aside0.mk (R2.out.drawn d)
  have O3 := Aside0.mk (O2.out.drawn d)
  have V3 := Aside0.mk (V2.out.below d.below)
  clear d T2 R2 O2 V2
  clear q0 q1 q2 s0 s1 s2 s3 s4 r0 r1 r2 zr
  obtain ⟨q0, q1, q2⟩ := T3.out.cb
  obtain ⟨s0, s1, s2, s3, s4⟩ := T3.out.cs
  obtain ⟨⟨r0, r1, r2⟩, zr⟩ := T3.out.cr
  have HST := Aside0.mk (fun w (hv : VRam w (XRG BB BW BG G) (.agg #[.slice A1 l.length c1, .slice A2 ws.length c2, .slice A3 gs.length c3]) l ws gs) (hx : ∀ k, XRG BB BW BG G k → k < w.heap.size) => rstore_calls w (XRG BB BW BG G) hx 60 p _ l bs L2 ws gs a mk x g0 hit hv a0' a1 HB2.out HPUT.out HPP.out HH.out HG.out (by have := HWS.out; have := HN.out; omega) (by have := HWS.out; have := HN.out; omega) (by have := HL2.out; have := HN.out; omega))
  go_wp2_with fail
  refine (HST.out _ V3.out (fun k hk => by
    rcases hk with h | h
    · have h1 := HLT.out; have h2 := O3.out.size
      rcases h with h | h | h <;> omega
    · have := blk_lt T3.out.r; omega)).mono ?_
  rintro e w4 ⟨v', rfl, hv', hb'⟩
  have V4 := Aside0.mk hv'
  obtain ⟨A1', c1', A2', c2', A3', c3', rfl, _, _, _⟩ := hv'
  have T4 := Aside0.mk (T3.out.below hb')
  have R4 := Aside0.mk (R3.out.below hb')
  have O4 := Aside0.mk (O3.out.trans (.of_below hb'))
  clear hb' T3 R3 O3 V3 HST
  clear q0 q1 q2 s0 s1 s2 s3 s4 r0 r1 r2 zr
  obtain ⟨q0, q1, q2⟩ := T4.out.cb
  obtain ⟨s0, s1, s2, s3, s4⟩ := T4.out.cs
  obtain ⟨⟨r0, r1, r2⟩, zr⟩ := T4.out.cr
  obtain ⟨W2, hW2⟩ : ∃ W2, (if hit = true then ws.set p false else ws) = W2 := ⟨_, rfl⟩
  obtain ⟨G2, hG2⟩ : ∃ G2, (if hit = true then gs.set p (IntKind.u64.wrap (g0 + 1)) else gs) = G2 := ⟨_, rfl⟩
  simp only [hW2, hG2] at V4 R4 ⊢
  clear q0 q1 q2 s0 s1 s2 s3 s4
  have hGl : G < w4.heap.size := blk_lt T4.out.r
  have hGn : ¬ G = w4.heap.size := by omega
  go_wp2_with fail
  refine bodyPost_ret (results_cell_row_tmp rfl _ _ G 41 _ (0, 0) _ rfl (blk_below (set3 T4.out.r _ _ _).1 (below_alloc (Below.refl _ _) _)) Try.underlying41 rfl (by kernel_rfl)) rfl ?_
  rw [HP.out]
  exact rstep_fin (G := G) R4.out V4.out HU2.out HN.out O4.out HGE.out.2.2.1 HLT.out ((set3 T4.out.r _ _ _).2.on (below_alloc (Below.refl _ _) _))

set_option maxRecDepth 100000 in
set_option maxHeartbeats 4000000 in
theorem rstep3_no (w : World) {R BB BW BG n k : Nat} {l : List Int} {ws : List Bool} {gs : List Int} {v : Value} (kd a m x : Int) (ps : Option Addr) (ns cs : Nat) (H : RSame w R BB BW BG n k l ws gs v) (a0 : 0 ≤ a) (a1 : a < 4294967296) (x0 : 0 ≤ x) (x1 : x < 4294967296) (hp : (decide (0 ≤ m) && decide (m < k)) = false) :
    Calls Try.prog 21 #[.pointer (some ⟨R, 0, none⟩), v, .agg #[.int .i64 3, .int .u32 a, .int .i64 m, .int .u32 x, .slice ps ns cs]] w (RStepEnd w R BB BW BG n k) := by
  obtain ⟨P, hP⟩ : ∃ P, P = RStepEnd w R BB BW BG n k := ⟨_, rfl⟩
  rw [← hP]
  have HP := Aside0.mk hP
  clear hP
  obtain ⟨hr, hv, hu, hn⟩ := H
  have HN := Aside0.mk hn
  have hn1 := hn.2.1
  have hlen := hr.nl
  obtain ⟨A1, c1, A2, c2, A3, c3, rfl, v1, v2, v3⟩ := hv
  have HV0 : VRam w (XR BB BW BG) (.agg #[.slice A1 l.length c1, .slice A2 ws.length c2, .slice A3 gs.length c3]) l ws gs := ⟨A1, c1, A2, c2, A3, c3, rfl, v1, v2, v3⟩
  have HBX := Aside0.mk (rbox_new w (.slice A1 l.length c1) (.slice A2 ws.length c2) (.slice A3 gs.length c3) (.int .i64 3) (.int .u32 a) (.int .i64 m) (.int .u32 x) (.slice ps ns cs))
  obtain ⟨B, h0⟩ : ∃ B, w.heap.size = B := ⟨_, rfl⟩
  obtain ⟨D, h1⟩ : ∃ D, w.heap.size + 1 = D := ⟨_, rfl⟩
  obtain ⟨G, h2⟩ : ∃ G, w.heap.size + 1 + 1 = G := ⟨_, rfl⟩
  have HLT := Aside0.mk hr.lt
  have HR := Aside0.mk hr
  have HU := Aside0.mk hu
  have HV1 := Aside0.mk (HV0.wide (Y := XRG BB BW BG G) (fun k hk => hk.imp id (fun e => by omega)))
  have HS := Aside0.mk (And.intro h0 (And.intro h1 h2))
  have HLN := Aside0.mk hlen
  have HK : Aside0 (gs.length = k) := ⟨hr.ng⟩
  have HP3 := Aside0.mk hp
  have HMK : Aside0 (m < 0 ∨ (k : Int) ≤ m) := ⟨by
    by_cases h : 0 ≤ m
    · right; simp [h] at hp; omega
    · left; omega⟩
  clear hp
  clear hn hr HV0 hu h0 h1 h2 v1 v2 v3 hlen
  go_enter Try.func21, Try.ntmps21
  go_upto_region 1 with fail
  generalize hW : World.alloc (World.alloc (World.alloc w _) _) _ = w1
  obtain ⟨t1', b1⟩ := HBX.out w1 hW.symm
  rw [HS.out.2.2, HS.out.2.1, HS.out.1] at t1'
  have T1 := Aside0.mk t1'
  have R1 := Aside0.mk (HR.out.below b1)
  have O1 := Aside0.mk (OnlyP.of_below (P := XR BB BW BG) b1)
  have V1 := Aside0.mk (HV1.out.below b1)
  rw [HS.out.2.2, HS.out.2.1, HS.out.1]
  have HGE : Aside0 (w.heap.size ≤ B ∧ w.heap.size ≤ D ∧ w.heap.size ≤ G ∧ B ≠ G ∧ D ≠ G ∧ B ≠ D) := ⟨by have := HS.out; omega⟩
  have HXB : Aside0 (¬ XR BB BW BG B ∧ ¬ XR BB BW BG D ∧ ¬ XR BB BW BG G) := ⟨by
    have h1 := HS.out; have h2 := HLT.out
    refine ⟨?_, ?_, ?_⟩ <;> (rintro (h | h | h) <;> omega)⟩
  clear hW HBX HR HV1 b1 t1'
  obtain ⟨q0, q1, q2⟩ := T1.out.cb
  obtain ⟨s0, s1, s2, s3, s4⟩ := T1.out.cs
  obtain ⟨⟨r0, r1, r2⟩, zr⟩ := T1.out.cr
  go_wp2_with fail
  refine (watch_no m R1.out HP3.out).mono ?_
  rintro e w2 ⟨rfl, d⟩
  have T2 := Aside0.mk (T1.out.below d.below)
  have R2 := Aside0.mk (R1.out.drawn d)
  have O2 := Aside0.mk (O1.out.drawn d)
  have V2 := Aside0.mk (V1.out.below d.below)
  clear d T1 R1 O1 V1
  clear q0 q1 q2 s0 s1 s2 s3 s4 r0 r1 r2 zr
  obtain ⟨q0, q1, q2⟩ := T2.out.cb
  obtain ⟨s0, s1, s2, s3, s4⟩ := T2.out.cs
  obtain ⟨⟨r0, r1, r2⟩, zr⟩ := T2.out.cr
  rw [HK.out] at q2
  rcases HMK.out with hm | hm
  all_goals
    go_wp2_with fail
    refine bodyPost_ret (results_cell_row_tmp rfl _ _ G 41 _ (0, 0) _ rfl (set3 T2.out.r _ _ _).1 Try.underlying41 rfl (by kernel_rfl)) rfl ?_
    rw [HP.out]
    exact rstep_fin (G := G) R2.out (by have := V2.out; rw [HK.out] at this; exact this) HU.out HN.out O2.out HGE.out.2.2.1 HLT.out (set3 T2.out.r _ _ _).2

set_option maxRecDepth 100000 in
set_option maxHeartbeats 4000000 in
theorem rstep4_nil (w : World) {R BB BW BG n k : Nat} {l : List Int} {ws : List Bool} {gs : List Int} {v : Value} (kd a m x : Int) (ps : Option Addr) (ns cs : Nat) (H : RSame w R BB BW BG n k l ws gs v) (a0 : 0 ≤ a) (a1 : a < 4294967296) (x0 : 0 ≤ x) (x1 : x < 4294967296) (hns : ns = 0) :
    Calls Try.prog 21 #[.pointer (some ⟨R, 0, none⟩), v, .agg #[.int .i64 4, .int .u32 a, .int .i64 m, .int .u32 x, .slice ps ns cs]] w (RStepEnd w R BB BW BG n k) := by
  obtain ⟨P, hP⟩ : ∃ P, P = RStepEnd w R BB BW BG n k := ⟨_, rfl⟩
  rw [← hP]
  have HP := Aside0.mk hP
  clear hP
  obtain ⟨hr, hv, hu, hn⟩ := H
  have HN := Aside0.mk hn
  have hn1 := hn.2.1
  have hlen := hr.nl
  obtain ⟨A1, c1, A2, c2, A3, c3, rfl, v1, v2, v3⟩ := hv
  have HV0 : VRam w (XR BB BW BG) (.agg #[.slice A1 l.length c1, .slice A2 ws.length c2, .slice A3 gs.length c3]) l ws gs := ⟨A1, c1, A2, c2, A3, c3, rfl, v1, v2, v3⟩
  have HBX := Aside0.mk (rbox_new w (.slice A1 l.length c1) (.slice A2 ws.length c2) (.slice A3 gs.length c3) (.int .i64 4) (.int .u32 a) (.int .i64 m) (.int .u32 x) (.slice ps ns cs))
  obtain ⟨B, h0⟩ : ∃ B, w.heap.size = B := ⟨_, rfl⟩
  obtain ⟨D, h1⟩ : ∃ D, w.heap.size + 1 = D := ⟨_, rfl⟩
  obtain ⟨G, h2⟩ : ∃ G, w.heap.size + 1 + 1 = G := ⟨_, rfl⟩
  have HLT := Aside0.mk hr.lt
  have HR := Aside0.mk hr
  have HU := Aside0.mk hu
  have HV1 := Aside0.mk (HV0.wide (Y := XRG BB BW BG G) (fun k hk => hk.imp id (fun e => by omega)))
  have HS := Aside0.mk (And.intro h0 (And.intro h1 h2))
  have HLN := Aside0.mk hlen
  subst hns
  clear hn hr HV0 hu h0 h1 h2 v1 v2 v3 hlen
  go_enter Try.func21, Try.ntmps21
  go_upto_region 1 with fail
  generalize hW : World.alloc (World.alloc (World.alloc w _) _) _ = w1
  obtain ⟨t1', b1⟩ := HBX.out w1 hW.symm
  rw [HS.out.2.2, HS.out.2.1, HS.out.1] at t1'
  have T1 := Aside0.mk t1'
  have R1 := Aside0.mk (HR.out.below b1)
  have O1 := Aside0.mk (OnlyP.of_below (P := XR BB BW BG) b1)
  have V1 := Aside0.mk (HV1.out.below b1)
  rw [HS.out.2.2, HS.out.2.1, HS.out.1]
  have HGE : Aside0 (w.heap.size ≤ B ∧ w.heap.size ≤ D ∧ w.heap.size ≤ G ∧ B ≠ G ∧ D ≠ G ∧ B ≠ D) := ⟨by have := HS.out; omega⟩
  have HXB : Aside0 (¬ XR BB BW BG B ∧ ¬ XR BB BW BG D ∧ ¬ XR BB BW BG G) := ⟨by
    have h1 := HS.out; have h2 := HLT.out
    refine ⟨?_, ?_, ?_⟩ <;> (rintro (h | h | h) <;> omega)⟩
  clear hW HBX HR HV1 b1 t1'
  obtain ⟨q0, q1, q2⟩ := T1.out.cb
  obtain ⟨s0, s1, s2, s3, s4⟩ := T1.out.cs
  obtain ⟨⟨r0, r1, r2⟩, zr⟩ := T1.out.cr
  go_wp2_with fail
  refine (fill_empty _ R a ps cs).mono ?_
  rintro e w2 ⟨rfl, d⟩
  have T2 := Aside0.mk (T1.out.below d.below)
  have R2 := Aside0.mk (R1.out.drawn d)
  have O2 := Aside0.mk (O1.out.drawn d)
  have V2 := Aside0.mk (V1.out.below d.below)
  clear d T1 R1 O1 V1
  clear q0 q1 q2 s0 s1 s2 s3 s4 r0 r1 r2 zr
  obtain ⟨q0, q1, q2⟩ := T2.out.cb
  obtain ⟨s0, s1, s2, s3, s4⟩ := T2.out.cs
  obtain ⟨⟨r0, r1, r2⟩, zr⟩ := T2.out.cr
  go_wp2_with fail
  refine bodyPost_ret (results_cell_row_tmp rfl _ _ G 41 _ (0, 0) _ rfl (set3 T2.out.r _ _ _).1 Try.underlying41 rfl (by kernel_rfl)) rfl ?_
  rw [HP.out]
  exact rstep_fin (G := G) R2.out V2.out HU.out HN.out O2.out HGE.out.2.2.1 HLT.out (set3 T2.out.r _ _ _).2

set_option maxRecDepth 100000 in
set_option maxHeartbeats 4000000 in
theorem rstep4_no (w : World) {R BB BW BG n k : Nat} {l : List Int} {ws : List Bool} {gs : List Int} {v : Value} (kd a m x : Int) (ps : Option Addr) (ns cs : Nat) (H : RSame w R BB BW BG n k l ws gs v) (a0 : 0 ≤ a) (a1 : a < 4294967296) (x0 : 0 ≤ x) (x1 : x < 4294967296) (hr0 : rhas n a ns = false) (hns : ((ns : Int) == 0) = false) :
    Calls Try.prog 21 #[.pointer (some ⟨R, 0, none⟩), v, .agg #[.int .i64 4, .int .u32 a, .int .i64 m, .int .u32 x, .slice ps ns cs]] w (RStepEnd w R BB BW BG n k) := by
  obtain ⟨P, hP⟩ : ∃ P, P = RStepEnd w R BB BW BG n k := ⟨_, rfl⟩
  rw [← hP]
  have HP := Aside0.mk hP
  clear hP
  obtain ⟨hr, hv, hu, hn⟩ := H
  have HN := Aside0.mk hn
  have hn1 := hn.2.1
  have hlen := hr.nl
  obtain ⟨A1, c1, A2, c2, A3, c3, rfl, v1, v2, v3⟩ := hv
  have HV0 : VRam w (XR BB BW BG) (.agg #[.slice A1 l.length c1, .slice A2 ws.length c2, .slice A3 gs.length c3]) l ws gs := ⟨A1, c1, A2, c2, A3, c3, rfl, v1, v2, v3⟩
  have HBX := Aside0.mk (rbox_new w (.slice A1 l.length c1) (.slice A2 ws.length c2) (.slice A3 gs.length c3) (.int .i64 4) (.int .u32 a) (.int .i64 m) (.int .u32 x) (.slice ps ns cs))
  obtain ⟨B, h0⟩ : ∃ B, w.heap.size = B := ⟨_, rfl⟩
  obtain ⟨D, h1⟩ : ∃ D, w.heap.size + 1 = D := ⟨_, rfl⟩
  obtain ⟨G, h2⟩ : ∃ G, w.heap.size + 1 + 1 = G := ⟨_, rfl⟩
  have HLT := Aside0.mk hr.lt
  have HR := Aside0.mk hr
  have HU := Aside0.mk hu
  have HV1 := Aside0.mk (HV0.wide (Y := XRG BB BW BG G) (fun k hk => hk.imp id (fun e => by omega)))
  have HS := Aside0.mk (And.intro h0 (And.intro h1 h2))
  have HLN := Aside0.mk hlen
  have HR0 := Aside0.mk hr0
  clear hr0
  clear hn hr HV0 hu h0 h1 h2 v1 v2 v3 hlen
  go_enter Try.func21, Try.ntmps21
  go_upto_region 1 with fail
  generalize hW : World.alloc (World.alloc (World.alloc w _) _) _ = w1
  obtain ⟨t1', b1⟩ := HBX.out w1 hW.symm
  rw [HS.out.2.2, HS.out.2.1, HS.out.1] at t1'
  have T1 := Aside0.mk t1'
  have R1 := Aside0.mk (HR.out.below b1)
  have O1 := Aside0.mk (OnlyP.of_below (P := XR BB BW BG) b1)
  have V1 := Aside0.mk (HV1.out.below b1)
  rw [HS.out.2.2, HS.out.2.1, HS.out.1]
  have HGE : Aside0 (w.heap.size ≤ B ∧ w.heap.size ≤ D ∧ w.heap.size ≤ G ∧ B ≠ G ∧ D ≠ G ∧ B ≠ D) := ⟨by have := HS.out; omega⟩
  have HXB : Aside0 (¬ XR BB BW BG B ∧ ¬ XR BB BW BG D ∧ ¬ XR BB BW BG G) := ⟨by
    have h1 := HS.out; have h2 := HLT.out
    refine ⟨?_, ?_, ?_⟩ <;> (rintro (h | h | h) <;> omega)⟩
  clear hW HBX HR HV1 b1 t1'
  obtain ⟨q0, q1, q2⟩ := T1.out.cb
  obtain ⟨s0, s1, s2, s3, s4⟩ := T1.out.cs
  obtain ⟨⟨r0, r1, r2⟩, zr⟩ := T1.out.cr
  go_wp2_with fail
  refine (fill_no a ps ns cs R1.out hn1 a0 a1 hns HR0.out).mono ?_
  rintro e w2 ⟨rfl, d⟩
  have T2 := Aside0.mk (T1.out.below d.below)
  have R2 := Aside0.mk (R1.out.drawn d)
  have O2 := Aside0.mk (O1.out.drawn d)
  have V2 := Aside0.mk (V1.out.below d.below)
  clear d T1 R1 O1 V1
  clear q0 q1 q2 s0 s1 s2 s3 s4 r0 r1 r2 zr
  obtain ⟨q0, q1, q2⟩ := T2.out.cb
  obtain ⟨s0, s1, s2, s3, s4⟩ := T2.out.cs
  obtain ⟨⟨r0, r1, r2⟩, zr⟩ := T2.out.cr
  go_wp2_with fail
  refine (mimesisref10_Has.calls A1 c1 l a ns false _ (vram_rows V2.out).1.C (vram_rows V2.out).1.le (by rw [has_f l a ns (by have := HLN.out; omega) a0 a1, HLN.out, HR0.out])).mono ?_
  rintro e w3 ⟨rfl, d⟩
  have T3 := Aside0.mk (T2.out.below d.below)
  have R3 := Aside0.mk (R2.out.drawn d)
  have O3 := Aside0.mk (O2.out.drawn d)
  have V3 := Aside0.mk (V2.out.below d.below)
  clear d T2 R2 O2 V2
  clear q0 q1 q2 s0 s1 s2 s3 s4 r0 r1 r2 zr
  obtain ⟨q0, q1, q2⟩ := T3.out.cb
  obtain ⟨s0, s1, s2, s3, s4⟩ := T3.out.cs
  obtain ⟨⟨r0, r1, r2⟩, zr⟩ := T3.out.cr
  go_wp2_with fail
  refine bodyPost_ret (results_cell_row_tmp rfl _ _ G 41 _ (0, 0) _ rfl (set3 T3.out.r _ _ _).1 Try.underlying41 rfl (by kernel_rfl)) rfl ?_
  rw [HP.out]
  exact rstep_fin (G := G) R3.out V3.out HU.out HN.out O3.out HGE.out.2.2.1 HLT.out (set3 T3.out.r _ _ _).2

set_option maxRecDepth 100000 in
set_option maxHeartbeats 4000000 in
theorem rstep5 (w : World) {R BB BW BG n k : Nat} {l : List Int} {ws : List Bool} {gs : List Int} {v : Value} (kd a m x : Int) (ps : Option Addr) (ns cs : Nat) (H : RSame w R BB BW BG n k l ws gs v) (a0 : 0 ≤ a) (a1 : a < 4294967296) (x0 : 0 ≤ x) (x1 : x < 4294967296) (h1 : (kd == 1) = false) (h2 : (kd == 2) = false) (h3 : (kd == 3) = false) (h4 : (kd == 4) = false) :
    Calls Try.prog 21 #[.pointer (some ⟨R, 0, none⟩), v, .agg #[.int .i64 kd, .int .u32 a, .int .i64 m, .int .u32 x, .slice ps ns cs]] w (RStepEnd w R BB BW BG n k) := by
  obtain ⟨P, hP⟩ : ∃ P, P = RStepEnd w R BB BW BG n k := ⟨_, rfl⟩
  rw [← hP]
  have HP := Aside0.mk hP
  clear hP
  obtain ⟨hr, hv, hu, hn⟩ := H
  have HN := Aside0.mk hn
  have hn1 := hn.2.1
  have hlen := hr.nl
  obtain ⟨A1, c1, A2, c2, A3, c3, rfl, v1, v2, v3⟩ := hv
  have HV0 : VRam w (XR BB BW BG) (.agg #[.slice A1 l.length c1, .slice A2 ws.length c2, .slice A3 gs.length c3]) l ws gs := ⟨A1, c1, A2, c2, A3, c3, rfl, v1, v2, v3⟩
  have HBX := Aside0.mk (rbox_new w (.slice A1 l.length c1) (.slice A2 ws.length c2) (.slice A3 gs.length c3) (.int .i64 kd) (.int .u32 a) (.int .i64 m) (.int .u32 x) (.slice ps ns cs))
  obtain ⟨B, h0⟩ : ∃ B, w.heap.size = B := ⟨_, rfl⟩
  obtain ⟨D, h1⟩ : ∃ D, w.heap.size + 1 = D := ⟨_, rfl⟩
  obtain ⟨G, h2⟩ : ∃ G, w.heap.size + 1 + 1 = G := ⟨_, rfl⟩
  have HLT := Aside0.mk hr.lt
  have HR := Aside0.mk hr
  have HU := Aside0.mk hu
  have HV1 := Aside0.mk (HV0.wide (Y := XRG BB BW BG G) (fun k hk => hk.imp id (fun e => by omega)))
  have HS := Aside0.mk (And.intro h0 (And.intro h1 h2))
  have HLN := Aside0.mk hlen
  clear hn hr HV0 hu h0 h1 h2 v1 v2 v3 hlen
  go_enter Try.func21, Try.ntmps21
  go_upto_region 1 with fail
  generalize hW : World.alloc (World.alloc (World.alloc w _) _) _ = w1
  obtain ⟨t1', b1⟩ := HBX.out w1 hW.symm
  rw [HS.out.2.2, HS.out.2.1, HS.out.1] at t1'
  have T1 := Aside0.mk t1'
  have R1 := Aside0.mk (HR.out.below b1)
  have O1 := Aside0.mk (OnlyP.of_below (P := XR BB BW BG) b1)
  have V1 := Aside0.mk (HV1.out.below b1)
  rw [HS.out.2.2, HS.out.2.1, HS.out.1]
  have HGE : Aside0 (w.heap.size ≤ B ∧ w.heap.size ≤ D ∧ w.heap.size ≤ G ∧ B ≠ G ∧ D ≠ G ∧ B ≠ D) := ⟨by have := HS.out; omega⟩
  have HXB : Aside0 (¬ XR BB BW BG B ∧ ¬ XR BB BW BG D ∧ ¬ XR BB BW BG G) := ⟨by
    have h1 := HS.out; have h2 := HLT.out
    refine ⟨?_, ?_, ?_⟩ <;> (rintro (h | h | h) <;> omega)⟩
  clear hW HBX HR HV1 b1 t1'
  obtain ⟨q0, q1, q2⟩ := T1.out.cb
  obtain ⟨s0, s1, s2, s3, s4⟩ := T1.out.cs
  obtain ⟨⟨r0, r1, r2⟩, zr⟩ := T1.out.cr
  go_wp2_with fail
  refine bodyPost_ret (results_cell_row_tmp rfl _ _ G 41 _ (0, 0) _ rfl (set3 T1.out.r _ _ _).1 Try.underlying41 rfl (by kernel_rfl)) rfl ?_
  rw [HP.out]
  exact rstep_fin (G := G) R1.out V1.out HU.out HN.out O1.out HGE.out.2.2.1 HLT.out (set3 T1.out.r _ _ _).2
end Go.Proofs.Ytdalboofhckobaa
