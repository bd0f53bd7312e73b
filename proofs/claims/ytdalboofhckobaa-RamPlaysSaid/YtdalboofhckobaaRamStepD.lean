/- The statements' 'step' on a memory: a step, done by both. -/
import Derived.Test.YtdalboofhckobaaRamStepC
namespace Go.Proofs.Ytdalboofhckobaa
open Go Go.RowKit Go.Deep Go.Proofs.YtdalboofhckobaaW.PrintWords Go.Proofs.Ytdalboofhckobaa.QRamPlays
set_option linter.unusedVariables false
set_option linter.unusedSimpArgs false
/-- The box holds the bytes anew, in a row of their own. -/
def FillF (G : Nat) (A2 A3 : Option Addr) (c2 c3 : Nat) (l2 : List Int) (ws : List Bool) (gs : List Int) (base : Nat) (w : World) : Prop :=
  ∃ g c cur, w.heap[G]? = some (.cells #[.slice (some ⟨g, 0, none⟩) l2.length c, .slice A2 ws.length c2, .slice A3 gs.length c3] 41 (0, 0)) ∧ OB (Value.int .u8) 5 w base g c l2 cur
theorem FillF.below {G : Nat} {A2 A3 : Option Addr} {c2 c3 : Nat} {l2 : List Int} {ws : List Bool} {gs : List Int} {base : Nat} (x y : World) (h : FillF G A2 A3 c2 c3 l2 ws gs base x) (k : Below x.heap.size x y) : FillF G A2 A3 c2 c3 l2 ws gs base y := by
  obtain ⟨g, c, cur, h1, h2⟩ := h
  exact ⟨g, c, cur, blk_below h1 k, h2.below k⟩
def post4f (G B D : Nat) (A1 A2 A3 ps : Option Addr) (c1 c2 c3 ns cs : Nat) (l l2 : List Int) (ws : List Bool) (gs : List Int) (a : Int) (base : Nat) (i : Nat) (v : Value) (w : World) : Prop :=
  match i with
  | 0 => v = .pointer (some ⟨B, 0, none⟩)
  | 1 => v = .slice A1 l.length c1
  | 2 => v = .pointer (some ⟨D, 1, none⟩)
  | 3 => v = .int .u32 a
  | 4 => v = .pointer (some ⟨D, 4, none⟩)
  | 5 => v = .slice ps ns cs
  | 6 => ∃ g c cur, v = .slice (some ⟨g, 0, none⟩) l2.length c ∧ OB (Value.int .u8) 5 w base g c l2 cur
  | 7 => v = .pointer (some ⟨B, 1, none⟩)
  | 8 => v = .slice A2 ws.length c2
  | 9 => v = .pointer (some ⟨B, 2, none⟩)
  | 10 => v = .slice A3 gs.length c3
  | 11 => ∃ g c cur, v = .agg #[.slice (some ⟨g, 0, none⟩) l2.length c, .slice A2 ws.length c2, .slice A3 gs.length c3] ∧ OB (Value.int .u8) 5 w base g c l2 cur
  | 12 => v = .int .i64 0
  | 13 => v = .bool true
  | 14 => FillF G A2 A3 c2 c3 l2 ws gs base w
  | _ => True
theorem post4f_rg {G B D : Nat} {A1 A2 A3 ps : Option Addr} {c1 c2 c3 ns cs : Nat} {l l2 : List Int} {ws : List Bool} {gs : List Int} {a : Int} {base : Nat} (hG : G < base) (j : Nat) (v : Value) (w w' : World) (h : post4f G B D A1 A2 A3 ps c1 c2 c3 ns cs l l2 ws gs a base j v w) (k : RG G (FillF G A2 A3 c2 c3 l2 ws gs base) w w') : post4f G B D A1 A2 A3 ps c1 c2 c3 ns cs l l2 ws gs a base j v w' := by
  unfold post4f at h ⊢
  split at h
  all_goals first
    | exact h
    | exact k.2 h
    | (obtain ⟨g, c, cur, h1, h2⟩ := h; exact ⟨g, c, cur, h1, h2.only k.1 (by have := h2.hb; omega)⟩)

set_option maxRecDepth 100000 in
set_option maxHeartbeats 4000000 in
theorem rstep4_yes (w : World) {R BB BW BG n k : Nat} {l : List Int} {ws : List Bool} {gs : List Int} {v : Value} (kd a m x : Int) (ps : Option Addr) (ns cs : Nat) (H : RSame w R BB BW BG n k l ws gs v) (a0 : 0 ≤ a) (a1 : a < 4294967296) (x0 : 0 ≤ x) (x1 : x < 4294967296) (j : Nat) (bs : List Int) (a0' : 2147483648 ≤ a) (hj : a - 2147483648 = (j : Int)) (hjk : j + ns ≤ n) (hr0 : rhas n a ns = true) (hns : ((ns : Int) == 0) = false) (hbl : bs.length = ns) (hbu : U8 bs) (hsrc : VS (Value.int .u8) w (XR BB BW BG) ps cs bs) :
    Calls Try.prog 21 #[.pointer (some ⟨R, 0, none⟩), v, .agg #[.int .i64 4, .int .u32 a, .int .i64 m, .int .u32 x, .slice ps ns cs]] w (RStepEnd w R BB BW BG n k) := by
  obtain ⟨P, hP⟩ : ∃ P, P = RStepEnd w R BB BW BG n k := ⟨_, rfl⟩
  rw [← hP]
  have HP := Aside0.mk hP
  clear hP
  obtain ⟨hr, hv, hu, hn⟩ := H
  have HN := Aside0.mk hn
  have hn1 := hn.2.1
  have hlen := hr.nl
  obtain ⟨A1, c1, A2, c2, A3, c3, rfl, v1, v2, v3⟩ := hv
  have HV0 : VRam w (XR BB BW BG) (.agg #[.slice A1 l.length c1, .slice A2 ws.length c2, .slice A3 gs.length c3]) l ws gs := ⟨A1, c1, A2, c2, A3, c3, rfl, v1, v2, v3⟩
  have HBX := Aside0.mk (rbox_new w (.slice A1 l.length c1) (.slice A2 ws.length c2) (.slice A3 gs.length c3) (.int .i64 4) (.int .u32 a) (.int .i64 m) (.int .u32 x) (.slice ps ns cs))
  obtain ⟨B, h0⟩ : ∃ B, w.heap.size = B := ⟨_, rfl⟩
  obtain ⟨D, h1⟩ : ∃ D, w.heap.size + 1 = D := ⟨_, rfl⟩
  obtain ⟨G, h2⟩ : ∃ G, w.heap.size + 1 + 1 = G := ⟨_, rfl⟩
  have HLT := Aside0.mk hr.lt
  have HR := Aside0.mk hr
  have HU := Aside0.mk hu
  have HV1 := Aside0.mk (HV0.wide (Y := XRG BB BW BG G) (fun k hk => hk.imp id (fun e => by omega)))
  have HS := Aside0.mk (And.intro h0 (And.intro h1 h2))
  have HLN := Aside0.mk hlen
  have HR0 := Aside0.mk hr0
  have HBL := Aside0.mk hbl
  have HBU := Aside0.mk hbu
  have hns0 : 0 < ns := by
    have : (ns : Int) ≠ 0 := by simpa using hns
    omega
  have VS1 := Aside0.mk (hsrc.wide (Y := XRG BB BW BG G) (fun k hk => hk.imp id (fun e => by omega)))
  have HPUT : Aside0 (mimesisref10_Put.f l a bs = some (l.take j ++ bs ++ l.drop (j + ns))) := ⟨by
    rw [← hbl]
    exact put_f l bs a j a0' a1 hj (by rw [hbl, hlen]; omega) (by omega)⟩
  have HL2 : Aside0 ((l.take j ++ bs ++ l.drop (j + ns)).length = n) := ⟨by
    have := put_length l bs j (by rw [hbl, hlen]; omega)
    rw [hbl] at this
    omega⟩
  clear hr0 hbl hbu hsrc
  clear hn hr HV0 hu h0 h1 h2 v1 v2 v3 hlen
  go_enter Try.func21, Try.ntmps21
  go_upto_region 1 with fail
  generalize hW : World.alloc (World.alloc (World.alloc w _) _) _ = w1
  obtain ⟨t1', b1⟩ := HBX.out w1 hW.symm
  rw [HS.out.2.2, HS.out.2.1, HS.out.1] at t1'
  have T1 := Aside0.mk t1'
  have R1 := Aside0.mk (HR.out.below b1)
  have O1 := Aside0.mk (OnlyP.of_below (P := XR BB BW BG) b1)
  have V1 := Aside0.mk (HV1.out.below b1)
  rw [HS.out.2.2, HS.out.2.1, HS.out.1]
  have HGE : Aside0 (w.heap.size ≤ B ∧ w.heap.size ≤ D ∧ w.heap.size ≤ G ∧ B ≠ G ∧ D ≠ G ∧ B ≠ D) := ⟨by have := HS.out; omega⟩
  have HXB : Aside0 (¬ XR BB BW BG B ∧ ¬ XR BB BW BG D ∧ ¬ XR BB BW BG G) := ⟨by
    have h1 := HS.out; have h2 := HLT.out
    refine ⟨?_, ?_, ?_⟩ <;> (rintro (h | h | h) <;> omega)⟩
  clear hW HBX HR HV1 b1 t1'
  obtain ⟨q0, q1, q2⟩ := T1.out.cb
  obtain ⟨s0, s1, s2, s3, s4⟩ := T1.out.cs
  obtain ⟨⟨r0, r1, r2⟩, zr⟩ := T1.out.cr
  have VSRC1 := Aside0.mk (VS1.out.onlyP ⟨O1.out.os, O1.out.tape, O1.out.output, O1.out.size, fun k hk hn => O1.out.block k hk (fun hx => hn (.inl hx))⟩)
  have hsc := VSRC1.out.2.2 (by intro h; rw [h] at HBL; have := HBL.out; simp at this; omega)
  obtain ⟨ad, hps, hnx, hcell⟩ := hsc
  have hfl := fill_yes a j ns cs ad bs R1.out hn1 a0' a1 hns HR0.out hj hjk HBL.out hcell
  rw [← hps] at hfl
  have HFL := Aside0.mk hfl
  clear hcell VS1 hps hfl hnx ad
  go_wp2_with fail
  refine HFL.out.mono ?_
  clear HFL
  rintro e w2 ⟨rfl, r2', o2⟩
  obtain ⟨l2, hl2⟩ : ∃ l2, l.take j ++ bs ++ l.drop (j + ns) = l2 := ⟨_, rfl⟩
  rw [hl2] at r2' HPUT HL2
  have HU2 : Aside0 (U8 l2) := ⟨hl2 ▸ HU.out.put HBU.out j (j + ns)⟩
  have HL0 : Aside0 (0 < l2.length) := ⟨by have := HL2.out; have := HN.out; omega⟩
  have o2' : OnlyP (XR BB BW BG) w1 w2 := .of_only o2 (.inl rfl)
  have o2g : OnlyP (XRG BB BW BG G) w1 w2 := ⟨o2'.os, o2'.tape, o2'.output, o2'.size, fun k hk hn => o2'.block k hk (fun hx => hn (.inl hx))⟩
  have R2 := Aside0.mk r2'
  have T2 := Aside0.mk (T1.out.move o2' HXB.out.1 HXB.out.2.1 HXB.out.2.2)
  have O2 := Aside0.mk (O1.out.trans o2')
  have V2 := Aside0.mk (V1.out.onlyP o2g)
  have VSRC2 := Aside0.mk (VSRC1.out.onlyP o2g)
  clear o2 o2' o2g r2' T1 R1 O1 V1 VSRC1 hl2
  clear q0 q1 q2 s0 s1 s2 s3 s4 r0 r1 r2 zr
  obtain ⟨q0, q1, q2⟩ := T2.out.cb
  obtain ⟨s0, s1, s2, s3, s4⟩ := T2.out.cs
  obtain ⟨⟨r0, r1, r2⟩, zr⟩ := T2.out.cr
  go_wp2_with fail
  refine (mimesisref10_Has.calls A1 c1 l a ns true _ (vram_rows V2.out).1.C (vram_rows V2.out).1.le (by rw [has_f l a ns (by have := HLN.out; omega) a0 a1, HLN.out, HR0.out])).mono ?_
  rintro e w3 ⟨rfl, d⟩
  have T3 := Aside0.mk (T2.out.below d.below)
  have R3 := Aside0.mk (R2.out.drawn d)
  have O3 := Aside0.mk (O2.out.drawn d)
  have V3 := Aside0.mk (V2.out.below d.below)
  have VSRC := Aside0.mk (VSRC2.out.drawn d)
  clear d VSRC2 T2 R2 O2 V2
  clear q0 q1 q2 s0 s1 s2 s3 s4 r0 r1 r2 zr
  obtain ⟨q0, q1, q2⟩ := T3.out.cb
  obtain ⟨s0, s1, s2, s3, s4⟩ := T3.out.cs
  obtain ⟨⟨r0, r1, r2⟩, zr⟩ := T3.out.cr
  have HGW : Aside0 (G < w3.heap.size) := ⟨blk_lt T3.out.r⟩
  go_wp2_with fail
  have HT := Aside0.mk T3.out
  have HI0 : Aside0 (IG G w3 w3.drew) := ⟨(Only.refl G w3).drew, _, HT.out.r, rfl⟩
  refine wp_region_rj (by kernel_rfl) 15 (fun W' => IG G w3 W') (fun x y => RG G (FillF G A2 A3 c2 c3 l2 ws gs w3.heap.size) x y) (post4f G B D A1 A2 A3 ps c1 c2 c3 ns cs l l2 ws gs a w3.heap.size) (by kernel_rfl) (post4f_rg HGW.out) HI0.out ?step ?fin
  case step =>
    clear q0 q1 q2 s0 s1 s2 s3 s4 r0 r1 r2 zr
    intro i o hi him b W' hinv hkeep hdef hpre K hK
    have HI := Aside0.mk hinv
    have HPRE := Aside0.mk hpre
    have HKEEP := Aside0.mk hkeep
    have HKK := Aside0.mk hK
    clear hinv hpre hkeep hK hdef
    obtain rfl | rfl | rfl | rfl | rfl | rfl | rfl | rfl | rfl | rfl | rfl | rfl | rfl | rfl | rfl : i = 0 ∨ i = 1 ∨ i = 2 ∨ i = 3 ∨ i = 4 ∨ i = 5 ∨ i = 6 ∨ i = 7 ∨ i = 8 ∨ i = 9 ∨ i = 10 ∨ i = 11 ∨ i = 12 ∨ i = 13 ∨ i = 14 := by omega
    · cases hi
      have e4 : b.tmps.getD 4 undef = .pointer (some ⟨B, 0, none⟩) := HKEEP.out 4 (by kernel_rfl)
      rw [if_pos (by rfl)]
      go_simp
      exact HKK.out _ _ HI.out (RG.refl _ _ _) (by first | rfl | (simp; done))
    · cases hi
      have e179 : b.tmps.getD 179 undef = .pointer (some ⟨B, 0, none⟩) := HPRE.out 0 (by kernel_rfl) (by omega)
      have c0 : W'.cell? ⟨B, 0, none⟩ = some (.slice A1 l.length c1) := (blk_cell (blk_only HT.out.b HI.out.1 HGE.out.2.2.2.1) 0).trans rfl
      rw [if_pos (by rfl)]
      go_simp
      exact HKK.out _ _ HI.out (RG.refl _ _ _) (by first | rfl | (simp; done))
    · cases hi
      have e5 : b.tmps.getD 5 undef = .pointer (some ⟨D, 0, none⟩) := HKEEP.out 5 (by kernel_rfl)
      rw [if_pos (by rfl)]
      go_simp
      exact HKK.out _ _ HI.out (RG.refl _ _ _) (by first | rfl | (simp; done))
    · cases hi
      have e181 : b.tmps.getD 181 undef = .pointer (some ⟨D, 1, none⟩) := HPRE.out 2 (by kernel_rfl) (by omega)
      have c0 : W'.cell? ⟨D, 1, none⟩ = some (.int .u32 a) := (blk_cell (blk_only HT.out.s HI.out.1 HGE.out.2.2.2.2.1) 1).trans rfl
      rw [if_pos (by rfl)]
      go_simp
      exact HKK.out _ _ HI.out (RG.refl _ _ _) (by first | rfl | (simp; done))
    · cases hi
      have e5 : b.tmps.getD 5 undef = .pointer (some ⟨D, 0, none⟩) := HKEEP.out 5 (by kernel_rfl)
      rw [if_pos (by rfl)]
      go_simp
      exact HKK.out _ _ HI.out (RG.refl _ _ _) (by first | rfl | (simp; done))
    · cases hi
      have e183 : b.tmps.getD 183 undef = .pointer (some ⟨D, 4, none⟩) := HPRE.out 4 (by kernel_rfl) (by omega)
      have c0 : W'.cell? ⟨D, 4, none⟩ = some (.slice ps ns cs) := (blk_cell (blk_only HT.out.s HI.out.1 HGE.out.2.2.2.2.1) 4).trans rfl
      rw [if_pos (by rfl)]
      go_simp
      exact HKK.out _ _ HI.out (RG.refl _ _ _) (by first | rfl | (simp; done))
    · cases hi
      have e180 : b.tmps.getD 180 undef = .slice A1 l.length c1 := HPRE.out 1 (by kernel_rfl) (by omega)
      have e182 : b.tmps.getD 182 undef = .int .u32 a := HPRE.out 3 (by kernel_rfl) (by omega)
      have e184 : b.tmps.getD 184 undef = .slice ps ns cs := HPRE.out 5 (by kernel_rfl) (by omega)
      rw [if_pos (by rfl)]
      go_simp
      have VL := ((vram_rows V3.out).1.onlyP (.of_only HI.out.1 (.inr rfl)))
      have VB := (VSRC.out.onlyP (.of_only HI.out.1 (.inr rfl)))
      have hc := mimesisref10_Put.calls A1 c1 l a ps cs bs l2 W' VL.C VL.le VB.C VB.le HPUT.out
      rw [HBL.out] at hc
      refine hc.mono ?_
      rintro e W2 ⟨v0, rfl, hR, hb⟩
      obtain ⟨g2, c2x, cur, rfl, _, hob⟩ := OB.of_own (enc := Value.int .u8) (Kd.own_of_R hR) HL0.out
      exact HKK.out _ _ (HI.out.below hb) (.of_below FillF.below hb) ⟨g2, c2x, cur, rfl, { hob with hb := by have := hob.hb; have := HI.out.1.size; omega }⟩
    · cases hi
      have e4 : b.tmps.getD 4 undef = .pointer (some ⟨B, 0, none⟩) := HKEEP.out 4 (by kernel_rfl)
      rw [if_pos (by rfl)]
      go_simp
      exact HKK.out _ _ HI.out (RG.refl _ _ _) (by first | rfl | (simp; done))
    · cases hi
      have e186 : b.tmps.getD 186 undef = .pointer (some ⟨B, 1, none⟩) := HPRE.out 7 (by kernel_rfl) (by omega)
      have c0 : W'.cell? ⟨B, 1, none⟩ = some (.slice A2 ws.length c2) := (blk_cell (blk_only HT.out.b HI.out.1 HGE.out.2.2.2.1) 1).trans rfl
      rw [if_pos (by rfl)]
      go_simp
      exact HKK.out _ _ HI.out (RG.refl _ _ _) (by first | rfl | (simp; done))
    · cases hi
      have e4 : b.tmps.getD 4 undef = .pointer (some ⟨B, 0, none⟩) := HKEEP.out 4 (by kernel_rfl)
      rw [if_pos (by rfl)]
      go_simp
      exact HKK.out _ _ HI.out (RG.refl _ _ _) (by first | rfl | (simp; done))
    · cases hi
      have e188 : b.tmps.getD 188 undef = .pointer (some ⟨B, 2, none⟩) := HPRE.out 9 (by kernel_rfl) (by omega)
      have c0 : W'.cell? ⟨B, 2, none⟩ = some (.slice A3 gs.length c3) := (blk_cell (blk_only HT.out.b HI.out.1 HGE.out.2.2.2.1) 2).trans rfl
      rw [if_pos (by rfl)]
      go_simp
      exact HKK.out _ _ HI.out (RG.refl _ _ _) (by first | rfl | (simp; done))
    · cases hi
      have e187 : b.tmps.getD 187 undef = .slice A2 ws.length c2 := HPRE.out 8 (by kernel_rfl) (by omega)
      have e189 : b.tmps.getD 189 undef = .slice A3 gs.length c3 := HPRE.out 10 (by kernel_rfl) (by omega)
      obtain ⟨g2, cc, cur, e185, hv2⟩ := HPRE.out 6 (by kernel_rfl) (by omega)
      have e185 : b.tmps.getD 185 undef = _ := e185
      have H2 := Aside0.mk hv2
      clear hv2
      have f185 := e185
      have f187 := e187
      have f189 := e189
      rw [Array.getD_eq_getD_getElem?] at f185 f187 f189
      rw [if_pos (by rfl)]
      go_simp
      exact HKK.out _ _ HI.out (RG.refl _ _ _) ⟨g2, cc, cur, rfl, H2.out⟩
    · cases hi
      have e18 : b.tmps.getD 18 undef = .int .i64 0 := HKEEP.out 18 (by kernel_rfl)
      rw [if_pos (by rfl)]
      go_simp
      exact HKK.out _ _ HI.out (RG.refl _ _ _) (by first | rfl | (simp; done))
    · cases hi
      have e191 : b.tmps.getD 191 undef = .int .i64 0 := HPRE.out 12 (by kernel_rfl) (by omega)
      rw [if_pos (by rfl)]
      go_simp
      exact HKK.out _ _ HI.out (RG.refl _ _ _) (by first | rfl | (simp; done))
    · cases hi
      have e6 : b.tmps.getD 6 undef = .pointer (some ⟨G, 0, none⟩) := HKEEP.out 6 (by kernel_rfl)
      obtain ⟨g2, cc, cur, e190, hv2⟩ := HPRE.out 11 (by kernel_rfl) (by omega)
      have e190 : b.tmps.getD 190 undef = _ := e190
      have hf := fill_ig HI.out (.slice (some ⟨g2, 0, none⟩) l2.length cc) (.slice A2 ws.length c2) (.slice A3 gs.length c3)
      have hF : FillF G A2 A3 c2 c3 l2 ws gs w3.heap.size (W'.setCells G 0 [.slice (some ⟨g2, 0, none⟩) l2.length cc, .slice A2 ws.length c2, .slice A3 gs.length c3]) := ⟨g2, cc, cur, hf.2.2, hv2.only hf.2.1 (by have := hv2.hb; have := HGW.out; omega)⟩
      rw [if_pos (by rfl)]
      exact wp_store_mid 41 (.tmp 6) (.tmp 190) rfl G 0 _ e6 e190 (ig_there HI.out) (by kernel_rfl) (by simp [Value.oneCell']) (HKK.out undef _ hf.1 ⟨hf.2.1, fun _ => hF⟩ hF)
  case fin =>
    intro b W' hinv hsz hdef hkeep hpost
    have e192 : b.tmps.getD 192 undef = .bool true := hpost 13 (by omega)
    have k6 : b.tmps.getD 6 undef = .pointer (some ⟨G, 0, none⟩) := hkeep 6 (by kernel_rfl)
    obtain ⟨g2, cc, cur, hfin, hob⟩ := hpost 14 (by omega)
    refine rj_lastv (by kernel_rfl) rfl (by kernel_rfl) rfl (by kernel_rfl) ?_
    have hsz7 : 7 < b.tmps.size := by rw [hsz]; exact of_decide_eq_true (by kernel_rfl)
    have g6 := (putd b 7 (.bool true) 6 hsz7).trans ((if_neg (by decide)).trans k6)
    have g7 := (putd b 7 (.bool true) 7 hsz7).trans (if_pos rfl)
    go_simp
    go_wp2_with fail
    refine bodyPost_ret ((results_cell_row_tmp rfl _ _ G 41 _ (0, 0) _ g6 hfin Try.underlying41 rfl (by kernel_rfl)).trans (congrArg (fun z => Result.ok (Value.tuple #[_, z]) W') g7)) rfl ?_
    rw [HP.out]
    have hlt := HLT.out
    have hge := HGE.out
    have hgw := HGW.out
    have hxb : ∀ k, XRG BB BW BG G k → k < w3.heap.size := by
      have h1 := O3.out.size
      rintro k (h | h)
      · rcases h with h | h | h <;> omega
      · omega
    have h1 := vram_rows (V3.out.onlyP (.of_only hinv.1 (.inr rfl)))
    exact rstep_fin (G := G) (R3.out.only hinv.1 (by omega)) ⟨_, _, A2, c2, A3, c3, rfl, hob.vs hxb, h1.2.1, h1.2.2⟩ HU2.out HN.out (onlyp_new O3.out hinv.1 HGE.out.2.2.1) HGE.out.2.2.1 HLT.out (Only.refl G W')
end Go.Proofs.Ytdalboofhckobaa
