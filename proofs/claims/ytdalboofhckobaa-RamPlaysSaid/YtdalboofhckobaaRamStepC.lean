/- The statements' 'step' on a memory: a step, done by both. -/
import Derived.Test.YtdalboofhckobaaRamStepB
namespace Go.Proofs.Ytdalboofhckobaa
open Go Go.RowKit Go.Deep Go.Proofs.YtdalboofhckobaaW.PrintWords Go.Proofs.Ytdalboofhckobaa.QRamPlays
set_option linter.unusedVariables false
set_option linter.unusedSimpArgs false
theorem onlyp_new {X : Nat → Prop} {a w w' : World} {b : Nat} (h : OnlyP X a w) (o : Only b w w') (hb : a.heap.size ≤ b) : OnlyP X a w' :=
  ⟨o.os.trans h.os, o.tape.trans h.tape, o.output.trans h.output, Nat.le_trans h.size o.size, fun k hk hn => (o.block k (Nat.lt_of_lt_of_le hk h.size) (by omega)).trans (h.block k hk hn)⟩
def post3w (B : Nat) (A1 A2 A3 : Option Addr) (c1 c2 c3 : Nat) (l : List Int) (ws : List Bool) (gs : List Int) (base : Nat) (i : Nat) (v : Value) (w : World) : Prop :=
  match i with
  | 0 => v = .pointer (some ⟨B, 0, none⟩)
  | 1 => v = .slice A1 l.length c1
  | 2 => ∃ g, v = .slice (some ⟨g, 0, none⟩) 0 0
  | 3 => v = .pointer (some ⟨B, 1, none⟩)
  | 4 => v = .slice A2 ws.length c2
  | 5 => ∃ g c cur, v = .slice (some ⟨g, 0, none⟩) ws.length c ∧ OB Value.bool 4 w base g c ws cur
  | 6 => v = .pointer (some ⟨B, 2, none⟩)
  | 7 => v = .slice A3 gs.length c3
  | 8 => ∃ g c cur, v = .agg #[.slice A1 l.length c1, .slice (some ⟨g, 0, none⟩) ws.length c, .slice A3 gs.length c3] ∧ OB Value.bool 4 w base g c ws cur
  | 9 => ∃ g, v = .pointer (some ⟨g, 0, none⟩) ∧ base ≤ g ∧ w.heap[g]? = some (.cells #[.slice none 0 0, .slice none 0 0, .slice none 0 0] 41 (0, 0))
  | _ => True
theorem post3w_below {B : Nat} {A1 A2 A3 : Option Addr} {c1 c2 c3 : Nat} {l : List Int} {ws : List Bool} {gs : List Int} {base : Nat} (j : Nat) (v : Value) (w w' : World) (h : post3w B A1 A2 A3 c1 c2 c3 l ws gs base j v w) (k : Below w.heap.size w w') : post3w B A1 A2 A3 c1 c2 c3 l ws gs base j v w' := by
  unfold post3w at h ⊢
  split at h
  all_goals first
    | exact h
    | (obtain ⟨g, c, cur, h1, h2⟩ := h; exact ⟨g, c, cur, h1, h2.below k⟩)
    | (obtain ⟨g, h1, h2, h3⟩ := h; exact ⟨g, h1, h2, blk_below h3 k⟩)

set_option maxRecDepth 100000 in
set_option maxHeartbeats 4000000 in
theorem rstep3_yes (w : World) {R BB BW BG n k : Nat} {l : List Int} {ws : List Bool} {gs : List Int} {v : Value} (kd a x : Int) (ps : Option Addr) (ns cs : Nat) (H : RSame w R BB BW BG n k l ws gs v) (a0 : 0 ≤ a) (a1 : a < 4294967296) (x0 : 0 ≤ x) (x1 : x < 4294967296) (p : Nat) (hpk : p < k) :
    Calls Try.prog 21 #[.pointer (some ⟨R, 0, none⟩), v, .agg #[.int .i64 3, .int .u32 a, .int .i64 (p : Int), .int .u32 x, .slice ps ns cs]] w (RStepEnd w R BB BW BG n k) := by
  obtain ⟨P, hP⟩ : ∃ P, P = RStepEnd w R BB BW BG n k := ⟨_, rfl⟩
  rw [← hP]
  have HP := Aside0.mk hP
  clear hP
  obtain ⟨hr, hv, hu, hn⟩ := H
  have HN := Aside0.mk hn
  have hn1 := hn.2.1
  have hlen := hr.nl
  obtain ⟨A1, c1, A2, c2, A3, c3, rfl, v1, v2, v3⟩ := hv
  have HV0 : VRam w (XR BB BW BG) (.agg #[.slice A1 l.length c1, .slice A2 ws.length c2, .slice A3 gs.length c3]) l ws gs := ⟨A1, c1, A2, c2, A3, c3, rfl, v1, v2, v3⟩
  have HBX := Aside0.mk (rbox_new w (.slice A1 l.length c1) (.slice A2 ws.length c2) (.slice A3 gs.length c3) (.int .i64 3) (.int .u32 a) (.int .i64 (p : Int)) (.int .u32 x) (.slice ps ns cs))
  obtain ⟨B, h0⟩ : ∃ B, w.heap.size = B := ⟨_, rfl⟩
  obtain ⟨D, h1⟩ : ∃ D, w.heap.size + 1 = D := ⟨_, rfl⟩
  obtain ⟨G, h2⟩ : ∃ G, w.heap.size + 1 + 1 = G := ⟨_, rfl⟩
  have HLT := Aside0.mk hr.lt
  have HR := Aside0.mk hr
  have HU := Aside0.mk hu
  have HV1 := Aside0.mk (HV0.wide (Y := XRG BB BW BG G) (fun k hk => hk.imp id (fun e => by omega)))
  have HS := Aside0.mk (And.intro h0 (And.intro h1 h2))
  have HLN := Aside0.mk hlen
  have HWL : Aside0 (ws.length ≤ 1000000) := ⟨by have := hr.nw; omega⟩
  have HQL : Aside0 (0 < ws.length) := ⟨by have := hr.nw; omega⟩
  have HGL : Aside0 (gs.length = k ∧ ws.length = k) := ⟨⟨hr.ng, hr.nw⟩⟩
  clear hn hr HV0 hu h0 h1 h2 v1 v2 v3 hlen
  go_enter Try.func21, Try.ntmps21
  go_upto_region 1 with fail
  generalize hW : World.alloc (World.alloc (World.alloc w _) _) _ = w1
  obtain ⟨t1', b1⟩ := HBX.out w1 hW.symm
  rw [HS.out.2.2, HS.out.2.1, HS.out.1] at t1'
  have T1 := Aside0.mk t1'
  have R1 := Aside0.mk (HR.out.below b1)
  have O1 := Aside0.mk (OnlyP.of_below (P := XR BB BW BG) b1)
  have V1 := Aside0.mk (HV1.out.below b1)
  rw [HS.out.2.2, HS.out.2.1, HS.out.1]
  have HGE : Aside0 (w.heap.size ≤ B ∧ w.heap.size ≤ D ∧ w.heap.size ≤ G ∧ B ≠ G ∧ D ≠ G ∧ B ≠ D) := ⟨by have := HS.out; omega⟩
  have HXB : Aside0 (¬ XR BB BW BG B ∧ ¬ XR BB BW BG D ∧ ¬ XR BB BW BG G) := ⟨by
    have h1 := HS.out; have h2 := HLT.out
    refine ⟨?_, ?_, ?_⟩ <;> (rintro (h | h | h) <;> omega)⟩
  clear hW HBX HR HV1 b1 t1'
  obtain ⟨q0, q1, q2⟩ := T1.out.cb
  obtain ⟨s0, s1, s2, s3, s4⟩ := T1.out.cs
  obtain ⟨⟨r0, r1, r2⟩, zr⟩ := T1.out.cr
  go_wp2_with fail
  refine (watch_yes p R1.out hpk).mono ?_
  rintro e w2 ⟨rfl, r2', o2⟩
  have o2' : OnlyP (XR BB BW BG) w1 w2 := .of_only o2 (.inr (.inl rfl))
  have R2 := Aside0.mk r2'
  have T2 := Aside0.mk (T1.out.move o2' HXB.out.1 HXB.out.2.1 HXB.out.2.2)
  have O2 := Aside0.mk (O1.out.trans o2')
  have V2 := Aside0.mk (V1.out.onlyP ⟨o2'.os, o2'.tape, o2'.output, o2'.size, fun k hk hn => o2'.block k hk (fun hx => hn (.inl hx))⟩)
  clear o2 o2' r2' T1 R1 O1 V1
  clear q0 q1 q2 s0 s1 s2 s3 s4 r0 r1 r2 zr
  obtain ⟨q0, q1, q2⟩ := T2.out.cb
  obtain ⟨s0, s1, s2, s3, s4⟩ := T2.out.cs
  obtain ⟨⟨r0, r1, r2⟩, zr⟩ := T2.out.cr
  have hgl : ¬ ((gs.length : Int) ≤ (p : Int)) := by have := HGL.out; omega
  go_wp2_with fail
  have HT := Aside0.mk T2.out
  refine wp_region_rj (by kernel_rfl) 10 (fun W' => Below w2.heap.size w2 W') (fun x y => Below x.heap.size x y) (post3w B A1 A2 A3 c1 c2 c3 l ws gs w2.heap.size) (by kernel_rfl) post3w_below (Below.drew (Below.refl _ _)) ?step ?fin
  case step =>
    clear q0 q1 q2 s0 s1 s2 s3 s4 r0 r1 r2 zr
    intro i o hi him b W' hinv hkeep hdef hpre K hK
    have HI := Aside0.mk hinv
    have HPRE := Aside0.mk hpre
    have HKEEP := Aside0.mk hkeep
    have HKK := Aside0.mk hK
    clear hinv hpre hkeep hK hdef
    obtain rfl | rfl | rfl | rfl | rfl | rfl | rfl | rfl | rfl | rfl : i = 0 ∨ i = 1 ∨ i = 2 ∨ i = 3 ∨ i = 4 ∨ i = 5 ∨ i = 6 ∨ i = 7 ∨ i = 8 ∨ i = 9 := by omega
    · cases hi
      have e4 : b.tmps.getD 4 undef = .pointer (some ⟨B, 0, none⟩) := HKEEP.out 4 (by kernel_rfl)
      rw [if_pos (by rfl)]
      go_simp
      exact HKK.out _ _ HI.out (Below.refl _ _) (by first | rfl | (simp; done))
    · cases hi
      have e135 : b.tmps.getD 135 undef = .pointer (some ⟨B, 0, none⟩) := HPRE.out 0 (by kernel_rfl) (by omega)
      have c0 : W'.cell? ⟨B, 0, none⟩ = some (.slice A1 l.length c1) := (blk_cell (blk_below HT.out.b HI.out) 0).trans rfl
      rw [if_pos (by rfl)]
      go_simp
      exact HKK.out _ _ HI.out (Below.refl _ _) (by first | rfl | (simp; done))
    · cases hi
      rw [if_pos (by rfl)]
      go_simp
      exact HKK.out _ _ (below_alloc HI.out _) (below_alloc (Below.refl _ _) _) ⟨_, rfl⟩
    · cases hi
      have e4 : b.tmps.getD 4 undef = .pointer (some ⟨B, 0, none⟩) := HKEEP.out 4 (by kernel_rfl)
      rw [if_pos (by rfl)]
      go_simp
      exact HKK.out _ _ HI.out (Below.refl _ _) (by first | rfl | (simp; done))
    · cases hi
      have e138 : b.tmps.getD 138 undef = .pointer (some ⟨B, 1, none⟩) := HPRE.out 3 (by kernel_rfl) (by omega)
      have c0 : W'.cell? ⟨B, 1, none⟩ = some (.slice A2 ws.length c2) := (blk_cell (blk_below HT.out.b HI.out) 1).trans rfl
      rw [if_pos (by rfl)]
      go_simp
      exact HKK.out _ _ HI.out (Below.refl _ _) (by first | rfl | (simp; done))
    · cases hi
      have e139 : b.tmps.getD 139 undef = .slice A2 ws.length c2 := HPRE.out 4 (by kernel_rfl) (by omega)
      obtain ⟨g, e137⟩ := HPRE.out 2 (by kernel_rfl) (by omega)
      have e137 : b.tmps.getD 137 undef = _ := e137
      obtain ⟨i0, hi0, hz0, hz1, hz2⟩ := info_parts (show (Try.prog.info? 4).map (fun i => (i.zero, i.size, i.bytes)) = some (some (.bool false), 1, 1) by kernel_rfl)
      obtain ⟨ad, hA, hn⟩ := vs_news (((vram_rows V2.out).2.1).below HI.out) HQL.out
      have hwl := HWL.out
      refine step_append_grows rfl (.tmp 137) (.tmp 139) 38 rfl 4 i0 (.bool false) 1 1 Try.underlying38 hi0 hz0 hz1 hz2 rfl (by decide) (some ⟨g, 0, none⟩) 0 0 [] e137 (by simp) rfl (by simp) ad ws.length c2 (ws.map Value.bool) (by rw [← hA]; exact e139) (by simp) hn (by intro u hu; obtain ⟨y, _, rfl⟩ := List.mem_map.1 hu; rfl) (by have := HQL.out; omega) (by simp only [maxLen]; omega) (by omega) ?_
      intro v' W2 hown hgr
      rw [Nat.zero_add, List.nil_append] at hown
      obtain ⟨g2, cc, cur, rfl, _, hob⟩ := OB.of_own hown HQL.out
      exact HKK.out _ _ (below_on HI.out (below_of_grown hgr)) (below_of_grown hgr) ⟨g2, cc, cur, rfl, { hob with hb := by have := hob.hb; have := HI.out.size; omega }⟩
    · cases hi
      have e4 : b.tmps.getD 4 undef = .pointer (some ⟨B, 0, none⟩) := HKEEP.out 4 (by kernel_rfl)
      rw [if_pos (by rfl)]
      go_simp
      exact HKK.out _ _ HI.out (Below.refl _ _) (by first | rfl | (simp; done))
    · cases hi
      have e141 : b.tmps.getD 141 undef = .pointer (some ⟨B, 2, none⟩) := HPRE.out 6 (by kernel_rfl) (by omega)
      have c0 : W'.cell? ⟨B, 2, none⟩ = some (.slice A3 gs.length c3) := (blk_cell (blk_below HT.out.b HI.out) 2).trans rfl
      rw [if_pos (by rfl)]
      go_simp
      exact HKK.out _ _ HI.out (Below.refl _ _) (by first | rfl | (simp; done))
    · cases hi
      have e136 : b.tmps.getD 136 undef = .slice A1 l.length c1 := HPRE.out 1 (by kernel_rfl) (by omega)
      have e142 : b.tmps.getD 142 undef = .slice A3 gs.length c3 := HPRE.out 7 (by kernel_rfl) (by omega)
      obtain ⟨g2, cc, cur, e140, hv2⟩ := HPRE.out 5 (by kernel_rfl) (by omega)
      have e140 : b.tmps.getD 140 undef = _ := e140
      have H2 := Aside0.mk hv2
      clear hv2
      have f136 := e136
      have f140 := e140
      have f142 := e142
      rw [Array.getD_eq_getD_getElem?] at f136 f140 f142
      rw [if_pos (by rfl)]
      go_simp
      exact HKK.out _ _ HI.out (Below.refl _ _) ⟨g2, cc, cur, rfl, H2.out⟩
    · cases hi
      rw [if_pos (by rfl)]
      go_simp
      exact HKK.out _ _ (below_alloc HI.out _) (below_alloc (Below.refl _ _) _) ⟨_, rfl, HI.out.size, blk_new _ _⟩
  case fin =>
    intro b W' hinv hsz hdef hkeep hpost
    obtain ⟨g2, cc, cur, e143, hv2⟩ := hpost 8 (by omega)
    obtain ⟨h, e17, hh0, hhb⟩ := hpost 9 (by omega)
    have e143 : b.tmps.getD 143 undef = _ := e143
    have e17 : b.tmps.getD 17 undef = _ := e17
    have k5 : b.tmps.getD 5 undef = .pointer (some ⟨D, 0, none⟩) := hkeep 5 (by kernel_rfl)
    have k6 : b.tmps.getD 6 undef = .pointer (some ⟨G, 0, none⟩) := hkeep 6 (by kernel_rfl)
    have k16 : b.tmps.getD 16 undef = .int .i64 0 := hkeep 16 (by kernel_rfl)
    refine rj_last (by kernel_rfl) rfl (by kernel_rfl) rfl rfl (by kernel_rfl) ?_
    refine wp_store_mid 41 (.tmp 17) (.tmp 143) rfl h 0 _ e17 e143 (fun j hj => ?_) (by kernel_rfl) (by simp [Value.oneCell']) ?_
    · have hj' : j < 3 := hj
      rw [Nat.zero_add]
      exact ⟨by rw [cell_of_row W' h j _ _ _ hhb]; simp [hj'], blk_frozen hhb j⟩
    have hs := store3 hhb (by rfl) (.slice A1 l.length c1) (.slice (some ⟨g2, 0, none⟩) ws.length cc) (.slice A3 gs.length c3)
    have hg2 : g2 ≠ h := by rintro rfl; have := hv2.hh.symm.trans hhb; injection this with this; injection this with _ h2; exact absurd h2 (by decide)
    have hv2' := hv2.only hs.2 hg2
    have hbw : Below w2.heap.size w2 (World.setCells W' h 0 _) := hs.2.below hh0 hinv
    have hgh : g2 ≠ h := hg2
    have hge : w2.heap.size ≤ g2 ∧ w2.heap.size ≤ h := ⟨hv2.hb, hh0⟩
    generalize World.setCells W' h 0 _ = W2 at hs hv2' hbw ⊢
    have H2 := Aside0.mk hv2'
    have HHB := Aside0.mk hs.1
    have BW2 := Aside0.mk hbw
    have T3 := Aside0.mk (HT.out.below hbw)
    have R3 := Aside0.mk (R2.out.below hbw)
    have O3 := Aside0.mk (O2.out.trans (.of_below hbw))
    have V3 := Aside0.mk (V2.out.below hbw)
    have HGE2 := Aside0.mk (And.intro hgh hge)
    have HGT : Aside0 (G < w2.heap.size ∧ D < w2.heap.size) := ⟨blk_lt T2.out.r, blk_lt T2.out.s⟩
    obtain ⟨sl, hlit, hsl⟩ := act_let b 194 hsz
    rw [hdef] at hlit
    rw [← hsl] at k5 k6 k16 e17
    simp only [show List.range 194 = [0, 1, 2, 3, 4, 5, 6, 7, 8, 9, 10, 11, 12, 13, 14, 15, 16, 17, 18, 19, 20, 21, 22, 23, 24, 25, 26, 27, 28, 29, 30, 31, 32, 33, 34, 35, 36, 37, 38, 39, 40, 41, 42, 43, 44, 45, 46, 47, 48, 49, 50, 51, 52, 53, 54, 55, 56, 57, 58, 59, 60, 61, 62, 63, 64, 65, 66, 67, 68, 69, 70, 71, 72, 73, 74, 75, 76, 77, 78, 79, 80, 81, 82, 83, 84, 85, 86, 87, 88, 89, 90, 91, 92, 93, 94, 95, 96, 97, 98, 99, 100, 101, 102, 103, 104, 105, 106, 107, 108, 109, 110, 111, 112, 113, 114, 115, 116, 117, 118, 119, 120, 121, 122, 123, 124, 125, 126, 127, 128, 129, 130, 131, 132, 133, 134, 135, 136, 137, 138, 139, 140, 141, 142, 143, 144, 145, 146, 147, 148, 149, 150, 151, 152, 153, 154, 155, 156, 157, 158, 159, 160, 161, 162, 163, 164, 165, 166, 167, 168, 169, 170, 171, 172, 173, 174, 175, 176, 177, 178, 179, 180, 181, 182, 183, 184, 185, 186, 187, 188, 189, 190, 191, 192, 193] from rfl, List.map_cons, List.map_nil, k5, k6, k16, e17] at hlit
    change Exit.then _ _ Exit.normal b W2
    rw [hlit]
    clear hkeep hsz hdef k5 k6 k16 e17 e143 hsl hlit hpost hinv hs hv2 hv2' hbw hgh hge hg2 hh0 hhb q0 q1 q2 s0 s1 s2 s3 s4 r0 r1 r2 zr
    have hpl : (p : Int) < (ws.length : Int) := by have := HGL.out; omega
    have c1' : W2.cell? ⟨h, 1, none⟩ = some (.slice (some ⟨g2, 0, none⟩) ws.length cc) := (blk_cell HHB.out 1).trans rfl
    have s2 : W2.cell? ⟨D, 2, none⟩ = some (.int .i64 (p : Int)) := T3.out.cs.2.2.1
    have hpe : ws[p]? = some (ws[p]'(by omega)) := List.getElem?_eq_getElem (by omega)
    have cp := H2.out.cell hpe
    have zp := blk_frozen H2.out.hh p
    generalize ws[p]'_ = b0 at cp hpe
    have OS := Aside0.mk ((Only.refl g2 W2).setCell p (.bool true))
    have HH4 := Aside0.mk (blk_only HHB.out OS.out HGE2.out.1.symm)
    have H4 := Aside0.mk (H2.out.set p true)
    have T4r := Aside0.mk (blk_only T3.out.r OS.out (by have := HGE2.out.2.1; have := HGT.out.1; omega))
    have d0 : (W2.setCell ⟨g2, p, none⟩ (.bool true)).cell? ⟨h, 0, none⟩ = some (.slice A1 l.length c1) := (blk_cell HH4.out 0).trans rfl
    have d1 : (W2.setCell ⟨g2, p, none⟩ (.bool true)).cell? ⟨h, 1, none⟩ = some (.slice (some ⟨g2, 0, none⟩) ws.length cc) := (blk_cell HH4.out 1).trans rfl
    have d2 : (W2.setCell ⟨g2, p, none⟩ (.bool true)).cell? ⟨h, 2, none⟩ = some (.slice A3 gs.length c3) := (blk_cell HH4.out 2).trans rfl
    have r0 : (W2.setCell ⟨g2, p, none⟩ (.bool true)).cell? ⟨G, 0, none⟩ = some (.slice none 0 0) := (blk_cell T4r.out 0).trans rfl
    have r1 : (W2.setCell ⟨g2, p, none⟩ (.bool true)).cell? ⟨G, 1, none⟩ = some (.slice none 0 0) := (blk_cell T4r.out 1).trans rfl
    have r2 : (W2.setCell ⟨g2, p, none⟩ (.bool true)).cell? ⟨G, 2, none⟩ = some (.slice none 0 0) := (blk_cell T4r.out 2).trans rfl
    have zr := blk_frozen T4r.out
    have S := Aside0.mk (set3 T4r.out (.slice A1 l.length c1) (.slice (some ⟨g2, 0, none⟩) ws.length cc) (.slice A3 gs.length c3))
    go_wp2_with fail
    refine bodyPost_ret (results_cell_row_tmp rfl _ _ G 41 _ (0, 0) _ rfl S.out.1 Try.underlying41 rfl (by kernel_rfl)) rfl ?_
    rw [HP.out]
    have hlt := HLT.out
    have hge := HGE.out
    have hgt := HGT.out
    have hg2 := HGE2.out
    have hxb : ∀ k, XRG BB BW BG G k → k < w2.heap.size := by
      have h1 := O2.out.size
      rintro k (h | h)
      · rcases h with h | h | h <;> omega
      · omega
    have r4 := R3.out.only OS.out (by omega)
    have v4 : VRam (W2.setCell ⟨g2, p, none⟩ (.bool true)) (XRG BB BW BG G) (.agg #[.slice A1 l.length c1, .slice (some ⟨g2, 0, none⟩) ws.length cc, .slice A3 gs.length c3]) l (ws.set p true) gs := by
      have h1 := vram_rows V2.out
      have h2 : Below w2.heap.size w2 (W2.setCell ⟨g2, p, none⟩ (.bool true)) := OS.out.below hg2.2.1 BW2.out
      exact ⟨A1, c1, _, cc, A3, c3, by simp, h1.1.below h2, H4.out.vs hxb, h1.2.2.below h2⟩
    have o4 : OnlyP (XR BB BW BG) w (W2.setCell ⟨g2, p, none⟩ (.bool true)) := onlyp_new O3.out OS.out (by have := O2.out.size; omega)
    exact rstep_fin (G := G) r4 v4 HU.out HN.out o4 HGE.out.2.2.1 HLT.out S.out.2
end Go.Proofs.Ytdalboofhckobaa
