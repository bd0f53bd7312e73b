/- The walk of RamPlays. -/
import Derived.Test.YtdalboofhckobaaRamSame
import Derived.Test.YtdalboofhckobaaRamAwake
import Derived.Test.YtdalboofhckobaaOpensMix
import Derived.Deep.RegionWith
namespace Go.Proofs.Ytdalboofhckobaa
open Go Go.RowKit Go.Deep Go.Proofs.YtdalboofhckobaaW.PrintWords Go.Proofs.Ytdalboofhckobaa.QRamPlays
set_option linter.unusedVariables false
set_option linter.unusedSimpArgs false

theorem rr_f (n : Int) : mimesisref10_Right.f n = some (decide (64 ≤ n) && decide (n ≤ 65536) && (n % 64 == 0)) := by
  unfold mimesisref10_Right.f
  by_cases h1 : 64 ≤ n
  · by_cases h2 : n ≤ 65536
    · rw [if_pos h1, if_pos h2, Int.tmod_eq_emod_of_nonneg (by omega)]; simp [h1, h2]
    · rw [if_pos h1, if_neg h2]; simp [h2]
  · rw [if_neg h1]; simp [h1]
/-- A row of bytes that came in, as a source. -/
theorem src_of_row {W w : World} {BB BW BG : Nat} {p : Option Addr} {len cap : Nat} {zs : List Int} (h : IsRow .u8 W p len cap zs) (hb : Below W.heap.size W w) (h1 : W.heap.size ≤ BB) (h2 : W.heap.size ≤ BW) (h3 : W.heap.size ≤ BG) :
    VS (Value.int .u8) w (XR BB BW BG) p cap (zs.take len) ∧ (zs.take len).length = len ∧ U8 (zs.take len) := by
  rcases h with ⟨rfl, rfl, rfl, rfl⟩ | ⟨x, rfl, hl, hm, hz, hc, hw⟩
  · exact ⟨⟨by simp, by simp, fun h => absurd rfl h⟩, rfl, fun x hx => by simp at hx⟩
  · have hlen : (zs.take len).length = len := by rw [List.length_take]; omega
    refine ⟨⟨by omega, by unfold maxLen at hm; omega, fun hq => ⟨x, rfl, ?_, fun i y hy => ?_⟩⟩, hlen, fun y hy => ?_⟩
    · have hlt : 0 < len := by
        rcases Nat.eq_zero_or_pos len with h | h
        · rw [h] at hq; simp at hq
        · exact h
      have := World.block_lt_of_cell? W _ (hc 0 (by omega))
      rw [vs_block_add] at this
      rintro (h | h | h) <;> omega
    · rw [List.getElem?_take] at hy
      split at hy
      · have hi : i < zs.length := (List.getElem?_eq_some_iff.1 hy).1
        have := hc i hi
        rw [List.getD_eq_getElem?_getD, hy] at this
        exact pw_cell_below hb this
      · cases hy
    · have := hw y (List.mem_of_mem_take hy)
      simp [Lit.wf, IntKind.min, IntKind.max, IntKind.bits, IntKind.signed] at this
      omega
theorem VRam.apart {w : World} {X : Nat → Prop} {v : Value} {l : List Int} {ws : List Bool} {gs : List Int} {G t : Nat} {a b c : Value} {fr : Nat × Nat} (h : VRam w X v l ws gs) (hb : w.heap[G]? = some (.cells #[a, b, c] t fr)) (ha : ∃ p n c, a = .slice p n c) (hb' : ∃ p n c, b = .slice p n c) (hc : ∃ p n d, c = .slice p n d) : VRam w (fun k => X k ∨ k = G) v l ws gs := by
  obtain ⟨A1, c1, A2, c2, A3, c3, rfl, h1, h2, h3⟩ := h
  obtain ⟨_, _, _, rfl⟩ := ha
  obtain ⟨_, _, _, rfl⟩ := hb'
  obtain ⟨_, _, _, rfl⟩ := hc
  exact ⟨A1, c1, A2, c2, A3, c3, rfl, h1.apart hb (fun i y => by rcases i with _ | _ | _ | i <;> simp), h2.apart hb (fun i y => by rcases i with _ | _ | _ | i <;> simp), h3.apart hb (fun i y => by rcases i with _ | _ | _ | i <;> simp)⟩
/-- A store into block G, none of the memory's. -/
theorem RSame.store {w : World} {R BB BW BG n k G : Nat} {l : List Int} {ws : List Bool} {gs : List Int} {v : Value} {a b c : Value} (h : RSame w R BB BW BG n k l ws gs v) (hG : w.heap[G]? = some (.cells #[a, b, c] 41 (0, 0))) (ha : ∃ p n c, a = .slice p n c) (hb' : ∃ p n c, b = .slice p n c) (hc : ∃ p n d, c = .slice p n d) (hne : G ≠ R ∧ G ≠ BB ∧ G ≠ BW ∧ G ≠ BG) (x y z : Value) :
    ∀ wn, wn = ((w.setCell ⟨G, 0, none⟩ x).setCell ⟨G, 1, none⟩ y).setCell ⟨G, 2, none⟩ z → RSame wn R BB BW BG n k l ws gs v ∧ wn.heap[G]? = some (.cells #[x, y, z] 41 (0, 0)) ∧ Only G w wn := by
  rintro wn rfl
  have s := set3 hG x y z
  exact ⟨⟨h.r.only s.2 hne, ((h.v.apart hG ha hb' hc).onlyP (.of_only s.2 (.inr rfl))).wide fun k hk => .inl (.inl hk), h.u, h.n0⟩, s.1, s.2⟩
theorem xr_cell {X : Nat → Prop} {w w' : World} {a : Addr} {v : Value} (ho : OnlyP X w w') (hv : w.cell? a = some v) (hn : ¬ X a.block) : w'.cell? a = some v := by
  have h := ho.block a.block (World.block_lt_of_cell? w a hv) hn
  unfold World.cell? at hv ⊢
  rw [h]; exact hv
theorem xr_fresh {X : Nat → Prop} {a w : World} {b i : Nat} {u : Value} (h : OnlyP X a w) (hb : a.heap.size ≤ b) : OnlyP X a (w.setCell ⟨b, i, none⟩ u) := onlyp_new h ((Only.refl b w).setCell i u) hb

set_option maxHeartbeats 4000000 in
set_option maxRecDepth 100000 in
theorem rplays_no (n : Int) (A : Option Addr) (len cap : Nat) (W : World) (hl : len ≤ 9223372036854775807) (hR : (decide (64 ≤ n) && decide (n ≤ 65536) && (n % 64 == 0)) = false ∨ 1024 < n ∨ 100 < len) :
    Calls Try.prog 5 #[.int .i64 n, .slice A len cap] W fun e w' => e = .returned (.bool true) ∧ Below W.heap.size W w' := by
  obtain ⟨r, hr⟩ : ∃ r, (decide (64 ≤ n) && decide (n ≤ 65536) && (n % 64 == 0)) = r := ⟨_, rfl⟩
  have HR := Aside0.mk (hr ▸ rr_f n)
  rw [hr] at hR
  clear hr
  cases r
  · clear hR
    have B0 := Aside0.mk (Below.refl W.heap.size W)
    go_enter Try.func5, Try.ntmps5
    go_wp2_with fail
    refine (mimesisref10_Right.calls _ _ _ HR.out).mono ?_
    rintro e w1 ⟨rfl, d⟩
    have B1 := Aside0.mk (drawn_below' B0.out d)
    clear d B0
    go_wp2_with fail
    refine (ram_awake_calls _).mono ?_
    rintro e w2 ⟨rfl, d⟩
    have B2 := Aside0.mk (below_on B1.out d)
    clear d B1
    go_wp2_with fail
    go_ret
    exact ⟨by simp, B2.out⟩
  · simp at hR
    by_cases hn : 1024 < n
    · clear hR
      have hn' : (1024 < n) = True := by simp [hn]
      clear hn
      have B3 := Aside0.mk (Below.refl W.heap.size W)
      go_enter Try.func5, Try.ntmps5
      go_wp2_with fail
      refine (mimesisref10_Right.calls _ _ _ HR.out).mono ?_
      rintro e w3 ⟨rfl, d⟩
      have B4 := Aside0.mk (drawn_below' B3.out d)
      clear d B3
      go_wp2_with fail
      refine (ram_awake_calls _).mono ?_
      rintro e w4 ⟨rfl, d⟩
      have B5 := Aside0.mk (below_on B4.out d)
      clear d B4
      go_wp2_with fail
      go_ret
      exact ⟨by simp, B5.out⟩
    · have hn' : (1024 < n) = False := by simp [hn]
      have hl' : ((100 : Int) < (len : Int)) = True := by simp; omega
      clear hn hR
      have B6 := Aside0.mk (Below.refl W.heap.size W)
      go_enter Try.func5, Try.ntmps5
      go_wp2_with fail
      refine (mimesisref10_Right.calls _ _ _ HR.out).mono ?_
      rintro e w5 ⟨rfl, d⟩
      have B7 := Aside0.mk (drawn_below' B6.out d)
      clear d B6
      go_wp2_with fail
      refine (ram_awake_calls _).mono ?_
      rintro e w6 ⟨rfl, d⟩
      have B8 := Aside0.mk (below_on B7.out d)
      clear d B7
      go_wp2_with fail
      go_ret
      exact ⟨by simp, B8.out⟩

theorem add_field5 (a : Addr) (i j : Nat) (h : 0 < j) : a.add (i + j) = ⟨(a.add i).block, (a.add i).off + j, none⟩ := by
  rw [← Go.Deep.add_add]
  obtain ⟨bk, off, z⟩ := a.add i
  unfold Addr.add
  rw [if_neg (by omega)]
set_option maxHeartbeats 4000000 in
set_option maxRecDepth 100000 in
theorem rplays_yes (n : Nat) (A : Option Addr) (len cap : Nat) (f : Nat → Nat → Int) (p : Nat → Option Addr) (nn c : Nat → Nat) (bb : Nat → List Int) (W : World) (h0 : 64 ≤ n) (h1 : n ≤ 1024) (h2 : n % 64 = 0) (hl : len ≤ 100) (hf : IsMix [.i64, .u32, .i64, .u32] W A len cap f p nn c bb) :
    Calls Try.prog 5 #[.int .i64 (n : Int), .slice A len cap] W fun e w' => e = .returned (.bool true) ∧ Below W.heap.size W w' := by
  have HF := Aside0.mk hf
  have hcap := hf.le
  have HR : Aside0 (mimesisref10_Right.f (n : Int) = some true) := ⟨by
    rw [rr_f]
    have a : (n : Int) % 64 = 0 := by omega
    simp [a]; omega⟩
  obtain ⟨k, hk⟩ : ∃ k, n / 64 = k := ⟨_, rfl⟩
  have HNK : Aside0 (64 ≤ n ∧ n ≤ 65536 ∧ k * 64 = n) := ⟨by omega⟩
  have HNW : Aside0 (mimesisref10_New.f (n : Int) = some (List.replicate n 0, List.replicate k false, List.replicate k 0)) := ⟨by
    unfold mimesisref10_New.f
    have e1 : wrap64 (Int.tdiv (n : Int) 64) = (k : Int) := by
      rw [show Int.tdiv (n : Int) 64 = ((n / 64 : Nat) : Int) from rfl, hk]; unfold wrap64; omega
    rw [e1, Int.toNat_natCast, Int.toNat_natCast, if_pos (by omega), if_pos (by omega), if_pos (by omega), if_pos (by omega), if_pos (by omega)]⟩
  have hn' : ((1024 : Int) < (n : Int)) = False := by simp; omega
  have hl' : ((100 : Int) < (len : Int)) = False := by simp; omega
  have HNEW := Aside0.mk (fun w => hk ▸ new_yes w n h0 (by omega) h2)
  clear hf h2 hk
  have B0 := Aside0.mk (Below.refl W.heap.size W)
  go_enter Try.func5, Try.ntmps5
  go_wp2_with fail
  refine (mimesisref10_Right.calls _ _ _ HR.out).mono ?_
  rintro e w1 ⟨rfl, d1⟩
  have B1 := Aside0.mk (drawn_below' B0.out d1)
  clear d1 B0
  go_wp2_with fail
  refine (HNEW.out w1).mono ?_
  rintro e w2 ⟨rfl, ⟨BB, BW, BG, b1, b2, b3, hm⟩, hb2⟩
  obtain ⟨R, hR⟩ : ∃ R, w1.heap.size + 1 + 1 + 1 = R := ⟨_, rfl⟩
  rw [hR] at hm ⊢
  have H2 := Aside0.mk hm
  have B2 := Aside0.mk (below_on B1.out hb2)
  have HGE : Aside0 (W.heap.size ≤ R ∧ W.heap.size ≤ BB ∧ W.heap.size ≤ BW ∧ W.heap.size ≤ BG) := ⟨by have := B1.out.size; omega⟩
  clear hm hb2 b1 b2 b3 hR HNEW B1
  go_wp2_with fail
  have HLT := Aside0.mk H2.out.lt
  refine (mimesisref10_New.calls _ _ _ _ _ HNW.out).mono ?_
  rintro e w3 ⟨v0, v1, v2, rfl, hr1, hr2, hr3, hb⟩
  have hX : ∀ k, XR BB BW BG k → k < w2.heap.size := by
    have h1 := HLT.out
    rintro k (h | h | h) <;> omega
  obtain ⟨A1, c1, rfl, hv1⟩ := VS.of_R (X := XR BB BW BG) hr1 hX
  obtain ⟨A2, c2, rfl, hv2⟩ := VS.of_R (X := XR BB BW BG) hr2 hX
  obtain ⟨A3, c3, rfl, hv3⟩ := VS.of_R (X := XR BB BW BG) hr3 hX
  have S3 : Aside0 (RSame w3 R BB BW BG n k (List.replicate n 0) (List.replicate k false) (List.replicate k 0) (.agg #[.slice A1 (List.replicate n (0 : Int)).length c1, .slice A2 (List.replicate k false).length c2, .slice A3 (List.replicate k (0 : Int)).length c3])) := ⟨⟨H2.out.below hb, ⟨A1, c1, A2, c2, A3, c3, rfl, hv1, hv2, hv3⟩, U8.zero n, HNK.out⟩⟩
  have B3 := Aside0.mk (below_on B2.out hb)
  have HLT3 : Aside0 (R < w3.heap.size ∧ BB < w3.heap.size ∧ BW < w3.heap.size ∧ BG < w3.heap.size) := ⟨by have := HLT.out; have := hb.size; omega⟩
  clear hX hr1 hr2 hr3 hv1 hv2 hv3 hb H2 B2 HLT HNW HR
  obtain ⟨l0, hl0⟩ : ∃ l0, List.replicate n (0 : Int) = l0 := ⟨_, rfl⟩
  obtain ⟨ws0, hws0⟩ : ∃ ws0, List.replicate k false = ws0 := ⟨_, rfl⟩
  obtain ⟨gs0, hgs0⟩ : ∃ gs0, List.replicate k (0 : Int) = gs0 := ⟨_, rfl⟩
  rw [hl0, hws0, hgs0] at S3
  simp only [hl0, hws0, hgs0]
  clear hl0 hws0 hgs0
  have S4 := Aside0.mk (S3.out.below (below_alloc (Below.refl _ _) (.cells #[.slice A1 l0.length c1, .slice A2 ws0.length c2, .slice A3 gs0.length c3] 41)))
  have G4 := Aside0.mk (blk_new w3 (.cells #[.slice A1 l0.length c1, .slice A2 ws0.length c2, .slice A3 gs0.length c3] 41))
  have B4 := Aside0.mk (below_alloc B3.out (.cells #[.slice A1 l0.length c1, .slice A2 ws0.length c2, .slice A3 gs0.length c3] 41))
  have hg0 := B3.out.size
  obtain ⟨G, hG⟩ : ∃ G, w3.heap.size = G := ⟨_, rfl⟩
  have HG1 : Aside0 (G ≠ R ∧ G ≠ BB ∧ G ≠ BW ∧ G ≠ BG ∧ W.heap.size ≤ G) := ⟨by have := HLT3.out; omega⟩
  obtain ⟨w4, hw4⟩ : ∃ w4, w3.alloc (.cells #[.slice A1 l0.length c1, .slice A2 ws0.length c2, .slice A3 gs0.length c3] 41) = w4 := ⟨_, rfl⟩
  rw [hG, hw4] at G4
  rw [hw4] at S4 B4
  have HGW := Aside0.mk (And.intro hG hw4)
  clear hG hw4 S3 B3 HLT3 hg0
  go_wp2_with fail
  rw [HGW.out.1, HGW.out.2]
  clear HGW
  go_loopg [8] (len + 1) (fun g i wr => ∃ (q : Nat) (l : List Int) (ws : List Bool) (gs : List Int) (A1 : Option Addr) (c1 : Nat) (A2 : Option Addr) (c2 : Nat) (A3 : Option Addr) (c3 : Nat), g + q = len + 1 ∧ q ≤ len ∧ i = .int .i64 (q : Int) ∧ Aside0 (RSame wr R BB BW BG n k l ws gs (.agg #[.slice A1 l.length c1, .slice A2 ws.length c2, .slice A3 gs.length c3])) ∧ Aside0 (wr.heap[G]? = some (.cells #[.slice A1 l.length c1, .slice A2 ws.length c2, .slice A3 gs.length c3] 41 (0, 0))) ∧ Aside0 (Below W.heap.size W wr))
  case atStart => exact ⟨0, l0, ws0, gs0, A1, c1, A2, c2, A3, c3, by omega, by omega, rfl, S4, G4, B4⟩
  case round =>
    obtain ⟨q, l, ws, gs, A1, c1, A2, c2, A3, c3, hgq, hq, rfl, hS, hG, hB⟩ := hrel
    obtain ⟨wo, rfl⟩ : ∃ wo : World, wo = wr := ⟨_, rfl⟩
    clear S4 G4 B4
    by_cases hlt : q < len
    · have hlt' : ((q : Int) < (len : Int)) = True := by simp; omega
      obtain ⟨y, hy, hc, hc4, hrow⟩ := HF.out.at_ hlt
      subst hy
      have HYW : (y.add (q * 5)).block < W.heap.size := World.block_lt_of_cell? W (y.add (q * 5)) (hc 0 .i64 rfl).1
      have s0 := pw_cell_below hB.out (hc 0 .i64 rfl).1
      have s1 := pw_cell_below hB.out (hc 1 .u32 rfl).1
      have s2 := pw_cell_below hB.out (hc 2 .i64 rfl).1
      have s3 := pw_cell_below hB.out (hc 3 .u32 rfl).1
      have s4 := pw_cell_below hB.out hc4
      have w1' := (hc 1 .u32 rfl).2
      have w3' := (hc 3 .u32 rfl).2
      simp [Lit.wf, IntKind.min, IntKind.max, IntKind.bits, IntKind.signed] at w1' w3'
      change wo.cell? (y.add (q * 5)) = _ at s0
      change wo.cell? (y.add (q * 5 + 1)) = _ at s1
      change wo.cell? (y.add (q * 5 + 2)) = _ at s2
      change wo.cell? (y.add (q * 5 + 3)) = _ at s3
      change wo.cell? (y.add (q * 5 + 4)) = _ at s4
      rw [add_field5 _ _ _ (by omega)] at s1 s2 s3 s4
      have HSRC : Aside0 (∀ w', Below W.heap.size W w' → VS (Value.int .u8) w' (XR BB BW BG) (p q) (c q) ((bb q).take (nn q)) ∧ ((bb q).take (nn q)).length = nn q ∧ U8 ((bb q).take (nn q))) := ⟨fun w' hw => src_of_row hrow hw HGE.out.2.1 HGE.out.2.2.1 HGE.out.2.2.2⟩
      generalize f q 0 = z0 at s0
      generalize f q 1 = z1 at s1 w1'
      generalize f q 2 = z2 at s2
      generalize f q 3 = z3 at s3 w3'
      generalize p q = pp at s4 HSRC hrow
      generalize c q = cc at s4 HSRC hrow
      generalize (bb q).take (nn q) = bs at HSRC
      generalize nn q = nq at s4 HSRC hrow
      have HYB : Aside0 (∀ i, XR BB BW BG i → i ≠ (y.add (q * 5)).block) := ⟨fun i hi e => by
        have h1 := HGE.out
        rcases hi with h | h | h <;> omega⟩
      clear hc hc4 hrow HYW
      go_upto_region 10 with fail
      have HSTEP := Aside0.mk (fun w' (d : Below wo.heap.size wo w') => rstep_calls w' z0 z1 z2 z3 pp nq cc bs (hS.out.below d) w1'.1 (by omega) w3'.1 (by omega) (HSRC.out w' (below_on hB.out d)).1 (HSRC.out w' (below_on hB.out d)).2.1 (HSRC.out w' (below_on hB.out d)).2.2)
      obtain ⟨c0, c1', c2'⟩ : wo.cell? ⟨G, 0, none⟩ = some (.slice A1 l.length c1) ∧ wo.cell? ⟨G, 1, none⟩ = some (.slice A2 ws.length c2) ∧ wo.cell? ⟨G, 2, none⟩ = some (.slice A3 gs.length c3) := ⟨(blk_cell hG.out 0).trans rfl, (blk_cell hG.out 1).trans rfl, (blk_cell hG.out 2).trans rfl⟩
      have HX1 : Aside0 (∀ i, XR BB BW BG i → i < wo.heap.size) := ⟨fun i hi => by have h := hS.out.r.lt; rcases hi with h' | h' | h' <;> omega⟩
      have HXG : Aside0 (¬ XR BB BW BG G) := ⟨by have h := HG1.out; rintro (h' | h' | h') <;> omega⟩
      have KEEP : Aside0 (∀ w', OnlyP (XR BB BW BG) wo w' → w'.cell? ⟨G, 0, none⟩ = some (.slice A1 l.length c1) ∧ w'.cell? ⟨G, 1, none⟩ = some (.slice A2 ws.length c2) ∧ w'.cell? ⟨G, 2, none⟩ = some (.slice A3 gs.length c3) ∧ w'.cell? (y.add (q * 5)) = some (.int .i64 z0) ∧ w'.cell? ⟨(y.add (q * 5)).block, (y.add (q * 5)).off + 1, none⟩ = some (.int .u32 z1) ∧ w'.cell? ⟨(y.add (q * 5)).block, (y.add (q * 5)).off + 2, none⟩ = some (.int .i64 z2) ∧ w'.cell? ⟨(y.add (q * 5)).block, (y.add (q * 5)).off + 3, none⟩ = some (.int .u32 z3) ∧ w'.cell? ⟨(y.add (q * 5)).block, (y.add (q * 5)).off + 4, none⟩ = some (.slice pp nq cc) ∧ OnlyP (XR BB BW BG) wo w') := ⟨fun w' ho => by
        have hg := (ho.block G (blk_lt hG.out) HXG.out).trans hG.out
        have hm : ∀ {a : Addr} {v : Value}, a.block = (y.add (q * 5)).block → wo.cell? a = some v → w'.cell? a = some v := fun {a v} ha hv => xr_cell ho hv (by rw [ha]; exact fun h => HYB.out _ h rfl)
        exact ⟨(blk_cell hg 0).trans rfl, (blk_cell hg 1).trans rfl, (blk_cell hg 2).trans rfl, hm rfl s0, hm rfl s1, hm rfl s2, hm rfl s3, hm rfl s4, ho⟩⟩
      obtain ⟨NN, hNN⟩ : ∃ NN, wo.heap.size = NN := ⟨_, rfl⟩
      go_region_held3 (fun w' => w'.cell? ⟨G, 0, none⟩ = some (.slice A1 l.length c1) ∧ w'.cell? ⟨G, 1, none⟩ = some (.slice A2 ws.length c2) ∧ w'.cell? ⟨G, 2, none⟩ = some (.slice A3 gs.length c3) ∧ w'.cell? (y.add (q * 5)) = some (.int .i64 z0) ∧ w'.cell? ⟨(y.add (q * 5)).block, (y.add (q * 5)).off + 1, none⟩ = some (.int .u32 z1) ∧ w'.cell? ⟨(y.add (q * 5)).block, (y.add (q * 5)).off + 2, none⟩ = some (.int .i64 z2) ∧ w'.cell? ⟨(y.add (q * 5)).block, (y.add (q * 5)).off + 3, none⟩ = some (.int .u32 z3) ∧ w'.cell? ⟨(y.add (q * 5)).block, (y.add (q * 5)).off + 4, none⟩ = some (.slice pp nq cc) ∧ OnlyP (XR BB BW BG) wo w')
        (first
          | with_reducible exact KEEP.out _ hbn
          | with_reducible exact KEEP.out _ (xr_fresh (xr_fresh (xr_fresh hbn (Nat.le_of_eq hNN)) (Nat.le_of_eq hNN)) (Nat.le_of_eq hNN))
          | with_reducible exact KEEP.out _ (OnlyP.trans hbn (OnlyP.of_below (below_alloc (Below.refl _ _) _)))
          | with_reducible exact KEEP.out _ (OnlyP.of_below (Below.drew (Below.refl _ _)))
          | with_reducible exact KEEP.out _ (OnlyP.of_below (Below.drew (below_alloc (Below.refl _ _) _))))
        (first
          | (go_at_call 21; go_split_ands; (with_reducible refine (HSTEP.out (World.alloc wo _).drew (Below.drew (below_alloc (Below.refl _ _) _))).mono ?_); rintro e w' ⟨v', l', ws', gs', rfl, hS', hO'⟩; have hX1 : ¬ XR BB BW BG wo.heap.size := fun h => Nat.lt_irrefl _ (HX1.out _ h); have hbb : w'.heap[NN]? = some (.cells #[.slice none 0 0, .slice none 0 0, .slice none 0 0] 41 (0, 0)) := hNN ▸ (hO'.block _ (show wo.heap.size < (World.alloc wo _).heap.size by simp) hX1).trans (blk_new wo _); have b0 : w'.cell? ⟨NN, 0, none⟩ = some (.slice none 0 0) := (blk_cell hbb 0).trans rfl; have b1 : w'.cell? ⟨NN, 1, none⟩ = some (.slice none 0 0) := (blk_cell hbb 1).trans rfl; have b2 : w'.cell? ⟨NN, 2, none⟩ = some (.slice none 0 0) := (blk_cell hbb 2).trans rfl; have zb : ∀ i, w'.frozen? ⟨NN, i, none⟩ = false := blk_frozen hbb; have HB := Aside0.mk hbb; have hbn : OnlyP (XR BB BW BG) wo w' := OnlyP.trans (OnlyP.of_below (Below.drew (below_alloc (Below.refl _ _) _))) hO'; have HS' := Aside0.mk hS'; obtain ⟨A1', c1x, A2', c2x, A3', c3x, hv', _, _, _⟩ := hS'.v; subst hv'; clear hbb)
          | (go_at_call 21; go_split_ands; (with_reducible refine (HSTEP.out wo.drew (Below.drew (Below.refl _ _))).mono ?_); rintro e w' ⟨v', l', ws', gs', rfl, hS', hO'⟩; have hbn : OnlyP (XR BB BW BG) wo w' := OnlyP.trans (OnlyP.of_below (Below.drew (Below.refl _ _))) hO'; have HS' := Aside0.mk hS'; obtain ⟨A1', c1x, A2', c2x, A3', c3x, hv', _, _, _⟩ := hS'.v; subst hv'))
      · have GW : Aside0 (w'.heap[G]? = _) := ⟨(hbn.block G (blk_lt hG.out) HXG.out).trans hG.out⟩
        have BW' : Aside0 (Below W.heap.size W w') := ⟨hbn.below (fun i hi => by have h := HGE.out; rcases hi with h' | h' | h' <;> omega) hB.out⟩
        have SN := Aside0.mk (HS'.out.below (below_alloc (Below.refl _ _) (.cells #[.slice A1' l'.length c1x, .slice A2' ws'.length c2x, .slice A3' gs'.length c3x] 41)))
        have TN := Aside0.mk (blk_new w' (.cells #[.slice A1' l'.length c1x, .slice A2' ws'.length c2x, .slice A3' gs'.length c3x] 41))
        have GN := Aside0.mk (blk_below GW.out (below_alloc (Below.refl _ _) (.cells #[.slice A1' l'.length c1x, .slice A2' ws'.length c2x, .slice A3' gs'.length c3x] 41)))
        have BN := Aside0.mk (below_alloc BW'.out (.cells #[.slice A1' l'.length c1x, .slice A2' ws'.length c2x, .slice A3' gs'.length c3x] 41))
        generalize World.alloc w' (.cells #[.slice A1' l'.length c1x, .slice A2' ws'.length c2x, .slice A3' gs'.length c3x] 41) = wn at SN TN GN BN ⊢
        generalize w'.heap.size = T at TN ⊢
        clear GW BW'
        have d0 : wn.cell? ⟨T, 0, none⟩ = some (.slice A1' l'.length c1x) := (blk_cell TN.out 0).trans rfl
        have d1 : wn.cell? ⟨T, 1, none⟩ = some (.slice A2' ws'.length c2x) := (blk_cell TN.out 1).trans rfl
        have d2 : wn.cell? ⟨T, 2, none⟩ = some (.slice A3' gs'.length c3x) := (blk_cell TN.out 2).trans rfl
        have g0 : wn.cell? ⟨G, 0, none⟩ = some (.slice A1 l.length c1) := (blk_cell GN.out 0).trans rfl
        have g1 : wn.cell? ⟨G, 1, none⟩ = some (.slice A2 ws.length c2) := (blk_cell GN.out 1).trans rfl
        have g2 : wn.cell? ⟨G, 2, none⟩ = some (.slice A3 gs.length c3) := (blk_cell GN.out 2).trans rfl
        have zg := blk_frozen GN.out
        have FIN := Aside0.mk (SN.out.store GN.out ⟨_, _, _, rfl⟩ ⟨_, _, _, rfl⟩ ⟨_, _, _, rfl⟩ ⟨HG1.out.1, HG1.out.2.1, HG1.out.2.2.1, HG1.out.2.2.2.1⟩ (.slice A1' l'.length c1x) (.slice A2' ws'.length c2x) (.slice A3' gs'.length c3x) _ rfl)
        have FB := Aside0.mk (FIN.out.2.2.below (W := W) HG1.out.2.2.2.2 BN.out)
        clear c0 c1' c2' s0 s1 s2 s3 s4 hS hG hB hbn HS' hS' hO' KEEP HSTEP
        (repeat (first | clear b0 | clear b1 | clear b2 | clear zb | clear HB | clear hX1))
        go_wp2_with fail
        go_roundg (gk - 1)
        case measure => omega
        case rel => exact ⟨q + 1, l', ws', gs', A1', c1x, A2', c2x, A3', c3x, by omega, by omega, by congr 1, ⟨FIN.out.1⟩, ⟨FIN.out.2.1⟩, ⟨FB.out⟩⟩
      · have GW : Aside0 (w'.heap[G]? = _) := ⟨(hbn.block G (blk_lt hG.out) HXG.out).trans hG.out⟩
        have BW' : Aside0 (Below W.heap.size W w') := ⟨hbn.below (fun i hi => by have h := HGE.out; rcases hi with h' | h' | h' <;> omega) hB.out⟩
        have hNE : NN ≠ R ∧ NN ≠ BB ∧ NN ≠ BW ∧ NN ≠ BG ∧ NN ≠ G := by have h1 := hS.out.r.lt; have h2 := blk_lt hG.out; omega
        have H5 := HS'.out.store HB.out ⟨_, _, _, rfl⟩ ⟨_, _, _, rfl⟩ ⟨_, _, _, rfl⟩ ⟨hNE.1, hNE.2.1, hNE.2.2.1, hNE.2.2.2.1⟩ (.slice A1' l'.length c1x) (.slice A2' ws'.length c2x) (.slice A3' gs'.length c3x) _ rfl
        have SN := Aside0.mk H5.1
        have TN := Aside0.mk H5.2.1
        have GN := Aside0.mk (blk_only GW.out H5.2.2 hNE.2.2.2.2.symm)
        have BN := Aside0.mk (H5.2.2.below (W := W) (by have := hB.out.size; omega) BW'.out)
        clear H5 hNE
        generalize World.setCell (World.setCell (World.setCell w' _ _) _ _) _ _ = wn at SN TN GN BN ⊢
        clear GW BW'
        obtain ⟨T, hT⟩ : ∃ T, NN = T := ⟨_, rfl⟩
        rw [hT] at TN ⊢
        clear hT hNN
        have d0 : wn.cell? ⟨T, 0, none⟩ = some (.slice A1' l'.length c1x) := (blk_cell TN.out 0).trans rfl
        have d1 : wn.cell? ⟨T, 1, none⟩ = some (.slice A2' ws'.length c2x) := (blk_cell TN.out 1).trans rfl
        have d2 : wn.cell? ⟨T, 2, none⟩ = some (.slice A3' gs'.length c3x) := (blk_cell TN.out 2).trans rfl
        have g0 : wn.cell? ⟨G, 0, none⟩ = some (.slice A1 l.length c1) := (blk_cell GN.out 0).trans rfl
        have g1 : wn.cell? ⟨G, 1, none⟩ = some (.slice A2 ws.length c2) := (blk_cell GN.out 1).trans rfl
        have g2 : wn.cell? ⟨G, 2, none⟩ = some (.slice A3 gs.length c3) := (blk_cell GN.out 2).trans rfl
        have zg := blk_frozen GN.out
        have FIN := Aside0.mk (SN.out.store GN.out ⟨_, _, _, rfl⟩ ⟨_, _, _, rfl⟩ ⟨_, _, _, rfl⟩ ⟨HG1.out.1, HG1.out.2.1, HG1.out.2.2.1, HG1.out.2.2.2.1⟩ (.slice A1' l'.length c1x) (.slice A2' ws'.length c2x) (.slice A3' gs'.length c3x) _ rfl)
        have FB := Aside0.mk (FIN.out.2.2.below (W := W) HG1.out.2.2.2.2 BN.out)
        clear c0 c1' c2' s0 s1 s2 s3 s4 hS hG hB hbn HS' hS' hO' KEEP HSTEP
        (repeat (first | clear b0 | clear b1 | clear b2 | clear zb | clear HB | clear hX1))
        go_wp2_with fail
        go_roundg (gk - 1)
        case measure => omega
        case rel => exact ⟨q + 1, l', ws', gs', A1', c1x, A2', c2x, A3', c3x, by omega, by omega, by congr 1, ⟨FIN.out.1⟩, ⟨FIN.out.2.1⟩, ⟨FB.out⟩⟩
    · obtain rfl : q = len := by omega
      have hlt' : ((q : Int) < (q : Int)) = False := by simp
      obtain ⟨c0, c1', c2'⟩ : wo.cell? ⟨G, 0, none⟩ = some (.slice A1 l.length c1) ∧ wo.cell? ⟨G, 1, none⟩ = some (.slice A2 ws.length c2) ∧ wo.cell? ⟨G, 2, none⟩ = some (.slice A3 gs.length c3) := ⟨(blk_cell hG.out 0).trans rfl, (blk_cell hG.out 1).trans rfl, (blk_cell hG.out 2).trans rfl⟩
      go_wp2_with fail
      refine (rsame_calls _ hS.out).mono ?_
      rintro e w5 ⟨rfl, b5⟩
      have B5 := Aside0.mk (below_on hB.out b5)
      clear b5 c0 c1' c2'
      go_wp2_with fail
      refine (ram_awake_calls _).mono ?_
      rintro e w6 ⟨rfl, b6⟩
      have B6 := Aside0.mk (below_on B5.out b6)
      clear b6
      go_wp2_with fail
      go_ret
      exact ⟨rfl, B6.out⟩

theorem ram_plays (n : Int) (A : Option Addr) (len cap : Nat) (f : Nat → Nat → Int) (p : Nat → Option Addr) (nn c : Nat → Nat) (bb : Nat → List Int) (W : World) (_hn : (Lit.int .i64 n).wf = true) (hf : IsMix [.i64, .u32, .i64, .u32] W A len cap f p nn c bb) :
    Calls Try.prog 5 #[.int .i64 n, .slice A len cap] W fun e w' => e = .returned (.bool true) ∧ Below W.heap.size W w' := by
  have hl : len ≤ 9223372036854775807 := by have := hf.le; unfold maxLen at this; omega
  by_cases h : (decide (64 ≤ n) && decide (n ≤ 65536) && (n % 64 == 0)) = false ∨ 1024 < n ∨ 100 < len
  · exact rplays_no n A len cap W hl h
  · have h1 : ¬ (decide (64 ≤ n) && decide (n ≤ 65536) && (n % 64 == 0)) = false := fun e => h (.inl e)
    have h2 : ¬ 1024 < n := fun e => h (.inr (.inl e))
    have h3 : ¬ 100 < len := fun e => h (.inr (.inr e))
    simp at h1
    obtain ⟨m, rfl⟩ : ∃ m : Nat, n = m := ⟨n.toNat, by omega⟩
    exact rplays_yes m A len cap f p nn c bb W (by omega) (by omega) (by omega) (by omega) hf
end Go.Proofs.Ytdalboofhckobaa
