/- The statements' own memory (mimesisref10): Store. -/
import Derived.Test.YtdalboofhckobaaRefRam
import Derived.Deep.DeepCutAuto
import Derived.Deep.CutBlock
import Derived.Deep.RegionHeld3
namespace Go.Proofs.Ytdalboofhckobaa
open Go Go.RowKit Go.Deep Go.Proofs.YtdalboofhckobaaW.PrintWords Go.Proofs.Ytdalboofhckobaa.QRamPlays
set_option linter.unusedVariables false
set_option linter.unusedSimpArgs false

/-- What each operation of Store's great statement leaves. -/
def storePost (B : Nat) (AB AW AG : Option Addr) (cB cW cG : Nat) (l bs l2 : List Int) (ws : List Bool) (gs : List Int) (a m x : Int) (base : Nat) (i : Nat) (v : Value) (w : World) : Prop :=
  match i with
  | 0 => v = .pointer (some ⟨B, 0, none⟩)
  | 1 => v = .slice AB l.length cB
  | 2 => v = .int .u32 a
  | 3 => v = .int .u32 x
  | 4 => v = .int .i64 m
  | 5 => ∃ A c, v = .slice A bs.length c ∧ VS (Value.int .u8) w (fun k => k < base) A c bs
  | 6 => ∃ g c cur, v = .slice (some ⟨g, 0, none⟩) l2.length c ∧ OB (Value.int .u8) 5 w base g c l2 cur
  | 7 => ∃ g, v = .slice (some ⟨g, 0, none⟩) 0 0
  | 8 => v = .pointer (some ⟨B, 1, none⟩)
  | 9 => v = .slice AW ws.length cW
  | 10 => ∃ g c cur, v = .slice (some ⟨g, 0, none⟩) ws.length c ∧ OB Value.bool 4 w base g c ws cur
  | 11 => ∃ g, v = .slice (some ⟨g, 0, none⟩) 0 0
  | 12 => v = .pointer (some ⟨B, 2, none⟩)
  | 13 => v = .slice AG gs.length cG
  | 14 => ∃ g c cur, v = .slice (some ⟨g, 0, none⟩) gs.length c ∧ OB (Value.int .u64) 55 w base g c gs cur
  | 15 => ∃ g1 c1 cur1 g2 c2 cur2 g3 c3 cur3, v = .agg #[.slice (some ⟨g1, 0, none⟩) l2.length c1, .slice (some ⟨g2, 0, none⟩) ws.length c2, .slice (some ⟨g3, 0, none⟩) gs.length c3] ∧ OB (Value.int .u8) 5 w base g1 c1 l2 cur1 ∧ OB Value.bool 4 w base g2 c2 ws cur2 ∧ OB (Value.int .u64) 55 w base g3 c3 gs cur3
  | 16 => ∃ g, v = .pointer (some ⟨g, 0, none⟩) ∧ base ≤ g ∧ w.heap[g]? = some (.cells #[.slice none 0 0, .slice none 0 0, .slice none 0 0] 41 (0, 0))
  | _ => True
theorem storePost_below {B : Nat} {AB AW AG : Option Addr} {cB cW cG : Nat} {l bs l2 : List Int} {ws : List Bool} {gs : List Int} {a m x : Int} {base : Nat} (j : Nat) (v : Value) (w w' : World) (h : storePost B AB AW AG cB cW cG l bs l2 ws gs a m x base j v w) (k : Below w.heap.size w w') : storePost B AB AW AG cB cW cG l bs l2 ws gs a m x base j v w' := by
  unfold storePost at h ⊢
  split at h
  · exact h
  · exact h
  · exact h
  · exact h
  · exact h
  · obtain ⟨A, c, h1, h2⟩ := h; exact ⟨A, c, h1, h2.below k⟩
  · obtain ⟨g, c, cur, h1, h2⟩ := h; exact ⟨g, c, cur, h1, h2.below k⟩
  · exact h
  · exact h
  · exact h
  · obtain ⟨g, c, cur, h1, h2⟩ := h; exact ⟨g, c, cur, h1, h2.below k⟩
  · exact h
  · exact h
  · exact h
  · obtain ⟨g, c, cur, h1, h2⟩ := h; exact ⟨g, c, cur, h1, h2.below k⟩
  · obtain ⟨g1, c1, cur1, g2, c2, cur2, g3, c3, cur3, h1, h2, h3, h4⟩ := h; exact ⟨g1, c1, cur1, g2, c2, cur2, g3, c3, cur3, h1, h2.below k, h3.below k, h4.below k⟩
  · obtain ⟨g, h1, h2, h3⟩ := h; exact ⟨g, h1, h2, blk_below h3 k⟩
  · trivial

theorem VS.apart {α : Type} {enc : α → Value} {w : World} {X : Nat → Prop} {A : Option Addr} {c g t : Nat} {q : List α} {cs : Array Value} {fr : Nat × Nat} (h : VS enc w X A c q) (hb : w.heap[g]? = some (.cells cs t fr)) (hn : ∀ (i : Nat) p, cs[i]? ≠ some (enc p)) : VS enc w (fun k => X k ∨ k = g) A c q := by
  refine ⟨h.1, h.2.1, fun hq => ?_⟩
  obtain ⟨ad, rfl, hX, hc⟩ := h.2.2 hq
  refine ⟨ad, rfl, ?_, hc⟩
  rintro (hx | hx)
  · exact hX hx
  · obtain ⟨x, q', rfl⟩ := List.exists_cons_of_ne_nil hq
    have h1 := hc 0 x rfl
    have e : (ad.add 0).block = g := by rw [vs_block_add]; exact hx
    unfold World.cell? at h1
    rw [e, hb] at h1
    simp only at h1
    split at h1
    · cases h1
    · exact hn _ _ h1
/-- Three cells stored into a block of three. -/
theorem store3 {w : World} {g t : Nat} {cs : Array Value} (h : w.heap[g]? = some (.cells cs t (0, 0))) (hs : cs.size = 3) (a b c : Value) : (w.setCells g 0 [a, b, c]).heap[g]? = some (.cells #[a, b, c] t (0, 0)) ∧ Only g w (w.setCells g 0 [a, b, c]) := by
  refine ⟨?_, only_setCells _ _ _⟩
  have h1 := blk_setCells [a, b, c] 0 w cs h
  rw [h1]
  congr 2
  apply Array.toList_inj.1
  rw [putAt_list _ _ _ (by simp [hs])]
  have hl : cs.toList.length = 3 := by simp [hs]
  simp [List.drop_of_length_le (show cs.toList.length ≤ 3 by omega)]

theorem set3 {w : World} {g t : Nat} {z0 z1 z2 : Value} (h : w.heap[g]? = some (.cells #[z0, z1, z2] t (0, 0))) (a b c : Value) : (((w.setCell ⟨g, 0, none⟩ a).setCell ⟨g, 1, none⟩ b).setCell ⟨g, 2, none⟩ c).heap[g]? = some (.cells #[a, b, c] t (0, 0)) ∧ Only g w (((w.setCell ⟨g, 0, none⟩ a).setCell ⟨g, 1, none⟩ b).setCell ⟨g, 2, none⟩ c) :=
  ⟨blk_set (blk_set (blk_set h 0 a) 1 b) 2 c, (((Only.refl g w).setCell 0 a).setCell 1 b).setCell 2 c⟩

set_option maxRecDepth 100000 in
set_option maxHeartbeats 2000000 in
theorem rstore_calls (w : World) (X : Nat → Prop) (hX : ∀ k, X k → k < w.heap.size) (K0 p : Nat) (v : Value) (l bs l2 : List Int) (ws : List Bool) (gs : List Int) (a m x g0 : Int) (hit : Bool) (h : VRam w X v l ws gs) (a0 : 2147483648 ≤ a) (a1 : a < 4294967296)
    (hB : mimesisref01_Bytes.f K0 x m = some bs) (hP : mimesisref10_Put.f l a bs = some l2) (hp : (a - 2147483648) / 64 = p) (hh : ws[p]? = some hit) (hg : gs[p]? = some g0) (hws : ws.length ≤ 1000000) (hgs : gs.length ≤ 1000000) (hl2 : 0 < l2.length) :
    Calls Try.prog 45 #[v, .int .u32 a, .int .i64 m, .int .u32 x] w fun e w' => ∃ v', e = .returned (.tuple #[v', .bool hit]) ∧ VRam w' X v' l2 (if hit then ws.set p false else ws) (if hit then gs.set p (IntKind.u64.wrap (g0 + 1)) else gs) ∧ Below w.heap.size w w' := by
  obtain ⟨AB, cB, AW, cW, AG, cG, rfl, h1, h2, h3⟩ := h
  have V1 := Aside0.mk h1
  have V2 := Aside0.mk h2
  have V3 := Aside0.mk h3
  have HB := Aside0.mk hB
  have HP := Aside0.mk hP
  have HH := Aside0.mk hh
  have HG := Aside0.mk hg
  have HXX := Aside0.mk hX
  have HPP := Aside0.mk hp
  clear h1 h2 h3 hB hP hh hg hX hp
  obtain ⟨B, hBs⟩ : ∃ B, w.heap.size = B := ⟨_, rfl⟩
  have HBS := Aside0.mk hBs
  go_enter Try.func45, Try.ntmps45
  go_upto_region 1 with fail
  clear hBs
  generalize hW1 : World.alloc (World.alloc w _) _ = w1
  have hblk : w1.heap[B]? = some (.cells #[.slice AB l.length cB, .slice AW ws.length cW, .slice AG gs.length cG] 41 (0, 0)) := by
    rw [← hW1, ← HBS.out]; exact blk_below (blk_new w _) (below_alloc (Below.refl _ _) _)
  have hblk2 : w1.heap[B + 1]? = some (.cells #[.slice none 0 0, .slice none 0 0, .slice none 0 0] 41 (0, 0)) := by
    rw [← hW1, ← HBS.out, ← World.size_alloc w (.cells #[.slice AB l.length cB, .slice AW ws.length cW, .slice AG gs.length cG] 41)]; exact blk_new _ _
  have hbel : Below w.heap.size w w1 := by rw [← hW1]; exact below_alloc (below_alloc (Below.refl _ _) _) _
  have HBK := Aside0.mk hblk
  have HBK2 := Aside0.mk hblk2
  have HW := Aside0.mk hbel
  clear hblk hblk2 hbel hW1
  refine wp_region_rj (by kernel_rfl) 17 (fun W' => Below w1.heap.size w1 W') (fun x y => Below x.heap.size x y) (storePost B AB AW AG cB cW cG l bs l2 ws gs a m x w1.heap.size) (by kernel_rfl) storePost_below (Below.drew (Below.refl _ _)) ?step ?fin
  case step =>
    intro i o hi him b W' hinv hkeep hdef hpre K hK
    have HI := Aside0.mk hinv
    have HPRE := Aside0.mk hpre
    have HKEEP := Aside0.mk hkeep
    have HKK := Aside0.mk hK
    clear hinv hpre hkeep hK hdef
    obtain rfl | rfl | rfl | rfl | rfl | rfl | rfl | rfl | rfl | rfl | rfl | rfl | rfl | rfl | rfl | rfl | rfl : i = 0 ∨ i = 1 ∨ i = 2 ∨ i = 3 ∨ i = 4 ∨ i = 5 ∨ i = 6 ∨ i = 7 ∨ i = 8 ∨ i = 9 ∨ i = 10 ∨ i = 11 ∨ i = 12 ∨ i = 13 ∨ i = 14 ∨ i = 15 ∨ i = 16 := by omega
    · cases hi
      have e4 : b.tmps.getD 4 undef = .pointer (some ⟨B, 0, none⟩) := HKEEP.out 4 (by kernel_rfl)
      rw [if_pos (by rfl)]
      go_simp
      exact HKK.out _ _ HI.out (Below.refl _ _) rfl
    · cases hi
      have e12 : b.tmps.getD 12 undef = .pointer (some ⟨B, 0, none⟩) := HPRE.out 0 (by kernel_rfl) (by omega)
      have c0 : W'.cell? ⟨B, 0, none⟩ = some (.slice AB l.length cB) := (blk_cell (blk_below HBK.out HI.out) 0).trans rfl
      rw [if_pos (by rfl)]
      go_simp
      exact HKK.out _ _ HI.out (Below.refl _ _) rfl
    · cases hi
      have e1 : b.tmps.getD 1 undef = .int .u32 a := HKEEP.out 1 (by kernel_rfl)
      rw [if_pos (by rfl)]
      go_simp
      exact HKK.out _ _ HI.out (Below.refl _ _) rfl
    · cases hi
      have e3 : b.tmps.getD 3 undef = .int .u32 x := HKEEP.out 3 (by kernel_rfl)
      rw [if_pos (by rfl)]
      go_simp
      exact HKK.out _ _ HI.out (Below.refl _ _) rfl
    · cases hi
      have e2 : b.tmps.getD 2 undef = .int .i64 m := HKEEP.out 2 (by kernel_rfl)
      rw [if_pos (by rfl)]
      go_simp
      exact HKK.out _ _ HI.out (Below.refl _ _) rfl
    · cases hi
      have e15 : b.tmps.getD 15 undef = .int .u32 x := HPRE.out 3 (by kernel_rfl) (by omega)
      have e16 : b.tmps.getD 16 undef = .int .i64 m := HPRE.out 4 (by kernel_rfl) (by omega)
      rw [if_pos (by rfl)]
      go_simp
      refine (mimesisref01_Bytes.calls K0 x m bs _ HB.out).mono ?_
      rintro e W2 ⟨v0, rfl, hR, hb⟩
      obtain ⟨A, c, rfl, hv⟩ := VS.of_R (X := fun k => k < w1.heap.size) hR (fun k hk => by have := HI.out.size; omega)
      exact HKK.out _ _ (below_on HI.out hb) hb ⟨A, c, rfl, hv⟩
    · cases hi
      have e13 : b.tmps.getD 13 undef = .slice AB l.length cB := HPRE.out 1 (by kernel_rfl) (by omega)
      have e14 : b.tmps.getD 14 undef = .int .u32 a := HPRE.out 2 (by kernel_rfl) (by omega)
      obtain ⟨A, c, e17, hv⟩ := HPRE.out 5 (by kernel_rfl) (by omega)
      have e17 : b.tmps.getD 17 undef = _ := e17
      have HV := Aside0.mk hv
      clear hv
      rw [if_pos (by rfl)]
      go_simp
      have VB := ((V1.out.below HW.out).below HI.out)
      refine (mimesisref10_Put.calls AB cB l a A c bs l2 _ VB.C VB.le HV.out.C HV.out.le HP.out).mono ?_
      rintro e W2 ⟨v0, rfl, hR, hb⟩
      obtain ⟨g2, c2, cur, rfl, _, hob⟩ := OB.of_own (enc := Value.int .u8) (Kd.own_of_R hR) hl2
      exact HKK.out _ _ (below_on HI.out hb) hb ⟨g2, c2, cur, rfl, { hob with hb := by have := hob.hb; have := HI.out.size; omega }⟩
    · cases hi
      rw [if_pos (by rfl)]
      go_simp
      exact HKK.out _ _ (below_alloc HI.out _) (below_alloc (Below.refl _ _) _) ⟨_, rfl⟩
    · cases hi
      have e4 : b.tmps.getD 4 undef = .pointer (some ⟨B, 0, none⟩) := HKEEP.out 4 (by kernel_rfl)
      rw [if_pos (by rfl)]
      go_simp
      exact HKK.out _ _ HI.out (Below.refl _ _) rfl
    · cases hi
      have e20 : b.tmps.getD 20 undef = .pointer (some ⟨B, 1, none⟩) := HPRE.out 8 (by kernel_rfl) (by omega)
      have c0 : W'.cell? ⟨B, 1, none⟩ = some (.slice AW ws.length cW) := (blk_cell (blk_below HBK.out HI.out) 1).trans rfl
      rw [if_pos (by rfl)]
      go_simp
      exact HKK.out _ _ HI.out (Below.refl _ _) rfl
    · cases hi
      obtain ⟨g, e19⟩ := HPRE.out 7 (by kernel_rfl) (by omega)
      have e19 : b.tmps.getD 19 undef = _ := e19
      have e21 : b.tmps.getD 21 undef = .slice AW ws.length cW := HPRE.out 9 (by kernel_rfl) (by omega)
      obtain ⟨i0, hi0, hz0, hz1, hz2⟩ := info_parts (show (Try.prog.info? 4).map (fun i => (i.zero, i.size, i.bytes)) = some (some (.bool false), 1, 1) by kernel_rfl)
      have hql : 0 < ws.length := Nat.lt_of_le_of_lt (Nat.zero_le p) (List.getElem?_eq_some_iff.1 HH.out).1
      obtain ⟨ad, hA, hn⟩ := vs_news ((V2.out.below HW.out).below HI.out) hql
      refine step_append_grows rfl (.tmp 19) (.tmp 21) 38 rfl 4 i0 (.bool false) 1 1 Try.underlying38 hi0 hz0 hz1 hz2 rfl (by decide) (some ⟨g, 0, none⟩) 0 0 [] e19 (by simp) rfl (by simp) ad ws.length cW (ws.map Value.bool) (by rw [← hA]; exact e21) (by simp) hn (by intro u hu; obtain ⟨y, _, rfl⟩ := List.mem_map.1 hu; rfl) (by omega) (by simp only [maxLen]; omega) (by omega) ?_
      intro v' W2 hown hgr
      rw [Nat.zero_add, List.nil_append] at hown
      obtain ⟨g2, c2, cur, rfl, _, hob⟩ := OB.of_own hown hql
      exact HKK.out _ _ (below_on HI.out (below_of_grown hgr)) (below_of_grown hgr) ⟨g2, c2, cur, rfl, { hob with hb := by have := hob.hb; have := HI.out.size; omega }⟩
    · cases hi
      rw [if_pos (by rfl)]
      go_simp
      exact HKK.out _ _ (below_alloc HI.out _) (below_alloc (Below.refl _ _) _) ⟨_, rfl⟩
    · cases hi
      have e4 : b.tmps.getD 4 undef = .pointer (some ⟨B, 0, none⟩) := HKEEP.out 4 (by kernel_rfl)
      rw [if_pos (by rfl)]
      go_simp
      exact HKK.out _ _ HI.out (Below.refl _ _) rfl
    · cases hi
      have e24 : b.tmps.getD 24 undef = .pointer (some ⟨B, 2, none⟩) := HPRE.out 12 (by kernel_rfl) (by omega)
      have c0 : W'.cell? ⟨B, 2, none⟩ = some (.slice AG gs.length cG) := (blk_cell (blk_below HBK.out HI.out) 2).trans rfl
      rw [if_pos (by rfl)]
      go_simp
      exact HKK.out _ _ HI.out (Below.refl _ _) rfl
    · cases hi
      obtain ⟨g, e23⟩ := HPRE.out 11 (by kernel_rfl) (by omega)
      have e23 : b.tmps.getD 23 undef = _ := e23
      have e25 : b.tmps.getD 25 undef = .slice AG gs.length cG := HPRE.out 13 (by kernel_rfl) (by omega)
      obtain ⟨i0, hi0, hz0, hz1, hz2⟩ := info_parts (show (Try.prog.info? 55).map (fun i => (i.zero, i.size, i.bytes)) = some (some (.int .u64 0), 1, 8) by kernel_rfl)
      have hql : 0 < gs.length := Nat.lt_of_le_of_lt (Nat.zero_le p) (List.getElem?_eq_some_iff.1 HG.out).1
      obtain ⟨ad, hA, hn⟩ := vs_news ((V3.out.below HW.out).below HI.out) hql
      refine step_append_grows rfl (.tmp 23) (.tmp 25) 39 rfl 55 i0 (.int .u64 0) 1 8 Try.underlying39 hi0 hz0 hz1 hz2 rfl (by decide) (some ⟨g, 0, none⟩) 0 0 [] e23 (by simp) rfl (by simp) ad gs.length cG (gs.map (Value.int .u64)) (by rw [← hA]; exact e25) (by simp) hn (by intro u hu; obtain ⟨y, _, rfl⟩ := List.mem_map.1 hu; rfl) (by omega) (by simp only [maxLen]; omega) (by omega) ?_
      intro v' W2 hown hgr
      rw [Nat.zero_add, List.nil_append] at hown
      obtain ⟨g2, c2, cur, rfl, _, hob⟩ := OB.of_own hown hql
      exact HKK.out _ _ (below_on HI.out (below_of_grown hgr)) (below_of_grown hgr) ⟨g2, c2, cur, rfl, { hob with hb := by have := hob.hb; have := HI.out.size; omega }⟩
    · cases hi
      obtain ⟨g1, c1, cur1, e18, hv1⟩ := HPRE.out 6 (by kernel_rfl) (by omega)
      have e18 : b.tmps.getD 18 undef = _ := e18
      obtain ⟨g2, c2, cur2, e22, hv2⟩ := HPRE.out 10 (by kernel_rfl) (by omega)
      have e22 : b.tmps.getD 22 undef = _ := e22
      obtain ⟨g3, c3, cur3, e26, hv3⟩ := HPRE.out 14 (by kernel_rfl) (by omega)
      have e26 : b.tmps.getD 26 undef = _ := e26
      have H1 := Aside0.mk hv1
      have H2 := Aside0.mk hv2
      have H3 := Aside0.mk hv3
      clear hv1 hv2 hv3
      have f18 := e18
      rw [Array.getD_eq_getD_getElem?] at f18
      have f22 := e22
      rw [Array.getD_eq_getD_getElem?] at f22
      have f26 := e26
      rw [Array.getD_eq_getD_getElem?] at f26
      rw [if_pos (by rfl)]
      go_simp
      exact HKK.out _ _ HI.out (Below.refl _ _) ⟨g1, c1, cur1, g2, c2, cur2, g3, c3, cur3, rfl, H1.out, H2.out, H3.out⟩
    · cases hi
      rw [if_pos (by rfl)]
      go_simp
      exact HKK.out _ _ (below_alloc HI.out _) (below_alloc (Below.refl _ _) _) ⟨_, rfl, HI.out.size, blk_new _ _⟩
  case fin =>
    intro b W' hinv hsz hdef hkeep hpost
    obtain ⟨g1, c1, cur1, g2, c2, cur2, g3, c3, cur3, e27, hv1, hv2, hv3⟩ := hpost 15 (by omega)
    obtain ⟨g, e10, hg0, hgb⟩ := hpost 16 (by omega)
    have e27 : b.tmps.getD 27 undef = _ := e27
    have e10 : b.tmps.getD 10 undef = _ := e10
    have k1 : b.tmps.getD 1 undef = .int .u32 a := hkeep 1 (by kernel_rfl)
    have k8 : b.tmps.getD 8 undef = .pointer (some ⟨B + 1, 0, none⟩) := hkeep 8 (by kernel_rfl)
    have k9 : b.tmps.getD 9 undef = .bool false := hkeep 9 (by kernel_rfl)
    refine rj_last (by kernel_rfl) rfl (by kernel_rfl) rfl rfl (by kernel_rfl) ?_
    refine wp_store_mid 41 (.tmp 10) (.tmp 27) rfl g 0 _ e10 e27 (fun j hj => ?_) (by kernel_rfl) (by simp [Value.oneCell']) ?_
    · have hj' : j < 3 := hj
      rw [Nat.zero_add]
      exact ⟨by rw [cell_of_row W' g j _ _ _ hgb]; simp [hj'], blk_frozen hgb j⟩
    have hs := store3 hgb (by rfl) (.slice (some ⟨g1, 0, none⟩) l2.length c1) (.slice (some ⟨g2, 0, none⟩) ws.length c2) (.slice (some ⟨g3, 0, none⟩) gs.length c3)
    have hg1 : g1 ≠ g := by rintro rfl; have := hv1.hh.symm.trans hgb; injection this with this; injection this with _ h2; exact absurd h2 (by decide)
    have hg2 : g2 ≠ g := by rintro rfl; have := hv2.hh.symm.trans hgb; injection this with this; injection this with _ h2; exact absurd h2 (by decide)
    have hg3 : g3 ≠ g := by rintro rfl; have := hv3.hh.symm.trans hgb; injection this with this; injection this with _ h2; exact absurd h2 (by decide)
    have hg23 := hv2.ne hv3 (by decide)
    have hg12 := hv1.ne hv2 (by decide)
    have hg13 := hv1.ne hv3 (by decide)
    have hv1' := hv1.only hs.2 hg1
    have hv2' := hv2.only hs.2 hg2
    have hv3' := hv3.only hs.2 hg3
    have hbw := below_on HW.out (hs.2.below hg0 hinv)
    have hbk2 := blk_only (blk_below HBK2.out hinv) hs.2 (by have := blk_lt HBK2.out; omega)
    have hgB : g ≠ B + 1 := by have := blk_lt HBK2.out; omega
    have hlt2 : B + 1 < w1.heap.size := blk_lt HBK2.out
    have S := Aside0.mk hs
    generalize World.setCells W' g 0 _ = W2 at hs hv1' hv2' hv3' hbw hbk2 S ⊢
    have hgb2 := hs.1
    have H1 := Aside0.mk hv1'
    have H2 := Aside0.mk hv2'
    have H3 := Aside0.mk hv3'
    have BW := Aside0.mk hbw
    have HGB := Aside0.mk hgb2
    have HK2 := Aside0.mk hbk2
    have HNE := Aside0.mk (And.intro hg2 (And.intro hg3 (And.intro hg23 (And.intro hgB (And.intro hlt2 (And.intro hg12 hg13))))))
    have HGE := Aside0.mk (And.intro hv2.hb (And.intro hv3.hb hg0))
    clear hs hv1 hv2 hv3 hv1' hv2' hv3' hbw hgb hgb2 hbk2 hpost hinv S hg1 hg2 hg3 hg12 hg13 hg23 hgB hlt2 hg0
    obtain ⟨sl, hlit, hsl⟩ := act_let b 51 hsz
    rw [hdef] at hlit
    rw [← hsl] at k1 k8 k9 e10
    simp only [show List.range 51 = [0, 1, 2, 3, 4, 5, 6, 7, 8, 9, 10, 11, 12, 13, 14, 15, 16, 17, 18, 19, 20, 21, 22, 23, 24, 25, 26, 27, 28, 29, 30, 31, 32, 33, 34, 35, 36, 37, 38, 39, 40, 41, 42, 43, 44, 45, 46, 47, 48, 49, 50] from rfl, List.map_cons, List.map_nil, k1, k8, k9, e10] at hlit
    change Exit.then _ _ Exit.normal b W2
    rw [hlit]
    clear hkeep hsz hdef k1 k8 k9 e10 e27 hsl hlit
    have hw0 : wrap64 (a - 2147483648) = a - 2147483648 := by unfold wrap64; omega
    have hpp := HPP.out
    have hpl : (p : Int) < (ws.length : Int) := by have := (List.getElem?_eq_some_iff.1 HH.out).1; omega
    have hpl2 : (p : Int) < (gs.length : Int) := by have := (List.getElem?_eq_some_iff.1 HG.out).1; omega
    have c0 : W2.cell? ⟨g, 0, none⟩ = some (.slice (some ⟨g1, 0, none⟩) l2.length c1) := (blk_cell HGB.out 0).trans rfl
    have c1' : W2.cell? ⟨g, 1, none⟩ = some (.slice (some ⟨g2, 0, none⟩) ws.length c2) := (blk_cell HGB.out 1).trans rfl
    have c2' : W2.cell? ⟨g, 2, none⟩ = some (.slice (some ⟨g3, 0, none⟩) gs.length c3) := (blk_cell HGB.out 2).trans rfl
    have c3' : W2.cell? ⟨g2, p, none⟩ = some (.bool hit) := H2.out.cell HH.out
    cases hit
    · have d0 : W2.cell? ⟨B + 1, 0, none⟩ = some (.slice none 0 0) := (blk_cell HK2.out 0).trans rfl
      have d1 : W2.cell? ⟨B + 1, 1, none⟩ = some (.slice none 0 0) := (blk_cell HK2.out 1).trans rfl
      have d2 : W2.cell? ⟨B + 1, 2, none⟩ = some (.slice none 0 0) := (blk_cell HK2.out 2).trans rfl
      have z := blk_frozen HK2.out
      have S := Aside0.mk (set3 HK2.out (.slice (some ⟨g1, 0, none⟩) l2.length c1) (.slice (some ⟨g2, 0, none⟩) ws.length c2) (.slice (some ⟨g3, 0, none⟩) gs.length c3))
      go_wp2_with fail
      refine bodyPost_ret (results_cell_row_tmp rfl _ _ (B + 1) 41 _ (0, 0) _ rfl S.out.1 Try.underlying41 rfl (by kernel_rfl)) rfl ?_
      have hb := S.out.2.below (W := w) (by have := HBS.out; omega) BW.out
      have hne := HNE.out
      refine ⟨_, rfl, ⟨some ⟨g1, 0, none⟩, c1, some ⟨g2, 0, none⟩, c2, some ⟨g3, 0, none⟩, c3, rfl, ?_, ?_, ?_⟩, hb⟩
      · exact (H1.out.only S.out.2 (by have := H1.out.hb; omega)).vs (fun k hk => by have := HXX.out k hk; have := HW.out.size; omega)
      · exact (H2.out.only S.out.2 (by have := H2.out.hb; omega)).vs (fun k hk => by have := HXX.out k hk; have := HW.out.size; omega)
      · exact (H3.out.only S.out.2 (by have := H3.out.hb; omega)).vs (fun k hk => by have := HXX.out k hk; have := HW.out.size; omega)
    · obtain ⟨n1, n2, n3, n4, n5, n6, n7⟩ := HNE.out
      have z2 := blk_frozen H2.out.hh p
      have O3 := Aside0.mk ((Only.refl g2 W2).setCell p (.bool false))
      have G3 := Aside0.mk (blk_only HGB.out O3.out n1.symm)
      have K3 := Aside0.mk (blk_only HK2.out O3.out (by have := H2.out.hb; omega))
      have R2 := Aside0.mk (H2.out.set p false)
      have R3 := Aside0.mk (H3.out.only O3.out n3.symm)
      have R1 := Aside0.mk (H1.out.only O3.out n6)
      have B3 := Aside0.mk (O3.out.below (W := w) (by have := H2.out.hb; have := HW.out.size; omega) BW.out)
      have e2 : (W2.setCell ⟨g2, p, none⟩ (.bool false)).cell? ⟨g, 2, none⟩ = some (.slice (some ⟨g3, 0, none⟩) gs.length c3) := (blk_cell G3.out 2).trans rfl
      have e3 : (W2.setCell ⟨g2, p, none⟩ (.bool false)).cell? ⟨g3, p, none⟩ = some (.int .u64 g0) := R3.out.cell HG.out
      have z3 := blk_frozen R3.out.hh p
      obtain ⟨g9, hg9⟩ : ∃ g9, IntKind.u64.wrap (g0 + 1) = g9 := ⟨_, rfl⟩
      have O4 := Aside0.mk ((Only.refl g3 (W2.setCell ⟨g2, p, none⟩ (.bool false))).setCell p (.int .u64 g9))
      have G4 := Aside0.mk (blk_only G3.out O4.out n2.symm)
      have K4 := Aside0.mk (blk_only K3.out O4.out (by have := H3.out.hb; omega))
      have Q3 := Aside0.mk (R3.out.set p g9)
      have Q2 := Aside0.mk (R2.out.only O4.out n3)
      have Q1 := Aside0.mk (R1.out.only O4.out n7)
      have B4 := Aside0.mk (O4.out.below (W := w) (by have := H3.out.hb; have := HW.out.size; omega) B3.out)
      have f0 : ((W2.setCell ⟨g2, p, none⟩ (.bool false)).setCell ⟨g3, p, none⟩ (.int .u64 g9)).cell? ⟨g, 0, none⟩ = some (.slice (some ⟨g1, 0, none⟩) l2.length c1) := (blk_cell G4.out 0).trans rfl
      have f1 : ((W2.setCell ⟨g2, p, none⟩ (.bool false)).setCell ⟨g3, p, none⟩ (.int .u64 g9)).cell? ⟨g, 1, none⟩ = some (.slice (some ⟨g2, 0, none⟩) ws.length c2) := (blk_cell G4.out 1).trans rfl
      have f2 : ((W2.setCell ⟨g2, p, none⟩ (.bool false)).setCell ⟨g3, p, none⟩ (.int .u64 g9)).cell? ⟨g, 2, none⟩ = some (.slice (some ⟨g3, 0, none⟩) gs.length c3) := (blk_cell G4.out 2).trans rfl
      have d0 : ((W2.setCell ⟨g2, p, none⟩ (.bool false)).setCell ⟨g3, p, none⟩ (.int .u64 g9)).cell? ⟨B + 1, 0, none⟩ = some (.slice none 0 0) := (blk_cell K4.out 0).trans rfl
      have d1 : ((W2.setCell ⟨g2, p, none⟩ (.bool false)).setCell ⟨g3, p, none⟩ (.int .u64 g9)).cell? ⟨B + 1, 1, none⟩ = some (.slice none 0 0) := (blk_cell K4.out 1).trans rfl
      have d2 : ((W2.setCell ⟨g2, p, none⟩ (.bool false)).setCell ⟨g3, p, none⟩ (.int .u64 g9)).cell? ⟨B + 1, 2, none⟩ = some (.slice none 0 0) := (blk_cell K4.out 2).trans rfl
      have z := blk_frozen K4.out
      have S := Aside0.mk (set3 K4.out (.slice (some ⟨g1, 0, none⟩) l2.length c1) (.slice (some ⟨g2, 0, none⟩) ws.length c2) (.slice (some ⟨g3, 0, none⟩) gs.length c3))
      have hb := Aside0.mk (S.out.2.below (W := w) (by have := HBS.out; omega) B4.out)
      go_wp2_with fail
      refine bodyPost_ret (results_cell_row_tmp rfl _ _ (B + 1) 41 _ (0, 0) _ rfl S.out.1 Try.underlying41 rfl (by kernel_rfl)) rfl ?_
      have w2 := (Q2.out.only S.out.2 (by have := H2.out.hb; omega)).vs (X := X) (fun k hk => by have := HXX.out k hk; have := HW.out.size; omega)
      have w3 := (Q3.out.only S.out.2 (by have := H3.out.hb; omega)).vs (X := X) (fun k hk => by have := HXX.out k hk; have := HW.out.size; omega)
      refine ⟨_, rfl, ⟨some ⟨g1, 0, none⟩, c1, some ⟨g2, 0, none⟩, c2, some ⟨g3, 0, none⟩, c3, by simp, ?_, by simpa using w2, by simpa using w3⟩, hb.out⟩
      exact (Q1.out.only S.out.2 (by have := H1.out.hb; omega)).vs (fun k hk => by have := HXX.out k hk; have := HW.out.size; omega)
end Go.Proofs.Ytdalboofhckobaa
