/- The statements' own console (mimesisref12): Write to register 0, Up. -/
import Derived.Test.YtonfblfbmnepoaaRefCon
import Derived.Deep.LoopGhost
import Derived.Deep.RegionHeld3
namespace Go.Proofs.Ytonfblfbmnepoaa
open Go Go.RowKit Go.Deep Go.Proofs.YtonfblfbmnepoaaW.PrintWords
set_option linter.unusedVariables false
set_option linter.unusedSimpArgs false

theorem base_own {w : World} {base b' : Nat} {e : TypeId} {size : Nat} {v : Value} {n : Nat} {xs : List Value} (h : w.ownsRow base e size v n xs) : ∀ k, v.ownBlock = some k → base ≤ k := fun k hk => (h.lt k hk).1

set_option maxRecDepth 100000 in
set_option maxHeartbeats 2000000 in
theorem rwrite0_calls (w : World) (X : Nat → Prop) (hX : ∀ k, X k → k < w.heap.size) (A : Option Addr) (len cap came : Nat) (q : List Int) (over : Bool) (out : List Int) (v : Value) (x : Int) (x0 : 0 ≤ x) (x1 : x < 4294967296) (hol : out.length ≤ 65536) (h : VC w X A len cap v came q over out) :
    Calls Try.prog 61 #[v, .int .i64 0, .int .u32 x] w fun e w' => ∃ v', e = .returned v' ∧ VC w' X A len cap v' came q over (out ++ [x % 256]) ∧ Below w.heap.size w w' := by
  obtain ⟨Ar, cr, Ao, co, rfl, hr, ho⟩ := h
  have HS := Aside0.mk (two_start w X A len cap came q over out hr ho)
  clear hr ho
  obtain ⟨i0, hi, hz0, hz1, hz2⟩ := info_parts (show (Try.prog.info? 5).map (fun i => (i.zero, i.size, i.bytes)) = some (some (.int .u8 0), 1, 1) by kernel_rfl)
  obtain ⟨B, hB⟩ : ∃ B, w.heap.size = B := ⟨_, rfl⟩
  have HBS := Aside0.mk hB
  rw [hB] at hX
  clear hB
  obtain ⟨y, hy⟩ : ∃ y, x % 256 = y := ⟨_, rfl⟩
  have hw1 : x.tmod 256 = y := by rw [← hy, Int.tmod_eq_emod_of_nonneg x0]
  have hy0 : 0 ≤ y ∧ y < 256 := by omega
  rw [hy]
  clear hy
  go_enter Try.func61, Try.ntmps61
  go_upto_region 1 with fail
  generalize hW : World.alloc (World.alloc w _) _ = w1
  obtain ⟨⟨v1, v2⟩, b1, t1⟩ := HS.out w1 hW.symm
  have V1 := Aside0.mk v1
  have V2 := Aside0.mk v2
  have B1 := Aside0.mk b1
  have T1 := Aside0.mk t1
  clear v1 v2 b1 t1 hW HS
  have hBS := HBS.out
  rw [hBS] at T1 V1 V2 ⊢
  clear hBS
  have hsz : B + 2 ≤ w1.heap.size := by have := blk_lt T1.out.r; omega
  have HXB : Aside0 (∀ k, XB X B k → k < w1.heap.size) := ⟨fun k hk => by rcases hk with h | h | h; have := hX k h; omega; omega; omega⟩
  have hown0 : (w1.alloc (.cells #[] 5)).ownsRow w1.heap.size 5 1 (.slice (some ⟨w1.heap.size, 0, none⟩) 0 0) 0 [] := by
    have := World.ownsRow_lit (base := w1.heap.size) (e := 5) (size := 1) w1 #[] 0 (Nat.le_refl _) (by decide) rfl
    simpa using this
  have HO := Aside0.mk hown0
  have hB0 := Aside0.mk (below_alloc (Below.refl w1.heap.size w1) (.cells #[] 5))
  clear hown0 hX
  have fin : ∀ (v2 : Value) (w2 : World), w2.ownsRow w1.heap.size 5 1 v2 (out.length + 1) ((out ++ [y]).map (Value.int .u8)) → Below w1.heap.size w1 w2 → ∃ g c, v2 = .slice (some ⟨g, 0, none⟩) (out.length + 1) c ∧ VR w2 (XB X B) (some ⟨g, 0, none⟩) c (out ++ [y]) := by
    intro v2 w2 h1 h2
    obtain ⟨g, c, rfl⟩ := ownsRow_succ h1
    obtain ⟨A', c', he, hv⟩ := VR.of_own (X := XB X B) (q := out ++ [y]) (by simpa using h1) HXB.out
    injection he with e1 e2 e3
    subst e1 e3
    exact ⟨g, c, rfl, hv⟩
  have FIN := Aside0.mk fin
  clear fin
  rcases V2.out.news with ⟨rfl, rfl, rfl⟩ | ⟨ad, rfl, hnews⟩
  · have hc0 : (w1.alloc (.cells #[] 5)).cell? ⟨B, 4, none⟩ = some (.slice none 0 0) := (T1.out.below (below_alloc (Below.refl _ _) _)).cells.1.2.2.2.2
    go_wp2_with (first
      | (at_builtin; refine wpList_append_own_none rfl (.tmp 9) (.tmp 11) 29 rfl w1.heap.size 5 i0 1 Try.underlying29 hi _ 0 [] rfl HO.out rfl ?_)
      | (at_builtin; refine wpList_append_own _ rfl (.tmp 12) (.tmp 16) 29 rfl w1.heap.size 5 i0 (.int .u8 0) 1 1 Try.underlying29 hi hz0 hz1 hz2 rfl (by decide) _ 0 [] rfl (HO.out.alloc _) ⟨w1.heap.size + 1, 0, none⟩ 1 1 [.int .u8 y] rfl rfl (by have := cell_one_new (w1.alloc (.cells #[] 5)) (.int .u8 y) 5; rwa [World.size_alloc] at this) (by simp [Value.oneCell']) (by simp only [maxLen]; omega) (by omega) (by simp; omega) ?_; intro v2 w2 hown2 hgrow2 _; have hb2 := Aside0.mk ((below_alloc hB0.out (.cells #[.int .u8 y] 5)).grown hgrow2 (below_alloc hB0.out (.cells #[.int .u8 y] 5)).size (fun k hk => ((HO.out.alloc (.cells #[.int .u8 y] 5)).lt k hk).1)); obtain ⟨g, c2, rfl, hv2⟩ := FIN.out v2 w2 (by simpa using hown2) hb2.out; have HV2 := Aside0.mk hv2; have T2 := Aside0.mk (T1.out.below hb2.out); obtain ⟨⟨c0, c1, c2', c3, c4⟩, r0, r1, r2, r3, r4⟩ := T2.out.cells; obtain ⟨zb, zr⟩ := T2.out.frozen; clear hown2 hgrow2 hv2))
    have T3 := Aside0.mk (T2.out.set4 (.slice (some ⟨g, 0, none⟩) (0 + 1) c2))
    have HC := Aside0.mk T3.out.copy
    have HX := Aside0.mk (tx_copy (tx_b (OnlyP.refl (TX B) w2) 4 (.slice (some ⟨g, 0, none⟩) (0 + 1) c2)) (.slice A len cap) (.int .i64 (came : Int)) (.slice Ar q.length cr) (.bool over) (.slice (some ⟨g, 0, none⟩) (0 + 1) c2))
    refine bodyPost_ret (results_cell_row rfl _ _ (B + 1) 73 _ (0, 0) _ rfl HC.out Try.underlying73 rfl (by kernel_rfl)) rfl ?_
    refine ⟨_, rfl, ⟨Ar, cr, _, _, by simp, ((V1.out.below hb2.out).tx HX.out).unxb, (HV2.out.tx HX.out).unxb⟩, ?_⟩
    exact HX.out.below (fun k hk => by have := HBS.out; rcases hk with rfl | rfl <;> omega) (below_on B1.out hb2.out)
  · have hc0 : (w1.alloc (.cells #[] 5)).cell? ⟨B, 4, none⟩ = some (.slice (some ad) out.length co) := (T1.out.below (below_alloc (Below.refl _ _) _)).cells.1.2.2.2.2
    have HN := Aside0.mk (fun o j u (hu : (out.map (Value.int .u8))[j]? = some u) => pw_cell_below (below_alloc (Below.refl w1.heap.size w1) o) (hnews j u hu))
    clear hnews
    go_wp2_with (first
      | (at_builtin; refine wpList_append_own _ rfl (.tmp 9) (.tmp 11) 29 rfl w1.heap.size 5 i0 (.int .u8 0) 1 1 Try.underlying29 hi hz0 hz1 hz2 rfl (by decide) _ 0 [] rfl HO.out ad out.length co (out.map (Value.int .u8)) rfl (by simp) (HN.out _) (by intro u hu; obtain ⟨p, _, rfl⟩ := List.mem_map.1 hu; rfl) (by simp only [maxLen]; omega) (by omega) (by simp) ?_; intro v1 wa hown1 hgrow1 _; simp only [Nat.zero_add, List.nil_append] at hown1; have hb1 := Aside0.mk (hB0.out.grown hgrow1 hB0.out.size (fun k hk => (HO.out.lt k hk).1)); have HO1 := Aside0.mk hown1; clear hown1 hgrow1)
      | (at_builtin; refine wpList_append_own _ rfl (.tmp 12) (.tmp 16) 29 rfl w1.heap.size 5 i0 (.int .u8 0) 1 1 Try.underlying29 hi hz0 hz1 hz2 rfl (by decide) _ out.length (out.map (Value.int .u8)) rfl (HO1.out.alloc _) ⟨wa.heap.size, 0, none⟩ 1 1 [.int .u8 y] rfl rfl (cell_one_new _ _ _) (by simp [Value.oneCell']) (by simp only [maxLen]; omega) (by omega) (by have := hb1.out.size; simp; omega) ?_; intro v2 w2 hown2 hgrow2 _; have hb2 := Aside0.mk ((below_alloc hb1.out (.cells #[.int .u8 y] 5)).grown hgrow2 (below_alloc hb1.out (.cells #[.int .u8 y] 5)).size (fun k hk => ((HO1.out.alloc (.cells #[.int .u8 y] 5)).lt k hk).1)); obtain ⟨g, c2, rfl, hv2⟩ := FIN.out v2 w2 (by simpa using hown2) hb2.out; have HV2 := Aside0.mk hv2; have T2 := Aside0.mk (T1.out.below hb2.out); obtain ⟨⟨c0, c1, c2', c3, c4⟩, r0, r1, r2, r3, r4⟩ := T2.out.cells; obtain ⟨zb, zr⟩ := T2.out.frozen; clear hown2 hgrow2 hv2))
    have T3 := Aside0.mk (T2.out.set4 (.slice (some ⟨g, 0, none⟩) (out.length + 1) c2))
    have HC := Aside0.mk T3.out.copy
    have HX := Aside0.mk (tx_copy (tx_b (OnlyP.refl (TX B) w2) 4 (.slice (some ⟨g, 0, none⟩) (out.length + 1) c2)) (.slice A len cap) (.int .i64 (came : Int)) (.slice Ar q.length cr) (.bool over) (.slice (some ⟨g, 0, none⟩) (out.length + 1) c2))
    refine bodyPost_ret (results_cell_row rfl _ _ (B + 1) 73 _ (0, 0) _ rfl HC.out Try.underlying73 rfl (by kernel_rfl)) rfl ?_
    refine ⟨_, rfl, ⟨Ar, cr, _, _, by simp, ((V1.out.below hb2.out).tx HX.out).unxb, (HV2.out.tx HX.out).unxb⟩, ?_⟩
    exact HX.out.below (fun k hk => by have := HBS.out; rcases hk with rfl | rfl <;> omega) (below_on B1.out hb2.out)
end Go.Proofs.Ytonfblfbmnepoaa
