/- The table's Forget. -/
import Derived.Test.YtbphciahojjnpaaHotC
import Derived.BigRegion
namespace Go.Proofs.Ytbphciahojjnpaa
open Go Go.RowKit Go.Deep Go.Proofs.YtbphciahojjnpaaW.PrintWords Go.Proofs.Ytbphciahojjnpaa.HotPlain
set_option linter.unusedVariables false
set_option linter.unusedSimpArgs false

theorem forget_nil (w : World) (pc : Int) : Calls Try.prog 45 #[.pointer none, .int .u32 pc] w fun e w' => e = .returned (.bool false) ∧ Drawn0 w w' := by
  go_enter Try.func45, Try.ntmps45
  go_wp2
  go_step3
  go_wp2_with fail
  refine (of_nil _ _).mono ?_
  rintro e w1 ⟨rfl, d1⟩
  go_wp2_with fail
  try rw [Exit.noGoto_ret]
  go_ret
  exact ⟨rfl, d1⟩

set_option maxRecDepth 100000 in
set_option maxHeartbeats 1000000 in
theorem forget_no (w : World) (B : Nat) (W : List (Int × Int)) (pc : Int) (h : TB w B W) (h0 : 0 ≤ pc) (h1 : pc < 4294967296) (hz : hof W pc = 0) : Calls Try.prog 45 #[.pointer (some ⟨B, 0, none⟩), .int .u32 pc] w fun e w' => e = .returned (.bool false) ∧ Drawn0 w w' := by
  have HO := Aside0.mk (tof_calls w B W pc h h0 h1)
  rw [hz] at HO
  clear h hz
  go_enter Try.func45, Try.ntmps45
  go_wp2
  go_step3
  go_wp2_with fail
  refine HO.out.mono ?_
  rintro e w1 ⟨rfl, d1⟩
  go_wp2_with fail
  try rw [Exit.noGoto_ret]
  go_ret
  exact ⟨rfl, d1⟩

theorem IsH.setBoth {w : World} {B : Nat} {l : Tab} {m : Int} (h : IsH w B l m) (i : Nat) (hi : i < 128) (a b : Int) : IsH ((w.setCell ⟨B, i * 2, none⟩ (.int .u32 a)).setCell ⟨B, i * 2 + 1, none⟩ (.int .u32 b)) B (l.set i (a, b)) m := by
  have h1 := (h.setPc i hi a).setN i hi b
  have hl : i < l.length := by rw [h.2]; exact hi
  rwa [pcA_set _ _ _ _ hl, if_pos rfl, List.set_set] at h1

/-- What is kept while those behind a hole move up. -/
structure Moving (l : Tab) (hole at_ e k : Nat) (r : List (Int × Int)) : Prop where
  h : Hole l hole at_
  e0 : e < 128
  ez : nA l e = 0
  eh : e ≠ hole
  ord : dist hole at_ + k = dist hole e
  k1 : 1 ≤ k
  perm : (live l).Perm r
theorem Moving.next_ne {l : Tab} {hole at_ e k : Nat} {r : List (Int × Int)} (m : Moving l hole at_ e k r) : (at_ + 1) % 128 ≠ hole := by
  have := m.ord; have := m.k1; have := m.e0; have := m.h.lt; have := m.h.alt; have := m.eh
  unfold dist at *
  omega
theorem Moving.step_e {l : Tab} {hole at_ e k : Nat} {r : List (Int × Int)} (m : Moving l hole at_ e k r) (hn : nA l ((at_ + 1) % 128) ≠ 0) : (at_ + 1) % 128 ≠ e := fun h => hn (h ▸ m.ez)
theorem Moving.k2 {l : Tab} {hole at_ e k : Nat} {r : List (Int × Int)} (m : Moving l hole at_ e k r) (hn : nA l ((at_ + 1) % 128) ≠ 0) : 2 ≤ k := by
  have := m.step_e hn; have := m.ord; have := m.k1; have := m.e0; have := m.h.lt; have := m.h.alt; have := m.eh
  unfold dist at *
  omega
theorem Moving.stay {l : Tab} {hole at_ e k : Nat} {r : List (Int × Int)} (m : Moving l hole at_ e k r) (hn : nA l ((at_ + 1) % 128) ≠ 0) (hs : dist (home (pcA l ((at_ + 1) % 128))) ((at_ + 1) % 128) < dist hole ((at_ + 1) % 128)) : Moving l hole ((at_ + 1) % 128) e (k - 1) r := by
  refine ⟨hole_stay m.h hn hs, m.e0, m.ez, m.eh, ?_, by have := m.k2 hn; omega, m.perm⟩
  have := m.k2 hn; have := m.ord; have := m.next_ne; have := m.e0; have := m.h.lt; have := m.h.alt; have := m.eh
  unfold dist at *
  omega
theorem Moving.move {l : Tab} {hole at_ e k : Nat} {r : List (Int × Int)} (m : Moving l hole at_ e k r) (hn : nA l ((at_ + 1) % 128) ≠ 0) (hs : ¬ dist (home (pcA l ((at_ + 1) % 128))) ((at_ + 1) % 128) < dist hole ((at_ + 1) % 128)) : Moving ((l.set hole (pcA l ((at_ + 1) % 128), nA l ((at_ + 1) % 128))).set ((at_ + 1) % 128) (0, 0)) ((at_ + 1) % 128) ((at_ + 1) % 128) e (k - 1) r := by
  have hne := m.next_ne
  have hl := m.h.len
  have h1 := m.h.lt
  refine ⟨hole_move m.h hn hs, m.e0, ?_, Ne.symm (m.step_e hn), ?_, by have := m.k2 hn; omega, ?_⟩
  · rw [nA_set _ _ _ _ (by simp; omega), if_neg (m.step_e hn), nA_set _ _ _ _ (by omega), if_neg (Ne.symm m.eh)]
    exact m.ez
  · have := m.k2 hn; have := m.ord; have := m.step_e hn; have := m.e0; have := m.h.alt; have := m.eh
    unfold dist at *
    omega
  · exact (live_move hl h1 (Nat.mod_lt _ (by decide)) hne m.h.free hn).trans m.perm

set_option maxRecDepth 100000 in
set_option maxHeartbeats 2000000 in
theorem forget_yes (w : World) (B : Nat) (W : List (Int × Int)) (pc : Int) (h : TB w B W) (h0 : 0 ≤ pc) (h1 : pc < 4294967296) (hz : hof W pc ≠ 0) : Calls Try.prog 45 #[.pointer (some ⟨B, 0, none⟩), .int .u32 pc] w fun e w' => e = .returned (.bool true) ∧ TB w' B (W.filter fun p => p.1 != pc) ∧ Only B w w' := by
  have HO := Aside0.mk (tof_calls w B W pc h h0 h1)
  obtain ⟨g, l, h, hi, hp⟩ := h
  obtain ⟨e, he, hez⟩ := free_of hi g hp
  obtain ⟨s, hf⟩ := hfound_some l pc e he hez
  have hs := hf.lt
  have hn : nA l s ≠ 0 := by rw [← hof_found hi hf, hof_perm hp (nodup_live hi) pc]; exact hz
  have hq : pcA l s = pc := by rcases hf.stop with h' | h'; exact absurd h' hn; exact h'
  have hsl : s < l.length := by rw [hi.len]; exact hs
  have hes : e ≠ s := fun h => hn (h ▸ hez)
  obtain ⟨x, hx⟩ : ∃ x, hof W pc = x := ⟨_, rfl⟩
  rw [hx] at HO hz
  have hxz : (x == 0) = false := beq_eq_false_iff_ne.2 hz
  have HF := Aside0.mk (fun w (h : IsH w B l W.length) => find_calls w B l _ pc s h h0 h1 e he hez hf)
  have HG := Aside0.mk g
  -- what the places are behind it
  have hperm : (live (l.set s (0, 0))).Perm (W.filter fun p => p.1 != pc) := by
    have p1 := live_free hsl hn
    rw [hq] at p1
    exact perm_free (p1.symm.trans hp) g.nodup
  have hgood := good_forget g pc
  have e1 : (hforget W pc).1 = W.filter (fun p => p.1 != pc) := by unfold hforget; rw [if_neg (by rw [hx]; exact hz)]
  rw [e1] at hgood
  obtain ⟨W', hW'⟩ : ∃ W', W.filter (fun p => p.1 != pc) = W' := ⟨_, rfl⟩
  rw [hW'] at hperm hgood ⊢
  have hcount : (W'.length : Int) = (W.length : Int) - 1 := by
    have p1 := (live_free hsl hn).length_eq
    have p2 := hp.length_eq
    have p3 := hperm.length_eq
    simp at p1
    omega
  have HM := Aside0.mk (show Moving (l.set s (0, 0)) s s e (dist s e) W' from
    ⟨hole_begin hi hs, he, by rw [nA_set _ _ _ _ hsl, if_neg (Ne.symm hes)]; exact hez, hes, by unfold dist; omega, by unfold dist; omega, hperm⟩)
  obtain ⟨D, hD⟩ : ∃ D, dist s e = D := ⟨_, rfl⟩
  rw [hD] at HM
  obtain ⟨c, hc⟩ : ∃ c : Nat, W'.length = c := ⟨_, rfl⟩
  have hcw : (W.length : Int) = (c : Int) + 1 := by omega
  rw [hcw] at h HF
  have hc63 : c ≤ 63 := by have := g.few; omega
  have H := Aside0.mk h
  have HW := Aside0.mk hgood
  have HC := Aside0.mk hc
  clear h hi hp hez hf hn hq hes hx hz g hperm hgood e1 hW' hcount hD hcw hc he
  go_enter Try.func45, Try.ntmps45
  go_wp2
  go_step3
  go_wp2_with fail
  refine HO.out.mono ?_
  rintro e w1 ⟨rfl, d1⟩
  have H1 := Aside0.mk (H.out.drawn d1)
  have O1 := Aside0.mk (Only.of_below (B := B) d1.below)
  clear d1 H HO
  go_wp2_with fail
  refine (HF.out _ H1.out).mono ?_
  rintro e w2 ⟨rfl, d2⟩
  have H2 := Aside0.mk (H1.out.drawn d2)
  have O2 := Aside0.mk (O1.out.trans (Only.of_below (B := B) d2.below))
  clear d2 H1 O1 HF
  have cm := H2.out.many
  have fz := fun i => H2.out.fz i
  have c1 := H2.out.n s hs
  have c0 := H2.out.pc s hs
  have H3 := Aside0.mk (((H2.out.setMany (c : Int)).setPc s hs 0).setN s hs 0)
  have O3 := Aside0.mk (((O2.out.setCell 256 (.int .i64 c)).setCell (s * 2) (.int .u32 0)).setCell (s * 2 + 1) (.int .u32 0))
  rw [pcA_set _ _ _ _ hsl, if_pos rfl, List.set_set] at H3
  go_wp2_with fail
  obtain ⟨W3, hW3⟩ : ∃ W3, (((w2.setCell ⟨B, 256, none⟩ (.int .i64 c)).setCell ⟨B, s * 2, none⟩ (.int .u32 0)).setCell ⟨B, s * 2 + 1, none⟩ (.int .u32 0)) = W3 := ⟨_, rfl⟩
  rw [hW3] at H3 O3 ⊢
  clear hW3 cm fz c1 c0 H2 O2
  go_step3
  go_wp2_with fail
  go_loopg [5, 6] D (fun k hole at_ wr => ∃ (hn an : Nat) (l' : Tab), hole = .int .i64 hn ∧ at_ = .int .i64 an ∧ hn < 128 ∧ an < 128 ∧ Aside0 (Moving l' hn an e k W') ∧ Aside0 (IsH wr B l' c) ∧ Aside0 (Only B w wr))
  case atStart => exact ⟨s, s, _, rfl, rfl, hs, hs, HM, H3, O3⟩
  case round =>
    obtain ⟨hn, an, l', rfl, rfl, hhn, han, hm, hh, ho⟩ := hrel
    obtain ⟨wo, rfl⟩ : ∃ wo : World, wo = wr := ⟨_, rfl⟩
    have hnx : (an + 1) % 128 < 128 := Nat.mod_lt _ (by decide)
    obtain ⟨x', hx'⟩ : ∃ x', nA l' ((an + 1) % 128) = x' := ⟨_, rfl⟩
    obtain ⟨y', hy'⟩ : ∃ y', pcA l' ((an + 1) % 128) = y' := ⟨_, rfl⟩
    have c1 := hh.out.n _ hnx
    have c0 := hh.out.pc _ hnx
    rw [hx'] at c1
    rw [hy'] at c0
    have lt1 := hh.out.lt
    have fz := fun i => hh.out.fz i
    have HX := Aside0.mk hx'
    have HY := Aside0.mk hy'
    clear hx' hy'
    by_cases x0 : x' = 0
    · subst x0
      go_wp2_with fail
      have HB := below_alloc (Below.refl wo.heap.size wo) (.cells #[.int .u32 y', .int .u32 0] 108)
      have HE := Aside0.mk (hole_end hm.out.h hm.out.next_ne HX.out)
      try rw [Exit.noGoto_ret]
      go_ret
      exact ⟨rfl, ⟨HW.out, l', by rw [HC.out]; exact hh.out.below HB, HE.out, hm.out.perm⟩, ho.out.on HB⟩
    · have x1 : (x' == 0) = false := beq_eq_false_iff_ne.2 x0
      have HN : Aside0 (nA l' ((an + 1) % 128) ≠ 0) := ⟨by rw [HX.out]; exact x0⟩
      have hyr : 0 ≤ y' ∧ y' < 4294967296 := by
        have hmem := (mem_live hm.out.h.len).2 ⟨_, hnx, HN.out, rfl⟩
        have := HW.out.rng _ (hm.out.perm.mem_iff.1 hmem)
        simp only at this
        rw [HY.out] at this
        exact ⟨this.1, this.2.1⟩
      have hb := home_lt y'
      clear x0
      by_cases hd : dist (home y') ((an + 1) % 128) < dist hn ((an + 1) % 128)
      · have HD := Aside0.mk hd
        have d1 : (((an : Int) + 1) % 128 + 128 - (home y' : Int)) % 128 < (((an : Int) + 1) % 128 + 128 - (hn : Int)) % 128 := by unfold dist at hd; omega
        clear hd
        go_wp2_with fail
        refine (first_calls _ y' hyr.1 hyr.2).mono ?_
        rintro e5 w5 ⟨rfl, ⟨⟨n5, rfl⟩⟩⟩
        go_wp2_with fail
        have HB := Aside0.mk (pw_below_drewN (below_alloc (Below.refl wo.heap.size wo) (.cells #[.int .u32 y', .int .u32 x'] 108)) n5)
        go_roundg (gk - 1)
        case measure => have := hm.out.k1; omega
        case rel => exact ⟨hn, (an + 1) % 128, l', rfl, by congr 1, hhn, hnx, ⟨hm.out.stay HN.out (by rw [HY.out]; exact HD.out)⟩, ⟨hh.out.below HB.out⟩, ⟨ho.out.on HB.out⟩⟩
      · have HD := Aside0.mk hd
        have d1 : ¬ (((an : Int) + 1) % 128 + 128 - (home y' : Int)) % 128 < (((an : Int) + 1) % 128 + 128 - (hn : Int)) % 128 := by unfold dist at hd; omega
        clear hd
        go_wp2_with fail
        refine (first_calls _ y' hyr.1 hyr.2).mono ?_
        rintro e5 w5 ⟨rfl, ⟨⟨n5, rfl⟩⟩⟩
        go_wp2_with fail
        have HB := Aside0.mk (pw_below_drewN (below_alloc (Below.refl wo.heap.size wo) (.cells #[.int .u32 y', .int .u32 x'] 108)) n5)
        have HP := Aside0.mk (blk_new wo (.cells #[.int .u32 y', .int .u32 x'] 108))
        obtain ⟨W6, hW6⟩ : ∃ W6, (wo.alloc (.cells #[.int .u32 y', .int .u32 x'] 108)).drewN n5 = W6 := ⟨_, rfl⟩
        have hp6 : W6.heap[wo.heap.size]? = some (.cells #[.int .u32 y', .int .u32 x'] 108 (0, 0)) := by rw [← hW6]; exact HP.out
        rw [hW6] at HB ⊢
        have H6 := Aside0.mk (hh.out.below HB.out)
        have O6 := Aside0.mk (ho.out.on HB.out)
        have M6 := Aside0.mk (hm.out.move HN.out (by rw [HY.out]; exact HD.out))
        rw [HX.out, HY.out] at M6
        have hlh : hn < l'.length := by rw [H6.out.2]; exact hhn
        have hne := hm.out.next_ne
        have K1 := hm.out.k1
        have H7 := Aside0.mk ((H6.out.setBoth hn hhn y' x').setBoth _ hnx 0 0)
        have O7 := Aside0.mk ((((O6.out.setCell (hn * 2) (.int .u32 y')).setCell (hn * 2 + 1) (.int .u32 x')).setCell ((an + 1) % 128 * 2) (.int .u32 0)).setCell ((an + 1) % 128 * 2 + 1) (.int .u32 0))
        have g0 : W6.cell? ⟨B, hn * 2, none⟩ = some (.int .u32 (pcA l' hn)) := H6.out.pc _ hhn
        have g1 : W6.cell? ⟨B, hn * 2 + 1, none⟩ = some (.int .u32 (nA l' hn)) := H6.out.n _ hhn
        have g2 : W6.cell? ⟨B, (an + 1) % 128 * 2, none⟩ = some (.int .u32 (pcA l' ((an + 1) % 128))) := H6.out.pc _ hnx
        have g3 : W6.cell? ⟨B, (an + 1) % 128 * 2 + 1, none⟩ = some (.int .u32 (nA l' ((an + 1) % 128))) := H6.out.n _ hnx
        have gz : ∀ i, W6.frozen? ⟨B, i, none⟩ = false := fun i => H6.out.fz i
        have q0 : W6.cell? ⟨wo.heap.size, 0, none⟩ = some (.int .u32 y') := (blk_cell hp6 0).trans rfl
        have q1 : W6.cell? ⟨wo.heap.size, 1, none⟩ = some (.int .u32 x') := (blk_cell hp6 1).trans rfl
        have hBp : ¬ wo.heap.size = B := by omega
        have i1 : (0 : Int) ≤ ((an : Int) + 1) % 128 := by omega
        have i2 : ((an : Int) + 1) % 128 < 128 := by omega
        clear hW6 hp6 HP c1 c0 fz
        clear HX HY HD H6 O6 HN HW HC HG HM H3 O3 hh ho hm
        go_region
        all_goals go_wp2
        all_goals go_roundg (gk - 1)
        case measure => omega
        case rel => exact ⟨(an + 1) % 128, (an + 1) % 128, _, by congr 1, by congr 1, hnx, hnx, M6, H7, ⟨O7.out.drew⟩⟩

theorem tforget_calls (w : World) (B : Nat) (W : List (Int × Int)) (pc : Int) (h : TB w B W) (h0 : 0 ≤ pc) (h1 : pc < 4294967296) : Calls Try.prog 45 #[.pointer (some ⟨B, 0, none⟩), .int .u32 pc] w fun e w' => e = .returned (.bool (hforget W pc).2) ∧ TB w' B (hforget W pc).1 ∧ Only B w w' := by
  unfold hforget
  by_cases hz : hof W pc = 0
  · rw [if_pos hz]
    exact (forget_no w B W pc h h0 h1 hz).mono fun e w' ⟨a, d⟩ => ⟨a, h.drawn d, .of_below d.below⟩
  · rw [if_neg hz]
    exact forget_yes w B W pc h h0 h1 hz

end Go.Proofs.Ytbphciahojjnpaa
