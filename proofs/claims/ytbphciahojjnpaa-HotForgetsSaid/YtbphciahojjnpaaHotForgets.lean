/- The walk of HotForgets. -/
import Derived.Test.YtbphciahojjnpaaHotPlays
import Derived.Test.YtbphciahojjnpaaOpens
namespace Go.Proofs.Ytbphciahojjnpaa
open Go Go.RowKit Go.Deep Go.Proofs.YtbphciahojjnpaaW.PrintWords Go.Proofs.YtbphciahojjnpaaW.PrintLast Go.Proofs.YtbphciahojjnpaaW.PrintMore Go.Proofs.Ytbphciahojjnpaa.HotPlain Go.Proofs.Ytbphciahojjnpaa.QHotPlays
set_option linter.unusedVariables false
set_option linter.unusedSimpArgs false

set_option maxRecDepth 100000 in
set_option maxHeartbeats 1000000 in
theorem forgets_not (A : Option Addr) (len cap : Nat) (a : Int) (W : World) (h : 300 < len ∨ len = 0) : Calls Try.prog 10 #[.slice A len cap, .int .u8 a] W fun e w' => e = .returned (.bool true) ∧ Below W.heap.size W w' := by
  have B0 := Aside0.mk (Below.refl W.heap.size W)
  rcases h with h | rfl
  all_goals
    go_enter Try.func10, Try.ntmps10
    go_wp2_with fail
    refine (hot_awake _).mono ?_
    rintro e w1 ⟨rfl, d⟩
    have B1 := Aside0.mk (below_on B0.out d)
    clear d
    go_wp2_with fail
    go_ret
    exact ⟨rfl, B1.out⟩

/-- The table at B counts W', the row v has the places l. -/
structure HT (W w : World) (B : Nat) (v : Value) (l : List S83) (W' : List (Int × Int)) : Prop where
  bel : Below W.heap.size W w
  ge : W.heap.size ≤ B
  r : Kd.R k83 83 w W.heap.size (fun k => k ≠ B) v l
  t : TB w B W'
theorem HT.below {W w w' : World} {B : Nat} {v : Value} {l : List S83} {W' : List (Int × Int)} (h : HT W w B v l W') (k : Below w.heap.size w w') : HT W w' B v l W' :=
  ⟨below_on h.bel k, h.ge, Kd.R_below h.r k, h.t.below k⟩
theorem HT.drawn {W w w' : World} {B : Nat} {v : Value} {l : List S83} {W' : List (Int × Int)} (h : HT W w B v l W') (d : Drawn0 w w') : HT W w' B v l W' := h.below d.below
theorem HT.table {W w w' : World} {B : Nat} {v : Value} {l : List S83} {W' W2 : List (Int × Int)} (h : HT W w B v l W') (t : TB w' B W2) (o : Only B w w') : HT W w' B v l W2 :=
  ⟨o.below h.ge h.bel, h.ge, Kd.R_kept h.r (kept_only o) (fun k hk => hk), t⟩

theorem hof_kept {W : List (Int × Int)} (hg : HGood W) (pc x : Int) (hne : x ≠ pc) : hof (hforget W pc).1 x = hof W x := by
  unfold hforget
  split
  · rfl
  · by_cases e : ∃ n, (x, n) ∈ W
    · obtain ⟨n, e⟩ := e
      rw [hof_mem hg.nodup e]
      exact hof_mem (hg.nodup.sublist (List.Sublist.map _ List.filter_sublist)) (List.mem_filter.2 ⟨e, by simpa using hne⟩)
    · rw [hof_none fun n hh => e ⟨n, hh⟩, hof_none fun n hh => e ⟨n, (List.mem_filter.1 hh).1⟩]
theorem hof_forgot {W : List (Int × Int)} (hg : HGood W) (pc : Int) : hof (hforget W pc).1 pc = 0 := by
  unfold hforget
  split
  · assumption
  · apply hof_none
    intro n hm
    have := (List.mem_filter.1 hm).2
    simp at this
theorem hforget_no {W : List (Int × Int)} (pc : Int) (h : hof W pc = 0) : hforget W pc = (W, false) := by unfold hforget; rw [if_pos h]
theorem hforget_again {W : List (Int × Int)} (hg : HGood W) (pc : Int) (h : hof W pc ≠ 0) : (hadd (hforget W pc).1 pc 1).2 = 1 := by
  have h0 := hof_forgot hg pc
  have hl : (hforget W pc).1.length < 64 := by
    unfold hforget
    rw [if_neg h]
    have hm := hof_pos hg pc h
    have := hg.few
    refine Nat.lt_of_lt_of_le ?_ this
    apply Nat.lt_of_le_of_ne (List.length_filter_le _ _)
    intro e
    have := (List.length_filter_eq_length_iff.1 e) _ hm
    simp at this
  unfold hadd
  rw [if_neg (by decide), if_pos h0, if_neg (by omega)]

set_option maxRecDepth 100000 in
set_option maxHeartbeats 2000000 in
theorem forgets_yes (A : Option Addr) (len cap : Nat) (zs : List Int) (a : Int) (W : World) (hl : len ≤ 300) (hl0 : 0 < len) (hf : IsRow .u32 W A len cap zs) (ha : (Lit.int .u8 a).wf = true) : Calls Try.prog 10 #[.slice A len cap, .int .u8 a] W fun e w' => e = .returned (.bool true) ∧ Below W.heap.size W w' := by
  obtain ⟨a0, a1⟩ : 0 ≤ a ∧ a < 256 := by simp [Lit.wf, IntKind.min, IntKind.max, IntKind.bits, IntKind.signed] at ha; omega
  obtain ⟨x, rfl, hlc, hcm, hzl, hcell, hwf⟩ : ∃ x, A = some x ∧ len ≤ cap ∧ cap ≤ maxLen ∧ zs.length = cap ∧ (∀ i, i < zs.length → W.cell? (x.add i) = some (.int .u32 (zs.getD i 0))) ∧ ∀ n ∈ zs, (Lit.int .u32 n).wf = true := by
    rcases hf with ⟨_, rfl, _⟩ | h
    · omega
    · exact h
  have hrange : ∀ i, i < len → 0 ≤ zs.getD i 0 ∧ zs.getD i 0 < 4294967296 := fun i hi => by
    rw [List.getD_eq_getElem?_getD, List.getElem?_eq_getElem (by omega)]
    exact u32_of _ (hwf _ (List.getElem_mem _))
  have HC := Aside0.mk (fun i (hi : i < len) => hcell i (by omega))
  have HR := Aside0.mk hrange
  have HL := Aside0.mk (⟨hlc, hcm⟩ : len ≤ cap ∧ cap ≤ maxLen)
  have hne0 : ((len : Int) == 0) = false := beq_eq_false_iff_ne.2 (by omega)
  clear hf ha hcell hwf hrange hzl hlc hcm
  have B0 := Aside0.mk (Below.refl W.heap.size W)
  go_enter Try.func10, Try.ntmps10
  go_wp2_with fail
  refine (tnew_calls _).mono ?_
  rintro e w1 ⟨rfl, t, d⟩
  have B1 := Aside0.mk (below_on B0.out d)
  have T0 := Aside0.mk t
  clear t d B0
  go_wp2_with fail
  have HS0 : Aside0 (HT W (w1.alloc (.cells #[] 83)) W.heap.size (.slice (some ⟨w1.heap.size, 0, none⟩) 0 0) [] (prs [])) := ⟨by
    have hb := below_alloc (Below.refl w1.heap.size w1) (.cells #[] 83)
    have hlt := (T0.out).lt
    refine ⟨below_on B1.out hb, Nat.le_refl _, ⟨fun k hk => ?_, OwnRow.lit w1 W.heap.size (Reps.none _ _) (B1.out).size (by simp)⟩, (T0.out).below hb⟩
    have : w1.heap.size = k := by simpa [Value.ownBlock] using hk
    show k ≠ W.heap.size
    omega⟩
  go_loopg [6, 7] len (fun g v i wr => ∃ (k : Nat) (l : List S83), g + k = len ∧ i = .int .i64 (k : Int) ∧ Aside0 (HT W wr W.heap.size v l (prs l)))
  case atStart => exact ⟨0, [], rfl, rfl, HS0⟩
  case round =>
    obtain ⟨k, l, hk, rfl, hs⟩ := hrel
    obtain ⟨wo, rfl⟩ : ∃ wo : World, wo = wr := ⟨_, rfl⟩
    by_cases hlt : k < len
    · have c0 : wo.cell? (x.add k) = some (.int .u32 (zs.getD k 0)) := pw_cell_below hs.out.bel (HC.out k hlt)
      obtain ⟨p0, p1⟩ := HR.out k hlt
      obtain ⟨l', hA, hl'⟩ := ref_add l (zs.getD k 0) 1 hs.out.t.good (by omega) (by omega)
      have HA := Aside0.mk hA
      have HL' := Aside0.mk hl'
      have HZ := HC.out k hlt
      obtain ⟨z, hz⟩ : ∃ z, zs.getD k 0 = z := ⟨_, rfl⟩
      rw [hz] at c0 p0 p1 HA HL' HZ
      have HZ := Aside0.mk HZ
      clear hA hl' hz
      have HCT := Aside0.mk (tcount_calls wo W.heap.size (prs l) z hs.out.t p0 p1)
      go_wp2_with fail
      refine HCT.out.mono ?_
      rintro e w2 ⟨rfl, t, o⟩
      have H2 := Aside0.mk (hs.out.table t o)
      clear t o hs HCT c0
      have c0 : w2.cell? (x.add k) = some (.int .u32 z) := pw_cell_below H2.out.bel HZ.out
      go_wp2_with fail
      refine (mimesisref21_Add.calls 66 (fun k => k ≠ W.heap.size) _ l z 1 l' _ W _ H2.out.bel H2.out.r HA.out).mono ?_
      rintro e w3 ⟨v1, rfl, r1, b1, k1⟩
      have H3 := Aside0.mk (show HT W w3 W.heap.size v1 l' (prs l') from ⟨b1, Nat.le_refl _, Kd.R_mono r1 (fun k hk => by
        rcases hk with hk | hk
        · exact hk
        · have := H2.out.t.lt
          show k ≠ W.heap.size
          omega), by rw [HL'.out]; exact H2.out.t.kept k1 (fun hh => hh rfl)⟩)
      clear r1 b1 k1 H2 c0 HA HL' HZ
      go_wp2_with fail
      go_roundg (gk - 1)
      case measure => omega
      case rel => exact ⟨k + 1, l', by omega, by congr 1, H3⟩
    · obtain rfl : k = len := by omega
      obtain ⟨A2, c3, rfl, hc, hC⟩ := Kd.R_reads hs.out.r
      clear hC
      have hmod : 0 ≤ a % (k : Int) ∧ a % (k : Int) < k := ⟨Int.emod_nonneg _ (by omega), Int.emod_lt_of_pos _ (by omega)⟩
      obtain ⟨m, hm⟩ : ∃ m : Nat, a % (k : Int) = m := ⟨(a % (k : Int)).toNat, by omega⟩
      have hmk : m < k := by omega
      have c0 : wo.cell? (x.add m) = some (.int .u32 (zs.getD m 0)) := pw_cell_below hs.out.bel (HC.out m hmk)
      obtain ⟨p0, p1⟩ := HR.out m hmk
      obtain ⟨pc, hpc⟩ : ∃ z, zs.getD m 0 = z := ⟨_, rfl⟩
      rw [hpc] at c0 p0 p1
      clear hpc
      go_wp2_with fail
      have HOF := Aside0.mk (mimesisref21_Of.calls 66 A2 c3 l pc _ wo (Kd.R_reads' hs.out.r).2.2 hc (ref_of l pc hs.out.t.good))
      have HG := Aside0.mk hs.out.t.good
      obtain ⟨W', hW'⟩ : ∃ W', (hforget (prs l) pc).1 = W' := ⟨_, rfl⟩
      have HW' := Aside0.mk hW'
      have hgone := hof_forgot hs.out.t.good pc
      rw [hW'] at hgone
      have HF2 := Aside0.mk (fun w (t : TB w W.heap.size W') => hgone ▸ tof_calls w W.heap.size W' pc t p0 p1)
      have HF3 := Aside0.mk (fun w (t : TB w W.heap.size W') => hforget_no pc hgone ▸ tforget_calls w W.heap.size W' pc t p0 p1)
      obtain ⟨y, hy⟩ : ∃ y, hof (prs l) pc = y := ⟨_, rfl⟩
      have hyr := hs.out.t.good.of pc
      rw [hy] at HOF hyr
      refine HOF.out.mono ?_
      rintro e w4 ⟨rfl, d⟩
      have H4 := Aside0.mk (hs.out.drawn d)
      clear d hs HOF hgone c0
      by_cases hy0 : y = 0
      · subst hy0
        have e1 : hforget (prs l) pc = (W', false) := by rw [hforget_no pc hy, ← hW', hforget_no pc hy]
        have HF1 := Aside0.mk (fun w (t : TB w W.heap.size (prs l)) => e1 ▸ tforget_calls w W.heap.size (prs l) pc t p0 p1)
        clear e1 hW' hy
        go_wp2_with fail
        refine (HF1.out _ H4.out.t).mono ?_
        rintro e w5 ⟨rfl, t, o⟩
        have H5 := Aside0.mk (H4.out.table t o)
        clear t o H4
        go_wp2_with fail
        refine (HF2.out _ H5.out.t).mono ?_
        rintro e w6 ⟨rfl, d⟩
        have H6 := Aside0.mk (H5.out.drawn d)
        clear d H5
        go_wp2_with fail
        refine (HF3.out _ H6.out.t).mono ?_
        rintro e w7 ⟨rfl, t, o⟩
        have H7 := Aside0.mk (H6.out.table t o)
        clear t o H6 HF1 HF2 HF3
        go_wp2_with fail
        go_loopg [12] k (fun g i wr => ∃ (j : Nat), g + j = k ∧ i = .int .i64 (j : Int) ∧ Aside0 (HT W wr W.heap.size (.slice A2 l.length c3) l W'))
        case atStart => exact ⟨0, rfl, rfl, H7⟩
        case round =>
          obtain ⟨j, hj, rfl, hs2⟩ := hrel
          obtain ⟨wp, rfl⟩ : ∃ wo : World, wo = wr := ⟨_, rfl⟩
          by_cases hlt2 : j < k
          · have c1 : ∀ n, (wp.drewN n).cell? (x.add j) = some (.int .u32 (zs.getD j 0)) := fun n => pw_cell_below (hs2.out.drawn ⟨⟨n, rfl⟩⟩).bel (HC.out j hlt2)
            obtain ⟨z0, z1⟩ := HR.out j hlt2
            obtain ⟨z, hz⟩ : ∃ z, zs.getD j 0 = z := ⟨_, rfl⟩
            rw [hz] at c1 z0 z1
            have c10 : wp.cell? (x.add j) = some (.int .u32 z) := c1 0
            clear hz
            by_cases hzp : z = pc
            · subst hzp
              have hne : (z != z) = false := by simp
              go_wp2_with fail
              go_quiet (fail)
              have HZ := Aside0.mk (hs2.out.drawn ⟨⟨nq, rfl⟩⟩)
              clear hs2
              go_wp2_with fail
              go_roundg (gk - 1)
              case measure => omega
              case rel => exact ⟨j + 1, by omega, by congr 1, HZ⟩
            · have hne : (z != pc) = true := by simpa using hzp
              have hk2 := hof_kept HG.out pc z hzp
              rw [HW'.out] at hk2
              have HO1 := Aside0.mk (fun n => hk2 ▸ tof_calls (wp.drewN n) W.heap.size W' z (hs2.out.drawn ⟨⟨n, rfl⟩⟩).t z0 z1)
              have HO2 := Aside0.mk (fun n => mimesisref21_Of.calls 66 A2 c3 l z _ (wp.drewN n) (Kd.R_reads' (hs2.out.drawn ⟨⟨n, rfl⟩⟩).r).2.2 hc (ref_of l z HG.out))
              obtain ⟨y2, hy2⟩ : ∃ y, hof (prs l) z = y := ⟨_, rfl⟩
              rw [hy2] at HO1 HO2
              clear hy2 hk2 hzp
              go_wp2_with fail
              go_quiet (first | (go_at_call 46; (with_reducible refine (HO1.out _).mono ?_); rintro e w' ⟨rfl, ⟨nd, rfl⟩⟩; (try first | exact ⟨rfl, _, World.drewN_drewN _ _ _⟩ | exact ⟨rfl, _, Eq.trans (World.drewN_drewN _ _ _) (congrArg (World.drewN _) (Nat.add_assoc _ _ _))⟩)) | (go_at_call 44; (with_reducible refine (HO2.out _).mono ?_); rintro e w' ⟨rfl, ⟨nd, rfl⟩⟩; (try first | exact ⟨rfl, _, World.drewN_drewN _ _ _⟩ | exact ⟨rfl, _, Eq.trans (World.drewN_drewN _ _ _) (congrArg (World.drewN _) (Nat.add_assoc _ _ _))⟩)))
              have HZ := Aside0.mk (hs2.out.drawn ⟨⟨nq, rfl⟩⟩)
              clear hs2
              go_wp2_with fail
              go_roundg (gk - 1)
              case measure => omega
              case rel => exact ⟨j + 1, by omega, by congr 1, HZ⟩
          · obtain rfl : j = k := by omega
            go_wp2_with fail
            refine (hot_awake _).mono ?_
            rintro e w8 ⟨rfl, d⟩
            have B8 := Aside0.mk (below_on hs2.out.bel d)
            clear d
            go_wp2_with fail
            go_ret
            exact ⟨by simp, B8.out⟩
      · have hy1 : 0 < y := by omega
        have hyb : (y == 0) = false := beq_eq_false_iff_ne.2 hy0
        have e1 : hforget (prs l) pc = (W', true) := by
          have : (hforget (prs l) pc).2 = true := by unfold hforget; rw [if_neg (by rw [hy]; exact hy0)]
          rw [← hW', ← this]
        have HAG := Aside0.mk (hforget_again HG.out pc (by rw [hy]; exact hy0))
        rw [hW'] at HAG
        have HF1 := Aside0.mk (fun w (t : TB w W.heap.size (prs l)) => e1 ▸ tforget_calls w W.heap.size (prs l) pc t p0 p1)
        clear e1 hW' hy hy0
        go_wp2_with fail
        refine (HF1.out _ H4.out.t).mono ?_
        rintro e w5 ⟨rfl, t, o⟩
        have H5 := Aside0.mk (H4.out.table t o)
        clear t o H4
        go_wp2_with fail
        refine (HF2.out _ H5.out.t).mono ?_
        rintro e w6 ⟨rfl, d⟩
        have H6 := Aside0.mk (H5.out.drawn d)
        clear d H5
        go_wp2_with fail
        refine (HF3.out _ H6.out.t).mono ?_
        rintro e w7 ⟨rfl, t, o⟩
        have H7 := Aside0.mk (H6.out.table t o)
        clear t o H6 HF1 HF2 HF3
        go_wp2_with fail
        go_loopg [12] k (fun g i wr => ∃ (j : Nat), g + j = k ∧ i = .int .i64 (j : Int) ∧ Aside0 (HT W wr W.heap.size (.slice A2 l.length c3) l W'))
        case atStart => exact ⟨0, rfl, rfl, H7⟩
        case round =>
          obtain ⟨j, hj, rfl, hs2⟩ := hrel
          obtain ⟨wp, rfl⟩ : ∃ wo : World, wo = wr := ⟨_, rfl⟩
          by_cases hlt2 : j < k
          · have c1 : ∀ n, (wp.drewN n).cell? (x.add j) = some (.int .u32 (zs.getD j 0)) := fun n => pw_cell_below (hs2.out.drawn ⟨⟨n, rfl⟩⟩).bel (HC.out j hlt2)
            obtain ⟨z0, z1⟩ := HR.out j hlt2
            obtain ⟨z, hz⟩ : ∃ z, zs.getD j 0 = z := ⟨_, rfl⟩
            rw [hz] at c1 z0 z1
            have c10 : wp.cell? (x.add j) = some (.int .u32 z) := c1 0
            clear hz
            by_cases hzp : z = pc
            · subst hzp
              have hne : (z != z) = false := by simp
              go_wp2_with fail
              go_quiet (fail)
              have HZ := Aside0.mk (hs2.out.drawn ⟨⟨nq, rfl⟩⟩)
              clear hs2
              go_wp2_with fail
              go_roundg (gk - 1)
              case measure => omega
              case rel => exact ⟨j + 1, by omega, by congr 1, HZ⟩
            · have hne : (z != pc) = true := by simpa using hzp
              have hk2 := hof_kept HG.out pc z hzp
              rw [HW'.out] at hk2
              have HO1 := Aside0.mk (fun n => hk2 ▸ tof_calls (wp.drewN n) W.heap.size W' z (hs2.out.drawn ⟨⟨n, rfl⟩⟩).t z0 z1)
              have HO2 := Aside0.mk (fun n => mimesisref21_Of.calls 66 A2 c3 l z _ (wp.drewN n) (Kd.R_reads' (hs2.out.drawn ⟨⟨n, rfl⟩⟩).r).2.2 hc (ref_of l z HG.out))
              obtain ⟨y2, hy2⟩ : ∃ y, hof (prs l) z = y := ⟨_, rfl⟩
              rw [hy2] at HO1 HO2
              clear hy2 hk2 hzp
              go_wp2_with fail
              go_quiet (first | (go_at_call 46; (with_reducible refine (HO1.out _).mono ?_); rintro e w' ⟨rfl, ⟨nd, rfl⟩⟩; (try first | exact ⟨rfl, _, World.drewN_drewN _ _ _⟩ | exact ⟨rfl, _, Eq.trans (World.drewN_drewN _ _ _) (congrArg (World.drewN _) (Nat.add_assoc _ _ _))⟩)) | (go_at_call 44; (with_reducible refine (HO2.out _).mono ?_); rintro e w' ⟨rfl, ⟨nd, rfl⟩⟩; (try first | exact ⟨rfl, _, World.drewN_drewN _ _ _⟩ | exact ⟨rfl, _, Eq.trans (World.drewN_drewN _ _ _) (congrArg (World.drewN _) (Nat.add_assoc _ _ _))⟩)))
              have HZ := Aside0.mk (hs2.out.drawn ⟨⟨nq, rfl⟩⟩)
              clear hs2
              go_wp2_with fail
              go_roundg (gk - 1)
              case measure => omega
              case rel => exact ⟨j + 1, by omega, by congr 1, HZ⟩
          · obtain rfl : j = k := by omega
            have HA8 := Aside0.mk (HAG.out ▸ tcount_calls wp W.heap.size W' pc hs2.out.t p0 p1)
            go_wp2_with fail
            refine HA8.out.mono ?_
            rintro e w7 ⟨rfl, t, o⟩
            have B7 := Aside0.mk (o.below (Nat.le_refl _) hs2.out.bel)
            clear t o HA8
            go_wp2_with fail
            refine (hot_awake _).mono ?_
            rintro e w8 ⟨rfl, d⟩
            have B8 := Aside0.mk (below_on B7.out d)
            clear d
            go_wp2_with fail
            go_ret
            exact ⟨by simp, B8.out⟩

theorem hot_forgets (A : Option Addr) (len cap : Nat) (zs : List Int) (a : Int) (W : World) (hf : IsRow .u32 W A len cap zs) (ha : (Lit.int .u8 a).wf = true) : Calls Try.prog 10 #[.slice A len cap, .int .u8 a] W fun e w' => e = .returned (.bool true) ∧ Below W.heap.size W w' := by
  by_cases h : 300 < len ∨ len = 0
  · exact forgets_not A len cap a W h
  · exact forgets_yes A len cap zs a W (by omega) (by omega) hf ha

end Go.Proofs.Ytbphciahojjnpaa
