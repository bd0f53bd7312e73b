/- The walk of HotPlays. -/
import Derived.Test.YtbphciahojjnpaaHotStep
import Derived.Test.YtbphciahojjnpaaOpensRows
import Derived.Test.YtbphciahojjnpaaHotFull
namespace Go.Proofs.Ytbphciahojjnpaa
open Go Go.RowKit Go.Deep Go.Proofs.YtbphciahojjnpaaW.PrintWords Go.Proofs.YtbphciahojjnpaaW.PrintLast Go.Proofs.YtbphciahojjnpaaW.PrintMore Go.Proofs.Ytbphciahojjnpaa.HotPlain Go.Proofs.Ytbphciahojjnpaa.QHotPlays
set_option linter.unusedVariables false
set_option linter.unusedSimpArgs false

theorem bupto_htop {l : Tab} (hl : l.length = 128) : bupto l 128 = htop (live l) := by
  unfold bupto
  rw [List.take_of_length_le (by omega)]
  exact top_live l (0, 0) (by decide)
theorem ttop_calls (w : World) (B : Nat) (W : List (Int × Int)) (h : TB w B W) : Calls Try.prog 49 #[.pointer (some ⟨B, 0, none⟩)] w fun e w' => e = .returned (.tuple #[.int .u32 (htop W).1, .int .u32 (htop W).2]) ∧ Below w.heap.size w w' := by
  obtain ⟨g, l, h, hi, hp⟩ := h
  have hr : ∀ i, 0 ≤ nA l i ∧ nA l i < 4294967296 := by
    intro i
    by_cases hz : nA l i = 0
    · rw [hz]; omega
    · by_cases hi2 : i < 128
      · have := g.rng _ (hp.mem_iff.1 ((mem_live hi.len).2 ⟨i, hi2, hz, rfl⟩))
        simp only at this
        omega
      · exfalso
        apply hz
        unfold nA
        rw [List.getD_eq_getElem?_getD, List.getElem?_eq_none (by have := hi.len; omega)]
        rfl
  have e : htop W = bupto l 128 := by
    rw [bupto_htop hi.len]
    exact (htop_perm hp fun p hq => (g.rng p (hp.mem_iff.1 hq)).2.2.1).symm
  rw [e]
  exact top_calls w B l _ h hr

set_option maxRecDepth 100000 in
set_option maxHeartbeats 1000000 in
theorem plays_long (A : Option Addr) (len cap : Nat) (W : World) (h : 400 < len) : Calls Try.prog 12 #[.slice A len cap] W fun e w' => e = .returned (.bool true) ∧ Below W.heap.size W w' := by
  have B0 := Aside0.mk (Below.refl W.heap.size W)
  go_enter Try.func12, Try.ntmps12
  go_wp2_with fail
  refine (hot_awake _).mono ?_
  rintro e w1 ⟨rfl, d⟩
  have B1 := Aside0.mk (below_on B0.out d)
  clear d B0
  go_wp2_with fail
  go_ret
  exact ⟨rfl, B1.out⟩

set_option maxRecDepth 100000 in
set_option maxHeartbeats 1000000 in
theorem plays_short (A : Option Addr) (len cap : Nat) (f : Nat → Nat → Int) (W : World) (hl : len ≤ 400) (hf : IsRows [.i64, .u32, .u32] W A len cap f) : Calls Try.prog 12 #[.slice A len cap] W fun e w' => e = .returned (.bool true) ∧ Below W.heap.size W w' := by
  have HF := Aside0.mk hf
  clear hf
  have B0 := Aside0.mk (Below.refl W.heap.size W)
  go_enter Try.func12, Try.ntmps12
  go_wp2_with fail
  refine (tnew_calls _).mono ?_
  rintro e w1 ⟨rfl, t, d⟩
  have B1 := Aside0.mk (below_on B0.out d)
  have T0 := Aside0.mk t
  clear t d B0
  go_wp2_with fail
  have HS0 : Aside0 (HS W (w1.alloc (.cells #[] 83)) W.heap.size (.slice (some ⟨w1.heap.size, 0, none⟩) 0 0) []) := ⟨by
    have hb := below_alloc (Below.refl w1.heap.size w1) (.cells #[] 83)
    have hlt := (T0.out).lt
    refine ⟨below_on B1.out hb, Nat.le_refl _, ⟨fun k hk => ?_, OwnRow.lit w1 W.heap.size (Reps.none _ _) (B1.out).size (by simp)⟩, (T0.out).below hb⟩
    have : w1.heap.size = k := by simpa [Value.ownBlock] using hk
    show k ≠ W.heap.size
    omega⟩
  go_loopg [4, 5] len (fun g v i wr => ∃ (k : Nat) (l : List S83), g + k = len ∧ i = .int .i64 (k : Int) ∧ Aside0 (HS W wr W.heap.size v l))
  case atStart => exact ⟨0, [], rfl, rfl, HS0⟩
  case round =>
    obtain ⟨k, l, hk, rfl, hs⟩ := hrel
    obtain ⟨wo, rfl⟩ : ∃ wo : World, wo = wr := ⟨_, rfl⟩
    by_cases hlt : k < len
    · obtain ⟨x, rfl, hx⟩ := HF.out.at_ hlt
      have c0 : wo.cell? (x.add (k * 3)) = some (.int .i64 (f k 0)) := pw_cell_below hs.out.bel (hx 0 .i64 rfl).1
      have c1 : wo.cell? ⟨(x.add (k * 3)).block, (x.add (k * 3)).off + 1, none⟩ = some (.int .u32 (f k 1)) := by rw [← add_field _ _ 1 (by omega)]; exact pw_cell_below hs.out.bel (hx 1 .u32 rfl).1
      have c2 : wo.cell? ⟨(x.add (k * 3)).block, (x.add (k * 3)).off + 2, none⟩ = some (.int .u32 (f k 2)) := by rw [← add_field _ _ 2 (by omega)]; exact pw_cell_below hs.out.bel (hx 2 .u32 rfl).1
      have p1 := u32_of _ (hx 1 .u32 rfl).2
      have p2 := u32_of _ (hx 2 .u32 rfl).2
      go_wp2_with fail
      refine (hstep_calls W wo W.heap.size _ l _ _ _ hs.out p1.1 p1.2 p2.1 p2.2).mono ?_
      rintro e w2 ⟨v', l', rfl, h2, hl⟩
      obtain ⟨A2, c3, rfl, hc, hC⟩ := Kd.R_reads h2.r
      have H2 := Aside0.mk h2
      clear h2 hl hs c0 c1 c2 hx hC
      go_wp2_with fail
      refine (ttop_calls _ _ _ H2.out.t).mono ?_
      rintro e w3 ⟨rfl, d⟩
      have H3 := Aside0.mk (H2.out.below d)
      have HT := ref_top l' H3.out.t.good
      obtain ⟨r1, hr1⟩ : ∃ r, (htop (prs l')).1 = r := ⟨_, rfl⟩
      obtain ⟨r2, hr2⟩ : ∃ r, (htop (prs l')).2 = r := ⟨_, rfl⟩
      rw [show htop (prs l') = (r1, r2) by rw [← hr1, ← hr2]] at HT
      rw [hr1, hr2]
      have HT := Aside0.mk HT
      clear d H2 hr1 hr2
      go_wp2_with fail
      refine (mimesisref21_Top.calls 66 A2 c3 l' r1 r2 _ (Kd.R_reads' H3.out.r).2.2 hc HT.out).mono ?_
      rintro e w4 ⟨rfl, d⟩
      have H4 := Aside0.mk ((H3.out.below d).below (below_alloc (Below.refl _ _) (.cells #[.int .u32 r1, .int .u32 r2] 83)))
      clear d H3 HT
      go_wp2_with fail
      refine (tlen_calls _ _ _ H4.out.t).mono ?_
      rw [prs_len]
      rintro e w5 ⟨rfl, ⟨⟨n5, rfl⟩⟩⟩
      have H5 := Aside0.mk (H4.out.drawn ⟨⟨n5, rfl⟩⟩)
      clear H4
      go_wp2_with fail
      go_roundg (gk - 1)
      case measure => omega
      case rel => exact ⟨k + 1, l', by omega, by congr 1, H5⟩
    · obtain rfl : k = len := by omega
      obtain ⟨A2, c3, rfl, hc, hC⟩ := Kd.R_reads hs.out.r
      clear hC
      go_wp2_with fail
      go_loopg [11] k (fun g i wr => ∃ (j : Nat), g + j = k ∧ i = .int .i64 (j : Int) ∧ Aside0 (HS W wr W.heap.size (.slice A2 l.length c3) l))
      case atStart => exact ⟨0, rfl, rfl, hs⟩
      case round =>
        obtain ⟨j, hj, rfl, hs2⟩ := hrel
        obtain ⟨wp, rfl⟩ : ∃ wo : World, wo = wr := ⟨_, rfl⟩
        clear hs
        by_cases hlt2 : j < k
        · obtain ⟨x, rfl, hx⟩ := HF.out.at_ hlt2
          have c1 : ∀ n, (wp.drewN n).cell? ⟨(x.add (j * 3)).block, (x.add (j * 3)).off + 1, none⟩ = some (.int .u32 (f j 1)) := fun n => by rw [← add_field _ _ 1 (by omega)]; exact pw_cell_below (hs2.out.drawn ⟨⟨n, rfl⟩⟩).bel (hx 1 .u32 rfl).1
          have c10 : wp.cell? ⟨(x.add (j * 3)).block, (x.add (j * 3)).off + 1, none⟩ = some (.int .u32 (f j 1)) := c1 0
          have p1 := u32_of _ (hx 1 .u32 rfl).2
          have HO1 := Aside0.mk (fun n => tof_calls (wp.drewN n) W.heap.size (prs l) (f j 1) (hs2.out.drawn ⟨⟨n, rfl⟩⟩).t p1.1 p1.2)
          have HO2 := Aside0.mk (fun n => mimesisref21_Of.calls 66 A2 c3 l (f j 1) _ (wp.drewN n) (Kd.R_reads' (hs2.out.drawn ⟨⟨n, rfl⟩⟩).r).2.2 hc (ref_of l (f j 1) hs2.out.t.good))
          obtain ⟨y, hy⟩ : ∃ y, hof (prs l) (f j 1) = y := ⟨_, rfl⟩
          rw [hy] at HO1 HO2
          clear hx hy
          go_wp2_with fail
          go_quiet (first | (go_at_call 46; (with_reducible refine (HO1.out _).mono ?_); rintro e w' ⟨rfl, ⟨nd, rfl⟩⟩; (try first | exact ⟨rfl, _, World.drewN_drewN _ _ _⟩ | exact ⟨rfl, _, Eq.trans (World.drewN_drewN _ _ _) (congrArg (World.drewN _) (Nat.add_assoc _ _ _))⟩)) | (go_at_call 44; (with_reducible refine (HO2.out _).mono ?_); rintro e w' ⟨rfl, ⟨nd, rfl⟩⟩; (try first | exact ⟨rfl, _, World.drewN_drewN _ _ _⟩ | exact ⟨rfl, _, Eq.trans (World.drewN_drewN _ _ _) (congrArg (World.drewN _) (Nat.add_assoc _ _ _))⟩)))
          have HZ := Aside0.mk (hs2.out.drawn ⟨⟨nq, rfl⟩⟩)
          clear hs2
          go_wp2_with fail
          go_roundg (gk - 1)
          case measure => omega
          case rel => exact ⟨j + 1, by omega, by congr 1, HZ⟩
        · go_wp2_with fail
          refine (hot_awake _).mono ?_
          rintro e w3 ⟨rfl, d⟩
          have B3 := Aside0.mk (below_on hs2.out.bel d)
          clear d
          go_wp2_with fail
          go_ret
          exact ⟨rfl, B3.out⟩

theorem hot_plays (A : Option Addr) (len cap : Nat) (f : Nat → Nat → Int) (W : World) (hf : IsRows [.i64, .u32, .u32] W A len cap f) : Calls Try.prog 12 #[.slice A len cap] W fun e w' => e = .returned (.bool true) ∧ Below W.heap.size W w' := by
  by_cases h : 400 < len
  · exact plays_long A len cap W h
  · exact plays_short A len cap f W (by omega) hf

end Go.Proofs.Ytbphciahojjnpaa
