/- The walk of RamAsks. -/
import Derived.Test.YtonfblfbmnepoaaRamNews
import Derived.Test.YtonfblfbmnepoaaPRamAsksx
namespace Go.Proofs.Ytonfblfbmnepoaa
open Go Go.RowKit Go.Deep Go.Proofs.YtonfblfbmnepoaaW.PrintWords
set_option linter.unusedVariables false
set_option linter.unusedSimpArgs false

theorem right_f' (n : Int) : PRamAsks.mimesisref10_Right.f n = some (decide (64 ≤ n) && decide (n ≤ 65536) && (n % 64 == 0)) := by
  unfold PRamAsks.mimesisref10_Right.f
  by_cases h1 : 64 ≤ n
  · by_cases h2 : n ≤ 65536
    · rw [if_pos h1, if_pos h2, Int.tmod_eq_emod_of_nonneg (by omega)]; simp [h1, h2]
    · rw [if_pos h1, if_neg h2]; simp [h2]
  · rw [if_neg h1]; simp [h1]
theorem has_f' (l : List Int) (a m : Int) (hl : l.length ≤ 65536) (a0 : 0 ≤ a) (a1 : a < 4294967296) : PRamAsks.mimesisref10_Has.f l a m = some (rhas l.length a m) := by
  unfold PRamAsks.mimesisref10_Has.f rhas
  have e1 : wrap64 (wrap64 a - 2147483648) = a - 2147483648 := by unfold wrap64; omega
  rw [e1]
  by_cases h1 : 1 ≤ m
  · rw [if_pos h1]
    by_cases h2 : a - 2147483648 ≥ 0
    · rw [if_pos h2]
      by_cases h3 : m ≤ (l.length : Int)
      · have e2 : wrap64 ((l.length : Int) - m) = l.length - m := by unfold wrap64; omega
        rw [if_pos h3, e2]
        have h4 : (2147483648 : Int) ≤ a := by omega
        simp [h1, h3, h4]
      · rw [if_neg h3]; simp [h3]
    · have h4 : ¬ (2147483648 : Int) ≤ a := by omega
      rw [if_neg h2]; simp [h4]
  · rw [if_neg h1]; simp [h1]

set_option maxHeartbeats 4000000 in
set_option maxRecDepth 100000 in
theorem asks_no (n a m : Int) (W : World) (hR : (decide (64 ≤ n) && decide (n ≤ 65536) && (n % 64 == 0)) = false) :
    Calls Try.prog 3 #[.int .i64 n, .int .u32 a, .int .i64 m] W fun e w' => e = .returned (.bool true) ∧ Below W.heap.size W w' := by
  have HR := Aside0.mk (hR ▸ right_f' n)
  clear hR
  have B0 := Aside0.mk (Below.refl W.heap.size W)
  go_enter Try.func3, Try.ntmps3
  go_wp2_with fail
  refine (PRamAsks.mimesisref10_Right.calls _ _ _ HR.out).mono ?_
  rintro e w1 ⟨rfl, d⟩
  have B1 := Aside0.mk (drawn_below' B0.out d)
  clear d B0
  go_wp2_with fail
  refine (ram_awake_calls _).mono ?_
  rintro e w2 ⟨rfl, d⟩
  have B2 := Aside0.mk (below_on B1.out d)
  clear d B1
  go_wp2_with fail
  go_ret
  exact ⟨by simp, B2.out⟩

set_option maxHeartbeats 4000000 in
set_option maxRecDepth 100000 in
theorem asks_yes (n : Nat) (a m : Int) (W : World) (h0 : 64 ≤ n) (h1 : n ≤ 65536) (h2 : n % 64 = 0) (a0 : 0 ≤ a) (a1 : a < 4294967296) :
    Calls Try.prog 3 #[.int .i64 (n : Int), .int .u32 a, .int .i64 m] W fun e w' => e = .returned (.bool true) ∧ Below W.heap.size W w' := by
  have HR : Aside0 (PRamAsks.mimesisref10_Right.f (n : Int) = some true) := ⟨by
    rw [right_f']
    have a : (n : Int) % 64 = 0 := by omega
    simp [a]; omega⟩
  have m1 : ∀ w : World, (Instr.makeSlice 29 (.int .i64 (n : Int)) (.int .i64 (n : Int))).run Try.prog w = .ok (.slice (some ⟨w.heap.size, 0, none⟩) n n) (w.alloc (.cells (brow (List.replicate n 0)) 5)) := by
    intro w
    obtain ⟨i, hi, hz⟩ := Option.map_eq_some_iff.1 (show (Try.prog.info? 5).map (fun i => (i.zero, i.size, i.bytes)) = some (some (.int .u8 0), 1, 1) by kernel_rfl)
    simp only [Prod.mk.injEq] at hz
    obtain ⟨hz0, hz1, hz2⟩ := hz
    have h := run_make (P := Try.prog) w 29 5 i (.int .u8 0) Try.underlying29 hi hz0 .i64 .i64 (n : Int) (n : Int) (by omega) (by omega) (by rw [hz2]; omega) (by omega)
    rw [hz1] at h
    rw [show (Value.int .u8 0).cells = #[Value.int .u8 0] from rfl, made1, brow_made] at h
    simpa using h
  have H1 := Aside0.mk (fun (w : World) (g : Nat) (h : w.heap[g]? = some (.cells (brow (List.replicate n 0)) 5)) => PRamAsks.mimesisref10_Has.calls _ n (List.replicate n 0) a 1 _ w (brow_all h (by simp; omega)) (by simp) (has_f' (List.replicate n 0) a 1 (by simp; omega) a0 a1))
  have HM := Aside0.mk (fun (w : World) (g : Nat) (h : w.heap[g]? = some (.cells (brow (List.replicate n 0)) 5)) => PRamAsks.mimesisref10_Has.calls _ n (List.replicate n 0) a m _ w (brow_all h (by simp; omega)) (by simp) (has_f' (List.replicate n 0) a m (by simp; omega) a0 a1))
  obtain ⟨Z, hZ⟩ : ∃ Z, List.replicate n (0 : Int) = Z := ⟨_, rfl⟩
  have hZl : Z.length = n := by rw [← hZ]; simp
  rw [hZ] at H1 HM m1
  rw [hZl] at H1 HM
  clear hZl
  have B0 := Aside0.mk (Below.refl W.heap.size W)
  go_enter Try.func3, Try.ntmps3
  go_wp2_with fail
  refine (PRamAsks.mimesisref10_Right.calls _ _ _ HR.out).mono ?_
  rintro e w1 ⟨rfl, d⟩
  have B1 := Aside0.mk (drawn_below' B0.out d)
  clear d B0
  go_wp2_with fail
  refine (new_yes _ n h0 h1 h2).mono ?_
  rintro e w2 ⟨rfl, ⟨BB, BW, BG, b1, b2, b3, hm⟩, hb2⟩
  have H2 := Aside0.mk (hm.below (below_alloc (Below.refl w2.heap.size w2) (.cells (brow Z) 5)))
  have B2 := Aside0.mk (below_alloc (below_on B1.out hb2) (.cells (brow Z) 5))
  have Q2 := Aside0.mk (blk_new w2 (.cells (brow Z) 5))
  clear hm hb2 B1 hZ
  go_wp2_with fail
  have hp : rhas n a 1 = true → 2147483648 ≤ a ∧ a < 2147483648 + 65536 := fun h => by unfold rhas at h; simp at h; omega
  have hpg : rpage n a = if rhas n a 1 = true then (a - 2147483648) / 64 else -1 := rfl
  refine (H1.out _ _ Q2.out).mono ?_
  rintro e w3 ⟨rfl, d⟩
  have H3 := Aside0.mk (H2.out.drawn d)
  have B3 := Aside0.mk (drawn_below' B2.out d)
  have Q3 := Aside0.mk (blk_below Q2.out d.below)
  clear d H2 B2 Q2
  have HH := Aside0.mk (fun (w : World) (h : IsRam w (w1.heap.size + 1 + 1 + 1) BB BW BG n (n / 64) (List.replicate n 0) (List.replicate (n / 64) false) (List.replicate (n / 64) 0)) => has_calls w a m h h1 a0 a1)
  have HP := Aside0.mk (fun (w : World) (h : IsRam w (w1.heap.size + 1 + 1 + 1) BB BW BG n (n / 64) (List.replicate n 0) (List.replicate (n / 64) false) (List.replicate (n / 64) 0)) => page_calls w a h h1 a0 a1)
  obtain ⟨r, hr⟩ : ∃ r, rhas n a m = r := ⟨_, rfl⟩
  rw [hr] at HM HH
  clear hr
  cases h1' : rhas n a 1
  · rw [hpg, h1'] at HP
    simp only [Bool.false_eq_true, if_false] at HP
    clear hp hpg h1' H1
    go_wp2_with fail
    have H0 := Aside0.mk (H3.out)
    have B2 := Aside0.mk (B3.out)
    clear H3 B3
    refine (HH.out _ H0.out).mono ?_
    rintro e w4 ⟨rfl, d⟩
    have H4 := Aside0.mk ((H0.out).drawn d)
    have B4 := Aside0.mk (drawn_below' B2.out d)
    have Q4 := Aside0.mk (blk_below Q3.out d.below)
    clear d
    go_wp2_with fail
    refine (HM.out _ _ Q4.out).mono ?_
    rintro e w5 ⟨rfl, d⟩
    have H5 := Aside0.mk (H4.out.drawn d)
    have B5 := Aside0.mk (drawn_below' B4.out d)
    clear d
    go_wp2_with fail
    refine (HP.out _ H5.out).mono ?_
    rintro e w6 ⟨rfl, d⟩
    have B6 := Aside0.mk (drawn_below' B5.out d)
    clear d
    go_wp2_with fail
    refine (ram_awake_calls _).mono ?_
    rintro e w7 ⟨rfl, d⟩
    have B7 := Aside0.mk (below_on B6.out d)
    clear d
    go_wp2_with fail
    go_ret
    exact ⟨by simp, B7.out⟩
  · rw [hpg, h1'] at HP
    simp only [if_true] at HP
    obtain ⟨p1, p2⟩ := hp h1'
    clear hpg h1' H1
    go_wp2_with fail
    refine (HH.out _ H3.out).mono ?_
    rintro e w4 ⟨rfl, d⟩
    have H4 := Aside0.mk (H3.out.drawn d)
    have B4 := Aside0.mk (drawn_below' B3.out d)
    have Q4 := Aside0.mk (blk_below Q3.out d.below)
    clear d
    go_wp2_with fail
    refine (HM.out _ _ Q4.out).mono ?_
    rintro e w5 ⟨rfl, d⟩
    have H5 := Aside0.mk (H4.out.drawn d)
    have B5 := Aside0.mk (drawn_below' B4.out d)
    clear d
    go_wp2_with fail
    refine (HP.out _ H5.out).mono ?_
    rintro e w6 ⟨rfl, d⟩
    have B6 := Aside0.mk (drawn_below' B5.out d)
    clear d
    go_wp2_with fail
    refine (ram_awake_calls _).mono ?_
    rintro e w7 ⟨rfl, d⟩
    have B7 := Aside0.mk (below_on B6.out d)
    clear d
    go_wp2_with fail
    go_ret
    exact ⟨by simp, B7.out⟩

theorem ram_asks (n a m : Int) (W : World) (_h : (Lit.int .i64 n).wf = true) (h1 : (Lit.int .u32 a).wf = true) (_h2 : (Lit.int .i64 m).wf = true) : Calls Try.prog 3 #[.int .i64 n, .int .u32 a, .int .i64 m] W fun e w' => e = .returned (.bool true) ∧ Below W.heap.size W w' := by
  have ha : 0 ≤ a ∧ a < 4294967296 := by simp [Lit.wf, IntKind.min, IntKind.max, IntKind.bits, IntKind.signed] at h1; omega
  cases hR : (decide (64 ≤ n) && decide (n ≤ 65536) && (n % 64 == 0))
  · exact asks_no n a m W hR
  · simp at hR
    obtain ⟨⟨h0, h1⟩, h2⟩ := hR
    obtain ⟨k, rfl⟩ : ∃ k : Nat, n = k := ⟨n.toNat, by omega⟩
    exact asks_yes k a m W (by omega) (by omega) (by omega) ha.1 ha.2

end Go.Proofs.Ytonfblfbmnepoaa
