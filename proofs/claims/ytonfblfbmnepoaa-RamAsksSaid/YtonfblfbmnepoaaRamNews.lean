/- The walk of RamNews. -/
import Derived.Test.YtonfblfbmnepoaaRamAwake
import Derived.Deep.RegionHeld3
import Derived.BigRegion
namespace Go.Proofs.Ytonfblfbmnepoaa
open Go Go.RowKit Go.Deep Go.Proofs.YtonfblfbmnepoaaW.PrintWords Go.Proofs.Ytonfblfbmnepoaa.PRamNews
set_option linter.unusedVariables false
set_option linter.unusedSimpArgs false

theorem right_f (n : Int) : mimesisref10_Right.f n = some (decide (64 ≤ n) && decide (n ≤ 65536) && (n % 64 == 0)) := by
  unfold mimesisref10_Right.f
  by_cases h1 : 64 ≤ n
  · by_cases h2 : n ≤ 65536
    · rw [if_pos h1, if_pos h2, Int.tmod_eq_emod_of_nonneg (by omega)]; simp [h1, h2]
    · rw [if_pos h1, if_neg h2]; simp [h2]
  · rw [if_neg h1]; simp [h1]

theorem brow_all {w : World} {BB : Nat} {l : List Int} (h : w.heap[BB]? = some (.cells (brow l) 5)) (hl : l.length ≤ 65536) : (Kd.int .u8).C w (some ⟨BB, 0, none⟩) l.length l := by
  have := brow_C h 0 l.length (by omega) hl
  rwa [List.drop_zero, List.take_length] at this

theorem same_loop (l : List Int) (hl : l.length ≤ 1000000) : ∀ (d k i : Nat), i + d = l.length → d < k → mimesisref01_SameBytes.l0 k l l (i : Int) = some true := by
  intro d
  induction d with
  | zero =>
    intro k i hi hk
    obtain ⟨k, rfl⟩ : ∃ m, k = m + 1 := ⟨k - 1, by omega⟩
    simp only [mimesisref01_SameBytes.l0]
    rw [if_neg (by omega)]
  | succ d ih =>
    intro k i hi hk
    obtain ⟨k, rfl⟩ : ∃ m, k = m + 1 := ⟨k - 1, by omega⟩
    simp only [mimesisref01_SameBytes.l0]
    have : wrap64 ((i : Int) + 1) = ((i + 1 : Nat) : Int) := by unfold wrap64; omega
    rw [if_pos (by omega), if_pos (by omega), if_pos (by omega), if_pos trivial, this]
    exact ih k (i + 1) (by omega) (by omega)
theorem same_self (l : List Int) (hl : l.length ≤ 1000000) : mimesisref01_SameBytes.f (l.length + 1) l l = some true := by
  unfold mimesisref01_SameBytes.f
  rw [if_pos rfl]
  exact same_loop l hl l.length (l.length + 1) 0 (by omega) (by omega)

theorem same_calls (w : World) (g1 g2 n : Nat) (l : List Int) (h1 : w.heap[g1]? = some (.cells (brow l) 5)) (h2 : w.heap[g2]? = some (.cells (brow l) 5)) (hn : l.length = n) (hl : n ≤ 65536) :
    Calls Try.prog 18 #[.slice (some ⟨g1, 0, none⟩) n n, .slice (some ⟨g2, 0, none⟩) n n] w fun e w' => e = .returned (.bool true) ∧ Drawn0 w w' := by
  subst hn
  exact mimesisref01_SameBytes.calls _ _ _ l _ _ l true w (brow_all h1 hl) (Nat.le_refl _) (brow_all h2 hl) (Nat.le_refl _) (same_self l (by omega))

set_option maxHeartbeats 4000000 in
set_option maxRecDepth 100000 in
theorem news_no (n : Int) (W : World) (hR : (decide (64 ≤ n) && decide (n ≤ 65536) && (n % 64 == 0)) = false) :
    Calls Try.prog 4 #[.int .i64 n] W fun e w' => e = .returned (.bool true) ∧ Below W.heap.size W w' := by
  have HR := Aside0.mk (hR ▸ right_f n)
  have HN := Aside0.mk (fun w => new_no w n (by
    rw [Bool.eq_false_iff] at hR
    by_cases h1 : 64 ≤ n <;> by_cases h2 : n ≤ 65536 <;> by_cases h3 : n % 64 = 0 <;> simp_all <;> omega))
  clear hR
  have B0 := Aside0.mk (Below.refl W.heap.size W)
  go_enter Try.func4, Try.ntmps4
  go_wp2_with fail
  refine (HN.out _).mono ?_
  rintro e w1 ⟨rfl, d⟩
  have B1 := Aside0.mk (drawn_below' B0.out d)
  clear d B0
  go_wp2_with fail
  refine (mimesisref10_Right.calls _ _ _ HR.out).mono ?_
  rintro e w2 ⟨rfl, d⟩
  have B2 := Aside0.mk (drawn_below' B1.out d)
  clear d B1
  go_wp2_with fail
  refine (ram_awake_calls _).mono ?_
  rintro e w3 ⟨rfl, d⟩
  have B3 := Aside0.mk (below_on B2.out d)
  clear d B2
  go_wp2_with fail
  go_ret
  exact ⟨by simp, B3.out⟩

set_option maxHeartbeats 4000000 in
set_option maxRecDepth 100000 in
theorem news_yes (n : Nat) (W : World) (h0 : 64 ≤ n) (h1 : n ≤ 65536) (h2 : n % 64 = 0) :
    Calls Try.prog 4 #[.int .i64 (n : Int)] W fun e w' => e = .returned (.bool true) ∧ Below W.heap.size W w' := by
  have HR : Aside0 (mimesisref10_Right.f (n : Int) = some true) := ⟨by
    rw [right_f]
    have a : (n : Int) % 64 = 0 := by omega
    simp [a]; omega⟩
  have m1 : ∀ w : World, (Instr.makeSlice 29 (.int .i64 (n : Int)) (.int .i64 (n : Int))).run Try.prog w = .ok (.slice (some ⟨w.heap.size, 0, none⟩) n n) (w.alloc (.cells (brow (List.replicate n 0)) 5)) := by
    intro w
    obtain ⟨i, hi, hz⟩ := Option.map_eq_some_iff.1 (show (Try.prog.info? 5).map (fun i => (i.zero, i.size, i.bytes)) = some (some (.int .u8 0), 1, 1) by kernel_rfl)
    simp only [Prod.mk.injEq] at hz
    obtain ⟨hz0, hz1, hz2⟩ := hz
    have h := run_make (P := Try.prog) w 29 5 i (.int .u8 0) Try.underlying29 hi hz0 .i64 .i64 (n : Int) (n : Int) (by omega) (by omega) (by rw [hz2]; omega) (by omega)
    rw [hz1] at h
    rw [show (Value.int .u8 0).cells = #[Value.int .u8 0] from rfl, made1, brow_made] at h
    simpa using h
  have B0 := Aside0.mk (Below.refl W.heap.size W)
  go_enter Try.func4, Try.ntmps4
  go_wp2_with fail
  refine (new_yes _ n h0 h1 h2).mono ?_
  rintro e w2 ⟨rfl, ⟨BB, BW, BG, b1, b2, b3, hm⟩, hb2⟩
  have H2 := Aside0.mk hm
  have B2 := Aside0.mk hb2
  clear hm hb2 B0
  go_wp2_with fail
  refine (mimesisref10_Right.calls _ _ _ HR.out).mono ?_
  rintro e w3 ⟨rfl, d⟩
  have H3 := Aside0.mk (H2.out.drawn d)
  have B3 := Aside0.mk (drawn_below' B2.out d)
  clear d H2 B2
  go_wp2_with fail
  obtain ⟨Z, hZ⟩ : ∃ Z, List.replicate n (0 : Int) = Z := ⟨_, rfl⟩
  have hZl : Z.length = n := by rw [← hZ]; simp
  rw [hZ] at m1 H3
  have HZL := Aside0.mk hZl
  clear hZ hZl
  go_region_held3 (fun w' => IsRam w' (W.heap.size + 1 + 1 + 1) BB BW BG n (n / 64) Z (List.replicate (n / 64) false) (List.replicate (n / 64) 0) ∧ Below W.heap.size W w')
    (first | (go_split_ands; (repeat' apply And.intro) <;> (first | exact IsRam.below (by assumption) hb | exact below_on (by assumption) hb | exact IsRam.below (by assumption) (below_alloc (Below.refl _ _) _) | exact below_alloc (by assumption) _)) | ((repeat' apply And.intro) <;> (first | exact Below.drew B3.out | exact IsRam.below H3.out (Below.drew (Below.refl _ _)) | go_keep)))
    (first
      | (go_at_call 17; refine (size_calls _ (by go_split_ands; assumption)).mono ?_; rintro e w' ⟨rfl, hd⟩; have hb := hd.below; clear hd)
      | (go_at_call 19; refine (bytes_calls _ (by go_split_ands; assumption) h1).mono ?_; rintro e w' ⟨rfl, hblk, hb⟩; (try simp only [World.size_alloc] at hblk))
      | (go_at_call 18; refine (same_calls _ _ _ n Z ?s1 ?s2 HZL.out h1).mono ?_; (case s1 => first | exact hblk | exact blk_below hblk (below_alloc (Below.refl _ _) _)); (case s2 => first | exact blk_new _ _ | exact blk_below (blk_new _ _) hb); rintro e w' ⟨rfl, hd⟩; have hb := hd.below; clear hd)
      | (go_at_call 12; (with_reducible refine (ram_awake_calls _).mono ?_); rintro e w' ⟨rfl, hb⟩))
  all_goals go_wp2
  all_goals go_ret
  all_goals (go_split_ands; exact ⟨rfl, by assumption⟩)

theorem ram_news (n : Int) (W : World) (_h : (Lit.int .i64 n).wf = true) : Calls Try.prog 4 #[.int .i64 n] W fun e w' => e = .returned (.bool true) ∧ Below W.heap.size W w' := by
  cases hR : (decide (64 ≤ n) && decide (n ≤ 65536) && (n % 64 == 0))
  · exact news_no n W hR
  · simp at hR
    obtain ⟨⟨h0, h1⟩, h2⟩ := hR
    obtain ⟨m, rfl⟩ : ∃ m : Nat, n = m := ⟨n.toNat, by omega⟩
    exact news_yes m W (by omega) (by omega) (by omega)

end Go.Proofs.Ytonfblfbmnepoaa
