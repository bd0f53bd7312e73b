/- FifoOrder: up to 16 bytes that were pushed, behind any number that came and went, are popped in their order: the walk, every input. -/
import Derived.Test.YtcnohkakklaejaaFifo
import Derived.Test.YtcnohkakklaejaaOpens
namespace Go.Proofs.Ytcnohkakklaejaa
open Go Go.RowKit Go.Proofs.YtcnohkakklaejaaW.PrintWords Go.Proofs.Ytcnohkakklaejaa.FifoPlain
set_option linter.unusedVariables false
set_option linter.unusedSimpArgs false

set_option maxHeartbeats 1000000 in
set_option maxRecDepth 100000 in
theorem awake11 (w : World) : Calls Try.prog 20 #[] w fun e w' => e = .returned (.bool true) ∧ Below w.heap.size w w' := by
  go_enter Try.func20, Try.ntmps20
  go_wp2_with fail
  refine (new_calls _).mono ?_
  rintro e w1 ⟨rfl, hF1, hb1⟩
  go_wp2_with fail
  refine (push_yes _ _ _ _ hF1 (by simp)).mono ?_
  rintro e w2 ⟨rfl, hF2, hO2⟩
  have B2 := hO2.below (Nat.le_refl _) hb1
  clear hF1 hb1 hO2
  go_wp2_with fail
  refine (push_yes _ _ _ _ hF2 (by simp)).mono ?_
  rintro e w3 ⟨rfl, hF3, hO3⟩
  have B3 := hO3.below (Nat.le_refl _) B2
  clear hF2 B2 hO3
  go_wp2_with fail
  refine (pop_yes _ _ [2] 1 hF3).mono ?_
  rintro e w4 ⟨rfl, hF4, hO4⟩
  have B4 := hO4.below (Nat.le_refl _) B3
  clear hF3 B3 hO4
  go_wp2_with fail
  refine (len_calls _ _ _ hF4).mono ?_
  rintro e w5 ⟨rfl, rfl⟩
  go_wp2_with fail
  go_ret
  exact ⟨rfl, B4⟩

set_option maxHeartbeats 2000000 in
set_option maxRecDepth 100000 in
theorem order_long (a0 : Option Addr) (len0 cap0 : Nat) (a1 : Int) (W : World) (h : 16 < len0) :
    Calls Try.prog 4 #[.slice a0 len0 cap0, .int .u8 a1] W fun e w' => e = .returned (.bool true) ∧ Below W.heap.size W w' := by
  have h' : (16 : Int) < (len0 : Int) := by omega
  go_enter Try.func4, Try.ntmps4
  go_wp2_with fail
  refine (awake11 _).mono ?_
  rintro e w1 ⟨rfl, hb1⟩
  go_wp2_with fail
  go_ret
  exact ⟨rfl, hb1⟩

theorem take_one (z : List Int) (j : Nat) (h : j < z.length) : z.take (j + 1) = z.take j ++ [z.getD j 0] := by
  rw [List.take_succ_eq_append_getElem h]
  simp [List.getD_eq_getElem?_getD, h]
theorem drop_one (z : List Int) (n j : Nat) (h : j < n) (hn : n ≤ z.length) : (z.take n).drop j = z.getD j 0 :: (z.take n).drop (j + 1) := by
  have hl : j < (z.take n).length := by rw [List.length_take]; omega
  rw [List.drop_eq_getElem_cons hl]
  simp [List.getD_eq_getElem?_getD, show j < z.length by omega]

set_option maxHeartbeats 4000000 in
set_option maxRecDepth 100000 in
theorem order_some (b off len0 cap0 : Nat) (z0 : List Int) (g : Nat) (W : World) (h : len0 ≤ 16) (hz : len0 ≤ z0.length) (hg : g < 256)
    (hc : ∀ i, i < len0 → W.cell? ⟨b, off + i, none⟩ = some (.int .u8 (z0.getD i 0))) :
    Calls Try.prog 4 #[.slice (some ⟨b, off, none⟩) len0 cap0, .int .u8 (g : Int)] W fun e w' => e = .returned (.bool true) ∧ Below W.heap.size W w' := by
  have h' : ¬ (16 : Int) < (len0 : Int) := by omega
  have HC := Aside0.mk hc
  have hg' : (g : Int) < 256 := by omega
  clear hc
  go_enter Try.func4, Try.ntmps4
  go_wp2_with fail
  refine (new_calls _).mono ?_
  rintro e w1 ⟨rfl, hF1, hb1⟩
  go_wp2_with fail
  go_loopw [6] (fun i wr => ∃ j : Nat, j ≤ g ∧ i = .int .i64 j ∧ IsF wr W.heap.size [] ∧ Below W.heap.size W wr) (fun i _ => g - (intOf i).toNat)
  case atStart => exact ⟨0, Nat.zero_le _, rfl, hF1, hb1⟩
  case round =>
    obtain ⟨j, hj, rfl, hF, hb⟩ := hrel
    by_cases hlt : j < g
    · go_wp2_with fail
      refine (push_yes _ _ _ _ hF (by simp)).mono ?_
      rintro e w2 ⟨rfl, hF2, hO2⟩
      have B2 := hO2.below (Nat.le_refl _) hb
      clear hF hb hO2
      go_wp2_with fail
      refine (pop_yes _ _ [] _ hF2).mono ?_
      rintro e w3 ⟨rfl, hF3, hO3⟩
      have B3 := hO3.below (Nat.le_refl _) B2
      clear hF2 B2 hO3
      go_wp2_with fail
      go_roundw
      case rel => exact ⟨j + 1, by omega, by go_num, hF3, B3⟩
      case measure => simp [intOf]; omega
    · go_wp2_with fail
      go_loopw [7] (fun i wr => ∃ j : Nat, j ≤ len0 ∧ i = .int .i64 j ∧ IsF wr W.heap.size (z0.take j) ∧ Below W.heap.size W wr) (fun i _ => len0 - (intOf i).toNat)
      case atStart => exact ⟨0, Nat.zero_le _, rfl, hF, hb⟩
      case round =>
        clear hF hb hlt hj
        obtain ⟨j, hj, rfl, hF, hb⟩ := hrel
        by_cases hlt : j < len0
        · have hcj := pw_cell_below hb (HC.out j hlt)
          have T := Aside0.mk (take_one z0 j (by omega))
          go_wp2_with fail
          refine (push_yes _ _ _ _ hF (by rw [List.length_take]; omega)).mono ?_
          rintro e w2 ⟨rfl, hF2, hO2⟩
          have B2 := hO2.below (Nat.le_refl _) hb
          clear hF hb hO2 hcj
          go_wp2_with fail
          go_roundw
          case rel => exact ⟨j + 1, by omega, by go_num, by rw [T.out]; simpa using hF2, B2⟩
          case measure => simp [intOf]; omega
        · obtain rfl : j = len0 := by omega
          go_wp2_with fail
          go_loopw [8] (fun i wr => ∃ q : Nat, q ≤ j ∧ i = .int .i64 q ∧ IsF wr W.heap.size ((z0.take j).drop q) ∧ Below W.heap.size W wr) (fun i _ => j - (intOf i).toNat)
          case atStart => exact ⟨0, Nat.zero_le _, rfl, hF, hb⟩
          case round =>
            clear hF hb hlt hj
            obtain ⟨q, hq, rfl, hF, hb⟩ := hrel
            by_cases hlt : q < j
            · have hcj := pw_cell_below hb (HC.out q hlt)
              rw [drop_one z0 j q hlt hz] at hF
              go_wp2_with fail
              refine (pop_yes _ _ _ _ hF).mono ?_
              rintro e w2 ⟨rfl, hF2, hO2⟩
              have B2 := hO2.below (Nat.le_refl _) hb
              clear hF hb hO2 hcj
              have hcj := pw_cell_below B2 (HC.out q hlt)
              go_wp2_with fail
              go_roundw
              case rel => exact ⟨q + 1, by omega, by go_num, hF2, B2⟩
              case measure => simp [intOf]; omega
            · have e0 : (z0.take j).drop q = [] := List.drop_of_length_le (by rw [List.length_take]; omega)
              rw [e0] at hF
              clear e0
              go_wp2_with fail
              refine (pop_no _ _ hF).mono ?_
              rintro e w2 ⟨rfl, rfl⟩
              go_wp2_with fail
              refine (awake11 _).mono ?_
              rintro e w3 ⟨rfl, hb3⟩
              have B3 := below_on hb hb3
              clear hb3 hb hF
              go_wp2_with fail
              go_ret
              exact ⟨rfl, B3⟩

set_option maxHeartbeats 4000000 in
set_option maxRecDepth 100000 in
theorem order_zero (a0 : Option Addr) (cap0 : Nat) (g : Nat) (W : World) (hg : g < 256) :
    Calls Try.prog 4 #[.slice a0 0 cap0, .int .u8 (g : Int)] W fun e w' => e = .returned (.bool true) ∧ Below W.heap.size W w' := by
  have hg' : (g : Int) < 256 := by omega
  go_enter Try.func4, Try.ntmps4
  go_wp2_with fail
  refine (new_calls _).mono ?_
  rintro e w1 ⟨rfl, hF1, hb1⟩
  go_wp2_with fail
  go_loopw [6] (fun i wr => ∃ j : Nat, j ≤ g ∧ i = .int .i64 j ∧ IsF wr W.heap.size [] ∧ Below W.heap.size W wr) (fun i _ => g - (intOf i).toNat)
  case atStart => exact ⟨0, Nat.zero_le _, rfl, hF1, hb1⟩
  case round =>
    obtain ⟨j, hj, rfl, hF, hb⟩ := hrel
    by_cases hlt : j < g
    · go_wp2_with fail
      refine (push_yes _ _ _ _ hF (by simp)).mono ?_
      rintro e w2 ⟨rfl, hF2, hO2⟩
      have B2 := hO2.below (Nat.le_refl _) hb
      clear hF hb hO2
      go_wp2_with fail
      refine (pop_yes _ _ [] _ hF2).mono ?_
      rintro e w3 ⟨rfl, hF3, hO3⟩
      have B3 := hO3.below (Nat.le_refl _) B2
      clear hF2 B2 hO3
      go_wp2_with fail
      go_roundw
      case rel => exact ⟨j + 1, by omega, by go_num, hF3, B3⟩
      case measure => simp [intOf]; omega
    · go_wp2_with fail
      go_loopw [7] (fun i wr => i = .int .i64 0 ∧ IsF wr W.heap.size [] ∧ Below W.heap.size W wr) (fun i _ => 0)
      case atStart => exact ⟨rfl, hF, hb⟩
      case round =>
        clear hF hb hlt hj
        obtain ⟨rfl, hF, hb⟩ := hrel
        go_wp2_with fail
        go_loopw [8] (fun i wr => i = .int .i64 0 ∧ IsF wr W.heap.size [] ∧ Below W.heap.size W wr) (fun i _ => 0)
        case atStart => exact ⟨rfl, hF, hb⟩
        case round =>
          clear hF hb
          obtain ⟨rfl, hF, hb⟩ := hrel
          go_wp2_with fail
          refine (pop_no _ _ hF).mono ?_
          rintro e w2 ⟨rfl, rfl⟩
          go_wp2_with fail
          refine (awake11 _).mono ?_
          rintro e w3 ⟨rfl, hb3⟩
          have B3 := below_on hb hb3
          clear hb3 hb hF
          go_wp2_with fail
          go_ret
          exact ⟨rfl, B3⟩

theorem add_at (b off i : Nat) : (⟨b, off, none⟩ : Addr).add i = ⟨b, off + i, none⟩ := by unfold Addr.add; split <;> simp_all

theorem fifo_order (a0 : Option Addr) (len0 cap0 : Nat) (z0 : List Int) (a1 : Int) (W : World) (w0 : IsRow .u8 W a0 len0 cap0 z0) (w1 : (Lit.int .u8 a1).wf = true) :
    Calls Try.prog 4 #[.slice a0 len0 cap0, .int .u8 a1] W fun e w' => e = .returned (.bool true) ∧ Below W.heap.size W w' := by
  obtain ⟨g, rfl, hg⟩ : ∃ g : Nat, a1 = g ∧ g < 256 := by
    simp [Lit.wf, IntKind.min, IntKind.max, IntKind.bits, IntKind.signed] at w1
    exact ⟨a1.toNat, by omega, by omega⟩
  by_cases hl : 16 < len0
  · exact order_long a0 len0 cap0 _ W hl
  · by_cases h0 : len0 = 0
    · subst h0; exact order_zero a0 cap0 g W hg
    · rcases w0 with ⟨_, h, _, _⟩ | ⟨x, rfl, h1, h2, h3, hc, _⟩
      · exact absurd h h0
      · obtain ⟨b, off, spot⟩ := x
        have hc0 := hc 0 (by omega)
        have hspot : spot = none := by simpa [Addr.add] using World.cell?_spot hc0
        subst hspot
        exact order_some b off len0 cap0 z0 g W (by omega) (by omega) hg (fun i hi => by rw [← add_at]; exact hc i (by omega))

end Go.Proofs.Ytcnohkakklaejaa
