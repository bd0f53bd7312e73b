/- The walk of FifoClones. -/
import Derived.Test.YtcbgphopememgaaFifoAny
import Derived.Test.YtcbgphopememgaaPFifoClonesx
import Derived.Deep.LoopGhost
namespace Go.Proofs.Ytcbgphopememgaa
open Go Go.RowKit Go.Deep Go.Proofs.YtcbgphopememgaaW.PrintWords Go.Proofs.Ytcbgphopememgaa.FifoPlain Go.Proofs.Ytcbgphopememgaa.PFifoClones
set_option linter.unusedVariables false
set_option linter.unusedSimpArgs false

theorem same_loop (l : List Int) (hl : l.length ≤ 1000000) : ∀ (d k i : Nat), i + d = l.length → d < k → mimesisref01_SameBytes.l0 k l l (i : Int) = some true := by
  intro d
  induction d with
  | zero =>
    intro k i hi hk
    obtain ⟨k, rfl⟩ : ∃ m, k = m + 1 := ⟨k - 1, by omega⟩
    simp only [mimesisref01_SameBytes.l0]
    rw [if_neg (by omega)]
  | succ d ih =>
    intro k i hi hk
    obtain ⟨k, rfl⟩ : ∃ m, k = m + 1 := ⟨k - 1, by omega⟩
    simp only [mimesisref01_SameBytes.l0]
    have : wrap64 ((i : Int) + 1) = ((i + 1 : Nat) : Int) := by unfold wrap64; omega
    rw [if_pos (by omega), if_pos (by omega), if_pos (by omega), if_pos trivial, this]
    exact ih k (i + 1) (by omega) (by omega)
theorem same_self (l : List Int) (hl : l.length ≤ 1000000) : mimesisref01_SameBytes.f (l.length + 1) l l = some true := by
  unfold mimesisref01_SameBytes.f
  rw [if_pos rfl]
  exact same_loop l hl l.length (l.length + 1) 0 (by omega) (by omega)

set_option maxHeartbeats 1000000 in
set_option maxRecDepth 100000 in
theorem fifo_awake (w : World) : Calls Try.prog 26 #[] w fun e w' => e = .returned (.bool true) ∧ Below w.heap.size w w' := by
  have B0 := Aside0.mk (Below.refl w.heap.size w)
  go_enter Try.func26, Try.ntmps26
  go_wp2_with fail
  refine (new_calls _).mono ?_
  rintro e w1 ⟨rfl, t, d⟩
  have B1 := Aside0.mk (below_on B0.out d)
  have F0 := Aside0.mk t
  clear t d B0
  go_wp2_with fail
  refine (push_yes _ _ _ _ F0.out (by simp)).mono ?_
  rintro e w2 ⟨rfl, t, o⟩
  have B2 := Aside0.mk (o.below (Nat.le_refl _) B1.out)
  have F1 := Aside0.mk t
  clear t o B1 F0
  go_wp2_with fail
  refine (push_yes _ _ _ _ F1.out (by simp)).mono ?_
  rintro e w3 ⟨rfl, t, o⟩
  have B3 := Aside0.mk (o.below (Nat.le_refl _) B2.out)
  have F2 := Aside0.mk t
  clear t o B2 F1
  go_wp2_with fail
  refine (pop_yes _ _ [2] 1 F2.out).mono ?_
  rintro e w4 ⟨rfl, t, o⟩
  have B4 := Aside0.mk (o.below (Nat.le_refl _) B3.out)
  have F3 := Aside0.mk t
  clear t o B3 F2
  go_wp2_with fail
  refine (flen_calls _ _ _ F3.out).mono ?_
  rintro e w5 ⟨rfl, d⟩
  have F4 := Aside0.mk (F3.out.drawn d)
  have B5 := Aside0.mk (drawn_below' B4.out d)
  clear d B4 F3
  go_wp2_with fail
  go_ret
  exact ⟨by simp, B5.out⟩

set_option maxHeartbeats 1000000 in
set_option maxRecDepth 100000 in
theorem clones_long (A : Option Addr) (len cap : Nat) (b : Int) (W : World) (h : 16 < len) : Calls Try.prog 9 #[.slice A len cap, .int .u8 b] W fun e w' => e = .returned (.bool true) ∧ Below W.heap.size W w' := by
  have B0 := Aside0.mk (Below.refl W.heap.size W)
  go_enter Try.func9, Try.ntmps9
  go_wp2_with fail
  refine (fifo_awake _).mono ?_
  rintro e w1 ⟨rfl, d⟩
  have B1 := Aside0.mk (below_on B0.out d)
  clear d B0
  go_wp2_with fail
  go_ret
  exact ⟨rfl, B1.out⟩

set_option maxHeartbeats 4000000 in
set_option maxRecDepth 100000 in
theorem clones_short (A : Option Addr) (len cap : Nat) (zs : List Int) (b : Int) (W : World) (h : len ≤ 16) (hr : IsRow .u8 W A len cap zs) : Calls Try.prog 9 #[.slice A len cap, .int .u8 b] W fun e w' => e = .returned (.bool true) ∧ Below W.heap.size W w' := by
  obtain ⟨hC, hlen, hcap⟩ := row_C hr
  have hcells : ∀ i, i < len → ∃ x, A = some x ∧ W.cell? (x.add i) = some (.int .u8 (zs.getD i 0)) := by
    intro i hi
    rcases hr with ⟨_, rfl, _⟩ | ⟨x, rfl, hl, hm, hz, hc, hw⟩
    · omega
    · exact ⟨x, rfl, hc i (by omega)⟩
  have htake : ∀ i, i < len → zs.take (i + 1) = zs.take i ++ [zs.getD i 0] := by
    intro i hi
    have : i < zs.length := by rw [List.length_take] at hlen; omega
    rw [List.take_succ_eq_append_getElem this]
    simp [List.getD_eq_getElem?_getD, this]
  have htl : ∀ i, i ≤ len → (zs.take i).length = i := by
    intro i hi
    rw [List.length_take] at hlen ⊢
    omega
  have HCL := Aside0.mk hcells
  have HT := Aside0.mk htake
  have HTL := Aside0.mk htl
  have HC := Aside0.mk hC
  have HLEN := Aside0.mk hlen
  clear hr hC hlen hcells htake htl
  have B0 := Aside0.mk (Below.refl W.heap.size W)
  go_enter Try.func9, Try.ntmps9
  go_wp2_with fail
  refine (new_calls _).mono ?_
  rintro e w1 ⟨rfl, t, d⟩
  have B1 := Aside0.mk (below_on B0.out d)
  have F0 := Aside0.mk t
  clear t d B0
  go_wp2_with fail
  have F0' : Aside0 (IsF w1 W.heap.size (zs.take 0)) := ⟨by rw [List.take_zero]; exact F0.out⟩
  go_loopg [6] len (fun g i wr => ∃ k : Nat, g + k = len ∧ i = .int .i64 (k : Int) ∧ Aside0 (IsF wr W.heap.size (zs.take k)) ∧ Aside0 (Below W.heap.size W wr))
  case atStart => exact ⟨0, rfl, rfl, F0', ⟨B1.out⟩⟩
  case round =>
    obtain ⟨k, hk, rfl, hf, hb⟩ := hrel
    obtain ⟨wo, rfl⟩ : ∃ wo : World, wo = wr := ⟨_, rfl⟩
    by_cases hlt : k < len
    · obtain ⟨x, rfl, hx⟩ := HCL.out k hlt
      have c0 : wo.cell? (x.add k) = some (.int .u8 (zs.getD k 0)) := pw_cell_below hb.out hx
      have HP := push_yes wo W.heap.size (zs.take k) (zs.getD k 0) hf.out (by rw [HTL.out k (by omega)]; omega)
      rw [← HT.out k hlt] at HP
      obtain ⟨z, hz⟩ : ∃ z, zs.getD k 0 = z := ⟨_, rfl⟩
      rw [hz] at HP c0
      have HP := Aside0.mk HP
      clear hz hx
      go_wp2_with fail
      refine HP.out.mono ?_
      rintro e w2 ⟨rfl, t, o⟩
      have F2 := Aside0.mk t
      have B2 := Aside0.mk (o.below (Nat.le_refl _) hb.out)
      clear t o HP hf hb c0
      go_wp2_with fail
      go_roundg (gk - 1)
      case measure => omega
      case rel => exact ⟨k + 1, by omega, by congr 1, F2, B2⟩
    · obtain rfl : k = len := by omega
      have F1 := Aside0.mk (hf.out)
      have B2 := Aside0.mk (hb.out)
      clear hf hb
      have hlt := (F1.out).lt
      go_wp2_with fail
      refine (fclone_calls _ _ _ F1.out).mono ?_
      rintro e wc ⟨rfl, t, d⟩
      have CC := Aside0.mk t
      have FF := Aside0.mk ((F1.out).below d)
      have BB := Aside0.mk (below_on B2.out d)
      have hne : W.heap.size ≠ wo.heap.size := by omega
      have hge : W.heap.size ≤ wo.heap.size := by omega
      clear t d
      go_wp2_with fail
      clear F1
      clear B2
      have C0 := Aside0.mk (CC.out)
      have F0 := Aside0.mk (FF.out)
      have B0 := Aside0.mk (BB.out)
      clear CC FF BB
      refine (pop_calls _ _ _ C0.out).mono ?_
      rintro e w2 ⟨rfl, t, o⟩
      have F1 := Aside0.mk (F0.out.only o (by omega))
      have B1 := Aside0.mk (o.below hge B0.out)
      have C1 := Aside0.mk t
      clear t o C0 F0 B0
      go_wp2_with fail
      refine (push_calls _ _ _ _ C1.out).mono ?_
      rintro e w3 ⟨rfl, t, o⟩
      have F2 := Aside0.mk (F1.out.only o (by omega))
      have B2 := Aside0.mk (o.below hge B1.out)
      have C2 := Aside0.mk t
      clear t o C1 F1 B1
      go_wp2_with fail
      refine (push_calls _ _ _ _ C2.out).mono ?_
      rintro e w4 ⟨rfl, t, o⟩
      have F3 := Aside0.mk (F2.out.only o (by omega))
      have B3 := Aside0.mk (o.below hge B2.out)
      have C3 := Aside0.mk t
      clear t o C2 F2 B2
      go_wp2_with fail
      refine (eqD (fclear_nil _)).mono ?_
      rintro e w5 ⟨rfl, d⟩
      have C4 := Aside0.mk (C3.out.drawn d)
      have F4 := Aside0.mk (F3.out.drawn d)
      have B4 := Aside0.mk (drawn_below' B3.out d)
      clear d C3 F3 B3
      go_wp2_with fail
      refine (eqD (fpop_nil _)).mono ?_
      rintro e w6 ⟨rfl, d⟩
      have C5 := Aside0.mk (C4.out.drawn d)
      have F5 := Aside0.mk (F4.out.drawn d)
      have B5 := Aside0.mk (drawn_below' B4.out d)
      clear d C4 F4 B4
      go_wp2_with fail
      clear C5
      refine (all_calls _ _ _ F5.out).mono ?_
      rintro e wx ⟨⟨A2, c2, rfl, hc2, hC2⟩, d⟩
      rw [HLEN.out] at hC2 hc2 ⊢
      have HS := Aside0.mk (mimesisref01_SameBytes.calls _ A2 c2 (zs.take k) A cap (zs.take k) true wx (by rw [HLEN.out]; exact hC2) (by rw [HLEN.out]; exact hc2) (Kd.C_below HC.out (below_on B5.out d)) (by rw [HLEN.out]; exact hcap) (same_self _ (by rw [HLEN.out]; omega)))
      rw [HLEN.out] at HS
      have BX := Aside0.mk (below_on B5.out d)
      clear d hC2 hc2
      go_wp2_with fail
      refine HS.out.mono ?_
      rintro e wy ⟨rfl, d⟩
      have BY := Aside0.mk (drawn_below' BX.out d)
      clear d
      clear F5
      clear B5
      have B0 := Aside0.mk (BY.out)
      go_wp2_with fail
      refine (eqD (fpush_nil _ _)).mono ?_
      rintro e w7 ⟨rfl, d⟩
      have B1 := Aside0.mk (drawn_below' B0.out d)
      clear d B0
      go_wp2_with fail
      refine (eqD (flen_nil _)).mono ?_
      rintro e w8 ⟨rfl, d⟩
      have B2 := Aside0.mk (drawn_below' B1.out d)
      clear d B1
      go_wp2_with fail
      refine (fall_nil _).mono ?_
      rintro e w9 ⟨rfl, d⟩
      have B3 := Aside0.mk (below_on B2.out d)
      clear d B2
      go_wp2_with fail
      refine (eqD (fclone_nil _)).mono ?_
      rintro e w10 ⟨rfl, d⟩
      have B4 := Aside0.mk (drawn_below' B3.out d)
      clear d B3
      go_wp2_with fail
      refine (fifo_awake _).mono ?_
      rintro e w11 ⟨rfl, d⟩
      have B5 := Aside0.mk (below_on B4.out d)
      clear d B4
      go_wp2_with fail
      go_ret
      exact ⟨by simp, B5.out⟩

theorem fifo_clones (A : Option Addr) (len cap : Nat) (zs : List Int) (b : Int) (W : World) (hr : IsRow .u8 W A len cap zs) (_h : (Lit.int .u8 b).wf = true) : Calls Try.prog 9 #[.slice A len cap, .int .u8 b] W fun e w' => e = .returned (.bool true) ∧ Below W.heap.size W w' := by
  by_cases h : 16 < len
  · exact clones_long A len cap b W h
  · exact clones_short A len cap zs b W (by omega) hr

end Go.Proofs.Ytcbgphopememgaa
