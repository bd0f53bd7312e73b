/- Is a beginning small, and right? (PK=QCpuSame, QCpuPlays) -/
import Derived.Test.YtfnbpmkbjbibkaaQCpuSamex
import Derived.Test.YtfnbpmkbjbibkaaCpuE
import Derived.Test.YtfnbpmkbjbibkaaCpuNw
import Derived.Test.YtfnbpmkbjbibkaaOpensStart
namespace Go.Proofs.Ytfnbpmkbjbibkaa
open Go Go.RowKit Go.Deep Go.Great Go.Proofs.YtfnbpmkbjbibkaaW.PrintWords Go.Proofs.Ytfnbpmkbjbibkaa.QCpuSame
set_option linter.unusedVariables false
set_option linter.unusedSimpArgs false

def postL (i : Nat) (x : Int) (K F : List Int) (j : Nat) (v : Value) (w : World) : Prop :=
  match j with
  | 0 => v = .int .u32 x
  | 1 => ∃ A c, v = .slice A K.length c ∧ (Kd.int .u32).C w A K.length K
  | 2 => v = .int .i64 (i : Int)
  | 3 => ∃ ad, v = .pointer (some ad) ∧ w.cell? ad = some (.int .u32 (rd K (i : Int)))
  | 4 => v = .int .u32 (rd K (i : Int))
  | 5 => v = .int .u32 (Go.bits .and .u32 x (rd K (i : Int)))
  | 6 => ∃ A c, v = .slice A F.length c ∧ (Kd.int .u32).C w A F.length F
  | 7 => v = .int .i64 (i : Int)
  | 8 => ∃ ad, v = .pointer (some ad) ∧ w.cell? ad = some (.int .u32 (rd F (i : Int)))
  | 9 => v = .int .u32 (rd F (i : Int))
  | 10 => v = .int .u32 (Go.bits .or .u32 (Go.bits .and .u32 x (rd K (i : Int))) (rd F (i : Int)))
  | _ => True
theorem postL_rg {i : Nat} {x : Int} {K F : List Int} (j : Nat) (v : Value) (w w' : World) (h : postL i x K F j v w) (k : Below w.heap.size w w') : postL i x K F j v w' := by
  unfold postL at h ⊢
  split at h
  all_goals first
    | exact h
    | (obtain ⟨A, c, h1, h2⟩ := h; exact ⟨A, c, h1, Kd.C_below h2 k⟩)
    | (obtain ⟨ad, h1, h2⟩ := h; exact ⟨ad, h1, pw_cell_below k h2⟩)
def legalV (i : Nat) (x : Int) (K F : List Int) : Int := Go.bits .or .u32 (Go.bits .and .u32 x (rd K (i : Int))) (rd F (i : Int))
set_option maxRecDepth 100000 in
set_option maxHeartbeats 4000000 in
theorem legal09_calls (w : World) (c x : Int) (k i : Nat) (hP : mimesisref09_Place.f k c = some (i : Int)) (K F : List Int) (hK : mimesisref09_Kept.f = some K) (hF : mimesisref09_Fixed.f = some F) (h1 : i < K.length) (h2 : i < F.length) (h3 : K.length ≤ 100 ∧ F.length ≤ 100) :
    Calls Try.prog 84 #[.int .i64 c, .int .u32 x] w fun e w' => e = .returned (.int .u32 (legalV i x K F)) ∧ Below w.heap.size w w' := by
  have HP := Aside0.mk hP
  have HK := Aside0.mk hK
  have HF := Aside0.mk hF
  have H12 := Aside0.mk (And.intro h1 h2)
  have H3 := Aside0.mk h3
  clear hP hK hF h1 h2 h3
  go_enter Try.func84, Try.ntmps84
  go_wp2_with fail
  refine (mimesisref09_Place.calls k c i w HP.out).mono ?_
  rintro e w1 ⟨rfl, d1⟩
  have B1 := Aside0.mk d1
  clear d1
  go_upto_region 2 with fail
  have HI0 : Aside0 (Below w1.heap.size w1 w1.drew) := ⟨⟨rfl, rfl, rfl, Nat.le_refl _, fun _ _ => rfl⟩⟩
  refine wp_region_rj (by kernel_rfl) 11 (fun W' => Below w1.heap.size w1 W') (fun x y => Below x.heap.size x y) (postL i x K F) (by kernel_rfl) postL_rg HI0.out ?step ?fin
  case step =>
    intro j op hi him b W' hinv hkeep hdef hpre Q hQ
    have HI := Aside0.mk hinv
    have HPRE := Aside0.mk hpre
    have HKEEP := Aside0.mk hkeep
    have HKK := Aside0.mk hQ
    clear hinv hpre hkeep hQ hdef
    obtain rfl | rfl | rfl | rfl | rfl | rfl | rfl | rfl | rfl | rfl | rfl : j = 0 ∨ j = 1 ∨ j = 2 ∨ j = 3 ∨ j = 4 ∨ j = 5 ∨ j = 6 ∨ j = 7 ∨ j = 8 ∨ j = 9 ∨ j = 10 := by omega
    · cases hi
      have e0 : b.tmps.getD 1 undef = .int .u32 x := HKEEP.out 1 (by kernel_rfl)
      rw [if_pos (by rfl)]
      go_simp
      exact HKK.out _ _ HI.out (Below.refl _ _) (by first | rfl | (simp; done))
    · cases hi
      rw [if_pos (by rfl)]
      go_simp
      refine (mimesisref09_Kept.calls _ _ HK.out).mono ?_
      rintro e W2 ⟨v, rfl, hR, d⟩
      obtain ⟨A, c, rfl, _, hC⟩ := Kd.R_reads hR
      exact HKK.out _ _ (below_on HI.out d) d ⟨A, c, rfl, hC⟩
    · cases hi
      have e0 : b.tmps.getD 5 undef = .int .i64 (i : Int) := HKEEP.out 5 (by kernel_rfl)
      rw [if_pos (by rfl)]
      go_simp
      exact HKK.out _ _ HI.out (Below.refl _ _) (by first | rfl | (simp; done))
    · cases hi
      obtain ⟨A, c, e0, hC⟩ := HPRE.out 1 (by kernel_rfl) (by omega)
      replace e0 : b.tmps.getD 9 undef = _ := e0
      have e1 : b.tmps.getD 10 undef = .int .i64 (i : Int) := HPRE.out 2 (by kernel_rfl) (by omega)
      obtain ⟨ad, rfl, hc⟩ := Kd.at_int hC (i : Int) (by omega) (by have := H12.out; omega)
      rw [Int.toNat_natCast] at hc
      have hlt : ((i : Int) < (K.length : Int)) = True := by have := H12.out; simp; omega
      rw [if_pos (by rfl)]
      go_simp
      exact HKK.out _ _ HI.out (Below.refl _ _) ⟨_, rfl, hc⟩
    · cases hi
      obtain ⟨ad, e0, hc⟩ := HPRE.out 3 (by kernel_rfl) (by omega)
      replace e0 : b.tmps.getD 11 undef = _ := e0
      rw [if_pos (by rfl)]
      go_simp
      exact HKK.out _ _ HI.out (Below.refl _ _) (by first | rfl | (simp; done))
    · cases hi
      have e0 : b.tmps.getD 8 undef = .int .u32 x := HPRE.out 0 (by kernel_rfl) (by omega)
      have e1 : b.tmps.getD 12 undef = .int .u32 (rd K (i : Int)) := HPRE.out 4 (by kernel_rfl) (by omega)
      rw [if_pos (by rfl)]
      go_simp
      exact HKK.out _ _ HI.out (Below.refl _ _) (by first | rfl | (simp; done))
    · cases hi
      rw [if_pos (by rfl)]
      go_simp
      refine (mimesisref09_Fixed.calls _ _ HF.out).mono ?_
      rintro e W2 ⟨v, rfl, hR, d⟩
      obtain ⟨A, c, rfl, _, hC⟩ := Kd.R_reads hR
      exact HKK.out _ _ (below_on HI.out d) d ⟨A, c, rfl, hC⟩
    · cases hi
      have e0 : b.tmps.getD 5 undef = .int .i64 (i : Int) := HKEEP.out 5 (by kernel_rfl)
      rw [if_pos (by rfl)]
      go_simp
      exact HKK.out _ _ HI.out (Below.refl _ _) (by first | rfl | (simp; done))
    · cases hi
      obtain ⟨A, c, e0, hC⟩ := HPRE.out 6 (by kernel_rfl) (by omega)
      replace e0 : b.tmps.getD 14 undef = _ := e0
      have e1 : b.tmps.getD 15 undef = .int .i64 (i : Int) := HPRE.out 7 (by kernel_rfl) (by omega)
      obtain ⟨ad, rfl, hc⟩ := Kd.at_int hC (i : Int) (by omega) (by have := H12.out; omega)
      rw [Int.toNat_natCast] at hc
      have hlt : ((i : Int) < (F.length : Int)) = True := by have := H12.out; simp; omega
      rw [if_pos (by rfl)]
      go_simp
      exact HKK.out _ _ HI.out (Below.refl _ _) ⟨_, rfl, hc⟩
    · cases hi
      obtain ⟨ad, e0, hc⟩ := HPRE.out 8 (by kernel_rfl) (by omega)
      replace e0 : b.tmps.getD 16 undef = _ := e0
      rw [if_pos (by rfl)]
      go_simp
      exact HKK.out _ _ HI.out (Below.refl _ _) (by first | rfl | (simp; done))
    · cases hi
      have e0 : b.tmps.getD 13 undef = .int .u32 (Go.bits .and .u32 x (rd K (i : Int))) := HPRE.out 5 (by kernel_rfl) (by omega)
      have e1 : b.tmps.getD 17 undef = .int .u32 (rd F (i : Int)) := HPRE.out 9 (by kernel_rfl) (by omega)
      rw [if_pos (by rfl)]
      go_simp
      exact HKK.out _ _ HI.out (Below.refl _ _) (by first | rfl | (simp; done))
  case fin =>
    intro b W' hinv hsz hdef hkeep hpost
    have e18 : b.tmps.getD 18 undef = .int .u32 (legalV i x K F) := hpost 10 (by omega)
    refine rj_lastv (by kernel_rfl) rfl (by kernel_rfl) rfl (by kernel_rfl) ?_
    obtain ⟨sl, hlit, hsl⟩ := act_let b 19 hsz
    rw [hdef] at hlit
    rw [← hsl] at e18
    simp only [show List.range 19 = [0, 1, 2, 3, 4, 5, 6, 7, 8, 9, 10, 11, 12, 13, 14, 15, 16, 17, 18] from rfl, List.map_cons, List.map_nil, e18] at hlit
    rw [hlit]
    have BF := Aside0.mk (below_on B1.out hinv)
    clear hkeep hsz hdef hpost hsl hlit e18 hinv
    go_simp
    go_wp2
    go_ret
    exact ⟨rfl, BF.out⟩

def postG (B : Nat) (k0 k1 k2 k4 y0 y1 y2 y4 : Int) (j : Nat) (v : Value) (w : World) : Prop :=
  match j with
  | 0 => v = .pointer (some ⟨B, 0, none⟩)
  | 1 => v = .int .u32 k0
  | 2 => v = .pointer (some ⟨B, 0, none⟩)
  | 3 => v = .int .u32 k0
  | 4 => v = .int .u32 y0
  | 5 => v = .bool (k0 == y0)
  | 6 => v = .bool (k0 == y0)
  | 7 => v = bif (k0 == y0) then .pointer (some ⟨B, 1, none⟩) else undef
  | 8 => v = bif (k0 == y0) then .int .u32 k1 else undef
  | 9 => v = bif (k0 == y0) then .pointer (some ⟨B, 1, none⟩) else undef
  | 10 => v = bif (k0 == y0) then .int .u32 k1 else undef
  | 11 => v = bif (k0 == y0) then .int .u32 y1 else undef
  | 12 => v = bif (k0 == y0) then .bool (k1 == y1) else undef
  | 13 => v = .bool ((k0 == y0) && (k1 == y1))
  | 14 => v = .bool ((k0 == y0) && (k1 == y1))
  | 15 => v = bif ((k0 == y0) && (k1 == y1)) then .pointer (some ⟨B, 2, none⟩) else undef
  | 16 => v = bif ((k0 == y0) && (k1 == y1)) then .int .u32 k2 else undef
  | 17 => v = bif ((k0 == y0) && (k1 == y1)) then .pointer (some ⟨B, 2, none⟩) else undef
  | 18 => v = bif ((k0 == y0) && (k1 == y1)) then .int .u32 k2 else undef
  | 19 => v = bif ((k0 == y0) && (k1 == y1)) then .int .u32 y2 else undef
  | 20 => v = bif ((k0 == y0) && (k1 == y1)) then .bool (k2 == y2) else undef
  | 21 => v = .bool ((k0 == y0) && (k1 == y1) && (k2 == y2))
  | 22 => v = .bool ((k0 == y0) && (k1 == y1) && (k2 == y2))
  | 23 => v = bif ((k0 == y0) && (k1 == y1) && (k2 == y2)) then .pointer (some ⟨B, 4, none⟩) else undef
  | 24 => v = bif ((k0 == y0) && (k1 == y1) && (k2 == y2)) then .int .u32 k4 else undef
  | 25 => v = bif ((k0 == y0) && (k1 == y1) && (k2 == y2)) then .pointer (some ⟨B, 4, none⟩) else undef
  | 26 => v = bif ((k0 == y0) && (k1 == y1) && (k2 == y2)) then .int .u32 k4 else undef
  | 27 => v = bif ((k0 == y0) && (k1 == y1) && (k2 == y2)) then .int .u32 y4 else undef
  | 28 => v = bif ((k0 == y0) && (k1 == y1) && (k2 == y2)) then .bool (k4 == y4) else undef
  | 29 => v = .bool ((k0 == y0) && (k1 == y1) && (k2 == y2) && (k4 == y4))
  | _ => True
theorem postG_rg {B : Nat} {k0 k1 k2 k4 y0 y1 y2 y4 : Int} (j : Nat) (v : Value) (w w' : World) (h : postG B k0 k1 k2 k4 y0 y1 y2 y4 j v w) (k : Below w.heap.size w w') : postG B k0 k1 k2 k4 y0 y1 y2 y4 j v w' := h
set_option maxRecDepth 100000 in
set_option maxHeartbeats 8000000 in
theorem legal18_calls (w : World) (k0 k1 k2 k3 k4 k5 k6 : Int) (y0 y1 y2 y4 : Int)
    (h0 : ∀ w', Calls Try.prog 84 #[.int .i64 768, .int .u32 k0] w' fun e w'' => e = .returned (.int .u32 y0) ∧ Below w'.heap.size w' w'')
    (h1 : ∀ w', Calls Try.prog 84 #[.int .i64 772, .int .u32 k1] w' fun e w'' => e = .returned (.int .u32 y1) ∧ Below w'.heap.size w' w'')
    (h2 : ∀ w', Calls Try.prog 84 #[.int .i64 773, .int .u32 k2] w' fun e w'' => e = .returned (.int .u32 y2) ∧ Below w'.heap.size w' w'')
    (h4 : ∀ w', Calls Try.prog 84 #[.int .i64 833, .int .u32 k4] w' fun e w'' => e = .returned (.int .u32 y4) ∧ Below w'.heap.size w' w'') :
    Calls Try.prog 69 #[.agg #[.int .u32 k0, .int .u32 k1, .int .u32 k2, .int .u32 k3, .int .u32 k4, .int .u32 k5, .int .u32 k6]] w fun e w' => e = .returned (.bool ((k0 == y0) && (k1 == y1) && (k2 == y2) && (k4 == y4))) ∧ Below w.heap.size w w' := by
  have G0 := Aside0.mk h0
  have G1 := Aside0.mk h1
  have G2 := Aside0.mk h2
  have G3 := Aside0.mk h4
  clear h0 h1 h2 h4
  obtain ⟨B, hB⟩ : ∃ B, w.heap.size = B := ⟨_, rfl⟩
  go_enter Try.func69, Try.ntmps69
  go_upto_region 1 with fail
  have HX := Aside0.mk (by have := blk_new w (.cells #[.int .u32 k0, .int .u32 k1, .int .u32 k2, .int .u32 k3, .int .u32 k4, .int .u32 k5, .int .u32 k6] 27); rw [hB] at this; exact this)
  have BW := Aside0.mk (below_alloc (Below.refl w.heap.size w) (.cells #[.int .u32 k0, .int .u32 k1, .int .u32 k2, .int .u32 k3, .int .u32 k4, .int .u32 k5, .int .u32 k6] 27))
  clear hB
  generalize w.alloc (.cells #[.int .u32 k0, .int .u32 k1, .int .u32 k2, .int .u32 k3, .int .u32 k4, .int .u32 k5, .int .u32 k6] 27) = w1 at HX BW ⊢
  have HI0 : Aside0 (Below w1.heap.size w1 w1.drew) := ⟨⟨rfl, rfl, rfl, Nat.le_refl _, fun _ _ => rfl⟩⟩
  refine wp_region_rj (by kernel_rfl) 30 (fun W' => Below w1.heap.size w1 W') (fun x y => Below x.heap.size x y) (postG B k0 k1 k2 k4 y0 y1 y2 y4) (by kernel_rfl) postG_rg HI0.out ?step ?fin
  case step =>
    intro j op hi him b W' hinv hkeep hdef hpre Q hQ
    have HI := Aside0.mk hinv
    have HPRE := Aside0.mk hpre
    have HKEEP := Aside0.mk hkeep
    have HKK := Aside0.mk hQ
    clear hinv hpre hkeep hQ hdef
    obtain rfl | rfl | rfl | rfl | rfl | rfl | rfl | rfl | rfl | rfl | rfl | rfl | rfl | rfl | rfl | rfl | rfl | rfl | rfl | rfl | rfl | rfl | rfl | rfl | rfl | rfl | rfl | rfl | rfl | rfl : j = 0 ∨ j = 1 ∨ j = 2 ∨ j = 3 ∨ j = 4 ∨ j = 5 ∨ j = 6 ∨ j = 7 ∨ j = 8 ∨ j = 9 ∨ j = 10 ∨ j = 11 ∨ j = 12 ∨ j = 13 ∨ j = 14 ∨ j = 15 ∨ j = 16 ∨ j = 17 ∨ j = 18 ∨ j = 19 ∨ j = 20 ∨ j = 21 ∨ j = 22 ∨ j = 23 ∨ j = 24 ∨ j = 25 ∨ j = 26 ∨ j = 27 ∨ j = 28 ∨ j = 29 := by omega
    · cases hi
      have e1 : b.tmps.getD 1 undef = .pointer (some ⟨B, 0, none⟩) := HKEEP.out 1 (by kernel_rfl)
      rw [if_pos (by rfl)]
      go_simp
      exact HKK.out _ _ HI.out (Below.refl _ _) (by first | rfl | (simp; done))
    · cases hi
      have e3 : b.tmps.getD 3 undef = (.pointer (some ⟨B, 0, none⟩)) := HPRE.out 0 (by kernel_rfl) (by omega)
      rw [if_pos (by rfl)]
      have hc : W'.cell? ⟨B, 0, none⟩ = some (.int .u32 k0) := cell_of_row W' B 0 _ _ _ (blk_below HX.out HI.out)
      go_simp
      exact HKK.out _ _ HI.out (Below.refl _ _) (by first | rfl | (simp; done))
    · cases hi
      have e1 : b.tmps.getD 1 undef = .pointer (some ⟨B, 0, none⟩) := HKEEP.out 1 (by kernel_rfl)
      rw [if_pos (by rfl)]
      go_simp
      exact HKK.out _ _ HI.out (Below.refl _ _) (by first | rfl | (simp; done))
    · cases hi
      have e5 : b.tmps.getD 5 undef = (.pointer (some ⟨B, 0, none⟩)) := HPRE.out 2 (by kernel_rfl) (by omega)
      rw [if_pos (by rfl)]
      have hc : W'.cell? ⟨B, 0, none⟩ = some (.int .u32 k0) := cell_of_row W' B 0 _ _ _ (blk_below HX.out HI.out)
      go_simp
      exact HKK.out _ _ HI.out (Below.refl _ _) (by first | rfl | (simp; done))
    · cases hi
      have e6 : b.tmps.getD 6 undef = (.int .u32 k0) := HPRE.out 3 (by kernel_rfl) (by omega)
      rw [if_pos (by rfl)]
      go_simp
      refine (G0.out _).mono ?_
      rintro e W2 ⟨rfl, d⟩
      exact HKK.out _ _ (below_on HI.out d) d (by first | rfl | (simp; done))
    · cases hi
      have e4 : b.tmps.getD 4 undef = (.int .u32 k0) := HPRE.out 1 (by kernel_rfl) (by omega)
      have e7 : b.tmps.getD 7 undef = (.int .u32 y0) := HPRE.out 4 (by kernel_rfl) (by omega)
      rw [if_pos (by rfl)]
      go_simp
      exact HKK.out _ _ HI.out (Below.refl _ _) (by first | rfl | (simp; done))
    · cases hi
      have e8 : b.tmps.getD 8 undef = (.bool (k0 == y0)) := HPRE.out 5 (by kernel_rfl) (by omega)
      rw [if_pos (by rfl)]
      go_simp
      exact HKK.out _ _ HI.out (Below.refl _ _) (by first | rfl | (simp; done))
    · cases hi
      have e9 : b.tmps.getD 9 undef = (.bool (k0 == y0)) := HPRE.out 6 (by kernel_rfl) (by omega)
      have e1 : b.tmps.getD 1 undef = .pointer (some ⟨B, 0, none⟩) := HKEEP.out 1 (by kernel_rfl)
      rcases hx : (k0 == y0) with _ | _
      · rw [hx] at e9
        rw [if_neg (wanted_no rfl rfl rfl e9 (by decide))]
        exact HKK.out undef _ HI.out (Below.refl _ _) (show undef = _ by rw [hx]; rfl)
      · rw [hx] at e9
        rw [if_pos (wanted_yes rfl rfl rfl e9)]
        go_simp
        exact HKK.out _ _ HI.out (Below.refl _ _) (show _ = _ by rw [hx]; rfl)
    · cases hi
      have e9 : b.tmps.getD 9 undef = (.bool (k0 == y0)) := HPRE.out 6 (by kernel_rfl) (by omega)
      have e10 : b.tmps.getD 10 undef = (bif (k0 == y0) then .pointer (some ⟨B, 1, none⟩) else undef) := HPRE.out 7 (by kernel_rfl) (by omega)
      rcases hx : (k0 == y0) with _ | _
      · rw [hx] at e9
        rw [if_neg (wanted_no rfl rfl rfl e9 (by decide))]
        exact HKK.out undef _ HI.out (Below.refl _ _) (show undef = _ by rw [hx]; rfl)
      · rw [hx] at e9
        rw [hx] at e10
        replace e10 : b.tmps.getD 10 undef = .pointer (some ⟨B, 1, none⟩) := e10
        rw [if_pos (wanted_yes rfl rfl rfl e9)]
        have hc : W'.cell? ⟨B, 1, none⟩ = some (.int .u32 k1) := cell_of_row W' B 1 _ _ _ (blk_below HX.out HI.out)
        go_simp
        exact HKK.out _ _ HI.out (Below.refl _ _) (show _ = _ by rw [hx]; rfl)
    · cases hi
      have e9 : b.tmps.getD 9 undef = (.bool (k0 == y0)) := HPRE.out 6 (by kernel_rfl) (by omega)
      have e1 : b.tmps.getD 1 undef = .pointer (some ⟨B, 0, none⟩) := HKEEP.out 1 (by kernel_rfl)
      rcases hx : (k0 == y0) with _ | _
      · rw [hx] at e9
        rw [if_neg (wanted_no rfl rfl rfl e9 (by decide))]
        exact HKK.out undef _ HI.out (Below.refl _ _) (show undef = _ by rw [hx]; rfl)
      · rw [hx] at e9
        rw [if_pos (wanted_yes rfl rfl rfl e9)]
        go_simp
        exact HKK.out _ _ HI.out (Below.refl _ _) (show _ = _ by rw [hx]; rfl)
    · cases hi
      have e9 : b.tmps.getD 9 undef = (.bool (k0 == y0)) := HPRE.out 6 (by kernel_rfl) (by omega)
      have e12 : b.tmps.getD 12 undef = (bif (k0 == y0) then .pointer (some ⟨B, 1, none⟩) else undef) := HPRE.out 9 (by kernel_rfl) (by omega)
      rcases hx : (k0 == y0) with _ | _
      · rw [hx] at e9
        rw [if_neg (wanted_no rfl rfl rfl e9 (by decide))]
        exact HKK.out undef _ HI.out (Below.refl _ _) (show undef = _ by rw [hx]; rfl)
      · rw [hx] at e9
        rw [hx] at e12
        replace e12 : b.tmps.getD 12 undef = .pointer (some ⟨B, 1, none⟩) := e12
        rw [if_pos (wanted_yes rfl rfl rfl e9)]
        have hc : W'.cell? ⟨B, 1, none⟩ = some (.int .u32 k1) := cell_of_row W' B 1 _ _ _ (blk_below HX.out HI.out)
        go_simp
        exact HKK.out _ _ HI.out (Below.refl _ _) (show _ = _ by rw [hx]; rfl)
    · cases hi
      have e9 : b.tmps.getD 9 undef = (.bool (k0 == y0)) := HPRE.out 6 (by kernel_rfl) (by omega)
      have e13 : b.tmps.getD 13 undef = (bif (k0 == y0) then .int .u32 k1 else undef) := HPRE.out 10 (by kernel_rfl) (by omega)
      rcases hx : (k0 == y0) with _ | _
      · rw [hx] at e9
        rw [if_neg (wanted_no rfl rfl rfl e9 (by decide))]
        exact HKK.out undef _ HI.out (Below.refl _ _) (show undef = _ by rw [hx]; rfl)
      · rw [hx] at e9
        rw [hx] at e13
        replace e13 : b.tmps.getD 13 undef = .int .u32 k1 := e13
        rw [if_pos (wanted_yes rfl rfl rfl e9)]
        go_simp
        refine (G1.out _).mono ?_
        rintro e W2 ⟨rfl, d⟩
        exact HKK.out _ _ (below_on HI.out d) d (show _ = _ by rw [hx]; rfl)
    · cases hi
      have e9 : b.tmps.getD 9 undef = (.bool (k0 == y0)) := HPRE.out 6 (by kernel_rfl) (by omega)
      have e11 : b.tmps.getD 11 undef = (bif (k0 == y0) then .int .u32 k1 else undef) := HPRE.out 8 (by kernel_rfl) (by omega)
      have e14 : b.tmps.getD 14 undef = (bif (k0 == y0) then .int .u32 y1 else undef) := HPRE.out 11 (by kernel_rfl) (by omega)
      rcases hx : (k0 == y0) with _ | _
      · rw [hx] at e9
        rw [if_neg (wanted_no rfl rfl rfl e9 (by decide))]
        exact HKK.out undef _ HI.out (Below.refl _ _) (show undef = _ by rw [hx]; rfl)
      · rw [hx] at e9
        rw [hx] at e11
        rw [hx] at e14
        replace e11 : b.tmps.getD 11 undef = .int .u32 k1 := e11
        replace e14 : b.tmps.getD 14 undef = .int .u32 y1 := e14
        rw [if_pos (wanted_yes rfl rfl rfl e9)]
        go_simp
        exact HKK.out _ _ HI.out (Below.refl _ _) (show _ = _ by rw [hx]; rfl)
    · cases hi
      have e9 : b.tmps.getD 9 undef = (.bool (k0 == y0)) := HPRE.out 6 (by kernel_rfl) (by omega)
      have e15 : b.tmps.getD 15 undef = (bif (k0 == y0) then .bool (k1 == y1) else undef) := HPRE.out 12 (by kernel_rfl) (by omega)
      rw [if_pos (by rfl)]
      rcases hx : (k0 == y0) with _ | _
      · rw [hx] at e9 e15
        go_simp
        exact HKK.out _ _ HI.out (Below.refl _ _) (show _ = Value.bool ((k0 == y0) && (k1 == y1)) by rw [hx]; rfl)
      · rw [hx] at e9 e15
        replace e15 : b.tmps.getD 15 undef = .bool (k1 == y1) := e15
        go_simp
        exact HKK.out _ _ HI.out (Below.refl _ _) (show _ = Value.bool ((k0 == y0) && (k1 == y1)) by rw [hx]; rfl)
    · cases hi
      have e16 : b.tmps.getD 16 undef = (.bool ((k0 == y0) && (k1 == y1))) := HPRE.out 13 (by kernel_rfl) (by omega)
      rw [if_pos (by rfl)]
      go_simp
      exact HKK.out _ _ HI.out (Below.refl _ _) (by first | rfl | (simp; done))
    · cases hi
      have e17 : b.tmps.getD 17 undef = (.bool ((k0 == y0) && (k1 == y1))) := HPRE.out 14 (by kernel_rfl) (by omega)
      have e1 : b.tmps.getD 1 undef = .pointer (some ⟨B, 0, none⟩) := HKEEP.out 1 (by kernel_rfl)
      rcases hx : ((k0 == y0) && (k1 == y1)) with _ | _
      · rw [hx] at e17
        rw [if_neg (wanted_no rfl rfl rfl e17 (by decide))]
        exact HKK.out undef _ HI.out (Below.refl _ _) (show undef = _ by rw [hx]; rfl)
      · rw [hx] at e17
        rw [if_pos (wanted_yes rfl rfl rfl e17)]
        go_simp
        exact HKK.out _ _ HI.out (Below.refl _ _) (show _ = _ by rw [hx]; rfl)
    · cases hi
      have e17 : b.tmps.getD 17 undef = (.bool ((k0 == y0) && (k1 == y1))) := HPRE.out 14 (by kernel_rfl) (by omega)
      have e18 : b.tmps.getD 18 undef = (bif ((k0 == y0) && (k1 == y1)) then .pointer (some ⟨B, 2, none⟩) else undef) := HPRE.out 15 (by kernel_rfl) (by omega)
      rcases hx : ((k0 == y0) && (k1 == y1)) with _ | _
      · rw [hx] at e17
        rw [if_neg (wanted_no rfl rfl rfl e17 (by decide))]
        exact HKK.out undef _ HI.out (Below.refl _ _) (show undef = _ by rw [hx]; rfl)
      · rw [hx] at e17
        rw [hx] at e18
        replace e18 : b.tmps.getD 18 undef = .pointer (some ⟨B, 2, none⟩) := e18
        rw [if_pos (wanted_yes rfl rfl rfl e17)]
        have hc : W'.cell? ⟨B, 2, none⟩ = some (.int .u32 k2) := cell_of_row W' B 2 _ _ _ (blk_below HX.out HI.out)
        go_simp
        exact HKK.out _ _ HI.out (Below.refl _ _) (show _ = _ by rw [hx]; rfl)
    · cases hi
      have e17 : b.tmps.getD 17 undef = (.bool ((k0 == y0) && (k1 == y1))) := HPRE.out 14 (by kernel_rfl) (by omega)
      have e1 : b.tmps.getD 1 undef = .pointer (some ⟨B, 0, none⟩) := HKEEP.out 1 (by kernel_rfl)
      rcases hx : ((k0 == y0) && (k1 == y1)) with _ | _
      · rw [hx] at e17
        rw [if_neg (wanted_no rfl rfl rfl e17 (by decide))]
        exact HKK.out undef _ HI.out (Below.refl _ _) (show undef = _ by rw [hx]; rfl)
      · rw [hx] at e17
        rw [if_pos (wanted_yes rfl rfl rfl e17)]
        go_simp
        exact HKK.out _ _ HI.out (Below.refl _ _) (show _ = _ by rw [hx]; rfl)
    · cases hi
      have e17 : b.tmps.getD 17 undef = (.bool ((k0 == y0) && (k1 == y1))) := HPRE.out 14 (by kernel_rfl) (by omega)
      have e20 : b.tmps.getD 20 undef = (bif ((k0 == y0) && (k1 == y1)) then .pointer (some ⟨B, 2, none⟩) else undef) := HPRE.out 17 (by kernel_rfl) (by omega)
      rcases hx : ((k0 == y0) && (k1 == y1)) with _ | _
      · rw [hx] at e17
        rw [if_neg (wanted_no rfl rfl rfl e17 (by decide))]
        exact HKK.out undef _ HI.out (Below.refl _ _) (show undef = _ by rw [hx]; rfl)
      · rw [hx] at e17
        rw [hx] at e20
        replace e20 : b.tmps.getD 20 undef = .pointer (some ⟨B, 2, none⟩) := e20
        rw [if_pos (wanted_yes rfl rfl rfl e17)]
        have hc : W'.cell? ⟨B, 2, none⟩ = some (.int .u32 k2) := cell_of_row W' B 2 _ _ _ (blk_below HX.out HI.out)
        go_simp
        exact HKK.out _ _ HI.out (Below.refl _ _) (show _ = _ by rw [hx]; rfl)
    · cases hi
      have e17 : b.tmps.getD 17 undef = (.bool ((k0 == y0) && (k1 == y1))) := HPRE.out 14 (by kernel_rfl) (by omega)
      have e21 : b.tmps.getD 21 undef = (bif ((k0 == y0) && (k1 == y1)) then .int .u32 k2 else undef) := HPRE.out 18 (by kernel_rfl) (by omega)
      rcases hx : ((k0 == y0) && (k1 == y1)) with _ | _
      · rw [hx] at e17
        rw [if_neg (wanted_no rfl rfl rfl e17 (by decide))]
        exact HKK.out undef _ HI.out (Below.refl _ _) (show undef = _ by rw [hx]; rfl)
      · rw [hx] at e17
        rw [hx] at e21
        replace e21 : b.tmps.getD 21 undef = .int .u32 k2 := e21
        rw [if_pos (wanted_yes rfl rfl rfl e17)]
        go_simp
        refine (G2.out _).mono ?_
        rintro e W2 ⟨rfl, d⟩
        exact HKK.out _ _ (below_on HI.out d) d (show _ = _ by rw [hx]; rfl)
    · cases hi
      have e17 : b.tmps.getD 17 undef = (.bool ((k0 == y0) && (k1 == y1))) := HPRE.out 14 (by kernel_rfl) (by omega)
      have e19 : b.tmps.getD 19 undef = (bif ((k0 == y0) && (k1 == y1)) then .int .u32 k2 else undef) := HPRE.out 16 (by kernel_rfl) (by omega)
      have e22 : b.tmps.getD 22 undef = (bif ((k0 == y0) && (k1 == y1)) then .int .u32 y2 else undef) := HPRE.out 19 (by kernel_rfl) (by omega)
      rcases hx : ((k0 == y0) && (k1 == y1)) with _ | _
      · rw [hx] at e17
        rw [if_neg (wanted_no rfl rfl rfl e17 (by decide))]
        exact HKK.out undef _ HI.out (Below.refl _ _) (show undef = _ by rw [hx]; rfl)
      · rw [hx] at e17
        rw [hx] at e19
        rw [hx] at e22
        replace e19 : b.tmps.getD 19 undef = .int .u32 k2 := e19
        replace e22 : b.tmps.getD 22 undef = .int .u32 y2 := e22
        rw [if_pos (wanted_yes rfl rfl rfl e17)]
        go_simp
        exact HKK.out _ _ HI.out (Below.refl _ _) (show _ = _ by rw [hx]; rfl)
    · cases hi
      have e17 : b.tmps.getD 17 undef = (.bool ((k0 == y0) && (k1 == y1))) := HPRE.out 14 (by kernel_rfl) (by omega)
      have e23 : b.tmps.getD 23 undef = (bif ((k0 == y0) && (k1 == y1)) then .bool (k2 == y2) else undef) := HPRE.out 20 (by kernel_rfl) (by omega)
      rw [if_pos (by rfl)]
      rcases hx : ((k0 == y0) && (k1 == y1)) with _ | _
      · rw [hx] at e17 e23
        go_simp
        exact HKK.out _ _ HI.out (Below.refl _ _) (show _ = Value.bool (((k0 == y0) && (k1 == y1)) && (k2 == y2)) by rw [hx]; rfl)
      · rw [hx] at e17 e23
        replace e23 : b.tmps.getD 23 undef = .bool (k2 == y2) := e23
        go_simp
        exact HKK.out _ _ HI.out (Below.refl _ _) (show _ = Value.bool (((k0 == y0) && (k1 == y1)) && (k2 == y2)) by rw [hx]; rfl)
    · cases hi
      have e24 : b.tmps.getD 24 undef = (.bool ((k0 == y0) && (k1 == y1) && (k2 == y2))) := HPRE.out 21 (by kernel_rfl) (by omega)
      rw [if_pos (by rfl)]
      go_simp
      exact HKK.out _ _ HI.out (Below.refl _ _) (by first | rfl | (simp; done))
    · cases hi
      have e25 : b.tmps.getD 25 undef = (.bool ((k0 == y0) && (k1 == y1) && (k2 == y2))) := HPRE.out 22 (by kernel_rfl) (by omega)
      have e1 : b.tmps.getD 1 undef = .pointer (some ⟨B, 0, none⟩) := HKEEP.out 1 (by kernel_rfl)
      rcases hx : ((k0 == y0) && (k1 == y1) && (k2 == y2)) with _ | _
      · rw [hx] at e25
        rw [if_neg (wanted_no rfl rfl rfl e25 (by decide))]
        exact HKK.out undef _ HI.out (Below.refl _ _) (show undef = _ by rw [hx]; rfl)
      · rw [hx] at e25
        rw [if_pos (wanted_yes rfl rfl rfl e25)]
        go_simp
        exact HKK.out _ _ HI.out (Below.refl _ _) (show _ = _ by rw [hx]; rfl)
    · cases hi
      have e25 : b.tmps.getD 25 undef = (.bool ((k0 == y0) && (k1 == y1) && (k2 == y2))) := HPRE.out 22 (by kernel_rfl) (by omega)
      have e26 : b.tmps.getD 26 undef = (bif ((k0 == y0) && (k1 == y1) && (k2 == y2)) then .pointer (some ⟨B, 4, none⟩) else undef) := HPRE.out 23 (by kernel_rfl) (by omega)
      rcases hx : ((k0 == y0) && (k1 == y1) && (k2 == y2)) with _ | _
      · rw [hx] at e25
        rw [if_neg (wanted_no rfl rfl rfl e25 (by decide))]
        exact HKK.out undef _ HI.out (Below.refl _ _) (show undef = _ by rw [hx]; rfl)
      · rw [hx] at e25
        rw [hx] at e26
        replace e26 : b.tmps.getD 26 undef = .pointer (some ⟨B, 4, none⟩) := e26
        rw [if_pos (wanted_yes rfl rfl rfl e25)]
        have hc : W'.cell? ⟨B, 4, none⟩ = some (.int .u32 k4) := cell_of_row W' B 4 _ _ _ (blk_below HX.out HI.out)
        go_simp
        exact HKK.out _ _ HI.out (Below.refl _ _) (show _ = _ by rw [hx]; rfl)
    · cases hi
      have e25 : b.tmps.getD 25 undef = (.bool ((k0 == y0) && (k1 == y1) && (k2 == y2))) := HPRE.out 22 (by kernel_rfl) (by omega)
      have e1 : b.tmps.getD 1 undef = .pointer (some ⟨B, 0, none⟩) := HKEEP.out 1 (by kernel_rfl)
      rcases hx : ((k0 == y0) && (k1 == y1) && (k2 == y2)) with _ | _
      · rw [hx] at e25
        rw [if_neg (wanted_no rfl rfl rfl e25 (by decide))]
        exact HKK.out undef _ HI.out (Below.refl _ _) (show undef = _ by rw [hx]; rfl)
      · rw [hx] at e25
        rw [if_pos (wanted_yes rfl rfl rfl e25)]
        go_simp
        exact HKK.out _ _ HI.out (Below.refl _ _) (show _ = _ by rw [hx]; rfl)
    · cases hi
      have e25 : b.tmps.getD 25 undef = (.bool ((k0 == y0) && (k1 == y1) && (k2 == y2))) := HPRE.out 22 (by kernel_rfl) (by omega)
      have e28 : b.tmps.getD 28 undef = (bif ((k0 == y0) && (k1 == y1) && (k2 == y2)) then .pointer (some ⟨B, 4, none⟩) else undef) := HPRE.out 25 (by kernel_rfl) (by omega)
      rcases hx : ((k0 == y0) && (k1 == y1) && (k2 == y2)) with _ | _
      · rw [hx] at e25
        rw [if_neg (wanted_no rfl rfl rfl e25 (by decide))]
        exact HKK.out undef _ HI.out (Below.refl _ _) (show undef = _ by rw [hx]; rfl)
      · rw [hx] at e25
        rw [hx] at e28
        replace e28 : b.tmps.getD 28 undef = .pointer (some ⟨B, 4, none⟩) := e28
        rw [if_pos (wanted_yes rfl rfl rfl e25)]
        have hc : W'.cell? ⟨B, 4, none⟩ = some (.int .u32 k4) := cell_of_row W' B 4 _ _ _ (blk_below HX.out HI.out)
        go_simp
        exact HKK.out _ _ HI.out (Below.refl _ _) (show _ = _ by rw [hx]; rfl)
    · cases hi
      have e25 : b.tmps.getD 25 undef = (.bool ((k0 == y0) && (k1 == y1) && (k2 == y2))) := HPRE.out 22 (by kernel_rfl) (by omega)
      have e29 : b.tmps.getD 29 undef = (bif ((k0 == y0) && (k1 == y1) && (k2 == y2)) then .int .u32 k4 else undef) := HPRE.out 26 (by kernel_rfl) (by omega)
      rcases hx : ((k0 == y0) && (k1 == y1) && (k2 == y2)) with _ | _
      · rw [hx] at e25
        rw [if_neg (wanted_no rfl rfl rfl e25 (by decide))]
        exact HKK.out undef _ HI.out (Below.refl _ _) (show undef = _ by rw [hx]; rfl)
      · rw [hx] at e25
        rw [hx] at e29
        replace e29 : b.tmps.getD 29 undef = .int .u32 k4 := e29
        rw [if_pos (wanted_yes rfl rfl rfl e25)]
        go_simp
        refine (G3.out _).mono ?_
        rintro e W2 ⟨rfl, d⟩
        exact HKK.out _ _ (below_on HI.out d) d (show _ = _ by rw [hx]; rfl)
    · cases hi
      have e25 : b.tmps.getD 25 undef = (.bool ((k0 == y0) && (k1 == y1) && (k2 == y2))) := HPRE.out 22 (by kernel_rfl) (by omega)
      have e27 : b.tmps.getD 27 undef = (bif ((k0 == y0) && (k1 == y1) && (k2 == y2)) then .int .u32 k4 else undef) := HPRE.out 24 (by kernel_rfl) (by omega)
      have e30 : b.tmps.getD 30 undef = (bif ((k0 == y0) && (k1 == y1) && (k2 == y2)) then .int .u32 y4 else undef) := HPRE.out 27 (by kernel_rfl) (by omega)
      rcases hx : ((k0 == y0) && (k1 == y1) && (k2 == y2)) with _ | _
      · rw [hx] at e25
        rw [if_neg (wanted_no rfl rfl rfl e25 (by decide))]
        exact HKK.out undef _ HI.out (Below.refl _ _) (show undef = _ by rw [hx]; rfl)
      · rw [hx] at e25
        rw [hx] at e27
        rw [hx] at e30
        replace e27 : b.tmps.getD 27 undef = .int .u32 k4 := e27
        replace e30 : b.tmps.getD 30 undef = .int .u32 y4 := e30
        rw [if_pos (wanted_yes rfl rfl rfl e25)]
        go_simp
        exact HKK.out _ _ HI.out (Below.refl _ _) (show _ = _ by rw [hx]; rfl)
    · cases hi
      have e25 : b.tmps.getD 25 undef = (.bool ((k0 == y0) && (k1 == y1) && (k2 == y2))) := HPRE.out 22 (by kernel_rfl) (by omega)
      have e31 : b.tmps.getD 31 undef = (bif ((k0 == y0) && (k1 == y1) && (k2 == y2)) then .bool (k4 == y4) else undef) := HPRE.out 28 (by kernel_rfl) (by omega)
      rw [if_pos (by rfl)]
      rcases hx : ((k0 == y0) && (k1 == y1) && (k2 == y2)) with _ | _
      · rw [hx] at e25 e31
        go_simp
        exact HKK.out _ _ HI.out (Below.refl _ _) (show _ = Value.bool (((k0 == y0) && (k1 == y1) && (k2 == y2)) && (k4 == y4)) by rw [hx]; rfl)
      · rw [hx] at e25 e31
        replace e31 : b.tmps.getD 31 undef = .bool (k4 == y4) := e31
        go_simp
        exact HKK.out _ _ HI.out (Below.refl _ _) (show _ = Value.bool (((k0 == y0) && (k1 == y1) && (k2 == y2)) && (k4 == y4)) by rw [hx]; rfl)
  case fin =>
    intro b W' hinv hsz hdef hkeep hpost
    have e32 : b.tmps.getD 32 undef = .bool ((k0 == y0) && (k1 == y1) && (k2 == y2) && (k4 == y4)) := hpost 29 (by omega)
    refine rj_lastv (by kernel_rfl) rfl (by kernel_rfl) rfl (by kernel_rfl) ?_
    obtain ⟨sl, hlit, hsl⟩ := act_let b 33 hsz
    rw [hdef] at hlit
    rw [← hsl] at e32
    simp only [show List.range 33 = [0, 1, 2, 3, 4, 5, 6, 7, 8, 9, 10, 11, 12, 13, 14, 15, 16, 17, 18, 19, 20, 21, 22, 23, 24, 25, 26, 27, 28, 29, 30, 31, 32] from rfl, List.map_cons, List.map_nil, e32] at hlit
    rw [hlit]
    have BF := Aside0.mk (BW.out.trans (hinv.mono BW.out.size))
    clear hkeep hsz hdef hpost hsl hlit e32 hinv
    go_simp
    go_wp2
    go_ret
    exact ⟨rfl, BF.out⟩
/-- Are kept registers legal? It is said. -/
theorem legal_any (w : World) (k0 k1 k2 k3 k4 k5 k6 : Int) : Calls Try.prog 69 #[.agg #[.int .u32 k0, .int .u32 k1, .int .u32 k2, .int .u32 k3, .int .u32 k4, .int .u32 k5, .int .u32 k6]] w fun e w' => ∃ b, e = .returned (.bool b) ∧ Below w.heap.size w w' :=
  (legal18_calls w k0 k1 k2 k3 k4 k5 k6 _ _ _ _ (fun w' => legal09_calls w' 768 k0 30 0 (by kernel_rfl) _ _ rfl rfl (by decide) (by decide) (by decide)) (fun w' => legal09_calls w' 772 k1 30 2 (by kernel_rfl) _ _ rfl rfl (by decide) (by decide) (by decide))
    (fun w' => legal09_calls w' 773 k2 30 3 (by kernel_rfl) _ _ rfl rfl (by decide) (by decide) (by decide)) (fun w' => legal09_calls w' 833 k4 30 5 (by kernel_rfl) _ _ rfl rfl (by decide) (by decide) (by decide))).mono fun e w' ⟨a, b⟩ => ⟨_, a, b⟩
end Go.Proofs.Ytfnbpmkbjbibkaa

namespace Go.Proofs.Ytfnbpmkbjbibkaa
open Go Go.RowKit Go.Deep Go.Great Go.Proofs.YtfnbpmkbjbibkaaW.PrintWords Go.Proofs.Ytfnbpmkbjbibkaa.QCpuSame
set_option linter.unusedVariables false
set_option linter.unusedSimpArgs false

section
variable {n : Int} {vp vi : Value} {pc : Int} {rg fl : List Value} {o m : Int} {s : Bool} {tk rt : Int} {w : World} {B t : Nat} {z : Nat × Nat}
theorem stC_len (h1 : rg.length = 32) (h2 : fl.length = 9) : (stC n vp vi pc rg fl o m s tk rt).length = 50 := by simp [stC, h1, h2]
theorem stC_r (h1 : rg.length = 32) (j : Nat) (v : Value) (h : rg[j]? = some v) : (stC n vp vi pc rg fl o m s tk rt)[4 + j]? = some v := by
  have hj := (List.getElem?_eq_some_iff.1 h).1
  rw [stC, show 4 + j = j + 1 + 1 + 1 + 1 by omega]
  simp only [List.getElem?_cons_succ]
  rw [List.getElem?_append_left hj, h]
theorem stC_f (h1 : rg.length = 32) (j : Nat) (v : Value) (h : fl[j]? = some v) : (stC n vp vi pc rg fl o m s tk rt)[36 + j]? = some v := by
  have hj := (List.getElem?_eq_some_iff.1 h).1
  rw [stC, show 36 + j = (32 + j) + 1 + 1 + 1 + 1 by omega]
  simp only [List.getElem?_cons_succ]
  rw [List.getElem?_append_right (by omega), h1, show 32 + j - 32 = j by omega, List.getElem?_append_left hj, h]
theorem stC_l (h1 : rg.length = 32) (h2 : fl.length = 9) (j : Nat) : (stC n vp vi pc rg fl o m s tk rt)[45 + j]? = [Value.int .u64 o, .int .u64 m, .bool s, .int .u64 tk, .int .u64 rt][j]? := by
  rw [stC, show 45 + j = (41 + j) + 1 + 1 + 1 + 1 by omega]
  simp only [List.getElem?_cons_succ]
  rw [List.getElem?_append_right (by omega), h1, List.getElem?_append_right (by omega), h2, show 41 + j - 32 - 9 = j by omega]
theorem st_at (H : w.heap[B]? = some (.cells (stC n vp vi pc rg fl o m s tk rt).toArray t z)) (j : Nat) {v : Value} (h : (stC n vp vi pc rg fl o m s tk rt)[j]? = some v) : w.cell? ⟨B, j, none⟩ = some v := by
  rw [cell_of_row w B j _ _ _ H, List.getElem?_toArray, h]
end
theorem stt_size : (Try.prog.info? 32).map (·.size) = some 50 := by kernel_rfl
theorem seven {α : Type} {l : List α} (h : l.length = 7) : ∃ a b c d e f g, l = [a, b, c, d, e, f, g] := by
  match l, h with
  | [a, b, c, d, e, f, g], _ => exact ⟨a, b, c, d, e, f, g, rfl⟩
/-- It is said, and where it is 'yes', P holds. -/
def Said (P : Prop) (w : World) (e : Ending) (w' : World) : Prop := ∃ b, e = .returned (.bool b) ∧ (b = true → P) ∧ Below w.heap.size w w'
/-- The file's cells of a beginning. -/
def fl9 (ks : List Int) (cy cn : Int) : List Value := ks.map (Value.int .u32) ++ [.int .u64 cy, .int .u64 cn]
section
variable {w : World} {n : Int} {A : Option Addr} {len cap : Nat} {f : Nat → Nat → Int} {pp : Nat → Option Addr} {nn c : Nat → Nat} {bb : Nat → List Int} {Ai : Option Addr} {leni capi : Nat} {fi : Nat → Nat → Int} {pc : Int} {rs ks : List Int} {cy cn o m tk rt : Int}
theorem StartOk.below {w' : World} (h : StartOk w n A len cap f pp nn c bb Ai leni capi fi pc rs ks cy cn o m tk rt) (d : Below w.heap.size w w') : StartOk w' n A len cap f pp nn c bb Ai leni capi fi pc rs ks cy cn o m tk rt :=
  ⟨h.mix.below d, h.inp.below (by decide) d, h.rl, h.kl, h.wn, h.wp, h.wr, h.wk, h.w1, h.w2, h.w3, h.w4, h.w5, h.w6⟩
theorem start_why (h : StartOk w n A len cap f pp nn c bb Ai leni capi fi pc rs ks cy cn o m tk rt) (hl : len ≤ 30) : ∃ r, Right12 leni fi r ∧ ∀ w', Below w.heap.size w w' → Calls Try.prog 15 #[.int .i64 n, .slice A len cap, .slice Ai leni capi] w' fun e w'' => e = .returned (.int .i64 (newAns n (prts len f nn bb) r)) ∧ Below w'.heap.size w' w'' := by
  obtain ⟨r, h12, hwhy⟩ := why_f n (prts len f nn bb) (by rw [prts_len]; omega) (mix_PW h.mix) leni fi (len + leni + 2) (by rw [prts_len]; omega) (by omega)
  refine ⟨r, h12, fun w' hb => ?_⟩
  have hsl : (sarr leni fi).length = leni := by simp [sarr]
  have := mimesisref18_Why.calls (len + leni + 2) n A cap (prts len f nn bb) Ai capi (sarr leni fi) _ w' (Kd.C_below (mix_C h.mix) hb) (by rw [prts_len]; exact h.mix.le.1) (Kd.C_below (rows_C h.inp) hb) (by rw [hsl]; exact h.inp.le.1) hwhy
  rw [prts_len, hsl] at this
  exact this
set_option maxRecDepth 100000 in
set_option maxHeartbeats 4000000 in
theorem right_calls (h : StartOk w n A len cap f pp nn c bb Ai leni capi fi pc rs ks cy cn o m tk rt) (s : Bool) (x : Int) (hW : ∀ w', Below w.heap.size w w' → Calls Try.prog 15 #[.int .i64 n, .slice A len cap, .slice Ai leni capi] w' fun e w'' => e = .returned (.int .i64 x) ∧ Below w'.heap.size w' w'') :
    Calls Try.prog 30 #[.agg (stC n (.slice A len cap) (.slice Ai leni capi) pc (rs.map (Value.int .u32)) (fl9 ks cy cn) o m s tk rt).toArray] w (Said (x = 0) w) := by
  have HW := Aside0.mk hW
  have HR : Aside0 ((rs.map (Value.int .u32)).length = 32) := ⟨by rw [List.length_map]; exact h.rl⟩
  obtain ⟨r0, hr0⟩ : ∃ r0, rs[0]? = some r0 := ⟨_, List.getElem?_eq_getElem (by rw [h.rl]; omega)⟩
  obtain ⟨k0, k1, k2, k3, k4, k5, k6, rfl⟩ := seven h.kl
  have HR0 : Aside0 ((rs.map (Value.int .u32))[0]? = some (.int .u32 r0)) := ⟨by rw [List.getElem?_map, hr0]; rfl⟩
  clear h hW hr0
  generalize rs.map (Value.int .u32) = rg at HR HR0 ⊢
  obtain ⟨B, hB⟩ : ∃ B, w.heap.size = B := ⟨_, rfl⟩
  go_enter Try.func30, Try.ntmps30
  go_upto_region 1 with fail
  obtain ⟨st, hst⟩ : ∃ st, stC n (.slice A len cap) (.slice Ai leni capi) pc rg (fl9 [k0, k1, k2, k3, k4, k5, k6] cy cn) o m s tk rt = st := ⟨_, rfl⟩
  have HX := Aside0.mk (by have := blk_new w (.cells (stC n (.slice A len cap) (.slice Ai leni capi) pc rg (fl9 [k0, k1, k2, k3, k4, k5, k6] cy cn) o m s tk rt).toArray 32); rw [hB] at this; exact this)
  have BW := Aside0.mk (below_alloc (Below.refl w.heap.size w) (.cells (stC n (.slice A len cap) (.slice Ai leni capi) pc rg (fl9 [k0, k1, k2, k3, k4, k5, k6] cy cn) o m s tk rt).toArray 32))
  clear hB
  generalize w.alloc (.cells (stC n (.slice A len cap) (.slice Ai leni capi) pc rg (fl9 [k0, k1, k2, k3, k4, k5, k6] cy cn) o m s tk rt).toArray 32) = w1 at HX BW ⊢
  have HST : Aside0 (∀ j : Nat, (stC n (.slice A len cap) (.slice Ai leni capi) pc rg (fl9 [k0, k1, k2, k3, k4, k5, k6] cy cn) o m s tk rt)[j]? = st[j]?) := ⟨fun j => by rw [hst]⟩
  rw [hst]
  clear hst
  have c0 : w1.cell? ⟨B, 0, none⟩ = some (.int .i64 n) := st_at HX.out 0 rfl
  have c1 : w1.cell? ⟨B, 1, none⟩ = some (.slice A len cap) := st_at HX.out 1 rfl
  have c2 : w1.cell? ⟨B, 2, none⟩ = some (.slice Ai leni capi) := st_at HX.out 2 rfl
  go_wp2_with fail
  refine (HW.out w1 BW.out).mono ?_
  rintro e w2 ⟨rfl, d2⟩
  have HX2 := Aside0.mk (blk_below HX.out d2)
  have B2 := Aside0.mk (below_on BW.out d2)
  clear d2 BW HX c0 c1 c2 HW
  have c3 : w2.cell? ⟨B, 3, none⟩ = some (.int .u32 pc) := st_at HX2.out 3 rfl
  have c4 : w2.cell? ⟨B, 4, none⟩ = some (.int .u32 r0) := st_at HX2.out 4 (stC_r HR.out 0 _ HR0.out)
  by_cases hx : x = 0
  · subst hx
    by_cases hp : pc.tmod 4 = 0
    · by_cases hr : r0 = 0
      · subst hr
        go_wp2_with (first
          | ((with_reducible refine gate_dst (N := 25) rfl ?_); refine wpListW_load_mid rfl 27 (.tmp 24) rfl B 36 rfl [.int .u32 k0, .int .u32 k1, .int .u32 k2, .int .u32 k3, .int .u32 k4, .int .u32 k5, .int .u32 k6] _ (range_in HX2.out 36 _ (fun j v hv => stC_f HR.out j v (by have hj := (List.getElem?_eq_some_iff.1 hv).1; exact (List.getElem?_append_left (l₂ := [Value.int .u64 cy, .int .u64 cn]) hj).trans hv))) Try.underlying27 rfl (by kernel_rfl) ?_))
        refine (legal_any _ k0 k1 k2 k3 k4 k5 k6).mono ?_
        rintro e w3 ⟨b, rfl, d3⟩
        have B3 := Aside0.mk (below_on B2.out d3)
        clear d3
        go_wp2_with fail
        go_ret
        exact ⟨b, rfl, fun _ => (by first | rfl | trivial), B3.out⟩
      · have hr' : (r0 == 0) = false := by simpa using hr
        go_wp2_with fail
        go_ret
        exact ⟨false, rfl, fun h => (by cases h), B2.out⟩
    · have hp' : (pc.tmod 4 == 0) = false := by simpa using hp
      go_wp2_with fail
      go_ret
      exact ⟨false, rfl, fun h => (by cases h), B2.out⟩
  · have hx' : (x == 0) = false := by simpa using hx
    go_wp2_with fail
    go_ret
    exact ⟨false, rfl, fun h => (by cases h), B2.out⟩
set_option maxRecDepth 100000 in
set_option maxHeartbeats 4000000 in
/-- What 'light' says: where yes, the machine may be. -/
theorem light_calls (h : StartOk w n A len cap f pp nn c bb Ai leni capi fi pc rs ks cy cn o m tk rt) (s : Bool) :
    Calls Try.prog 7 #[.agg (stC n (.slice A len cap) (.slice Ai leni capi) pc (rs.map (Value.int .u32)) (fl9 ks cy cn) o m s tk rt).toArray] w (Said (n ≤ 1024 ∧ len ≤ 30 ∧ leni ≤ 256 ∧ ∃ r, Right12 leni fi r ∧ newAns n (prts len f nn bb) r = 0) w) := by
  have H := Aside0.mk h
  have HRC := Aside0.mk (fun w' (hb : Below w.heap.size w w') x hx => right_calls (h.below hb) s x hx)
  have HL : Aside0 ((rs.map (Value.int .u32)).length = 32 ∧ (fl9 ks cy cn).length = 9) := ⟨by simp [h.rl], by simp [fl9, h.kl]⟩
  clear h
  obtain ⟨B, hB⟩ : ∃ B, w.heap.size = B := ⟨_, rfl⟩
  go_enter Try.func7, Try.ntmps7
  go_upto_region 1 with fail
  obtain ⟨st, hst⟩ : ∃ st, stC n (.slice A len cap) (.slice Ai leni capi) pc (rs.map (Value.int .u32)) (fl9 ks cy cn) o m s tk rt = st := ⟨_, rfl⟩
  have HX := Aside0.mk (by have := blk_new w (.cells (stC n (.slice A len cap) (.slice Ai leni capi) pc (rs.map (Value.int .u32)) (fl9 ks cy cn) o m s tk rt).toArray 32); rw [hB] at this; exact this)
  have BW := Aside0.mk (below_alloc (Below.refl w.heap.size w) (.cells (stC n (.slice A len cap) (.slice Ai leni capi) pc (rs.map (Value.int .u32)) (fl9 ks cy cn) o m s tk rt).toArray 32))
  clear hB
  generalize w.alloc (.cells (stC n (.slice A len cap) (.slice Ai leni capi) pc (rs.map (Value.int .u32)) (fl9 ks cy cn) o m s tk rt).toArray 32) = w1 at HX BW ⊢
  have c0 : w1.cell? ⟨B, 0, none⟩ = some (.int .i64 n) := st_at HX.out 0 rfl
  have c1 : w1.cell? ⟨B, 1, none⟩ = some (.slice A len cap) := st_at HX.out 1 rfl
  have c2 : w1.cell? ⟨B, 2, none⟩ = some (.slice Ai leni capi) := st_at HX.out 2 rfl
  have HSZ : Aside0 (st.length = 50 ∧ w1.heap[B]? = some (.cells st.toArray 32 (0, 0))) := ⟨by rw [← hst, stC_len HL.out.1 HL.out.2], by rw [← hst]; exact HX.out⟩
  rw [hst] at HRC ⊢
  clear hst HX HL
  by_cases h1 : n ≤ 1024
  · have h1' : decide (n ≤ 1024) = true := by simpa using h1
    by_cases h2 : len ≤ 30
    · have h2' : decide ((len : Int) ≤ 30) = true := by simp; omega
      by_cases h3 : leni ≤ 256
      · have h3' : decide ((leni : Int) ≤ 256) = true := by simp; omega
        obtain ⟨r, h12, hw⟩ := start_why H.out h2
        have HR := Aside0.mk (HRC.out w1 BW.out _ (fun w' hb => hw w' (BW.out.trans (hb.mono BW.out.size))))
        have H12 := Aside0.mk h12
        clear hw h12 HRC
        go_wp2_with (first
          | ((with_reducible refine gate_dst (N := 19) rfl ?_); refine wpListW_load_arr rfl 32 (.tmp 1) rfl B rfl st.toArray HSZ.out.2 _ Try.underlying32 rfl (by rw [List.size_toArray, HSZ.out.1]; exact stt_size) ?_))
        refine HR.out.mono ?_
        rintro e w2 ⟨b, rfl, hb, d2⟩
        have HB := Aside0.mk (And.intro hb (below_on BW.out d2))
        clear hb d2 HR
        go_wp2_with fail
        go_ret
        exact ⟨b, rfl, fun hb => ⟨h1, h2, h3, r, H12.out, HB.out.1 hb⟩, HB.out.2⟩
      · have h3' : decide ((leni : Int) ≤ 256) = false := by simp; omega
        go_wp2_with fail
        go_ret
        exact ⟨false, rfl, fun h => (by cases h), BW.out⟩
    · have h2' : decide ((len : Int) ≤ 30) = false := by simp; omega
      go_wp2_with fail
      go_ret
      exact ⟨false, rfl, fun h => (by cases h), BW.out⟩
  · have h1' : decide (n ≤ 1024) = false := by simpa using h1
    go_wp2_with fail
    go_ret
    exact ⟨false, rfl, fun h => (by cases h), BW.out⟩
end
end Go.Proofs.Ytfnbpmkbjbibkaa
