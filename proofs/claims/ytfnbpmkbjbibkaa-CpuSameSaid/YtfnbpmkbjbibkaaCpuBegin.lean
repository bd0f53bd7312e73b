/- The program's machine that begins anywhere. (PK=QCpuSame, QCpuPlays) -/
import Derived.Test.YtfnbpmkbjbibkaaCpuLight
import Derived.Test.YtfnbpmkbjbibkaaCpuE
namespace Go.Proofs.Ytfnbpmkbjbibkaa
open Go Go.RowKit Go.Deep Go.Great Go.Proofs.YtfnbpmkbjbibkaaW.PrintWords Go.Proofs.Ytfnbpmkbjbibkaa.QCpuSame
set_option linter.unusedVariables false
set_option linter.unusedSimpArgs false

section
variable {W W0 w w' : World} {p : Nat} {pc : Int} {rg fl : List Value} {tk rt : Int} {ev : Value} {B R C T BB BW BG n k : Nat} {X : Nat → Prop} {l : List Int} {ws : List Bool} {gs : List Int} {al : List (Int × Int)} {came : Nat} {q : List Int} {over : Bool} {out : List Int} {o m : Int} {s off : Bool} {code : Int}
theorem MC.base (h : MC W w p pc rg fl tk rt ev B R C T BB BW BG n k X l ws gs al came q over out o m s off code) (hb : Below W0.heap.size W0 W) : MC W0 w p pc rg fl tk rt ev B R C T BB BW BG n k X l ws gs al came q over out o m s off code := by
  have hs := hb.size
  refine ⟨h.im, ⟨h.ib.b, h.ib.r, ⟨h.ib.c.1, fun i hi => Nat.le_trans hs (h.ib.c.2.1 i hi), hb.trans (h.ib.c.2.2.mono hs)⟩, h.ib.t, ?_, h.ib.dis, h.ib.tb, h.ib.bb, h.ib.n0⟩, Nat.le_trans hs h.ap, h.d⟩
  have := h.ib.ap
  omega
/-- The timer was written. -/
theorem MC.tim (h : MC W w p pc rg fl tk rt ev B R C T BB BW BG n k X l ws gs al came q over out o m s off code) {o' m' : Int} {s' : Bool} (ht : IsT w' T o' m' s') (ho : Only T w w') : MC W w' p pc rg fl tk rt ev B R C T BB BW BG n k X l ws gs al came q over out o' m' s' off code :=
  ⟨⟨blk_only h.im.h ho (by have := h.d; omega), h.im.r, h.im.f, h.im.r1, h.im.f1, h.im.e⟩, h.ib.tim ht ho, h.ap, h.d⟩
theorem MC.bel (h : MC W w p pc rg fl tk rt ev B R C T BB BW BG n k X l ws gs al came q over out o m s off code) : Below W.heap.size W w := h.ib.c.2.2
theorem IsM.putR (h : IsM w p pc rg fl tk rt B ev) (rg' : List Value) (h1 : rg'.length = 32) (h2 : ∀ v ∈ rg', v.oneCell' = true) (hw : w'.heap[p]? = some (.cells (putAt (cH pc rg fl tk rt [.pointer (some ⟨B, 0, none⟩), ev]).toArray 1 rg') 91 (0, 0))) : IsM w' p pc rg' fl tk rt B ev := by
  rw [cH_putR h.r h.f rg' h1] at hw
  exact ⟨hw, h1, h.f, h2, h.f1, h.e⟩
theorem IsM.putF (h : IsM w p pc rg fl tk rt B ev) (fl' : List Value) (h1 : fl'.length = 9) (h2 : ∀ v ∈ fl', v.oneCell' = true) (hw : w'.heap[p]? = some (.cells (putAt (cH pc rg fl tk rt [.pointer (some ⟨B, 0, none⟩), ev]).toArray 33 fl') 91 (0, 0))) : IsM w' p pc rg fl' tk rt B ev := by
  rw [cH_putF h.r h.f fl' h1] at hw
  exact ⟨hw, h.r, h1, h.r1, h2, h.e⟩
theorem IsM.size (h : IsM w p pc rg fl tk rt B ev) : (cH pc rg fl tk rt [.pointer (some ⟨B, 0, none⟩), ev]).toArray.size = 46 := by rw [cH_size h.r h.f]; rfl
set_option maxRecDepth 100000 in
theorem cbus_ok (h : IsM w p pc rg fl tk rt B ev) : Calls Try.prog 29 #[.pointer (some ⟨p, 0, none⟩)] w fun e w' => e = .returned (.pointer (some ⟨B, 0, none⟩)) ∧ Drawn0 w w' := by
  have hc := h.cb
  clear h
  go_enter Try.func29, Try.ntmps29
  go_wp2
  go_ret
  exact ⟨rfl, Drawn0.refl _⟩
end
theorem file_built (a b c d e f g h i : Int) : Try.prog.built 39 [(0, .agg #[.int .u32 a, .int .u32 b, .int .u32 c, .int .u32 d, .int .u32 e, .int .u32 f, .int .u32 g]), (1, .int .u64 h), (2, .int .u64 i)] = some #[.int .u32 a, .int .u32 b, .int .u32 c, .int .u32 d, .int .u32 e, .int .u32 f, .int .u32 g, .int .u64 h, .int .u64 i] := by kernel_rfl
def postBg (W : World) (B0 : Nat) (n : Nat) (len : Nat) (l : List S113) (vp vi : Value) (L : List Int) (al : List (Int × Int)) (i : Nat) (v : Value) (w : World) : Prop :=
  match i with
  | 0 => v = .pointer (some ⟨B0, 0, none⟩)
  | 1 => v = .int .i64 (n : Int)
  | 2 => v = .pointer (some ⟨B0, 1, none⟩)
  | 3 => v = vp
  | 4 => ∃ A c, v = .slice A len c ∧ Kd.C k113 w A l.length l ∧ len ≤ c
  | 5 => v = .pointer (some ⟨B0, 2, none⟩)
  | 6 => v = vi
  | 7 => ∃ p B R C T BB BW BG X ws gs, v = .tuple #[.pointer (some ⟨p, 0, none⟩), .int .i64 0] ∧ MC W w p 2147483648 rZ fN 0 0 nl B R C T BB BW BG n (n / 64) X L ws gs al 0 [] false [] 0 18446744073709551615 false false 0
  | 8 => ∃ p B R C T BB BW BG X ws gs, v = .tuple #[.pointer (some ⟨p, 0, none⟩), .int .i64 0] ∧ MC W w p 2147483648 rZ fN 0 0 nl B R C T BB BW BG n (n / 64) X L ws gs al 0 [] false [] 0 18446744073709551615 false false 0
  | 9 => ∃ p B R C T BB BW BG X ws gs, v = .pointer (some ⟨p, 0, none⟩) ∧ MC W w p 2147483648 rZ fN 0 0 nl B R C T BB BW BG n (n / 64) X L ws gs al 0 [] false [] 0 18446744073709551615 false false 0
  | 10 => v = .int .i64 0
  | 11 => ∃ p B R C T BB BW BG X ws gs, v = .pointer (some ⟨p, 0, none⟩) ∧ MC W w p 2147483648 rZ fN 0 0 nl B R C T BB BW BG n (n / 64) X L ws gs al 0 [] false [] 0 18446744073709551615 false false 0
  | 12 => v = .int .i64 0
  | _ => True
theorem postBg_rg {W : World} {B0 n len : Nat} {l : List S113} {vp vi : Value} {L : List Int} {al : List (Int × Int)} (j : Nat) (v : Value) (w w' : World) (h : postBg W B0 n len l vp vi L al j v w) (k : Below w.heap.size w w') : postBg W B0 n len l vp vi L al j v w' := by
  unfold postBg at h ⊢
  split at h
  all_goals first
    | exact h
    | (obtain ⟨A, c, h1, h2, h3⟩ := h; exact ⟨A, c, h1, Kd.C_below h2 k, h3⟩)
    | (obtain ⟨p, B, R, C, T, BB, BW, BG, X, ws, gs, h1, h2⟩ := h; exact ⟨p, B, R, C, T, BB, BW, BG, X, ws, gs, h1, h2.below k⟩)
section
variable {n : Nat} {A : Option Addr} {len cap : Nat} {f : Nat → Nat → Int} {pp : Nat → Option Addr} {nn c : Nat → Nat} {bb : Nat → List Int} {Ai : Option Addr} {leni capi : Nat} {fi : Nat → Nat → Int} {pc : Int} {rs ks : List Int} {cy cn o m tk rt : Int}
set_option maxRecDepth 100000 in
set_option maxHeartbeats 8000000 in
/-- The program's machine that begins so. -/
theorem begin_ok (w : World) (h : StartOk w (n : Int) A len cap f pp nn c bb Ai leni capi fi pc rs ks cy cn o m tk rt) (s : Bool) (hl : len ≤ 30) {r : Int} (h12 : Right12 leni fi r) (hx : newAns (n : Int) (prts len f nn bb) r = 0) :
    Calls Try.prog 9 #[.agg (stC (n : Int) (.slice A len cap) (.slice Ai leni capi) pc (rs.map (Value.int .u32)) (fl9 ks cy cn) o m s tk rt).toArray] w fun e w' => ∃ p B R C T BB BW BG X ws gs, e = .returned (.pointer (some ⟨p, 0, none⟩)) ∧
      MC w w' p pc (rs.map (Value.int .u32)) (fl9 ks cy cn) tk rt nl B R C T BB BW BG n (n / 64) X (layL (List.replicate n 0) (prts len f nn bb)) ws gs (arrs leni fi) 0 [] false [] o m s false 0 ∧ Below w.heap.size w w' := by
  have H := Aside0.mk h
  have H12 := Aside0.mk h12
  have HX0 := Aside0.mk hx
  have HR : Aside0 ((rs.map (Value.int .u32)).length = 32) := ⟨by rw [List.length_map]; exact h.rl⟩
  have HR1 : Aside0 (∀ v ∈ rs.map (Value.int .u32), v.oneCell' = true) := ⟨by intro v hv; obtain ⟨x, _, rfl⟩ := List.mem_map.1 hv; rfl⟩
  obtain ⟨k0, k1, k2, k3, k4, k5, k6, rfl⟩ := seven h.kl
  have HFL : Aside0 ((fl9 [k0, k1, k2, k3, k4, k5, k6] cy cn).length = 9) := ⟨rfl⟩
  clear h h12 hx
  generalize hrg : rs.map (Value.int .u32) = rg at HR HR1 ⊢
  clear hrg
  obtain ⟨B0, hB⟩ : ∃ B, w.heap.size = B := ⟨_, rfl⟩
  have HB0 := Aside0.mk hB
  go_enter Try.func9, Try.ntmps9
  go_upto_region 1 with fail
  obtain ⟨st, hst⟩ : ∃ st, stC (n : Int) (.slice A len cap) (.slice Ai leni capi) pc rg (fl9 [k0, k1, k2, k3, k4, k5, k6] cy cn) o m s tk rt = st := ⟨_, rfl⟩
  have HX := Aside0.mk (by have := blk_new w (.cells (stC (n : Int) (.slice A len cap) (.slice Ai leni capi) pc rg (fl9 [k0, k1, k2, k3, k4, k5, k6] cy cn) o m s tk rt).toArray 32); rw [hB] at this; exact this)
  have BW := Aside0.mk (below_alloc (Below.refl w.heap.size w) (.cells (stC (n : Int) (.slice A len cap) (.slice Ai leni capi) pc rg (fl9 [k0, k1, k2, k3, k4, k5, k6] cy cn) o m s tk rt).toArray 32))
  clear hB
  generalize w.alloc (.cells (stC (n : Int) (.slice A len cap) (.slice Ai leni capi) pc rg (fl9 [k0, k1, k2, k3, k4, k5, k6] cy cn) o m s tk rt).toArray 32) = w1 at HX BW ⊢
  rw [hst]
  have HST : Aside0 (stC (n : Int) (.slice A len cap) (.slice Ai leni capi) pc rg (fl9 [k0, k1, k2, k3, k4, k5, k6] cy cn) o m s tk rt = st) := ⟨hst⟩
  clear hst
  have HI0 : Aside0 (Below w1.heap.size w1 w1.drew) := ⟨⟨rfl, rfl, rfl, Nat.le_refl _, fun _ _ => rfl⟩⟩
  refine wp_region_rj (by kernel_rfl) 13 (fun W' => Below w1.heap.size w1 W') (fun x y => Below x.heap.size x y) (postBg w1 B0 n len ((prts len f nn bb).map pt) (.slice A len cap) (.slice Ai leni capi) (layL (List.replicate n 0) (prts len f nn bb)) (arrs leni fi)) (by kernel_rfl) postBg_rg HI0.out ?step ?fin
  case step =>
    intro j op hi him b W' hinv hkeep hdef hpre Q hQ
    have HI := Aside0.mk hinv
    have HPRE := Aside0.mk hpre
    have HKEEP := Aside0.mk hkeep
    have HKK := Aside0.mk hQ
    clear hinv hpre hkeep hQ hdef
    obtain rfl | rfl | rfl | rfl | rfl | rfl | rfl | rfl | rfl | rfl | rfl | rfl | rfl : j = 0 ∨ j = 1 ∨ j = 2 ∨ j = 3 ∨ j = 4 ∨ j = 5 ∨ j = 6 ∨ j = 7 ∨ j = 8 ∨ j = 9 ∨ j = 10 ∨ j = 11 ∨ j = 12 := by omega
    · cases hi
      have e0 : b.tmps.getD 1 undef = .pointer (some ⟨B0, 0, none⟩) := HKEEP.out 1 (by kernel_rfl)
      rw [if_pos (by rfl)]
      go_simp
      exact HKK.out _ _ HI.out (Below.refl _ _) (by first | rfl | (simp; done))
    · cases hi
      have e0 : b.tmps.getD 7 undef = .pointer (some ⟨B0, 0, none⟩) := HPRE.out 0 (by kernel_rfl) (by omega)
      have hc : W'.cell? ⟨B0, 0, none⟩ = some (.int .i64 (n : Int)) := st_at (blk_below HX.out HI.out) 0 rfl
      rw [if_pos (by rfl)]
      go_simp
      exact HKK.out _ _ HI.out (Below.refl _ _) (by first | rfl | (simp; done))
    · cases hi
      have e0 : b.tmps.getD 1 undef = .pointer (some ⟨B0, 0, none⟩) := HKEEP.out 1 (by kernel_rfl)
      rw [if_pos (by rfl)]
      go_simp
      exact HKK.out _ _ HI.out (Below.refl _ _) (by first | rfl | (simp; done))
    · cases hi
      have e0 : b.tmps.getD 9 undef = .pointer (some ⟨B0, 1, none⟩) := HPRE.out 2 (by kernel_rfl) (by omega)
      have hc : W'.cell? ⟨B0, 1, none⟩ = some (.slice A len cap) := st_at (blk_below HX.out HI.out) 1 rfl
      rw [if_pos (by rfl)]
      go_simp
      exact HKK.out _ _ HI.out (Below.refl _ _) (by first | rfl | (simp; done))
    · cases hi
      have e0 : b.tmps.getD 10 undef = .slice A len cap := HPRE.out 3 (by kernel_rfl) (by omega)
      rw [if_pos (by rfl)]
      go_simp
      have hbw := BW.out.trans (HI.out.mono BW.out.size)
      have HPA := mimesislaw18_Parts.calls (len + 1) (fun _ => True) A cap (prts len f nn bb) ((prts len f nn bb).map pt) W' (mix_V (H.out.mix.below hbw) _) (parts_f _ (by rw [prts_len]; omega) _ (by rw [prts_len]; omega))
      rw [prts_len] at HPA
      refine HPA.mono ?_
      rintro e W2 ⟨v1, rfl, hN, d1⟩
      obtain ⟨A1, c1, rfl, hc1, hC1⟩ := Kd.N_reads hN
      rw [List.length_map, prts_len] at hc1
      have hlm : ((prts len f nn bb).map pt).length = len := by rw [List.length_map, prts_len]
      rw [hlm]
      exact HKK.out _ _ (below_on HI.out d1) d1 ⟨A1, c1, rfl, hC1, hc1⟩
    · cases hi
      have e0 : b.tmps.getD 1 undef = .pointer (some ⟨B0, 0, none⟩) := HKEEP.out 1 (by kernel_rfl)
      rw [if_pos (by rfl)]
      go_simp
      exact HKK.out _ _ HI.out (Below.refl _ _) (by first | rfl | (simp; done))
    · cases hi
      have e0 : b.tmps.getD 12 undef = .pointer (some ⟨B0, 2, none⟩) := HPRE.out 5 (by kernel_rfl) (by omega)
      have hc : W'.cell? ⟨B0, 2, none⟩ = some (.slice Ai leni capi) := st_at (blk_below HX.out HI.out) 2 rfl
      rw [if_pos (by rfl)]
      go_simp
      exact HKK.out _ _ HI.out (Below.refl _ _) (by first | rfl | (simp; done))
    · cases hi
      have e8 : b.tmps.getD 8 undef = .int .i64 (n : Int) := HPRE.out 1 (by kernel_rfl) (by omega)
      have e13 : b.tmps.getD 13 undef = .slice Ai leni capi := HPRE.out 6 (by kernel_rfl) (by omega)
      obtain ⟨A1, c1, e11, hC1, hc1⟩ := HPRE.out 4 (by kernel_rfl) (by omega)
      replace e11 : b.tmps.getD 11 undef = .slice A1 len c1 := e11
      have hbw := BW.out.trans (HI.out.mono BW.out.size)
      have HYE := cpunew_yes w1 W' HI.out n (prts len f nn bb) A1 c1 hC1 (by rw [prts_len]; exact hc1) (mix_PW H.out.mix) (H.out.inp.below (by decide) hbw) H12.out HX0.out
      rw [prts_len] at HYE
      rw [if_pos (by rfl)]
      go_simp
      refine HYE.mono ?_
      rintro e W2 ⟨p, B, R, C, T, BB, BW, BG, X, ws, gs, rfl, mc, d2⟩
      exact HKK.out _ _ (below_on HI.out d2) d2 ⟨p, B, R, C, T, BB, BW, BG, X, ws, gs, rfl, mc⟩
    · cases hi
      obtain ⟨p, B, R, C, T, BB, BW, BG, X, ws, gs, e14, mc⟩ := HPRE.out 7 (by kernel_rfl) (by omega)
      replace e14 : b.tmps.getD 14 undef = _ := e14
      rw [if_pos (by rfl)]
      go_simp
      exact HKK.out _ _ HI.out (Below.refl _ _) ⟨p, B, R, C, T, BB, BW, BG, X, ws, gs, rfl, mc⟩
    · cases hi
      obtain ⟨p, B, R, C, T, BB, BW, BG, X, ws, gs, e14, mc⟩ := HPRE.out 8 (by kernel_rfl) (by omega)
      replace e14 : b.tmps.getD 6 undef = _ := e14
      rw [if_pos (by rfl)]
      go_simp
      exact HKK.out _ _ HI.out (Below.refl _ _) ⟨p, B, R, C, T, BB, BW, BG, X, ws, gs, rfl, mc⟩
    · cases hi
      obtain ⟨p, B, R, C, T, BB, BW, BG, X, ws, gs, e14, mc⟩ := HPRE.out 8 (by kernel_rfl) (by omega)
      replace e14 : b.tmps.getD 6 undef = _ := e14
      rw [if_pos (by rfl)]
      go_simp
      exact HKK.out _ _ HI.out (Below.refl _ _) (by first | rfl | (simp; done))
    · cases hi
      obtain ⟨p, B, R, C, T, BB, BW, BG, X, ws, gs, e14, mc⟩ := HPRE.out 9 (by kernel_rfl) (by omega)
      replace e14 : b.tmps.getD 15 undef = _ := e14
      rw [if_pos (by rfl)]
      go_simp
      exact HKK.out _ _ HI.out (Below.refl _ _) ⟨p, B, R, C, T, BB, BW, BG, X, ws, gs, rfl, mc⟩
    · cases hi
      have e16 : b.tmps.getD 16 undef = .int .i64 0 := HPRE.out 10 (by kernel_rfl) (by omega)
      rw [if_pos (by rfl)]
      go_simp
      exact HKK.out _ _ HI.out (Below.refl _ _) (by first | rfl | (simp; done))
  case fin =>
    intro b W' hinv hsz hdef hkeep hpost
    obtain ⟨p, B, R, C, T, BB, BW', BG, X, ws, gs, e3, mc⟩ := hpost 11 (by omega)
    replace e3 : b.tmps.getD 3 undef = .pointer (some ⟨p, 0, none⟩) := e3
    have e4 : b.tmps.getD 4 undef = .int .i64 0 := hpost 12 (by omega)
    have k1 : b.tmps.getD 1 undef = .pointer (some ⟨B0, 0, none⟩) := hkeep 1 (by kernel_rfl)
    refine rj_all (by kernel_rfl) (by kernel_rfl) ?_
    obtain ⟨sl, hlit, hsl⟩ := act_let b 81 hsz
    rw [hdef] at hlit
    rw [← hsl] at e3 e4 k1
    simp only [show List.range 81 = [0, 1, 2, 3, 4, 5, 6, 7, 8, 9, 10, 11, 12, 13, 14, 15, 16, 17, 18, 19, 20, 21, 22, 23, 24, 25, 26, 27, 28, 29, 30, 31, 32, 33, 34, 35, 36, 37, 38, 39, 40, 41, 42, 43, 44, 45, 46, 47, 48, 49, 50, 51, 52, 53, 54, 55, 56, 57, 58, 59, 60, 61, 62, 63, 64, 65, 66, 67, 68, 69, 70, 71, 72, 73, 74, 75, 76, 77, 78, 79, 80] from rfl, List.map_cons, List.map_nil, e3, e4, k1] at hlit
    rw [hlit]
    have M2 := Aside0.mk mc
    have X2 := Aside0.mk (blk_below HX.out hinv)
    have HPB : Aside0 (B0 < w1.heap.size) := ⟨blk_lt HX.out⟩
    clear hkeep hsz hdef hpost hsl hlit e3 e4 k1 hinv mc HX
    go_simp
    go_wp2_with fail
    refine (cbus_ok M2.out.im).mono ?_
    rintro e w3 ⟨rfl, d⟩
    have M3 := Aside0.mk (M2.out.below d.below)
    have X3 := Aside0.mk (blk_below X2.out d.below)
    clear d M2 X2
    go_wp2_with fail
    refine (btim_calls _ M3.out.ib.b).mono ?_
    rintro e w4 ⟨rfl, d⟩
    have M4 := Aside0.mk (M3.out.below d.below)
    have X4 := Aside0.mk (blk_below X3.out d.below)
    have HNE : Aside0 (B0 ≠ p ∧ B0 ≠ T) := ⟨by have h1 := M4.out.ap; have h2 := M4.out.ib.ap; have h3 := HPB.out; omega⟩
    clear d M3 X3
    go_upto_region 4 with fail
    have c3 : w4.cell? ⟨B0, 3, none⟩ = some (.int .u32 pc) := st_at X4.out 3 rfl
    have g0 := M4.out.im.cpc
    have f0 := M4.out.im.fz 0
    go_upto_region 5 with fail
    have O5 := (Only.refl p w4).setCell 0 (.int .u32 pc)
    have M5 := Aside0.mk (M4.out.own (M4.out.im.setP pc) O5)
    have X5 := Aside0.mk (blk_only X4.out O5 HNE.out.1)
    clear c3 g0 f0 O5 M4 X4
    generalize w4.setCell ⟨p, 0, none⟩ (.int .u32 pc) = w5 at M5 X5 ⊢
    go_upto_region 6 with (first
      | ((with_reducible refine gate_dst (N := 36) rfl ?_); refine wpList_load_mid rfl 25 (.tmp 35) rfl B0 4 rfl rg _ (range_in X5.out 4 rg (stC_r HR.out)) Try.underlying25 rfl (by rw [HR.out]; kernel_rfl) ?_)
      | ((with_reducible refine gate_store (t := 25) (p := 38) (v := .tmp 36) rfl ?_); refine wpList_store_part rfl 25 (.tmp 38) (.tmp 36) rfl p 1 rg.toArray rfl rfl (all_oneCell_toArray HR1.out) _ 91 M5.out.im.h (by rw [M5.out.im.size, List.size_toArray, HR.out]; decide) (by rw [List.size_toArray, HR.out]; kernel_rfl) ?_; intro w6 hf ho; have M6 := Aside0.mk (M5.out.own (M5.out.im.putR rg HR.out HR1.out hf) ho); have X6 := Aside0.mk (blk_only X5.out ho HNE.out.1); clear hf ho M5 X5))
    have c43 : w6.cell? ⟨B0, 43, none⟩ = some (.int .u64 cy) := st_at X6.out 43 (stC_f HR.out 7 _ rfl)
    have c44 : w6.cell? ⟨B0, 44, none⟩ = some (.int .u64 cn) := st_at X6.out 44 (stC_f HR.out 8 _ rfl)
    go_simp
    go_upto_region 7 with (first
      | ((with_reducible refine gate_dst (N := 41) rfl ?_); refine wpList_load_mid rfl 27 (.tmp 40) rfl B0 36 rfl [.int .u32 k0, .int .u32 k1, .int .u32 k2, .int .u32 k3, .int .u32 k4, .int .u32 k5, .int .u32 k6] _ (range_in X6.out 36 _ (fun j v hv => stC_f HR.out j v (by have hj := (List.getElem?_eq_some_iff.1 hv).1; exact (List.getElem?_append_left (l₂ := [Value.int .u64 cy, .int .u64 cn]) hj).trans hv))) Try.underlying27 rfl (by kernel_rfl) ?_)
      | ((with_reducible refine gate_dst (N := 46) rfl ?_); refine wpList_buildTo rfl 39 #[(0, .tmp 41), (1, .tmp 43), (2, .tmp 45)] rfl (some 46) rfl (fl9 [k0, k1, k2, k3, k4, k5, k6] cy cn).toArray (by simp only [List.map_toArray, List.map_cons, List.map_nil]; exact file_built k0 k1 k2 k3 k4 k5 k6 cy cn) ?_)
      | ((with_reducible refine gate_store (t := 39) (p := 48) (v := .tmp 46) rfl ?_); refine wpList_store_part rfl 39 (.tmp 48) (.tmp 46) rfl p 33 (fl9 [k0, k1, k2, k3, k4, k5, k6] cy cn).toArray rfl rfl (all_oneCell_toArray (by simp [fl9, Value.oneCell'])) _ 91 M6.out.im.h (by rw [M6.out.im.size]; exact (by decide : 42 ≤ 46)) (show (Try.prog.info? 39).map (·.size) = some 9 by kernel_rfl) ?_; intro w7 hf ho; have M7 := Aside0.mk (M6.out.own (M6.out.im.putF _ HFL.out (by simp [fl9, Value.oneCell']) hf) ho); have X7 := Aside0.mk (blk_only X6.out ho HNE.out.1); clear hf ho M6 X6 c43 c44))
    go_simp
    go_wp2_with fail
    refine (cbus_ok M7.out.im).mono ?_
    rintro e w8 ⟨rfl, d⟩
    have M8 := Aside0.mk (M7.out.below d.below)
    have X8 := Aside0.mk (blk_below X7.out d.below)
    clear d M7 X7
    go_wp2_with fail
    refine (btim_calls _ M8.out.ib.b).mono ?_
    rintro e w9 ⟨rfl, d⟩
    have M9 := Aside0.mk (M8.out.below d.below)
    have X9 := Aside0.mk (blk_below X8.out d.below)
    clear d M8 X8
    go_upto_region 8 with fail
    have cs : w9.cell? ⟨B0, 45, none⟩ = some (.int .u64 o) := st_at X9.out 45 (stC_l HR.out HFL.out 0)
    have g0 := M9.out.ib.t.c0
    have f0 := M9.out.ib.t.fz 0
    go_upto_region 9 with fail
    have OO := (Only.refl T w9).setCell 0 (.int .u64 o)
    have M10 := Aside0.mk (M9.out.tim (M9.out.ib.t.set0 o) OO)
    have X10 := Aside0.mk (blk_only X9.out OO HNE.out.2)
    clear cs g0 f0 OO M9 X9
    generalize w9.setCell ⟨T, 0, none⟩ (.int .u64 o) = w10 at M10 X10 ⊢
    have cs : w10.cell? ⟨B0, 46, none⟩ = some (.int .u64 m) := st_at X10.out 46 (stC_l HR.out HFL.out 1)
    have g0 := M10.out.ib.t.c1
    have f0 := M10.out.ib.t.fz 1
    go_upto_region 10 with fail
    have OO := (Only.refl T w10).setCell 1 (.int .u64 m)
    have M11 := Aside0.mk (M10.out.tim (M10.out.ib.t.set1 m) OO)
    have X11 := Aside0.mk (blk_only X10.out OO HNE.out.2)
    clear cs g0 f0 OO M10 X10
    generalize w10.setCell ⟨T, 1, none⟩ (.int .u64 m) = w11 at M11 X11 ⊢
    have cs : w11.cell? ⟨B0, 47, none⟩ = some (.bool s) := st_at X11.out 47 (stC_l HR.out HFL.out 2)
    have g0 := M11.out.ib.t.c2
    have f0 := M11.out.ib.t.fz 2
    go_upto_region 11 with fail
    have OO := (Only.refl T w11).setCell 2 (.bool s)
    have M12 := Aside0.mk (M11.out.tim (M11.out.ib.t.set2 s) OO)
    have X12 := Aside0.mk (blk_only X11.out OO HNE.out.2)
    clear cs g0 f0 OO M11 X11
    generalize w11.setCell ⟨T, 2, none⟩ (.bool s) = w12 at M12 X12 ⊢
    have cs : w12.cell? ⟨B0, 48, none⟩ = some (.int .u64 tk) := st_at X12.out 48 (stC_l HR.out HFL.out 3)
    have g0 := M12.out.im.ctk
    have f0 := M12.out.im.fz 42
    go_upto_region 12 with fail
    have OO := (Only.refl p w12).setCell 42 (.int .u64 tk)
    have M13 := Aside0.mk (M12.out.own (M12.out.im.setT tk) OO)
    have X13 := Aside0.mk (blk_only X12.out OO HNE.out.1)
    clear cs g0 f0 OO M12 X12
    generalize w12.setCell ⟨p, 42, none⟩ (.int .u64 tk) = w13 at M13 X13 ⊢
    have cs : w13.cell? ⟨B0, 49, none⟩ = some (.int .u64 rt) := st_at X13.out 49 (stC_l HR.out HFL.out 4)
    have g0 := M13.out.im.crt
    have f0 := M13.out.im.fz 43
    go_upto_region 13 with fail
    have OO := (Only.refl p w13).setCell 43 (.int .u64 rt)
    have M14 := Aside0.mk (M13.out.own (M13.out.im.setI rt) OO)
    have X14 := Aside0.mk (blk_only X13.out OO HNE.out.1)
    clear cs g0 f0 OO M13 X13
    generalize w13.setCell ⟨p, 43, none⟩ (.int .u64 rt) = w14 at M14 X14 ⊢
    go_wp2_with fail
    go_ret
    exact ⟨p, B, R, C, T, BB, BW', BG, X, ws, gs, rfl, M14.out.base BW.out, M14.out.bel.mono (by rw [HB0.out]; exact Nat.le_of_lt HPB.out) |> fun h => BW.out.trans h⟩
end
end Go.Proofs.Ytfnbpmkbjbibkaa
