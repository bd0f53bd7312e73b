/- Are two states the same? Printed by wip/tools/gen_cpusame.py. (PK=PCpuNils) -/
import Derived.Test.YtfnbpmkbjbibkaaCpuE
namespace Go.Proofs.Ytfnbpmkbjbibkaa
open Go Go.RowKit Go.Deep Go.Great Go.Proofs.YtfnbpmkbjbibkaaW.PrintWords Go.Proofs.Ytfnbpmkbjbibkaa.QCpuSame
set_option linter.unusedVariables false
set_option linter.unusedSimpArgs false

def kP : List (Option IntKind) := some .u32 :: (List.replicate 32 (some .u32) ++ (kF ++ [some .u64, some .u64, none, none, some .i64, some .u64, some .u64, none, some .u32]))
theorem kP_of : kindsOf Try.prog 20 102 = some kP := by kernel_rfl
theorem fits_P {pc : Int} {rg fl : List Value} {tk rt : Int} {over off : Bool} {came o m : Int} {s : Bool} {code : Int} (h : Fits (List.replicate 32 (some .u32)) rg) (k : Fits kF fl) : Fits kP (cH pc rg fl tk rt (pL over off came o m s code)) :=
  .cons ⟨_, rfl⟩ (h.append (k.append (.cons ⟨_, rfl⟩ (.cons ⟨_, rfl⟩ (.cons ⟨_, rfl⟩ (.cons ⟨_, rfl⟩ (.cons ⟨_, rfl⟩ (.cons ⟨_, rfl⟩ (.cons ⟨_, rfl⟩ (.cons ⟨_, rfl⟩ (.cons ⟨_, rfl⟩ .nil)))))))))))
def postSm (g2 g3 : Nat) (a b pa pb : Array Value) (ram rx ox ev ram' rx' ox' ev' : Value) (x0 x1 x2 x3 x4 : Bool) (i : Nat) (v : Value) (w : World) : Prop :=
  match i with
  | 0 => v = .agg a
  | 1 => v = .agg pa
  | 2 => v = .agg b
  | 3 => v = .agg pb
  | 4 => v = .bool x0
  | 5 => v = .bool x0
  | 6 => v = bif x0 then .pointer (some ⟨g2, 44, none⟩) else undef
  | 7 => v = bif x0 then ram else undef
  | 8 => v = bif x0 then .pointer (some ⟨g3, 44, none⟩) else undef
  | 9 => v = bif x0 then ram' else undef
  | 10 => v = bif x0 then .bool x1 else undef
  | 11 => v = .bool (x0 && x1)
  | 12 => v = .bool (x0 && x1)
  | 13 => v = bif (x0 && x1) then .pointer (some ⟨g2, 45, none⟩) else undef
  | 14 => v = bif (x0 && x1) then rx else undef
  | 15 => v = bif (x0 && x1) then .pointer (some ⟨g3, 45, none⟩) else undef
  | 16 => v = bif (x0 && x1) then rx' else undef
  | 17 => v = bif (x0 && x1) then .bool x2 else undef
  | 18 => v = .bool (x0 && x1 && x2)
  | 19 => v = .bool (x0 && x1 && x2)
  | 20 => v = bif (x0 && x1 && x2) then .pointer (some ⟨g2, 46, none⟩) else undef
  | 21 => v = bif (x0 && x1 && x2) then ox else undef
  | 22 => v = bif (x0 && x1 && x2) then .pointer (some ⟨g3, 46, none⟩) else undef
  | 23 => v = bif (x0 && x1 && x2) then ox' else undef
  | 24 => v = bif (x0 && x1 && x2) then .bool x3 else undef
  | 25 => v = .bool (x0 && x1 && x2 && x3)
  | 26 => v = .bool (x0 && x1 && x2 && x3)
  | 27 => v = bif (x0 && x1 && x2 && x3) then .pointer (some ⟨g2, 54, none⟩) else undef
  | 28 => v = bif (x0 && x1 && x2 && x3) then ev else undef
  | 29 => v = bif (x0 && x1 && x2 && x3) then .pointer (some ⟨g3, 54, none⟩) else undef
  | 30 => v = bif (x0 && x1 && x2 && x3) then ev' else undef
  | 31 => v = bif (x0 && x1 && x2 && x3) then .bool x4 else undef
  | 32 => v = .bool (x0 && x1 && x2 && x3 && x4)
  | _ => True
theorem postSm_rg {g2 g3 : Nat} {a b pa pb : Array Value} {ram rx ox ev ram' rx' ox' ev' : Value} {x0 x1 x2 x3 x4 : Bool} (j : Nat) (v : Value) (w w' : World) (h : postSm g2 g3 a b pa pb ram rx ox ev ram' rx' ox' ev' x0 x1 x2 x3 x4 j v w) (k : Below w.heap.size w w') : postSm g2 g3 a b pa pb ram rx ox ev ram' rx' ox' ev' x0 x1 x2 x3 x4 j v w' := h

/-- What 'is a state the same as another one' asks. -/
structure SmIn (w : World) (x0 x1 x2 x3 x4 : Bool) (pc : Int) (rg fl : List Value) (tk rt : Int) (ram rx ox : Value) (over : Bool) (came o m : Int) (s off : Bool) (code : Int) (ev : Value) (pc' : Int) (rg' fl' : List Value) (tk' rt' : Int) (ram' rx' ox' : Value) (over' : Bool) (came' o' m' : Int) (s' off' : Bool) (code' : Int) (ev' : Value) : Prop where
  r : rg.length = 32
  f : fl.length = 9
  r' : rg'.length = 32
  f' : fl'.length = 9
  k : Fits (List.replicate 32 (some .u32)) rg
  k' : Fits (List.replicate 32 (some .u32)) rg'
  e : Fits kF fl
  e' : Fits kF fl'
  c : ∀ v ∈ sL ram rx ox over came o m s off code ev, v.oneCell' = true
  c' : ∀ v ∈ sL ram' rx' ox' over' came' o' m' s' off' code' ev', v.oneCell' = true
  h0 : x0 = true ↔ cH pc rg fl tk rt (pL over off came o m s code) = cH pc' rg' fl' tk' rt' (pL over' off' came' o' m' s' code')
  h1 : ∀ w', Below w.heap.size w w' → x0 = true → Calls Try.prog 42 #[ram, ram'] w' fun e w'' => e = .returned (.bool x1) ∧ Below w'.heap.size w' w''
  h2 : ∀ w', Below w.heap.size w w' → (x0 && x1) = true → Calls Try.prog 42 #[rx, rx'] w' fun e w'' => e = .returned (.bool x2) ∧ Below w'.heap.size w' w''
  h3 : ∀ w', Below w.heap.size w w' → (x0 && x1 && x2) = true → Calls Try.prog 42 #[ox, ox'] w' fun e w'' => e = .returned (.bool x3) ∧ Below w'.heap.size w' w''
  h4 : ∀ w', Below w.heap.size w w' → (x0 && x1 && x2 && x3) = true → Calls Try.prog 12 #[ev, ev'] w' fun e w'' => e = .returned (.bool x4) ∧ Below w'.heap.size w' w''

set_option maxRecDepth 100000 in
set_option maxHeartbeats 8000000 in
/-- Are two states the same? -/
theorem csame_calls (w : World) {x0 x1 x2 x3 x4 : Bool} {pc : Int} {rg fl : List Value} {tk rt : Int} {ram rx ox : Value} {over : Bool} {came o m : Int} {s off : Bool} {code : Int} {ev : Value} {pc' : Int} {rg' fl' : List Value} {tk' rt' : Int} {ram' rx' ox' : Value} {over' : Bool} {came' o' m' : Int} {s' off' : Bool} {code' : Int} {ev' : Value}
    (h : SmIn w x0 x1 x2 x3 x4 pc rg fl tk rt ram rx ox over came o m s off code ev pc' rg' fl' tk' rt' ram' rx' ox' over' came' o' m' s' off' code' ev') :
    Calls Try.prog 11 #[.agg (cH pc rg fl tk rt (sL ram rx ox over came o m s off code ev)).toArray, .agg (cH pc' rg' fl' tk' rt' (sL ram' rx' ox' over' came' o' m' s' off' code' ev')).toArray] w fun e w' => e = .returned (.bool (x0 && x1 && x2 && x3 && x4)) ∧ Below w.heap.size w w' := by
  have H := Aside0.mk h
  clear h
  obtain ⟨g2, hg2⟩ : ∃ B, w.heap.size = B := ⟨_, rfl⟩
  have HG2 := Aside0.mk hg2
  go_enter Try.func11, Try.ntmps11
  go_upto_region 1 with fail
  obtain ⟨g3, hg3⟩ : ∃ B, (w.alloc (.cells (cH pc rg fl tk rt (sL ram rx ox over came o m s off code ev)).toArray 43)).heap.size = B := ⟨_, rfl⟩
  have HB2 := Aside0.mk (blk_below (by have := blk_new w (.cells (cH pc rg fl tk rt (sL ram rx ox over came o m s off code ev)).toArray 43); rw [hg2] at this; exact this) (below_alloc (Below.refl _ (w.alloc (.cells (cH pc rg fl tk rt (sL ram rx ox over came o m s off code ev)).toArray 43))) (.cells (cH pc' rg' fl' tk' rt' (sL ram' rx' ox' over' came' o' m' s' off' code' ev')).toArray 43)))
  have HB3 := Aside0.mk (show ((w.alloc (.cells (cH pc rg fl tk rt (sL ram rx ox over came o m s off code ev)).toArray 43)).alloc (.cells (cH pc' rg' fl' tk' rt' (sL ram' rx' ox' over' came' o' m' s' off' code' ev')).toArray 43)).heap[g3]? = some (.cells (cH pc' rg' fl' tk' rt' (sL ram' rx' ox' over' came' o' m' s' off' code' ev')).toArray 43 (0, 0)) by rw [← hg3]; exact blk_new _ _)
  have BW := Aside0.mk (below_alloc (below_alloc (Below.refl w.heap.size w) (.cells (cH pc rg fl tk rt (sL ram rx ox over came o m s off code ev)).toArray 43)) (.cells (cH pc' rg' fl' tk' rt' (sL ram' rx' ox' over' came' o' m' s' off' code' ev')).toArray 43))
  have hg3' : g2 + 1 = g3 := by rw [← hg3, ← hg2]; simp
  rw [hg3']
  clear hg2 hg3 hg3'
  generalize (w.alloc (.cells (cH pc rg fl tk rt (sL ram rx ox over came o m s off code ev)).toArray 43)).alloc (.cells (cH pc' rg' fl' tk' rt' (sL ram' rx' ox' over' came' o' m' s' off' code' ev')).toArray 43) = w1 at HB2 HB3 BW ⊢

  have HI0 : Aside0 (Below w1.heap.size w1 w1.drew) := ⟨⟨rfl, rfl, rfl, Nat.le_refl _, fun _ _ => rfl⟩⟩
  have HC1 : Aside0 (((cH pc rg fl tk rt (sL ram rx ox over came o m s off code ev)).toArray).size = 55 ∧ ((cH pc' rg' fl' tk' rt' (sL ram' rx' ox' over' came' o' m' s' off' code' ev')).toArray).size = 55) := ⟨⟨by rw [cH_size H.out.r H.out.f]; rfl, by rw [cH_size H.out.r' H.out.f']; rfl⟩⟩
  refine wp_region_rj (by kernel_rfl) 33 (fun W' => Below w1.heap.size w1 W') (fun x y => Below x.heap.size x y) (postSm g2 g3 (cH pc rg fl tk rt (sL ram rx ox over came o m s off code ev)).toArray (cH pc' rg' fl' tk' rt' (sL ram' rx' ox' over' came' o' m' s' off' code' ev')).toArray (cH pc rg fl tk rt (pL over off came o m s code)).toArray (cH pc' rg' fl' tk' rt' (pL over' off' came' o' m' s' code')).toArray ram rx ox ev ram' rx' ox' ev' x0 x1 x2 x3 x4) (by kernel_rfl) postSm_rg HI0.out ?step ?fin
  case step =>
    intro i op hi him b W' hinv hkeep hdef hpre K hK
    have HI := Aside0.mk hinv
    have HPRE := Aside0.mk hpre
    have HKEEP := Aside0.mk hkeep
    have HKK := Aside0.mk hK
    clear hinv hpre hkeep hK hdef
    obtain rfl | rfl | rfl | rfl | rfl | rfl | rfl | rfl | rfl | rfl | rfl | rfl | rfl | rfl | rfl | rfl | rfl | rfl | rfl | rfl | rfl | rfl | rfl | rfl | rfl | rfl | rfl | rfl | rfl | rfl | rfl | rfl | rfl : i = 0 ∨ i = 1 ∨ i = 2 ∨ i = 3 ∨ i = 4 ∨ i = 5 ∨ i = 6 ∨ i = 7 ∨ i = 8 ∨ i = 9 ∨ i = 10 ∨ i = 11 ∨ i = 12 ∨ i = 13 ∨ i = 14 ∨ i = 15 ∨ i = 16 ∨ i = 17 ∨ i = 18 ∨ i = 19 ∨ i = 20 ∨ i = 21 ∨ i = 22 ∨ i = 23 ∨ i = 24 ∨ i = 25 ∨ i = 26 ∨ i = 27 ∨ i = 28 ∨ i = 29 ∨ i = 30 ∨ i = 31 ∨ i = 32 := by omega
    · cases hi
      have e2 : b.tmps.getD 2 undef = .pointer (some ⟨g2, 0, none⟩) := HKEEP.out 2 (by kernel_rfl)
      rw [if_pos (by rfl)]
      refine wp_load_arr 43 (.tmp 2) rfl g2 e2 (cH pc rg fl tk rt (sL ram rx ox over came o m s off code ev)).toArray (blk_below HB2.out HI.out) _ Try.underlying43 rfl (by rw [HC1.out.1]; exact st_size) ?_
      exact HKK.out _ _ HI.out (Below.refl _ _) rfl
    · cases hi
      have e5 : b.tmps.getD 5 undef = (.agg (cH pc rg fl tk rt (sL ram rx ox over came o m s off code ev)).toArray) := HPRE.out 0 (by kernel_rfl) (by omega)
      rw [if_pos (by rfl)]
      go_simp
      refine (cplain_calls _ H.out.r H.out.f H.out.k.one H.out.e.one ram rx ox ev over off came o m s code).mono ?_
      rintro e W2 ⟨rfl, d⟩
      exact HKK.out _ _ (below_on HI.out d) d rfl
    · cases hi
      have e3 : b.tmps.getD 3 undef = .pointer (some ⟨g3, 0, none⟩) := HKEEP.out 3 (by kernel_rfl)
      rw [if_pos (by rfl)]
      refine wp_load_arr 43 (.tmp 3) rfl g3 e3 (cH pc' rg' fl' tk' rt' (sL ram' rx' ox' over' came' o' m' s' off' code' ev')).toArray (blk_below HB3.out HI.out) _ Try.underlying43 rfl (by rw [HC1.out.2]; exact st_size) ?_
      exact HKK.out _ _ HI.out (Below.refl _ _) rfl
    · cases hi
      have e7 : b.tmps.getD 7 undef = (.agg (cH pc' rg' fl' tk' rt' (sL ram' rx' ox' over' came' o' m' s' off' code' ev')).toArray) := HPRE.out 2 (by kernel_rfl) (by omega)
      rw [if_pos (by rfl)]
      go_simp
      refine (cplain_calls _ H.out.r' H.out.f' H.out.k'.one H.out.e'.one ram' rx' ox' ev' over' off' came' o' m' s' code').mono ?_
      rintro e W2 ⟨rfl, d⟩
      exact HKK.out _ _ (below_on HI.out d) d rfl
    · cases hi
      have e6 : b.tmps.getD 6 undef = (.agg (cH pc rg fl tk rt (pL over off came o m s code)).toArray) := HPRE.out 1 (by kernel_rfl) (by omega)
      have e8 : b.tmps.getD 8 undef = (.agg (cH pc' rg' fl' tk' rt' (pL over' off' came' o' m' s' code')).toArray) := HPRE.out 3 (by kernel_rfl) (by omega)
      rw [if_pos (by rfl)]
      refine wp_eql_flat 102 102 (.tmp 6) (.tmp 8) rfl kP kP_of (by kernel_rfl) (by kernel_rfl) _ _ e6 e8 (fits_P H.out.k H.out.e) (fits_P H.out.k' H.out.e') ?_
      intro c hc
      obtain rfl : c = x0 := Bool.eq_iff_iff.2 (hc.trans H.out.h0.symm)
      exact HKK.out _ _ HI.out (Below.refl _ _) rfl
    · cases hi
      have e9 : b.tmps.getD 9 undef = (.bool x0) := HPRE.out 4 (by kernel_rfl) (by omega)
      rw [if_pos (by rfl)]
      go_simp
      exact HKK.out _ _ HI.out (Below.refl _ _) (by first | rfl | (simp; done))
    · cases hi
      have e10 : b.tmps.getD 10 undef = (.bool x0) := HPRE.out 5 (by kernel_rfl) (by omega)
      have e2 : b.tmps.getD 2 undef = .pointer (some ⟨g2, 0, none⟩) := HKEEP.out 2 (by kernel_rfl)
      rcases hx : x0 with _ | _
      · rw [hx] at e10
        rw [if_neg (wanted_no rfl rfl rfl e10 (by decide))]
        exact HKK.out undef _ HI.out (Below.refl _ _) (show undef = _ by rw [hx]; rfl)
      · rw [hx] at e10
        rw [if_pos (wanted_yes rfl rfl rfl e10)]
        go_simp
        exact HKK.out _ _ HI.out (Below.refl _ _) (show _ = _ by rw [hx]; rfl)
    · cases hi
      have e10 : b.tmps.getD 10 undef = (.bool x0) := HPRE.out 5 (by kernel_rfl) (by omega)
      have e11 : b.tmps.getD 11 undef = (bif x0 then .pointer (some ⟨g2, 44, none⟩) else undef) := HPRE.out 6 (by kernel_rfl) (by omega)
      rcases hx : x0 with _ | _
      · rw [hx] at e10
        rw [if_neg (wanted_no rfl rfl rfl e10 (by decide))]
        exact HKK.out undef _ HI.out (Below.refl _ _) (show undef = _ by rw [hx]; rfl)
      · rw [hx] at e10
        rw [hx] at e11
        replace e11 : b.tmps.getD 11 undef = .pointer (some ⟨g2, 44, none⟩) := e11
        rw [if_pos (wanted_yes rfl rfl rfl e10)]
        have hc : W'.cell? ⟨g2, 44, none⟩ = some ram := at_L (blk_below HB2.out HI.out) H.out.r H.out.f 0 rfl
        go_simp
        exact HKK.out _ _ HI.out (Below.refl _ _) (show _ = _ by rw [hx]; rfl)
    · cases hi
      have e10 : b.tmps.getD 10 undef = (.bool x0) := HPRE.out 5 (by kernel_rfl) (by omega)
      have e3 : b.tmps.getD 3 undef = .pointer (some ⟨g3, 0, none⟩) := HKEEP.out 3 (by kernel_rfl)
      rcases hx : x0 with _ | _
      · rw [hx] at e10
        rw [if_neg (wanted_no rfl rfl rfl e10 (by decide))]
        exact HKK.out undef _ HI.out (Below.refl _ _) (show undef = _ by rw [hx]; rfl)
      · rw [hx] at e10
        rw [if_pos (wanted_yes rfl rfl rfl e10)]
        go_simp
        exact HKK.out _ _ HI.out (Below.refl _ _) (show _ = _ by rw [hx]; rfl)
    · cases hi
      have e10 : b.tmps.getD 10 undef = (.bool x0) := HPRE.out 5 (by kernel_rfl) (by omega)
      have e13 : b.tmps.getD 13 undef = (bif x0 then .pointer (some ⟨g3, 44, none⟩) else undef) := HPRE.out 8 (by kernel_rfl) (by omega)
      rcases hx : x0 with _ | _
      · rw [hx] at e10
        rw [if_neg (wanted_no rfl rfl rfl e10 (by decide))]
        exact HKK.out undef _ HI.out (Below.refl _ _) (show undef = _ by rw [hx]; rfl)
      · rw [hx] at e10
        rw [hx] at e13
        replace e13 : b.tmps.getD 13 undef = .pointer (some ⟨g3, 44, none⟩) := e13
        rw [if_pos (wanted_yes rfl rfl rfl e10)]
        have hc : W'.cell? ⟨g3, 44, none⟩ = some ram' := at_L (blk_below HB3.out HI.out) H.out.r' H.out.f' 0 rfl
        go_simp
        exact HKK.out _ _ HI.out (Below.refl _ _) (show _ = _ by rw [hx]; rfl)
    · cases hi
      have e10 : b.tmps.getD 10 undef = (.bool x0) := HPRE.out 5 (by kernel_rfl) (by omega)
      have e12 : b.tmps.getD 12 undef = (bif x0 then ram else undef) := HPRE.out 7 (by kernel_rfl) (by omega)
      have e14 : b.tmps.getD 14 undef = (bif x0 then ram' else undef) := HPRE.out 9 (by kernel_rfl) (by omega)
      rcases hx : x0 with _ | _
      · rw [hx] at e10
        rw [if_neg (wanted_no rfl rfl rfl e10 (by decide))]
        exact HKK.out undef _ HI.out (Below.refl _ _) (show undef = _ by rw [hx]; rfl)
      · rw [hx] at e10
        rw [hx] at e12
        rw [hx] at e14
        replace e12 : b.tmps.getD 12 undef = ram := e12
        replace e14 : b.tmps.getD 14 undef = ram' := e14
        rw [if_pos (wanted_yes rfl rfl rfl e10)]
        go_simp
        refine (H.out.h1 _ (BW.out.trans (HI.out.mono BW.out.size)) hx).mono ?_
        rintro e W2 ⟨rfl, d⟩
        exact HKK.out _ _ (below_on HI.out d) d (show _ = _ by rw [hx]; rfl)
    · cases hi
      have e10 : b.tmps.getD 10 undef = (.bool x0) := HPRE.out 5 (by kernel_rfl) (by omega)
      have e15 : b.tmps.getD 15 undef = (bif x0 then .bool x1 else undef) := HPRE.out 10 (by kernel_rfl) (by omega)
      have hq : b.tmps.getD 15 undef = (bif x0 then .bool x1 else undef) := e15
      rw [if_pos (by rfl)]
      rcases hx : x0 with _ | _
      · rw [hx] at e10 hq
        go_simp
        exact HKK.out _ _ HI.out (Below.refl _ _) (show _ = Value.bool (x0 && x1) by rw [hx]; rfl)
      · rw [hx] at e10 hq
        replace hq : b.tmps.getD 15 undef = .bool x1 := hq
        go_simp
        exact HKK.out _ _ HI.out (Below.refl _ _) (show _ = Value.bool (x0 && x1) by rw [hx]; rfl)
    · cases hi
      have e16 : b.tmps.getD 16 undef = (.bool (x0 && x1)) := HPRE.out 11 (by kernel_rfl) (by omega)
      rw [if_pos (by rfl)]
      go_simp
      exact HKK.out _ _ HI.out (Below.refl _ _) (by first | rfl | (simp; done))
    · cases hi
      have e17 : b.tmps.getD 17 undef = (.bool (x0 && x1)) := HPRE.out 12 (by kernel_rfl) (by omega)
      have e2 : b.tmps.getD 2 undef = .pointer (some ⟨g2, 0, none⟩) := HKEEP.out 2 (by kernel_rfl)
      rcases hx : (x0 && x1) with _ | _
      · rw [hx] at e17
        rw [if_neg (wanted_no rfl rfl rfl e17 (by decide))]
        exact HKK.out undef _ HI.out (Below.refl _ _) (show undef = _ by rw [hx]; rfl)
      · rw [hx] at e17
        rw [if_pos (wanted_yes rfl rfl rfl e17)]
        go_simp
        exact HKK.out _ _ HI.out (Below.refl _ _) (show _ = _ by rw [hx]; rfl)
    · cases hi
      have e17 : b.tmps.getD 17 undef = (.bool (x0 && x1)) := HPRE.out 12 (by kernel_rfl) (by omega)
      have e18 : b.tmps.getD 18 undef = (bif (x0 && x1) then .pointer (some ⟨g2, 45, none⟩) else undef) := HPRE.out 13 (by kernel_rfl) (by omega)
      rcases hx : (x0 && x1) with _ | _
      · rw [hx] at e17
        rw [if_neg (wanted_no rfl rfl rfl e17 (by decide))]
        exact HKK.out undef _ HI.out (Below.refl _ _) (show undef = _ by rw [hx]; rfl)
      · rw [hx] at e17
        rw [hx] at e18
        replace e18 : b.tmps.getD 18 undef = .pointer (some ⟨g2, 45, none⟩) := e18
        rw [if_pos (wanted_yes rfl rfl rfl e17)]
        have hc : W'.cell? ⟨g2, 45, none⟩ = some rx := at_L (blk_below HB2.out HI.out) H.out.r H.out.f 1 rfl
        go_simp
        exact HKK.out _ _ HI.out (Below.refl _ _) (show _ = _ by rw [hx]; rfl)
    · cases hi
      have e17 : b.tmps.getD 17 undef = (.bool (x0 && x1)) := HPRE.out 12 (by kernel_rfl) (by omega)
      have e3 : b.tmps.getD 3 undef = .pointer (some ⟨g3, 0, none⟩) := HKEEP.out 3 (by kernel_rfl)
      rcases hx : (x0 && x1) with _ | _
      · rw [hx] at e17
        rw [if_neg (wanted_no rfl rfl rfl e17 (by decide))]
        exact HKK.out undef _ HI.out (Below.refl _ _) (show undef = _ by rw [hx]; rfl)
      · rw [hx] at e17
        rw [if_pos (wanted_yes rfl rfl rfl e17)]
        go_simp
        exact HKK.out _ _ HI.out (Below.refl _ _) (show _ = _ by rw [hx]; rfl)
    · cases hi
      have e17 : b.tmps.getD 17 undef = (.bool (x0 && x1)) := HPRE.out 12 (by kernel_rfl) (by omega)
      have e20 : b.tmps.getD 20 undef = (bif (x0 && x1) then .pointer (some ⟨g3, 45, none⟩) else undef) := HPRE.out 15 (by kernel_rfl) (by omega)
      rcases hx : (x0 && x1) with _ | _
      · rw [hx] at e17
        rw [if_neg (wanted_no rfl rfl rfl e17 (by decide))]
        exact HKK.out undef _ HI.out (Below.refl _ _) (show undef = _ by rw [hx]; rfl)
      · rw [hx] at e17
        rw [hx] at e20
        replace e20 : b.tmps.getD 20 undef = .pointer (some ⟨g3, 45, none⟩) := e20
        rw [if_pos (wanted_yes rfl rfl rfl e17)]
        have hc : W'.cell? ⟨g3, 45, none⟩ = some rx' := at_L (blk_below HB3.out HI.out) H.out.r' H.out.f' 1 rfl
        go_simp
        exact HKK.out _ _ HI.out (Below.refl _ _) (show _ = _ by rw [hx]; rfl)
    · cases hi
      have e17 : b.tmps.getD 17 undef = (.bool (x0 && x1)) := HPRE.out 12 (by kernel_rfl) (by omega)
      have e19 : b.tmps.getD 19 undef = (bif (x0 && x1) then rx else undef) := HPRE.out 14 (by kernel_rfl) (by omega)
      have e21 : b.tmps.getD 21 undef = (bif (x0 && x1) then rx' else undef) := HPRE.out 16 (by kernel_rfl) (by omega)
      rcases hx : (x0 && x1) with _ | _
      · rw [hx] at e17
        rw [if_neg (wanted_no rfl rfl rfl e17 (by decide))]
        exact HKK.out undef _ HI.out (Below.refl _ _) (show undef = _ by rw [hx]; rfl)
      · rw [hx] at e17
        rw [hx] at e19
        rw [hx] at e21
        replace e19 : b.tmps.getD 19 undef = rx := e19
        replace e21 : b.tmps.getD 21 undef = rx' := e21
        rw [if_pos (wanted_yes rfl rfl rfl e17)]
        go_simp
        refine (H.out.h2 _ (BW.out.trans (HI.out.mono BW.out.size)) hx).mono ?_
        rintro e W2 ⟨rfl, d⟩
        exact HKK.out _ _ (below_on HI.out d) d (show _ = _ by rw [hx]; rfl)
    · cases hi
      have e17 : b.tmps.getD 17 undef = (.bool (x0 && x1)) := HPRE.out 12 (by kernel_rfl) (by omega)
      have e22 : b.tmps.getD 22 undef = (bif (x0 && x1) then .bool x2 else undef) := HPRE.out 17 (by kernel_rfl) (by omega)
      have hq : b.tmps.getD 22 undef = (bif (x0 && x1) then .bool x2 else undef) := e22
      rw [if_pos (by rfl)]
      rcases hx : (x0 && x1) with _ | _
      · rw [hx] at e17 hq
        go_simp
        exact HKK.out _ _ HI.out (Below.refl _ _) (show _ = Value.bool ((x0 && x1) && x2) by rw [hx]; rfl)
      · rw [hx] at e17 hq
        replace hq : b.tmps.getD 22 undef = .bool x2 := hq
        go_simp
        exact HKK.out _ _ HI.out (Below.refl _ _) (show _ = Value.bool ((x0 && x1) && x2) by rw [hx]; rfl)
    · cases hi
      have e23 : b.tmps.getD 23 undef = (.bool (x0 && x1 && x2)) := HPRE.out 18 (by kernel_rfl) (by omega)
      rw [if_pos (by rfl)]
      go_simp
      exact HKK.out _ _ HI.out (Below.refl _ _) (by first | rfl | (simp; done))
    · cases hi
      have e24 : b.tmps.getD 24 undef = (.bool (x0 && x1 && x2)) := HPRE.out 19 (by kernel_rfl) (by omega)
      have e2 : b.tmps.getD 2 undef = .pointer (some ⟨g2, 0, none⟩) := HKEEP.out 2 (by kernel_rfl)
      rcases hx : (x0 && x1 && x2) with _ | _
      · rw [hx] at e24
        rw [if_neg (wanted_no rfl rfl rfl e24 (by decide))]
        exact HKK.out undef _ HI.out (Below.refl _ _) (show undef = _ by rw [hx]; rfl)
      · rw [hx] at e24
        rw [if_pos (wanted_yes rfl rfl rfl e24)]
        go_simp
        exact HKK.out _ _ HI.out (Below.refl _ _) (show _ = _ by rw [hx]; rfl)
    · cases hi
      have e24 : b.tmps.getD 24 undef = (.bool (x0 && x1 && x2)) := HPRE.out 19 (by kernel_rfl) (by omega)
      have e25 : b.tmps.getD 25 undef = (bif (x0 && x1 && x2) then .pointer (some ⟨g2, 46, none⟩) else undef) := HPRE.out 20 (by kernel_rfl) (by omega)
      rcases hx : (x0 && x1 && x2) with _ | _
      · rw [hx] at e24
        rw [if_neg (wanted_no rfl rfl rfl e24 (by decide))]
        exact HKK.out undef _ HI.out (Below.refl _ _) (show undef = _ by rw [hx]; rfl)
      · rw [hx] at e24
        rw [hx] at e25
        replace e25 : b.tmps.getD 25 undef = .pointer (some ⟨g2, 46, none⟩) := e25
        rw [if_pos (wanted_yes rfl rfl rfl e24)]
        have hc : W'.cell? ⟨g2, 46, none⟩ = some ox := at_L (blk_below HB2.out HI.out) H.out.r H.out.f 2 rfl
        go_simp
        exact HKK.out _ _ HI.out (Below.refl _ _) (show _ = _ by rw [hx]; rfl)
    · cases hi
      have e24 : b.tmps.getD 24 undef = (.bool (x0 && x1 && x2)) := HPRE.out 19 (by kernel_rfl) (by omega)
      have e3 : b.tmps.getD 3 undef = .pointer (some ⟨g3, 0, none⟩) := HKEEP.out 3 (by kernel_rfl)
      rcases hx : (x0 && x1 && x2) with _ | _
      · rw [hx] at e24
        rw [if_neg (wanted_no rfl rfl rfl e24 (by decide))]
        exact HKK.out undef _ HI.out (Below.refl _ _) (show undef = _ by rw [hx]; rfl)
      · rw [hx] at e24
        rw [if_pos (wanted_yes rfl rfl rfl e24)]
        go_simp
        exact HKK.out _ _ HI.out (Below.refl _ _) (show _ = _ by rw [hx]; rfl)
    · cases hi
      have e24 : b.tmps.getD 24 undef = (.bool (x0 && x1 && x2)) := HPRE.out 19 (by kernel_rfl) (by omega)
      have e27 : b.tmps.getD 27 undef = (bif (x0 && x1 && x2) then .pointer (some ⟨g3, 46, none⟩) else undef) := HPRE.out 22 (by kernel_rfl) (by omega)
      rcases hx : (x0 && x1 && x2) with _ | _
      · rw [hx] at e24
        rw [if_neg (wanted_no rfl rfl rfl e24 (by decide))]
        exact HKK.out undef _ HI.out (Below.refl _ _) (show undef = _ by rw [hx]; rfl)
      · rw [hx] at e24
        rw [hx] at e27
        replace e27 : b.tmps.getD 27 undef = .pointer (some ⟨g3, 46, none⟩) := e27
        rw [if_pos (wanted_yes rfl rfl rfl e24)]
        have hc : W'.cell? ⟨g3, 46, none⟩ = some ox' := at_L (blk_below HB3.out HI.out) H.out.r' H.out.f' 2 rfl
        go_simp
        exact HKK.out _ _ HI.out (Below.refl _ _) (show _ = _ by rw [hx]; rfl)
    · cases hi
      have e24 : b.tmps.getD 24 undef = (.bool (x0 && x1 && x2)) := HPRE.out 19 (by kernel_rfl) (by omega)
      have e26 : b.tmps.getD 26 undef = (bif (x0 && x1 && x2) then ox else undef) := HPRE.out 21 (by kernel_rfl) (by omega)
      have e28 : b.tmps.getD 28 undef = (bif (x0 && x1 && x2) then ox' else undef) := HPRE.out 23 (by kernel_rfl) (by omega)
      rcases hx : (x0 && x1 && x2) with _ | _
      · rw [hx] at e24
        rw [if_neg (wanted_no rfl rfl rfl e24 (by decide))]
        exact HKK.out undef _ HI.out (Below.refl _ _) (show undef = _ by rw [hx]; rfl)
      · rw [hx] at e24
        rw [hx] at e26
        rw [hx] at e28
        replace e26 : b.tmps.getD 26 undef = ox := e26
        replace e28 : b.tmps.getD 28 undef = ox' := e28
        rw [if_pos (wanted_yes rfl rfl rfl e24)]
        go_simp
        refine (H.out.h3 _ (BW.out.trans (HI.out.mono BW.out.size)) hx).mono ?_
        rintro e W2 ⟨rfl, d⟩
        exact HKK.out _ _ (below_on HI.out d) d (show _ = _ by rw [hx]; rfl)
    · cases hi
      have e24 : b.tmps.getD 24 undef = (.bool (x0 && x1 && x2)) := HPRE.out 19 (by kernel_rfl) (by omega)
      have e29 : b.tmps.getD 29 undef = (bif (x0 && x1 && x2) then .bool x3 else undef) := HPRE.out 24 (by kernel_rfl) (by omega)
      have hq : b.tmps.getD 29 undef = (bif (x0 && x1 && x2) then .bool x3 else undef) := e29
      rw [if_pos (by rfl)]
      rcases hx : (x0 && x1 && x2) with _ | _
      · rw [hx] at e24 hq
        go_simp
        exact HKK.out _ _ HI.out (Below.refl _ _) (show _ = Value.bool ((x0 && x1 && x2) && x3) by rw [hx]; rfl)
      · rw [hx] at e24 hq
        replace hq : b.tmps.getD 29 undef = .bool x3 := hq
        go_simp
        exact HKK.out _ _ HI.out (Below.refl _ _) (show _ = Value.bool ((x0 && x1 && x2) && x3) by rw [hx]; rfl)
    · cases hi
      have e30 : b.tmps.getD 30 undef = (.bool (x0 && x1 && x2 && x3)) := HPRE.out 25 (by kernel_rfl) (by omega)
      rw [if_pos (by rfl)]
      go_simp
      exact HKK.out _ _ HI.out (Below.refl _ _) (by first | rfl | (simp; done))
    · cases hi
      have e31 : b.tmps.getD 31 undef = (.bool (x0 && x1 && x2 && x3)) := HPRE.out 26 (by kernel_rfl) (by omega)
      have e2 : b.tmps.getD 2 undef = .pointer (some ⟨g2, 0, none⟩) := HKEEP.out 2 (by kernel_rfl)
      rcases hx : (x0 && x1 && x2 && x3) with _ | _
      · rw [hx] at e31
        rw [if_neg (wanted_no rfl rfl rfl e31 (by decide))]
        exact HKK.out undef _ HI.out (Below.refl _ _) (show undef = _ by rw [hx]; rfl)
      · rw [hx] at e31
        rw [if_pos (wanted_yes rfl rfl rfl e31)]
        go_simp
        exact HKK.out _ _ HI.out (Below.refl _ _) (show _ = _ by rw [hx]; rfl)
    · cases hi
      have e31 : b.tmps.getD 31 undef = (.bool (x0 && x1 && x2 && x3)) := HPRE.out 26 (by kernel_rfl) (by omega)
      have e32 : b.tmps.getD 32 undef = (bif (x0 && x1 && x2 && x3) then .pointer (some ⟨g2, 54, none⟩) else undef) := HPRE.out 27 (by kernel_rfl) (by omega)
      rcases hx : (x0 && x1 && x2 && x3) with _ | _
      · rw [hx] at e31
        rw [if_neg (wanted_no rfl rfl rfl e31 (by decide))]
        exact HKK.out undef _ HI.out (Below.refl _ _) (show undef = _ by rw [hx]; rfl)
      · rw [hx] at e31
        rw [hx] at e32
        replace e32 : b.tmps.getD 32 undef = .pointer (some ⟨g2, 54, none⟩) := e32
        rw [if_pos (wanted_yes rfl rfl rfl e31)]
        have hc : W'.cell? ⟨g2, 54, none⟩ = some ev := at_L (blk_below HB2.out HI.out) H.out.r H.out.f 10 rfl
        go_simp
        exact HKK.out _ _ HI.out (Below.refl _ _) (show _ = _ by rw [hx]; rfl)
    · cases hi
      have e31 : b.tmps.getD 31 undef = (.bool (x0 && x1 && x2 && x3)) := HPRE.out 26 (by kernel_rfl) (by omega)
      have e3 : b.tmps.getD 3 undef = .pointer (some ⟨g3, 0, none⟩) := HKEEP.out 3 (by kernel_rfl)
      rcases hx : (x0 && x1 && x2 && x3) with _ | _
      · rw [hx] at e31
        rw [if_neg (wanted_no rfl rfl rfl e31 (by decide))]
        exact HKK.out undef _ HI.out (Below.refl _ _) (show undef = _ by rw [hx]; rfl)
      · rw [hx] at e31
        rw [if_pos (wanted_yes rfl rfl rfl e31)]
        go_simp
        exact HKK.out _ _ HI.out (Below.refl _ _) (show _ = _ by rw [hx]; rfl)
    · cases hi
      have e31 : b.tmps.getD 31 undef = (.bool (x0 && x1 && x2 && x3)) := HPRE.out 26 (by kernel_rfl) (by omega)
      have e34 : b.tmps.getD 34 undef = (bif (x0 && x1 && x2 && x3) then .pointer (some ⟨g3, 54, none⟩) else undef) := HPRE.out 29 (by kernel_rfl) (by omega)
      rcases hx : (x0 && x1 && x2 && x3) with _ | _
      · rw [hx] at e31
        rw [if_neg (wanted_no rfl rfl rfl e31 (by decide))]
        exact HKK.out undef _ HI.out (Below.refl _ _) (show undef = _ by rw [hx]; rfl)
      · rw [hx] at e31
        rw [hx] at e34
        replace e34 : b.tmps.getD 34 undef = .pointer (some ⟨g3, 54, none⟩) := e34
        rw [if_pos (wanted_yes rfl rfl rfl e31)]
        have hc : W'.cell? ⟨g3, 54, none⟩ = some ev' := at_L (blk_below HB3.out HI.out) H.out.r' H.out.f' 10 rfl
        go_simp
        exact HKK.out _ _ HI.out (Below.refl _ _) (show _ = _ by rw [hx]; rfl)
    · cases hi
      have e31 : b.tmps.getD 31 undef = (.bool (x0 && x1 && x2 && x3)) := HPRE.out 26 (by kernel_rfl) (by omega)
      have e33 : b.tmps.getD 33 undef = (bif (x0 && x1 && x2 && x3) then ev else undef) := HPRE.out 28 (by kernel_rfl) (by omega)
      have e35 : b.tmps.getD 35 undef = (bif (x0 && x1 && x2 && x3) then ev' else undef) := HPRE.out 30 (by kernel_rfl) (by omega)
      rcases hx : (x0 && x1 && x2 && x3) with _ | _
      · rw [hx] at e31
        rw [if_neg (wanted_no rfl rfl rfl e31 (by decide))]
        exact HKK.out undef _ HI.out (Below.refl _ _) (show undef = _ by rw [hx]; rfl)
      · rw [hx] at e31
        rw [hx] at e33
        rw [hx] at e35
        replace e33 : b.tmps.getD 33 undef = ev := e33
        replace e35 : b.tmps.getD 35 undef = ev' := e35
        rw [if_pos (wanted_yes rfl rfl rfl e31)]
        go_simp
        refine (H.out.h4 _ (BW.out.trans (HI.out.mono BW.out.size)) hx).mono ?_
        rintro e W2 ⟨rfl, d⟩
        exact HKK.out _ _ (below_on HI.out d) d (show _ = _ by rw [hx]; rfl)
    · cases hi
      have e31 : b.tmps.getD 31 undef = (.bool (x0 && x1 && x2 && x3)) := HPRE.out 26 (by kernel_rfl) (by omega)
      have e36 : b.tmps.getD 36 undef = (bif (x0 && x1 && x2 && x3) then .bool x4 else undef) := HPRE.out 31 (by kernel_rfl) (by omega)
      have hq : b.tmps.getD 36 undef = (bif (x0 && x1 && x2 && x3) then .bool x4 else undef) := e36
      rw [if_pos (by rfl)]
      rcases hx : (x0 && x1 && x2 && x3) with _ | _
      · rw [hx] at e31 hq
        go_simp
        exact HKK.out _ _ HI.out (Below.refl _ _) (show _ = Value.bool ((x0 && x1 && x2 && x3) && x4) by rw [hx]; rfl)
      · rw [hx] at e31 hq
        replace hq : b.tmps.getD 36 undef = .bool x4 := hq
        go_simp
        exact HKK.out _ _ HI.out (Below.refl _ _) (show _ = Value.bool ((x0 && x1 && x2 && x3) && x4) by rw [hx]; rfl)
  case fin =>
    intro b W' hinv hsz hdef hkeep hpost
    have e37 : b.tmps.getD 37 undef = .bool (x0 && x1 && x2 && x3 && x4) := hpost 32 (by omega)
    refine rj_lastv (by kernel_rfl) rfl (by kernel_rfl) rfl (by kernel_rfl) ?_
    obtain ⟨sl, hlit, hsl⟩ := act_let b 38 hsz
    rw [hdef] at hlit
    rw [← hsl] at e37
    simp only [show List.range 38 = [0, 1, 2, 3, 4, 5, 6, 7, 8, 9, 10, 11, 12, 13, 14, 15, 16, 17, 18, 19, 20, 21, 22, 23, 24, 25, 26, 27, 28, 29, 30, 31, 32, 33, 34, 35, 36, 37] from rfl, List.map_cons, List.map_nil, e37] at hlit
    rw [hlit]
    clear hkeep hsz hdef hpost hsl hlit e37
    have BF := Aside0.mk (BW.out.trans (hinv.mono BW.out.size))
    clear hinv
    go_simp
    go_wp2
    go_ret
    exact ⟨rfl, BF.out⟩
end Go.Proofs.Ytfnbpmkbjbibkaa
