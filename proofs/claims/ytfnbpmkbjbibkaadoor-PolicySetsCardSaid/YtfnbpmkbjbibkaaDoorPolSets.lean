/- The statement PolicySets. -/
import Derived.Test.YtfnbpmkbjbibkaaDoorPolAwake
import Derived.Test.YtfnbpmkbjbibkaaDoorQPolicySetsx
import Derived.Test.YtfnbpmkbjbibkaaDoorOpens
import Derived.Test.YtfnbpmkbjbibkaaDoorOpensRows
import Derived.Deep.RegionHeld3
import Derived.Deep.RegionWith
namespace Go.Proofs.YtfnbpmkbjbibkaaDoor
open Go Go.RowKit Go.Deep Go.Proofs.YtfnbpmkbjbibkaaDoor.QPolicySets Go.Proofs.YtfnbpmkbjbibkaaDoorW.PrintWords
set_option linter.unusedVariables false
set_option linter.unusedSimpArgs false

/-- Is it a choice? The document's answer is the program's. -/
theorem right_same (k a : Int) : ∃ b, policy_Right.f 20 k a = some b ∧ mimesisref37_Right.f k a = some b ∧ (b = true → 1 ≤ k ∧ k ≤ 9) := by
  by_cases h : 1 ≤ k ∧ k ≤ 9
  · have hk : k = 1 ∨ k = 2 ∨ k = 3 ∨ k = 4 ∨ k = 5 ∨ k = 6 ∨ k = 7 ∨ k = 8 ∨ k = 9 := by omega
    have e : policy_Right.f 20 k a = mimesisref37_Right.f k a := by
      rcases hk with rfl | rfl | rfl | rfl | rfl | rfl | rfl | rfl | rfl <;> rfl
    have ex : ∃ lo hi, policy_span.f 20 k = some (lo, hi) := by
      rcases hk with rfl | rfl | rfl | rfl | rfl | rfl | rfl | rfl | rfl <;> exact ⟨_, _, rfl⟩
    obtain ⟨lo, hi, hs⟩ := ex
    have hb : ∃ b, policy_Right.f 20 k a = some b := by
      unfold policy_Right.f
      rw [hs, Option.bind_some]
      by_cases h2 : a ≥ lo
      · exact ⟨_, if_pos h2⟩
      · exact ⟨_, if_neg h2⟩
    obtain ⟨b, hb⟩ := hb
    exact ⟨b, hb, e ▸ hb, fun _ => h⟩
  · refine ⟨false, ?_, ?_, by simp⟩
    · have hs : policy_span.f 20 k = some (1, 0) := by
        unfold policy_span.f
        rw [if_neg (by omega), beq_eq_false_iff_ne.2 (by omega : k ≠ 6)]
        show policy_span.j0 20 k false = _
        have : policy_span.j0 20 k false = (if k = 2 then (some (1, 255)) else (if k = 3 then (some (0, 63)) else (if k = 4 then (some (0, 0)) else (if k = 5 then (some (0, 1000)) else (if k = 7 then (some (0, 15)) else (if k = 8 then (some (0, 1)) else (if k = 9 then (some (1, 1000)) else (some (1, 0)))))))) : Option (Int × Int)) := rfl
        rw [this, if_neg (by omega), if_neg (by omega), if_neg (by omega), if_neg (by omega), if_neg (by omega), if_neg (by omega), if_neg (by omega)]
      unfold policy_Right.f
      rw [hs, Option.bind_some]
      by_cases h2 : a ≥ 1
      · rw [if_pos h2]; simp; omega
      · rw [if_neg h2]
    · unfold mimesisref37_Right.f
      by_cases h1 : k < 1
      · rw [if_pos h1]
      · rw [if_neg h1, if_pos (by omega)]
theorem with_same (h l p : Int) (c : Bool) (st k a : Int) : ∃ r, policy_Set_With.f 20 h l p c st k a = some r ∧ mimesisref37_With.f 20 h l p c st k a = some r := by
  obtain ⟨b, h1, h2, h3⟩ := right_same k a
  unfold policy_Set_With.f mimesisref37_With.f
  rw [h1, h2, Option.bind_some, Option.bind_some]
  cases b
  · exact ⟨_, rfl, rfl⟩
  · have hk : k = 1 ∨ k = 2 ∨ k = 3 ∨ k = 4 ∨ k = 5 ∨ k = 6 ∨ k = 7 ∨ k = 8 ∨ k = 9 := by have := h3 rfl; omega
    rcases hk with rfl | rfl | rfl | rfl | rfl | rfl | rfl | rfl | rfl <;> exact ⟨_, rfl, rfl⟩

/-- Block B is a box of what is set, of type t. -/
def Box5 (w : World) (t : TypeId) (B : Nat) (h l p : Int) (c : Bool) (st : Int) : Prop := w.heap[B]? = some (.cells #[.int .u32 h, .int .i64 l, .int .i64 p, .bool c, .int .i64 st] t (0, 0))
theorem Box5.cells {w : World} {t : TypeId} {B : Nat} {h l p : Int} {c : Bool} {st : Int} (b : Box5 w t B h l p c st) : w.cell? ⟨B, 0, none⟩ = some (.int .u32 h) ∧ w.cell? ⟨B, 1, none⟩ = some (.int .i64 l) ∧ w.cell? ⟨B, 2, none⟩ = some (.int .i64 p) ∧ w.cell? ⟨B, 3, none⟩ = some (.bool c) ∧ w.cell? ⟨B, 4, none⟩ = some (.int .i64 st) :=
  ⟨(blk_cell b 0).trans rfl, (blk_cell b 1).trans rfl, (blk_cell b 2).trans rfl, (blk_cell b 3).trans rfl, (blk_cell b 4).trans rfl⟩
theorem Box5.set {w : World} {t : TypeId} {B : Nat} {h l p : Int} {c : Bool} {st : Int} (b : Box5 w t B h l p c st) (h' l' p' : Int) (c' : Bool) (st' : Int) : ∀ wn, wn = ((((w.setCell ⟨B, 0, none⟩ (.int .u32 h')).setCell ⟨B, 1, none⟩ (.int .i64 l')).setCell ⟨B, 2, none⟩ (.int .i64 p')).setCell ⟨B, 3, none⟩ (.bool c')).setCell ⟨B, 4, none⟩ (.int .i64 st') → Box5 wn t B h' l' p' c' st' ∧ Only B w wn := by
  rintro wn rfl
  exact ⟨blk_set (blk_set (blk_set (blk_set (blk_set b 0 _) 1 _) 2 _) 3 _) 4 _, (((((Only.refl B w).setCell 0 _).setCell 1 _).setCell 2 _).setCell 3 _).setCell 4 _⟩

theorem bel5 {W w : World} {S : Nat} (hb : Below W.heap.size W w) (hS : W.heap.size = S) (a b c d e : Value) : Below W.heap.size W (((((w.setCell ⟨S, 0, none⟩ a).setCell ⟨S, 1, none⟩ b).setCell ⟨S, 2, none⟩ c).setCell ⟨S, 3, none⟩ d).setCell ⟨S, 4, none⟩ e) :=
  Only.below ((((((Only.refl S w).setCell 0 a).setCell 1 b).setCell 2 c).setCell 3 d).setCell 4 e) (Nat.le_of_eq hS) hb
set_option maxRecDepth 100000 in
set_option maxHeartbeats 4000000 in
theorem pol_sets (h0 l0 p0 : Int) (c0 : Bool) (st0 : Int) (A : Option Addr) (n cap : Nat) (f : Nat → Nat → Int) (W : World) (_w0 : (Lit.int .u32 h0).wf = true) (_w1 : (Lit.int .i64 l0).wf = true) (_w2 : (Lit.int .i64 p0).wf = true) (_w3 : (Lit.int .i64 st0).wf = true) (hf : IsRows [.i64, .i64] W A n cap f) (hw : Words W) :
    Calls Tryd.prog 9 #[.agg #[.int .u32 h0, .int .i64 l0, .int .i64 p0, .bool c0, .int .i64 st0], .slice A n cap] W fun e w' => e = .returned (.bool true) ∧ Below W.heap.size W w' := by
  have HW := Aside0.mk hw
  have HF := Aside0.mk hf
  have hcap := hf.le
  clear hw hf
  by_cases hn : 600 < n
  · have hn' : ((600 : Int) < (n : Int)) = True := by simp; omega
    have HA := Aside0.mk (fun o => pol_awake_calls (W.alloc o) (HW.out.below (below_alloc (Below.refl _ _) o)))
    have HB := Aside0.mk (fun o => below_alloc (Below.refl W.heap.size W) o)
    go_enter Tryd.func9, Tryd.ntmps9
    go_wp2_with fail
    refine (HA.out _).mono ?_
    rintro e w1 ⟨rfl, b1⟩
    have B1 := Aside0.mk (below_on (HB.out _) b1)
    clear b1
    go_wp2_with fail
    go_ret
    exact ⟨rfl, B1.out⟩
  · have hn' : ((600 : Int) < (n : Int)) = False := by simp; omega
    go_enter Tryd.func9, Tryd.ntmps9
    go_upto_region 4 with fail
    have K := fun w1 (e : w1 = (W.alloc (.cells #[.int .u32 h0, .int .i64 l0, .int .i64 p0, .bool c0, .int .i64 st0] 62)).alloc (.cells #[.int .u32 h0, .int .i64 l0, .int .i64 p0, .bool c0, .int .i64 st0] 63)) => (by
      subst e
      have h2 := blk_new (W.alloc (.cells #[.int .u32 h0, .int .i64 l0, .int .i64 p0, .bool c0, .int .i64 st0] 62)) (.cells #[.int .u32 h0, .int .i64 l0, .int .i64 p0, .bool c0, .int .i64 st0] 63)
      rw [World.size_alloc] at h2
      exact ⟨blk_below (blk_new W _) (below_alloc (Below.refl _ _) _), h2, below_alloc (below_alloc (Below.refl _ _) _) _⟩ : Box5 w1 62 W.heap.size h0 l0 p0 c0 st0 ∧ Box5 w1 63 (W.heap.size + 1) h0 l0 p0 c0 st0 ∧ Below W.heap.size W w1)
    generalize hW1 : World.alloc (World.alloc W _) _ = w1
    obtain ⟨k1, k2, k3⟩ := K w1 hW1.symm
    have K1 := Aside0.mk k1
    have K2 := Aside0.mk k2
    have B1 := Aside0.mk k3
    obtain ⟨S, hS⟩ : ∃ S, W.heap.size = S := ⟨_, rfl⟩
    obtain ⟨T, hT⟩ : ∃ T, W.heap.size + 1 = T := ⟨_, rfl⟩
    rw [hT] at K2
    rw [hS] at K1
    rw [hT, hS]
    have HST := Aside0.mk (And.intro hS hT)
    clear K k1 k2 k3 hW1 hS hT
    go_wp2_with fail
    go_loopg [6] (n + 1) (fun g i wr => ∃ (k : Nat) (h l p : Int) (c : Bool) (st : Int), g + k = n + 1 ∧ k ≤ n ∧ i = .int .i64 (k : Int) ∧ Aside0 (Box5 wr 62 S h l p c st) ∧ Aside0 (Box5 wr 63 T h l p c st) ∧ Aside0 (Below W.heap.size W wr))
    case atStart => exact ⟨0, h0, l0, p0, c0, st0, rfl, by omega, rfl, K1, K2, B1⟩
    case round =>
      obtain ⟨k, h, l, p, c, st, hk, hkn, rfl, hS, hT, hB⟩ := hrel
      obtain ⟨wo, rfl⟩ : ∃ wo : World, wo = wr := ⟨_, rfl⟩
      clear K1 K2 B1
      by_cases hlt : k < n
      · have hlt' : ((k : Int) < (n : Int)) = True := by simp; omega
        obtain ⟨y, hy, hc⟩ := HF.out.at_ hlt
        subst hy
        have HY : Aside0 ((y.add (k * 2)).block < W.heap.size) := ⟨World.block_lt_of_cell? W (y.add (k * 2)) (hc 0 .i64 rfl).1⟩
        have ROW : Aside0 (∀ w', Below W.heap.size W w' → w'.cell? (y.add (k * 2)) = some (.int .i64 (f k 0)) ∧ w'.cell? ⟨(y.add (k * 2)).block, (y.add (k * 2)).off + 1, none⟩ = some (.int .i64 (f k 1))) := ⟨fun w' hb => ⟨pw_cell_below hb (hc 0 .i64 rfl).1, by rw [← add_field _ _ 1 (by omega)]; exact pw_cell_below hb (hc 1 .i64 rfl).1⟩⟩
        clear hc
        obtain ⟨kd, hkd⟩ : ∃ kd, f k 0 = kd := ⟨_, rfl⟩
        obtain ⟨ar, har⟩ : ∃ ar, f k 1 = ar := ⟨_, rfl⟩
        rw [hkd, har] at ROW
        clear hkd har
        obtain ⟨⟨h', l', p', c', st'⟩, hw1, hw2⟩ := with_same h l p c st kd ar
        obtain ⟨b, hr1, hr2, _⟩ := right_same kd ar
        have HW1 := Aside0.mk (fun w' => policy_Set_With.calls 20 h l p c st kd ar h' l' p' c' st' w' hw1)
        have HW2 := Aside0.mk (fun w' => mimesisref37_With.calls 20 h l p c st kd ar h' l' p' c' st' w' hw2)
        have HR1 := Aside0.mk (fun w' => policy_Right.calls 20 kd ar b w' hr1)
        have HR2 := Aside0.mk (fun w' => mimesisref37_Right.calls kd ar b w' hr2)
        clear hw1 hw2 hr1 hr2
        go_upto_region 7 with fail
        obtain ⟨q0, q1, q2, q3, q4⟩ := hS.out.cells
        obtain ⟨y0, y1⟩ := ROW.out _ hB.out
        go_region_with (go_at_call 35; (with_reducible refine (HW1.out _).mono ?_); rintro e w2 ⟨rfl, hb⟩; have hbw : Below W.heap.size W w2 := below_on (Below.drew hB.out) hb; have hs2 : Box5 w2 62 S h l p c st := blk_below (w := wo.drew) hS.out hb; have ht2 : Box5 w2 63 T h l p c st := blk_below (w := wo.drew) hT.out hb; obtain ⟨r0, r1, r2, r3, r4⟩ := hs2.cells; have zs := blk_frozen hs2)
        all_goals (
          have hset := hs2.set h' l' p' c' st'
          generalize hw3 : World.setCell (World.setCell (World.setCell (World.setCell (World.setCell w2 _ _) _ _) _ _) _ _) _ _ = w3
          have S3 := Aside0.mk (hset w3 hw3.symm).1
          have T3 := Aside0.mk (show Box5 w3 63 T h l p c st from blk_only ht2 (hset w3 hw3.symm).2 (by have := HST.out; omega))
          have B3 := Aside0.mk (Only.below (hset w3 hw3.symm).2 (Nat.le_of_eq HST.out.1) hbw)
          clear hset hw3 hs2 ht2 hbw hb r0 r1 r2 r3 r4 zs q0 q1 q2 q3 q4 y0 y1 hS hT hB)
        all_goals (
          go_upto_region 8 with fail
          obtain ⟨q0, q1, q2, q3, q4⟩ := T3.out.cells
          obtain ⟨y0, y1⟩ := ROW.out _ B3.out
          go_region_with (go_at_call 36; (with_reducible refine (HW2.out _).mono ?_); rintro e w4 ⟨rfl, hb⟩; have hbw : Below W.heap.size W w4 := below_on (Below.drew B3.out) hb; have hs2 : Box5 w4 62 S h' l' p' c' st' := blk_below (w := w3.drew) S3.out hb; have ht2 : Box5 w4 63 T h l p c st := blk_below (w := w3.drew) T3.out hb; obtain ⟨r0, r1, r2, r3, r4⟩ := ht2.cells; have zs := blk_frozen ht2))
        all_goals (
          have hset := ht2.set h' l' p' c' st'
          generalize hw5 : World.setCell (World.setCell (World.setCell (World.setCell (World.setCell w4 _ _) _ _) _ _) _ _) _ _ = w5
          have T5 := Aside0.mk (hset w5 hw5.symm).1
          have S5 := Aside0.mk (show Box5 w5 62 S h' l' p' c' st' from blk_only hs2 (hset w5 hw5.symm).2 (by have := HST.out; omega))
          have B5 := Aside0.mk (Only.below (hset w5 hw5.symm).2 (by have := HST.out; omega) hbw)
          clear hset hw5 hs2 ht2 hbw hb r0 r1 r2 r3 r4 zs q0 q1 q2 q3 q4 y0 y1 S3 T3 B3)
        all_goals (
          go_upto_region 9 with fail
          have KEEP : Aside0 (∀ w', Below w5.heap.size w5 w' → (w'.cell? ⟨S, 0, none⟩ = some (.int .u32 h') ∧ w'.cell? ⟨S, 1, none⟩ = some (.int .i64 l') ∧ w'.cell? ⟨S, 2, none⟩ = some (.int .i64 p') ∧ w'.cell? ⟨S, 3, none⟩ = some (.bool c') ∧ w'.cell? ⟨S, 4, none⟩ = some (.int .i64 st')) ∧ (w'.cell? ⟨T, 0, none⟩ = some (.int .u32 h') ∧ w'.cell? ⟨T, 1, none⟩ = some (.int .i64 l') ∧ w'.cell? ⟨T, 2, none⟩ = some (.int .i64 p') ∧ w'.cell? ⟨T, 3, none⟩ = some (.bool c') ∧ w'.cell? ⟨T, 4, none⟩ = some (.int .i64 st')) ∧ w'.cell? (y.add (k * 2)) = some (.int .i64 kd) ∧ w'.cell? ⟨(y.add (k * 2)).block, (y.add (k * 2)).off + 1, none⟩ = some (.int .i64 ar) ∧ Below w5.heap.size w5 w') := ⟨fun w' hb => by
            have r := ROW.out _ (below_on B5.out hb)
            exact ⟨Box5.cells (blk_below S5.out hb), Box5.cells (blk_below T5.out hb), r.1, r.2, hb⟩⟩
          go_region_held3 (fun w' => (w'.cell? ⟨S, 0, none⟩ = some (.int .u32 h') ∧ w'.cell? ⟨S, 1, none⟩ = some (.int .i64 l') ∧ w'.cell? ⟨S, 2, none⟩ = some (.int .i64 p') ∧ w'.cell? ⟨S, 3, none⟩ = some (.bool c') ∧ w'.cell? ⟨S, 4, none⟩ = some (.int .i64 st')) ∧ (w'.cell? ⟨T, 0, none⟩ = some (.int .u32 h') ∧ w'.cell? ⟨T, 1, none⟩ = some (.int .i64 l') ∧ w'.cell? ⟨T, 2, none⟩ = some (.int .i64 p') ∧ w'.cell? ⟨T, 3, none⟩ = some (.bool c') ∧ w'.cell? ⟨T, 4, none⟩ = some (.int .i64 st')) ∧ w'.cell? (y.add (k * 2)) = some (.int .i64 kd) ∧ w'.cell? ⟨(y.add (k * 2)).block, (y.add (k * 2)).off + 1, none⟩ = some (.int .i64 ar) ∧ Below w5.heap.size w5 w')
            (first
              | with_reducible exact KEEP.out _ hbw
              | with_reducible exact KEEP.out _ (Below.drew (Below.refl _ _)))
            (first
              | (go_at_call 37; go_split_ands; (with_reducible refine (HR1.out _).mono ?_); rintro e w6 ⟨rfl, hb⟩; have hbw : Below w5.heap.size w5 w6 := below_on (by assumption) hb; clear hb)
              | (go_at_call 38; go_split_ands; (with_reducible refine (HR2.out _).mono ?_); rintro e w6 ⟨rfl, hb⟩; have hbw : Below w5.heap.size w5 w6 := below_on (by assumption) hb; clear hb)))
        all_goals (
          have S6 := Aside0.mk (show Box5 w6 62 S h' l' p' c' st' from blk_below S5.out hbw)
          have T6 := Aside0.mk (show Box5 w6 63 T h' l' p' c' st' from blk_below T5.out hbw)
          have B6 := Aside0.mk (show Below W.heap.size W w6 from below_on B5.out hbw)
          clear hbw S5 T5 B5 KEEP
          go_wp2_with fail
          go_roundg (gk - 1)
          case measure => omega
          case rel => exact ⟨k + 1, h', l', p', c', st', by omega, by omega, by congr 1, S6, T6, B6⟩)
      · have hlt' : ((k : Int) < (n : Int)) = False := by simp; omega
        go_wp2_with fail
        refine (policy_New.calls _ _ _ _ _ _ rfl).mono ?_
        rintro e w2 ⟨rfl, b2⟩
        have B2 := Aside0.mk (below_on hB.out b2)
        clear b2
        go_wp2_with fail
        refine (mimesisref37_New.calls _ _ _ _ _ _ rfl).mono ?_
        rintro e w3 ⟨rfl, b3⟩
        have B3 := Aside0.mk (below_on B2.out b3)
        clear b3
        go_wp2_with fail
        refine (pol_awake_calls _ (HW.out.below B3.out)).mono ?_
        rintro e w4 ⟨rfl, b4⟩
        have B4 := Aside0.mk (below_on B3.out b4)
        clear b4
        go_wp2_with fail
        go_ret
        exact ⟨rfl, B4.out⟩
end Go.Proofs.YtfnbpmkbjbibkaaDoor
