/- The statement that any choices' text is the document's, and is parsed as they are. -/
import Derived.Test.YtfnbpmkbjbibkaaDoorPolReads
import Derived.Test.YtfnbpmkbjbibkaaDoorPolRPrint
namespace Go.Proofs.YtfnbpmkbjbibkaaDoor
open Go Go.RowKit Go.Deep Go.Proofs.YtfnbpmkbjbibkaaDoor.QPolicyPrints Go.Proofs.YtfnbpmkbjbibkaaDoorW.PrintWords Go.Proofs.YtfnbpmkbjbibkaaDoor.PolWord
set_option linter.unusedVariables false
set_option linter.unusedSimpArgs false

theorem drawn_trans0 {w0 : World} (w : World) (m : Nat) (h : Below w0.heap.size w0 w) : Below w0.heap.size w0 (w.drewN m) := drawn_below' h ⟨⟨m, rfl⟩⟩

set_option maxRecDepth 100000 in
set_option maxHeartbeats 2000000 in
theorem pol_prints (A : Option Addr) (n c : Nat) (f : Nat → Nat → Int) (W : World) (hf : IsRows [.i64, .i64] W A n c f) (hw : Words W) : Calls Tryd.prog 10 #[.slice A n c] W fun e w' => e = .returned (.bool true) ∧ Below W.heap.size W w' := by
  have HF := Aside0.mk hf
  have HW := Aside0.mk hw
  have B0 := Aside0.mk (Below.refl W.heap.size W)
  by_cases hn : 512 < n
  · have hn' : ((512 : Int) < (n : Int)) = True := by simp; omega
    clear hw hf
    go_enter Tryd.func10, Tryd.ntmps10
    go_wp2_with fail
    refine (pol_awake_calls _ HW.out).mono ?_
    rintro e w1 ⟨rfl, b1⟩
    have B1 := Aside0.mk b1
    clear b1
    go_wp2_with fail
    go_ret
    exact ⟨rfl, B1.out⟩
  · have hn' : ((512 : Int) < (n : Int)) = False := by simp; omega
    obtain ⟨l, hl⟩ : ∃ l, l = (List.range n).map fun i => (f i 0, f i 1) := ⟨_, rfl⟩
    have hll : l.length = n := by rw [hl]; simp
    have HL := Aside0.mk hl
    have HP := Aside0.mk (print_calls W A n c f l hf hl (by omega) hw)
    have HR := Aside0.mk (fun w0 hb => rprint_calls W A n c f l hf hl (by omega) w0 hb)
    have HT := Aside0.mk (fun w' (hb : Below W.heap.size W w') => parse_txt w' l (by omega) (hw.below hb))
    rw [hll] at HT
    have HLL := Aside0.mk hll
    obtain ⟨t, ht⟩ : ∃ t : ByteArray, (⟨(txtL l).toArray⟩ : ByteArray) = t := ⟨_, rfl⟩
    rw [ht] at HP HR HT
    have hnn : ((n : Int) = (n : Int)) = True := by simp
    clear hw hf hl hll ht
    go_enter Tryd.func10, Tryd.ntmps10
    go_wp2_with fail
    refine HP.out.mono ?_
    rintro e w1 ⟨rfl, b1⟩
    have B1 := Aside0.mk b1
    clear b1 HP
    go_wp2_with fail
    refine (HT.out _ B1.out).mono ?_
    rintro e w2 ⟨A2, c2, rfl, hc2, hC2, b2⟩
    have B2 := Aside0.mk (below_on B1.out b2)
    have HC2 := Aside0.mk hC2
    have HCC := Aside0.mk hc2
    clear b2 HT hC2 hc2 B1
    go_wp2_with fail
    refine (HR.out _ B2.out).mono ?_
    rintro e w3 ⟨rfl, b3⟩
    have B3 := Aside0.mk (below_on B2.out b3)
    have HC3 := Aside0.mk (Kd.C_below HC2.out b3)
    clear b3 HR HC2 B2
    have htt : (t.toList == t.toList) = true := by simp
    go_wp2_with fail
    go_loopg [6] (n + 1) (fun gh i wr => ∃ k : Nat, gh + k = n + 1 ∧ k ≤ n ∧ i = .int .i64 (k : Int) ∧ Aside0 (Below w3.heap.size w3 wr))
    case atStart => exact ⟨0, rfl, by omega, rfl, ⟨Below.refl _ _⟩⟩
    case round =>
      obtain ⟨k, hk, hkn, rfl, hB⟩ := hrel
      obtain ⟨wo, rfl⟩ : ∃ wo : World, wo = wr := ⟨_, rfl⟩
      by_cases hlt : k < n
      · have hlt' : ((k : Int) < (n : Int)) = True := by simp; omega
        obtain ⟨y, hy, hc⟩ := HF.out.at_ hlt
        subst hy
        have hlk : l[k]? = some (f k 0, f k 1) := by rw [HL.out]; simp [hlt]
        have ROW : Aside0 (∀ w', Below w3.heap.size w3 w' → w'.cell? (y.add (k * 2)) = some (.int .i64 (f k 0)) ∧ w'.cell? ⟨(y.add (k * 2)).block, (y.add (k * 2)).off + 1, none⟩ = some (.int .i64 (f k 1))) := ⟨fun w' hb => ⟨pw_cell_below (below_on B3.out hb) (hc 0 .i64 rfl).1, by rw [← add_field _ _ 1 (by omega)]; exact pw_cell_below (below_on B3.out hb) (hc 1 .i64 rfl).1⟩⟩
        clear hc
        obtain ⟨kd, hkd⟩ : ∃ kd, f k 0 = kd := ⟨_, rfl⟩
        obtain ⟨ar, har⟩ : ∃ ar, f k 1 = ar := ⟨_, rfl⟩
        rw [hkd, har] at ROW hlk
        obtain ⟨_, hr1, _⟩ := rt_facts (kd, ar)
        obtain ⟨b, hb⟩ : ∃ b, rt (kd, ar) = b := ⟨_, rfl⟩
        rw [hb] at hr1
        have HR1 := Aside0.mk (fun w' => mimesisref37_Right.calls kd ar _ w' hr1)
        obtain ⟨ad, rfl, e0, e1⟩ := QPolicyParses.at_T66 HC3.out (k : Int) (by omega) (by omega)
        have hrd : QPolicyParses.rd_T66 ((l.map X).map PolPlain.mkS) (k : Int) = PolPlain.mkS (X (kd, ar)) := by
          unfold QPolicyParses.rd_T66
          rw [Int.toNat_natCast, List.getD_eq_getElem?_getD, List.getElem?_map, List.getElem?_map, hlk]; rfl
        rw [hrd, Int.toNat_natCast] at e0 e1
        clear hkd har hlk hr1 hrd
        go_upto_region 11 with fail
        have K4 := Aside0.mk (blk_new wo (.cells #[.int .i64 0, .int .i64 0] 66))
        have B4 := Aside0.mk (below_alloc hB.out (.cells #[.int .i64 0, .int .i64 0] 66))
        generalize hw4 : World.alloc wo _ = w4 at K4 B4 ⊢
        have HTS : Aside0 (w3.heap.size ≤ wo.heap.size) := ⟨hB.out.size⟩
        generalize wo.heap.size = T at K4 HTS ⊢
        clear hB hw4
        obtain ⟨y0, y1⟩ := ROW.out _ B4.out
        go_wp2_with fail
        refine (HR1.out _).mono ?_
        rintro e w5 ⟨rfl, b5⟩
        have B5 := Aside0.mk (below_on B4.out b5)
        have K5 := Aside0.mk (blk_below K4.out b5)
        clear b5 B4 K4 y0 y1
        cases b with
        | false =>
          have hX : X (kd, ar) = (0, 0) := by unfold X; rw [if_neg (by rw [hb]; simp)]
          rw [hX] at e0 e1
          obtain ⟨w6, rfl⟩ : ∃ w6, w5 = w6 := ⟨_, rfl⟩
          clear hX hb
          have T0 : ∀ m, (World.drewN w5 m).cell? ⟨T, 0, none⟩ = some (.int .i64 0) := fun m => (blk_cell K5.out 0).trans rfl
          have T1 : ∀ m, (World.drewN w5 m).cell? ⟨T, 1, none⟩ = some (.int .i64 0) := fun m => (blk_cell K5.out 1).trans rfl
          have X0 : ∀ m, (World.drewN w5 m).cell? (ad.add (k * 2)) = some (.int .i64 0) := fun m => pw_cell_below (drawn_trans0 w5 m B5.out) e0
          have X1 : ∀ m, (World.drewN w5 m).cell? ⟨(ad.add (k * 2)).block, (ad.add (k * 2)).off + 1, none⟩ = some (.int .i64 0) := fun m => pw_cell_below (drawn_trans0 w5 m B5.out) e1
          have t0 : World.cell? w5 ⟨T, 0, none⟩ = some (.int .i64 0) := T0 0
          have t1 : World.cell? w5 ⟨T, 1, none⟩ = some (.int .i64 0) := T1 0
          have x0 : World.cell? w5 (ad.add (k * 2)) = some (.int .i64 0) := X0 0
          have x1 : World.cell? w5 ⟨(ad.add (k * 2)).block, (ad.add (k * 2)).off + 1, none⟩ = some (.int .i64 0) := X1 0
          clear e0 e1
          go_wp2_with fail
          go_quiet (fail)
          have B9 := Aside0.mk (drawn_trans0 w5 nq B5.out)
          clear B5
          go_wp2_with fail
          go_roundg (gk - 1)
          case measure => omega
          case rel => exact ⟨k + 1, by omega, by omega, by congr 1, B9⟩
        | true =>
          have hX : X (kd, ar) = (kd, ar) := by unfold X; rw [if_pos hb]
          rw [hX] at e0 e1
          clear hX hb
          obtain ⟨y0, y1⟩ := ROW.out _ B5.out
          have zb := blk_frozen K5.out
          have b0 : w5.cell? ⟨T, 0, none⟩ = some (.int .i64 0) := (blk_cell K5.out 0).trans rfl
          have b1 : w5.cell? ⟨T, 1, none⟩ = some (.int .i64 0) := (blk_cell K5.out 1).trans rfl
          go_upto_region 13 with fail
          have K6 := Aside0.mk (blk_set (blk_set K5.out 0 (.int .i64 kd)) 1 (.int .i64 ar))
          have O6 := Aside0.mk (((Only.refl T w5).setCell 0 (.int .i64 kd)).setCell 1 (.int .i64 ar))
          have B6 := Aside0.mk (O6.out.below HTS.out B5.out)
          generalize hw6 : World.setCell (World.setCell w5 _ _) _ _ = w6 at K6 O6 B6 ⊢
          clear hw6 O6 B5 K5 y0 y1 zb b0 b1
          have T0 : ∀ m, (World.drewN w6 m).cell? ⟨T, 0, none⟩ = some (.int .i64 kd) := fun m => (blk_cell K6.out 0).trans rfl
          have T1 : ∀ m, (World.drewN w6 m).cell? ⟨T, 1, none⟩ = some (.int .i64 ar) := fun m => (blk_cell K6.out 1).trans rfl
          have X0 : ∀ m, (World.drewN w6 m).cell? (ad.add (k * 2)) = some (.int .i64 kd) := fun m => pw_cell_below (drawn_trans0 w6 m B6.out) e0
          have X1 : ∀ m, (World.drewN w6 m).cell? ⟨(ad.add (k * 2)).block, (ad.add (k * 2)).off + 1, none⟩ = some (.int .i64 ar) := fun m => pw_cell_below (drawn_trans0 w6 m B6.out) e1
          have t0 : World.cell? w6 ⟨T, 0, none⟩ = some (.int .i64 kd) := T0 0
          have t1 : World.cell? w6 ⟨T, 1, none⟩ = some (.int .i64 ar) := T1 0
          have x0 : World.cell? w6 (ad.add (k * 2)) = some (.int .i64 kd) := X0 0
          have x1 : World.cell? w6 ⟨(ad.add (k * 2)).block, (ad.add (k * 2)).off + 1, none⟩ = some (.int .i64 ar) := X1 0
          clear e0 e1
          go_wp2_with fail
          go_quiet (fail)
          have B9 := Aside0.mk (drawn_trans0 w6 nq B6.out)
          clear B6
          go_wp2_with fail
          go_roundg (gk - 1)
          case measure => omega
          case rel => exact ⟨k + 1, by omega, by omega, by congr 1, B9⟩
      · have hkn' : k = n := by omega
        subst hkn'
        have hlt' : ((k : Int) < (k : Int)) = False := by simp
        go_wp2_with fail
        refine (pol_awake_calls _ (HW.out.below (below_on B3.out hB.out))).mono ?_
        rintro e w7 ⟨rfl, b7⟩
        have B7 := Aside0.mk (below_on (below_on B3.out hB.out) b7)
        clear b7
        go_wp2_with fail
        go_ret
        exact ⟨rfl, B7.out⟩
end Go.Proofs.YtfnbpmkbjbibkaaDoor
