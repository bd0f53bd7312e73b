/- The policy: choices' text, by contract. -/
import Derived.Test.YtfnbpmkbjbibkaaDoorPolWord
import Derived.Test.YtfnbpmkbjbibkaaDoorOpensRows
namespace Go.Proofs.YtfnbpmkbjbibkaaDoor
open Go Go.RowKit Go.Deep Go.Proofs.YtfnbpmkbjbibkaaDoor.QPolicyPrints Go.Proofs.YtfnbpmkbjbibkaaDoorW.PrintWords Go.Proofs.YtfnbpmkbjbibkaaDoor.PolWord
set_option linter.unusedVariables false
set_option linter.unusedSimpArgs false

def strs (l : List (Int × Int)) : List Value := l.map fun p => Value.string (PolWord.W p)

set_option maxRecDepth 100000 in
set_option maxHeartbeats 2000000 in
theorem print_calls (w : World) (A : Option Addr) (n c : Nat) (f : Nat → Nat → Int) (l : List (Int × Int)) (hf : IsRows [.i64, .i64] w A n c f) (hl : l = (List.range n).map fun i => (f i 0, f i 1)) (hn : n ≤ 512) (hw : Words w) : Calls Tryd.prog 41 #[.slice A n c] w fun e w' => e = .returned (.string ⟨(txtL l).toArray⟩) ∧ Below w.heap.size w w' := by
  obtain ⟨i0, hi, hz0, hz1, hz2⟩ := pinfo_parts (show (Tryd.prog.info? 9).map (fun i => (i.zero, i.size, i.bytes)) = some (some (.string ⟨#[]⟩), 1, 16) by kernel_rfl)
  have HF := Aside0.mk hf
  have HL := Aside0.mk hl
  have HW := Aside0.mk hw
  have B0 := Aside0.mk (Below.refl w.heap.size w)
  clear hf hl hw
  go_enter Tryd.func41, Tryd.ntmps41
  go_wp2_with fail
  go_loopg [3, 9] (n + 1) (fun gh v i wr => ∃ k : Nat, gh + k = n + 1 ∧ k ≤ n ∧ i = .int .i64 (k : Int) ∧ Aside0 (wr.ownsRow w.heap.size 9 1 v k (strs (l.take k))) ∧ Aside0 (Below w.heap.size w wr))
  case atStart => exact ⟨0, rfl, by omega, rfl, ⟨World.ownsRow_nil _ _ _ _⟩, B0⟩
  case round =>
    obtain ⟨k, hk, hkn, rfl, hO, hB⟩ := hrel
    obtain ⟨wo, rfl⟩ : ∃ wo : World, wo = wr := ⟨_, rfl⟩
    by_cases hlt : k < n
    · have hlt' : ((k : Int) < (n : Int)) = True := by simp; omega
      obtain ⟨y, hy, hc⟩ := HF.out.at_ hlt
      subst hy
      have hlk : l[k]? = some (f k 0, f k 1) := by rw [HL.out]; simp [hlt]
      have ROW : Aside0 (∀ w', Below w.heap.size w w' → w'.cell? (y.add (k * 2)) = some (.int .i64 (f k 0)) ∧ w'.cell? ⟨(y.add (k * 2)).block, (y.add (k * 2)).off + 1, none⟩ = some (.int .i64 (f k 1))) := ⟨fun w' hb => ⟨pw_cell_below hb (hc 0 .i64 rfl).1, by rw [← add_field _ _ 1 (by omega)]; exact pw_cell_below hb (hc 1 .i64 rfl).1⟩⟩
      clear hc
      obtain ⟨kd, hkd⟩ : ∃ kd, f k 0 = kd := ⟨_, rfl⟩
      obtain ⟨ar, har⟩ : ∃ ar, f k 1 = ar := ⟨_, rfl⟩
      rw [hkd, har] at ROW hlk
      have HLK := Aside0.mk hlk
      obtain ⟨hr1, _, hr3⟩ := rt_facts (kd, ar)
      have HR1 := Aside0.mk (fun w' => policy_Right.calls 20 kd ar _ w' hr1)
      have HR3 := Aside0.mk hr3
      clear hkd har hlk hr1 hr3
      obtain ⟨y0, y1⟩ := ROW.out _ hB.out
      go_upto_region 5 with fail
      have K3 := Aside0.mk (blk_new wo (.cells #[.int .i64 kd, .int .i64 ar] 66))
      have B3 := Aside0.mk (below_alloc hB.out (.cells #[.int .i64 kd, .int .i64 ar] 66))
      have O3 := Aside0.mk (powns_below hO.out (below_alloc (Below.refl _ _) (.cells #[.int .i64 kd, .int .i64 ar] 66)))
      generalize hw3 : World.alloc wo _ = w3 at K3 B3 O3 ⊢
      generalize wo.heap.size = T at K3 ⊢
      clear y0 y1 hO hB hw3
      have c0 : w3.cell? ⟨0, 0, none⟩ = some (.string ⟨#[45]⟩) := (HW.out.below B3.out).1 0 _ rfl
      have t0 : w3.cell? ⟨T, 0, none⟩ = some (.int .i64 kd) := (blk_cell K3.out 0).trans rfl
      have t1 : w3.cell? ⟨T, 1, none⟩ = some (.int .i64 ar) := (blk_cell K3.out 1).trans rfl
      obtain ⟨b, hb⟩ : ∃ b, rt (kd, ar) = b := ⟨_, rfl⟩
      rw [hb] at HR1
      have HBB := Aside0.mk hb
      clear hb
      go_wp2_with fail
      refine (HR1.out _).mono ?_
      rintro e w4 ⟨rfl, b4⟩
      have B4 := Aside0.mk (below_on B3.out b4)
      have K4 := Aside0.mk (blk_below K3.out b4)
      have O4 := Aside0.mk (powns_below O3.out b4)
      clear b4 c0 t0 t1 B3 K3 O3
      cases b with
      | false =>
        have hW : PolWord.W (kd, ar) = ⟨#[45]⟩ := by unfold PolWord.W; rw [if_neg (by rw [HBB.out]; simp)]
        have HWD := Aside0.mk hW
        clear hW
        go_wp2_with (at_builtin; refine wpList_append_own _ rfl _ _ 82 rfl w.heap.size 9 i0 (.string ⟨#[]⟩) 1 16 Tryd.underlying82 hi hz0 hz1 hz2 rfl (by decide) _ k (strs (l.take k)) rfl (O4.out.alloc _) ⟨w4.heap.size, 0, none⟩ 1 1 [.string ⟨#[45]⟩] rfl rfl (cell_one_new _ _ _) (by simp [Value.oneCell']) (by simp only [maxLen]; omega) (by omega) (by have := B4.out.size; simp; omega) ?_; intro v1 w5 hown5 hgrow5 _)
        have B7 := Aside0.mk ((below_alloc B4.out (.cells #[.string ⟨#[45]⟩] 9)).grown hgrow5 (below_alloc B4.out (.cells #[.string ⟨#[45]⟩] 9)).size (fun k hk => (O4.out.lt k hk).1))
        have O7 : Aside0 (w5.ownsRow w.heap.size 9 1 v1 (k + 1) (strs (l.take (k + 1)))) := ⟨by
          have e : strs (l.take (k + 1)) = strs (l.take k) ++ [.string ⟨#[45]⟩] := by
            rw [List.take_add_one, HLK.out]
            simp [strs, HWD.out]
          rw [e]; exact hown5⟩
        clear hown5 hgrow5 B4 O4
        go_roundg (gk - 1)
        case measure => omega
        case rel => exact ⟨k + 1, by omega, by omega, by congr 1, O7, B7⟩
      | true =>
        obtain ⟨h1, h9, h0, hm⟩ := HR3.out HBB.out
        obtain ⟨q, rfl⟩ : ∃ q : Nat, kd = (q : Int) := ⟨kd.toNat, by omega⟩
        obtain ⟨d, rfl⟩ : ∃ d : Nat, ar = (d : Int) := ⟨ar.toNat, by omega⟩
        have hW : PolWord.W ((q : Int), (d : Int)) = (wordB q ++ ⟨#[61]⟩) ++ dg d := by unfold PolWord.W; rw [if_pos HBB.out]; rfl
        have HWD := Aside0.mk hW
        have HD := Aside0.mk (fun w' => policy_digits.calls 6 (d : Int) (dg d) w' (dig_facts d (by omega)).1)
        have hwz := PolPlain.word_size q (by omega)
        have hdz : (dg d).size ≤ 4 := by have := (dig_facts d (by omega)).2.2.2.1; rw [ByteArray.toList_eq, ← Lib.size_eq] at this; exact this
        have hq0 : (0 ≤ (q : Int)) = True := by simp
        have hq10 : ((q : Int) < 10) = True := by simp; omega
        have hq : q < 10 := by omega
        have hl1 : (⟨#[61]⟩ : ByteArray).size = 1 := rfl
        have hs1a : (9223372036854775807 < (wordB q).size + (⟨#[61]⟩ : ByteArray).size) = False := by rw [hl1]; simp; omega
        have hs1b : (9223372036854775807 < (wordB q).size + 1) = False := by simp; omega
        have hs2a : (9223372036854775807 < (wordB q ++ (⟨#[61]⟩ : ByteArray)).size + (dg d).size) = False := by rw [ByteArray.size_append, hl1]; simp; omega
        have hs2b : (9223372036854775807 < (wordB q).size + 1 + (dg d).size) = False := by simp; omega
        have hs2c : (9223372036854775807 < (wordB q).size + (⟨#[61]⟩ : ByteArray).size + (dg d).size) = False := by rw [hl1]; simp; omega
        have hs1d : (wordB q).size + (⟨#[61]⟩ : ByteArray).size ≤ 9223372036854775807 := by rw [hl1]; omega
        have hs2d : (wordB q ++ (⟨#[61]⟩ : ByteArray)).size + (dg d).size ≤ 9223372036854775807 := by rw [ByteArray.size_append, hl1]; omega
        clear hl1
        clear hW h1 h9 h0 hm hwz hdz
        go_upto_region 7 with fail
        have KEEP : Aside0 (∀ w', Below w4.heap.size w4 w' → w'.cell? ⟨T, 0, none⟩ = some (.int .i64 (q : Int)) ∧ w'.cell? ⟨T, 1, none⟩ = some (.int .i64 (d : Int)) ∧ w'.cell? ⟨0, q, none⟩ = some (.string (wordB q)) ∧ Below w4.heap.size w4 w') := ⟨fun w' hb => ⟨(blk_cell (blk_below K4.out hb) 0).trans rfl, (blk_cell (blk_below K4.out hb) 1).trans rfl, (HW.out.below (below_on B4.out hb)).at q (by omega), hb⟩⟩
        go_region_held3 (fun w' => w'.cell? ⟨T, 0, none⟩ = some (.int .i64 (q : Int)) ∧ w'.cell? ⟨T, 1, none⟩ = some (.int .i64 (d : Int)) ∧ w'.cell? ⟨0, q, none⟩ = some (.string (wordB q)) ∧ Below w4.heap.size w4 w')
            (first
              | with_reducible exact KEEP.out _ hbw
              | with_reducible exact KEEP.out _ (Below.drew (Below.refl _ _)))
            (first | (go_at_call 65; go_split_ands; (with_reducible refine (HD.out _).mono ?_); rintro e w6 ⟨rfl, hb⟩; have hbw : Below w4.heap.size w4 w6 := below_on (by assumption) hb; clear hb))
        have B6 := Aside0.mk (below_on B4.out hbw)
        have O6 := Aside0.mk (powns_below O4.out hbw)
        clear hbw KEEP K4 B4 O4
        go_wp2_with (at_builtin; refine wpList_append_own _ rfl _ _ 82 rfl w.heap.size 9 i0 (.string ⟨#[]⟩) 1 16 Tryd.underlying82 hi hz0 hz1 hz2 rfl (by decide) _ k (strs (l.take k)) rfl (O6.out.alloc _) ⟨w6.heap.size, 0, none⟩ 1 1 [.string (wordB q ++ ⟨#[61]⟩ ++ dg d)] rfl rfl (cell_one_new _ _ _) (by simp [Value.oneCell']) (by simp only [maxLen]; omega) (by omega) (by have := B6.out.size; simp; omega) ?_; intro v1 w5 hown5 hgrow5 _)
        have B7 := Aside0.mk ((below_alloc B6.out (.cells #[.string (wordB q ++ ⟨#[61]⟩ ++ dg d)] 9)).grown hgrow5 (below_alloc B6.out (.cells #[.string (wordB q ++ ⟨#[61]⟩ ++ dg d)] 9)).size (fun k hk => (O6.out.lt k hk).1))
        have O7 : Aside0 (w5.ownsRow w.heap.size 9 1 v1 (k + 1) (strs (l.take (k + 1)))) := ⟨by
          have e : strs (l.take (k + 1)) = strs (l.take k) ++ [.string (wordB q ++ ⟨#[61]⟩ ++ dg d)] := by
            rw [List.take_add_one, HLK.out]
            simp [strs, HWD.out]
          rw [e]; exact hown5⟩
        clear hown5 hgrow5 B6 O6
        go_roundg (gk - 1)
        case measure => omega
        case rel => exact ⟨k + 1, by omega, by omega, by congr 1, O7, B7⟩
    · have hkn' : k = n := by omega
      subst hkn'
      have hlt' : ((k : Int) < (k : Int)) = False := by simp
      have hll : l.length = k := by rw [HL.out]; simp
      have hT : l.take k = l := List.take_of_length_le (by omega)
      have hxj : (⟨(Lib.join ((l.map PolWord.W).map (·.data.toList)) (⟨#[32]⟩ : ByteArray).data.toList).toArray⟩ : ByteArray) = ⟨(txtL l).toArray⟩ := by
        unfold txtL
        rw [List.map_map]
        congr 3
        apply List.map_congr_left
        intro p _
        exact (ByteArray.toList_eq _).symm
      have hO' := hO.out
      rw [hT] at hO'
      have HXJ := Aside0.mk hxj
      have HLE := Aside0.mk (txt_le l)
      clear hxj hO hT
      rcases hO'.2 with ⟨rfl, h0⟩ | ⟨g, cap, cur, rfl, hbb, hg, hc, hm, hsz, htk⟩
      · have hl0 : l = [] := List.length_eq_zero_iff.1 (by omega)
        have HJ := Aside0.mk (Tryd.strings_Join_none none 0 ⟨#[32]⟩ wo)
        clear hO'
        go_wp2_with fail
        refine HJ.out.mono ?_
        rintro e w7 ⟨rfl, rfl⟩
        go_wp2_with fail
        go_ret
        exact ⟨by subst hl0; rfl, hB.out⟩
      · have HJ := Aside0.mk (Tryd.strings_Join g 0 cap (l.map PolWord.W) ⟨#[32]⟩ wo (fun j x hx => by
          have hj : j < l.length := by have := (List.getElem?_eq_some_iff.1 hx).1; rwa [List.length_map] at this
          rw [Nat.zero_add, World.ownsRow.cellAt hO' j (by omega)]
          unfold strs
          rw [List.getElem?_map] at hx ⊢
          obtain ⟨p, hp, rfl⟩ := Option.map_eq_some_iff.1 hx
          rw [hp]; rfl) (blk_lt hg) (by rw [List.length_map]; omega) (by rw [List.length_map]; omega) (by
          have e : (Lib.join ((l.map PolWord.W).map (·.data.toList)) (⟨#[32]⟩ : ByteArray).data.toList) = txtL l := by
            have := congrArg (fun b : ByteArray => b.data.toList) HXJ.out
            simpa using this
          rw [e]; have := HLE.out; omega))
        rw [List.length_map, hll, HXJ.out] at HJ
        clear hO' hg hsz htk cur hbb hm
        go_wp2_with fail
        refine HJ.out.mono ?_
        rintro e w7 ⟨rfl, b7⟩
        have B7 := Aside0.mk (below_on hB.out b7)
        clear b7
        go_wp2_with fail
        go_ret
        exact ⟨rfl, B7.out⟩
end Go.Proofs.YtfnbpmkbjbibkaaDoor
