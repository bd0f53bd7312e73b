/- The document's text of choices, by contract. -/
import Derived.Test.YtfnbpmkbjbibkaaDoorPolPrint
namespace Go.Proofs.YtfnbpmkbjbibkaaDoor
open Go Go.RowKit Go.Deep Go.Proofs.YtfnbpmkbjbibkaaDoor.QPolicyPrints Go.Proofs.YtfnbpmkbjbibkaaDoorW.PrintWords Go.Proofs.YtfnbpmkbjbibkaaDoor.PolWord
set_option linter.unusedVariables false
set_option linter.unusedSimpArgs false

theorem txt_snoc : ∀ (l : List (Int × Int)) (p : Int × Int), txtL (l ++ [p]) = if l = [] then (PolWord.W p).toList else txtL l ++ 32 :: (PolWord.W p).toList
  | [], p => by rw [if_pos rfl]; simp [txtL, Lib.join_one]
  | x :: r, p => by
    rw [if_neg (by simp)]
    unfold txtL
    simp only [List.cons_append, List.map_cons, List.map_append, List.map_nil, Lib.join_cons, Lib.joinTail, List.flatten_append, List.flatten_cons, List.flatten_nil, List.append_nil, List.append_assoc]
    simp
theorem txt_next {l : List (Int × Int)} {k : Nat} {p : Int × Int} (h : l[k]? = some p) : (⟨(txtL (l.take (k + 1))).toArray⟩ : ByteArray) = if 0 < k then ((⟨(txtL (l.take k)).toArray⟩ : ByteArray) ++ (⟨#[32]⟩ : ByteArray)) ++ PolWord.W p else (⟨(txtL (l.take k)).toArray⟩ : ByteArray) ++ PolWord.W p := by
  have hk : k < l.length := (List.getElem?_eq_some_iff.1 h).1
  have e : l.take (k + 1) = l.take k ++ [p] := by rw [List.take_add_one, h]; rfl
  apply PolPlain.toList_inj
  rw [e, txt_snoc]
  by_cases h0 : 0 < k
  · have hlk : (l.take k).length = k := by rw [List.length_take]; omega
    have hne : l.take k ≠ [] := by intro hh; rw [hh] at hlk; simp at hlk; omega
    rw [if_neg hne, if_pos h0]
    simp only [ByteArray.toList_eq, ByteArray.data_append, Array.toList_append, List.append_assoc]
    rfl
  · have hk0 : k = 0 := by omega
    subst hk0
    rw [if_pos (by simp), if_neg (by omega)]
    simp only [ByteArray.toList_eq, ByteArray.data_append, Array.toList_append, List.take_zero]
    rfl

set_option maxRecDepth 100000 in
set_option maxHeartbeats 16000000 in
theorem rprint_calls (w : World) (A : Option Addr) (n c : Nat) (f : Nat → Nat → Int) (l : List (Int × Int)) (hf : IsRows [.i64, .i64] w A n c f) (hl : l = (List.range n).map fun i => (f i 0, f i 1)) (hn : n ≤ 512) (w0 : World) (hb0 : Below w.heap.size w w0) : Calls Tryd.prog 42 #[.slice A n c] w0 fun e w' => e = .returned (.string ⟨(txtL l).toArray⟩) ∧ Below w0.heap.size w0 w' := by
  have HF := Aside0.mk hf
  have HL := Aside0.mk hl
  have B0 := Aside0.mk hb0
  have BR := Aside0.mk (Below.refl w0.heap.size w0)
  clear hf hl hb0
  go_enter Tryd.func42, Tryd.ntmps42
  go_wp2_with fail
  go_loopg [3, 4] (n + 1) (fun gh v i wr => ∃ k : Nat, gh + k = n + 1 ∧ k ≤ n ∧ i = .int .i64 (k : Int) ∧ v = .string ⟨(txtL (l.take k)).toArray⟩ ∧ Aside0 (Below w0.heap.size w0 wr))
  case atStart => exact ⟨0, rfl, by omega, rfl, rfl, BR⟩
  case round =>
    obtain ⟨k, hk, hkn, rfl, rfl, hB⟩ := hrel
    obtain ⟨wo, rfl⟩ : ∃ wo : World, wo = wr := ⟨_, rfl⟩
    by_cases hlt : k < n
    · have hlt' : ((k : Int) < (n : Int)) = True := by simp; omega
      obtain ⟨y, hy, hc⟩ := HF.out.at_ hlt
      subst hy
      have hlk : l[k]? = some (f k 0, f k 1) := by rw [HL.out]; simp [hlt]
      have ROW : Aside0 (∀ w', Below w0.heap.size w0 w' → w'.cell? (y.add (k * 2)) = some (.int .i64 (f k 0)) ∧ w'.cell? ⟨(y.add (k * 2)).block, (y.add (k * 2)).off + 1, none⟩ = some (.int .i64 (f k 1))) := ⟨fun w' hb => ⟨pw_cell_below (below_on B0.out hb) (hc 0 .i64 rfl).1, by rw [← add_field _ _ 1 (by omega)]; exact pw_cell_below (below_on B0.out hb) (hc 1 .i64 rfl).1⟩⟩
      clear hc
      obtain ⟨kd, hkd⟩ : ∃ kd, f k 0 = kd := ⟨_, rfl⟩
      obtain ⟨ar, har⟩ : ∃ ar, f k 1 = ar := ⟨_, rfl⟩
      rw [hkd, har] at ROW hlk
      obtain ⟨_, hr1, hr3⟩ := rt_facts (kd, ar)
      obtain ⟨b, hb⟩ : ∃ b, rt (kd, ar) = b := ⟨_, rfl⟩
      have HLK := Aside0.mk (txt_next hlk)
      rw [hb] at hr1
      have HR1 := Aside0.mk (fun w' => mimesisref37_Right.calls kd ar _ w' hr1)
      have HR3 := Aside0.mk hr3
      have HBB := Aside0.mk hb
      have hts : (⟨(txtL (l.take k)).toArray⟩ : ByteArray).size ≤ 8000 := by
        have h1 := txt_le (l.take k)
        have h2 : (l.take k).length ≤ k := by rw [List.length_take]; omega
        have h3 : (⟨(txtL (l.take k)).toArray⟩ : ByteArray).size = (txtL (l.take k)).length := by rw [Lib.size_eq]
        omega
      generalize (⟨(txtL (l.take k)).toArray⟩ : ByteArray) = tx at hts HLK
      clear hkd har hlk hr1 hr3 hb
      obtain ⟨y0, y1⟩ := ROW.out _ hB.out
      have hl32 : (⟨#[32]⟩ : ByteArray).size = 1 := rfl
      by_cases h0 : 0 < k
      · have h0' : ((0 : Int) < (k : Int)) = True := by simp; omega
        rw [if_pos h0] at HLK
        have hs1 : (9223372036854775807 < tx.size + (⟨#[32]⟩ : ByteArray).size) = False := by rw [hl32]; simp; omega
        have hs2 : (9223372036854775807 < tx.size + 1) = False := by simp; omega
        have hs3 : tx.size + (⟨#[32]⟩ : ByteArray).size ≤ 9223372036854775807 := by rw [hl32]; omega
        obtain ⟨tz, htz⟩ : ∃ tz, tx ++ (⟨#[32]⟩ : ByteArray) = tz := ⟨_, rfl⟩
        rw [htz] at HLK
        have hz : tz.size ≤ 8001 := by rw [← htz, ByteArray.size_append, hl32]; omega
        have HTZ := Aside0.mk htz
        clear htz hl32
        go_wp2_with fail
        rw [HTZ.out]
        clear HTZ hs1 hs2 hs3 hts
        refine (HR1.out _).mono ?_
        rintro e w4 ⟨rfl, b4⟩
        have B4 := Aside0.mk (below_on hB.out b4)
        clear b4 hB y0 y1
        cases b with
        | false =>
          have hW : PolWord.W (kd, ar) = ⟨#[45]⟩ := by unfold PolWord.W; rw [if_neg (by rw [HBB.out]; simp)]
          rw [hW] at HLK
          have hl45 : (⟨#[45]⟩ : ByteArray).size = 1 := rfl
          have hs1 : (9223372036854775807 < tz.size + (⟨#[45]⟩ : ByteArray).size) = False := by rw [hl45]; simp; omega
          have hs2 : (9223372036854775807 < tz.size + 1) = False := by simp; omega
          have hs3 : tz.size + (⟨#[45]⟩ : ByteArray).size ≤ 9223372036854775807 := by rw [hl45]; omega
          clear hl45 hW
          go_wp2_with fail
          go_roundg (gk - 1)
          case measure => omega
          case rel => exact ⟨k + 1, by omega, by omega, by congr 1, by rw [HLK.out], B4⟩
        | true =>
          obtain ⟨h1, h9, h0, hm⟩ := HR3.out HBB.out
          obtain ⟨q, rfl⟩ : ∃ q : Nat, kd = (q : Int) := ⟨kd.toNat, by omega⟩
          obtain ⟨d, rfl⟩ : ∃ d : Nat, ar = (d : Int) := ⟨ar.toNat, by omega⟩
          have hW : PolWord.W ((q : Int), (d : Int)) = (wordB q ++ ⟨#[61]⟩) ++ dg d := by unfold PolWord.W; rw [if_pos HBB.out]; rfl
          rw [hW, ← ByteArray.append_assoc, ← ByteArray.append_assoc] at HLK
          have HD := Aside0.mk (fun w' => mimesisref05_Number.calls (30 + 0) (d : Int) (dg d) w' ((dig_facts d (by omega)).2.1 0))
          have hwz := PolPlain.word_size q (by omega)
          have hdz : (dg d).size ≤ 4 := by have := (dig_facts d (by omega)).2.2.2.1; rw [ByteArray.toList_eq, ← Lib.size_eq] at this; exact this
          have hq0 : (0 ≤ (q : Int)) = True := by simp
          have hq10 : ((q : Int) < 10) = True := by simp; omega
          have hq : q < 10 := by omega
          have hqn : ((q : Int) < (PolPlain.nms.length : Int)) = True := by rw [PolPlain.nms_length]; simp; omega
          have hl1 : (⟨#[61]⟩ : ByteArray).size = 1 := rfl
          have hrw : rdOf ByteArray.empty PolPlain.nms (q : Int) = wordB q := PolPlain.rd_word q hq
          generalize hwb : wordB q = wb at hwz HLK hrw
          generalize hdd : dg d = dd at hdz HLK HD
          have hs1a : (9223372036854775807 < tz.size + wb.size) = False := by simp; omega
          have hs1d : tz.size + wb.size ≤ 9223372036854775807 := by omega
          have hs2a : (9223372036854775807 < (tz ++ wb).size + (⟨#[61]⟩ : ByteArray).size) = False := by rw [hl1, ByteArray.size_append]; simp; omega
          have hs2b : (9223372036854775807 < tz.size + wb.size + 1) = False := by simp; omega
          have hs2c : (9223372036854775807 < tz.size + wb.size + (⟨#[61]⟩ : ByteArray).size) = False := by rw [hl1]; simp; omega
          have hs2d : (tz ++ wb).size + (⟨#[61]⟩ : ByteArray).size ≤ 9223372036854775807 := by rw [hl1, ByteArray.size_append]; omega
          have hs3a : (9223372036854775807 < (tz ++ wb ++ (⟨#[61]⟩ : ByteArray)).size + dd.size) = False := by rw [ByteArray.size_append, ByteArray.size_append, hl1]; simp; omega
          have hs3b : (9223372036854775807 < tz.size + wb.size + 1 + dd.size) = False := by simp; omega
          have hs3c : (9223372036854775807 < tz.size + wb.size + (⟨#[61]⟩ : ByteArray).size + dd.size) = False := by rw [hl1]; simp; omega
          have hs3d : (tz ++ wb ++ (⟨#[61]⟩ : ByteArray)).size + dd.size ≤ 9223372036854775807 := by rw [ByteArray.size_append, ByteArray.size_append, hl1]; omega
          clear hl1 hW h1 h9 h0 hm hwz hdz hwb hdd
          have HN := Aside0.mk (fun w' => mimesisref37_names.calls PolPlain.nms w' rfl)
          go_upto_region 8 with fail
          obtain ⟨y0, y1⟩ := ROW.out _ (Below.drew B4.out)
          go_region_with (first
            | (go_at_call 67; (with_reducible refine (HN.out _).mono ?_); rintro e w5 ⟨v5, rfl, hR5, hb⟩; obtain ⟨A5, c5, rfl, hc5, hC5⟩ := Kd.R_reads hR5; obtain ⟨ad, rfl, k5⟩ := Kd.at_string hC5 (q : Int) (by omega) (by rw [PolPlain.nms_length]; omega); rw [hrw, Int.toNat_natCast] at k5; have hbw : Below w0.heap.size w0 w5 := below_on (Below.drew B4.out) hb; obtain ⟨z0, z1⟩ := ROW.out _ hbw)
            | (go_at_call 68; (with_reducible refine (HD.out _).mono ?_); rintro e w6 ⟨rfl, hd6⟩; have hb6 : Below w5.heap.size w5 w6 := hd6.below; have hbw6 : Below w0.heap.size w0 w6 := below_on hbw hb6; obtain ⟨x0, x1⟩ := ROW.out _ hbw6; have k6 := pw_cell_below hb6 k5))
          all_goals (
            have B7 := Aside0.mk hbw6
            clear hbw hbw6 hb hb6 hd6 y0 y1 z0 z1 x0 x1 k5 k6 hC5 hR5 hc5 B4
            go_wp2_with fail
            go_roundg (gk - 1)
            case measure => omega
            case rel => exact ⟨k + 1, by omega, by omega, by congr 1, by rw [HLK.out], B7⟩)
      · have h0' : ((0 : Int) < (k : Int)) = False := by simp; omega
        rw [if_neg h0] at HLK
        obtain ⟨tz, rfl⟩ : ∃ tz, tx = tz := ⟨_, rfl⟩
        clear hl32
        go_wp2_with fail
        refine (HR1.out _).mono ?_
        rintro e w4 ⟨rfl, b4⟩
        have B4 := Aside0.mk (below_on hB.out b4)
        clear b4 hB y0 y1
        cases b with
        | false =>
          have hW : PolWord.W (kd, ar) = ⟨#[45]⟩ := by unfold PolWord.W; rw [if_neg (by rw [HBB.out]; simp)]
          rw [hW] at HLK
          have hl45 : (⟨#[45]⟩ : ByteArray).size = 1 := rfl
          have hs1 : (9223372036854775807 < tx.size + (⟨#[45]⟩ : ByteArray).size) = False := by rw [hl45]; simp; omega
          have hs2 : (9223372036854775807 < tx.size + 1) = False := by simp; omega
          have hs3 : tx.size + (⟨#[45]⟩ : ByteArray).size ≤ 9223372036854775807 := by rw [hl45]; omega
          clear hl45 hW
          go_wp2_with fail
          go_roundg (gk - 1)
          case measure => omega
          case rel => exact ⟨k + 1, by omega, by omega, by congr 1, by rw [HLK.out], B4⟩
        | true =>
          obtain ⟨h1, h9, h0, hm⟩ := HR3.out HBB.out
          obtain ⟨q, rfl⟩ : ∃ q : Nat, kd = (q : Int) := ⟨kd.toNat, by omega⟩
          obtain ⟨d, rfl⟩ : ∃ d : Nat, ar = (d : Int) := ⟨ar.toNat, by omega⟩
          have hW : PolWord.W ((q : Int), (d : Int)) = (wordB q ++ ⟨#[61]⟩) ++ dg d := by unfold PolWord.W; rw [if_pos HBB.out]; rfl
          rw [hW, ← ByteArray.append_assoc, ← ByteArray.append_assoc] at HLK
          have HD := Aside0.mk (fun w' => mimesisref05_Number.calls (30 + 0) (d : Int) (dg d) w' ((dig_facts d (by omega)).2.1 0))
          have hwz := PolPlain.word_size q (by omega)
          have hdz : (dg d).size ≤ 4 := by have := (dig_facts d (by omega)).2.2.2.1; rw [ByteArray.toList_eq, ← Lib.size_eq] at this; exact this
          have hq0 : (0 ≤ (q : Int)) = True := by simp
          have hq10 : ((q : Int) < 10) = True := by simp; omega
          have hq : q < 10 := by omega
          have hqn : ((q : Int) < (PolPlain.nms.length : Int)) = True := by rw [PolPlain.nms_length]; simp; omega
          have hl1 : (⟨#[61]⟩ : ByteArray).size = 1 := rfl
          have hrw : rdOf ByteArray.empty PolPlain.nms (q : Int) = wordB q := PolPlain.rd_word q hq
          generalize hwb : wordB q = wb at hwz HLK hrw
          generalize hdd : dg d = dd at hdz HLK HD
          have hs1a : (9223372036854775807 < tx.size + wb.size) = False := by simp; omega
          have hs1d : tx.size + wb.size ≤ 9223372036854775807 := by omega
          have hs2a : (9223372036854775807 < (tx ++ wb).size + (⟨#[61]⟩ : ByteArray).size) = False := by rw [hl1, ByteArray.size_append]; simp; omega
          have hs2b : (9223372036854775807 < tx.size + wb.size + 1) = False := by simp; omega
          have hs2c : (9223372036854775807 < tx.size + wb.size + (⟨#[61]⟩ : ByteArray).size) = False := by rw [hl1]; simp; omega
          have hs2d : (tx ++ wb).size + (⟨#[61]⟩ : ByteArray).size ≤ 9223372036854775807 := by rw [hl1, ByteArray.size_append]; omega
          have hs3a : (9223372036854775807 < (tx ++ wb ++ (⟨#[61]⟩ : ByteArray)).size + dd.size) = False := by rw [ByteArray.size_append, ByteArray.size_append, hl1]; simp; omega
          have hs3b : (9223372036854775807 < tx.size + wb.size + 1 + dd.size) = False := by simp; omega
          have hs3c : (9223372036854775807 < tx.size + wb.size + (⟨#[61]⟩ : ByteArray).size + dd.size) = False := by rw [hl1]; simp; omega
          have hs3d : (tx ++ wb ++ (⟨#[61]⟩ : ByteArray)).size + dd.size ≤ 9223372036854775807 := by rw [ByteArray.size_append, ByteArray.size_append, hl1]; omega
          clear hl1 hW h1 h9 h0 hm hwz hdz hwb hdd
          have HN := Aside0.mk (fun w' => mimesisref37_names.calls PolPlain.nms w' rfl)
          go_upto_region 8 with fail
          obtain ⟨y0, y1⟩ := ROW.out _ (Below.drew B4.out)
          go_region_with (first
            | (go_at_call 67; (with_reducible refine (HN.out _).mono ?_); rintro e w5 ⟨v5, rfl, hR5, hb⟩; obtain ⟨A5, c5, rfl, hc5, hC5⟩ := Kd.R_reads hR5; obtain ⟨ad, rfl, k5⟩ := Kd.at_string hC5 (q : Int) (by omega) (by rw [PolPlain.nms_length]; omega); rw [hrw, Int.toNat_natCast] at k5; have hbw : Below w0.heap.size w0 w5 := below_on (Below.drew B4.out) hb; obtain ⟨z0, z1⟩ := ROW.out _ hbw)
            | (go_at_call 68; (with_reducible refine (HD.out _).mono ?_); rintro e w6 ⟨rfl, hd6⟩; have hb6 : Below w5.heap.size w5 w6 := hd6.below; have hbw6 : Below w0.heap.size w0 w6 := below_on hbw hb6; obtain ⟨x0, x1⟩ := ROW.out _ hbw6; have k6 := pw_cell_below hb6 k5))
          all_goals (
            have B7 := Aside0.mk hbw6
            clear hbw hbw6 hb hb6 hd6 y0 y1 z0 z1 x0 x1 k5 k6 hC5 hR5 hc5 B4
            go_wp2_with fail
            go_roundg (gk - 1)
            case measure => omega
            case rel => exact ⟨k + 1, by omega, by omega, by congr 1, by rw [HLK.out], B7⟩)
    · have hkn' : k = n := by omega
      subst hkn'
      have hlt' : ((k : Int) < (k : Int)) = False := by simp
      have hT : l.take k = l := List.take_of_length_le (by rw [HL.out]; simp)
      rw [hT]
      clear hT
      go_wp2_with fail
      go_ret
      exact ⟨rfl, hB.out⟩
end Go.Proofs.YtfnbpmkbjbibkaaDoor
