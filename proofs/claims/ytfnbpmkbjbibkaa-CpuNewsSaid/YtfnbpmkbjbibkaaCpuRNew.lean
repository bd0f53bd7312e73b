/- The document's new machine. (PK=QCpuNews and the like) -/
import Derived.Test.YtfnbpmkbjbibkaaCpuAw
namespace Go.Proofs.Ytfnbpmkbjbibkaa
open Go Go.RowKit Go.Deep Go.Great Go.Proofs.YtfnbpmkbjbibkaaW.PrintWords
set_option linter.unusedVariables false
set_option linter.unusedSimpArgs false

/-- The cells of the document's bus, behind them the events. -/
def rB (b l : Value) (came : Int) (rx : Value) (over : Bool) (ox : Value) (o m : Int) (s off : Bool) (code : Int) : List Value := [b, l, .int .i64 came, rx, .bool over, ox, .int .u64 o, .int .u64 m, .bool s, .bool off, .int .u32 code]
def rL (b l : Value) (came : Int) (rx : Value) (over : Bool) (ox : Value) (o m : Int) (s off : Bool) (code : Int) (ev : Value) : List Value := rB b l came rx over ox o m s off code ++ [ev]
def zR : Array Value := (cH 0 rZ fZ 0 0 (rL nl nl 0 nl false nl 0 0 false false 0 nl)).toArray
theorem zR_zero : (Try.prog.info? 64).bind (fun i => i.zero.map (·.cells)) = some zR := by kernel_rfl
theorem zR_size : zR.size = 56 := by rw [zR, cH_size rZ_len fZ_len]; rfl
theorem rc_size : (Try.prog.info? 64).map (·.size) = some 56 := by kernel_rfl
theorem rb_size : (Try.prog.info? 62).map (·.size) = some 11 := by kernel_rfl
def zB : Array Value := (rB nl nl 0 nl false nl 0 0 false false 0).toArray
theorem zB_zero : (Try.prog.info? 62).bind (fun i => i.zero.map (·.cells)) = some zB := by kernel_rfl
theorem rcon_built (A B : Option Addr) (n c m d : Nat) (came : Int) (over : Bool) : Try.prog.built 60 [(1, .int .i64 came), (2, .slice A n c), (3, .bool over), (4, .slice B m d)] = some #[nl, .int .i64 came, .slice A n c, .bool over, .slice B m d] := by kernel_rfl
theorem rt_built (o m : Int) (s : Bool) : Try.prog.built 30 [(0, .int .u64 o), (1, .int .u64 m), (2, .bool s)] = some #[.int .u64 o, .int .u64 m, .bool s] := by kernel_rfl
theorem rb_built (A0 A1 A2 A3 : Option Addr) (n0 c0 n1 c1 n2 c2 n3 c3 : Nat) (came o m : Int) (over s off : Bool) (code : Int) : Try.prog.built 62 [(0, .slice A0 n0 c0), (1, .agg #[.slice A1 n1 c1, .int .i64 came, .slice A2 n2 c2, .bool over, .slice A3 n3 c3]), (2, .agg #[.int .u64 o, .int .u64 m, .bool s]), (3, .bool off), (4, .int .u32 code)] =
    some (rB (.slice A0 n0 c0) (.slice A1 n1 c1) came (.slice A2 n2 c2) over (.slice A3 n3 c3) o m s off code).toArray := by kernel_rfl
theorem rf_built (a b c d e f g h i : Int) : Try.prog.built 58 [(0, .agg #[.int .u32 a, .int .u32 b, .int .u32 c, .int .u32 d, .int .u32 e, .int .u32 f, .int .u32 g]), (1, .int .u64 h), (2, .int .u64 i)] = some #[.int .u32 a, .int .u32 b, .int .u32 c, .int .u32 d, .int .u32 e, .int .u32 f, .int .u32 g, .int .u64 h, .int .u64 i] := by kernel_rfl
theorem rB_one {b l : Value} {came : Int} {rx : Value} {over : Bool} {ox : Value} {o m : Int} {s off : Bool} {code : Int} (h1 : b.oneCell' = true) (h2 : l.oneCell' = true) (h3 : rx.oneCell' = true) (h4 : ox.oneCell' = true) : ∀ v ∈ rB b l came rx over ox o m s off code, v.oneCell' = true := by
  intro v hv
  simp only [rB, List.mem_cons, List.not_mem_nil, or_false] at hv
  rcases hv with rfl | rfl | rfl | rfl | rfl | rfl | rfl | rfl | rfl | rfl | rfl <;> first | assumption | rfl
theorem rL_one {b l : Value} {came : Int} {rx : Value} {over : Bool} {ox : Value} {o m : Int} {s off : Bool} {code : Int} {ev : Value} (h1 : b.oneCell' = true) (h2 : l.oneCell' = true) (h3 : rx.oneCell' = true) (h4 : ox.oneCell' = true) (h5 : ev.oneCell' = true) : ∀ v ∈ rL b l came rx over ox o m s off code ev, v.oneCell' = true := by
  intro v hv
  rcases List.mem_append.1 hv with hv | hv
  · exact rB_one h1 h2 h3 h4 v hv
  · obtain rfl := List.mem_singleton.1 hv; exact h5
/-- The nine cells of a file. -/
def fc (a b c d e f g h i : Int) : List Value := [.int .u32 a, .int .u32 b, .int .u32 c, .int .u32 d, .int .u32 e, .int .u32 f, .int .u32 g, .int .u64 h, .int .u64 i]
theorem fc_of {fl : List Value} (h : Fits kF fl) : ∃ a b c d e f g x y, fl = fc a b c d e f g x y := by
  unfold kF at h
  cases h with | cons a h =>
  cases h with | cons b h =>
  cases h with | cons c h =>
  cases h with | cons d h =>
  cases h with | cons e h =>
  cases h with | cons f h =>
  cases h with | cons g h =>
  cases h with | cons x h =>
  cases h with | cons y h =>
  cases h
  obtain ⟨a, rfl⟩ := a
  obtain ⟨b, rfl⟩ := b
  obtain ⟨c, rfl⟩ := c
  obtain ⟨d, rfl⟩ := d
  obtain ⟨e, rfl⟩ := e
  obtain ⟨f, rfl⟩ := f
  obtain ⟨g, rfl⟩ := g
  obtain ⟨x, rfl⟩ := x
  obtain ⟨y, rfl⟩ := y
  exact ⟨a, b, c, d, e, f, g, x, y, rfl⟩
theorem fc_one (a b c d e f g h i : Int) : ∀ v ∈ fc a b c d e f g h i, v.oneCell' = true := by
  intro v hv
  simp only [fc, List.mem_cons, List.not_mem_nil, or_false] at hv
  rcases hv with rfl | rfl | rfl | rfl | rfl | rfl | rfl | rfl | rfl <;> rfl
section
variable {pc : Int} {rg fl : List Value} {tk rt : Int} {L : List Value}
theorem cH_putL (h1 : rg.length = 32) (h2 : fl.length = 9) (vs : List Value) (hv : vs.length ≤ L.length) : putAt (cH pc rg fl tk rt L).toArray 44 vs = (cH pc rg fl tk rt (vs ++ L.drop vs.length)).toArray := by
  apply Array.toList_inj.1
  rw [putAt_list _ _ _ (by rw [cH_size h1 h2]; omega)]
  show (cH pc rg fl tk rt L).take 44 ++ vs ++ (cH pc rg fl tk rt L).drop (44 + vs.length) = _
  have e0 : cH pc rg fl tk rt L = (.int .u32 pc :: (rg ++ (fl ++ [.int .u64 tk, .int .u64 rt]))) ++ L := by simp [cH]
  have el : (.int .u32 pc :: (rg ++ (fl ++ [Value.int .u64 tk, .int .u64 rt]))).length = 44 := by simp [h1, h2]
  rw [e0, List.take_left' el, List.drop_append, el, List.drop_of_length_le (by omega), List.nil_append, show 44 + vs.length - 44 = vs.length by omega]
  simp [cH]
theorem rc_built (h1 : rg.length = 32) (h2 : fl.length = 9) (A0 A1 A2 A3 A4 : Option Addr) (n0 c0 n1 c1 n2 c2 n3 c3 n4 c4 : Nat) (came o m : Int) (over s off : Bool) (code : Int) :
    Try.prog.built 64 [(0, .int .u32 pc), (1, .agg rg.toArray), (2, .agg fl.toArray), (3, .int .u64 tk), (4, .int .u64 rt), (5, .agg (rB (.slice A0 n0 c0) (.slice A1 n1 c1) came (.slice A2 n2 c2) over (.slice A3 n3 c3) o m s off code).toArray), (6, .slice A4 n4 c4)] =
    some (cH pc rg fl tk rt (rL (.slice A0 n0 c0) (.slice A1 n1 c1) came (.slice A2 n2 c2) over (.slice A3 n3 c3) o m s off code (.slice A4 n4 c4))).toArray := by
  rw [built_struct zR_zero Try.underlying64 (places := [(0, 1), (1, 32), (33, 9), (42, 1), (43, 1), (44, 11), (55, 1)]) (by kernel_rfl)]
  rw [fill_put (off := 0) (size := 1) rfl rfl (by rw [zR_size]; omega)]
  rw [fill_put (off := 1) (size := 32) rfl (by simpa [Value.cells] using h1) (by simp only [putAt_size]; rw [zR_size]; omega)]
  rw [fill_put (off := 33) (size := 9) rfl (by simpa [Value.cells] using h2) (by simp only [putAt_size]; rw [zR_size]; omega)]
  rw [fill_put (off := 42) (size := 1) rfl rfl (by simp only [putAt_size]; rw [zR_size]; omega)]
  rw [fill_put (off := 43) (size := 1) rfl rfl (by simp only [putAt_size]; rw [zR_size]; omega)]
  rw [fill_put (off := 44) (size := 11) rfl rfl (by simp only [putAt_size]; rw [zR_size]; omega)]
  rw [fill_put (off := 55) (size := 1) rfl rfl (by simp only [putAt_size]; rw [zR_size]; omega)]
  simp only [Instr.fill, Value.cells, putAt_one]
  rw [zR, cH_setP]
  rw [cH_putR rZ_len fZ_len rg h1]
  rw [cH_putF h1 fZ_len fl h2]
  rw [cH_setT h1 h2, cH_setI h1 h2, cH_putL h1 h2 _ (by simp [rB, rL]), show (55 : Nat) = 44 + 11 from rfl, cH_setL h1 h2]
  rfl
end
section
variable {pc : Int} {rg : List Value} {tk rt : Int}
set_option maxRecDepth 100000 in
set_option maxHeartbeats 4000000 in
theorem of_calls (w : World) (h1 : rg.length = 32) (o1 : ∀ v ∈ rg, v.oneCell' = true) (k0 k1 k2 k3 k4 k5 k6 cy cn : Int) (A0 A2 A3 A4 : Option Addr) (n0 c0 n2 c2 n3 c3 n4 c4 : Nat) (over off : Bool) (came o m : Int) (s : Bool) (code : Int) :
    Calls Try.prog 19 #[.agg (cH pc rg (fc k0 k1 k2 k3 k4 k5 k6 cy cn) tk rt (sL (.slice A0 n0 c0) (.slice A2 n2 c2) (.slice A3 n3 c3) over came o m s off code (.slice A4 n4 c4))).toArray] w fun e w' =>
      e = .returned (.agg (cH pc rg (fc k0 k1 k2 k3 k4 k5 k6 cy cn) tk rt (rL (.slice A0 n0 c0) nl came (.slice A2 n2 c2) over (.slice A3 n3 c3) o m s off code (.slice A4 n4 c4))).toArray) ∧ Below w.heap.size w w' := by
  have H1 := Aside0.mk h1
  have O1 := Aside0.mk o1
  have H2 : Aside0 ((fc k0 k1 k2 k3 k4 k5 k6 cy cn).length = 9) := ⟨rfl⟩
  clear h1 o1
  obtain ⟨B, hB⟩ : ∃ B, w.heap.size = B := ⟨_, rfl⟩
  have HBS := Aside0.mk hB
  go_enter Try.func19, Try.ntmps19
  go_upto_region 1 with (first
    | (refine wpList_alloc_z rfl 64 rfl zR zR_zero ?_; intro w2 hb2 hB2; have HB2 := Aside0.mk hb2; have BB2 := Aside0.mk hB2; clear hb2 hB2))
  generalize hL : sL (.slice A0 n0 c0) (.slice A2 n2 c2) (.slice A3 n3 c3) over came o m s off code (.slice A4 n4 c4) = L
  have HL : Aside0 (L[0]? = some (.slice A0 n0 c0) ∧ L[1]? = some (.slice A2 n2 c2) ∧ L[2]? = some (.slice A3 n3 c3) ∧ L[3]? = some (.bool over) ∧ L[4]? = some (.int .i64 came) ∧ L[5]? = some (.int .u64 o) ∧ L[6]? = some (.int .u64 m) ∧ L[7]? = some (.bool s) ∧ L[8]? = some (.bool off) ∧ L[9]? = some (.int .u32 code) ∧ L[10]? = some (.slice A4 n4 c4)) := ⟨by rw [← hL]; exact ⟨rfl, rfl, rfl, rfl, rfl, rfl, rfl, rfl, rfl, rfl, rfl⟩⟩
  rw [hL] at HB2 BB2
  clear hL
  have HX2 := Aside0.mk (blk_below (by have := blk_new w (.cells (cH pc rg (fc k0 k1 k2 k3 k4 k5 k6 cy cn) tk rt L).toArray 43); rw [hB] at this; exact this) BB2.out)
  have BW2 : Aside0 (Below w.heap.size w w2) := ⟨below_on (below_alloc (Below.refl w.heap.size w) _) BB2.out⟩
  have HGS : Aside0 (w.heap.size ≤ (w.alloc (.cells (cH pc rg (fc k0 k1 k2 k3 k4 k5 k6 cy cn) tk rt L).toArray 43)).heap.size) := ⟨by simp⟩
  clear hB BB2
  generalize (w.alloc (.cells (cH pc rg (fc k0 k1 k2 k3 k4 k5 k6 cy cn) tk rt L).toArray 43)).heap.size = G at HB2 HGS ⊢
  have x0 : w2.cell? ⟨B, 44, none⟩ = some (.slice A0 n0 c0) := at_L HX2.out H1.out H2.out 0 HL.out.1
  have x1 : w2.cell? ⟨B, 45, none⟩ = some (.slice A2 n2 c2) := at_L HX2.out H1.out H2.out 1 HL.out.2.1
  have x2 : w2.cell? ⟨B, 46, none⟩ = some (.slice A3 n3 c3) := at_L HX2.out H1.out H2.out 2 HL.out.2.2.1
  have x3 : w2.cell? ⟨B, 47, none⟩ = some (.bool over) := at_L HX2.out H1.out H2.out 3 HL.out.2.2.2.1
  have x4 : w2.cell? ⟨B, 48, none⟩ = some (.int .i64 came) := at_L HX2.out H1.out H2.out 4 HL.out.2.2.2.2.1
  have x5 : w2.cell? ⟨B, 49, none⟩ = some (.int .u64 o) := at_L HX2.out H1.out H2.out 5 HL.out.2.2.2.2.2.1
  have x6 : w2.cell? ⟨B, 50, none⟩ = some (.int .u64 m) := at_L HX2.out H1.out H2.out 6 HL.out.2.2.2.2.2.2.1
  have x7 : w2.cell? ⟨B, 51, none⟩ = some (.bool s) := at_L HX2.out H1.out H2.out 7 HL.out.2.2.2.2.2.2.2.1
  have x8 : w2.cell? ⟨B, 52, none⟩ = some (.bool off) := at_L HX2.out H1.out H2.out 8 HL.out.2.2.2.2.2.2.2.2.1
  have x9 : w2.cell? ⟨B, 53, none⟩ = some (.int .u32 code) := at_L HX2.out H1.out H2.out 9 HL.out.2.2.2.2.2.2.2.2.2.1
  go_simp
  go_upto_region 2 with (first
    | ((with_reducible refine gate_dst (N := 14) rfl ?_); refine wpList_buildTo rfl 60 #[(1, .tmp 7), (2, .tmp 9), (3, .tmp 11), (4, .tmp 13)] rfl (some 14) rfl #[nl, .int .i64 came, .slice A2 n2 c2, .bool over, .slice A3 n3 c3] (by simp only [List.map_toArray, List.map_cons, List.map_nil]; exact rcon_built A2 A3 n2 c2 n3 c3 came over) ?_)
    | ((with_reducible refine gate_dst (N := 24) rfl ?_); refine wpList_buildTo rfl 30 #[(0, .tmp 17), (1, .tmp 20), (2, .tmp 23)] rfl (some 24) rfl #[.int .u64 o, .int .u64 m, .bool s] (by simp only [List.map_toArray, List.map_cons, List.map_nil]; exact rt_built o m s) ?_)
    | ((with_reducible refine gate_dst (N := 29) rfl ?_); refine wpList_buildTo rfl 62 #[(0, .tmp 5), (1, .tmp 14), (2, .tmp 24), (3, .tmp 26), (4, .tmp 28)] rfl (some 29) rfl (rB (.slice A0 n0 c0) (.slice none 0 0) came (.slice A2 n2 c2) over (.slice A3 n3 c3) o m s off code).toArray (by simp only [List.map_toArray, List.map_cons, List.map_nil]; exact rb_built A0 none A2 A3 n0 c0 0 0 n2 c2 n3 c3 came o m over s off code) ?_)
    | (refine wpList_alloc_z rfl 62 rfl zB zB_zero ?_; intro w3 hb3 hB3; have HB3 := Aside0.mk hb3; have BB3 := Aside0.mk hB3; clear hb3 hB3)
    | ((with_reducible refine gate_store (t := 62) (p := 3) (v := .tmp 29) rfl ?_); refine wpList_store_arr rfl 62 (.tmp 3) (.tmp 29) rfl w2.heap.size rfl (rB (.slice A0 n0 c0) (.slice none 0 0) came (.slice A2 n2 c2) over (.slice A3 n3 c3) o m s off code).toArray rfl zB 62 HB3.out rfl rb_size (all_oneCell_toArray (rB_one rfl rfl rfl rfl)) ?_; intro w4 hf ho; have HF4 := Aside0.mk hf; have HO4 := Aside0.mk ho; clear hf ho))
  have HGL : Aside0 (G < w2.heap.size ∧ w.heap.size ≤ w2.heap.size) := ⟨⟨blk_lt HB2.out, BW2.out.size⟩⟩
  have BW4 := Aside0.mk (HO4.out.below HGL.out.2 (below_on BW2.out BB3.out))
  have HB4 := Aside0.mk (blk_only (blk_below HB2.out BB3.out) HO4.out (Nat.ne_of_lt HGL.out.1))
  have HX4 := Aside0.mk (blk_only (blk_below HX2.out BB3.out) HO4.out (Nat.ne_of_lt (blk_lt HX2.out)))
  clear HO4 HB3 BB3 HB2 HX2 x0 x1 x2 x3 x4 x5 x6 x7 x8 x9
  generalize w2.heap.size = D at HF4 HGL ⊢
  clear BW2
  have y0 := at_P HX4.out
  have y42 := (at_T HX4.out H1.out H2.out).1
  have y43 := (at_T HX4.out H1.out H2.out).2
  have y40 : w4.cell? ⟨B, 40, none⟩ = some (.int .u64 cy) := by
    rw [cell_of_row w4 B 40 _ _ _ HX4.out, List.getElem?_toArray, show 40 = 33 + 7 from rfl]; exact cH_f H1.out H2.out 7 _ rfl
  have y41 : w4.cell? ⟨B, 41, none⟩ = some (.int .u64 cn) := by
    rw [cell_of_row w4 B 41 _ _ _ HX4.out, List.getElem?_toArray, show 41 = 33 + 8 from rfl]; exact cH_f H1.out H2.out 8 _ rfl
  have y54 : w4.cell? ⟨B, 54, none⟩ = some (.slice A4 n4 c4) := at_L HX4.out H1.out H2.out 10 HL.out.2.2.2.2.2.2.2.2.2.2
  go_simp
  go_wp2_with (first
    | ((with_reducible refine gate_dst (N := 33) rfl ?_); refine wpList_load_mid rfl 25 (.tmp 32) rfl B 1 rfl rg _ (range_in HX4.out 1 rg (cH_r H1.out H2.out)) Try.underlying25 rfl (by rw [H1.out]; kernel_rfl) ?_)
    | ((with_reducible refine gate_dst (N := 36) rfl ?_); refine wpList_load_mid rfl 27 (.tmp 35) rfl B 33 rfl [.int .u32 k0, .int .u32 k1, .int .u32 k2, .int .u32 k3, .int .u32 k4, .int .u32 k5, .int .u32 k6] _ (range_in HX4.out 33 _ (fun j v hv => cH_f H1.out H2.out j v (by have hj := (List.getElem?_eq_some_iff.1 hv).1; exact (List.getElem?_append_left (l₂ := [Value.int .u64 cy, .int .u64 cn]) hj).trans hv))) Try.underlying27 rfl (by kernel_rfl) ?_)
    | ((with_reducible refine gate_dst (N := 43) rfl ?_); refine wpList_buildTo rfl 58 #[(0, .tmp 36), (1, .tmp 39), (2, .tmp 42)] rfl (some 43) rfl (fc k0 k1 k2 k3 k4 k5 k6 cy cn).toArray (by simp only [List.map_toArray, List.map_cons, List.map_nil]; exact rf_built k0 k1 k2 k3 k4 k5 k6 cy cn) ?_)
    | ((with_reducible refine gate_dst (N := 48) rfl ?_); refine wpList_load_arr rfl 62 (.tmp 3) rfl D rfl (rB (.slice A0 n0 c0) (.slice none 0 0) came (.slice A2 n2 c2) over (.slice A3 n3 c3) o m s off code).toArray HF4.out _ Try.underlying62 rfl rb_size ?_)
    | ((with_reducible refine gate_dst (N := 51) rfl ?_); refine wpList_buildTo rfl 64 #[(0, .tmp 31), (1, .tmp 33), (2, .tmp 43), (3, .tmp 45), (4, .tmp 47), (5, .tmp 48), (6, .tmp 50)] rfl (some 51) rfl (cH pc rg (fc k0 k1 k2 k3 k4 k5 k6 cy cn) tk rt (rL (.slice A0 n0 c0) (.slice none 0 0) came (.slice A2 n2 c2) over (.slice A3 n3 c3) o m s off code (.slice A4 n4 c4))).toArray (by simp only [List.map_toArray, List.map_cons, List.map_nil]; exact rc_built (pc := pc) (tk := tk) (rt := rt) H1.out H2.out A0 none A2 A3 A4 n0 c0 0 0 n2 c2 n3 c3 n4 c4 came o m over s off code) ?_)
    | ((with_reducible refine gate_store (t := 64) (p := 2) (v := .tmp 51) rfl ?_); refine wpList_store_arr rfl 64 (.tmp 2) (.tmp 51) rfl G rfl (cH pc rg (fc k0 k1 k2 k3 k4 k5 k6 cy cn) tk rt (rL (.slice A0 n0 c0) (.slice none 0 0) came (.slice A2 n2 c2) over (.slice A3 n3 c3) o m s off code (.slice A4 n4 c4))).toArray rfl zR 64 HB4.out (by rw [zR_size, cH_size H1.out H2.out]; rfl) (by rw [cH_size H1.out H2.out]; exact rc_size) (cH_one O1.out (fc_one _ _ _ _ _ _ _ _ _) (rL_one rfl rfl rfl rfl rfl)) ?_; intro w5 hf ho; have HF5 := Aside0.mk hf; have HO5 := Aside0.mk ho; clear hf ho))
  refine bodyPost_ret (results_cell_row rfl _ _ G 64 _ (0, 0) _ rfl HF5.out Try.underlying64 rfl (by rw [cH_size H1.out H2.out]; exact rc_size)) rfl ⟨rfl, HO5.out.below HGS.out BW4.out⟩
end
end Go.Proofs.Ytfnbpmkbjbibkaa

namespace Go.Proofs.Ytfnbpmkbjbibkaa
open Go Go.RowKit Go.Deep Go.Great Go.Proofs.YtfnbpmkbjbibkaaW.PrintWords
set_option linter.unusedVariables false
set_option linter.unusedSimpArgs false

set_option maxRecDepth 100000 in
set_option maxHeartbeats 4000000 in
theorem rsameev_calls (w : World) (A B : Option Addr) (cA cB : Nat) (a b : List (List Value)) (hA : ES w A a) (hB : ES w B b) (ha : a.length ≤ 1000000) (hb : b.length ≤ 1000000) :
    Calls Try.prog 59 #[.slice A a.length cA, .slice B b.length cB] w fun e w' => ∃ x, e = .returned (.bool x) ∧ (x = true ↔ a = b) ∧ Drawn0 w w' := by
  have HA := Aside0.mk hA
  have HB := Aside0.mk hB
  have HLA := Aside0.mk ha
  have HLB := Aside0.mk hb
  clear hA hB ha hb
  go_enter Try.func59, Try.ntmps59
  by_cases hl : a.length = b.length
  · have hl' : ((a.length : Int) != (b.length : Int)) = false := by simp [hl]
    go_wp2_with fail
    have D0 : Aside0 (Drawn0 w w) := ⟨Drawn0.refl _⟩
    obtain ⟨n, hn⟩ : ∃ n, b.length = n := ⟨_, rfl⟩
    have HN : Aside0 (a.length = n ∧ b.length = n) := ⟨⟨hl.trans hn, hn⟩⟩
    rw [hn] at hl' ⊢
    simp only [show a.length = n from hl.trans hn] at hl' ⊢
    clear hl hn hl'
    go_loopg [5] (n + 1) (fun g i wr => ∃ k : Nat, g + k = n + 1 ∧ k ≤ n ∧ i = .int .i64 (k : Int) ∧ Aside0 (Drawn0 w wr) ∧ Aside0 (a.take k = b.take k))
    case atStart => exact ⟨0, by omega, by omega, rfl, D0, ⟨rfl⟩⟩
    case round =>
      obtain ⟨k, hgk, hkn, rfl, DR, HT⟩ := hrel
      clear D0
      by_cases hlt : k < n
      · have hlt' : ((k : Int) < (n : Int)) = True := by simp; omega
        obtain ⟨e, he⟩ : ∃ e, a[k]? = some e := ⟨_, List.getElem?_eq_getElem (by rw [HN.out.1]; exact hlt)⟩
        obtain ⟨f, hf⟩ : ∃ e, b[k]? = some e := ⟨_, List.getElem?_eq_getElem (by rw [HN.out.2]; exact hlt)⟩
        obtain ⟨fe, ad, rfl, he'⟩ := HA.out k e he
        obtain ⟨ff, bd, rfl, hf'⟩ := HB.out k f hf
        have HE := Aside0.mk (And.intro he (And.intro fe fun j v h => pw_cell_below DR.out.below (he' j v h)))
        have HF := Aside0.mk (And.intro hf (And.intro ff fun j v h => pw_cell_below DR.out.below (hf' j v h)))
        clear he hf fe ff he' hf'
        go_upto_region 6 with fail
        refine wp_region_rj (by kernel_rfl) 9 (fun W' => Drawn0 wr W') (fun x y => True) (postEv (some ad) (some bd) n cA cB k ad bd e f) (by kernel_rfl) (fun _ _ _ _ h _ => h) ((Drawn0.refl wr).step 1) ?step ?fin
        case step =>
          intro i op hi him c W' hinv hkeep hdef hpre K hK
          have HI := Aside0.mk hinv
          have HPRE := Aside0.mk hpre
          have HKEEP := Aside0.mk hkeep
          have HKK := Aside0.mk hK
          clear hinv hpre hkeep hK hdef
          obtain rfl | rfl | rfl | rfl | rfl | rfl | rfl | rfl | rfl : i = 0 ∨ i = 1 ∨ i = 2 ∨ i = 3 ∨ i = 4 ∨ i = 5 ∨ i = 6 ∨ i = 7 ∨ i = 8 := by omega
          · cases hi
            have e0 : c.tmps.getD 0 undef = .slice (some ad) n cA := HKEEP.out 0 (by kernel_rfl)
            rw [if_pos (by rfl)]
            go_simp
            exact HKK.out _ _ HI.out trivial (by first | rfl | (simp; done))
          · cases hi
            have e0 : c.tmps.getD 5 undef = .int .i64 (k : Int) := HKEEP.out 5 (by kernel_rfl)
            rw [if_pos (by rfl)]
            go_simp
            exact HKK.out _ _ HI.out trivial (by first | rfl | (simp; done))
          · cases hi
            have e0 : c.tmps.getD 17 undef = .slice (some ad) n cA := HPRE.out 0 (by kernel_rfl) (by omega)
            have e1 : c.tmps.getD 18 undef = .int .i64 (k : Int) := HPRE.out 1 (by kernel_rfl) (by omega)
            rw [if_pos (by rfl)]
            go_simp
            exact HKK.out _ _ HI.out trivial (by first | rfl | (simp; done))
          · cases hi
            have e0 : c.tmps.getD 19 undef = .pointer (some (ad.add (k * 45))) := HPRE.out 2 (by kernel_rfl) (by omega)
            rw [if_pos (by rfl)]
            refine wp_load_at 46 (.tmp 19) rfl (ad.add (k * 45)) e0 e (fun j v hj => by rw [Go.Deep.add_add]; exact pw_cell_below HI.out.below (HE.out.2.2 j v hj)) (by kernel_rfl) (by rw [HE.out.2.1.len45]; exact ev_size) ?_
            exact HKK.out _ _ HI.out trivial rfl
          · cases hi
            have e0 : c.tmps.getD 1 undef = .slice (some bd) n cB := HKEEP.out 1 (by kernel_rfl)
            rw [if_pos (by rfl)]
            go_simp
            exact HKK.out _ _ HI.out trivial (by first | rfl | (simp; done))
          · cases hi
            have e0 : c.tmps.getD 5 undef = .int .i64 (k : Int) := HKEEP.out 5 (by kernel_rfl)
            rw [if_pos (by rfl)]
            go_simp
            exact HKK.out _ _ HI.out trivial (by first | rfl | (simp; done))
          · cases hi
            have e0 : c.tmps.getD 21 undef = .slice (some bd) n cB := HPRE.out 4 (by kernel_rfl) (by omega)
            have e1 : c.tmps.getD 22 undef = .int .i64 (k : Int) := HPRE.out 5 (by kernel_rfl) (by omega)
            rw [if_pos (by rfl)]
            go_simp
            exact HKK.out _ _ HI.out trivial (by first | rfl | (simp; done))
          · cases hi
            have e0 : c.tmps.getD 23 undef = .pointer (some (bd.add (k * 45))) := HPRE.out 6 (by kernel_rfl) (by omega)
            rw [if_pos (by rfl)]
            refine wp_load_at 46 (.tmp 23) rfl (bd.add (k * 45)) e0 f (fun j v hj => by rw [Go.Deep.add_add]; exact pw_cell_below HI.out.below (HF.out.2.2 j v hj)) (by kernel_rfl) (by rw [HF.out.2.1.len45]; exact ev_size) ?_
            exact HKK.out _ _ HI.out trivial rfl
          · cases hi
            have e0 : c.tmps.getD 20 undef = .agg e.toArray := HPRE.out 3 (by kernel_rfl) (by omega)
            have e1 : c.tmps.getD 24 undef = .agg f.toArray := HPRE.out 7 (by kernel_rfl) (by omega)
            rw [if_pos (by rfl)]
            refine wp_neq_flat 46 46 (.tmp 20) (.tmp 24) rfl kE kE_of (by kernel_rfl) (by kernel_rfl) e f e0 e1 HE.out.2.1 HF.out.2.1 ?_
            intro x hx
            exact HKK.out _ _ HI.out trivial ⟨x, rfl, hx⟩
        case fin =>
          intro c W' hinv hsz hdef hkeep hpost
          obtain ⟨x, hx, hxe⟩ := hpost 8 (by omega)
          have e25 : c.tmps.getD 25 undef = .bool (!x) := hx
          refine rj_all (by kernel_rfl) (by kernel_rfl) ?_
          obtain ⟨sl, hlit, hsl⟩ := act_let c 26 hsz
          rw [hdef] at hlit
          have k0 : sl 0 = .slice (some ad) n cA := (hsl 0).trans (hkeep 0 (by kernel_rfl))
          have k1 : sl 1 = .slice (some bd) n cB := (hsl 1).trans (hkeep 1 (by kernel_rfl))
          have k2 : sl 2 = undef := (hsl 2).trans (hkeep 2 (by kernel_rfl))
          have k3 : sl 3 = undef := (hsl 3).trans (hkeep 3 (by kernel_rfl))
          have k4 : sl 4 = u4 := (hsl 4).trans (hkeep 4 (by kernel_rfl))
          have k5 : sl 5 = .int .i64 (k : Int) := (hsl 5).trans (hkeep 5 (by kernel_rfl))
          have k6 : sl 6 = .slice (some ad) n cA := (hsl 6).trans (hkeep 6 (by kernel_rfl))
          have k7 : sl 7 = .int .i64 (n : Int) := (hsl 7).trans (hkeep 7 (by kernel_rfl))
          have k8 : sl 8 = .slice (some bd) n cB := (hsl 8).trans (hkeep 8 (by kernel_rfl))
          have k9 : sl 9 = .int .i64 (n : Int) := (hsl 9).trans (hkeep 9 (by kernel_rfl))
          have k10 : sl 10 = .bool false := (hsl 10).trans (hkeep 10 (by kernel_rfl))
          have k11 : sl 11 = .int .i64 (k : Int) := (hsl 11).trans (hkeep 11 (by kernel_rfl))
          have k12 : sl 12 = .slice (some ad) n cA := (hsl 12).trans (hkeep 12 (by kernel_rfl))
          have k13 : sl 13 = .int .i64 (n : Int) := (hsl 13).trans (hkeep 13 (by kernel_rfl))
          have k14 : sl 14 = .bool true := (hsl 14).trans (hkeep 14 (by kernel_rfl))
          have k15 : sl 15 = u15 := (hsl 15).trans (hkeep 15 (by kernel_rfl))
          have k16 : sl 16 = u16 := (hsl 16).trans (hkeep 16 (by kernel_rfl))
          rw [← hsl] at e25
          simp only [show List.range 26 = [0, 1, 2, 3, 4, 5, 6, 7, 8, 9, 10, 11, 12, 13, 14, 15, 16, 17, 18, 19, 20, 21, 22, 23, 24, 25] from rfl, List.map_cons, List.map_nil, e25, k0, k1, k2, k3, k4, k5, k6, k7, k8, k9, k10, k11, k12, k13, k14, k15, k16] at hlit
          rw [hlit]
          have DR2 : Aside0 (Drawn0 w W') := ⟨by obtain ⟨k1, h1⟩ := hinv.out; rw [h1]; exact DR.out.step k1⟩
          clear hkeep hsz hdef hsl hlit hpost hinv e25 hx k0 k1 k2 k3 k4 k5 k6 k7 k8 k9 k10 k11 k12 k13 k14 k15 k16
          cases x with
          | false =>
            have hne : ¬ e = f := fun h => by cases hxe.2 h
            go_wp2_with fail
            go_ret
            refine ⟨false, rfl, ⟨fun h => (by cases h), fun h => absurd ?_ hne⟩, DR2.out⟩
            have h1 := HE.out.1
            rw [h, HF.out.1] at h1
            exact (Option.some.inj h1).symm
          | true =>
            obtain rfl := hxe.1 rfl
            have HT2 : Aside0 (a.take (k + 1) = b.take (k + 1)) := ⟨by
              rw [List.take_add_one, List.take_add_one, HT.out, HE.out.1, HF.out.1]⟩
            clear hxe
            go_wp2_with fail
            go_roundg (gk - 1)
            case measure => omega
            case rel => exact ⟨k + 1, by omega, by omega, by have h1 := HLA.out; have h2 := HN.out.1; congr 1; unfold wrap64; omega, DR2, HT2⟩
      · obtain rfl : k = n := by omega
        have hlt' : ((k : Int) < (k : Int)) = False := by simp
        go_wp2_with fail
        go_ret
        refine ⟨true, rfl, ⟨fun _ => ?_, fun _ => rfl⟩, DR.out⟩
        have := HT.out
        rwa [List.take_of_length_le (by rw [HN.out.1]; exact Nat.le_refl _), List.take_of_length_le (by rw [HN.out.2]; exact Nat.le_refl _)] at this
  · have hl' : ((a.length : Int) != (b.length : Int)) = true := by simp; omega
    go_wp2
    go_ret
    exact ⟨false, rfl, ⟨fun h => (by cases h), fun h => absurd (congrArg List.length h) hl⟩, Drawn0.refl _⟩
end Go.Proofs.Ytfnbpmkbjbibkaa

namespace Go.Proofs.Ytfnbpmkbjbibkaa
open Go Go.RowKit Go.Deep Go.Great Go.Proofs.YtfnbpmkbjbibkaaW.PrintWords
set_option linter.unusedVariables false
set_option linter.unusedSimpArgs false

section
variable {P : Program}
theorem wpListW_load_mid {ops : Array Oper} {rest : List Oper} {op : Oper} {a : Act} {w : World} {Q : Exit → Act → World → Prop} (hw : Region.wanted op (yielded ops a.tmps) = true) (ty : TypeId) (x : Operand) (ho : op.op = .load ty x)
    (b o : Nat) (hx : a.eval x = .pointer (some ⟨b, o, none⟩)) (cs : List Value) (d : TypeDesc) (hc : w.rangeAt b o cs)
    (hu : P.underlying ty = some d) (hd : d.isRow = true) (hi : (P.info? ty).map (·.size) = some cs.length)
    (h : wpList P ops Q rest (a.put op.dst (.agg cs.toArray)) w) : wpList P ops Q (op :: rest) a w :=
  Go.BigFrame.wpList_want hw fun _ hK => wp_load_mid ty x ho b o hx cs d hc hu hd hi (hK _ _ h)
theorem wpListW_neq_same {ops : Array Oper} {Q : Exit → Act → World → Prop} {rest : List Oper} {o : Oper} {a : Act} {w : World} (hw : Region.wanted o (yielded ops a.tmps) = true) (t yt : TypeId) (x y : Operand) (ho : o.op = .binOp .neq t x y yt) (ks : List (Option IntKind)) (hk : kindsOf P 20 t = some ks) (ha : (match P.underlying t with | some (.struct _) | some (.array _ _) => true | _ => false) = true)
    (hm : P.eqGuardType P.depth t = false) (xs : List Value) (hx : a.eval x = .agg xs.toArray) (hy : a.eval y = .agg xs.toArray) (fx : Fits ks xs) (h : wpList P ops Q rest (a.put o.dst (.bool false)) w) : wpList P ops Q (o :: rest) a w :=
  wpListW_neq_flat hw t yt x y ho ks hk ha hm xs xs hx hy fx fx fun b hb => by
    obtain rfl : b = true := hb.2 rfl
    exact h
end
def kT : List (Option IntKind) := [some .u64, some .u64, none]
theorem kT_of : kindsOf Try.prog 20 30 = some kT := by kernel_rfl
theorem kF_of : kindsOf Try.prog 20 58 = some kF := by kernel_rfl
theorem kG_of : kindsOf Try.prog 20 25 = some (List.replicate 32 (some .u32)) := by kernel_rfl
theorem kT_fit (o m : Int) (s : Bool) : Fits kT [.int .u64 o, .int .u64 m, .bool s] := .cons ⟨_, rfl⟩ (.cons ⟨_, rfl⟩ (.cons ⟨_, rfl⟩ .nil))
theorem rcon_zero : (Try.prog.info? 60).bind (fun i => i.zero.map (·.cells)) = some #[nl, .int .i64 0, nl, .bool false, nl] := by kernel_rfl
theorem rcon_size : (Try.prog.info? 60).map (·.size) = some 5 := by kernel_rfl
structure RSin (w : World) (b b' rx rx' ox ox' ev ev' : Value) : Prop where
  h1 : ∀ w', Below w.heap.size w w' → Calls Try.prog 58 #[b, b'] w' fun e w'' => e = .returned (.bool true) ∧ Below w'.heap.size w' w''
  h2 : ∀ w', Below w.heap.size w w' → Calls Try.prog 58 #[rx, rx'] w' fun e w'' => e = .returned (.bool true) ∧ Below w'.heap.size w' w''
  h3 : ∀ w', Below w.heap.size w w' → Calls Try.prog 58 #[ox, ox'] w' fun e w'' => e = .returned (.bool true) ∧ Below w'.heap.size w' w''
  h4 : ∀ w', Below w.heap.size w w' → Calls Try.prog 59 #[ev, ev'] w' fun e w'' => e = .returned (.bool true) ∧ Below w'.heap.size w' w''

set_option maxRecDepth 100000 in
set_option maxHeartbeats 8000000 in
theorem rsame_calls (w : World) {pc : Int} {rg fl : List Value} {tk rt : Int} (A0 A1 A2 A3 A4 A5 A6 A7 A8 A9 : Option Addr) (n0 c0 n1 c1 n2 c2 n3 c3 n4 c4 n5 c5 n6 c6 n7 c7 n8 c8 n9 c9 : Nat) (over off : Bool) (came o m : Int) (s : Bool) (code : Int)
    (h1 : rg.length = 32) (h2 : fl.length = 9) (k1 : Fits (List.replicate 32 (some .u32)) rg) (k2 : Fits kF fl)
    (h : RSin w (.slice A0 n0 c0) (.slice A5 n5 c5) (.slice A2 n2 c2) (.slice A7 n7 c7) (.slice A3 n3 c3) (.slice A8 n8 c8) (.slice A4 n4 c4) (.slice A9 n9 c9)) :
    Calls Try.prog 18 #[.agg (cH pc rg fl tk rt (rL (.slice A0 n0 c0) (.slice A1 n1 c1) came (.slice A2 n2 c2) over (.slice A3 n3 c3) o m s off code (.slice A4 n4 c4))).toArray,
      .agg (cH pc rg fl tk rt (rL (.slice A5 n5 c5) (.slice A6 n6 c6) came (.slice A7 n7 c7) over (.slice A8 n8 c8) o m s off code (.slice A9 n9 c9))).toArray] w fun e w' => e = .returned (.bool true) ∧ Below w.heap.size w w' := by
  have H := Aside0.mk h
  have H1 := Aside0.mk h1
  have H2 := Aside0.mk h2
  have K1 := Aside0.mk k1
  have K2 := Aside0.mk k2
  clear h h1 h2 k1 k2
  obtain ⟨B, hB⟩ : ∃ B, w.heap.size = B := ⟨_, rfl⟩
  have HBS := Aside0.mk hB
  go_enter Try.func18, Try.ntmps18
  go_upto_region 1 with fail
  generalize hL : rL (.slice A0 n0 c0) (.slice A1 n1 c1) came (.slice A2 n2 c2) over (.slice A3 n3 c3) o m s off code (.slice A4 n4 c4) = L
  generalize hM : rL (.slice A5 n5 c5) (.slice A6 n6 c6) came (.slice A7 n7 c7) over (.slice A8 n8 c8) o m s off code (.slice A9 n9 c9) = M
  have HL : Aside0 (∀ (j : Nat) v, (rL (.slice A0 n0 c0) (.slice A1 n1 c1) came (.slice A2 n2 c2) over (.slice A3 n3 c3) o m s off code (.slice A4 n4 c4))[j]? = some v → L[j]? = some v) := ⟨by rw [← hL]; exact fun _ _ h => h⟩
  have HM : Aside0 (∀ (j : Nat) v, (rL (.slice A5 n5 c5) (.slice A6 n6 c6) came (.slice A7 n7 c7) over (.slice A8 n8 c8) o m s off code (.slice A9 n9 c9))[j]? = some v → M[j]? = some v) := ⟨by rw [← hM]; exact fun _ _ h => h⟩
  clear hL hM
  obtain ⟨g3, hg3⟩ : ∃ g, (w.alloc (.cells (cH pc rg fl tk rt L).toArray 64)).heap.size = g := ⟨_, rfl⟩
  have HX := Aside0.mk (blk_below (by have := blk_new w (.cells (cH pc rg fl tk rt L).toArray 64); rw [hB] at this; exact this) (below_alloc (Below.refl _ (w.alloc (.cells (cH pc rg fl tk rt L).toArray 64))) (.cells (cH pc rg fl tk rt M).toArray 64)))
  have HY := Aside0.mk (show ((w.alloc (.cells (cH pc rg fl tk rt L).toArray 64)).alloc (.cells (cH pc rg fl tk rt M).toArray 64)).heap[g3]? = some (.cells (cH pc rg fl tk rt M).toArray 64 (0, 0)) by rw [← hg3]; exact blk_new _ _)
  have BW := Aside0.mk (below_alloc (below_alloc (Below.refl w.heap.size w) (.cells (cH pc rg fl tk rt L).toArray 64)) (.cells (cH pc rg fl tk rt M).toArray 64))
  have hg3' : B + 1 = g3 := by rw [← hg3, ← hB]; simp
  rw [hg3']
  clear hB hg3 hg3'
  generalize (w.alloc (.cells (cH pc rg fl tk rt L).toArray 64)).alloc (.cells (cH pc rg fl tk rt M).toArray 64) = w1 at HX HY BW ⊢
  have a0 := at_P HX.out
  have a42 := (at_T HX.out H1.out H2.out).1
  have a43 := (at_T HX.out H1.out H2.out).2
  have a53 : w1.cell? ⟨B, 53, none⟩ = some (.bool off) := at_L HX.out H1.out H2.out 9 (HL.out 9 _ rfl)
  have a54 : w1.cell? ⟨B, 54, none⟩ = some (.int .u32 code) := at_L HX.out H1.out H2.out 10 (HL.out 10 _ rfl)
  have b0 := at_P HY.out
  have b42 := (at_T HY.out H1.out H2.out).1
  have b43 := (at_T HY.out H1.out H2.out).2
  have b53 : w1.cell? ⟨g3, 53, none⟩ = some (.bool off) := at_L HY.out H1.out H2.out 9 (HM.out 9 _ rfl)
  have b54 : w1.cell? ⟨g3, 54, none⟩ = some (.int .u32 code) := at_L HY.out H1.out H2.out 10 (HM.out 10 _ rfl)
  go_upto_region 3 with (first
    | ((with_reducible refine gate_dst (N := 14) rfl ?_); refine wpListW_load_mid rfl 25 (.tmp 13) rfl B 1 rfl rg _ (range_in HX.out 1 rg (cH_r H1.out H2.out)) Try.underlying25 rfl (by rw [H1.out]; kernel_rfl) ?_)
    | ((with_reducible refine gate_dst (N := 16) rfl ?_); refine wpListW_load_mid rfl 25 (.tmp 15) rfl g3 1 rfl rg _ (range_in HY.out 1 rg (cH_r H1.out H2.out)) Try.underlying25 rfl (by rw [H1.out]; kernel_rfl) ?_)
    | ((with_reducible refine gate_dst (N := 17) rfl ?_); refine wpListW_neq_same rfl 25 25 (.tmp 14) (.tmp 16) rfl _ kG_of (by kernel_rfl) (by kernel_rfl) rg rfl rfl K1.out ?_)
    | ((with_reducible refine gate_dst (N := 21) rfl ?_); refine wpListW_load_mid rfl 58 (.tmp 20) rfl B 33 rfl fl _ (range_in HX.out 33 fl (cH_f H1.out H2.out)) Try.underlying58 rfl (by rw [H2.out]; kernel_rfl) ?_)
    | ((with_reducible refine gate_dst (N := 23) rfl ?_); refine wpListW_load_mid rfl 58 (.tmp 22) rfl g3 33 rfl fl _ (range_in HY.out 33 fl (cH_f H1.out H2.out)) Try.underlying58 rfl (by rw [H2.out]; kernel_rfl) ?_)
    | ((with_reducible refine gate_dst (N := 24) rfl ?_); refine wpListW_neq_same rfl 58 58 (.tmp 21) (.tmp 23) rfl _ kF_of (by kernel_rfl) (by kernel_rfl) fl rfl rfl K2.out ?_)
    | ((with_reducible refine gate_dst (N := 43) rfl ?_); refine wpListW_load_mid rfl 30 (.tmp 42) rfl B 50 rfl [.int .u64 o, .int .u64 m, .bool s] _ (range_in HX.out 50 _ (fun j v hv => by rw [show 50 + j = 44 + (6 + j) by omega, cH_L H1.out H2.out]; exact HL.out _ _ (by rcases j with _ | _ | _ | j <;> simp_all [rL, rB]))) Try.underlying30 rfl (by kernel_rfl) ?_)
    | ((with_reducible refine gate_dst (N := 46) rfl ?_); refine wpListW_load_mid rfl 30 (.tmp 45) rfl g3 50 rfl [.int .u64 o, .int .u64 m, .bool s] _ (range_in HY.out 50 _ (fun j v hv => by rw [show 50 + j = 44 + (6 + j) by omega, cH_L H1.out H2.out]; exact HM.out _ _ (by rcases j with _ | _ | _ | j <;> simp_all [rL, rB]))) Try.underlying30 rfl (by kernel_rfl) ?_)
    | ((with_reducible refine gate_dst (N := 47) rfl ?_); refine wpListW_neq_same rfl 30 30 (.tmp 43) (.tmp 46) rfl _ kT_of (by kernel_rfl) (by kernel_rfl) _ rfl rfl (kT_fit o m s) ?_))
  have HBL : Aside0 (w.heap.size ≤ w1.heap.size ∧ B < w1.heap.size ∧ g3 < w1.heap.size) := ⟨⟨BW.out.size, blk_lt HX.out, blk_lt HY.out⟩⟩
  clear a0 a42 a43 a53 a54 b0 b42 b43 b53 b54
  go_upto_region 4 with (first
    | ((with_reducible refine gate_dst (N := 69) rfl ?_); refine wpList_load_mid rfl 60 (.tmp 68) rfl B 45 rfl [.slice A1 n1 c1, .int .i64 came, .slice A2 n2 c2, .bool over, .slice A3 n3 c3] _ (range_in HX.out 45 _ (fun j v hv => by rw [show 45 + j = 44 + (1 + j) by omega, cH_L H1.out H2.out]; exact HL.out _ _ (by rcases j with _ | _ | _ | _ | _ | j <;> simp_all [rL, rB]))) Try.underlying60 rfl (by kernel_rfl) ?_)
    | (refine wpList_alloc_z rfl 60 rfl _ rcon_zero ?_; intro w2 hb2 hB2; have HB2 := Aside0.mk hb2; have BB2 := Aside0.mk hB2; clear hb2 hB2)
    | ((with_reducible refine gate_store (t := 60) (p := 5) (v := .tmp 69) rfl ?_); refine wpList_store_arr rfl 60 (.tmp 5) (.tmp 69) rfl w1.heap.size rfl #[.slice A1 n1 c1, .int .i64 came, .slice A2 n2 c2, .bool over, .slice A3 n3 c3] rfl _ 60 HB2.out rfl rcon_size (by simp [Value.oneCell']) ?_; intro w3 hf ho; have HF3 := Aside0.mk hf; have HO3 := Aside0.mk ho; clear hf ho))
  have BW3 := Aside0.mk (HO3.out.below HBL.out.1 (below_on BW.out BB2.out))
  have HX3 := Aside0.mk (blk_only (blk_below HX.out BB2.out) HO3.out (Nat.ne_of_lt HBL.out.2.1))
  have HY3 := Aside0.mk (blk_only (blk_below HY.out BB2.out) HO3.out (Nat.ne_of_lt HBL.out.2.2))
  clear HO3 HB2 BB2 HX HY BW
  generalize w1.heap.size = g5 at HF3 HBL ⊢
  have HL3 : Aside0 (w.heap.size ≤ w3.heap.size ∧ B < w3.heap.size ∧ g3 < w3.heap.size ∧ g5 < w3.heap.size) := ⟨⟨BW3.out.size, blk_lt HX3.out, blk_lt HY3.out, blk_lt HF3.out⟩⟩
  go_simp
  go_upto_region 5 with (first
    | ((with_reducible refine gate_dst (N := 72) rfl ?_); refine wpList_load_mid rfl 60 (.tmp 71) rfl g3 45 rfl [.slice A6 n6 c6, .int .i64 came, .slice A7 n7 c7, .bool over, .slice A8 n8 c8] _ (range_in HY3.out 45 _ (fun j v hv => by rw [show 45 + j = 44 + (1 + j) by omega, cH_L H1.out H2.out]; exact HM.out _ _ (by rcases j with _ | _ | _ | _ | _ | j <;> simp_all [rL, rB]))) Try.underlying60 rfl (by kernel_rfl) ?_)
    | (refine wpList_alloc_z rfl 60 rfl _ rcon_zero ?_; intro w4 hb2 hB2; have HB4 := Aside0.mk hb2; have BB4 := Aside0.mk hB2; clear hb2 hB2)
    | ((with_reducible refine gate_store (t := 60) (p := 6) (v := .tmp 72) rfl ?_); refine wpList_store_arr rfl 60 (.tmp 6) (.tmp 72) rfl w3.heap.size rfl #[.slice A6 n6 c6, .int .i64 came, .slice A7 n7 c7, .bool over, .slice A8 n8 c8] rfl _ 60 HB4.out rfl rcon_size (by simp [Value.oneCell']) ?_; intro w5 hf ho; have HF5 := Aside0.mk hf; have HO5 := Aside0.mk ho; clear hf ho))
  have BW5 := Aside0.mk (HO5.out.below HL3.out.1 (below_on BW3.out BB4.out))
  have HX5 := Aside0.mk (blk_only (blk_below HX3.out BB4.out) HO5.out (Nat.ne_of_lt HL3.out.2.1))
  have HY5 := Aside0.mk (blk_only (blk_below HY3.out BB4.out) HO5.out (Nat.ne_of_lt HL3.out.2.2.1))
  have HC5 := Aside0.mk (blk_only (blk_below HF3.out BB4.out) HO5.out (Nat.ne_of_lt HL3.out.2.2.2))
  clear HO5 HB4 BB4 HX3 HY3 BW3 HF3
  generalize w3.heap.size = g6 at HF5 HL3 ⊢
  clear HL3 HBL
  go_simp
  have p0 : w5.cell? ⟨B, 44, none⟩ = some (.slice A0 n0 c0) := at_L HX5.out H1.out H2.out 0 (HL.out 0 _ rfl)
  have p1 : w5.cell? ⟨g3, 44, none⟩ = some (.slice A5 n5 c5) := at_L HY5.out H1.out H2.out 0 (HM.out 0 _ rfl)
  have p2 : w5.cell? ⟨g5, 2, none⟩ = some (.slice A2 n2 c2) := cell_of_row w5 g5 2 _ _ _ HC5.out
  have p3 : w5.cell? ⟨g6, 2, none⟩ = some (.slice A7 n7 c7) := cell_of_row w5 g6 2 _ _ _ HF5.out
  have p4 : w5.cell? ⟨g5, 4, none⟩ = some (.slice A3 n3 c3) := cell_of_row w5 g5 4 _ _ _ HC5.out
  have p5 : w5.cell? ⟨g6, 4, none⟩ = some (.slice A8 n8 c8) := cell_of_row w5 g6 4 _ _ _ HF5.out
  have p6 : w5.cell? ⟨g5, 3, none⟩ = some (.bool over) := cell_of_row w5 g5 3 _ _ _ HC5.out
  have p7 : w5.cell? ⟨g6, 3, none⟩ = some (.bool over) := cell_of_row w5 g6 3 _ _ _ HF5.out
  have p8 : w5.cell? ⟨g5, 1, none⟩ = some (.int .i64 came) := cell_of_row w5 g5 1 _ _ _ HC5.out
  have p9 : w5.cell? ⟨g6, 1, none⟩ = some (.int .i64 came) := cell_of_row w5 g6 1 _ _ _ HF5.out
  have q0 : w5.cell? ⟨B, 55, none⟩ = some (.slice A4 n4 c4) := at_L HX5.out H1.out H2.out 11 (HL.out 11 _ rfl)
  have q1 : w5.cell? ⟨g3, 55, none⟩ = some (.slice A9 n9 c9) := at_L HY5.out H1.out H2.out 11 (HM.out 11 _ rfl)
  go_wp2_with fail
  refine (H.out.h1 _ BW5.out).mono ?_
  rintro e w6 ⟨rfl, d⟩
  clear p0 p1 p2 p3 p4 p5 p6 p7 p8 p9 q0 q1
  have BW6 := Aside0.mk (below_on BW5.out d)
  have HX6 := Aside0.mk (blk_below HX5.out d)
  have HY6 := Aside0.mk (blk_below HY5.out d)
  have HC6 := Aside0.mk (blk_below HC5.out d)
  have HF6 := Aside0.mk (blk_below HF5.out d)
  clear d BW5 HX5 HY5 HC5 HF5
  have p0 : w6.cell? ⟨B, 44, none⟩ = some (.slice A0 n0 c0) := at_L HX6.out H1.out H2.out 0 (HL.out 0 _ rfl)
  have p1 : w6.cell? ⟨g3, 44, none⟩ = some (.slice A5 n5 c5) := at_L HY6.out H1.out H2.out 0 (HM.out 0 _ rfl)
  have p2 : w6.cell? ⟨g5, 2, none⟩ = some (.slice A2 n2 c2) := cell_of_row w6 g5 2 _ _ _ HC6.out
  have p3 : w6.cell? ⟨g6, 2, none⟩ = some (.slice A7 n7 c7) := cell_of_row w6 g6 2 _ _ _ HF6.out
  have p4 : w6.cell? ⟨g5, 4, none⟩ = some (.slice A3 n3 c3) := cell_of_row w6 g5 4 _ _ _ HC6.out
  have p5 : w6.cell? ⟨g6, 4, none⟩ = some (.slice A8 n8 c8) := cell_of_row w6 g6 4 _ _ _ HF6.out
  have p6 : w6.cell? ⟨g5, 3, none⟩ = some (.bool over) := cell_of_row w6 g5 3 _ _ _ HC6.out
  have p7 : w6.cell? ⟨g6, 3, none⟩ = some (.bool over) := cell_of_row w6 g6 3 _ _ _ HF6.out
  have p8 : w6.cell? ⟨g5, 1, none⟩ = some (.int .i64 came) := cell_of_row w6 g5 1 _ _ _ HC6.out
  have p9 : w6.cell? ⟨g6, 1, none⟩ = some (.int .i64 came) := cell_of_row w6 g6 1 _ _ _ HF6.out
  have q0 : w6.cell? ⟨B, 55, none⟩ = some (.slice A4 n4 c4) := at_L HX6.out H1.out H2.out 11 (HL.out 11 _ rfl)
  have q1 : w6.cell? ⟨g3, 55, none⟩ = some (.slice A9 n9 c9) := at_L HY6.out H1.out H2.out 11 (HM.out 11 _ rfl)
  go_wp2_with fail
  refine (H.out.h2 _ BW6.out).mono ?_
  rintro e w7 ⟨rfl, d⟩
  clear p0 p1 p2 p3 p4 p5 p6 p7 p8 p9 q0 q1
  have BW7 := Aside0.mk (below_on BW6.out d)
  have HX7 := Aside0.mk (blk_below HX6.out d)
  have HY7 := Aside0.mk (blk_below HY6.out d)
  have HC7 := Aside0.mk (blk_below HC6.out d)
  have HF7 := Aside0.mk (blk_below HF6.out d)
  clear d BW6 HX6 HY6 HC6 HF6
  have p0 : w7.cell? ⟨B, 44, none⟩ = some (.slice A0 n0 c0) := at_L HX7.out H1.out H2.out 0 (HL.out 0 _ rfl)
  have p1 : w7.cell? ⟨g3, 44, none⟩ = some (.slice A5 n5 c5) := at_L HY7.out H1.out H2.out 0 (HM.out 0 _ rfl)
  have p2 : w7.cell? ⟨g5, 2, none⟩ = some (.slice A2 n2 c2) := cell_of_row w7 g5 2 _ _ _ HC7.out
  have p3 : w7.cell? ⟨g6, 2, none⟩ = some (.slice A7 n7 c7) := cell_of_row w7 g6 2 _ _ _ HF7.out
  have p4 : w7.cell? ⟨g5, 4, none⟩ = some (.slice A3 n3 c3) := cell_of_row w7 g5 4 _ _ _ HC7.out
  have p5 : w7.cell? ⟨g6, 4, none⟩ = some (.slice A8 n8 c8) := cell_of_row w7 g6 4 _ _ _ HF7.out
  have p6 : w7.cell? ⟨g5, 3, none⟩ = some (.bool over) := cell_of_row w7 g5 3 _ _ _ HC7.out
  have p7 : w7.cell? ⟨g6, 3, none⟩ = some (.bool over) := cell_of_row w7 g6 3 _ _ _ HF7.out
  have p8 : w7.cell? ⟨g5, 1, none⟩ = some (.int .i64 came) := cell_of_row w7 g5 1 _ _ _ HC7.out
  have p9 : w7.cell? ⟨g6, 1, none⟩ = some (.int .i64 came) := cell_of_row w7 g6 1 _ _ _ HF7.out
  have q0 : w7.cell? ⟨B, 55, none⟩ = some (.slice A4 n4 c4) := at_L HX7.out H1.out H2.out 11 (HL.out 11 _ rfl)
  have q1 : w7.cell? ⟨g3, 55, none⟩ = some (.slice A9 n9 c9) := at_L HY7.out H1.out H2.out 11 (HM.out 11 _ rfl)
  go_wp2_with fail
  refine (H.out.h3 _ BW7.out).mono ?_
  rintro e w8 ⟨rfl, d⟩
  clear p0 p1 p2 p3 p4 p5 p6 p7 p8 p9 q0 q1
  have BW8 := Aside0.mk (below_on BW7.out d)
  have HX8 := Aside0.mk (blk_below HX7.out d)
  have HY8 := Aside0.mk (blk_below HY7.out d)
  have HC8 := Aside0.mk (blk_below HC7.out d)
  have HF8 := Aside0.mk (blk_below HF7.out d)
  clear d BW7 HX7 HY7 HC7 HF7
  have p0 : w8.cell? ⟨B, 44, none⟩ = some (.slice A0 n0 c0) := at_L HX8.out H1.out H2.out 0 (HL.out 0 _ rfl)
  have p1 : w8.cell? ⟨g3, 44, none⟩ = some (.slice A5 n5 c5) := at_L HY8.out H1.out H2.out 0 (HM.out 0 _ rfl)
  have p2 : w8.cell? ⟨g5, 2, none⟩ = some (.slice A2 n2 c2) := cell_of_row w8 g5 2 _ _ _ HC8.out
  have p3 : w8.cell? ⟨g6, 2, none⟩ = some (.slice A7 n7 c7) := cell_of_row w8 g6 2 _ _ _ HF8.out
  have p4 : w8.cell? ⟨g5, 4, none⟩ = some (.slice A3 n3 c3) := cell_of_row w8 g5 4 _ _ _ HC8.out
  have p5 : w8.cell? ⟨g6, 4, none⟩ = some (.slice A8 n8 c8) := cell_of_row w8 g6 4 _ _ _ HF8.out
  have p6 : w8.cell? ⟨g5, 3, none⟩ = some (.bool over) := cell_of_row w8 g5 3 _ _ _ HC8.out
  have p7 : w8.cell? ⟨g6, 3, none⟩ = some (.bool over) := cell_of_row w8 g6 3 _ _ _ HF8.out
  have p8 : w8.cell? ⟨g5, 1, none⟩ = some (.int .i64 came) := cell_of_row w8 g5 1 _ _ _ HC8.out
  have p9 : w8.cell? ⟨g6, 1, none⟩ = some (.int .i64 came) := cell_of_row w8 g6 1 _ _ _ HF8.out
  have q0 : w8.cell? ⟨B, 55, none⟩ = some (.slice A4 n4 c4) := at_L HX8.out H1.out H2.out 11 (HL.out 11 _ rfl)
  have q1 : w8.cell? ⟨g3, 55, none⟩ = some (.slice A9 n9 c9) := at_L HY8.out H1.out H2.out 11 (HM.out 11 _ rfl)
  go_wp2_with fail
  refine (H.out.h4 _ BW8.out).mono ?_
  rintro e w9 ⟨rfl, d⟩
  clear p0 p1 p2 p3 p4 p5 p6 p7 p8 p9 q0 q1
  have BW9 := Aside0.mk (below_on BW8.out d)
  have HX9 := Aside0.mk (blk_below HX8.out d)
  have HY9 := Aside0.mk (blk_below HY8.out d)
  have HC9 := Aside0.mk (blk_below HC8.out d)
  have HF9 := Aside0.mk (blk_below HF8.out d)
  clear d BW8 HX8 HY8 HC8 HF8
  go_wp2_with fail
  go_ret
  exact ⟨rfl, BW9.out⟩
end Go.Proofs.Ytfnbpmkbjbibkaa

namespace Go.Proofs.Ytfnbpmkbjbibkaa
open Go Go.RowKit Go.Deep Go.Great Go.Proofs.YtfnbpmkbjbibkaaW.PrintWords Go.Proofs.Ytfnbpmkbjbibkaa.QCpuNews
set_option linter.unusedVariables false
set_option linter.unusedSimpArgs false

theorem ref_up (o m t : Int) (s : Bool) : mimesisref13_Up.f o m s t = some (tup t o m) := by
  unfold mimesisref13_Up.f mimesisref13_Now.f
  rfl
/-- What calls. -/
def bcallsv (s u r : Bool) : Int := (if s then 8 else 0) + (if u then 128 else 0) + (if r then 2048 else 0)
set_option maxRecDepth 100000 in
set_option maxHeartbeats 2000000 in
/-- What calls, of the program's bus. -/
theorem bcalls_calls {W w : World} {B R C T BB BW BG nr k : Nat} {X : Nat → Prop} {l : List Int} {ws : List Bool} {gs : List Int} {al : List (Int × Int)} {came : Nat} {q : List Int} {over : Bool} {out : List Int} {o m : Int} {s : Bool} {off : Bool} {code : Int} (t : Int) (h : MB W w B R C T BB BW BG nr k X l ws gs al came q over out o m s off code) : Calls Try.prog 57 #[.pointer (some ⟨B, 0, none⟩), .int .u64 t] w fun e w' => e = .returned (.int .u32 (bcallsv s (tup t o m) (decide (0 < q.length)))) ∧ Below w.heap.size w w' := by
  have H := Aside0.mk h
  have b2 := h.b.c2
  have b1 := h.b.c1
  have t2 := h.t.c2
  have HU := Aside0.mk (fun w' (d : Below w.heap.size w w') => tup_calls w' T o m t s (h.t.below d))
  have HR := Aside0.mk (fun w' (d : Below w.heap.size w w') => kc_ready (h.c.below d))
  have B0 : Aside0 (Below w.heap.size w w) := ⟨Below.refl _ _⟩
  obtain ⟨u, hu⟩ : ∃ u, tup t o m = u := ⟨_, rfl⟩
  obtain ⟨r, hr⟩ : ∃ r, decide (0 < q.length) = r := ⟨_, rfl⟩
  rw [hu] at HU ⊢
  rw [hr] at HR ⊢
  clear h hu hr
  go_enter Try.func57, Try.ntmps57
  cases s <;> cases u <;> cases r <;> (
    go_wp2_with fail
    refine (HU.out _ B0.out).mono ?_
    rintro e w1 ⟨rfl, d1⟩
    have B1 := Aside0.mk d1.below
    have b1' : w1.cell? ⟨B, 1, none⟩ = some (.pointer (some ⟨C, 0, none⟩)) := pw_cell_below d1.below b1
    clear d1
    go_wp2_with fail
    refine (HR.out _ B1.out).mono ?_
    rintro e w2 ⟨rfl, d2⟩
    have B2 := Aside0.mk (below_on B1.out d2.below)
    clear d2
    go_wp2_with fail
    (try (have hbit : Go.bits .or .u32 0 8 = 8 := by kernel_rfl); (have hbit2 : Go.bits .or .u32 0 128 = 128 := by kernel_rfl))
    go_ret
    first | exact ⟨rfl, B2.out⟩ | exact ⟨by first | rfl | kernel_rfl, B2.out⟩)
theorem rcalls_f (l : List Int) (al : List S145) (came : Int) (q : List Int) (over : Bool) (out : List Int) (o m : Int) (s off : Bool) (code t : Int) : mimesisref14_Calls.f 1 l al came q over out o m s off code t = some (bcallsv s (tup t o m) (decide (0 < q.length))) := by
  have hl : ((q.length : Int) > 0) ↔ 0 < q.length := by omega
  unfold mimesisref14_Calls.f
  cases s <;> simp only [Bool.false_eq_true, if_false, if_true] <;> rw [mimesisref14_Calls.j0, ref_up, Option.bind_some] <;> cases tup t o m <;> by_cases h : 0 < q.length <;> simp [h, hl, bcallsv]
def postV (p B T : Nat) (tk rt o m : Int) (s : Bool) (q : List Int) (i : Nat) (v : Value) (w : World) : Prop :=
  match i with
  | 0 => v = .pointer (some ⟨p, 0, none⟩)
  | 1 => v = .pointer (some ⟨p, 0, none⟩)
  | 2 => v = .pointer (some ⟨p, 42, none⟩)
  | 3 => v = .int .u64 tk
  | 4 => v = .pointer (some ⟨p, 0, none⟩)
  | 5 => v = .pointer (some ⟨p, 0, none⟩)
  | 6 => v = .pointer (some ⟨p, 43, none⟩)
  | 7 => v = .int .u64 rt
  | 8 => v = .pointer (some ⟨p, 0, none⟩)
  | 9 => v = .pointer (some ⟨p, 0, none⟩)
  | 10 => v = .pointer (some ⟨p, 44, none⟩)
  | 11 => v = .pointer (some ⟨B, 0, none⟩)
  | 12 => v = .pointer (some ⟨T, 0, none⟩)
  | 13 => v = .pointer (some ⟨p, 0, none⟩)
  | 14 => v = .pointer (some ⟨p, 0, none⟩)
  | 15 => v = .pointer (some ⟨p, 42, none⟩)
  | 16 => v = .int .u64 tk
  | 17 => v = .int .u64 (tnow tk o)
  | 18 => v = .pointer (some ⟨p, 0, none⟩)
  | 19 => v = .pointer (some ⟨p, 0, none⟩)
  | 20 => v = .pointer (some ⟨p, 44, none⟩)
  | 21 => v = .pointer (some ⟨B, 0, none⟩)
  | 22 => v = .pointer (some ⟨p, 0, none⟩)
  | 23 => v = .pointer (some ⟨p, 0, none⟩)
  | 24 => v = .pointer (some ⟨p, 42, none⟩)
  | 25 => v = .int .u64 tk
  | 26 => v = .int .u32 (bcallsv s (tup tk o m) (decide (0 < q.length)))
  | 27 => v = .agg #[.int .u64 tk, .int .u64 rt, .int .u64 (tnow tk o), .int .u32 (bcallsv s (tup tk o m) (decide (0 < q.length)))]
  | _ => True
theorem postV_rg {p B T : Nat} {tk rt o m : Int} {s : Bool} {q : List Int} (j : Nat) (v : Value) (w w' : World) (h : postV p B T tk rt o m s q j v w) (k : Below w.heap.size w w') : postV p B T tk rt o m s q j v w' := h
def zEnv : Array Value := #[.int .u64 0, .int .u64 0, .int .u64 0, .int .u32 0]
theorem zEnv_zero : (Try.prog.info? 67).bind (fun i => i.zero.map (·.cells)) = some zEnv := by kernel_rfl
theorem env_size : (Try.prog.info? 67).map (·.size) = some 4 := by kernel_rfl
theorem env_built (a b c d : Int) : Try.prog.built 67 [(0, .int .u64 a), (1, .int .u64 b), (2, .int .u64 c), (3, .int .u32 d)] = some #[.int .u64 a, .int .u64 b, .int .u64 c, .int .u32 d] := by kernel_rfl
set_option maxRecDepth 100000 in
set_option maxHeartbeats 4000000 in
/-- What a machine's file is asked in. -/
theorem cenv_ok {W w : World} {p : Nat} {pc : Int} {rg fl : List Value} {tk rt : Int} {ev : Value} {B R C T BB BW BG n k : Nat} {X : Nat → Prop} {l : List Int} {ws : List Bool} {gs : List Int} {al : List (Int × Int)} {came : Nat} {q : List Int} {over : Bool} {out : List Int} {o m : Int} {s off : Bool} {code : Int} (h : MC W w p pc rg fl tk rt ev B R C T BB BW BG n k X l ws gs al came q over out o m s off code) :
    Calls Try.prog 17 #[.pointer (some ⟨p, 0, none⟩)] w fun e w' => e = .returned (.agg #[.int .u64 tk, .int .u64 rt, .int .u64 (tnow tk o), .int .u32 (bcallsv s (tup tk o m) (decide (0 < q.length)))]) ∧ Below w.heap.size w w' := by
  have HM := Aside0.mk h
  clear h
  obtain ⟨g0, hg0⟩ : ∃ g, w.heap.size = g := ⟨_, rfl⟩
  have HG0 := Aside0.mk hg0
  go_enter Try.func17, Try.ntmps17
  go_upto_region 3 with (refine wpList_alloc_z rfl 67 rfl zEnv zEnv_zero ?_; rw [hg0]; clear hg0; intro w1 hb1 hB1; have HB1 := Aside0.mk hb1; have BB1 := Aside0.mk (show Below w.heap.size w w1 by rw [HG0.out]; exact hB1); have HM1 := Aside0.mk (HM.out.below BB1.out); clear hb1 hB1)
  go_simp
  have HI0 : Aside0 (Below w1.heap.size w1 w1.drew) := ⟨⟨rfl, rfl, rfl, Nat.le_refl _, fun _ _ => rfl⟩⟩
  refine wp_region_rj (by kernel_rfl) 28 (fun W' => Below w1.heap.size w1 W') (fun x y => Below x.heap.size x y) (postV p B T tk rt o m s q) (by kernel_rfl) postV_rg HI0.out ?step ?fin
  case step =>
    intro i o hi him b W' hinv hkeep hdef hpre K hK
    have HI := Aside0.mk hinv
    have HPRE := Aside0.mk hpre
    have HKEEP := Aside0.mk hkeep
    have HKK := Aside0.mk hK
    clear hinv hpre hkeep hK hdef
    obtain rfl | rfl | rfl | rfl | rfl | rfl | rfl | rfl | rfl | rfl | rfl | rfl | rfl | rfl | rfl | rfl | rfl | rfl | rfl | rfl | rfl | rfl | rfl | rfl | rfl | rfl | rfl | rfl : i = 0 ∨ i = 1 ∨ i = 2 ∨ i = 3 ∨ i = 4 ∨ i = 5 ∨ i = 6 ∨ i = 7 ∨ i = 8 ∨ i = 9 ∨ i = 10 ∨ i = 11 ∨ i = 12 ∨ i = 13 ∨ i = 14 ∨ i = 15 ∨ i = 16 ∨ i = 17 ∨ i = 18 ∨ i = 19 ∨ i = 20 ∨ i = 21 ∨ i = 22 ∨ i = 23 ∨ i = 24 ∨ i = 25 ∨ i = 26 ∨ i = 27 := by omega
    · cases hi
      have e0 : b.tmps.getD 0 undef = .pointer (some ⟨p, 0, none⟩) := HKEEP.out 0 (by kernel_rfl)
      rw [if_pos (by rfl)]
      go_simp
      exact HKK.out _ _ HI.out (Below.refl _ _) (by first | rfl | (simp; done))
    · cases hi
      have e6 : b.tmps.getD 6 undef = .pointer (some ⟨p, 0, none⟩) := HPRE.out 0 (by kernel_rfl) (by omega)
      rw [if_pos (by rfl)]
      go_simp
      exact HKK.out _ _ HI.out (Below.refl _ _) (by first | rfl | (simp; done))
    · cases hi
      have e7 : b.tmps.getD 7 undef = .pointer (some ⟨p, 0, none⟩) := HPRE.out 1 (by kernel_rfl) (by omega)
      rw [if_pos (by rfl)]
      go_simp
      exact HKK.out _ _ HI.out (Below.refl _ _) (by first | rfl | (simp; done))
    · cases hi
      have e8 : b.tmps.getD 8 undef = .pointer (some ⟨p, 42, none⟩) := HPRE.out 2 (by kernel_rfl) (by omega)
      have hM := HM1.out.im.below HI.out
      have hc := hM.ctk
      rw [if_pos (by rfl)]
      go_simp
      exact HKK.out _ _ HI.out (Below.refl _ _) (by first | rfl | (simp; done))
    · cases hi
      have e0 : b.tmps.getD 0 undef = .pointer (some ⟨p, 0, none⟩) := HKEEP.out 0 (by kernel_rfl)
      rw [if_pos (by rfl)]
      go_simp
      exact HKK.out _ _ HI.out (Below.refl _ _) (by first | rfl | (simp; done))
    · cases hi
      have e10 : b.tmps.getD 10 undef = .pointer (some ⟨p, 0, none⟩) := HPRE.out 4 (by kernel_rfl) (by omega)
      rw [if_pos (by rfl)]
      go_simp
      exact HKK.out _ _ HI.out (Below.refl _ _) (by first | rfl | (simp; done))
    · cases hi
      have e11 : b.tmps.getD 11 undef = .pointer (some ⟨p, 0, none⟩) := HPRE.out 5 (by kernel_rfl) (by omega)
      rw [if_pos (by rfl)]
      go_simp
      exact HKK.out _ _ HI.out (Below.refl _ _) (by first | rfl | (simp; done))
    · cases hi
      have e12 : b.tmps.getD 12 undef = .pointer (some ⟨p, 43, none⟩) := HPRE.out 6 (by kernel_rfl) (by omega)
      have hM := HM1.out.im.below HI.out
      have hc := hM.crt
      rw [if_pos (by rfl)]
      go_simp
      exact HKK.out _ _ HI.out (Below.refl _ _) (by first | rfl | (simp; done))
    · cases hi
      have e0 : b.tmps.getD 0 undef = .pointer (some ⟨p, 0, none⟩) := HKEEP.out 0 (by kernel_rfl)
      rw [if_pos (by rfl)]
      go_simp
      exact HKK.out _ _ HI.out (Below.refl _ _) (by first | rfl | (simp; done))
    · cases hi
      have e14 : b.tmps.getD 14 undef = .pointer (some ⟨p, 0, none⟩) := HPRE.out 8 (by kernel_rfl) (by omega)
      rw [if_pos (by rfl)]
      go_simp
      exact HKK.out _ _ HI.out (Below.refl _ _) (by first | rfl | (simp; done))
    · cases hi
      have e15 : b.tmps.getD 15 undef = .pointer (some ⟨p, 0, none⟩) := HPRE.out 9 (by kernel_rfl) (by omega)
      rw [if_pos (by rfl)]
      go_simp
      exact HKK.out _ _ HI.out (Below.refl _ _) (by first | rfl | (simp; done))
    · cases hi
      have e16 : b.tmps.getD 16 undef = .pointer (some ⟨p, 44, none⟩) := HPRE.out 10 (by kernel_rfl) (by omega)
      have hM := HM1.out.im.below HI.out
      have hc := hM.cb
      rw [if_pos (by rfl)]
      go_simp
      exact HKK.out _ _ HI.out (Below.refl _ _) (by first | rfl | (simp; done))
    · cases hi
      have e17 : b.tmps.getD 17 undef = .pointer (some ⟨B, 0, none⟩) := HPRE.out 11 (by kernel_rfl) (by omega)
      have e17 : b.tmps.getD 17 undef = .pointer (some ⟨B, 0, none⟩) := HPRE.out 11 (by kernel_rfl) (by omega)
      rw [if_pos (by rfl)]
      go_simp
      refine (btim_calls _ (HM1.out.ib.b.below HI.out)).mono ?_
      rintro e W2 ⟨rfl, d⟩
      exact HKK.out _ _ (below_on HI.out d.below) d.below rfl
    · cases hi
      have e0 : b.tmps.getD 0 undef = .pointer (some ⟨p, 0, none⟩) := HKEEP.out 0 (by kernel_rfl)
      rw [if_pos (by rfl)]
      go_simp
      exact HKK.out _ _ HI.out (Below.refl _ _) (by first | rfl | (simp; done))
    · cases hi
      have e19 : b.tmps.getD 19 undef = .pointer (some ⟨p, 0, none⟩) := HPRE.out 13 (by kernel_rfl) (by omega)
      rw [if_pos (by rfl)]
      go_simp
      exact HKK.out _ _ HI.out (Below.refl _ _) (by first | rfl | (simp; done))
    · cases hi
      have e20 : b.tmps.getD 20 undef = .pointer (some ⟨p, 0, none⟩) := HPRE.out 14 (by kernel_rfl) (by omega)
      rw [if_pos (by rfl)]
      go_simp
      exact HKK.out _ _ HI.out (Below.refl _ _) (by first | rfl | (simp; done))
    · cases hi
      have e21 : b.tmps.getD 21 undef = .pointer (some ⟨p, 42, none⟩) := HPRE.out 15 (by kernel_rfl) (by omega)
      have hM := HM1.out.im.below HI.out
      have hc := hM.ctk
      rw [if_pos (by rfl)]
      go_simp
      exact HKK.out _ _ HI.out (Below.refl _ _) (by first | rfl | (simp; done))
    · cases hi
      have e22 : b.tmps.getD 22 undef = .int .u64 tk := HPRE.out 16 (by kernel_rfl) (by omega)
      have e18 : b.tmps.getD 18 undef = .pointer (some ⟨T, 0, none⟩) := HPRE.out 12 (by kernel_rfl) (by omega)
      have e22 : b.tmps.getD 22 undef = .int .u64 tk := HPRE.out 16 (by kernel_rfl) (by omega)
      rw [if_pos (by rfl)]
      go_simp
      refine (now_calls _ T o m tk s (HM1.out.ib.t.below HI.out)).mono ?_
      rintro e W2 ⟨rfl, d⟩
      exact HKK.out _ _ (below_on HI.out d.below) d.below rfl
    · cases hi
      have e0 : b.tmps.getD 0 undef = .pointer (some ⟨p, 0, none⟩) := HKEEP.out 0 (by kernel_rfl)
      rw [if_pos (by rfl)]
      go_simp
      exact HKK.out _ _ HI.out (Below.refl _ _) (by first | rfl | (simp; done))
    · cases hi
      have e24 : b.tmps.getD 24 undef = .pointer (some ⟨p, 0, none⟩) := HPRE.out 18 (by kernel_rfl) (by omega)
      rw [if_pos (by rfl)]
      go_simp
      exact HKK.out _ _ HI.out (Below.refl _ _) (by first | rfl | (simp; done))
    · cases hi
      have e25 : b.tmps.getD 25 undef = .pointer (some ⟨p, 0, none⟩) := HPRE.out 19 (by kernel_rfl) (by omega)
      rw [if_pos (by rfl)]
      go_simp
      exact HKK.out _ _ HI.out (Below.refl _ _) (by first | rfl | (simp; done))
    · cases hi
      have e26 : b.tmps.getD 26 undef = .pointer (some ⟨p, 44, none⟩) := HPRE.out 20 (by kernel_rfl) (by omega)
      have hM := HM1.out.im.below HI.out
      have hc := hM.cb
      rw [if_pos (by rfl)]
      go_simp
      exact HKK.out _ _ HI.out (Below.refl _ _) (by first | rfl | (simp; done))
    · cases hi
      have e0 : b.tmps.getD 0 undef = .pointer (some ⟨p, 0, none⟩) := HKEEP.out 0 (by kernel_rfl)
      rw [if_pos (by rfl)]
      go_simp
      exact HKK.out _ _ HI.out (Below.refl _ _) (by first | rfl | (simp; done))
    · cases hi
      have e28 : b.tmps.getD 28 undef = .pointer (some ⟨p, 0, none⟩) := HPRE.out 22 (by kernel_rfl) (by omega)
      rw [if_pos (by rfl)]
      go_simp
      exact HKK.out _ _ HI.out (Below.refl _ _) (by first | rfl | (simp; done))
    · cases hi
      have e29 : b.tmps.getD 29 undef = .pointer (some ⟨p, 0, none⟩) := HPRE.out 23 (by kernel_rfl) (by omega)
      rw [if_pos (by rfl)]
      go_simp
      exact HKK.out _ _ HI.out (Below.refl _ _) (by first | rfl | (simp; done))
    · cases hi
      have e30 : b.tmps.getD 30 undef = .pointer (some ⟨p, 42, none⟩) := HPRE.out 24 (by kernel_rfl) (by omega)
      have hM := HM1.out.im.below HI.out
      have hc := hM.ctk
      rw [if_pos (by rfl)]
      go_simp
      exact HKK.out _ _ HI.out (Below.refl _ _) (by first | rfl | (simp; done))
    · cases hi
      have e27 : b.tmps.getD 27 undef = .pointer (some ⟨B, 0, none⟩) := HPRE.out 21 (by kernel_rfl) (by omega)
      have e31 : b.tmps.getD 31 undef = .int .u64 tk := HPRE.out 25 (by kernel_rfl) (by omega)
      have e27 : b.tmps.getD 27 undef = .pointer (some ⟨B, 0, none⟩) := HPRE.out 21 (by kernel_rfl) (by omega)
      have e31 : b.tmps.getD 31 undef = .int .u64 tk := HPRE.out 25 (by kernel_rfl) (by omega)
      rw [if_pos (by rfl)]
      go_simp
      refine (bcalls_calls tk (HM1.out.ib.below HI.out)).mono ?_
      rintro e W2 ⟨rfl, d⟩
      exact HKK.out _ _ (below_on HI.out d) d rfl
    · cases hi
      have e9 : b.tmps.getD 9 undef = .int .u64 tk := HPRE.out 3 (by kernel_rfl) (by omega)
      have e13 : b.tmps.getD 13 undef = .int .u64 rt := HPRE.out 7 (by kernel_rfl) (by omega)
      have e23 : b.tmps.getD 23 undef = .int .u64 (tnow tk o) := HPRE.out 17 (by kernel_rfl) (by omega)
      have e32 : b.tmps.getD 32 undef = .int .u32 (bcallsv s (tup tk o m) (decide (0 < q.length))) := HPRE.out 26 (by kernel_rfl) (by omega)
      rw [if_pos (by rfl)]
      refine wp_build_eq 67 #[(0, .tmp 9), (1, .tmp 13), (2, .tmp 23), (3, .tmp 32)] rfl #[.int .u64 tk, .int .u64 rt, .int .u64 (tnow tk o), .int .u32 (bcallsv s (tup tk o m) (decide (0 < q.length)))] ?_ ?_
      · simp only [List.map_toArray, List.map_cons, List.map_nil]
        rw [show b.eval (.tmp 9) = _ from e9, show b.eval (.tmp 13) = _ from e13, show b.eval (.tmp 23) = _ from e23, show b.eval (.tmp 32) = _ from e32]
        exact env_built _ _ _ _
      · exact HKK.out _ _ HI.out (Below.refl _ _) rfl
  case fin =>
    intro b W' hinv hsz hdef hkeep hpost
    have e33 : b.tmps.getD 33 undef = .agg #[.int .u64 tk, .int .u64 rt, .int .u64 (tnow tk o), .int .u32 (bcallsv s (tup tk o m) (decide (0 < q.length)))] := hpost 27 (by omega)
    have k2 : b.tmps.getD 2 undef = .pointer (some ⟨g0, 0, none⟩) := hkeep 2 (by kernel_rfl)
    refine rj_lastv (by kernel_rfl) rfl (by kernel_rfl) rfl (by kernel_rfl) ?_
    refine wp_store_arr 67 (.tmp 2) (.tmp 33) rfl g0 k2 _ e33 zEnv 67 (blk_below HB1.out hinv) rfl env_size (by simp [Value.oneCell']) ?_
    intro w2 hf hoG
    have BF := Aside0.mk (hoG.below (by rw [HG0.out]; exact Nat.le_refl _) (BB1.out.trans (hinv.mono BB1.out.size)))
    have HF := Aside0.mk hf
    obtain ⟨sl, hlit, hsl⟩ := act_let b 34 hsz
    rw [hdef] at hlit
    rw [← hsl] at k2
    simp only [show List.range 34 = [0, 1, 2, 3, 4, 5, 6, 7, 8, 9, 10, 11, 12, 13, 14, 15, 16, 17, 18, 19, 20, 21, 22, 23, 24, 25, 26, 27, 28, 29, 30, 31, 32, 33] from rfl, List.map_cons, List.map_nil, k2] at hlit
    rw [hlit]
    clear hkeep hsz hdef hpost hsl hlit e33 k2 hinv hf hoG
    go_simp
    go_wp2
    refine bodyPost_ret (results_cell_row rfl _ _ g0 67 _ (0, 0) _ rfl HF.out Try.underlying67 rfl env_size) rfl ⟨rfl, BF.out⟩
end Go.Proofs.Ytfnbpmkbjbibkaa

namespace Go.Proofs.Ytfnbpmkbjbibkaa
open Go Go.RowKit Go.Deep Go.Great Go.Proofs.YtfnbpmkbjbibkaaW.PrintWords Go.Proofs.Ytfnbpmkbjbibkaa.QCpuNews
set_option linter.unusedVariables false
set_option linter.unusedSimpArgs false

def postW (B : Nat) (tk rt o m cv : Int) (s : Bool) (bs : List Value) (i : Nat) (v : Value) (w : World) : Prop :=
  match i with
  | 0 => v = .pointer (some ⟨B, 42, none⟩)
  | 1 => v = .int .u64 tk
  | 2 => v = .pointer (some ⟨B, 43, none⟩)
  | 3 => v = .int .u64 rt
  | 4 => v = .pointer (some ⟨B, 44, none⟩)
  | 5 => v = .pointer (some ⟨B, 50, none⟩)
  | 6 => v = .agg #[.int .u64 o, .int .u64 m, .bool s]
  | 7 => v = .pointer (some ⟨B, 42, none⟩)
  | 8 => v = .int .u64 tk
  | 9 => v = .int .u64 (tnow tk o)
  | 10 => v = .pointer (some ⟨B, 44, none⟩)
  | 11 => v = .agg bs.toArray
  | 12 => v = .pointer (some ⟨B, 42, none⟩)
  | 13 => v = .int .u64 tk
  | 14 => v = .int .u32 cv
  | 15 => v = .agg #[.int .u64 tk, .int .u64 rt, .int .u64 (tnow tk o), .int .u32 cv]
  | _ => True
theorem postW_rg {B : Nat} {tk rt o m cv : Int} {s : Bool} {bs : List Value} (j : Nat) (v : Value) (w w' : World) (h : postW B tk rt o m cv s bs j v w) (k : Below w.heap.size w w') : postW B tk rt o m cv s bs j v w' := h
theorem renv_zero : (Try.prog.info? 71).bind (fun i => i.zero.map (·.cells)) = some zEnv := by kernel_rfl
theorem renv_size : (Try.prog.info? 71).map (·.size) = some 4 := by kernel_rfl
theorem renv_built (a b c d : Int) : Try.prog.built 71 [(0, .int .u64 a), (1, .int .u64 b), (2, .int .u64 c), (3, .int .u32 d)] = some #[.int .u64 a, .int .u64 b, .int .u64 c, .int .u32 d] := by kernel_rfl
set_option maxRecDepth 100000 in
set_option maxHeartbeats 4000000 in
/-- What the document's file is asked in. -/
theorem renv_calls (w : World) {pc : Int} {rg fl : List Value} {tk rt : Int} (A0 A1 A2 A3 A4 : Option Addr) (n0 c0 n1 c1 n2 c2 n3 c3 n4 c4 : Nat) (over off : Bool) (came o m : Int) (s : Bool) (code cv : Int) (h1 : rg.length = 32) (h2 : fl.length = 9)
    (hC : ∀ w', Below w.heap.size w w' → Calls Try.prog 61 #[.agg (rB (.slice A0 n0 c0) (.slice A1 n1 c1) came (.slice A2 n2 c2) over (.slice A3 n3 c3) o m s off code).toArray, .int .u64 tk] w' fun e w'' => e = .returned (.int .u32 cv) ∧ Below w'.heap.size w' w'') :
    Calls Try.prog 20 #[.agg (cH pc rg fl tk rt (rL (.slice A0 n0 c0) (.slice A1 n1 c1) came (.slice A2 n2 c2) over (.slice A3 n3 c3) o m s off code (.slice A4 n4 c4))).toArray] w fun e w' => e = .returned (.agg #[.int .u64 tk, .int .u64 rt, .int .u64 (tnow tk o), .int .u32 cv]) ∧ Below w.heap.size w w' := by
  have H1 := Aside0.mk h1
  have H2 := Aside0.mk h2
  have HC := Aside0.mk hC
  clear h1 h2 hC
  obtain ⟨B, hB⟩ : ∃ B, w.heap.size = B := ⟨_, rfl⟩
  have HBS := Aside0.mk hB
  go_enter Try.func20, Try.ntmps20
  go_upto_region 1 with (refine wpList_alloc_z rfl 71 rfl zEnv renv_zero ?_; intro w2 hb2 hB2; have HB2 := Aside0.mk hb2; have BB2 := Aside0.mk hB2; clear hb2 hB2)
  generalize hL : (rL (.slice A0 n0 c0) (.slice A1 n1 c1) came (.slice A2 n2 c2) over (.slice A3 n3 c3) o m s off code (.slice A4 n4 c4)) = L
  generalize hb0 : (rB (.slice A0 n0 c0) (.slice A1 n1 c1) came (.slice A2 n2 c2) over (.slice A3 n3 c3) o m s off code) = bs at HC
  have HL : Aside0 (∀ (j : Nat) v, (rL (.slice A0 n0 c0) (.slice A1 n1 c1) came (.slice A2 n2 c2) over (.slice A3 n3 c3) o m s off code (.slice A4 n4 c4))[j]? = some v → L[j]? = some v) := ⟨by rw [← hL]; exact fun _ _ h => h⟩
  have HBS2 : Aside0 (bs.length = 11 ∧ ∀ (j : Nat) v, bs[j]? = some v → L[j]? = some v) := ⟨by rw [← hb0]; exact ⟨rfl, fun j v hv => HL.out j v (by rw [rL, List.getElem?_append_left (List.getElem?_eq_some_iff.1 hv).1]; exact hv)⟩⟩
  rw [hL] at HB2 BB2
  clear hL hb0
  have HX := Aside0.mk (blk_below (by have := blk_new w (.cells (cH pc rg fl tk rt L).toArray 64); rw [hB] at this; exact this) BB2.out)
  have BW : Aside0 (Below w.heap.size w w2) := ⟨below_on (below_alloc (Below.refl w.heap.size w) _) BB2.out⟩
  have HGS : Aside0 (w.heap.size ≤ (w.alloc (.cells (cH pc rg fl tk rt L).toArray 64)).heap.size) := ⟨by simp⟩
  clear hB BB2
  generalize (w.alloc (.cells (cH pc rg fl tk rt L).toArray 64)).heap.size = G at HB2 HGS ⊢
  go_simp
  have HI0 : Aside0 (Below w2.heap.size w2 w2.drew) := ⟨⟨rfl, rfl, rfl, Nat.le_refl _, fun _ _ => rfl⟩⟩
  refine wp_region_rj (by kernel_rfl) 16 (fun W' => Below w2.heap.size w2 W') (fun x y => Below x.heap.size x y) (postW B tk rt o m cv s bs) (by kernel_rfl) postW_rg HI0.out ?step ?fin
  case step =>
    intro i o hi him b W' hinv hkeep hdef hpre K hK
    have HI := Aside0.mk hinv
    have HPRE := Aside0.mk hpre
    have HKEEP := Aside0.mk hkeep
    have HKK := Aside0.mk hK
    clear hinv hpre hkeep hK hdef
    obtain rfl | rfl | rfl | rfl | rfl | rfl | rfl | rfl | rfl | rfl | rfl | rfl | rfl | rfl | rfl | rfl : i = 0 ∨ i = 1 ∨ i = 2 ∨ i = 3 ∨ i = 4 ∨ i = 5 ∨ i = 6 ∨ i = 7 ∨ i = 8 ∨ i = 9 ∨ i = 10 ∨ i = 11 ∨ i = 12 ∨ i = 13 ∨ i = 14 ∨ i = 15 := by omega
    · cases hi
      have e1 : b.tmps.getD 1 undef = .pointer (some ⟨B, 0, none⟩) := HKEEP.out 1 (by kernel_rfl)
      rw [if_pos (by rfl)]
      go_simp
      exact HKK.out _ _ HI.out (Below.refl _ _) (by first | rfl | (simp; done))
    · cases hi
      have e3 : b.tmps.getD 3 undef = .pointer (some ⟨B, 42, none⟩) := HPRE.out 0 (by kernel_rfl) (by omega)
      have hX := blk_below HX.out HI.out
      have hc := (at_T hX H1.out H2.out).1
      rw [if_pos (by rfl)]
      go_simp
      exact HKK.out _ _ HI.out (Below.refl _ _) (by first | rfl | (simp; done))
    · cases hi
      have e1 : b.tmps.getD 1 undef = .pointer (some ⟨B, 0, none⟩) := HKEEP.out 1 (by kernel_rfl)
      rw [if_pos (by rfl)]
      go_simp
      exact HKK.out _ _ HI.out (Below.refl _ _) (by first | rfl | (simp; done))
    · cases hi
      have e5 : b.tmps.getD 5 undef = .pointer (some ⟨B, 43, none⟩) := HPRE.out 2 (by kernel_rfl) (by omega)
      have hX := blk_below HX.out HI.out
      have hc := (at_T hX H1.out H2.out).2
      rw [if_pos (by rfl)]
      go_simp
      exact HKK.out _ _ HI.out (Below.refl _ _) (by first | rfl | (simp; done))
    · cases hi
      have e1 : b.tmps.getD 1 undef = .pointer (some ⟨B, 0, none⟩) := HKEEP.out 1 (by kernel_rfl)
      rw [if_pos (by rfl)]
      go_simp
      exact HKK.out _ _ HI.out (Below.refl _ _) (by first | rfl | (simp; done))
    · cases hi
      have e7 : b.tmps.getD 7 undef = .pointer (some ⟨B, 44, none⟩) := HPRE.out 4 (by kernel_rfl) (by omega)
      rw [if_pos (by rfl)]
      go_simp
      exact HKK.out _ _ HI.out (Below.refl _ _) (by first | rfl | (simp; done))
    · cases hi
      have e8 : b.tmps.getD 8 undef = .pointer (some ⟨B, 50, none⟩) := HPRE.out 5 (by kernel_rfl) (by omega)
      have e8 : b.tmps.getD 8 undef = .pointer (some ⟨B, 50, none⟩) := HPRE.out 5 (by kernel_rfl) (by omega)
      rw [if_pos (by rfl)]
      refine wp_load_mid 30 (.tmp 8) rfl B 50 e8 [.int .u64 o, .int .u64 m, .bool s] _ (range_in (blk_below HX.out HI.out) 50 _ (fun j v hv => by rw [show 50 + j = 44 + (6 + j) by omega, cH_L H1.out H2.out]; exact HL.out _ _ (by rcases j with _ | _ | _ | j <;> simp_all [rL, rB]))) Try.underlying30 rfl (by kernel_rfl) ?_
      exact HKK.out _ _ HI.out (Below.refl _ _) rfl
    · cases hi
      have e1 : b.tmps.getD 1 undef = .pointer (some ⟨B, 0, none⟩) := HKEEP.out 1 (by kernel_rfl)
      rw [if_pos (by rfl)]
      go_simp
      exact HKK.out _ _ HI.out (Below.refl _ _) (by first | rfl | (simp; done))
    · cases hi
      have e10 : b.tmps.getD 10 undef = .pointer (some ⟨B, 42, none⟩) := HPRE.out 7 (by kernel_rfl) (by omega)
      have hX := blk_below HX.out HI.out
      have hc := (at_T hX H1.out H2.out).1
      rw [if_pos (by rfl)]
      go_simp
      exact HKK.out _ _ HI.out (Below.refl _ _) (by first | rfl | (simp; done))
    · cases hi
      have e11 : b.tmps.getD 11 undef = .int .u64 tk := HPRE.out 8 (by kernel_rfl) (by omega)
      have e9 : b.tmps.getD 9 undef = .agg #[.int .u64 o, .int .u64 m, .bool s] := HPRE.out 6 (by kernel_rfl) (by omega)
      have e11 : b.tmps.getD 11 undef = .int .u64 tk := HPRE.out 8 (by kernel_rfl) (by omega)
      rw [if_pos (by rfl)]
      go_simp
      refine (mimesisref13_Now.calls o m s tk _ _ rfl).mono ?_
      rintro e W2 ⟨rfl, d⟩
      exact HKK.out _ _ (below_on HI.out d) d rfl
    · cases hi
      have e1 : b.tmps.getD 1 undef = .pointer (some ⟨B, 0, none⟩) := HKEEP.out 1 (by kernel_rfl)
      rw [if_pos (by rfl)]
      go_simp
      exact HKK.out _ _ HI.out (Below.refl _ _) (by first | rfl | (simp; done))
    · cases hi
      have e13 : b.tmps.getD 13 undef = .pointer (some ⟨B, 44, none⟩) := HPRE.out 10 (by kernel_rfl) (by omega)
      have e13 : b.tmps.getD 13 undef = .pointer (some ⟨B, 44, none⟩) := HPRE.out 10 (by kernel_rfl) (by omega)
      rw [if_pos (by rfl)]
      refine wp_load_mid 62 (.tmp 13) rfl B 44 e13 bs _ (range_in (blk_below HX.out HI.out) 44 _ (fun j v hv => by rw [cH_L H1.out H2.out]; exact HBS2.out.2 j v hv)) Try.underlying62 rfl (by rw [HBS2.out.1]; exact rb_size) ?_
      exact HKK.out _ _ HI.out (Below.refl _ _) rfl
    · cases hi
      have e1 : b.tmps.getD 1 undef = .pointer (some ⟨B, 0, none⟩) := HKEEP.out 1 (by kernel_rfl)
      rw [if_pos (by rfl)]
      go_simp
      exact HKK.out _ _ HI.out (Below.refl _ _) (by first | rfl | (simp; done))
    · cases hi
      have e15 : b.tmps.getD 15 undef = .pointer (some ⟨B, 42, none⟩) := HPRE.out 12 (by kernel_rfl) (by omega)
      have hX := blk_below HX.out HI.out
      have hc := (at_T hX H1.out H2.out).1
      rw [if_pos (by rfl)]
      go_simp
      exact HKK.out _ _ HI.out (Below.refl _ _) (by first | rfl | (simp; done))
    · cases hi
      have e16 : b.tmps.getD 16 undef = .int .u64 tk := HPRE.out 13 (by kernel_rfl) (by omega)
      have e14 : b.tmps.getD 14 undef = .agg bs.toArray := HPRE.out 11 (by kernel_rfl) (by omega)
      have e16 : b.tmps.getD 16 undef = .int .u64 tk := HPRE.out 13 (by kernel_rfl) (by omega)
      rw [if_pos (by rfl)]
      go_simp
      refine (HC.out _ (BW.out.trans (HI.out.mono BW.out.size))).mono ?_
      rintro e W2 ⟨rfl, d⟩
      exact HKK.out _ _ (below_on HI.out d) d rfl
    · cases hi
      have e4 : b.tmps.getD 4 undef = .int .u64 tk := HPRE.out 1 (by kernel_rfl) (by omega)
      have e6 : b.tmps.getD 6 undef = .int .u64 rt := HPRE.out 3 (by kernel_rfl) (by omega)
      have e4 : b.tmps.getD 4 undef = .int .u64 tk := HPRE.out 1 (by kernel_rfl) (by omega)
      have e6 : b.tmps.getD 6 undef = .int .u64 rt := HPRE.out 3 (by kernel_rfl) (by omega)
      have e12 : b.tmps.getD 12 undef = .int .u64 (tnow tk o) := HPRE.out 9 (by kernel_rfl) (by omega)
      have e17 : b.tmps.getD 17 undef = .int .u32 cv := HPRE.out 14 (by kernel_rfl) (by omega)
      rw [if_pos (by rfl)]
      refine wp_build_eq 71 #[(0, .tmp 4), (1, .tmp 6), (2, .tmp 12), (3, .tmp 17)] rfl #[.int .u64 tk, .int .u64 rt, .int .u64 (tnow tk o), .int .u32 cv] ?_ ?_
      · simp only [List.map_toArray, List.map_cons, List.map_nil]
        rw [show b.eval (.tmp 4) = _ from e4, show b.eval (.tmp 6) = _ from e6, show b.eval (.tmp 12) = _ from e12, show b.eval (.tmp 17) = _ from e17]
        exact renv_built _ _ _ _
      · exact HKK.out _ _ HI.out (Below.refl _ _) rfl
  case fin =>
    intro b W' hinv hsz hdef hkeep hpost
    have e18 : b.tmps.getD 18 undef = .agg #[.int .u64 tk, .int .u64 rt, .int .u64 (tnow tk o), .int .u32 cv] := hpost 15 (by omega)
    have k2 : b.tmps.getD 2 undef = .pointer (some ⟨G, 0, none⟩) := hkeep 2 (by kernel_rfl)
    refine rj_lastv (by kernel_rfl) rfl (by kernel_rfl) rfl (by kernel_rfl) ?_
    refine wp_store_arr 71 (.tmp 2) (.tmp 18) rfl G k2 _ e18 zEnv 71 (blk_below HB2.out hinv) rfl renv_size (by simp [Value.oneCell']) ?_
    intro w3 hf hoG
    have BF := Aside0.mk (hoG.below HGS.out (BW.out.trans (hinv.mono BW.out.size)))
    have HF := Aside0.mk hf
    obtain ⟨sl, hlit, hsl⟩ := act_let b 19 hsz
    rw [hdef] at hlit
    rw [← hsl] at k2
    simp only [show List.range 19 = [0, 1, 2, 3, 4, 5, 6, 7, 8, 9, 10, 11, 12, 13, 14, 15, 16, 17, 18] from rfl, List.map_cons, List.map_nil, k2] at hlit
    rw [hlit]
    clear hkeep hsz hdef hpost hsl hlit e18 k2 hinv hf hoG
    go_simp
    go_wp2
    refine bodyPost_ret (results_cell_row rfl _ _ G 71 _ (0, 0) _ rfl HF.out Try.underlying71 rfl renv_size) rfl ⟨rfl, BF.out⟩
end Go.Proofs.Ytfnbpmkbjbibkaa

namespace Go.Proofs.Ytfnbpmkbjbibkaa
open Go Go.RowKit Go.Deep Go.Great Go.Proofs.YtfnbpmkbjbibkaaW.PrintWords Go.Proofs.Ytfnbpmkbjbibkaa.QCpuNews
set_option linter.unusedVariables false
set_option linter.unusedSimpArgs false

theorem brow_V {w : World} {g n : Nat} {l : List Int} (h : w.heap[g]? = some (.cells (brow l) 5 (0, 0))) (hn : l.length = n) (hm : n ≤ 65536) (base : Nat) : Kd.V (Kd.int .u8) 5 w base (fun k => k = g) (.slice (some ⟨g, 0, none⟩) n n) l := by
  subst hn
  refine Kd.V_mk (Nat.le_refl _) fun W' hW => ?_
  have hg : W'.heap[g]? = some (.cells (brow l) 5 (0, 0)) := (hW g rfl (blk_lt h)).trans h
  have := brow_C hg 0 l.length (by omega) hm
  simpa using this
section
variable {fl : List Value}
theorem rc_built2 (h2 : fl.length = 9) (x : Int) (A0 A1 A2 A3 : Option Addr) (n0 c0 n1 c1 n2 c2 n3 c3 : Nat) (came o m : Int) (over s off : Bool) (code : Int) :
    Try.prog.built 64 [(0, .int .u32 x), (2, .agg fl.toArray), (5, .agg (rB (.slice A0 n0 c0) (.slice A1 n1 c1) came (.slice A2 n2 c2) over (.slice A3 n3 c3) o m s off code).toArray)] =
    some (cH x rZ fl 0 0 (rL (.slice A0 n0 c0) (.slice A1 n1 c1) came (.slice A2 n2 c2) over (.slice A3 n3 c3) o m s off code nl)).toArray := by
  rw [built_struct zR_zero Try.underlying64 (places := [(0, 1), (1, 32), (33, 9), (42, 1), (43, 1), (44, 11), (55, 1)]) (by kernel_rfl)]
  rw [fill_put (off := 0) (size := 1) rfl rfl (by rw [zR_size]; omega)]
  rw [fill_put (off := 33) (size := 9) rfl (by simpa [Value.cells] using h2) (by simp only [putAt_size]; rw [zR_size]; omega)]
  rw [fill_put (off := 44) (size := 11) rfl rfl (by simp only [putAt_size]; rw [zR_size]; omega)]
  simp only [Instr.fill, Value.cells, putAt_one]
  rw [zR, cH_setP]
  rw [cH_putF rZ_len fZ_len fl h2]
  rw [cH_putL rZ_len h2 _ (by simp [rB, rL])]
  rfl
end
theorem rcon_built1 (A : Option Addr) (n c : Nat) : Try.prog.built 60 [(0, .slice A n c)] = some #[.slice A n c, .int .i64 0, nl, .bool false, nl] := by kernel_rfl
theorem rb_built3 (A0 A1 : Option Addr) (n0 c0 n1 c1 : Nat) (came o m : Int) (over s : Bool) : Try.prog.built 62 [(0, .slice A0 n0 c0), (1, .agg #[.slice A1 n1 c1, .int .i64 came, nl, .bool over, nl]), (2, .agg #[.int .u64 o, .int .u64 m, .bool s])] =
    some (rB (.slice A0 n0 c0) (.slice A1 n1 c1) came nl over nl o m s false 0).toArray := by kernel_rfl
def postN (bs : List Value) (i : Nat) (v : Value) (w : World) : Prop :=
  match i with
  | 0 => v = .agg fN.toArray
  | 1 => v = .agg bs.toArray
  | 2 => v = .agg (cH 2147483648 rZ fN 0 0 (bs ++ [nl])).toArray
  | _ => True
set_option maxRecDepth 100000 in
set_option maxHeartbeats 4000000 in
theorem rnew_calls (w : World) (n : Nat) (hn : n ≤ 65536) (A1 : Option Addr) (c1 : Nat) (l1 : List S51) (A2 : Option Addr) (n2 c2 : Nat) (k : Nat) (r : List Int) (hr1 : Kd.C k51 w A1 l1.length l1) (hc1 : l1.length ≤ c1) (hl : mimesisref15_Lay.f k (List.replicate n 0) l1 = some r) :
    Calls Try.prog 16 #[.int .i64 (n : Int), .slice A1 l1.length c1, .slice A2 n2 c2] w fun e w' => ∃ A c, e = .returned (.agg (cH 2147483648 rZ fN 0 0 (rL (.slice A r.length c) (.slice A2 n2 c2) 0 nl false nl 0 18446744073709551615 false false 0 nl)).toArray) ∧ r.length ≤ c ∧ (Kd.int .u8).C w' A r.length r ∧ Below w.heap.size w w' := by
  have m1 : ∀ w : World, (Instr.makeSlice 40 (.int .i64 (n : Int)) (.int .i64 (n : Int))).run Try.prog w = .ok (.slice (some ⟨w.heap.size, 0, none⟩) n n) (w.alloc (.cells (brow (List.replicate n 0)) 5)) := by
    intro w
    obtain ⟨i, hi, hz⟩ := Option.map_eq_some_iff.1 (show (Try.prog.info? 5).map (fun i => (i.zero, i.size, i.bytes)) = some (some (.int .u8 0), 1, 1) by kernel_rfl)
    simp only [Prod.mk.injEq] at hz
    obtain ⟨hz0, hz1, hz2⟩ := hz
    have h := run_make (P := Try.prog) w 40 5 i (.int .u8 0) Try.underlying40 hi hz0 .i64 .i64 (n : Int) (n : Int) (by omega) (by omega) (by rw [hz2]; omega) (by omega)
    rw [hz1] at h
    rw [show (Value.int .u8 0).cells = #[Value.int .u8 0] from rfl, made1, brow_made] at h
    simpa using h
  have HL := Aside0.mk (And.intro hr1 (And.intro hc1 hl))
  have HN := Aside0.mk hn
  clear hr1 hc1 hl
  go_enter Try.func16, Try.ntmps16
  go_upto_region 1 with (refine wpList_alloc_z rfl 64 rfl zR zR_zero ?_; intro w1 hb2 hB2; have HB1 := Aside0.mk hb2; have BB1 := Aside0.mk hB2; clear hb2 hB2)
  have HG : Aside0 (w.heap.size < w1.heap.size) := ⟨blk_lt HB1.out⟩
  go_simp
  go_wp2_with fail
  obtain ⟨w2, hw2⟩ : ∃ w2, w1.alloc (.cells (brow (List.replicate n 0)) 5) = w2 := ⟨_, rfl⟩
  have HR2 := Aside0.mk (by have := blk_new w1 (.cells (brow (List.replicate n 0)) 5); rw [hw2] at this; exact this)
  have BB2 : Aside0 (Below w1.heap.size w1 w2) := ⟨by rw [← hw2]; exact below_alloc (Below.refl _ _) _⟩
  rw [hw2]
  clear hw2 m1
  have HLC := mimesisref15_Lay.calls k (fun q => q = w1.heap.size) (some ⟨w1.heap.size, 0, none⟩) n (List.replicate n 0) A1 c1 l1 r w2 (by rw [List.length_replicate]; exact brow_V HR2.out (by simp) HN.out _) (Kd.C_below HL.out.1 (BB1.out.trans (BB2.out.mono BB1.out.size))) HL.out.2.1 HL.out.2.2
  rw [List.length_replicate] at HLC
  refine HLC.mono ?_
  clear HLC
  rintro e w3 ⟨v3, rfl, hv3, d3⟩
  obtain ⟨A3, c3, rfl, hc3, hF3⟩ := hv3
  have HR3 : Aside0 (r.length ≤ c3 ∧ Kd.F (Kd.int .u8) w3 (fun q => w.heap.size < q) A3 r.length r) := ⟨hc3, Kd.F_mono hF3 (fun q hq => by have h1 := HG.out; have h2 := BB2.out.size; rcases hq with rfl | hq <;> omega)⟩
  have BW3 := Aside0.mk (below_on (BB1.out.trans (BB2.out.mono BB1.out.size)) d3)
  have HB3 := Aside0.mk (blk_below (blk_below HB1.out BB2.out) d3)
  have HS3 : Aside0 (w.heap.size < w3.heap.size) := ⟨blk_lt HB3.out⟩
  clear hc3 hF3 d3 HR2 BB2 BB1 HB1 HG
  obtain ⟨G, hG⟩ : ∃ G, w.heap.size = G := ⟨_, rfl⟩
  have HGE := Aside0.mk hG
  rw [hG] at HB3 HS3 HR3 ⊢
  clear hG
  go_wp2_with (first
    | ((with_reducible refine gate_dst (N := 13) rfl ?_); refine wpList_buildTo rfl 60 #[(0, .tmp 12)] rfl (some 13) rfl #[.slice A2 n2 c2, .int .i64 0, nl, .bool false, nl] (by simp only [List.map_toArray, List.map_cons, List.map_nil]; exact rcon_built1 A2 n2 c2) ?_))
  refine (mimesisref13_New.calls _ _ _ w3 rfl).mono ?_
  rintro e w4 ⟨rfl, d4⟩
  have HR4 := Aside0.mk (And.intro HR3.out.1 (Kd.F_below HR3.out.2 d4))
  have BW4 := Aside0.mk (below_on BW3.out d4)
  have HB4 := Aside0.mk (blk_below HB3.out d4)
  have HS4 : Aside0 (G < w4.heap.size) := ⟨blk_lt HB4.out⟩
  clear HR3 BW3 HB3 HS3 d4
  go_upto_region 2 with (first
    | ((with_reducible refine gate_dst (N := 15) rfl ?_); refine wpList_buildTo rfl 62 #[(0, .tmp 11), (1, .tmp 13), (2, .tmp 14)] rfl (some 15) rfl (rB (.slice A3 r.length c3) (.slice A2 n2 c2) 0 nl false nl 0 18446744073709551615 false false 0).toArray (by simp only [List.map_toArray, List.map_cons, List.map_nil]; exact rb_built3 A3 A2 r.length c3 n2 c2 0 0 18446744073709551615 false false) ?_)
    | (refine wpList_alloc_z rfl 62 rfl zB zB_zero ?_; intro w5 hb3 hB3; have HB5 := Aside0.mk hb3; have BB5 := Aside0.mk hB3; clear hb3 hB3)
    | ((with_reducible refine gate_store (t := 62) (p := 7) (v := .tmp 15) rfl ?_); refine wpList_store_arr rfl 62 (.tmp 7) (.tmp 15) rfl w4.heap.size rfl (rB (.slice A3 r.length c3) (.slice A2 n2 c2) 0 nl false nl 0 18446744073709551615 false false 0).toArray rfl zB 62 HB5.out rfl rb_size (all_oneCell_toArray (rB_one rfl rfl rfl rfl)) ?_; intro w6 hf ho; have HF6 := Aside0.mk hf; have HO6 := Aside0.mk ho; clear hf ho))
  have BW6 := Aside0.mk (HO6.out.below (by have := HS4.out; have := HGE.out; omega) (below_on BW4.out BB5.out))
  have HB6 := Aside0.mk (blk_only (blk_below HB4.out BB5.out) HO6.out (Nat.ne_of_lt HS4.out))
  have HR6 : Aside0 (r.length ≤ c3 ∧ Kd.F (Kd.int .u8) w6 (fun q => G < q) A3 r.length r) := ⟨HR4.out.1, Kd.F_below HR4.out.2 (HO6.out.below (Nat.le_refl _) BB5.out)⟩
  clear HO6 HB5 BB5 HR4 BW4 HB4 HS4
  generalize w4.heap.size = D at HF6 ⊢
  generalize hbs : (rB (.slice A3 r.length c3) (.slice A2 n2 c2) 0 nl false nl 0 18446744073709551615 false false 0) = bs at HF6 ⊢
  have HBS : Aside0 ((rB (.slice A3 r.length c3) (.slice A2 n2 c2) 0 nl false nl 0 18446744073709551615 false false 0) = bs) := ⟨hbs⟩
  clear hbs
  go_simp
  have HI0 : Aside0 (Below w6.heap.size w6 w6.drew) := ⟨⟨rfl, rfl, rfl, Nat.le_refl _, fun _ _ => rfl⟩⟩
  refine wp_region_rj (by kernel_rfl) 3 (fun W' => Below w6.heap.size w6 W') (fun x y => Below x.heap.size x y) (postN bs) (by kernel_rfl) (fun _ _ _ _ h _ => h) HI0.out ?step ?fin
  case step =>
    intro i o hi him b W' hinv hkeep hdef hpre K hK
    have HI := Aside0.mk hinv
    have HPRE := Aside0.mk hpre
    have HKEEP := Aside0.mk hkeep
    have HKK := Aside0.mk hK
    clear hinv hpre hkeep hK hdef
    obtain rfl | rfl | rfl : i = 0 ∨ i = 1 ∨ i = 2 := by omega
    · cases hi
      rw [if_pos (by rfl)]
      go_simp
      refine (mimesisref16_New.calls 6144 0 0 0 0 0 0 0 0 _ rfl).mono ?_
      rintro e W2 ⟨rfl, d⟩
      exact HKK.out _ _ (below_on HI.out d) d rfl
    · cases hi
      have e7 : b.tmps.getD 7 undef = .pointer (some ⟨D, 0, none⟩) := HKEEP.out 7 (by kernel_rfl)
      rw [if_pos (by rfl)]
      refine wp_load_arr 62 (.tmp 7) rfl D e7 bs.toArray (blk_below HF6.out HI.out) _ Try.underlying62 rfl (by rw [← HBS.out]; exact rb_size) ?_
      exact HKK.out _ _ HI.out (Below.refl _ _) rfl
    · cases hi
      have e16 : b.tmps.getD 16 undef = .agg fN.toArray := HPRE.out 0 (by kernel_rfl) (by omega)
      have e17 : b.tmps.getD 17 undef = .agg bs.toArray := HPRE.out 1 (by kernel_rfl) (by omega)
      rw [if_pos (by rfl)]
      refine wp_build_eq 64 #[(0, .const (.int .u32 2147483648)), (2, .tmp 16), (5, .tmp 17)] rfl (cH 2147483648 rZ fN 0 0 (bs ++ [nl])).toArray ?_ ?_
      · simp only [List.map_toArray, List.map_cons, List.map_nil]
        rw [show b.eval (.tmp 16) = _ from e16, show b.eval (.tmp 17) = _ from e17, ← HBS.out]
        exact rc_built2 rfl 2147483648 A3 A2 none none r.length c3 n2 c2 0 0 0 0 0 0 18446744073709551615 false false false 0
      · exact HKK.out _ _ HI.out (Below.refl _ _) rfl
  case fin =>
    intro b W' hinv hsz hdef hkeep hpost
    have e18 : b.tmps.getD 18 undef = .agg (cH 2147483648 rZ fN 0 0 (bs ++ [nl])).toArray := hpost 2 (by omega)
    have k6 : b.tmps.getD 6 undef = .pointer (some ⟨G, 0, none⟩) := hkeep 6 (by kernel_rfl)
    refine rj_lastv (by kernel_rfl) rfl (by kernel_rfl) rfl (by kernel_rfl) ?_
    refine wp_store_arr 64 (.tmp 6) (.tmp 18) rfl G k6 _ e18 zR 64 (blk_below HB6.out hinv) (by rw [zR_size, cH_size rZ_len (by rfl), ← HBS.out]; rfl) (by rw [cH_size rZ_len (by rfl), ← HBS.out]; exact rc_size) (cH_one rZ_one fN_one (by rw [← HBS.out]; exact rL_one rfl rfl rfl rfl rfl)) ?_
    intro w7 hf hoG
    have BF := Aside0.mk (hoG.below (by rw [HGE.out]; exact Nat.le_refl _) (BW6.out.trans (hinv.mono BW6.out.size)))
    have HF := Aside0.mk hf
    have HR7 : Aside0 (r.length ≤ c3 ∧ (Kd.int .u8).C w7 A3 r.length r) := ⟨HR6.out.1, Kd.F_now (Kd.F_step (Kd.F_below HR6.out.2 hinv) fun q hq hq2 => hoG.block q hq2 (by omega))⟩
    obtain ⟨sl, hlit, hsl⟩ := act_let b 19 hsz
    rw [hdef] at hlit
    rw [← hsl] at k6
    simp only [show List.range 19 = [0, 1, 2, 3, 4, 5, 6, 7, 8, 9, 10, 11, 12, 13, 14, 15, 16, 17, 18] from rfl, List.map_cons, List.map_nil, k6] at hlit
    rw [hlit]
    clear hkeep hsz hdef hpost hsl hlit e18 k6 hinv hf hoG
    go_simp
    go_wp2
    refine bodyPost_ret (results_cell_row rfl _ _ G 64 _ (0, 0) _ rfl HF.out Try.underlying64 rfl (by rw [cH_size rZ_len (by rfl), ← HBS.out]; exact rc_size)) rfl ⟨A3, c3, by rw [← HBS.out]; rfl, HR7.out.1, HR7.out.2, BF.out⟩
end Go.Proofs.Ytfnbpmkbjbibkaa
