/- What a state's parts are that are compared whole; are two states the same? (PK=PCpuNils) -/
import Derived.Test.YtfnbpmkbjbibkaaCpuS
import Derived.Test.YtfnbpmkbjbibkaaFlatEq
namespace Go.Proofs.Ytfnbpmkbjbibkaa
open Go Go.RowKit Go.Deep Go.Great Go.Proofs.YtfnbpmkbjbibkaaW.PrintWords Go.Proofs.Ytfnbpmkbjbibkaa.PCpuNils
set_option linter.unusedVariables false
set_option linter.unusedSimpArgs false

section
variable {P : Program}
/-- Guarded operations, their guard met. -/
theorem wpListW_load_arr {ops : Array Oper} {Q : Exit → Act → World → Prop} {rest : List Oper} {op : Oper} {a : Act} {w : World} (hw : Region.wanted op (yielded ops a.tmps) = true) (ty : TypeId) (x : Operand) (ho : op.op = .load ty x)
    (b : Nat) (hx : a.eval x = .pointer (some ⟨b, 0, none⟩)) (cs : Array Value) {t : Nat} {z : Nat × Nat} (H : w.heap[b]? = some (.cells cs t z)) (d : TypeDesc)
    (hu : P.underlying ty = some d) (hd : d.isRow = true) (hi : (P.info? ty).map (·.size) = some cs.size)
    (h : wpList P ops Q rest (a.put op.dst (.agg cs)) w) : wpList P ops Q (op :: rest) a w := Go.BigFrame.wpList_want hw fun K hK => wp_load_arr ty x ho b hx cs H d hu hd hi (hK _ _ h)
theorem wpListW_build {ops : Array Oper} {Q : Exit → Act → World → Prop} {rest : List Oper} {o : Oper} {a : Act} {w : World} (hw : Region.wanted o (yielded ops a.tmps) = true) (t : TypeId) (parts : Array (Nat × Operand)) (ho : o.op = .build t parts) (cells : Array Value)
    (hc : P.built t (parts.map fun (i, x) => (i, a.eval x)).toList = some cells) (h : wpList P ops Q rest (a.put o.dst (.agg cells)) w) : wpList P ops Q (o :: rest) a w := Go.BigFrame.wpList_want hw fun K hK => wp_build_eq t parts ho cells hc (hK _ _ h)
theorem wpListW_eql_flat {ops : Array Oper} {Q : Exit → Act → World → Prop} {rest : List Oper} {o : Oper} {a : Act} {w : World} (hw : Region.wanted o (yielded ops a.tmps) = true) (t yt : TypeId) (x y : Operand) (ho : o.op = .binOp .eql t x y yt) (ks : List (Option IntKind)) (hk : kindsOf P 20 t = some ks) (ha : (match P.underlying t with | some (.struct _) | some (.array _ _) => true | _ => false) = true)
    (hm : P.eqGuardType P.depth t = false) (xs ys : List Value) (hx : a.eval x = .agg xs.toArray) (hy : a.eval y = .agg ys.toArray) (fx : Fits ks xs) (fy : Fits ks ys) (h : ∀ b, (b = true ↔ xs = ys) → wpList P ops Q rest (a.put o.dst (.bool b)) w) : wpList P ops Q (o :: rest) a w :=
  Go.BigFrame.wpList_want hw fun K hK => wp_eql_flat t yt x y ho ks hk ha hm xs ys hx hy fx fy fun b hb => hK _ _ (h b hb)
theorem wpListW_neq_flat {ops : Array Oper} {Q : Exit → Act → World → Prop} {rest : List Oper} {o : Oper} {a : Act} {w : World} (hw : Region.wanted o (yielded ops a.tmps) = true) (t yt : TypeId) (x y : Operand) (ho : o.op = .binOp .neq t x y yt) (ks : List (Option IntKind)) (hk : kindsOf P 20 t = some ks) (ha : (match P.underlying t with | some (.struct _) | some (.array _ _) => true | _ => false) = true)
    (hm : P.eqGuardType P.depth t = false) (xs ys : List Value) (hx : a.eval x = .agg xs.toArray) (hy : a.eval y = .agg ys.toArray) (fx : Fits ks xs) (fy : Fits ks ys) (h : ∀ b, (b = true ↔ xs = ys) → wpList P ops Q rest (a.put o.dst (.bool (!b))) w) : wpList P ops Q (o :: rest) a w :=
  Go.BigFrame.wpList_want hw fun K hK => wp_neq_flat t yt x y ho ks hk ha hm xs ys hx hy fx fy fun b hb => hK _ _ (h b hb)
end
def pL (over off : Bool) (came o m : Int) (s : Bool) (code : Int) : List Value := [.bool over, .bool off, .int .i64 came, .int .u64 o, .int .u64 m, .bool s, .int .u32 code]
def zP : Array Value := (cH 0 rZ fZ 0 0 (pL false false 0 0 0 false 0)).toArray
theorem zP_zero : (Try.prog.info? 102).bind (fun i => i.zero.map (·.cells)) = some zP := by kernel_rfl
theorem zP_size : zP.size = 51 := by rw [zP, cH_size rZ_len fZ_len]; rfl
theorem pl_size : (Try.prog.info? 102).map (·.size) = some 51 := by kernel_rfl
section
variable {pc : Int} {rg fl : List Value} {tk rt : Int} {L : List Value}
theorem cH_put3 (h1 : rg.length = 32) (h2 : fl.length = 9) (j : Nat) (x y z : Value) : putAt (cH pc rg fl tk rt L).toArray (44 + j) [x, y, z] = (cH pc rg fl tk rt (((L.set j x).set (j + 1) y).set (j + 2) z)).toArray := by
  rw [putAt, putAt, putAt, putAt, cH_setL h1 h2, show 44 + j + 1 = 44 + (j + 1) from rfl, cH_setL h1 h2, show 44 + (j + 1) + 1 = 44 + (j + 2) from rfl, cH_setL h1 h2]
theorem pl_built (h1 : rg.length = 32) (h2 : fl.length = 9) (over off : Bool) (came o m : Int) (s : Bool) (code : Int) : Try.prog.built 102 [(0, .int .u32 pc), (1, .agg rg.toArray), (2, .agg fl.toArray), (3, .int .u64 tk), (4, .int .u64 rt), (5, .bool over), (6, .bool off), (7, .int .i64 came), (8, .agg #[.int .u64 o, .int .u64 m, .bool s]), (9, .int .u32 code)] =
    some (cH pc rg fl tk rt (pL over off came o m s code)).toArray := by
  rw [built_struct zP_zero Try.underlying102 (places := [(0, 1), (1, 32), (33, 9), (42, 1), (43, 1), (44, 1), (45, 1), (46, 1), (47, 3), (50, 1)]) (by kernel_rfl)]
  rw [fill_put (off := 0) (size := 1) rfl rfl (by rw [zP_size]; omega)]
  rw [fill_put (off := 1) (size := 32) rfl (by simpa [Value.cells] using h1) (by simp only [putAt_size]; rw [zP_size]; omega)]
  rw [fill_put (off := 33) (size := 9) rfl (by simpa [Value.cells] using h2) (by simp only [putAt_size]; rw [zP_size]; omega)]
  rw [fill_put (off := 42) (size := 1) rfl rfl (by simp only [putAt_size]; rw [zP_size]; omega)]
  rw [fill_put (off := 43) (size := 1) rfl rfl (by simp only [putAt_size]; rw [zP_size]; omega)]
  rw [fill_put (off := 44) (size := 1) rfl rfl (by simp only [putAt_size]; rw [zP_size]; omega)]
  rw [fill_put (off := 45) (size := 1) rfl rfl (by simp only [putAt_size]; rw [zP_size]; omega)]
  rw [fill_put (off := 46) (size := 1) rfl rfl (by simp only [putAt_size]; rw [zP_size]; omega)]
  rw [fill_put (off := 47) (size := 3) rfl rfl (by simp only [putAt_size]; rw [zP_size]; omega)]
  rw [fill_put (off := 50) (size := 1) rfl rfl (by simp only [putAt_size]; rw [zP_size]; omega)]
  simp only [Instr.fill, Value.cells, putAt_one]
  rw [zP, cH_setP]
  rw [cH_putR rZ_len fZ_len rg h1]
  rw [cH_putF h1 fZ_len fl h2]
  rw [cH_setT h1 h2, cH_setI h1 h2]
  rw [show (44 : Nat) = 44 + 0 from rfl, cH_setL h1 h2, show (45 : Nat) = 44 + 1 from rfl, cH_setL h1 h2, show (46 : Nat) = 44 + 2 from rfl, cH_setL h1 h2, show (47 : Nat) = 44 + 3 from rfl, cH_put3 h1 h2, show (50 : Nat) = 44 + 6 from rfl, cH_setL h1 h2]
  rfl
theorem at_P {w : World} {B t : Nat} {z : Nat × Nat} (H : w.heap[B]? = some (.cells (cH pc rg fl tk rt L).toArray t z)) : w.cell? ⟨B, 0, none⟩ = some (.int .u32 pc) := (cell_of_row w B 0 _ _ _ H).trans rfl
theorem at_T {w : World} {B t : Nat} {z : Nat × Nat} (H : w.heap[B]? = some (.cells (cH pc rg fl tk rt L).toArray t z)) (h1 : rg.length = 32) (h2 : fl.length = 9) : w.cell? ⟨B, 42, none⟩ = some (.int .u64 tk) ∧ w.cell? ⟨B, 43, none⟩ = some (.int .u64 rt) := by
  constructor
  · rw [cell_of_row w B 42 _ _ _ H, List.getElem?_toArray]; exact cH_t h1 h2 0
  · rw [cell_of_row w B 43 _ _ _ H, List.getElem?_toArray]; exact cH_t h1 h2 1
theorem at_L {w : World} {B t : Nat} {z : Nat × Nat} (H : w.heap[B]? = some (.cells (cH pc rg fl tk rt L).toArray t z)) (h1 : rg.length = 32) (h2 : fl.length = 9) (j : Nat) {v : Value} (hv : L[j]? = some v) : w.cell? ⟨B, 44 + j, none⟩ = some v := by
  rw [cell_of_row w B _ _ _ _ H, List.getElem?_toArray, cH_L h1 h2, hv]
set_option maxRecDepth 100000 in
set_option maxHeartbeats 2000000 in
theorem cplain_calls (w : World) (h1 : rg.length = 32) (h2 : fl.length = 9) (o1 : ∀ v ∈ rg, v.oneCell' = true) (o2 : ∀ v ∈ fl, v.oneCell' = true) (ram rx ox ev : Value) (over off : Bool) (came o m : Int) (s : Bool) (code : Int) :
    Calls Try.prog 41 #[.agg (cH pc rg fl tk rt (sL ram rx ox over came o m s off code ev)).toArray] w fun e w' => e = .returned (.agg (cH pc rg fl tk rt (pL over off came o m s code)).toArray) ∧ Below w.heap.size w w' := by
  have H1 := Aside0.mk h1
  have H2 := Aside0.mk h2
  have O1 := Aside0.mk o1
  have O2 := Aside0.mk o2
  clear h1 h2 o1 o2
  obtain ⟨B, hB⟩ : ∃ B, w.heap.size = B := ⟨_, rfl⟩
  have HBS := Aside0.mk hB
  go_enter Try.func41, Try.ntmps41
  go_upto_region 1 with (first
    | (refine wpList_alloc_z rfl 102 rfl zP zP_zero ?_; intro w2 hb2 hB2; have HB2 := Aside0.mk hb2; have BB2 := Aside0.mk hB2; clear hb2 hB2))
  have HX2 := Aside0.mk (blk_below (by have := blk_new w (.cells (cH pc rg fl tk rt (sL ram rx ox over came o m s off code ev)).toArray 43); rw [hB] at this; exact this) BB2.out)
  have BW2 : Aside0 (Below w.heap.size w w2) := ⟨below_on (below_alloc (Below.refl w.heap.size w) _) BB2.out⟩
  have HGS : Aside0 (w.heap.size ≤ (w.alloc (.cells (cH pc rg fl tk rt (sL ram rx ox over came o m s off code ev)).toArray 43)).heap.size) := ⟨by simp⟩
  clear hB BB2
  generalize (w.alloc (.cells (cH pc rg fl tk rt (sL ram rx ox over came o m s off code ev)).toArray 43)).heap.size = G at HB2 HGS ⊢
  have c0 := at_P HX2.out
  have c42 := (at_T HX2.out H1.out H2.out).1
  have c43 := (at_T HX2.out H1.out H2.out).2
  have c47 : w2.cell? ⟨B, 47, none⟩ = some (.bool over) := at_L HX2.out H1.out H2.out 3 rfl
  have c48 : w2.cell? ⟨B, 48, none⟩ = some (.int .i64 came) := at_L HX2.out H1.out H2.out 4 rfl
  have c52 : w2.cell? ⟨B, 52, none⟩ = some (.bool off) := at_L HX2.out H1.out H2.out 8 rfl
  have c53 : w2.cell? ⟨B, 53, none⟩ = some (.int .u32 code) := at_L HX2.out H1.out H2.out 9 rfl
  go_simp
  go_wp2_with (first
    | ((with_reducible refine gate_dst (N := 6) rfl ?_); refine wpList_load_mid rfl 25 (.tmp 5) rfl B 1 rfl rg _ (range_in HX2.out 1 rg (cH_r H1.out H2.out)) Try.underlying25 rfl (by rw [H1.out]; kernel_rfl) ?_)
    | ((with_reducible refine gate_dst (N := 8) rfl ?_); refine wpList_load_mid rfl 39 (.tmp 7) rfl B 33 rfl fl _ (range_in HX2.out 33 fl (cH_f H1.out H2.out)) Try.underlying39 rfl (by rw [H2.out]; kernel_rfl) ?_)
    | ((with_reducible refine gate_dst (N := 20) rfl ?_); refine wpList_load_mid rfl 41 (.tmp 19) rfl B 49 rfl [.int .u64 o, .int .u64 m, .bool s] _ (range_in HX2.out 49 _ (fun j v hv => by rw [show 49 + j = 44 + (5 + j) by omega, cH_L H1.out H2.out]; rcases j with _ | _ | _ | j <;> simp_all [sL])) Try.underlying41 rfl (by kernel_rfl) ?_)
    | ((with_reducible refine gate_dst (N := 23) rfl ?_); refine wpList_buildTo rfl 102 #[(0, Operand.tmp 4), (1, Operand.tmp 6), (2, Operand.tmp 8), (3, Operand.tmp 10), (4, Operand.tmp 12), (5, Operand.tmp 14), (6, Operand.tmp 16), (7, Operand.tmp 18), (8, Operand.tmp 20), (9, Operand.tmp 22)] rfl (some 23) rfl (cH pc rg fl tk rt (pL over off came o m s code)).toArray (by simp only [List.map_toArray, List.map_cons, List.map_nil]; exact pl_built (pc := pc) (tk := tk) (rt := rt) H1.out H2.out over off came o m s code) ?_)
    | ((with_reducible refine gate_store (t := 102) (p := 2) (v := .tmp 23) rfl ?_); refine wpList_store_arr rfl 102 (.tmp 2) (.tmp 23) rfl G rfl (cH pc rg fl tk rt (pL over off came o m s code)).toArray rfl zP 102 HB2.out (by rw [zP_size, cH_size H1.out H2.out]; rfl) (by rw [cH_size H1.out H2.out]; exact pl_size) (cH_one O1.out O2.out (by simp [pL, Value.oneCell'])) ?_; intro w3 hf ho; have HF3 := Aside0.mk hf; have HO3 := Aside0.mk ho; clear hf ho))
  refine bodyPost_ret (results_cell_row rfl _ _ G 102 (cH pc rg fl tk rt (pL over off came o m s code)).toArray (0, 0) _ rfl HF3.out Try.underlying102 rfl (by rw [cH_size H1.out H2.out]; exact pl_size)) rfl ⟨rfl, HO3.out.below HGS.out BW2.out⟩
end
end Go.Proofs.Ytfnbpmkbjbibkaa
